/-
  Contracts of functions that the law reaches, and plain lemmas: several texts in one.
  Conditions: none.
-/
import Derived.Test.YtgfmlifkhpjplaaGreatDoorBundA
import Derived.Lib.ItoaNum
import Derived.Test.YtgfmlifkhpjplaaGreatDoorAbsN
import Derived.MakeChecks
import Derived.LaidMore
import Derived.Shelf.LaysM
import Derived.Shelf.Strconv.Itoa3
import Derived.Shelf.LaysC
import Derived.Shelf.Strconv.AtoiAll
import Derived.LaidLaws
import Derived.Lib.AtoiAllCases
open Go Go.AM Go.Proofs
attribute [local go_sem] kw ew sw tw a_ b_ c_ A.ok A.val d_ e_ f_ g_ h_ i_ j_ k_ l_ m_ unA unD n_ AOp.total o_ p_ q_ r_ s_ t_ u_ v_ A.thaw C.thaw A.fits As.fits C.fits evs oks w_ A.pure C.pure A.re C.re x_ y_ cut A.cells C.rows? z_ A_ B_ C_ a0_ b0_ D_ Ob.re Cs.fits E_ F_ G_ H_ I_ J_ K_ L_ M_ N_ O_ C.toD P_ Q_ R_ S_ T_ Obs.fits U_ eqD V_ W_ X_ Y_ Z_
/-
  A text that is read is read in brackets, too: the plain law.
  Conditions: none.
-/
open Go Go.AM Go.Proofs
namespace Go.Proofs.YtgfmlifkhpjplaaGreatDoor
set_option linter.unusedVariables false
set_option linter.unusedSimpArgs false
set_option maxRecDepth 100000
def Job.sh (p : Nat) : Job → Job
  | .read i d l => .read (p + i) d l
  | .ops t i d l => .ops t (p + i) d l
  | .terms i d e o => .terms (p + i) d e o
  | .prime i d => .prime (p + i) d
section
variable {s pre post : List UInt8} {c : UInt8} (hc : c = 41 ∨ c = 93)
theorem sh_get {i : Nat} (h : i < s.length) : (pre ++ (s ++ c :: post))[pre.length + i]? = s[i]? := by
  rw [List.getElem?_append_right (by omega), Nat.add_sub_cancel_left, List.getElem?_append_left h]
theorem sh_end : (pre ++ (s ++ c :: post))[pre.length + s.length]? = some c := by
  rw [List.getElem?_append_right (by omega), Nat.add_sub_cancel_left, List.getElem?_append_right (Nat.le_refl _), Nat.sub_self]; rfl
theorem sh_drop {i : Nat} (h : i ≤ s.length) : (pre ++ (s ++ c :: post)).drop (pre.length + i) = s.drop i ++ c :: post := by
  rw [← List.drop_drop, List.drop_left, List.drop_append_of_le_length h]
theorem sgn_sh {i : Nat} (h : i < s.length) (d : UInt8) : sgn (pre ++ (s ++ c :: post)) (pre.length + i) d = sgn s i d := by
  unfold sgn; rw [sh_get h]
theorem sgn_sh_true {i : Nat} {d : UInt8} (h : sgn s i d = true) : sgn (pre ++ (s ++ c :: post)) (pre.length + i) d = true := by rw [sgn_sh (sgn_lt h)]; exact h
include hc
theorem sgn_sh_le {i : Nat} (h : i ≤ s.length) (d : UInt8) (hd : d ≠ 41 ∧ d ≠ 93) : sgn (pre ++ (s ++ c :: post)) (pre.length + i) d = sgn s i d := by
  rcases Nat.lt_or_eq_of_le h with h | rfl
  · exact sgn_sh h d
  · have h1 : sgn s s.length d = false := sgn_end (by simp)
    have h2 : sgn (pre ++ (s ++ c :: post)) (pre.length + s.length) d = false := by
      unfold sgn; rw [sh_end]
      have : c ≠ d := by rcases hc with rfl | rfl; exact fun e => hd.1 e.symm; exact fun e => hd.2 e.symm
      simpa using this
    rw [h1, h2]
theorem dig_sh {i : Nat} (h : i ≤ s.length) : digAt (pre ++ (s ++ c :: post)) (pre.length + i) = digAt s i := by
  rcases Nat.lt_or_eq_of_le h with h | rfl
  · unfold digAt; rw [sh_get h]
  · have h1 : digAt s s.length = false := dig_end (by simp)
    have h2 : digAt (pre ++ (s ++ c :: post)) (pre.length + s.length) = false := by
      unfold digAt; rw [sh_end]; rcases hc with rfl | rfl <;> decide
    rw [h1, h2]
theorem sma_sh {i : Nat} (h : i ≤ s.length) : smaAt (pre ++ (s ++ c :: post)) (pre.length + i) = smaAt s i := by
  rcases Nat.lt_or_eq_of_le h with h | rfl
  · unfold smaAt; rw [sh_get h]
  · have h1 : smaAt s s.length = false := sma_end (by simp)
    have h2 : smaAt (pre ++ (s ++ c :: post)) (pre.length + s.length) = false := by
      unfold smaAt; rw [sh_end]; rcases hc with rfl | rfl <;> decide
    rw [h1, h2]
omit hc in
theorem run_sh {p : List UInt8 → Nat → Bool} (hp : ∀ i, i ≤ s.length → p (pre ++ (s ++ c :: post)) (pre.length + i) = p s i) (hlt : ∀ i, p s i = true → i < s.length) : ∀ (n i : Nat), i ≤ s.length → runE p (pre ++ (s ++ c :: post)) n (pre.length + i) = pre.length + runE p s n i
  | 0, i, _ => rfl
  | n + 1, i, h => by
    unfold runE
    rw [hp i h]
    split
    · rename_i hq
      have := hlt i hq
      rw [show pre.length + i + 1 = pre.length + (i + 1) by omega]
      exact run_sh hp hlt n (i + 1) (by omega)
    · rfl
omit hc in
theorem cut_sh {i j : Nat} (hij : i ≤ j) (hj : j ≤ s.length) : cutS (pre ++ (s ++ c :: post)) (pre.length + i) (pre.length + j) = cutS s i j := by
  rw [cutS, cutS, List.drop_take, List.drop_take, sh_drop (by omega), show pre.length + j - (pre.length + i) = j - i by omega, List.take_append_of_le_length (by simp; omega)]
omit hc in
/-- a run that is long enough is a run -/
theorem run_more {p : List UInt8 → Nat → Bool} {s : List UInt8} (hlt : ∀ i, p s i = true → i < s.length) : ∀ (n i m : Nat), s.length ≤ n + i → n ≤ m → runE p s m i = runE p s n i
  | 0, i, m, h, _ => by
    cases m with
    | zero => rfl
    | succ m =>
      have : p s i = false := by
        cases hq : p s i with
        | false => rfl
        | true => have := hlt i hq; omega
      unfold runE
      simp [this]
  | n + 1, i, m, h, hm => by
    obtain ⟨m, rfl⟩ : ∃ k, m = k + 1 := ⟨m - 1, by omega⟩
    rw [runE, runE]
    split
    · exact run_more hlt n (i + 1) m (by omega) (by omega)
    · rfl
theorem numR_sh {i : Nat} (hi : i ≤ s.length) : numR (pre ++ (s ++ c :: post)) (pre.length + i) = (numR s i).map fun x => (x.1, pre.length + x.2) := by
  have h45 : sgn (pre ++ (s ++ c :: post)) (pre.length + i) 45 = sgn s i 45 := sgn_sh_le hc hi 45 (by decide)
  have key : ∀ a, a ≤ s.length → runE digAt (pre ++ (s ++ c :: post)) 4 (pre.length + a) = pre.length + runE digAt s 4 a ∧ cutS (pre ++ (s ++ c :: post)) (pre.length + a) (pre.length + runE digAt s 4 a) = cutS s a (runE digAt s 4 a) := fun a ha => by
    have h1 := run_sh (p := digAt) (fun i h => dig_sh hc h) (fun i h => dig_lt i h) 4 a ha (pre := pre) (post := post)
    obtain ⟨q1, _, q3⟩ := runE_le (dig_lt (s := s)) 4 a
    exact ⟨h1, cut_sh q1 (q3 ha)⟩
  unfold numR
  rw [h45]
  cases hs : sgn s i 45 with
  | true =>
    have hlt := sgn_lt hs
    obtain ⟨k1, k2⟩ := key (i + 1) (by omega)
    rw [← Nat.add_assoc] at k1 k2
    simp only [if_true, k1, k2]
    split
    · split <;> rfl
    · rfl
  | false =>
    obtain ⟨k1, k2⟩ := key i hi
    simp only [Bool.false_eq_true, if_false, k1, k2]
    split
    · split <;> rfl
    · rfl
omit hc in
theorem sign_tail : ∀ x ∈ signs, ((41 : UInt8) ∈ x → False) ∧ ((93 : UInt8) ∈ x → x = [91, 93]) := by decide
/-- signs at a place of the longer text -/
theorem sign_sh {i : Nat} {x : List UInt8} (hx : x ∈ signs) (h : x <+: s.drop i ++ c :: post) : x <+: s.drop i ∨ (x = [91, 93] ∧ s.drop i = [91]) := by
  obtain ⟨y, hy⟩ := h
  rcases Nat.lt_or_ge (s.drop i).length x.length with hl | hl
  · right
    have h1 : x.take (s.drop i).length = s.drop i := by
      have := congrArg (List.take (s.drop i).length) hy
      rw [List.take_append_of_le_length (by omega), List.take_left] at this
      exact this
    have h2 : x[(s.drop i).length]? = some c := by
      have : (x ++ y)[(s.drop i).length]? = (s.drop i ++ c :: post)[(s.drop i).length]? := by rw [hy]
      rw [List.getElem?_append_left hl, List.getElem?_append_right (Nat.le_refl _), Nat.sub_self] at this
      exact this
    have hm : c ∈ x := List.mem_of_getElem? h2
    obtain ⟨t1, t2⟩ := sign_tail x hx
    rcases hc with rfl | rfl
    · exact (t1 hm).elim
    · have hxe := t2 hm
      subst hxe
      refine ⟨rfl, ?_⟩
      have hlen : (s.drop i).length = 1 := by
        have hl2 : (s.drop i).length < 2 := hl
        rcases Nat.lt_or_ge (s.drop i).length 1 with h0 | h0
        · have h00 : (s.drop i).length = 0 := by omega
          rw [h00] at h2
          simp at h2
        · omega
      rw [hlen] at h1
      exact h1.symm
  · exact .inl ⟨(s.drop i).drop x.length, by
      have := congrArg (List.take x.length) hy
      rw [List.take_left, List.take_append_of_le_length hl] at this
      conv => rhs; rw [← List.take_append_drop x.length (s.drop i), ← this]⟩
theorem nameR_sh {i j : Nat} {n : List UInt8} (hi : i ≤ s.length) (h : nameR s i = some (n, j)) : nameR (pre ++ (s ++ c :: post)) (pre.length + i) = some (n, pre.length + j) := by
  have hrun : runE smaAt (pre ++ (s ++ c :: post)) (pre ++ (s ++ c :: post)).length (pre.length + i) = pre.length + runE smaAt s s.length i := by
    rw [run_sh (p := smaAt) (fun i h => sma_sh hc h) (fun i h => sma_lt i h) _ i hi, run_more (p := smaAt) (fun i h => sma_lt i h) s.length i _ (by omega) (by simp; omega)]
  obtain ⟨q1, _, q3⟩ := runE_le (sma_lt (s := s)) s.length i
  unfold nameR at h ⊢
  rw [hrun]
  by_cases h1 : i + 6 < runE smaAt s s.length i
  · rw [if_pos h1] at h; cases h
  · rw [if_neg h1] at h
    rw [if_neg (by omega)]
    by_cases h2 : i < runE smaAt s s.length i
    · rw [if_pos h2] at h
      rw [if_pos (by omega), cut_sh q1 (q3 hi)]
      cases h; rfl
    · rw [if_neg h2] at h
      rw [if_neg (by omega)]
      by_cases h3 : bestS s i signs [] = []
      · rw [if_pos h3] at h; cases h
      · rw [if_neg h3] at h
        cases h
        obtain ⟨b1, _, b3, b4⟩ := best_max (s := s) hi signs [] ⟨s.drop i, by simp⟩
        have hmem : bestS s i signs [] ∈ signs := by rcases b4 with b4 | b4; exact absurd b4 h3; exact b4
        have hi' : pre.length + i ≤ (pre ++ (s ++ c :: post)).length := by simp; omega
        obtain ⟨d1, _, d3, d4⟩ := best_max (s := pre ++ (s ++ c :: post)) hi' signs [] ⟨_, by simp; rfl⟩
        rw [sh_drop hi] at d1 d3
        generalize bestS s i signs [] = x at h3 b1 b3 hmem
        have hxp : x <+: s.drop i ++ c :: post := b1.trans (List.prefix_append _ _)
        have hle := d3 x hmem hxp
        have hmem2 : bestS (pre ++ (s ++ c :: post)) (pre.length + i) signs [] ∈ signs := by
          rcases d4 with d4 | d4
          · rw [d4] at hle; simp only [List.length_nil] at hle
            exact absurd (List.length_eq_zero_iff.1 (by omega)) h3
          · exact d4
        generalize bestS (pre ++ (s ++ c :: post)) (pre.length + i) signs [] = z at d1 d3 hle hmem2
        have hzx : z = x := by
          rcases sign_sh hc hmem2 d1 with hz | ⟨rfl, hz⟩
          · have := b3 z hmem2 hz
            obtain ⟨y1, hy1⟩ := hz
            obtain ⟨y2, hy2⟩ := b1
            have e1 : (s.drop i).take x.length = x := by rw [← hy2, List.take_left]
            have e2 : (s.drop i).take z.length = z := by rw [← hy1, List.take_left]
            rw [← e1, ← e2, show z.length = x.length by omega]
          · exfalso
            rw [hz] at b1
            have : ∀ x ∈ signs, ¬ x <+: ([91] : List UInt8) := by decide
            exact this x hmem b1
        rw [hzx, if_neg h3]
        congr 2; omega
theorem nameR_sh_none {i : Nat} (hi : i ≤ s.length) (h : nameR s i = none) : nameR (pre ++ (s ++ c :: post)) (pre.length + i) = none ∨ ∃ j, nameR (pre ++ (s ++ c :: post)) (pre.length + i) = some ([91, 93], j) := by
  have hrun : runE smaAt (pre ++ (s ++ c :: post)) (pre ++ (s ++ c :: post)).length (pre.length + i) = pre.length + runE smaAt s s.length i := by
    rw [run_sh (p := smaAt) (fun i h => sma_sh hc h) (fun i h => sma_lt i h) _ i hi, run_more (p := smaAt) (fun i h => sma_lt i h) s.length i _ (by omega) (by simp; omega)]
  unfold nameR at h ⊢
  rw [hrun]
  by_cases h1 : i + 6 < runE smaAt s s.length i
  · rw [if_pos (by omega)]; exact .inl rfl
  · rw [if_neg h1] at h
    rw [if_neg (by omega)]
    by_cases h2 : i < runE smaAt s s.length i
    · rw [if_pos h2] at h; cases h
    · rw [if_neg h2] at h
      rw [if_neg (by omega)]
      by_cases h3 : bestS s i signs [] = []
      · obtain ⟨b1, _, b3, b4⟩ := best_max (s := s) hi signs [] ⟨s.drop i, by simp⟩
        have hi' : pre.length + i ≤ (pre ++ (s ++ c :: post)).length := by simp; omega
        obtain ⟨d1, _, d3, d4⟩ := best_max (s := pre ++ (s ++ c :: post)) hi' signs [] ⟨_, by simp; rfl⟩
        rw [sh_drop hi] at d1
        generalize bestS (pre ++ (s ++ c :: post)) (pre.length + i) signs [] = z at d1 d4
        by_cases hz0 : z = []
        · rw [if_pos hz0]; exact .inl rfl
        · rw [if_neg hz0]
          rcases d4 with d4 | d4
          · exact absurd d4 hz0
          · rcases sign_sh hc d4 d1 with hz | ⟨rfl, _⟩
            · have := b3 z d4 hz
              rw [h3] at this
              simp only [List.length_nil] at this
              exact absurd (List.length_eq_zero_iff.1 (by omega)) hz0
            · exact .inr ⟨_, rfl⟩
      · rw [if_neg h3] at h; cases h
theorem opR_sh {i : Nat} (hi : i ≤ s.length) : opR (pre ++ (s ++ c :: post)) (pre.length + i) = (opR s i).map fun x => (x.1, pre.length + x.2) := by
  have h32 : sgn (pre ++ (s ++ c :: post)) (pre.length + i) 32 = sgn s i 32 := sgn_sh_le hc hi 32 (by decide)
  unfold opR
  rw [h32]
  have hp : (if sgn s i 32 = true then pre.length + i + 1 else pre.length + i) = pre.length + (if sgn s i 32 = true then i + 1 else i) := by split <;> omega
  rw [hp]
  have hpl : (if sgn s i 32 = true then i + 1 else i) ≤ s.length := by
    split
    · rename_i h; have := sgn_lt h; omega
    · exact hi
  generalize (if sgn s i 32 = true then i + 1 else i) = p at hpl
  have hlen : (pre ++ (s ++ c :: post)).length = pre.length + (s.length + (post.length + 1)) := by simp
  rw [if_neg (show ¬ (pre ++ (s ++ c :: post)).length ≤ pre.length + p by omega)]
  by_cases hend : s.length ≤ p
  · rw [if_pos hend]
    have hpe : p = s.length := by omega
    subst hpe
    have hn : nameR s s.length = none := nameR_none (Nat.le_refl _) (fun c r' e => by simp at e) (fun x hx hxp => by
      rw [List.drop_length] at hxp
      have : ∀ x ∈ signs, x ≠ [] := by decide
      exact this x hx (List.prefix_nil.1 hxp))
    rcases nameR_sh_none hc hpl hn (pre := pre) (post := post) with h | ⟨j, h⟩
    · rw [h]; rfl
    · rw [h]; rfl
  · rw [if_neg hend]
    cases hn : nameR s p with
    | none =>
      rcases nameR_sh_none hc hpl hn (pre := pre) (post := post) with h | ⟨j, h⟩
      · rw [h]; rfl
      · rw [h]; rfl
    | some q =>
      obtain ⟨n, j⟩ := q
      have hj := nameR_ok hpl hn
      rw [nameR_sh hc hpl hn]
      simp only
      rw [sgn_sh_le hc hj.2.1 32 (by decide)]
      split
      · rfl
      · split
        · rfl
        · split <;> simp <;> omega
theorem step_sh (hs : s.length ≤ 1000000) {f : Nat} (ih : ∀ (j : Job) (ts : List Tm) (k : Nat), rd s f j = some (.ok ts k) → j.pre s → rd (pre ++ (s ++ c :: post)) f (j.sh pre.length) = some (.ok ts (pre.length + k))) (j : Job) (ts : List Tm) (k : Nat) (h : step s (rd s f) j = some (.ok ts k)) (hj : j.pre s) :
    step (pre ++ (s ++ c :: post)) (rd (pre ++ (s ++ c :: post)) f) (j.sh pre.length) = some (.ok ts (pre.length + k)) := by
  cases j with
  | read i d l =>
    obtain ⟨hi, hl⟩ := hj
    cases l with
    | zero => exact ih (.prime i d) ts k h hi
    | succ l =>
      simp only [step] at h
      cases hx : rd s f (.read i d l) with
      | none => rw [hx] at h; cases h
      | some v =>
        rw [hx] at h
        cases v with
        | bad e => cases h
        | ok us m =>
          simp only at h
          have p1 := rd_post hs (j := .read i d l) ⟨hi, by omega⟩ hx
          obtain ⟨g1, g2, t, rfl, g3⟩ := p1
          have h1 := ih (.read i d l) _ _ hx ⟨hi, by omega⟩
          have h2 := ih (.ops t m d (l + 1)) _ _ h ⟨g2, g3, by omega⟩
          simp only [Job.sh, step] at h1 h2 ⊢
          rw [h1]
          exact h2
  | ops t i d l =>
    obtain ⟨hi, ht, hl⟩ := hj
    simp only [step, Job.sh] at h ⊢
    rw [opR_sh hc hi]
    cases ho : opR s i with
    | none => rw [ho] at h; cases h; rfl
    | some q =>
      obtain ⟨n, m⟩ := q
      rw [ho] at h
      obtain ⟨o1, o2, o3⟩ := opR_ok hi ho
      simp only [Option.map_some] at h ⊢
      by_cases hlv : levelN n = l
      · rw [if_pos hlv] at h ⊢
        cases hx : rd s f (.read m d (l - 1)) with
        | none => rw [hx] at h; cases h
        | some v =>
          rw [hx] at h
          cases v with
          | bad e => cases h
          | ok us k2 =>
            simp only at h
            have p1 := rd_post hs (j := .read m d (l - 1)) ⟨o2, by omega⟩ hx
            obtain ⟨g1, g2, u, rfl, g3⟩ := p1
            have h1 := ih (.read m d (l - 1)) _ _ hx ⟨o2, by omega⟩
            simp only [Job.sh] at h1
            rw [h1]
            simp only
            by_cases h3 : l = 3
            · rw [if_pos h3] at h ⊢; cases h; rfl
            · rw [if_neg h3] at h ⊢
              exact ih (.ops (.mk 3 0 n [t, Rs.tm [u]]) k2 d l) _ _ h ⟨g2, fits_st o3 (by simp) (by simp [Rs.tm, ht, g3]), hl⟩
      · rw [if_neg hlv] at h ⊢; cases h; rfl
  | terms i d e o =>
    have hi : i ≤ s.length := hj
    simp only [step, Job.sh] at h ⊢
    cases hx : rd s f (.read i d 3) with
    | none => rw [hx] at h; cases h
    | some v =>
      rw [hx] at h
      cases v with
      | bad e => cases h
      | ok us m =>
        simp only at h
        have p1 := rd_post hs (j := .read i d 3) ⟨hi, by omega⟩ hx
        obtain ⟨g1, g2, u, rfl, g3⟩ := p1
        have h1 := ih (.read i d 3) _ _ hx ⟨hi, by omega⟩
        simp only [Job.sh] at h1
        rw [h1]
        simp only
        by_cases he : (sgn s m e || sgn s m o) = true
        · have hm : m < s.length := by
            rcases (Bool.or_eq_true _ _).mp he with he | he <;> exact sgn_lt he
          rw [if_pos he] at h
          rw [sgn_sh hm, sgn_sh hm, if_pos he]
          cases h; rfl
        · rw [if_neg he] at h
          by_cases h44 : sgn s m 44 = true
          · have hm := sgn_lt h44
            rw [if_pos h44] at h
            rw [sgn_sh hm, sgn_sh hm, sgn_sh hm, if_neg he, if_pos h44]
            cases hy : rd s f (.terms (m + 1) d e o) with
            | none => rw [hy] at h; cases h
            | some w =>
              rw [hy] at h
              cases w with
              | bad e => cases h
              | ok vs k2 =>
                have h2 := ih (.terms (m + 1) d e o) _ _ hy (show m + 1 ≤ s.length by omega)
                simp only [Job.sh] at h2
                rw [← Nat.add_assoc] at h2
                rw [h2]
                cases h; rfl
          · rw [if_neg h44] at h; cases h
  | prime i d =>
    have hi : i ≤ s.length := hj
    simp only [step, Job.sh] at h ⊢
    cases hb : s[i]? with
    | none => rw [hb] at h; cases h
    | some b =>
      have hlt := (List.getElem?_eq_some_iff.1 hb).1
      rw [hb] at h
      rw [sh_get hlt, hb]
      simp only at h ⊢
      by_cases h1 : d < 1
      · rw [if_pos h1] at h; cases h
      · rw [if_neg h1] at h ⊢
        by_cases h2 : b = 40
        · rw [if_pos h2] at h ⊢
          cases hx : rd s f (.read (i + 1) d 3) with
          | none => rw [hx] at h; cases h
          | some v =>
            rw [hx] at h
            cases v with
            | bad e => cases h
            | ok us m =>
              simp only at h
              have g1 := ih (.read (i + 1) d 3) _ _ hx ⟨by omega, by omega⟩
              simp only [Job.sh] at g1
              rw [← Nat.add_assoc] at g1
              rw [g1]
              simp only
              by_cases h3 : sgn s m 41 = true
              · rw [if_pos h3] at h
                rw [sgn_sh_true h3]
                cases h; rfl
              · rw [if_neg h3] at h; cases h
        · rw [if_neg h2] at h ⊢
          by_cases h3 : b = 91 ∧ sgn s (i + 1) 93 = false
          · rw [if_pos h3] at h
            cases hx : rd s f (.terms (i + 1) (d - 1) 93 124) with
            | none => rw [hx] at h; cases h
            | some v =>
              rw [hx] at h
              cases v with
              | bad e => cases h
              | ok us m =>
                simp only at h
                have p1 := rd_post hs (j := .terms (i + 1) (d - 1) 93 124) (show i + 1 ≤ s.length by omega) hx
                obtain ⟨q1, q2, q3, q4, q5⟩ := p1
                have g1 := ih (.terms (i + 1) (d - 1) 93 124) _ _ hx (show i + 1 ≤ s.length by omega)
                simp only [Job.sh] at g1
                rw [← Nat.add_assoc] at g1
                have hm : m < s.length := by
                  rcases (Bool.or_eq_true _ _).mp q5 with he | he <;> exact sgn_lt he
                have hsg : sgn (pre ++ (s ++ c :: post)) (pre.length + i + 1) 93 = false := by
                  rw [Nat.add_assoc, sgn_sh (by omega)]; exact h3.2
                rw [if_pos ⟨h3.1, hsg⟩, g1]
                simp only
                rw [sgn_sh hm]
                by_cases h4 : sgn s m 93 = true
                · rw [if_pos h4] at h ⊢
                  cases h; rfl
                · rw [if_neg h4] at h ⊢
                  cases hy : rd s f (.read (m + 1) (d - 1) 3) with
                  | none => rw [hy] at h; cases h
                  | some w =>
                    rw [hy] at h
                    cases w with
                    | bad e => cases h
                    | ok vs k2 =>
                      simp only at h
                      have g2 := ih (.read (m + 1) (d - 1) 3) _ _ hy ⟨by omega, by omega⟩
                      simp only [Job.sh] at g2
                      rw [← Nat.add_assoc] at g2
                      rw [g2]
                      simp only
                      by_cases h5 : sgn s k2 93 = true
                      · rw [if_pos h5] at h
                        rw [sgn_sh_true h5]
                        cases h; rfl
                      · rw [if_neg h5] at h; cases h
          · rw [if_neg h3] at h
            have h3' : ¬ (b = 91 ∧ sgn (pre ++ (s ++ c :: post)) (pre.length + i + 1) 93 = false) := fun hh => by
              apply h3
              refine ⟨hh.1, ?_⟩
              cases hq : sgn s (i + 1) 93 with
              | false => rfl
              | true =>
                have := sgn_sh_true (pre := pre) (post := post) (c := c) hq
                rw [← Nat.add_assoc, hh.2] at this
                cases this
            rw [if_neg h3']
            by_cases h4 : bigB b = true
            · rw [if_pos h4] at h ⊢; cases h; rfl
            · rw [if_neg h4] at h ⊢
              have hdg := dig_sh hc (i := i + 1) (s := s) (pre := pre) (post := post) (by omega)
              rw [← Nat.add_assoc] at hdg
              rw [hdg]
              by_cases h5 : (digB b || b == 45 && digAt s (i + 1)) = true
              · rw [if_pos h5] at h ⊢
                rw [numR_sh hc hi]
                cases hn : numR s i with
                | none => rw [hn] at h; cases h
                | some q => rw [hn] at h; cases h; rfl
              · rw [if_neg h5] at h ⊢
                cases hn : nameR s i with
                | none => rw [hn] at h; cases h
                | some q =>
                  obtain ⟨n, m⟩ := q
                  have hok := nameR_ok hi hn
                  rw [hn] at h
                  rw [nameR_sh hc hi hn]
                  simp only at h ⊢
                  rw [sgn_sh_le hc hok.2.1 40 (by decide)]
                  by_cases h6 : sgn s m 40 = true
                  · rw [if_pos h6] at h ⊢
                    have hm := sgn_lt h6
                    cases hx : rd s f (.terms (m + 1) (d - 1) 41 41) with
                    | none => rw [hx] at h; cases h
                    | some v =>
                      rw [hx] at h
                      cases v with
                      | bad e => cases h
                      | ok us k2 =>
                        have g1 := ih (.terms (m + 1) (d - 1) 41 41) _ _ hx (show m + 1 ≤ s.length by omega)
                        simp only [Job.sh] at g1
                        rw [← Nat.add_assoc] at g1
                        rw [g1]
                        cases h; rfl
                  · rw [if_neg h6] at h ⊢; cases h; rfl
/-- what is read in a text is read in brackets -/
theorem rd_shift (hs : s.length ≤ 1000000) : ∀ (f : Nat) (j : Job) (ts : List Tm) (k : Nat), rd s f j = some (.ok ts k) → j.pre s → rd (pre ++ (s ++ c :: post)) f (j.sh pre.length) = some (.ok ts (pre.length + k))
  | 0, j, ts, k, h, _ => by cases h
  | f + 1, j, ts, k, h, hj => step_sh hc hs (rd_shift hs f) j ts k h hj
end
end Go.Proofs.YtgfmlifkhpjplaaGreatDoor

/-
  What is written is read back: the plain law.
  Conditions: none.
-/
open Go Go.AM Go.Proofs
namespace Go.Proofs.YtgfmlifkhpjplaaGreatDoor
set_option linter.unusedVariables false
set_option linter.unusedSimpArgs false
set_option maxRecDepth 100000
def closers : List UInt8 := [41, 44, 93, 124]
/-- an end, or a closing byte -/
def EndOr (r : List UInt8) : Prop := r = [] ∨ ∃ c r', r = c :: r' ∧ c ∈ closers
theorem EndOr.fol {r : List UInt8} (h : EndOr r) (m : Int) : Fol m r := by
  rcases h with rfl | ⟨c, r', rfl, hc⟩
  · exact .nil
  · exact .close hc
/-- a term is read back from what is written -/
def Rdb (t : Tm) : Prop := ∀ (s : List UInt8) (i : Nat) (r : List UInt8) (D l : Nat), s.length ≤ 1000000 → i ≤ s.length → s.drop i = t.wr ++ r → t.shape D = true → Fol t.lv r → (t.atomB = true → 0 < levelN t.s → EndOr r) →
  t.lv ≤ l → l ≤ 3 → rdF s (.read i D l) = contM s D t.lv.toNat l t (i + t.wr.length)
section
variable {s : List UInt8} (hs : s.length ≤ 1000000)
include hs
/-- .. to an end -/
theorem Rdb.done {t : Tm} (h : Rdb t) {i D : Nat} {r : List UInt8} (hi : i ≤ s.length) (hd : s.drop i = t.wr ++ r) (hsh : t.shape D = true) (hf : t.fits) (he : EndOr r) (hlv : t.lv ≤ 3 ∧ 0 ≤ t.lv) : rdF s (.read i D 3) = some (.ok [t] (i + t.wr.length)) := by
  have hlen := dr_len hd hi
  rw [h s i r D 3 hs hi hd hsh (he.fol _) (fun _ _ => he) hlv.1 (Nat.le_refl _), cont_loop hs (by omega) hf (by omega) (Nat.le_refl _), opR_end (by omega) (by rw [dr_add hd]; exact he)]
theorem prime_read {i D l : Nat} {t : Tm} {j : Nat} (hi : i ≤ s.length) (hl : l ≤ 3) (h : rdF s (.prime i D) = some (.ok [t] j)) : rdF s (.read i D l) = contM s D 0 l t j := by
  rw [read_cont hs D hi l hl, h, thn_ok]
  unfold contM
  simp [Rs.tm]
/-- behind a name -/
theorem prime_name {nm : List UInt8} {i D : Nat} {r : List UInt8} (hi : i ≤ s.length) (hd : s.drop i = nm ++ r) (hD : 1 ≤ D) (hn : nameB nm = true) (hr : ∀ c r', r = c :: r' → digB c = false ∧ smaB c = false ∧ (nm ∈ signs → extB nm c = false)) :
    rdF s (.prime i D) = if sgn s (i + nm.length) 40 then thn (rdF s (.terms (i + nm.length + 1) (D - 1) 41 41)) fun ts k => some (.ok [.mk 3 0 nm ts] (k + 1)) else some (.ok [.mk 3 0 nm []] (i + nm.length)) := by
  have hna := nameR_any hi hd hn fun c r' e => (hr c r' e).2
  obtain ⟨c, y, rfl, e1, e2, e3, e4, e5⟩ := name_head hn
  have h91 : ¬ (c = 91 ∧ sgn s (i + 1) 93 = false) := by
    rintro ⟨rfl, h⟩
    have := e5 rfl
    cases this
    have hd2 : s.drop (i + 1) = 93 :: r := by
      have := dr_add (w := [91]) (r := 93 :: r) (s := s) (i := i) hd
      simpa using this
    rw [sgn_dr hd2] at h
    cases h
  have h45 : (digB c || c == 45 && digAt s (i + 1)) = false := by
    rw [e1, Bool.false_or]
    cases hc : (c == 45) with
    | false => rfl
    | true =>
      simp at hc; subst hc
      have hnm : (45 :: y) = [45] := by
        simp only [nameB, Bool.or_eq_true] at hn
        rcases hn with hn | hn
        · simp [lettersB, lowB] at hn
        · simp only [List.contains_eq_mem, decide_eq_true_eq] at hn
          have : ∀ x ∈ signs, (match x with | [] => true | c :: _ => !(c == 45) || x == [45]) = true := by decide
          have := this _ hn
          simpa using this
      cases hnm
      have hd2 : s.drop (i + 1) = r := by
        have := dr_add (w := [45]) (r := r) (s := s) (i := i) hd
        simpa using this
      cases r with
      | nil => rw [dig_end hd2]; rfl
      | cons a r' => rw [dig_dr hd2, (hr a r' rfl).1]; rfl
  rw [prime_stepF hs i D hi, at_dr (c := c) (r := y ++ r) (by simpa using hd)]
  simp only
  rw [if_neg (by omega), if_neg e4, if_neg h91, if_neg (by rw [e3]; simp), if_neg (by rw [h45]; simp), hna]
end
end Go.Proofs.YtgfmlifkhpjplaaGreatDoor

/-
  How long a numeral is.
  Conditions: none.
-/
open Go Go.AM Go.Proofs
namespace Go.Proofs.YtgfmlifkhpjplaaGreatDoor
set_option linter.unusedVariables false
set_option linter.unusedSimpArgs false
set_option maxRecDepth 100000
theorem itoa_len (n : Int) (h0 : -9223372036854775808 ≤ n) (h1 : n ≤ 9223372036854775807) : (Lib.itoa n).length ≤ 1000000 := by
  have key : ∀ k u : Nat, u < 10 ^ k → 0 < k → (Lib.decDigits u).length ≤ k := by
    intro k
    induction k with
    | zero => omega
    | succ k ih =>
      intro u hu _
      rw [Lib.decDigits]
      split
      · simp
      · rename_i hge
        have hk : 0 < k := by
          rcases Nat.eq_zero_or_pos k with e | e
          · subst e; simp at hu; omega
          · exact e
        have := ih (u / 10) (by rw [Nat.pow_succ] at hu; omega) hk
        simp
        omega
  unfold Lib.itoa
  split
  · have := key 30 n.natAbs (by omega) (by omega)
    simp
    omega
  · have := key 30 n.toNat (by omega) (by omega)
    omega
end Go.Proofs.YtgfmlifkhpjplaaGreatDoor

/-
  strconv.Itoa as a call of the abstract machine, where the table that it reads is told.
  Conditions: none.
-/
open Go Go.AM Go.Proofs
namespace Go.Proofs
open Go.Shelf
def Tryz.laysM171_ren : Go.Shelf.Ren := ⟨fun | 171 => 91 | 243 => 121 | 246 => 133 | 283 => 139 | 284 => 140 | 285 => 141 | 286 => 142 | 129 => 151 | 317 => 150 | 318 => 152 | 319 => 153 | 320 => 154 | 337 => 158 | 338 => 159 | n => n, fun | 3 => 3 | 9 => 9 | 2 => 2 | 4 => 4 | 171 => 113 | 0 => 0 | 53 => 114 | 37 => 30 | 5 => 5 | 173 => 117 | 212 => 129 | 51 => 130 | 20 => 20 | 213 => 131 | 46 => 133 | 232 => 145 | 233 => 146 | n => n, fun | 17 => 0 | 18 => 4 | 19 => 5 | n => n⟩
theorem Tryz.laysM171 : Go.Proofs.LaysM.n171 Tryz.prog Tryz.laysM171_ren := {
  mixed := by kernel_rfl
  f129 := Tryz.func151.trans (congrArg some (by kernel_rfl))
  f171 := Tryz.func91.trans (congrArg some (by kernel_rfl))
  f243 := Tryz.func121.trans (congrArg some (by kernel_rfl))
  f246 := Tryz.func133.trans (congrArg some (by kernel_rfl))
  f283 := Tryz.func139.trans (congrArg some (by kernel_rfl))
  f284 := Tryz.func140.trans (congrArg some (by kernel_rfl))
  f285 := Tryz.func141.trans (congrArg some (by kernel_rfl))
  f286 := Tryz.func142.trans (congrArg some (by kernel_rfl))
  f317 := Tryz.func150.trans (congrArg some (by kernel_rfl))
  f318 := Tryz.func152.trans (congrArg some (by kernel_rfl))
  f319 := Tryz.func153.trans (congrArg some (by kernel_rfl))
  f320 := Tryz.func154.trans (congrArg some (by kernel_rfl))
  f337 := Tryz.func158.trans (congrArg some (by kernel_rfl))
  f338 := Tryz.func159.trans (congrArg some (by kernel_rfl))
  t0 := Tryz.underlying0
  a0 := Tryz.isAgg0
  z0 := Tryz.sizeOf0
  v0 := Tryz.zeroValue0
  t2 := Tryz.underlying2
  a2 := Tryz.isAgg2
  z2 := Tryz.sizeOf2
  v2 := Tryz.zeroValue2
  t3 := Tryz.underlying3
  a3 := Tryz.isAgg3
  z3 := Tryz.sizeOf3
  v3 := Tryz.zeroValue3
  t4 := Tryz.underlying4
  a4 := Tryz.isAgg4
  z4 := Tryz.sizeOf4
  v4 := Tryz.zeroValue4
  t5 := Tryz.underlying5
  a5 := Tryz.isAgg5
  z5 := Tryz.sizeOf5
  v5 := Tryz.zeroValue5
  t9 := Tryz.underlying9
  a9 := Tryz.isAgg9
  z9 := Tryz.sizeOf9
  v9 := Tryz.zeroValue9
  t20 := Tryz.underlying20
  a20 := Tryz.isAgg20
  z20 := Tryz.sizeOf20
  v20 := Tryz.zeroValue20
  t37 := Tryz.underlying30
  a37 := Tryz.isAgg30
  z37 := Tryz.sizeOf30
  v37 := Tryz.zeroValue30
  t46 := Tryz.underlying133
  a46 := Tryz.isAgg133
  z46 := Tryz.sizeOf133
  v46 := Tryz.zeroValue133
  t51 := Tryz.underlying130
  a51 := Tryz.isAgg130
  z51 := Tryz.sizeOf130
  v51 := Tryz.zeroValue130
  t53 := Tryz.underlying114
  a53 := Tryz.isAgg114
  z53 := Tryz.sizeOf114
  v53 := Tryz.zeroValue114
  t171 := Tryz.underlying113
  a171 := Tryz.isAgg113
  z171 := Tryz.sizeOf113
  v171 := Tryz.zeroValue113
  t173 := Tryz.underlying117
  a173 := Tryz.isAgg117
  z173 := Tryz.sizeOf117
  v173 := Tryz.zeroValue117
  t212 := Tryz.underlying129
  a212 := Tryz.isAgg129
  z212 := Tryz.sizeOf129
  v212 := Tryz.zeroValue129
  t213 := Tryz.underlying131
  a213 := Tryz.isAgg131
  z213 := Tryz.sizeOf131
  t232 := Tryz.underlying145
  a232 := Tryz.isAgg145
  z232 := Tryz.sizeOf145
  v232 := Tryz.zeroValue145
  t233 := Tryz.underlying146
  a233 := Tryz.isAgg146
  z233 := Tryz.sizeOf146
  v233 := Tryz.zeroValue146
  g17 := by kernel_rfl
  g18 := by kernel_rfl
  g19 := by kernel_rfl
  i0 := by kernel_rfl
  i2 := by kernel_rfl
  i3 := by kernel_rfl
  i4 := by kernel_rfl
  i5 := by kernel_rfl
  i9 := by kernel_rfl
  i20 := by kernel_rfl
  i37 := by kernel_rfl
  i46 := by kernel_rfl
  i51 := by kernel_rfl
  i53 := by kernel_rfl
  i171 := by kernel_rfl
  i173 := by kernel_rfl
  i212 := by kernel_rfl
  i232 := by kernel_rfl
  i233 := by kernel_rfl
  m17 := by kernel_rfl
  m18 := by kernel_rfl
  m19 := by kernel_rfl }
end Go.Proofs
namespace Go.Proofs.YtgfmlifkhpjplaaGreatDoor
open Go.Lib
set_option linter.unusedVariables false
set_option linter.unusedSimpArgs false
set_option maxRecDepth 100000
/-- block g holds the table -/
def Tab (g : Nat) (o : Obj) : Prop := ∀ (w : World), w.heap[g]? = some o → ∀ n : Int, -9223372036854775808 ≤ n → n ≤ 9223372036854775807 →
  Calls Tryz.prog 91 #[.int .i64 n] w fun e w' => e = .returned (.string ⟨(Lib.itoa n).toArray⟩) ∧ ∃ k os, w' = Sort.grow (w.drewN k) os
/-- what the law's rows list -/
def laid : List (String × DataW Unit) := Rows.fnExactReadTermRow.laid
theorem itoa_call {g : Nat} {o : Obj} (hT : Tab g o) (n : Int) (hn : inR .i64 n) (H : Heap) (hH : H[0]? = some (.tab g o)) : ACalls Tryz.prog 91 [.c (.d (.int .i64 n))] H (fun r H' => H' = H ∧ r = .c (.d (.str (Lib.itoa n)))) := by
  have hb := i64_def.1 hn
  refine acalls_tab_str hH ⟨_, Tryz.func91, by kernel_rfl, by decide⟩ (by have := itoa_len n hb.1 hb.2; unfold maxStr; omega) ?_
  intro w ι k cargs hw hl ha
  obtain ⟨v, rfl⟩ : ∃ v, cargs = [v] := by
    match cargs, hl with
    | [v], _ => exact ⟨v, rfl⟩
  have h1 := ha 0 _ _ rfl rfl
  cases h1 with
  | c h => cases h with
    | d h => cases h with
      | int => exact hT w hw n hb.1 hb.2
end Go.Proofs.YtgfmlifkhpjplaaGreatDoor

/-
  strconv.Atoi as a call of the abstract machine, where the variable that it reads is told.
  Conditions: none.
-/
open Go Go.AM Go.Proofs
namespace Go.Proofs
open Go.Shelf
def Tryz.laysC172_ren : Go.Shelf.Ren := ⟨fun | 172 => 129 | 244 => 136 | 245 => 137 | 247 => 145 | 279 => 146 | 280 => 147 | 281 => 148 | 282 => 149 | 287 => 155 | 316 => 156 | 171 => 91 | 205 => 157 | 321 => 160 | 322 => 161 | 243 => 121 | 246 => 133 | 283 => 139 | 284 => 140 | 285 => 141 | 286 => 142 | 129 => 151 | 317 => 150 | 318 => 152 | 319 => 153 | 320 => 154 | 337 => 158 | 338 => 159 | n => n, fun | 9 => 9 | 3 => 3 | 75 => 105 | 76 => 106 | 4 => 4 | 5 => 5 | 167 => 122 | 37 => 30 | 0 => 0 | 85 => 123 | 2 => 2 | 168 => 125 | 53 => 114 | 175 => 135 | 46 => 133 | 210 => 138 | 127 => 110 | 145 => 144 | 143 => 142 | 21 => 21 | 171 => 113 | 173 => 117 | 212 => 129 | 51 => 130 | 20 => 20 | 213 => 131 | 232 => 145 | 233 => 146 | 80 => 87 | n => n, fun | 15 => 2 | 16 => 3 | 17 => 0 | 18 => 4 | 19 => 5 | n => n⟩
theorem Tryz.laysC172 : Go.Proofs.LaysC.n172 Tryz.prog Tryz.laysC172_ren := {
  mixed := by kernel_rfl
  f129 := Tryz.func151.trans (congrArg some (by kernel_rfl))
  f171 := Tryz.func91.trans (congrArg some (by kernel_rfl))
  f172 := Tryz.func129.trans (congrArg some (by kernel_rfl))
  f205 := Tryz.func157.trans (congrArg some (by kernel_rfl))
  f243 := Tryz.func121.trans (congrArg some (by kernel_rfl))
  f244 := Tryz.func136.trans (congrArg some (by kernel_rfl))
  f245 := Tryz.func137.trans (congrArg some (by kernel_rfl))
  f246 := Tryz.func133.trans (congrArg some (by kernel_rfl))
  f247 := Tryz.func145.trans (congrArg some (by kernel_rfl))
  f279 := Tryz.func146.trans (congrArg some (by kernel_rfl))
  f280 := Tryz.func147.trans (congrArg some (by kernel_rfl))
  f281 := Tryz.func148.trans (congrArg some (by kernel_rfl))
  f282 := Tryz.func149.trans (congrArg some (by kernel_rfl))
  f283 := Tryz.func139.trans (congrArg some (by kernel_rfl))
  f284 := Tryz.func140.trans (congrArg some (by kernel_rfl))
  f285 := Tryz.func141.trans (congrArg some (by kernel_rfl))
  f286 := Tryz.func142.trans (congrArg some (by kernel_rfl))
  f287 := Tryz.func155.trans (congrArg some (by kernel_rfl))
  f316 := Tryz.func156.trans (congrArg some (by kernel_rfl))
  f317 := Tryz.func150.trans (congrArg some (by kernel_rfl))
  f318 := Tryz.func152.trans (congrArg some (by kernel_rfl))
  f319 := Tryz.func153.trans (congrArg some (by kernel_rfl))
  f320 := Tryz.func154.trans (congrArg some (by kernel_rfl))
  f321 := Tryz.func160.trans (congrArg some (by kernel_rfl))
  f322 := Tryz.func161.trans (congrArg some (by kernel_rfl))
  f337 := Tryz.func158.trans (congrArg some (by kernel_rfl))
  f338 := Tryz.func159.trans (congrArg some (by kernel_rfl))
  t0 := Tryz.underlying0
  a0 := Tryz.isAgg0
  z0 := Tryz.sizeOf0
  v0 := Tryz.zeroValue0
  t2 := Tryz.underlying2
  a2 := Tryz.isAgg2
  z2 := Tryz.sizeOf2
  v2 := Tryz.zeroValue2
  t3 := Tryz.underlying3
  a3 := Tryz.isAgg3
  z3 := Tryz.sizeOf3
  v3 := Tryz.zeroValue3
  t4 := Tryz.underlying4
  a4 := Tryz.isAgg4
  z4 := Tryz.sizeOf4
  v4 := Tryz.zeroValue4
  t5 := Tryz.underlying5
  a5 := Tryz.isAgg5
  z5 := Tryz.sizeOf5
  v5 := Tryz.zeroValue5
  t9 := Tryz.underlying9
  a9 := Tryz.isAgg9
  z9 := Tryz.sizeOf9
  v9 := Tryz.zeroValue9
  t20 := Tryz.underlying20
  a20 := Tryz.isAgg20
  z20 := Tryz.sizeOf20
  v20 := Tryz.zeroValue20
  t21 := Tryz.underlying21
  a21 := Tryz.isAgg21
  z21 := Tryz.sizeOf21
  v21 := Tryz.zeroValue21
  t37 := Tryz.underlying30
  a37 := Tryz.isAgg30
  z37 := Tryz.sizeOf30
  v37 := Tryz.zeroValue30
  t46 := Tryz.underlying133
  a46 := Tryz.isAgg133
  z46 := Tryz.sizeOf133
  v46 := Tryz.zeroValue133
  t51 := Tryz.underlying130
  a51 := Tryz.isAgg130
  z51 := Tryz.sizeOf130
  v51 := Tryz.zeroValue130
  t53 := Tryz.underlying114
  a53 := Tryz.isAgg114
  z53 := Tryz.sizeOf114
  v53 := Tryz.zeroValue114
  t75 := Tryz.underlying105
  a75 := Tryz.isAgg105
  z75 := Tryz.sizeOf105
  v75 := Tryz.zeroValue105
  t76 := Tryz.underlying106
  a76 := Tryz.isAgg106
  z76 := Tryz.sizeOf106
  v76 := Tryz.zeroValue106
  t85 := Tryz.underlying123
  a85 := Tryz.isAgg123
  z85 := Tryz.sizeOf123
  v85 := Tryz.zeroValue123
  t127 := Tryz.underlying110
  a127 := Tryz.isAgg110
  z127 := Tryz.sizeOf110
  v127 := Tryz.zeroValue110
  t143 := Tryz.underlying142
  a143 := Tryz.isAgg142
  z143 := Tryz.sizeOf142
  v143 := Tryz.zeroValue142
  t145 := Tryz.underlying144
  a145 := Tryz.isAgg144
  z145 := Tryz.sizeOf144
  v145 := Tryz.zeroValue144
  t167 := Tryz.underlying122
  a167 := Tryz.isAgg122
  z167 := Tryz.sizeOf122
  v167 := Tryz.zeroValue122
  t168 := Tryz.underlying125
  a168 := Tryz.isAgg125
  z168 := Tryz.sizeOf125
  v168 := Tryz.zeroValue125
  t171 := Tryz.underlying113
  a171 := Tryz.isAgg113
  z171 := Tryz.sizeOf113
  v171 := Tryz.zeroValue113
  t173 := Tryz.underlying117
  a173 := Tryz.isAgg117
  z173 := Tryz.sizeOf117
  v173 := Tryz.zeroValue117
  t175 := Tryz.underlying135
  a175 := Tryz.isAgg135
  z175 := Tryz.sizeOf135
  v175 := Tryz.zeroValue135
  t210 := Tryz.underlying138
  a210 := Tryz.isAgg138
  z210 := Tryz.sizeOf138
  v210 := Tryz.zeroValue138
  t212 := Tryz.underlying129
  a212 := Tryz.isAgg129
  z212 := Tryz.sizeOf129
  v212 := Tryz.zeroValue129
  t213 := Tryz.underlying131
  a213 := Tryz.isAgg131
  z213 := Tryz.sizeOf131
  t232 := Tryz.underlying145
  a232 := Tryz.isAgg145
  z232 := Tryz.sizeOf145
  v232 := Tryz.zeroValue145
  t233 := Tryz.underlying146
  a233 := Tryz.isAgg146
  z233 := Tryz.sizeOf146
  v233 := Tryz.zeroValue146
  g15 := by kernel_rfl
  g16 := by kernel_rfl
  g17 := by kernel_rfl
  g18 := by kernel_rfl
  g19 := by kernel_rfl
  t80 := Tryz.underlying87
  a80 := Tryz.isAgg87
  z80 := Tryz.sizeOf87
  v80 := Tryz.zeroValue87
  i0 := by kernel_rfl
  i2 := by kernel_rfl
  i3 := by kernel_rfl
  i4 := by kernel_rfl
  i5 := by kernel_rfl
  i9 := by kernel_rfl
  i20 := by kernel_rfl
  i21 := by kernel_rfl
  i37 := by kernel_rfl
  i46 := by kernel_rfl
  i51 := by kernel_rfl
  i53 := by kernel_rfl
  i75 := by kernel_rfl
  i76 := by kernel_rfl
  i80 := by kernel_rfl
  i85 := by kernel_rfl
  i127 := by kernel_rfl
  i143 := by kernel_rfl
  i145 := by kernel_rfl
  i167 := by kernel_rfl
  i168 := by kernel_rfl
  i171 := by kernel_rfl
  i173 := by kernel_rfl
  i175 := by kernel_rfl
  i210 := by kernel_rfl
  i212 := by kernel_rfl
  i232 := by kernel_rfl
  i233 := by kernel_rfl
  m15 := by kernel_rfl
  m16 := by kernel_rfl
  m17 := by kernel_rfl
  m18 := by kernel_rfl
  m19 := by kernel_rfl
  c0 := by kernel_rfl
  c2 := by kernel_rfl
  c3 := by kernel_rfl
  c4 := by kernel_rfl
  c5 := by kernel_rfl
  c9 := by kernel_rfl
  c20 := by kernel_rfl
  c21 := by kernel_rfl
  c37 := by kernel_rfl
  c46 := by kernel_rfl
  c51 := by kernel_rfl
  c53 := by kernel_rfl
  c75 := by kernel_rfl
  c76 := by kernel_rfl
  c80 := by kernel_rfl
  c85 := by kernel_rfl
  c127 := by kernel_rfl
  c143 := by kernel_rfl
  c145 := by kernel_rfl
  c167 := by kernel_rfl
  c168 := by kernel_rfl
  c171 := by kernel_rfl
  c173 := by kernel_rfl
  c175 := by kernel_rfl
  c210 := by kernel_rfl
  c212 := by kernel_rfl
  c213 := by kernel_rfl
  c232 := by kernel_rfl
  c233 := by kernel_rfl }
end Go.Proofs
namespace Go.Proofs.YtgfmlifkhpjplaaGreatDoor
open Go.Lib Go.RowKit
set_option linter.unusedVariables false
set_option linter.unusedSimpArgs false
set_option maxRecDepth 100000
/-- the variable that is read when a number is too large holds an error -/
def ERg (o : Obj) : Prop := ∀ w : World, w.heap[3]? = some o → ∃ u v, w.cell? ⟨3, 0, none⟩ = some (.iface u v)
/-- what the calls of the library read -/
def Lib2 (ts : List (Nat × Obj)) : Prop := ∃ o o2, ts = [(0, o), (3, o2)] ∧ Tab 0 o ∧ ERg o2
/-- what strconv.Atoi gives -/
def AtoiR (s : List UInt8) (r : A) : Prop := ∃ n e, inR .i64 n ∧ r = .tup [.c (.d (.int .i64 n)), .c (.d (.v e))] ∧ ((e = .nilIface ∧ atoiAll s = .ok n) ∨ ∃ p q, e = .iface p q ∧ atoiAll s = .range)
/-- neither a number nor one that is too large: no -/
def endOk {α : Type} : NumEnd α → Bool
  | .ok _ => true
  | .range => true
  | _ => false
theorem atoi_call {o : Obj} (hT : ERg o) (s : List UInt8) (hs : s.length ≤ 1000000) (hsy : endOk (atoiAll s) = true) (H : Heap) (hH : H[1]? = some (.tab 3 o)) : ACalls Tryz.prog 129 [.c (.d (.str s))] H (fun r H' => H' = H ∧ AtoiR s r) := by
  refine acalls_tab_any hH ⟨_, Tryz.func129, by kernel_rfl, by decide⟩ ?_
  intro w ι k cargs hw hl ha
  obtain ⟨v, rfl⟩ : ∃ v, cargs = [v] := by
    match cargs, hl with
    | [v], _ => exact ⟨v, rfl⟩
  have h1 := ha 0 _ _ rfl rfl
  obtain ⟨t, rfl, ht⟩ : ∃ t : ByteArray, v = .string t ∧ t.data.toList = s := by
    cases h1 with
    | c h => cases h with
      | d h => cases h with
        | str t ht => exact ⟨t, rfl, rfl⟩
  have hsz : t.size = s.length := by rw [← ht]; rfl
  obtain ⟨u, v, hc⟩ := hT w hw
  rw [← ht] at hsy
  cases hr : atoiAll t.data.toList with
  | ok n =>
    obtain ⟨b0, b1⟩ := atoiAll_bounds hr
    refine (Any.strconv_Atoi_ok Tryz.laysC172 t (by omega) n hr w).mono ?_
    rintro e w' ⟨rfl, hw'⟩
    refine ⟨_, .tup [.c (.d (.int .i64 n)), .c (.d (.v .nilIface))], rfl, ⟨n, .nilIface, i64_def.2 ⟨b0, by omega⟩, rfl, .inl ⟨rfl, by rw [← ht]; exact hr⟩⟩, fun w ι m => ?_, ?_⟩
    · exact RA.tup (vs := [.int .i64 n, .nilIface]) rfl fun i a v h1 h2 => by
        match i with
        | 0 => cases h1; cases h2; exact .mkInt (i64_def.2 ⟨b0, by omega⟩)
        | 1 => cases h1; cases h2; exact .c (.d (.v _ rfl))
    · rcases hw' with rfl | ⟨q, rfl⟩
      · exact .refl _ _
      · exact bytesWorld_below _ _ _
  | range =>
    obtain ⟨b0, b1⟩ := atoiSat_bounds t.data.toList
    refine (Any.strconv_Atoi_range Tryz.laysC172 t (by omega) hr _ w hc (.inr ⟨_, _, rfl⟩)).mono ?_
    rintro e w' ⟨N, rfl, _, _, hb⟩
    have key : ∀ e : Value, e.oneCell' = true → (∃ p q, e = .iface p q) → ∃ v r, (Ending.returned (.tuple #[.int .i64 (atoiSat t.data.toList), e])) = .returned v ∧ AtoiR s r ∧ (∀ (w : World) (ι : List K) (n : Nat), RA w ι n r v) ∧ Below w.heap.size w w' := fun e he hpq => by
      obtain ⟨p, q, rfl⟩ := hpq
      refine ⟨_, .tup [.c (.d (.int .i64 (atoiSat t.data.toList))), .c (.d (.v (.iface p q)))], rfl, ⟨atoiSat t.data.toList, .iface p q, i64_def.2 ⟨by omega, by omega⟩, rfl, .inr ⟨p, q, rfl, by rw [← ht]; exact hr⟩⟩, fun w ι m => ?_, hb⟩
      exact RA.tup (vs := [.int .i64 _, .iface _ _]) rfl fun i a v h1 h2 => by
        match i with
        | 0 => cases h1; cases h2; exact .mkInt (i64_def.2 ⟨by omega, by omega⟩)
        | 1 => cases h1; cases h2; exact .c (.d (.v _ rfl))
    exact key _ rfl ⟨_, _, rfl⟩
  | _ => rw [hr] at hsy; cases hsy
end Go.Proofs.YtgfmlifkhpjplaaGreatDoor

/-
  The program's reader: the object that it works on, and its smallest steps.
  Conditions: none.
-/
open Go Go.AM Go.Proofs
namespace Go.Proofs.YtgfmlifkhpjplaaGreatDoor
open Go.ChangeShapes Go.WideShapes Go.ChangeAt Go.RowKit
set_option linter.unusedVariables false
set_option linter.unusedSimpArgs false
set_option maxRecDepth 100000
-- 110 (*loop.example/prologserver/impl.reader).stop params 2 ntmps 15
def ac110 : Cd := .seq (.region [⟨(some 4),.alloc [(.d (.int .i64 0)),(.d (.int .i64 0)),(.d (.str [])),(.full [])],none⟩] [])
 (.seq (.seq (.region [⟨(some 5),.mv (.t 0),none⟩,
 ⟨(some 6),.nilCheck (.t 5),none⟩,
 ⟨(some 7),.fieldAddr 2 (.t 6),none⟩,
 ⟨(some 8),.load none (.t 7),none⟩,
 ⟨(some 9),.bin .lss (.t 8) (.k (.c (.d (.int .i64 0)))),none⟩] [5,6,7,8])
 (.cond (.t 9)
 (.region [⟨(some 10),.mv (.t 0),none⟩,
 ⟨(some 11),.mv (.t 1),none⟩,
 ⟨(some 12),.nilCheck (.t 10),none⟩,
 ⟨(some 13),.fieldAddr 2 (.t 12),none⟩,
 ⟨none,.store 1 (.t 13) (.t 11),none⟩] [0,1,9,10,11,12,13])
 (.skip)))
 (.seq (.region [⟨(some 14),.build [(.d (.int .i64 0)),(.d (.int .i64 0)),(.d (.str [])),(.full [])] [],none⟩,
 ⟨none,.store 4 (.t 4) (.t 14),none⟩] [0,1,9,14])
 (.ret)))
theorem ac110_ok : cFunc Tryz.prog [] [(0,[],[]),(1,[5,6,7,8],[]),(2,[0,1,9,10,11,12,13],[]),(3,[0,1,9,14],[])] Tryz.f110 = some (ac110,[.cell 4 (some 4)],15) := by kernel_rfl
-- 111 (*loop.example/prologserver/impl.reader).next params 1 ntmps 29
def ac111 : Cd := .seq (.region [⟨(some 2),.mv (.k (.c (.d (.int .u8 0)))),none⟩] [2])
 (.seq (.seq (.region [⟨(some 3),.mv (.t 0),none⟩,
 ⟨(some 4),.nilCheck (.t 3),none⟩,
 ⟨(some 5),.fieldAddr 2 (.t 4),none⟩,
 ⟨(some 6),.load none (.t 5),none⟩,
 ⟨(some 7),.bin .geq (.t 6) (.k (.c (.d (.int .i64 0)))),none⟩,
 ⟨(some 8),.mv (.t 7),none⟩,
 ⟨(some 9),.mv (.t 0),some (8,false)⟩,
 ⟨(some 10),.nilCheck (.t 9),some (8,false)⟩,
 ⟨(some 11),.fieldAddr 1 (.t 10),some (8,false)⟩,
 ⟨(some 13),.mv (.t 0),some (8,false)⟩,
 ⟨(some 14),.nilCheck (.t 13),some (8,false)⟩,
 ⟨(some 15),.fieldAddr 0 (.t 14),some (8,false)⟩,
 ⟨(some 12),.load none (.t 11),some (8,false)⟩,
 ⟨(some 16),.load none (.t 15),some (8,false)⟩,
 ⟨(some 17),.len 0 (.t 16),some (8,false)⟩,
 ⟨(some 18),.bin .geq (.t 12) (.t 17),some (8,false)⟩,
 ⟨(some 19),.pick (.t 8) (.k (.c (.d (.bool true)))) (.t 18),none⟩] [3,4,5,6,7,8,9,10,11,12,13,14,15,16,17,18])
 (.cond (.t 19)
 (.seq (.region [⟨(some 2),.mv (.k (.c (.d (.int .u8 0)))),none⟩] [0,19])
 (.ret))
 (.skip)))
 (.seq (.region [⟨(some 20),.mv (.t 0),none⟩,
 ⟨(some 21),.nilCheck (.t 20),none⟩,
 ⟨(some 22),.fieldAddr 0 (.t 21),none⟩,
 ⟨(some 24),.mv (.t 0),none⟩,
 ⟨(some 25),.nilCheck (.t 24),none⟩,
 ⟨(some 26),.fieldAddr 1 (.t 25),none⟩,
 ⟨(some 23),.load none (.t 22),none⟩,
 ⟨(some 27),.load none (.t 26),none⟩,
 ⟨(some 28),.index (.t 23) (.t 27),none⟩,
 ⟨(some 2),.mv (.t 28),none⟩] [0,19,20,21,22,23,24,25,26,27,28])
 (.ret)))
theorem ac111_ok : cFunc Tryz.prog [] [(0,[2],[]),(1,[3,4,5,6,7,8,9,10,11,12,13,14,15,16,17,18],[0,1,2,3,4,5,6,7,8,10,11,12,9,13,14,15,16]),(2,[0,19],[]),(3,[0,19,20,21,22,23,24,25,26,27,28],[0,1,2,4,5,6,3,7,8,9])] Tryz.f111 = some (ac111,[.tmp 2],29) := by kernel_rfl
def rdO (s : List UInt8) (a : Nat) (b : Int) : Ob := .cells [.d (.str s), .d (.int .i64 a), .d (.int .i64 b), .d (.bool true)]
/-- the reader in the heap -/
def ro (H : Heap) (i : Nat) (s : List UInt8) (a : Nat) (b : Int) : Heap := H.set i (rdO s a b)
/-- what the library's calls read is told -/
def Hp (H : Heap) : Prop := ∃ o o2, H[0]? = some (.tab 0 o) ∧ H[1]? = some (.tab 3 o2) ∧ Tab 0 o ∧ ERg o2
theorem ro_len (H : Heap) (i : Nat) (s : List UInt8) (a : Nat) (b : Int) : (ro H i s a b).length = H.length := by simp [ro]
theorem ro_get {H : Heap} {i : Nat} (h : i < H.length) (s : List UInt8) (a : Nat) (b : Int) : (ro H i s a b)[i]? = some (.cells [.d (.str s), .d (.int .i64 a), .d (.int .i64 b), .d (.bool true)]) := by simp [ro, rdO, h]
theorem ro_other {H : Heap} {i j : Nat} (h : j ≠ i) (s : List UInt8) (a : Nat) (b : Int) : (ro H i s a b)[j]? = H[j]? := by
  simp only [ro, List.getElem?_set]
  rw [if_neg (fun e => h e.symm)]
theorem ro_set (H : Heap) (i : Nat) (s : List UInt8) (a : Nat) (b : Int) (a' : Nat) (b' : Int) : (ro H i s a b).set i (.cells [.d (.str s), .d (.int .i64 a'), .d (.int .i64 b'), .d (.bool true)]) = ro H i s a' b' := by simp [ro, rdO]
theorem ro_set1 (H : Heap) (i : Nat) (s : List UInt8) (a : Nat) (b : Int) (k : Nat) : (ro H i s a b).set i (.cells [.d (.str s), .d (.int .i64 ((a : Int) + (k : Int))), .d (.int .i64 b), .d (.bool true)]) = ro H i s (a + k) b := by simp [ro, rdO]
theorem ro_up (H : Heap) (i : Nat) (s : List UInt8) (a : Nat) (b : Int) : (ro H i s a b).set i (.cells [.d (.str s), .d (.int .i64 ((a : Int) + 1)), .d (.int .i64 b), .d (.bool true)]) = ro H i s (a + 1) b := by simp [ro, rdO]
theorem ro_append {H L : Heap} {i : Nat} (h : i < H.length) (s : List UInt8) (a : Nat) (b : Int) : ro H i s a b ++ L = ro (H ++ L) i s a b := by
  simp only [ro]
  rw [List.set_append_left _ _ h]
theorem ro_fits {H : Heap} {i : Nat} {s s' : List UInt8} {a a' : Nat} {b b' : Int} (h : Obs.fits H.length 0 (ro H i s a b)) : Obs.fits H.length 0 (ro H i s' a' b') := by
  have e : ro H i s' a' b' = (ro H i s a b).set i (rdO s' a' b') := by simp [ro]
  rw [e]
  exact Obs_fits_set h ⟨trivial, trivial, trivial, trivial, trivial⟩
theorem hp_append {H : Heap} (hp : Hp H) (L : Heap) : Hp (H ++ L) := by
  obtain ⟨o, o2, h1, h2, h3⟩ := hp
  have l1 := (List.getElem?_eq_some_iff.1 h1).1
  have l2 := (List.getElem?_eq_some_iff.1 h2).1
  exact ⟨o, o2, by rw [List.getElem?_append_left l1]; exact h1, by rw [List.getElem?_append_left l2]; exact h2, h3⟩
/-- what a step of the reader does -/
def Mv (f : FuncId) (xs : List A) (s : List UInt8) (a : Nat) (b : Int) (r : A) (a' : Nat) (b' : Int) : Prop := ∀ (H : Heap) (i : Nat), Hp H → 2 ≤ i → i < H.length →
  ACalls Tryz.prog f (.c (.ptr (.e i) 0) :: xs) (ro H i s a b) (fun r' H' => r' = r ∧ H' = ro H i s a' b')
theorem call_mv {f : FuncId} {xs : List A} {s : List UInt8} {a a' : Nat} {b b' : Int} {r : A} (hd : Mv f xs s a b r a' b') {H : Heap} {i : Nat} {sl : List A} {loc H₂ : Heap} {K : A → St → Prop} (hp : Hp H) (h2 : 2 ≤ i) (hi : i < H.length)
    (hH : H₂ = ro H i s a b ++ loc.map (Ob.re H.length)) (hr : A.re H.length r = r) (hf : Obs.fits H.length 0 (ro H i s a b)) (hk : K r ⟨sl, ro H i s a' b', loc⟩) :
    ACalls Tryz.prog f (.c (.ptr (.e i) 0) :: xs) H₂ (CallK K ⟨sl, ro H i s a b, loc⟩) := by
  subst hH
  have h := hd (H ++ loc.map (Ob.re H.length)) i (hp_append hp _) h2 (by simp; omega)
  rw [ro_append hi]
  refine h.mono fun r' H' ⟨h1, h2⟩ => ?_
  rw [← ro_append hi] at h2
  exact ⟨ro H i s a' b', loc, r, by simpa [ro_len] using h2, by simp [ro_len], Nat.le_refl _, by simpa [ro_len] using ro_fits hf, by rw [h1]; simpa [ro_len] using hr.symm, hk⟩
def zeroA : A := .agg ((Tm.mk 0 0 [] []).row.map .d)
theorem zeroA_re (n : Nat) : A.re n zeroA = zeroA := by simp [zeroA, A.re, re_d]
theorem stop_mv (s : List UInt8) (a : Nat) (b : Int) (x : Nat) : Mv 110 [.c (.d (.int .i64 x))] s a b zeroA a (if b < 0 then (x : Int) else b) := fun H i hp h2 hi => by
  refine acalls Tryz.func110 (by kernel_rfl) ac110_ok fun hf => ?_
  rw [ro_len] at hf
  have hf1 := fun a' b' => ro_fits (s' := s) (a' := a') (b' := b') hf
  by_cases hb : b < 0
  · simp -implicitDefEqProofs [ac110, ro_get hi, ro_len, ro_set, hb, Ref.re, hf1, zeroA, row_mk, go_sem, -List.set_cons_succ, -List.set_cons_zero]
  · simp -implicitDefEqProofs [ac110, ro_get hi, ro_len, ro_set, hb, Ref.re, hf1, zeroA, row_mk, go_sem, -List.set_cons_succ, -List.set_cons_zero]
/-- the byte that stands there -/
def nxt (s : List UInt8) (a : Nat) (b : Int) : UInt8 := if 0 ≤ b then 0 else match s[a]? with
  | some c => c
  | none => 0
theorem next_mv (s : List UInt8) (hs : s.length ≤ 1000000) (a : Nat) (b : Int) (ha : a ≤ 1000000) : Mv 111 [] s a b (.c (.d (.int .u8 (nxt s a b).toNat))) a b := fun H i hp h2 hi => by
  refine acalls Tryz.func111 (by kernel_rfl) ac111_ok fun hf => ?_
  rw [ro_len] at hf
  have hli : inR .i64 (s.length : Int) := small_i64 (by omega) (by omega)
  by_cases hb : 0 ≤ b
  · simp -implicitDefEqProofs [ac111, ro_get hi, ro_len, ro_set, hb, hli, Ref.re, nxt, go_sem, -List.set_cons_succ, -List.set_cons_zero]
  · by_cases hlt : a < s.length
    · have hlt2 : ¬ (s.length : Int) ≤ a := by omega
      simp -implicitDefEqProofs [ac111, ro_get hi, ro_len, ro_set, hb, hli, hlt2, Ref.re, go_sem, -List.set_cons_succ, -List.set_cons_zero]
      refine byte_nat hlt ?_
      simp -implicitDefEqProofs [nxt, hb, hlt, go_sem, -List.set_cons_succ, -List.set_cons_zero]
    · have hlt2 : (s.length : Int) ≤ a := by omega
      simp -implicitDefEqProofs [ac111, ro_get hi, ro_len, ro_set, hb, hli, hlt2, Ref.re, nxt, hlt, go_sem, -List.set_cons_succ, -List.set_cons_zero]
end Go.Proofs.YtgfmlifkhpjplaaGreatDoor

/-
  Variables and numbers of the reference.
  Conditions: none.
-/
open Go Go.AM Go.Proofs
namespace Go.Proofs.YtgfmlifkhpjplaaGreatDoor
open Go.ChangeShapes Go.WideShapes Go.ChangeAt Go.RowKit
set_option linter.unusedVariables false
set_option linter.unusedSimpArgs false
set_option maxRecDepth 100000
-- 79 loop.example/prologserver/spec.l1Var params 1 ntmps 5
def ac79 : Cd := .seq (.region [⟨(some 2),.alloc [(.d (.int .i64 0)),(.d (.int .i64 0)),(.d (.str [])),(.full [])],none⟩] [])
 (.seq (.region [⟨(some 3),.mv (.t 0),none⟩,
 ⟨(some 4),.build [(.d (.int .i64 0)),(.d (.int .i64 0)),(.d (.str [])),(.full [])] [(0,1,(.k (.c (.d (.int .i64 1))))),(1,1,(.t 3))],none⟩,
 ⟨none,.store 4 (.t 2) (.t 4),none⟩] [0,3,4])
 (.ret))
theorem ac79_ok : cFunc Tryz.prog [] [(0,[],[]),(1,[0,3,4],[])] Tryz.f79 = some (ac79,[.cell 2 (some 4)],5) := by kernel_rfl
-- 55 loop.example/prologserver/spec.l1Int params 1 ntmps 5
def ac55 : Cd := .seq (.region [⟨(some 2),.alloc [(.d (.int .i64 0)),(.d (.int .i64 0)),(.d (.str [])),(.full [])],none⟩] [])
 (.seq (.region [⟨(some 3),.mv (.t 0),none⟩,
 ⟨(some 4),.build [(.d (.int .i64 0)),(.d (.int .i64 0)),(.d (.str [])),(.full [])] [(0,1,(.k (.c (.d (.int .i64 2))))),(1,1,(.t 3))],none⟩,
 ⟨none,.store 4 (.t 2) (.t 4),none⟩] [0,3,4])
 (.ret))
theorem ac55_ok : cFunc Tryz.prog [] [(0,[],[]),(1,[0,3,4],[])] Tryz.f55 = some (ac55,[.cell 2 (some 4)],5) := by kernel_rfl
theorem var_calls (n : Int) (H : Heap) : ACalls Tryz.prog 79 [.c (.d (.int .i64 n))] H (fun r H' => H' = H ∧ r = .agg ((Tm.mk 1 n [] []).row.map .d)) := by
  refine acalls Tryz.func79 (by kernel_rfl) ac79_ok fun hf => ?_
  simp -implicitDefEqProofs [ac79, row_mk, hf, go_sem, -List.set_cons_succ, -List.set_cons_zero]
theorem int_calls (n : Int) (H : Heap) : ACalls Tryz.prog 55 [.c (.d (.int .i64 n))] H (fun r H' => H' = H ∧ r = .agg ((Tm.mk 2 n [] []).row.map .d)) := by
  refine acalls Tryz.func55 (by kernel_rfl) ac55_ok fun hf => ?_
  simp -implicitDefEqProofs [ac55, row_mk, hf, go_sem, -List.set_cons_succ, -List.set_cons_zero]
end Go.Proofs.YtgfmlifkhpjplaaGreatDoor

/-
  The codes of two readers of bytes.
  Conditions: none.
-/
open Go Go.AM Go.Proofs
namespace Go.Proofs.YtgfmlifkhpjplaaGreatDoor
-- 80 loop.example/prologserver/spec.l1Digit params 2 ntmps 25
def ac80 : Cd := .seq (.region [⟨(some 4),.mv (.k (.c (.d (.bool false)))),none⟩] [4])
 (.seq (.region [⟨(some 5),.mv (.t 1),none⟩,
 ⟨(some 6),.bin .geq (.t 5) (.k (.c (.d (.int .i64 0)))),none⟩,
 ⟨(some 7),.mv (.t 6),none⟩,
 ⟨(some 8),.mv (.t 1),some (7,true)⟩,
 ⟨(some 9),.mv (.t 0),some (7,true)⟩,
 ⟨(some 10),.len 0 (.t 9),some (7,true)⟩,
 ⟨(some 11),.bin .lss (.t 8) (.t 10),some (7,true)⟩,
 ⟨(some 12),.pick (.t 7) (.t 11) (.k (.c (.d (.bool false)))),none⟩,
 ⟨(some 13),.mv (.t 12),none⟩,
 ⟨(some 14),.mv (.t 0),some (13,true)⟩,
 ⟨(some 15),.mv (.t 1),some (13,true)⟩,
 ⟨(some 16),.index (.t 14) (.t 15),some (13,true)⟩,
 ⟨(some 17),.bin .geq (.t 16) (.k (.c (.d (.int .u8 48)))),some (13,true)⟩,
 ⟨(some 18),.pick (.t 13) (.t 17) (.k (.c (.d (.bool false)))),none⟩,
 ⟨(some 19),.mv (.t 18),none⟩,
 ⟨(some 20),.mv (.t 0),some (19,true)⟩,
 ⟨(some 21),.mv (.t 1),some (19,true)⟩,
 ⟨(some 22),.index (.t 20) (.t 21),some (19,true)⟩,
 ⟨(some 23),.bin .leq (.t 22) (.k (.c (.d (.int .u8 57)))),some (19,true)⟩,
 ⟨(some 24),.pick (.t 19) (.t 23) (.k (.c (.d (.bool false)))),none⟩,
 ⟨(some 4),.mv (.t 24),none⟩] [0,1,5,6,7,8,9,10,11,12,13,14,15,16,17,18,19,20,21,22,23,24])
 (.ret))
theorem ac80_ok : cFunc Tryz.prog [] [(0,[4],[]),(1,[0,1,5,6,7,8,9,10,11,12,13,14,15,16,17,18,19,20,21,22,23,24],[])] Tryz.f80 = some (ac80,[.tmp 4],25) := by kernel_rfl
-- 107 loop.example/prologserver/spec.l1Small params 2 ntmps 25
def ac107 : Cd := .seq (.region [⟨(some 4),.mv (.k (.c (.d (.bool false)))),none⟩] [4])
 (.seq (.region [⟨(some 5),.mv (.t 1),none⟩,
 ⟨(some 6),.bin .geq (.t 5) (.k (.c (.d (.int .i64 0)))),none⟩,
 ⟨(some 7),.mv (.t 6),none⟩,
 ⟨(some 8),.mv (.t 1),some (7,true)⟩,
 ⟨(some 9),.mv (.t 0),some (7,true)⟩,
 ⟨(some 10),.len 0 (.t 9),some (7,true)⟩,
 ⟨(some 11),.bin .lss (.t 8) (.t 10),some (7,true)⟩,
 ⟨(some 12),.pick (.t 7) (.t 11) (.k (.c (.d (.bool false)))),none⟩,
 ⟨(some 13),.mv (.t 12),none⟩,
 ⟨(some 14),.mv (.t 0),some (13,true)⟩,
 ⟨(some 15),.mv (.t 1),some (13,true)⟩,
 ⟨(some 16),.index (.t 14) (.t 15),some (13,true)⟩,
 ⟨(some 17),.bin .geq (.t 16) (.k (.c (.d (.int .u8 97)))),some (13,true)⟩,
 ⟨(some 18),.pick (.t 13) (.t 17) (.k (.c (.d (.bool false)))),none⟩,
 ⟨(some 19),.mv (.t 18),none⟩,
 ⟨(some 20),.mv (.t 0),some (19,true)⟩,
 ⟨(some 21),.mv (.t 1),some (19,true)⟩,
 ⟨(some 22),.index (.t 20) (.t 21),some (19,true)⟩,
 ⟨(some 23),.bin .leq (.t 22) (.k (.c (.d (.int .u8 122)))),some (19,true)⟩,
 ⟨(some 24),.pick (.t 19) (.t 23) (.k (.c (.d (.bool false)))),none⟩,
 ⟨(some 4),.mv (.t 24),none⟩] [0,1,5,6,7,8,9,10,11,12,13,14,15,16,17,18,19,20,21,22,23,24])
 (.ret))
theorem ac107_ok : cFunc Tryz.prog [] [(0,[4],[]),(1,[0,1,5,6,7,8,9,10,11,12,13,14,15,16,17,18,19,20,21,22,23,24],[])] Tryz.f107 = some (ac107,[.tmp 4],25) := by kernel_rfl
end Go.Proofs.YtgfmlifkhpjplaaGreatDoor

/-
  The reference's parser does what it is said to do.
  Conditions: none.
-/
open Go Go.AM Go.Proofs
namespace Go.Proofs.YtgfmlifkhpjplaaGreatDoor
open Go.ChangeShapes Go.WideShapes Go.ChangeAt Go.RowKit
set_option linter.unusedVariables false
set_option linter.unusedSimpArgs false
set_option maxRecDepth 100000
-- 77 loop.example/prologserver/spec.l1Sign params 3 ntmps 22
def ac77 : Cd := .seq (.region [⟨(some 6),.mv (.k (.c (.d (.bool false)))),none⟩] [6])
 (.seq (.region [⟨(some 7),.mv (.t 1),none⟩,
 ⟨(some 8),.bin .geq (.t 7) (.k (.c (.d (.int .i64 0)))),none⟩,
 ⟨(some 9),.mv (.t 8),none⟩,
 ⟨(some 10),.mv (.t 1),some (9,true)⟩,
 ⟨(some 11),.mv (.t 0),some (9,true)⟩,
 ⟨(some 12),.len 0 (.t 11),some (9,true)⟩,
 ⟨(some 13),.bin .lss (.t 10) (.t 12),some (9,true)⟩,
 ⟨(some 14),.pick (.t 9) (.t 13) (.k (.c (.d (.bool false)))),none⟩,
 ⟨(some 15),.mv (.t 14),none⟩,
 ⟨(some 16),.mv (.t 0),some (15,true)⟩,
 ⟨(some 17),.mv (.t 1),some (15,true)⟩,
 ⟨(some 18),.index (.t 16) (.t 17),some (15,true)⟩,
 ⟨(some 19),.mv (.t 2),some (15,true)⟩,
 ⟨(some 20),.bin .eql (.t 18) (.t 19),some (15,true)⟩,
 ⟨(some 21),.pick (.t 15) (.t 20) (.k (.c (.d (.bool false)))),none⟩,
 ⟨(some 6),.mv (.t 21),none⟩] [0,1,2,7,8,9,10,11,12,13,14,15,16,17,18,19,20,21])
 (.ret))
theorem ac77_ok : cFunc Tryz.prog [] [(0,[6],[]),(1,[0,1,2,7,8,9,10,11,12,13,14,15,16,17,18,19,20,21],[])] Tryz.f77 = some (ac77,[.tmp 6],22) := by kernel_rfl
-- 106 loop.example/prologserver/spec.l18Num params 1 ntmps 67
-- loop head live: [0,4,5,6]
def ac106 : Cd := .seq (.region [⟨(some 2),.mv (.k (.c (.d (.int .i64 0)))),none⟩,
 ⟨(some 3),.mv (.k (.c (.d (.bool false)))),none⟩] [2,3])
 (.seq (.region [⟨(some 7),.mv (.t 0),none⟩,
 ⟨(some 8),.len 0 (.t 7),none⟩,
 ⟨(some 9),.bin .gtr (.t 8) (.k (.c (.d (.int .i64 0)))),none⟩,
 ⟨(some 10),.mv (.t 9),none⟩,
 ⟨(some 11),.mv (.t 0),some (10,true)⟩,
 ⟨(some 12),.index (.t 11) (.k (.c (.d (.int .i64 0)))),some (10,true)⟩,
 ⟨(some 13),.bin .eql (.t 12) (.k (.c (.d (.int .u8 45)))),some (10,true)⟩,
 ⟨(some 14),.pick (.t 10) (.t 13) (.k (.c (.d (.bool false)))),none⟩,
 ⟨(some 4),.mv (.t 14),none⟩] [7,8,9,10,11,12,13,14])
 (.seq (.seq (.region [⟨(some 15),.mv (.t 4),none⟩] [])
 (.cond (.t 15)
 (.region [⟨(some 16),.mv (.t 0),none⟩,
 ⟨(some 17),.slice 0 (.t 16) (some (.k (.c (.d (.int .i64 1))))) none none,none⟩,
 ⟨(some 0),.mv (.t 17),none⟩] [15,16,17])
 (.skip)))
 (.seq (.seq (.region [⟨(some 18),.mv (.t 0),none⟩,
 ⟨(some 19),.len 0 (.t 18),none⟩,
 ⟨(some 20),.bin .eql (.t 19) (.k (.c (.d (.int .i64 0)))),none⟩,
 ⟨(some 21),.mv (.t 20),none⟩,
 ⟨(some 22),.mv (.t 0),some (21,false)⟩,
 ⟨(some 23),.len 0 (.t 22),some (21,false)⟩,
 ⟨(some 24),.bin .gtr (.t 23) (.k (.c (.d (.int .i64 17)))),some (21,false)⟩,
 ⟨(some 25),.pick (.t 21) (.k (.c (.d (.bool true)))) (.t 24),none⟩,
 ⟨(some 26),.mv (.t 25),none⟩,
 ⟨(some 27),.mv (.t 0),some (26,false)⟩,
 ⟨(some 28),.index (.t 27) (.k (.c (.d (.int .i64 0)))),some (26,false)⟩,
 ⟨(some 29),.bin .eql (.t 28) (.k (.c (.d (.int .u8 48)))),some (26,false)⟩,
 ⟨(some 30),.mv (.t 29),some (26,false)⟩,
 ⟨(some 31),.mv (.t 0),some (30,true)⟩,
 ⟨(some 32),.len 0 (.t 31),some (30,true)⟩,
 ⟨(some 33),.bin .gtr (.t 32) (.k (.c (.d (.int .i64 1)))),some (30,true)⟩,
 ⟨(some 34),.mv (.t 33),some (30,true)⟩,
 ⟨(some 35),.mv (.t 4),some (34,false)⟩,
 ⟨(some 36),.pick (.t 34) (.k (.c (.d (.bool true)))) (.t 35),some (30,true)⟩,
 ⟨(some 37),.pick (.t 30) (.t 36) (.k (.c (.d (.bool false)))),some (26,false)⟩,
 ⟨(some 38),.pick (.t 26) (.k (.c (.d (.bool true)))) (.t 37),none⟩] [15,18,19,20,21,22,23,24,25,26,27,28,29,30,31,32,33,34,35,36,37])
 (.cond (.t 38)
 (.seq (.region [⟨(some 2),.mv (.k (.c (.d (.int .i64 0)))),none⟩,
 ⟨(some 3),.mv (.k (.c (.d (.bool false)))),none⟩] [0,4,38])
 (.ret))
 (.skip)))
 (.seq (.region [⟨(some 5),.mv (.k (.c (.d (.int .i64 0)))),none⟩] [2,3,38])
 (.seq (.seq (.region [⟨(some 6),.mv (.k (.c (.d (.int .i64 0)))),none⟩] [])
 (.block 0 (.loop (.seq (.seq (.region [⟨(some 39),.mv (.t 6),none⟩,
 ⟨(some 40),.mv (.t 0),none⟩,
 ⟨(some 41),.len 0 (.t 40),none⟩,
 ⟨(some 42),.bin .lss (.t 39) (.t 41),none⟩] [39,40,41])
 (.cond (.t 42)
 (.skip)
 (.exit 0)))
 (.seq (.block 1 (.seq (.seq (.region [⟨(some 45),.mv (.t 0),none⟩,
 ⟨(some 46),.mv (.t 6),none⟩,
 ⟨(some 47),.index (.t 45) (.t 46),none⟩,
 ⟨(some 48),.bin .lss (.t 47) (.k (.c (.d (.int .u8 48)))),none⟩,
 ⟨(some 49),.mv (.t 48),none⟩,
 ⟨(some 50),.mv (.t 0),some (49,false)⟩,
 ⟨(some 51),.mv (.t 6),some (49,false)⟩,
 ⟨(some 52),.index (.t 50) (.t 51),some (49,false)⟩,
 ⟨(some 53),.bin .gtr (.t 52) (.k (.c (.d (.int .u8 57)))),some (49,false)⟩,
 ⟨(some 54),.pick (.t 49) (.k (.c (.d (.bool true)))) (.t 53),none⟩] [42,45,46,47,48,49,50,51,52,53])
 (.cond (.t 54)
 (.seq (.region [⟨(some 2),.mv (.k (.c (.d (.int .i64 0)))),none⟩,
 ⟨(some 3),.mv (.k (.c (.d (.bool false)))),none⟩] [0,4,5,6,54])
 (.ret))
 (.skip)))
 (.region [⟨(some 55),.mv (.t 5),none⟩,
 ⟨(some 56),.bin .mul (.t 55) (.k (.c (.d (.int .i64 10)))),none⟩,
 ⟨(some 57),.mv (.t 0),none⟩,
 ⟨(some 58),.mv (.t 6),none⟩,
 ⟨(some 59),.index (.t 57) (.t 58),none⟩,
 ⟨(some 60),.bin .sub (.t 59) (.k (.c (.d (.int .u8 48)))),none⟩,
 ⟨(some 61),.cvInt .i64 (.t 60),none⟩,
 ⟨(some 62),.bin .add (.t 56) (.t 61),none⟩,
 ⟨(some 5),.mv (.t 62),none⟩] [2,3,54,55,56,57,58,59,60,61,62])))
 (.region [⟨(some 43),.mv (.t 6),none⟩,
 ⟨(some 44),.bin .add (.t 43) (.k (.c (.d (.int .i64 1)))),none⟩,
 ⟨(some 6),.mv (.t 44),none⟩] [43,44]))))))
 (.seq (.seq (.region [⟨(some 63),.mv (.t 4),none⟩] [4])
 (.cond (.t 63)
 (.region [⟨(some 64),.mv (.t 5),none⟩,
 ⟨(some 65),.un .neg (.t 64),none⟩,
 ⟨(some 5),.mv (.t 65),none⟩] [63,64,65])
 (.skip)))
 (.seq (.region [⟨(some 66),.mv (.t 5),none⟩,
 ⟨(some 2),.mv (.t 66),none⟩,
 ⟨(some 3),.mv (.k (.c (.d (.bool true)))),none⟩] [5,63,66])
 (.ret))))))))
theorem ac106_ok : cFunc Tryz.prog [] [(0,[2,3],[]),(1,[7,8,9,10,11,12,13,14],[]),(2,[],[]),(3,[15,16,17],[]),(4,[15,18,19,20,21,22,23,24,25,26,27,28,29,30,31,32,33,34,35,36,37],[]),(5,[0,4,38],[]),(6,[2,3,38],[]),(7,[],[]),(8,[39,40,41],[]),(10,[42,45,46,47,48,49,50,51,52,53],[]),(11,[0,4,5,6,54],[]),(12,[2,3,54,55,56,57,58,59,60,61,62],[]),(9,[43,44],[]),(13,[4],[]),(14,[63,64,65],[]),(15,[5,63,66],[])] Tryz.f106 = some (ac106,[.tmp 2,.tmp 3],67) := by kernel_rfl
theorem sign_calls (s : List UInt8) (hs : s.length ≤ 1000000) (i : Nat) (hi : i ≤ 2000000) (c : UInt8) (H : Heap) : ACalls Tryz.prog 77 [.c (.d (.str s)), .c (.d (.int .i64 i)), .c (.d (.int .u8 c.toNat))] H (fun r H' => H' = H ∧ r = .c (.d (.bool (sgn s i c)))) := by
  refine acalls Tryz.func77 (by kernel_rfl) ac77_ok fun hf => ?_
  have hli : inR .i64 (s.length : Int) := small_i64 (by omega) (by omega)
  by_cases hlt : i < s.length
  · have hsg : sgn s i c = (s[i] == c) := by simp [sgn, hlt]
    rw [hsg]
    have hlt2 : (i : Int) < s.length := by omega
    simp -implicitDefEqProofs [ac77, hli, hlt, go_sem, -List.set_cons_succ, -List.set_cons_zero]
    refine byte_nat hlt ?_
    simp -implicitDefEqProofs [go_sem, -List.set_cons_succ, -List.set_cons_zero]
    rw [Bool.eq_iff_iff]
    simp
    exact ⟨fun h => UInt8.toNat_inj.1 (by omega), fun h => by rw [h]⟩
  · have hsg : sgn s i c = false := by simp [sgn, hlt]
    have hlt2 : ¬ (i : Int) < s.length := by omega
    rw [hsg]
    simp -implicitDefEqProofs [ac77, hli, hlt, go_sem, -List.set_cons_succ, -List.set_cons_zero]
    refine byte_off 0 ?_
    simp -implicitDefEqProofs [go_sem, -List.set_cons_succ, -List.set_cons_zero]
theorem digit_calls (s : List UInt8) (hs : s.length ≤ 1000000) (i : Nat) (hi : i ≤ 2000000) (H : Heap) : ACalls Tryz.prog 80 [.c (.d (.str s)), .c (.d (.int .i64 i))] H (fun r H' => H' = H ∧ r = .c (.d (.bool (digAt s i)))) := by
  refine acalls Tryz.func80 (by kernel_rfl) ac80_ok fun hf => ?_
  have hli : inR .i64 (s.length : Int) := small_i64 (by omega) (by omega)
  by_cases hlt : i < s.length
  · have hsg : digAt s i = digB s[i] := by simp [digAt, hlt]
    rw [hsg]
    simp -implicitDefEqProofs [ac80, hli, hlt, go_sem, -List.set_cons_succ, -List.set_cons_zero]
    refine byte_nat hlt ?_
    by_cases h1 : (48 : Int) ≤ s[i].toNat
    · have h1' : 48 ≤ s[i].toNat := by omega
      simp -implicitDefEqProofs [h1, go_sem, -List.set_cons_succ, -List.set_cons_zero]
      refine byte_nat hlt ?_
      simp -implicitDefEqProofs [digB, h1', go_sem, -List.set_cons_succ, -List.set_cons_zero]
      omega
    · have h1' : ¬ 48 ≤ s[i].toNat := by omega
      simp -implicitDefEqProofs [h1, go_sem, -List.set_cons_succ, -List.set_cons_zero]
      refine byte_off 0 ?_
      simp -implicitDefEqProofs [digB, h1', go_sem, -List.set_cons_succ, -List.set_cons_zero]
  · have hsg : digAt s i = false := by simp [digAt, hlt]
    rw [hsg]
    simp -implicitDefEqProofs [ac80, hli, hlt, go_sem, -List.set_cons_succ, -List.set_cons_zero]
    refine byte_off 0 ?_
    simp -implicitDefEqProofs [go_sem, -List.set_cons_succ, -List.set_cons_zero]
    refine byte_off 0 ?_
    simp -implicitDefEqProofs [go_sem, -List.set_cons_succ, -List.set_cons_zero]
theorem small_calls (s : List UInt8) (hs : s.length ≤ 1000000) (i : Nat) (hi : i ≤ 2000000) (H : Heap) : ACalls Tryz.prog 107 [.c (.d (.str s)), .c (.d (.int .i64 i))] H (fun r H' => H' = H ∧ r = .c (.d (.bool (smaAt s i)))) := by
  refine acalls Tryz.func107 (by kernel_rfl) ac107_ok fun hf => ?_
  have hli : inR .i64 (s.length : Int) := small_i64 (by omega) (by omega)
  by_cases hlt : i < s.length
  · have hsg : smaAt s i = smaB s[i] := by simp [smaAt, hlt]
    rw [hsg]
    simp -implicitDefEqProofs [ac107, hli, hlt, go_sem, -List.set_cons_succ, -List.set_cons_zero]
    refine byte_nat hlt ?_
    by_cases h1 : (97 : Int) ≤ s[i].toNat
    · have h1' : 97 ≤ s[i].toNat := by omega
      simp -implicitDefEqProofs [h1, go_sem, -List.set_cons_succ, -List.set_cons_zero]
      refine byte_nat hlt ?_
      simp -implicitDefEqProofs [smaB, h1', go_sem, -List.set_cons_succ, -List.set_cons_zero]
      omega
    · have h1' : ¬ 97 ≤ s[i].toNat := by omega
      simp -implicitDefEqProofs [h1, go_sem, -List.set_cons_succ, -List.set_cons_zero]
      refine byte_off 0 ?_
      simp -implicitDefEqProofs [smaB, h1', go_sem, -List.set_cons_succ, -List.set_cons_zero]
  · have hsg : smaAt s i = false := by simp [smaAt, hlt]
    rw [hsg]
    simp -implicitDefEqProofs [ac107, hli, hlt, go_sem, -List.set_cons_succ, -List.set_cons_zero]
    refine byte_off 0 ?_
    simp -implicitDefEqProofs [go_sem, -List.set_cons_succ, -List.set_cons_zero]
    refine byte_off 0 ?_
    simp -implicitDefEqProofs [go_sem, -List.set_cons_succ, -List.set_cons_zero]
theorem numV_snoc (l : List UInt8) (b : UInt8) : numV (l ++ [b]) = numV l * 10 + (b.toNat - 48) := by simp [numV]
theorem numV_lt : ∀ (n : Nat) (l : List UInt8), l.length = n → l.all digB = true → numV l < 10 ^ n := by
  intro n
  induction n with
  | zero => intro l hl _; obtain rfl := List.eq_nil_of_length_eq_zero hl; simp [numV]
  | succ n ih =>
    intro l hl hd
    have hne : l ≠ [] := by intro h; subst h; simp at hl
    obtain ⟨m, b, rfl⟩ : ∃ m b, l = m ++ [b] := ⟨l.dropLast, l.getLast hne, (List.dropLast_concat_getLast hne).symm⟩
    simp at hl
    rw [List.all_append, Bool.and_eq_true] at hd
    have h1 := ih m hl hd.1
    have h2 := hd.2
    simp [digB] at h2
    rw [numV_snoc, Nat.pow_succ]
    omega
set_option maxHeartbeats 1600000 in
theorem num_calls (t : List UInt8) (hl : t.length ≤ 17) (hd : t.all digB = true) (H : Heap) : ACalls Tryz.prog 106 [.c (.d (.str t))] H
    (fun r H' => H' = H ∧ r = .tup [.c (.d (.int .i64 (if canB t then (numV t : Int) else 0))), .c (.d (.bool (canB t)))]) := by
  refine acalls Tryz.func106 (by kernel_rfl) ac106_ok fun hf => ?_
  have hli : inR .i64 (t.length : Int) := small_i64 (by omega) (by omega)
  cases t with
  | nil =>
    have h0 : inR .i64 (0 : Int) := small_i64 (by omega) (by omega)
    simp -implicitDefEqProofs [ac106, h0, go_sem, -List.set_cons_succ, -List.set_cons_zero]
    refine byte_off 0 ?_
    simp -implicitDefEqProofs [canB, h0, go_sem, -List.set_cons_succ, -List.set_cons_zero]
    refine byte_off 0 ?_
    simp -implicitDefEqProofs [canB, h0, go_sem, -List.set_cons_succ, -List.set_cons_zero]
  | cons b l =>
    have hb : digB b = true := by simp at hd; exact hd.1
    have hb2 : 48 ≤ b.toNat ∧ b.toNat ≤ 57 := by simpa [digB] using hb
    have hb45 : ((b.toNat : Int) == 45) = false := by simp; omega
    have hz : ((l.length : Int) + 1 == 0) = false := by simp; omega
    have h17 : ¬ (17 : Int) < (l.length : Int) + 1 := by simp at hl; omega
    simp only [List.length_cons, Int.natCast_add, Int.cast_ofNat_Int] at hli
    have hpos : (0 : Int) < (l.length : Int) + 1 := by omega
    obtain ⟨t, ht⟩ : ∃ t, t = b :: l := ⟨_, rfl⟩
    simp -implicitDefEqProofs [ac106, hli, hpos, go_sem, -List.set_cons_succ, -List.set_cons_zero]
    refine byte_int b (by omega) (by simp) ?_
    simp -implicitDefEqProofs [hb45, hz, h17, hli, go_sem, -List.set_cons_succ, -List.set_cons_zero]
    refine byte_int b (by omega) (by simp) ?_
    simp -implicitDefEqProofs [hb45, hz, h17, hli, go_sem, -List.set_cons_succ, -List.set_cons_zero]
    refine ⟨fun h1 h2 => ?_, fun h1 => ?_⟩
    · have hb48 : b = 48 := UInt8.toNat_inj.1 (by have : (48 : UInt8).toNat = 48 := rfl; omega)
      have hl0 : l ≠ [] := by intro h; subst h; simp at h2
      have : canB (b :: l) = false := by simp [canB, hb48, hl0]
      simp [this]
    · have hcan : canB (b :: l) = true := by
        have e1 : (b != 48) = true ∨ l = [] := by
          by_cases hb48 : b = 48
          · subst hb48
            have := h1 rfl
            right
            exact List.eq_nil_of_length_eq_zero (by omega)
          · left; simp [hb48]
        simp only [canB, Bool.and_eq_true, Bool.or_eq_true, decide_eq_true_eq, List.headD_cons]
        refine ⟨⟨⟨by simp, hl⟩, ?_⟩, hd⟩
        rcases e1 with e1 | e1
        · exact .inl e1
        · exact .inr (by simp [e1])
      rw [hcan]
      simp only [if_true]
      rw [← ht] at hl hd ⊢
      have htl : inR .i64 (t.length : Int) := small_i64 (by omega) (by omega)
      refine loop_set (σ := Nat) (fun i => [(6, .c (.d (.int .i64 i))), (5, .c (.d (.int .i64 (numV (t.take i)))))]) (fun _ => H) (fun _ => []) (fun i => i ≤ t.length) (fun i => t.length - i) 0 (by simp [setAll, numV]) (Nat.zero_le _) ?_
      intro i hi
      simp -implicitDefEqProofs [setAll, htl, go_sem, -List.set_cons_succ, -List.set_cons_zero]
      refine ⟨fun hlt => ?_, fun hge => ?_⟩
      · have hadd : inR .i64 ((i : Int) + 1) := small_i64 (by omega) (by omega)
        have hdi : digB t[i] = true := List.all_eq_true.1 hd _ (List.getElem_mem hlt)
        have hd2 : 48 ≤ t[i].toNat ∧ t[i].toNat ≤ 57 := by simpa [digB] using hdi
        have q1 : ¬ (t[i].toNat : Int) < 48 := by omega
        have q2 : ¬ (57 : Int) < t[i].toNat := by omega
        have hts : t.take (i + 1) = t.take i ++ [t[i]] := List.take_succ_eq_append_getElem hlt
        have hnv := numV_lt i (t.take i) (by simp; omega) (by
          rw [List.all_eq_true]
          intro x hx
          exact List.all_eq_true.1 hd _ (List.mem_of_mem_take hx))
        have hp : 10 ^ i ≤ 10 ^ 17 := Nat.pow_le_pow_right (by omega) (by omega)
        have hw : IntKind.i64.wrap ((t[i].toNat : Int) - 48) = (t[i].toNat : Int) - 48 := by rw [IntKind.wrap_i64]; omega
        have hr1 : inR .i64 ((numV (t.take i) : Int) * 10) := i64_def.2 (by omega)
        have hr2 : inR .i64 ((numV (t.take i) : Int) * 10 + ((t[i].toNat : Int) - 48)) := i64_def.2 (by omega)
        have hr3 : inR .u8 ((t[i].toNat : Int) - 48) := by simp [inR, IntKind.min, IntKind.max, IntKind.signed, IntKind.bits]; omega
        refine byte_nat hlt ?_
        simp -implicitDefEqProofs [q1, go_sem, -List.set_cons_succ, -List.set_cons_zero]
        refine byte_nat hlt ?_
        simp -implicitDefEqProofs [q1, q2, hr1, go_sem, -List.set_cons_succ, -List.set_cons_zero]
        refine byte_nat hlt ?_
        simp -implicitDefEqProofs [q1, q2, hr1, hr2, hr3, hw, hadd, go_sem, -List.set_cons_succ, -List.set_cons_zero]
        refine loop_back (i + 1) (by rw [hts, numV_snoc]; simp [setAll]; omega) hlt (by show t.length - (i + 1) < t.length - i; omega)
      · obtain rfl : i = t.length := by omega
        simp -implicitDefEqProofs [go_sem, -List.set_cons_succ, -List.set_cons_zero]
-- 81 loop.example/prologserver/spec.l1Number params 2 ntmps 60
-- loop head live: [0,1,4,6,7]
def ac81 : Cd := .seq (.region [⟨(some 4),.alloc [(.d (.int .i64 0)),(.d (.int .i64 0)),(.d (.str [])),(.full [])],none⟩,
 ⟨(some 5),.mv (.k (.c (.d (.int .i64 0)))),none⟩] [5])
 (.seq (.region [⟨(some 10),.mv (.t 1),none⟩,
 ⟨(some 6),.mv (.t 10),none⟩] [10])
 (.seq (.seq (.region [⟨(some 11),.mv (.t 0),none⟩,
 ⟨(some 12),.mv (.t 6),none⟩,
 ⟨(some 13),.qcall 77 [(.t 11),(.t 12),(.k (.c (.d (.int .u8 45))))],none⟩] [11,12])
 (.cond (.t 13)
 (.region [⟨(some 14),.mv (.t 6),none⟩,
 ⟨(some 15),.bin .add (.t 14) (.k (.c (.d (.int .i64 1)))),none⟩,
 ⟨(some 6),.mv (.t 15),none⟩] [13,14,15])
 (.skip)))
 (.seq (.region [⟨(some 16),.mv (.t 6),none⟩,
 ⟨(some 7),.mv (.t 16),none⟩] [13,16])
 (.seq (.block 0 (.loop (.seq (.seq (.region [⟨(some 17),.mv (.t 0),none⟩,
 ⟨(some 18),.mv (.t 6),none⟩,
 ⟨(some 19),.qcall 80 [(.t 17),(.t 18)],none⟩,
 ⟨(some 20),.mv (.t 19),none⟩,
 ⟨(some 21),.mv (.t 6),some (20,true)⟩,
 ⟨(some 22),.mv (.t 7),some (20,true)⟩,
 ⟨(some 23),.bin .add (.t 22) (.k (.c (.d (.int .i64 4)))),some (20,true)⟩,
 ⟨(some 24),.bin .lss (.t 21) (.t 23),some (20,true)⟩,
 ⟨(some 25),.pick (.t 20) (.t 24) (.k (.c (.d (.bool false)))),none⟩] [17,18,19,20,21,22,23,24])
 (.cond (.t 25)
 (.skip)
 (.exit 0)))
 (.block 1 (.region [⟨(some 26),.mv (.t 6),none⟩,
 ⟨(some 27),.bin .add (.t 26) (.k (.c (.d (.int .i64 1)))),none⟩,
 ⟨(some 6),.mv (.t 27),none⟩] [25,26,27])))))
 (.seq (.region [⟨(some 29),.mv (.t 0),none⟩,
 ⟨(some 30),.mv (.t 7),none⟩,
 ⟨(some 31),.mv (.t 6),none⟩,
 ⟨(some 32),.slice 0 (.t 29) (some (.t 30)) (some (.t 31)) none,none⟩,
 ⟨(some 33),.qcall 106 [(.t 32)],none⟩,
 ⟨(some 28),.mv (.t 33),none⟩,
 ⟨(some 34),.extract 0 (.t 28),none⟩,
 ⟨(some 35),.extract 1 (.t 28),none⟩,
 ⟨(some 8),.mv (.t 34),none⟩,
 ⟨(some 9),.mv (.t 35),none⟩] [0,28,29,30,31,32,33,34,35])
 (.seq (.seq (.region [⟨(some 36),.mv (.t 9),none⟩,
 ⟨(some 37),.un .not (.t 36),none⟩,
 ⟨(some 38),.mv (.t 37),none⟩,
 ⟨(some 39),.mv (.t 7),some (38,false)⟩,
 ⟨(some 40),.mv (.t 1),some (38,false)⟩,
 ⟨(some 41),.bin .gtr (.t 39) (.t 40),some (38,false)⟩,
 ⟨(some 42),.mv (.t 41),some (38,false)⟩,
 ⟨(some 43),.mv (.t 8),some (42,true)⟩,
 ⟨(some 44),.bin .eql (.t 43) (.k (.c (.d (.int .i64 0)))),some (42,true)⟩,
 ⟨(some 45),.pick (.t 42) (.t 44) (.k (.c (.d (.bool false)))),some (38,false)⟩,
 ⟨(some 46),.pick (.t 38) (.k (.c (.d (.bool true)))) (.t 45),none⟩,
 ⟨(some 47),.mv (.t 46),none⟩,
 ⟨(some 48),.mv (.t 8),some (47,false)⟩,
 ⟨(some 49),.bin .gtr (.t 48) (.k (.c (.d (.int .i64 999)))),some (47,false)⟩,
 ⟨(some 50),.pick (.t 47) (.k (.c (.d (.bool true)))) (.t 49),none⟩] [9,36,37,38,39,40,41,42,43,44,45,46,47,48,49])
 (.cond (.t 50)
 (.seq (.region [⟨(some 51),.build [(.d (.int .i64 0)),(.d (.int .i64 0)),(.d (.str [])),(.full [])] [],none⟩,
 ⟨none,.store 4 (.t 4) (.t 51),none⟩,
 ⟨(some 5),.mv (.k (.c (.d (.int .i64 (-1))))),none⟩] [1,6,7,8,50,51])
 (.ret))
 (.skip)))
 (.seq (.seq (.region [⟨(some 52),.mv (.t 7),none⟩,
 ⟨(some 53),.mv (.t 1),none⟩,
 ⟨(some 54),.bin .gtr (.t 52) (.t 53),none⟩] [1,5,7,50,52,53])
 (.cond (.t 54)
 (.region [⟨(some 55),.mv (.t 8),none⟩,
 ⟨(some 56),.un .neg (.t 55),none⟩,
 ⟨(some 8),.mv (.t 56),none⟩] [54,55,56])
 (.skip)))
 (.seq (.region [⟨(some 57),.mv (.t 8),none⟩,
 ⟨(some 58),.qcall 55 [(.t 57)],none⟩,
 ⟨(some 59),.mv (.t 6),none⟩,
 ⟨none,.store 4 (.t 4) (.t 58),none⟩,
 ⟨(some 5),.mv (.t 59),none⟩] [6,8,54,57,58,59])
 (.ret)))))))))
theorem ac81_ok : cFunc Tryz.prog [1000055,1000077,1000080,1000106] [(0,[5],[]),(1,[10],[]),(2,[11,12],[]),(3,[13,14,15],[]),(4,[13,16],[]),(5,[17,18,19,20,21,22,23,24],[]),(6,[25,26,27],[]),(7,[0,28,29,30,31,32,33,34,35],[]),(8,[9,36,37,38,39,40,41,42,43,44,45,46,47,48,49],[]),(9,[1,6,7,8,50,51],[]),(10,[1,5,7,50,52,53],[]),(11,[54,55,56],[]),(12,[6,8,54,57,58,59],[])] Tryz.f81 = some (ac81,[.cell 4 (some 4),.tmp 5],60) := by kernel_rfl
theorem cutS_succ {s : List UInt8} {i j : Nat} (hij : i ≤ j) (hj : j < s.length) : cutS s i (j + 1) = cutS s i j ++ [s[j]] := by
  unfold cutS
  rw [List.take_succ_eq_append_getElem hj, List.drop_append_of_le_length (by simp; omega)]
theorem cutS_same (s : List UInt8) (i : Nat) : cutS s i i = [] := by
  unfold cutS
  exact List.drop_of_length_le (by simp; omega)
/-- a run that stops -/
theorem runE_stop {p : List UInt8 → Nat → Bool} {s : List UInt8} : ∀ (n i m : Nat), m ≤ n → (∀ k, k < m → p s (i + k) = true) → (m = n ∨ p s (i + m) = false) → runE p s n i = i + m
  | 0, i, m, hm, _, _ => by
    have : m = 0 := by omega
    subst this; rfl
  | n + 1, i, 0, hm, _, h => by
    rcases h with h | h
    · omega
    · unfold runE; rw [if_neg (by simpa using h)]; rfl
  | n + 1, i, m + 1, hm, h1, h => by
    have h0 : p s i = true := h1 0 (by omega)
    unfold runE
    rw [if_pos h0, runE_stop n (i + 1) m (by omega) (fun k hk => by have := h1 (k + 1) (by omega); rwa [show i + 1 + k = i + (k + 1) by omega]) (by
      rcases h with h | h
      · left; omega
      · right; rwa [show i + 1 + m = i + (m + 1) by omega])]
    omega
theorem cut_digs {s : List UInt8} (p : Nat) : ∀ k : Nat, p + k ≤ s.length → (∀ m, m < k → digAt s (p + m) = true) → (cutS s p (p + k)).all digB = true
  | 0, _, _ => by rw [Nat.add_zero, cutS_same]; rfl
  | k + 1, h, hd => by
    rw [show p + (k + 1) = p + k + 1 by omega, cutS_succ (by omega) (by omega), List.all_append, cut_digs p k (by omega) fun m hm => hd m (by omega)]
    have h1 := hd k (by omega)
    have hlt : p + k < s.length := by omega
    simp [digAt, hlt] at h1
    simp [h1]
def numA : Option (Int × Nat) → A
  | some (n, j) => .tup [.agg ((Tm.mk 2 n [] []).row.map .d), .c (.d (.int .i64 j))]
  | none => .tup [.agg ((Tm.mk 0 0 [] []).row.map .d), .c (.d (.int .i64 (-1)))]
set_option maxHeartbeats 1600000 in
theorem number_calls (s : List UInt8) (hs : s.length ≤ 1000000) (i : Nat) (hi : i ≤ s.length) (H : Heap) : ACalls Tryz.prog 81 [.c (.d (.str s)), .c (.d (.int .i64 i))] H (fun r H' => H' = H ∧ r = numA (numR s i)) := by
  refine acalls Tryz.func81 (by kernel_rfl) ac81_ok fun hf => ?_
  have hi1 : inR .i64 ((i : Int) + 1) := small_i64 (by omega) (by omega)
  simp -implicitDefEqProofs [ac81, go_sem, -List.set_cons_succ, -List.set_cons_zero]
  refine qcall_pure (sign_calls s hs i (by omega) 45) hf rfl ?_
  cases hsg : sgn s i 45 with
  | true =>
    have hlt := sgn_lt hsg
    simp -implicitDefEqProofs [hi1, go_sem, -List.set_cons_succ, -List.set_cons_zero]
    refine loop_set (σ := Nat) (fun k => [(6, .c (.d (.int .i64 ((i + 1 + k : Nat) : Int))))]) (fun _ => H) (fun _ => [.cells [.d (.int .i64 0), .d (.int .i64 0), .d (.str []), .full []]]) (fun k => k ≤ 4 ∧ i + 1 + k ≤ s.length ∧ ∀ m, m < k → digAt s (i + 1 + m) = true) (fun k => 4 - k) 0 (by simp [setAll]) ⟨by omega, by omega, by simp⟩ ?_
    rintro k ⟨hk4, hkl, hkd⟩
    have hpk4 : inR .i64 (((i + 1 : Nat) : Int) + 4) := small_i64 (by omega) (by omega)
    have hpk4' : inR .i64 ((i : Int) + 1 + 4) := small_i64 (by omega) (by omega)
    have hpk : inR .i64 (((i + 1 : Nat) : Int) + (k : Int) + 1) := small_i64 (by omega) (by omega)
    have hpk' : inR .i64 ((i : Int) + 1 + (k : Int) + 1) := small_i64 (by omega) (by omega)
    simp -implicitDefEqProofs [setAll, go_sem, -List.set_cons_succ, -List.set_cons_zero]
    have cd := digit_calls s hs (i + 1 + k) (by omega)
    simp only [Int.natCast_add, Int.cast_ofNat_Int] at cd
    refine qcall_pure cd hf rfl ?_
    have stop : (k = 4 ∨ digAt s (i + 1 + k) = false) → runE digAt s 4 (i + 1) = i + 1 + k := fun h => runE_stop 4 (i + 1) k hk4 hkd h
    have fin : runE digAt s 4 (i + 1) = i + 1 + k → True := fun _ => trivial
    cases hdg : digAt s (i + 1 + k) with
    | true =>
      by_cases hk3 : k < 4
      · have c1 : (i : Int) + 1 + (k : Int) < (i : Int) + 1 + 4 := by omega
        simp -implicitDefEqProofs [hpk4, hpk4', c1, hpk, hpk', hk3, go_sem, -List.set_cons_succ, -List.set_cons_zero]
        have hlt := dig_lt _ hdg
        exact loop_back (k + 1) (by simp [setAll, Int.add_assoc]) ⟨by omega, by omega, fun m hm => by
          rcases Nat.lt_or_ge m k with h | h
          · exact hkd m h
          · obtain rfl : m = k := by omega
            exact hdg⟩ (by show 4 - (k + 1) < 4 - k; omega)
      · obtain rfl : k = 4 := by omega
        have he := stop (.inl rfl)
        simp -implicitDefEqProofs [hpk4, hpk4', go_sem, -List.set_cons_succ, -List.set_cons_zero]
        obtain ⟨T, hT⟩ : ∃ T, T = cutS s (i + 1) (i + 1 + 4) := ⟨_, rfl⟩
        have hTd : T.all digB = true := by rw [hT]; exact cut_digs (i + 1) 4 hkl hkd
        have hTl : T.length ≤ 17 := by rw [hT, cutS_len]; omega
        have hnat : ((i : Int) + 1 + 4).toNat = i + 1 + 4 := by omega
        have hnm := num_calls T hTl hTd
        have hVl := numV_lt T.length T rfl hTd
        have hTk : T.length ≤ 4 := by rw [hT, cutS_len]; omega
        have hp4 : 10 ^ T.length ≤ 10 ^ 4 := Nat.pow_le_pow_right (by omega) hTk
        have hR : numR s i = if canB T then if (true && decide (numV T = 0)) || decide (999 < numV T) then none else some (-(numV T : Int), i + 1 + 4) else none := by
          unfold numR
          simp only [hsg, if_true, if_false, Bool.false_eq_true, he, ← hT]
        rw [hR, hnat]
        have hT' : (s.take (i + 1 + 4)).drop (i + 1) = T := hT.symm
        rw [hT']
        refine ⟨by omega, qcall_pure hnm hf rfl ?_⟩
        have hii : (i : Int) < (i : Int) + 1 := by omega
        have hij : ¬ (i : Int) + 1 ≤ (i : Int) := by omega
        have i1 : inR .i64 (0 - (numV T : Int)) := small_i64 (by omega) (by omega)
        have i2 : inR .i64 (-(numV T : Int)) := small_i64 (by omega) (by omega)
        cases hc : canB T with
        | false => simp -implicitDefEqProofs [numA, row_mk, hf, hii, hij, go_sem, -List.set_cons_succ, -List.set_cons_zero]
        | true =>
          by_cases h0 : numV T = 0
          · simp -implicitDefEqProofs [h0, numA, row_mk, hf, hii, hij, go_sem, -List.set_cons_succ, -List.set_cons_zero]
          · by_cases h9 : 999 < numV T
            · have h9' : (999 : Int) < numV T := by omega
              have h0' : ((numV T : Int) == 0) = false := by simp; omega
              simp -implicitDefEqProofs [h0, h0', h9, h9', numA, row_mk, hf, hii, hij, go_sem, -List.set_cons_succ, -List.set_cons_zero]
            · have h9' : ¬ (999 : Int) < numV T := by omega
              have h0' : ((numV T : Int) == 0) = false := by simp; omega
              simp -implicitDefEqProofs [h0, h0', h9, h9', i1, i2, hf, hii, hij, go_sem, -List.set_cons_succ, -List.set_cons_zero]
              refine qcall_pure (int_calls (-(numV T : Int))) hf (by simp [A.re, re_d]) ?_
              simp -implicitDefEqProofs [numA, row_mk, hf, hii, hij, go_sem, -List.set_cons_succ, -List.set_cons_zero]
    | false =>
      have he := stop (.inr hdg)
      simp -implicitDefEqProofs [go_sem, -List.set_cons_succ, -List.set_cons_zero]
      obtain ⟨T, hT⟩ : ∃ T, T = cutS s (i + 1) (i + 1 + k) := ⟨_, rfl⟩
      have hTd : T.all digB = true := by rw [hT]; exact cut_digs (i + 1) k hkl hkd
      have hTl : T.length ≤ 17 := by rw [hT, cutS_len]; omega
      have hnat : ((i : Int) + 1 + (k : Int)).toNat = i + 1 + k := by omega
      have hnm := num_calls T hTl hTd
      have hVl := numV_lt T.length T rfl hTd
      have hTk : T.length ≤ 4 := by rw [hT, cutS_len]; omega
      have hp4 : 10 ^ T.length ≤ 10 ^ 4 := Nat.pow_le_pow_right (by omega) hTk
      have hR : numR s i = if canB T then if (true && decide (numV T = 0)) || decide (999 < numV T) then none else some (-(numV T : Int), i + 1 + k) else none := by
        unfold numR
        simp only [hsg, if_true, if_false, Bool.false_eq_true, he, ← hT]
      rw [hR, hnat]
      have hT' : (s.take (i + 1 + k)).drop (i + 1) = T := hT.symm
      rw [hT']
      refine ⟨by omega, qcall_pure hnm hf rfl ?_⟩
      have hii : (i : Int) < (i : Int) + 1 := by omega
      have hij : ¬ (i : Int) + 1 ≤ (i : Int) := by omega
      have i1 : inR .i64 (0 - (numV T : Int)) := small_i64 (by omega) (by omega)
      have i2 : inR .i64 (-(numV T : Int)) := small_i64 (by omega) (by omega)
      cases hc : canB T with
      | false => simp -implicitDefEqProofs [numA, row_mk, hf, hii, hij, go_sem, -List.set_cons_succ, -List.set_cons_zero]
      | true =>
        by_cases h0 : numV T = 0
        · simp -implicitDefEqProofs [h0, numA, row_mk, hf, hii, hij, go_sem, -List.set_cons_succ, -List.set_cons_zero]
        · by_cases h9 : 999 < numV T
          · have h9' : (999 : Int) < numV T := by omega
            have h0' : ((numV T : Int) == 0) = false := by simp; omega
            simp -implicitDefEqProofs [h0, h0', h9, h9', numA, row_mk, hf, hii, hij, go_sem, -List.set_cons_succ, -List.set_cons_zero]
          · have h9' : ¬ (999 : Int) < numV T := by omega
            have h0' : ((numV T : Int) == 0) = false := by simp; omega
            simp -implicitDefEqProofs [h0, h0', h9, h9', i1, i2, hf, hii, hij, go_sem, -List.set_cons_succ, -List.set_cons_zero]
            refine qcall_pure (int_calls (-(numV T : Int))) hf (by simp [A.re, re_d]) ?_
            simp -implicitDefEqProofs [numA, row_mk, hf, hii, hij, go_sem, -List.set_cons_succ, -List.set_cons_zero]
  | false =>
    simp -implicitDefEqProofs [hi1, go_sem, -List.set_cons_succ, -List.set_cons_zero]
    refine loop_set (σ := Nat) (fun k => [(6, .c (.d (.int .i64 ((i + k : Nat) : Int))))]) (fun _ => H) (fun _ => [.cells [.d (.int .i64 0), .d (.int .i64 0), .d (.str []), .full []]]) (fun k => k ≤ 4 ∧ i + k ≤ s.length ∧ ∀ m, m < k → digAt s (i + m) = true) (fun k => 4 - k) 0 (by simp [setAll]) ⟨by omega, by omega, by simp⟩ ?_
    rintro k ⟨hk4, hkl, hkd⟩
    have hpk4 : inR .i64 (((i : Nat) : Int) + 4) := small_i64 (by omega) (by omega)
    have hpk4' : inR .i64 ((i : Int) + 4) := small_i64 (by omega) (by omega)
    have hpk : inR .i64 (((i : Nat) : Int) + (k : Int) + 1) := small_i64 (by omega) (by omega)
    have hpk' : inR .i64 ((i : Int) + (k : Int) + 1) := small_i64 (by omega) (by omega)
    simp -implicitDefEqProofs [setAll, go_sem, -List.set_cons_succ, -List.set_cons_zero]
    have cd := digit_calls s hs (i + k) (by omega)
    simp only [Int.natCast_add, Int.cast_ofNat_Int] at cd
    refine qcall_pure cd hf rfl ?_
    have stop : (k = 4 ∨ digAt s (i + k) = false) → runE digAt s 4 (i) = i + k := fun h => runE_stop 4 (i) k hk4 hkd h
    have fin : runE digAt s 4 (i) = i + k → True := fun _ => trivial
    cases hdg : digAt s (i + k) with
    | true =>
      by_cases hk3 : k < 4
      · have c1 : (i : Int) + (k : Int) < (i : Int) + 4 := by omega
        simp -implicitDefEqProofs [hpk4, hpk4', c1, hpk, hpk', hk3, go_sem, -List.set_cons_succ, -List.set_cons_zero]
        have hlt := dig_lt _ hdg
        exact loop_back (k + 1) (by simp [setAll, Int.add_assoc]) ⟨by omega, by omega, fun m hm => by
          rcases Nat.lt_or_ge m k with h | h
          · exact hkd m h
          · obtain rfl : m = k := by omega
            exact hdg⟩ (by show 4 - (k + 1) < 4 - k; omega)
      · obtain rfl : k = 4 := by omega
        have he := stop (.inl rfl)
        simp -implicitDefEqProofs [hpk4, hpk4', go_sem, -List.set_cons_succ, -List.set_cons_zero]
        obtain ⟨T, hT⟩ : ∃ T, T = cutS s (i) (i + 4) := ⟨_, rfl⟩
        have hTd : T.all digB = true := by rw [hT]; exact cut_digs (i) 4 hkl hkd
        have hTl : T.length ≤ 17 := by rw [hT, cutS_len]; omega
        have hnat : ((i : Int) + 4).toNat = i + 4 := by omega
        have hnm := num_calls T hTl hTd
        have hVl := numV_lt T.length T rfl hTd
        have hTk : T.length ≤ 4 := by rw [hT, cutS_len]; omega
        have hp4 : 10 ^ T.length ≤ 10 ^ 4 := Nat.pow_le_pow_right (by omega) hTk
        have hR : numR s i = if canB T then if (false && decide (numV T = 0)) || decide (999 < numV T) then none else some ((numV T : Int), i + 4) else none := by
          unfold numR
          simp only [hsg, if_true, if_false, Bool.false_eq_true, he, ← hT]
        rw [hR, hnat]
        have hT' : (s.take (i + 4)).drop (i) = T := hT.symm
        rw [hT']
        refine ⟨by omega, qcall_pure hnm hf rfl ?_⟩
        have hii : (i : Int) < (i : Int) + 1 := by omega
        have hij : ¬ (i : Int) + 1 ≤ (i : Int) := by omega
        have i1 : inR .i64 (0 - (numV T : Int)) := small_i64 (by omega) (by omega)
        have i2 : inR .i64 (-(numV T : Int)) := small_i64 (by omega) (by omega)
        cases hc : canB T with
        | false => simp -implicitDefEqProofs [numA, row_mk, hf, hii, hij, go_sem, -List.set_cons_succ, -List.set_cons_zero]
        | true =>
          by_cases h0 : numV T = 0
          · simp -implicitDefEqProofs [h0, numA, row_mk, hf, hii, hij, go_sem, -List.set_cons_succ, -List.set_cons_zero]
            refine qcall_pure (int_calls 0) hf (by simp [A.re, re_d]) ?_
            simp -implicitDefEqProofs [numA, row_mk, h0, hf, hii, hij, go_sem, -List.set_cons_succ, -List.set_cons_zero]
          · by_cases h9 : 999 < numV T
            · have h9' : (999 : Int) < numV T := by omega
              have h0' : ((numV T : Int) == 0) = false := by simp; omega
              simp -implicitDefEqProofs [h0, h0', h9, h9', numA, row_mk, hf, hii, hij, go_sem, -List.set_cons_succ, -List.set_cons_zero]
            · have h9' : ¬ (999 : Int) < numV T := by omega
              have h0' : ((numV T : Int) == 0) = false := by simp; omega
              simp -implicitDefEqProofs [h0, h0', h9, h9', i1, i2, hf, hii, hij, go_sem, -List.set_cons_succ, -List.set_cons_zero]
              refine qcall_pure (int_calls ((numV T : Int))) hf (by simp [A.re, re_d]) ?_
              simp -implicitDefEqProofs [numA, row_mk, hf, hii, hij, go_sem, -List.set_cons_succ, -List.set_cons_zero]
    | false =>
      have he := stop (.inr hdg)
      simp -implicitDefEqProofs [go_sem, -List.set_cons_succ, -List.set_cons_zero]
      obtain ⟨T, hT⟩ : ∃ T, T = cutS s (i) (i + k) := ⟨_, rfl⟩
      have hTd : T.all digB = true := by rw [hT]; exact cut_digs (i) k hkl hkd
      have hTl : T.length ≤ 17 := by rw [hT, cutS_len]; omega
      have hnat : ((i : Int) + (k : Int)).toNat = i + k := by omega
      have hnm := num_calls T hTl hTd
      have hVl := numV_lt T.length T rfl hTd
      have hTk : T.length ≤ 4 := by rw [hT, cutS_len]; omega
      have hp4 : 10 ^ T.length ≤ 10 ^ 4 := Nat.pow_le_pow_right (by omega) hTk
      have hR : numR s i = if canB T then if (false && decide (numV T = 0)) || decide (999 < numV T) then none else some ((numV T : Int), i + k) else none := by
        unfold numR
        simp only [hsg, if_true, if_false, Bool.false_eq_true, he, ← hT]
      rw [hR, hnat]
      have hT' : (s.take (i + k)).drop (i) = T := hT.symm
      rw [hT']
      refine ⟨by omega, qcall_pure hnm hf rfl ?_⟩
      have hii : (i : Int) < (i : Int) + 1 := by omega
      have hij : ¬ (i : Int) + 1 ≤ (i : Int) := by omega
      have i1 : inR .i64 (0 - (numV T : Int)) := small_i64 (by omega) (by omega)
      have i2 : inR .i64 (-(numV T : Int)) := small_i64 (by omega) (by omega)
      cases hc : canB T with
      | false => simp -implicitDefEqProofs [numA, row_mk, hf, hii, hij, go_sem, -List.set_cons_succ, -List.set_cons_zero]
      | true =>
        by_cases h0 : numV T = 0
        · simp -implicitDefEqProofs [h0, numA, row_mk, hf, hii, hij, go_sem, -List.set_cons_succ, -List.set_cons_zero]
          refine qcall_pure (int_calls 0) hf (by simp [A.re, re_d]) ?_
          simp -implicitDefEqProofs [numA, row_mk, h0, hf, hii, hij, go_sem, -List.set_cons_succ, -List.set_cons_zero]
        · by_cases h9 : 999 < numV T
          · have h9' : (999 : Int) < numV T := by omega
            have h0' : ((numV T : Int) == 0) = false := by simp; omega
            simp -implicitDefEqProofs [h0, h0', h9, h9', numA, row_mk, hf, hii, hij, go_sem, -List.set_cons_succ, -List.set_cons_zero]
          · have h9' : ¬ (999 : Int) < numV T := by omega
            have h0' : ((numV T : Int) == 0) = false := by simp; omega
            simp -implicitDefEqProofs [h0, h0', h9, h9', i1, i2, hf, hii, hij, go_sem, -List.set_cons_succ, -List.set_cons_zero]
            refine qcall_pure (int_calls ((numV T : Int))) hf (by simp [A.re, re_d]) ?_
            simp -implicitDefEqProofs [numA, row_mk, hf, hii, hij, go_sem, -List.set_cons_succ, -List.set_cons_zero]
end Go.Proofs.YtgfmlifkhpjplaaGreatDoor

/-
  Numbers as the program reads them: the plain law.
  Conditions: none.
-/
open Go Go.AM Go.Proofs
namespace Go.Proofs.YtgfmlifkhpjplaaGreatDoor
set_option linter.unusedVariables false
set_option linter.unusedSimpArgs false
set_option maxRecDepth 100000
def ofDs (ds : List Nat) : List UInt8 := ds.map fun x => UInt8.ofNat (48 + x)
def canOk (l : List UInt8) : Bool := !canB l || dec3 (numV l) == l
theorem can1 : ((List.range 10).all fun x => canOk (ofDs [x])) = true := by kernel_rfl
theorem can2 : ((List.range 100).all fun x => canOk (ofDs [x / 10, x % 10])) = true := by kernel_rfl
theorem can3 : ((List.range 1000).all fun x => canOk (ofDs [x / 100, x / 10 % 10, x % 10])) = true := by kernel_rfl
theorem dig_of {b : UInt8} (h : digB b = true) : ∃ x, x < 10 ∧ b = UInt8.ofNat (48 + x) := by
  simp only [digB, Bool.and_eq_true, decide_eq_true_eq] at h
  refine ⟨b.toNat - 48, by omega, ?_⟩
  rw [show 48 + (b.toNat - 48) = b.toNat by omega]
  simp
theorem canon3 {l : List UInt8} (h : canB l = true) (h3 : l.length ≤ 3) : dec3 (numV l) = l := by
  have hd := can_digs h
  have key : canOk l = true → dec3 (numV l) = l := fun hk => by
    simp only [canOk, h, Bool.not_true, Bool.false_or, beq_iff_eq] at hk
    exact hk
  apply key
  match l, h3 with
  | [], _ => simp [canB] at h
  | [a], _ =>
    simp at hd
    obtain ⟨x, hx, rfl⟩ := dig_of hd
    exact List.all_eq_true.1 can1 x (by simp; omega)
  | [a, b], _ =>
    simp at hd
    obtain ⟨x, hx, rfl⟩ := dig_of hd.1
    obtain ⟨y, hy, rfl⟩ := dig_of hd.2
    have := List.all_eq_true.1 can2 (10 * x + y) (by simp; omega)
    rw [show (10 * x + y) / 10 = x by omega, show (10 * x + y) % 10 = y by omega] at this
    exact this
  | [a, b, c], _ =>
    simp at hd
    obtain ⟨x, hx, rfl⟩ := dig_of hd.1
    obtain ⟨y, hy, rfl⟩ := dig_of hd.2.1
    obtain ⟨z, hz, rfl⟩ := dig_of hd.2.2
    have := List.all_eq_true.1 can3 (100 * x + 10 * y + z) (by simp; omega)
    rw [show (100 * x + 10 * y + z) / 100 = x by omega, show (100 * x + 10 * y + z) / 10 % 10 = y by omega, show (100 * x + 10 * y + z) % 10 = z by omega] at this
    exact this
def atOk (n : Int) : Bool := match Lib.atoiAll (itoa3 n) with
  | .ok v => decide (v = n)
  | _ => false
theorem at_all : ((List.range 1000).all fun x => atOk x && atOk (-x)) = true := by kernel_rfl
theorem atoi_itoa3 {n : Int} (h0 : -999 ≤ n) (h1 : n ≤ 999) : Lib.atoiAll (itoa3 n) = .ok n := by
  have := List.all_eq_true.1 at_all n.natAbs (by simp; omega)
  rw [Bool.and_eq_true] at this
  have h : atOk n = true := by
    by_cases hn : 0 ≤ n
    · rw [show n = (n.natAbs : Int) by omega]; exact this.1
    · rw [show n = -(n.natAbs : Int) by omega]; exact this.2
  unfold atOk at h
  split at h
  · rename_i v hv
    rw [hv, of_decide_eq_true h]
  · cases h
theorem parse_digs : ∀ (l : List UInt8) (acc : Nat), l.all digB = true → endOk (Lib.parseUint10 acc l) = true
  | [], acc, _ => by simp [Lib.parseUint10, endOk]
  | c :: r, acc, h => by
    simp only [List.all_cons, Bool.and_eq_true] at h
    have hc := h.1
    simp only [digB, Bool.and_eq_true, decide_eq_true_eq] at hc
    simp only [Lib.parseUint10]
    rw [if_pos hc]
    split
    · rfl
    · split
      · rfl
      · exact parse_digs r _ h.2
theorem mag_digs {l : List UInt8} (h : l.all digB = true) (hne : l ≠ []) : endOk (Lib.parseMag l) = true := by
  unfold Lib.parseMag
  rw [if_neg hne]
  exact parse_digs l 0 h
/-- digits, with or without a sign -/
theorem atoi_digs {l : List UInt8} (h : l.all digB = true) (hne : l ≠ []) : endOk (Lib.atoiAll l) = true ∧ endOk (Lib.atoiAll (45 :: l)) = true := by
  have hm0 := mag_digs h hne
  constructor
  · cases l with
    | nil => exact absurd rfl hne
    | cons c r =>
      have hc : digB c = true := by simp at h; exact h.1
      simp only [digB, Bool.and_eq_true, decide_eq_true_eq] at hc
      rw [Lib.atoiAll_plain c r (by omega) (by omega)]
      cases hm : Lib.parseMag (c :: r) with
      | range => rfl
      | ok u => simp only [Lib.signless]; split <;> rfl
      | _ => rw [hm] at hm0; cases hm0
  · rw [Lib.atoiAll_minus]
    cases hm : Lib.parseMag l with
    | range => rfl
    | ok u => simp only [Lib.signed]; split <;> rfl
    | _ => rw [hm] at hm0; cases hm0
theorem take_while_split (p : UInt8 → Bool) : ∀ l : List UInt8, ∃ w r, l = w ++ r ∧ w.all p = true ∧ ∀ c r', r = c :: r' → p c = false
  | [] => ⟨[], [], rfl, rfl, by simp⟩
  | c :: l => by
    cases hc : p c with
    | true =>
      obtain ⟨w, r, h1, h2, h3⟩ := take_while_split p l
      exact ⟨c :: w, r, by rw [h1]; rfl, by simp [hc, h2], h3⟩
    | false => exact ⟨[], c :: l, rfl, rfl, fun d r' e => by cases e; exact hc⟩
/-- where a number stands -/
theorem num_split {s : List UInt8} {a : Nat} (h : digAt s a = true ∨ (sgn s a 45 = true ∧ digAt s (a + 1) = true)) :
    ∃ ds r, ds ≠ [] ∧ ds.all digB = true ∧ (∀ c r', r = c :: r' → digB c = false) ∧ (s.drop a = ds ++ r ∨ s.drop a = 45 :: ds ++ r) := by
  have get : ∀ i b, s[i]? = some b → s.drop i = b :: s.drop (i + 1) := fun i b hb => by
    obtain ⟨h1, h2⟩ := List.getElem?_eq_some_iff.1 hb
    rw [List.drop_eq_getElem_cons h1, h2]
  have dg : ∀ i, digAt s i = true → ∃ b, s[i]? = some b ∧ digB b = true := fun i hi => by
    unfold digAt at hi
    split at hi
    · rename_i b hb; exact ⟨b, hb, hi⟩
    · cases hi
  have main : ∀ i, digAt s i = true → ∃ ds r, ds ≠ [] ∧ ds.all digB = true ∧ (∀ c r', r = c :: r' → digB c = false) ∧ s.drop i = ds ++ r := fun i hi => by
    obtain ⟨b, hb, hd⟩ := dg i hi
    obtain ⟨w, r, h1, h2, h3⟩ := take_while_split digB (s.drop (i + 1))
    exact ⟨b :: w, r, by simp, by simp [hd, h2], h3, by rw [get i b hb, h1]; rfl⟩
  rcases h with h | ⟨h1, h2⟩
  · obtain ⟨ds, r, q1, q2, q3, q4⟩ := main a h
    exact ⟨ds, r, q1, q2, q3, .inl q4⟩
  · obtain ⟨ds, r, q1, q2, q3, q4⟩ := main (a + 1) h2
    have : s[a]? = some 45 := by
      unfold sgn at h1
      split at h1
      · rename_i b hb; simp at h1; rw [hb, h1]
      · cases h1
    exact ⟨ds, r, q1, q2, q3, .inr (by rw [get a 45 this, q4]; rfl)⟩
theorem four_big {l : List UInt8} (h : canB l = true) (h4 : l.length = 4) : 999 < numV l := by
  match l, h4 with
  | [a, b, c, d], _ =>
    have hd := can_digs h
    simp at hd
    simp [canB] at h
    have ha : a ≠ 48 := h.1
    have hd1 := hd.1
    simp only [digB, Bool.and_eq_true, decide_eq_true_eq] at hd1
    have : a.toNat ≠ 48 := fun e => ha (UInt8.toNat_inj.1 e)
    simp [numV]
    omega
/-- the digits that the reference looks at -/
theorem run4 {s : List UInt8} {i : Nat} {ds r : List UInt8} (hd : ds.all digB = true) (hr : ∀ c r', r = c :: r' → digB c = false) (h : s.drop i = ds ++ r) : runE digAt s 4 i = i + (ds.take 4).length ∧ cutS s i (i + (ds.take 4).length) = ds.take 4 := by
  have h2 : s.drop i = ds.take 4 ++ (ds.drop 4 ++ r) := by rw [← List.append_assoc, List.take_append_drop]; exact h
  refine ⟨?_, cut_dr h2⟩
  by_cases hl : ds.length ≤ 4
  · rw [List.take_of_length_le hl]
    exact run_dr digAt_def h hd hr hl
  · have h4 : (ds.take 4).length = 4 := by simp; omega
    rw [h4]
    refine runE_stop 4 i 4 (Nat.le_refl _) (fun k hk => ?_) (.inl rfl)
    have hk2 : k < ds.length := by omega
    have : s[i + k]? = some ds[k] := by
      rw [← List.getElem?_drop, h, List.getElem?_append_left hk2, List.getElem?_eq_getElem hk2]
    unfold digAt
    rw [this]
    exact List.all_eq_true.1 hd _ (List.getElem_mem hk2)
/-- the program's number against the reference's -/
theorem number_law {s : List UInt8} {a : Nat} (ha : a ≤ s.length) (h : digAt s a = true ∨ (sgn s a 45 = true ∧ digAt s (a + 1) = true)) :
    a + 1 ≤ runE digAt s s.length (a + 1) ∧ runE digAt s s.length (a + 1) ≤ s.length ∧ endOk (Lib.atoiAll (cutS s a (runE digAt s s.length (a + 1)))) = true ∧
    match numR s a with
    | some (n, j) => Lib.atoiAll (cutS s a (runE digAt s s.length (a + 1))) = .ok n ∧ Lib.itoa n = cutS s a (runE digAt s s.length (a + 1)) ∧ runE digAt s s.length (a + 1) = j ∧ -999 ≤ n ∧ n ≤ 999
    | none => ∀ n, Lib.itoa n = cutS s a (runE digAt s s.length (a + 1)) → ¬ (-999 ≤ n ∧ n ≤ 999) := by
  obtain ⟨ds, r, h1, h2, h3, h4⟩ := num_split h
  obtain ⟨D, hD, hdr, hrun, hDs⟩ : ∃ D, (D = ds ∨ D = 45 :: ds) ∧ s.drop a = D ++ r ∧ runE digAt s s.length (a + 1) = a + D.length ∧ endOk (Lib.atoiAll D) = true := by
    have hat := atoi_digs h2 h1
    rcases h4 with h4 | h4
    · refine ⟨ds, .inl rfl, h4, ?_, hat.1⟩
      have hlen := dr_len h4 ha
      cases hds : ds with
      | nil => exact absurd hds h1
      | cons c w =>
        rw [hds] at h4 h2
        have hd2 : s.drop (a + 1) = w ++ r := by
          have := dr_add (w := [c]) (r := w ++ r) (s := s) (i := a) (by simpa using h4)
          simpa using this
        have hlw : w.length ≤ s.length := by rw [hds] at hlen; simp at hlen; omega
        have hw : w.all digB = true := by simp at h2; exact List.all_eq_true.2 h2.2
        rw [run_dr digAt_def hd2 hw h3 hlw]
        simp; omega
    · refine ⟨45 :: ds, .inr rfl, h4, ?_, hat.2⟩
      have hlen := dr_len h4 ha
      have hd2 : s.drop (a + 1) = ds ++ r := by
        have := dr_add (w := [45]) (r := ds ++ r) (s := s) (i := a) (by simpa using h4)
        simpa using this
      rw [run_dr digAt_def hd2 h2 h3 (by simp at hlen; omega)]
      simp; omega
  have hlen := dr_len hdr ha
  have hpos : 1 ≤ D.length := by
    rcases hD with rfl | rfl
    · exact List.length_pos_iff.2 h1
    · simp
  rw [hrun, cut_dr hdr]
  refine ⟨by omega, by omega, hDs, ?_⟩
  cases hn : numR s a with
  | none =>
    intro n hi ⟨b0, b1⟩
    rw [← itoa3_eq b0 b1] at hi
    rw [← hi] at hdr
    rw [numR_dr b0 b1 hdr h3] at hn
    cases hn
  | some q =>
    obtain ⟨n, j⟩ := q
    have hok := numR_ok ha hn
    have key : D = itoa3 n ∧ j = a + D.length := by
      rcases hD with rfl | rfl
      · have hsg : sgn s a 45 = false := by
          cases hds : D with
          | nil => exact absurd hds h1
          | cons c w =>
            rw [hds] at hdr h2
            rw [sgn_dr (c := c) (r := w ++ r) (by simpa using hdr)]
            simp only [List.all_cons, Bool.and_eq_true] at h2
            have := h2.1
            cases hc : (c == 45) with
            | false => rfl
            | true => simp at hc; subst hc; simp [digB] at this
        obtain ⟨r1, r2⟩ := run4 h2 h3 hdr
        unfold numR at hn
        simp only [hsg, Bool.false_eq_true, if_false, r1, r2, Bool.false_and, Bool.false_or] at hn
        split at hn
        · rename_i hc
          split at hn
          · cases hn
          · rename_i hv
            simp at hv
            simp only [Option.some.injEq, Prod.mk.injEq] at hn
            have hl3 : (D.take 4).length ≤ 3 := by
              rcases Nat.lt_or_ge (D.take 4).length 4 with h | h
              · omega
              · have := four_big hc (by simp at h ⊢; omega); omega
            have hD4 : D.take 4 = D := List.take_of_length_le (by simp at hl3; omega)
            rw [hD4] at hc hl3 hn
            refine ⟨?_, hn.2.symm⟩
            rw [← hn.1]
            unfold itoa3
            rw [if_neg (by omega), Int.toNat_natCast, canon3 hc hl3]
        · cases hn
      · have hsg : sgn s a 45 = true := by rw [sgn_dr (c := 45) (r := ds ++ r) (by simpa using hdr)]; rfl
        have hd2 : s.drop (a + 1) = ds ++ r := by
          have := dr_add (w := [45]) (r := ds ++ r) (s := s) (i := a) (by simpa using hdr)
          simpa using this
        obtain ⟨r1, r2⟩ := run4 h2 h3 hd2
        unfold numR at hn
        simp only [hsg, if_true, r1, r2, Bool.true_and] at hn
        split at hn
        · rename_i hc
          split at hn
          · cases hn
          · rename_i hv
            simp at hv
            simp only [Option.some.injEq, Prod.mk.injEq] at hn
            have hl3 : (ds.take 4).length ≤ 3 := by
              rcases Nat.lt_or_ge (ds.take 4).length 4 with h | h
              · omega
              · have := four_big hc (by simp at h ⊢; omega); omega
            have hD4 : ds.take 4 = ds := List.take_of_length_le (by simp at hl3; omega)
            rw [hD4] at hc hl3 hn hv
            refine ⟨?_, by rw [← hn.2]; simp; omega⟩
            rw [← hn.1]
            unfold itoa3
            rw [if_pos (by omega), show (-(numV ds : Int)).natAbs = numV ds by omega, canon3 hc hl3]
        · cases hn
    obtain ⟨k1, k2⟩ := key
    refine ⟨?_, ?_, k2.symm, hok.2.2.1, hok.2.2.2⟩
    · rw [k1]; exact atoi_itoa3 hok.2.2.1 hok.2.2.2
    · rw [← itoa3_eq hok.2.2.1 hok.2.2.2, k1]
end Go.Proofs.YtgfmlifkhpjplaaGreatDoor

/-
  Numerals of the reference.
  Conditions: none.
-/
open Go Go.AM Go.Proofs
namespace Go.Proofs.YtgfmlifkhpjplaaGreatDoor
open Go.ChangeShapes Go.WideShapes Go.ChangeAt Go.RowKit
set_option linter.unusedVariables false
set_option linter.unusedSimpArgs false
set_option maxRecDepth 100000
-- 125 loop.example/prologserver/spec.l18Dec params 1 ntmps 31
-- loop head live: [0,3]
def ac125 : Cd := .seq (.region [⟨(some 2),.mv (.k (.c (.d (.str [])))),none⟩] [2])
 (.seq (.seq (.region [⟨(some 4),.mv (.t 0),none⟩,
 ⟨(some 5),.bin .lss (.t 4) (.k (.c (.d (.int .i64 (-9223372036854775807))))),none⟩] [4])
 (.cond (.t 5)
 (.seq (.region [⟨(some 2),.mv (.k (.c (.d (.str [45,57,50,50,51,51,55,50,48,51,54,56,53,52,55,55,53,56,48,56])))),none⟩] [0,5])
 (.ret))
 (.skip)))
 (.seq (.seq (.region [⟨(some 6),.mv (.t 0),none⟩,
 ⟨(some 7),.bin .lss (.t 6) (.k (.c (.d (.int .i64 0)))),none⟩] [2,5,6])
 (.cond (.t 7)
 (.seq (.region [⟨(some 8),.mv (.t 0),none⟩,
 ⟨(some 9),.un .neg (.t 8),none⟩,
 ⟨(some 10),.qcall 125 [(.t 9)],none⟩,
 ⟨(some 11),.bin .add (.k (.c (.d (.str [45])))) (.t 10),none⟩,
 ⟨(some 2),.mv (.t 11),none⟩] [0,7,8,9,10,11])
 (.ret))
 (.skip)))
 (.seq (.region [⟨(some 3),.mv (.k (.c (.d (.str [])))),none⟩] [2,7])
 (.seq (.block 0 (.loop (.seq (.seq (.region [⟨(some 12),.mv (.t 0),none⟩,
 ⟨(some 13),.bin .gtr (.t 12) (.k (.c (.d (.int .i64 9)))),none⟩] [12])
 (.cond (.t 13)
 (.skip)
 (.exit 0)))
 (.block 1 (.seq (.region [⟨(some 14),.mv (.t 0),none⟩,
 ⟨(some 15),.bin .rem (.t 14) (.k (.c (.d (.int .i64 10)))),none⟩,
 ⟨(some 16),.bin .add (.k (.c (.d (.int .i64 48)))) (.t 15),none⟩,
 ⟨(some 17),.cvInt .u8 (.t 16),none⟩,
 ⟨(some 18),.buildSlice 1 1 [(.int .u8 0)] [(0,(.t 17))],none⟩,
 ⟨(some 19),.cvB2S (.t 18),none⟩,
 ⟨(some 20),.mv (.t 3),none⟩,
 ⟨(some 21),.bin .add (.t 19) (.t 20),none⟩,
 ⟨(some 3),.mv (.t 21),none⟩] [13,14,15,16,17,18,19,20,21])
 (.region [⟨(some 22),.mv (.t 0),none⟩,
 ⟨(some 23),.bin .quo (.t 22) (.k (.c (.d (.int .i64 10)))),none⟩,
 ⟨(some 0),.mv (.t 23),none⟩] [22,23]))))))
 (.seq (.region [⟨(some 24),.mv (.t 0),none⟩,
 ⟨(some 25),.bin .add (.k (.c (.d (.int .i64 48)))) (.t 24),none⟩,
 ⟨(some 26),.cvInt .u8 (.t 25),none⟩,
 ⟨(some 27),.buildSlice 1 1 [(.int .u8 0)] [(0,(.t 26))],none⟩,
 ⟨(some 28),.cvB2S (.t 27),none⟩,
 ⟨(some 29),.mv (.t 3),none⟩,
 ⟨(some 30),.bin .add (.t 28) (.t 29),none⟩,
 ⟨(some 2),.mv (.t 30),none⟩] [0,3,24,25,26,27,28,29,30])
 (.ret))))))
theorem ac125_ok : cFunc Tryz.prog [1000125] [(0,[2],[]),(1,[4],[]),(2,[0,5],[]),(3,[2,5,6],[]),(4,[0,7,8,9,10,11],[]),(5,[2,7],[]),(6,[12],[]),(7,[13,14,15,16,17,18,19,20,21],[]),(8,[22,23],[]),(9,[0,3,24,25,26,27,28,29,30],[])] Tryz.f125 = some (ac125,[.tmp 2],31) := by kernel_rfl
-- 100 loop.example/prologserver/spec.l1Dec params 1 ntmps 11
def ac100 : Cd := .seq (.region [⟨(some 2),.mv (.k (.c (.d (.str [])))),none⟩] [2])
 (.seq (.seq (.region [⟨(some 3),.mv (.t 0),none⟩,
 ⟨(some 4),.bin .lss (.t 3) (.k (.c (.d (.int .i64 0)))),none⟩] [3])
 (.cond (.t 4)
 (.seq (.region [⟨(some 5),.mv (.t 0),none⟩,
 ⟨(some 6),.un .neg (.t 5),none⟩,
 ⟨(some 7),.qcall 125 [(.t 6)],none⟩,
 ⟨(some 8),.bin .add (.k (.c (.d (.str [45])))) (.t 7),none⟩,
 ⟨(some 2),.mv (.t 8),none⟩] [0,4,5,6,7,8])
 (.ret))
 (.skip)))
 (.seq (.region [⟨(some 9),.mv (.t 0),none⟩,
 ⟨(some 10),.qcall 125 [(.t 9)],none⟩,
 ⟨(some 2),.mv (.t 10),none⟩] [0,4,9,10])
 (.ret)))
theorem ac100_ok : cFunc Tryz.prog [1000125] [(0,[2],[]),(1,[3],[]),(2,[0,4,5,6,7,8],[]),(3,[0,4,9,10],[])] Tryz.f100 = some (ac100,[.tmp 2],11) := by kernel_rfl
theorem dd_small {n : Nat} (h : n < 10) : Lib.decDigits n = [UInt8.ofNat (48 + n)] := by rw [Lib.decDigits, dif_pos h]
theorem dd_big {n : Nat} (h : 10 ≤ n) : Lib.decDigits n = Lib.decDigits (n / 10) ++ [UInt8.ofNat (48 + n % 10)] := by rw [Lib.decDigits, dif_neg (by omega)]
theorem b2s_one {m : Nat} {K : A → St → Prop} {st : St} (h : m < 10) (hk : K (.c (.d (.str [UInt8.ofNat (48 + m)]))) st) : B2SK true [[.int .u8 (IntKind.wrap .u8 (48 + (m : Int)))]] K st := by
  refine ⟨[UInt8.ofNat (48 + m)], fun _ => ?_, hk⟩
  have : m = 0 ∨ m = 1 ∨ m = 2 ∨ m = 3 ∨ m = 4 ∨ m = 5 ∨ m = 6 ∨ m = 7 ∨ m = 8 ∨ m = 9 := by omega
  rcases this with rfl | rfl | rfl | rfl | rfl | rfl | rfl | rfl | rfl | rfl <;> rfl
theorem dec_pos (n : Nat) (hn : (n : Int) ≤ 9223372036854775807) (H : Heap) : ACalls Tryz.prog 125 [.c (.d (.int .i64 n))] H (fun r H' => H' = H ∧ r = .c (.d (.str (Lib.itoa n)))) := by
  refine acalls Tryz.func125 (by kernel_rfl) ac125_ok fun hf => ?_
  have h0 : ¬ ((n : Int) < -9223372036854775807) := by omega
  have h1 : ¬ ((n : Int) < 0) := by omega
  simp -implicitDefEqProofs [ac125, h0, h1, go_sem, -List.set_cons_succ, -List.set_cons_zero]
  have hlen : (Lib.decDigits n).length ≤ 1000000 := by
    have := itoa_len n (by omega) (by omega)
    rwa [Lib.itoa_nonneg] at this
  rw [Lib.itoa_nonneg]
  refine loop_set (σ := Nat × List UInt8) (fun x => [(0, .c (.d (.int .i64 x.1))), (3, .c (.d (.str x.2)))]) (fun _ => H) (fun _ => []) (fun x => x.1 ≤ n ∧ Lib.decDigits n = Lib.decDigits x.1 ++ x.2) (fun x => x.1) (n, []) rfl ⟨Nat.le_refl _, by simp⟩ ?_
  rintro ⟨m, out⟩ ⟨hm, hd⟩
  have hm1 : inR .i64 ((m : Int)) := i64_def.2 (by simp at hm; omega)
  have hol : out.length ≤ 1000000 := by rw [hd] at hlen; simp at hlen; omega
  simp only at hm hd
  simp -implicitDefEqProofs [setAll, go_sem, -List.set_cons_succ, -List.set_cons_zero]
  have hmod : (m : Int).tmod 10 = ((m % 10 : Nat) : Int) := by rw [Int.tmod_eq_emod_of_nonneg (by omega)]; omega
  have hquo : (m : Int).tdiv 10 = ((m / 10 : Nat) : Int) := by rw [Int.tdiv_eq_ediv_of_nonneg (by omega)]; omega
  have hq : inR .i64 ((m / 10 : Nat) : Int) := i64_def.2 (by omega)
  refine ⟨fun hgt => ?_, fun hle => ?_⟩
  · rw [hmod]
    refine ⟨small_i64 (by omega) (by omega), b2s_one (by omega) ?_⟩
    simp -implicitDefEqProofs [setAll, hquo, hq, maxStr, go_sem, -List.set_cons_succ, -List.set_cons_zero]
    refine ⟨by omega, ?_⟩
    refine ⟨by simpa using hq, ?_⟩
    refine loop_back (m / 10, UInt8.ofNat (48 + m % 10) :: out) (by simp [setAll]) ⟨by simp only; omega, ?_⟩ (by show m / 10 < m; omega)
    rw [hd, dd_big (n := m) (by omega)]
    simp
  · refine ⟨small_i64 (by omega) (by omega), b2s_one (by omega) ?_⟩
    simp -implicitDefEqProofs [setAll, maxStr, go_sem, -List.set_cons_succ, -List.set_cons_zero]
    rw [hd, dd_small (n := m) (by omega)]
    simp
    omega
theorem dec_calls (n : Int) (hn : inR .i64 n) (H : Heap) : ACalls Tryz.prog 125 [.c (.d (.int .i64 n))] H (fun r H' => H' = H ∧ r = .c (.d (.str (Lib.itoa n)))) := by
  obtain ⟨hn1, hn2⟩ := i64_def.1 hn
  rcases Int.lt_or_le n 0 with hneg | hpos
  · refine acalls Tryz.func125 (by kernel_rfl) ac125_ok fun hf => ?_
    simp -implicitDefEqProofs [ac125, go_sem, -List.set_cons_succ, -List.set_cons_zero]
    refine ⟨fun h => ?_, fun h => ?_⟩
    · have : n = -9223372036854775808 := by omega
      subst this
      decide +kernel
    · refine ⟨fun _ => ?_, fun h => by omega⟩
      have hi : inR .i64 (-n) := i64_def.2 (by omega)
      have h2 := dec_pos n.natAbs (by omega)
      have e : ((n.natAbs : Nat) : Int) = -n := by omega
      have e2 : Lib.itoa n = 45 :: Lib.itoa (-n) := by
        rw [← e, Lib.itoa_nonneg]
        unfold Lib.itoa
        rw [if_pos hneg]
      rw [e] at h2
      have h3 := itoa_len (-n) (by omega) (by omega)
      refine ⟨hi, qcall_pure h2 hf rfl ?_⟩
      simp -implicitDefEqProofs [e2, maxStr, go_sem, -List.set_cons_succ, -List.set_cons_zero]
      omega
  · have := dec_pos n.toNat (by omega) H
    rwa [Int.toNat_of_nonneg hpos] at this
theorem dec1_calls (n : Int) (hn1 : -9223372036854775807 ≤ n) (hn2 : n ≤ 9223372036854775807) (H : Heap) : ACalls Tryz.prog 100 [.c (.d (.int .i64 n))] H (fun r H' => H' = H ∧ r = .c (.d (.str (Lib.itoa n)))) := by
  refine acalls Tryz.func100 (by kernel_rfl) ac100_ok fun hf => ?_
  simp -implicitDefEqProofs [ac100, go_sem, -List.set_cons_succ, -List.set_cons_zero]
  refine ⟨fun hneg => ?_, fun hpos => ?_⟩
  · have e2 : Lib.itoa n = 45 :: Lib.itoa (-n) := by
      have e : ((n.natAbs : Nat) : Int) = -n := by omega
      rw [← e, Lib.itoa_nonneg]
      unfold Lib.itoa
      rw [if_pos hneg]
    have h3 := itoa_len (-n) (by omega) (by omega)
    refine ⟨i64_def.2 (by omega), qcall_pure (dec_calls (-n) (i64_def.2 (by omega))) hf rfl ?_⟩
    simp -implicitDefEqProofs [e2, maxStr, go_sem, -List.set_cons_succ, -List.set_cons_zero]
    omega
  · refine qcall_pure (dec_calls n (i64_def.2 (by omega))) hf rfl ?_
    simp -implicitDefEqProofs [go_sem, -List.set_cons_succ, -List.set_cons_zero]
end Go.Proofs.YtgfmlifkhpjplaaGreatDoor

/-
  Terms as the reference writes them.
  Conditions: none.
-/
open Go Go.AM Go.Proofs
namespace Go.Proofs.YtgfmlifkhpjplaaGreatDoor
open Go.ChangeShapes Go.WideShapes Go.ChangeAt Go.RowKit
set_option linter.unusedVariables false
set_option linter.unusedSimpArgs false
set_option maxRecDepth 100000
-- 99 loop.example/prologserver/spec.l1Letter params 1 ntmps 8
def ac99 : Cd := .seq (.region [⟨(some 2),.mv (.k (.c (.d (.str [])))),none⟩] [2])
 (.seq (.region [⟨(some 3),.mv (.t 0),none⟩,
 ⟨(some 4),.cvInt .u8 (.t 3),none⟩,
 ⟨(some 5),.bin .add (.k (.c (.d (.int .u8 65)))) (.t 4),none⟩,
 ⟨(some 6),.buildSlice 1 1 [(.int .u8 0)] [(0,(.t 5))],none⟩,
 ⟨(some 7),.cvB2S (.t 6),none⟩,
 ⟨(some 2),.mv (.t 7),none⟩] [0,3,4,5,6,7])
 (.ret))
theorem ac99_ok : cFunc Tryz.prog [] [(0,[2],[]),(1,[0,3,4,5,6,7],[])] Tryz.f99 = some (ac99,[.tmp 2],8) := by kernel_rfl
-- 70 loop.example/prologserver/spec.l1Text params 1 ntmps 51
-- loop head live: [1,3,4]
def ac70 : Cd := .seq (.region [⟨(some 1),.box (.t 0),none⟩,
 ⟨(some 2),.mv (.k (.c (.d (.str [])))),none⟩] [0,2])
 (.seq (.seq (.region [⟨(some 5),.fieldAddr 0 (.t 1),none⟩,
 ⟨(some 6),.load none (.t 5),none⟩] [5])
 (.block 0 (.seq (.region [⟨(some 8),.bin .eql (.t 6) (.k (.c (.d (.int .i64 1)))),none⟩,
 ⟨(some 7),.mv (.t 8),none⟩] [8])
 (.cond (.t 7)
 (.seq (.region [⟨(some 9),.fieldAddr 1 (.t 1),none⟩,
 ⟨(some 10),.load none (.t 9),none⟩,
 ⟨(some 11),.qcall 99 [(.t 10)],none⟩,
 ⟨(some 2),.mv (.t 11),none⟩] [1,6,7,9,10,11])
 (.ret))
 (.seq (.region [⟨(some 13),.bin .eql (.t 6) (.k (.c (.d (.int .i64 2)))),none⟩,
 ⟨(some 12),.mv (.t 13),none⟩] [6,7,13])
 (.cond (.t 12)
 (.seq (.region [⟨(some 14),.fieldAddr 1 (.t 1),none⟩,
 ⟨(some 15),.load none (.t 14),none⟩,
 ⟨(some 16),.qcall 100 [(.t 15)],none⟩,
 ⟨(some 2),.mv (.t 16),none⟩] [1,12,14,15,16])
 (.ret))
 (.skip)))))))
 (.seq (.seq (.region [⟨(some 17),.load (some 4) (.t 1),none⟩,
 ⟨(some 18),.qcall 63 [(.t 17)],none⟩] [2,12,17])
 (.cond (.t 18)
 (.seq (.region [⟨(some 19),.load (some 4) (.t 1),none⟩,
 ⟨(some 20),.qcall 101 [(.t 19)],none⟩,
 ⟨(some 2),.mv (.t 20),none⟩] [1,18,19,20])
 (.ret))
 (.skip)))
 (.seq (.region [⟨(some 21),.fieldAddr 2 (.t 1),none⟩,
 ⟨(some 22),.load none (.t 21),none⟩,
 ⟨(some 3),.mv (.t 22),none⟩] [2,18,21,22])
 (.seq (.seq (.region [⟨(some 4),.mv (.k (.c (.d (.int .i64 0)))),none⟩] [])
 (.block 1 (.loop (.seq (.seq (.region [⟨(some 23),.mv (.t 4),none⟩,
 ⟨(some 24),.fieldAddr 3 (.t 1),none⟩,
 ⟨(some 25),.load none (.t 24),none⟩,
 ⟨(some 26),.len 1 (.t 25),none⟩,
 ⟨(some 27),.bin .lss (.t 23) (.t 26),none⟩] [23,24,25,26])
 (.cond (.t 27)
 (.skip)
 (.exit 1)))
 (.seq (.block 2 (.seq (.seq (.region [⟨(some 30),.mv (.t 4),none⟩,
 ⟨(some 31),.bin .eql (.t 30) (.k (.c (.d (.int .i64 0)))),none⟩] [27,30])
 (.cond (.t 31)
 (.region [⟨(some 32),.mv (.t 3),none⟩,
 ⟨(some 33),.bin .add (.t 32) (.k (.c (.d (.str [40])))),none⟩,
 ⟨(some 3),.mv (.t 33),none⟩] [31,32,33])
 (.region [⟨(some 34),.mv (.t 3),none⟩,
 ⟨(some 35),.bin .add (.t 34) (.k (.c (.d (.str [44])))),none⟩,
 ⟨(some 3),.mv (.t 35),none⟩] [31,34,35])))
 (.region [⟨(some 36),.mv (.t 3),none⟩,
 ⟨(some 37),.fieldAddr 3 (.t 1),none⟩,
 ⟨(some 38),.load none (.t 37),none⟩,
 ⟨(some 39),.mv (.t 4),none⟩,
 ⟨(some 40),.indexAddr 4 (.t 38) (.t 39),none⟩,
 ⟨(some 41),.load (some 4) (.t 40),none⟩,
 ⟨(some 42),.qcall 70 [(.t 41)],none⟩,
 ⟨(some 43),.bin .add (.t 36) (.t 42),none⟩,
 ⟨(some 3),.mv (.t 43),none⟩] [36,37,38,39,40,41,42,43])))
 (.region [⟨(some 28),.mv (.t 4),none⟩,
 ⟨(some 29),.bin .add (.t 28) (.k (.c (.d (.int .i64 1)))),none⟩,
 ⟨(some 4),.mv (.t 29),none⟩] [28,29]))))))
 (.seq (.seq (.region [⟨(some 44),.fieldAddr 3 (.t 1),none⟩,
 ⟨(some 45),.load none (.t 44),none⟩,
 ⟨(some 46),.len 1 (.t 45),none⟩,
 ⟨(some 47),.bin .gtr (.t 46) (.k (.c (.d (.int .i64 0)))),none⟩] [1,44,45,46])
 (.cond (.t 47)
 (.region [⟨(some 48),.mv (.t 3),none⟩,
 ⟨(some 49),.bin .add (.t 48) (.k (.c (.d (.str [41])))),none⟩,
 ⟨(some 3),.mv (.t 49),none⟩] [47,48,49])
 (.skip)))
 (.seq (.region [⟨(some 50),.mv (.t 3),none⟩,
 ⟨(some 2),.mv (.t 50),none⟩] [3,47,50])
 (.ret)))))))
theorem ac70_ok : cFunc Tryz.prog [1000063,1000070,1000099,1000100,1000101] [(0,[0,2],[]),(1,[5],[]),(2,[8],[]),(3,[1,6,7,9,10,11],[]),(4,[6,7,13],[]),(5,[1,12,14,15,16],[]),(6,[2,12,17],[]),(7,[1,18,19,20],[]),(8,[2,18,21,22],[]),(9,[],[]),(10,[23,24,25,26],[]),(12,[27,30],[]),(13,[31,32,33],[]),(14,[31,34,35],[]),(15,[36,37,38,39,40,41,42,43],[]),(11,[28,29],[]),(16,[1,44,45,46],[]),(17,[47,48,49],[]),(18,[3,47,50],[])] Tryz.f70 = some (ac70,[.tmp 2],51) := by kernel_rfl
-- 65 loop.example/prologserver/spec.l2Infix params 1 ntmps 18
def ac65 : Cd := .seq (.region [⟨(some 1),.box (.t 0),none⟩,
 ⟨(some 2),.mv (.k (.c (.d (.bool false)))),none⟩] [0,2])
 (.seq (.region [⟨(some 3),.fieldAddr 0 (.t 1),none⟩,
 ⟨(some 4),.load none (.t 3),none⟩,
 ⟨(some 5),.bin .eql (.t 4) (.k (.c (.d (.int .i64 3)))),none⟩,
 ⟨(some 6),.mv (.t 5),none⟩,
 ⟨(some 7),.fieldAddr 3 (.t 1),some (6,true)⟩,
 ⟨(some 8),.load none (.t 7),some (6,true)⟩,
 ⟨(some 9),.len 1 (.t 8),some (6,true)⟩,
 ⟨(some 10),.bin .eql (.t 9) (.k (.c (.d (.int .i64 2)))),some (6,true)⟩,
 ⟨(some 11),.pick (.t 6) (.t 10) (.k (.c (.d (.bool false)))),none⟩,
 ⟨(some 12),.mv (.t 11),none⟩,
 ⟨(some 13),.fieldAddr 2 (.t 1),some (12,true)⟩,
 ⟨(some 14),.load none (.t 13),some (12,true)⟩,
 ⟨(some 15),.qcall 47 [(.t 14)],some (12,true)⟩,
 ⟨(some 16),.bin .gtr (.t 15) (.k (.c (.d (.int .i64 0)))),some (12,true)⟩,
 ⟨(some 17),.pick (.t 12) (.t 16) (.k (.c (.d (.bool false)))),none⟩,
 ⟨(some 2),.mv (.t 17),none⟩] [1,3,4,5,6,7,8,9,10,11,12,13,14,15,16,17])
 (.ret))
theorem ac65_ok : cFunc Tryz.prog [1000047] [(0,[0,2],[]),(1,[1,3,4,5,6,7,8,9,10,11,12,13,14,15,16,17],[])] Tryz.f65 = some (ac65,[.tmp 2],18) := by kernel_rfl
-- 67 loop.example/prologserver/spec.l2Spaced params 1 ntmps 13
def ac67 : Cd := .seq (.region [⟨(some 2),.mv (.k (.c (.d (.str [])))),none⟩] [2])
 (.seq (.seq (.region [⟨(some 3),.mv (.t 0),none⟩,
 ⟨(some 4),.bin .eql (.t 3) (.k (.c (.d (.str [105,115])))),none⟩,
 ⟨(some 5),.mv (.t 4),none⟩,
 ⟨(some 6),.mv (.t 0),some (5,false)⟩,
 ⟨(some 7),.bin .eql (.t 6) (.k (.c (.d (.str [109,111,100])))),some (5,false)⟩,
 ⟨(some 8),.pick (.t 5) (.k (.c (.d (.bool true)))) (.t 7),none⟩] [3,4,5,6,7])
 (.cond (.t 8)
 (.seq (.region [⟨(some 9),.mv (.t 0),none⟩,
 ⟨(some 10),.bin .add (.k (.c (.d (.str [32])))) (.t 9),none⟩,
 ⟨(some 11),.bin .add (.t 10) (.k (.c (.d (.str [32])))),none⟩,
 ⟨(some 2),.mv (.t 11),none⟩] [0,8,9,10,11])
 (.ret))
 (.skip)))
 (.seq (.region [⟨(some 12),.mv (.t 0),none⟩,
 ⟨(some 2),.mv (.t 12),none⟩] [0,8,12])
 (.ret)))
theorem ac67_ok : cFunc Tryz.prog [] [(0,[2],[]),(1,[3,4,5,6,7],[]),(2,[0,8,9,10,11],[]),(3,[0,8,12],[])] Tryz.f67 = some (ac67,[.tmp 2],13) := by kernel_rfl
-- 97 loop.example/prologserver/spec.l2Bracket params 2 ntmps 20
def ac97 : Cd := .seq (.region [⟨(some 2),.box (.t 0),none⟩,
 ⟨(some 4),.mv (.k (.c (.d (.str [])))),none⟩] [0,4])
 (.seq (.seq (.region [⟨(some 5),.load (some 4) (.t 2),none⟩,
 ⟨(some 6),.qcall 65 [(.t 5)],none⟩,
 ⟨(some 7),.mv (.t 6),none⟩,
 ⟨(some 8),.fieldAddr 2 (.t 2),some (7,true)⟩,
 ⟨(some 9),.load none (.t 8),some (7,true)⟩,
 ⟨(some 10),.qcall 47 [(.t 9)],some (7,true)⟩,
 ⟨(some 11),.mv (.t 1),some (7,true)⟩,
 ⟨(some 12),.bin .gtr (.t 10) (.t 11),some (7,true)⟩,
 ⟨(some 13),.pick (.t 7) (.t 12) (.k (.c (.d (.bool false)))),none⟩] [1,5,6,7,8,9,10,11,12])
 (.cond (.t 13)
 (.seq (.region [⟨(some 14),.load (some 4) (.t 2),none⟩,
 ⟨(some 15),.qcall 39 [(.t 14)],none⟩,
 ⟨(some 16),.bin .add (.k (.c (.d (.str [40])))) (.t 15),none⟩,
 ⟨(some 17),.bin .add (.t 16) (.k (.c (.d (.str [41])))),none⟩,
 ⟨(some 4),.mv (.t 17),none⟩] [2,13,14,15,16,17])
 (.ret))
 (.skip)))
 (.seq (.region [⟨(some 18),.load (some 4) (.t 2),none⟩,
 ⟨(some 19),.qcall 39 [(.t 18)],none⟩,
 ⟨(some 4),.mv (.t 19),none⟩] [2,13,18,19])
 (.ret)))
theorem ac97_ok : cFunc Tryz.prog [1000039,1000047,1000065] [(0,[0,4],[]),(1,[1,5,6,7,8,9,10,11,12],[]),(2,[2,13,14,15,16,17],[]),(3,[2,13,18,19],[])] Tryz.f97 = some (ac97,[.tmp 4],20) := by kernel_rfl
-- 69 loop.example/prologserver/spec.l2Args params 1 ntmps 23
-- loop head live: [0,3,4]
def ac69 : Cd := .seq (.region [⟨(some 2),.mv (.k (.c (.d (.str [])))),none⟩] [2])
 (.seq (.region [⟨(some 3),.mv (.k (.c (.d (.str [])))),none⟩] [])
 (.seq (.seq (.region [⟨(some 4),.mv (.k (.c (.d (.int .i64 0)))),none⟩] [])
 (.block 0 (.loop (.seq (.seq (.region [⟨(some 5),.mv (.t 4),none⟩,
 ⟨(some 6),.mv (.t 0),none⟩,
 ⟨(some 7),.len 1 (.t 6),none⟩,
 ⟨(some 8),.bin .lss (.t 5) (.t 7),none⟩] [5,6,7])
 (.cond (.t 8)
 (.skip)
 (.exit 0)))
 (.seq (.block 1 (.seq (.seq (.region [⟨(some 11),.mv (.t 4),none⟩,
 ⟨(some 12),.bin .gtr (.t 11) (.k (.c (.d (.int .i64 0)))),none⟩] [8,11])
 (.cond (.t 12)
 (.region [⟨(some 13),.mv (.t 3),none⟩,
 ⟨(some 14),.bin .add (.t 13) (.k (.c (.d (.str [44])))),none⟩,
 ⟨(some 3),.mv (.t 14),none⟩] [12,13,14])
 (.skip)))
 (.region [⟨(some 15),.mv (.t 3),none⟩,
 ⟨(some 16),.mv (.t 0),none⟩,
 ⟨(some 17),.mv (.t 4),none⟩,
 ⟨(some 18),.indexAddr 4 (.t 16) (.t 17),none⟩,
 ⟨(some 19),.load (some 4) (.t 18),none⟩,
 ⟨(some 20),.qcall 39 [(.t 19)],none⟩,
 ⟨(some 21),.bin .add (.t 15) (.t 20),none⟩,
 ⟨(some 3),.mv (.t 21),none⟩] [12,15,16,17,18,19,20,21])))
 (.region [⟨(some 9),.mv (.t 4),none⟩,
 ⟨(some 10),.bin .add (.t 9) (.k (.c (.d (.int .i64 1)))),none⟩,
 ⟨(some 4),.mv (.t 10),none⟩] [9,10]))))))
 (.seq (.region [⟨(some 22),.mv (.t 3),none⟩,
 ⟨(some 2),.mv (.t 22),none⟩] [3,22])
 (.ret))))
theorem ac69_ok : cFunc Tryz.prog [1000039] [(0,[2],[]),(1,[],[]),(2,[],[]),(3,[5,6,7],[]),(5,[8,11],[]),(6,[12,13,14],[]),(7,[12,15,16,17,18,19,20,21],[]),(4,[9,10],[]),(8,[3,22],[])] Tryz.f69 = some (ac69,[.tmp 2],23) := by kernel_rfl
-- 64 loop.example/prologserver/spec.l2List params 1 ntmps 32
-- loop head live: [1,3]
def ac64 : Cd := .seq (.region [⟨(some 1),.box (.t 0),none⟩,
 ⟨(some 2),.mv (.k (.c (.d (.str [])))),none⟩] [0,2])
 (.seq (.region [⟨(some 4),.buildSlice 4 0 [(.int .i64 0),(.int .i64 0),(.str []),(.sl [])] [],none⟩,
 ⟨(some 3),.mv (.t 4),none⟩] [4])
 (.seq (.block 0 (.loop (.seq (.seq (.region [⟨(some 5),.load (some 4) (.t 1),none⟩,
 ⟨(some 6),.qcall 63 [(.t 5)],none⟩] [5])
 (.cond (.t 6)
 (.skip)
 (.exit 0)))
 (.block 1 (.seq (.region [⟨(some 7),.mv (.t 3),none⟩,
 ⟨(some 8),.fieldAddr 3 (.t 1),none⟩,
 ⟨(some 9),.load none (.t 8),none⟩,
 ⟨(some 10),.indexAddr 4 (.t 9) (.k (.c (.d (.int .i64 0)))),none⟩,
 ⟨(some 11),.load (some 4) (.t 10),none⟩,
 ⟨(some 12),.buildSlice 4 1 [(.int .i64 0),(.int .i64 0),(.str []),(.sl [])] [(0,(.t 11))],none⟩,
 ⟨(some 13),.append false 4 (.t 7) (.t 12),none⟩,
 ⟨(some 3),.mv (.t 13),none⟩] [6,7,8,9,10,11,12,13])
 (.region [⟨(some 14),.fieldAddr 3 (.t 1),none⟩,
 ⟨(some 15),.load none (.t 14),none⟩,
 ⟨(some 16),.indexAddr 4 (.t 15) (.k (.c (.d (.int .i64 1)))),none⟩,
 ⟨(some 17),.load (some 4) (.t 16),none⟩,
 ⟨none,.store 4 (.t 1) (.t 17),none⟩] [14,15,16,17]))))))
 (.seq (.seq (.region [⟨(some 18),.load (some 4) (.t 1),none⟩,
 ⟨(some 19),.qcall 95 [(.t 18)],none⟩] [18])
 (.cond (.t 19)
 (.seq (.region [⟨(some 20),.mv (.t 3),none⟩,
 ⟨(some 21),.qcall 69 [(.t 20)],none⟩,
 ⟨(some 22),.bin .add (.k (.c (.d (.str [91])))) (.t 21),none⟩,
 ⟨(some 23),.bin .add (.t 22) (.k (.c (.d (.str [93])))),none⟩,
 ⟨(some 2),.mv (.t 23),none⟩] [1,3,19,20,21,22,23])
 (.ret))
 (.skip)))
 (.seq (.region [⟨(some 24),.mv (.t 3),none⟩,
 ⟨(some 25),.qcall 69 [(.t 24)],none⟩,
 ⟨(some 26),.bin .add (.k (.c (.d (.str [91])))) (.t 25),none⟩,
 ⟨(some 27),.bin .add (.t 26) (.k (.c (.d (.str [124])))),none⟩,
 ⟨(some 28),.load (some 4) (.t 1),none⟩,
 ⟨(some 29),.qcall 39 [(.t 28)],none⟩,
 ⟨(some 30),.bin .add (.t 27) (.t 29),none⟩,
 ⟨(some 31),.bin .add (.t 30) (.k (.c (.d (.str [93])))),none⟩,
 ⟨(some 2),.mv (.t 31),none⟩] [1,3,19,24,25,26,27,28,29,30,31])
 (.ret)))))
theorem ac64_ok : cFunc Tryz.prog [1000039,1000063,1000069,1000095] [(0,[0,2],[]),(1,[4],[]),(2,[5],[]),(3,[6,7,8,9,10,11,12,13],[]),(4,[14,15,16,17],[]),(5,[18],[]),(6,[1,3,19,20,21,22,23],[]),(7,[1,3,19,24,25,26,27,28,29,30,31],[0,1,2,3,4,5,6,7,8])] Tryz.f64 = some (ac64,[.tmp 2],32) := by kernel_rfl
-- 96 loop.example/prologserver/spec.l2Sole params 1 ntmps 18
def ac96 : Cd := .seq (.region [⟨(some 1),.box (.t 0),none⟩,
 ⟨(some 2),.mv (.k (.c (.d (.bool false)))),none⟩] [0,2])
 (.seq (.region [⟨(some 3),.fieldAddr 0 (.t 1),none⟩,
 ⟨(some 4),.load none (.t 3),none⟩,
 ⟨(some 5),.bin .eql (.t 4) (.k (.c (.d (.int .i64 3)))),none⟩,
 ⟨(some 6),.mv (.t 5),none⟩,
 ⟨(some 7),.fieldAddr 3 (.t 1),some (6,true)⟩,
 ⟨(some 8),.load none (.t 7),some (6,true)⟩,
 ⟨(some 9),.len 1 (.t 8),some (6,true)⟩,
 ⟨(some 10),.bin .eql (.t 9) (.k (.c (.d (.int .i64 0)))),some (6,true)⟩,
 ⟨(some 11),.pick (.t 6) (.t 10) (.k (.c (.d (.bool false)))),none⟩,
 ⟨(some 12),.mv (.t 11),none⟩,
 ⟨(some 13),.fieldAddr 2 (.t 1),some (12,true)⟩,
 ⟨(some 14),.load none (.t 13),some (12,true)⟩,
 ⟨(some 15),.qcall 47 [(.t 14)],some (12,true)⟩,
 ⟨(some 16),.bin .gtr (.t 15) (.k (.c (.d (.int .i64 0)))),some (12,true)⟩,
 ⟨(some 17),.pick (.t 12) (.t 16) (.k (.c (.d (.bool false)))),none⟩,
 ⟨(some 2),.mv (.t 17),none⟩] [1,3,4,5,6,7,8,9,10,11,12,13,14,15,16,17])
 (.ret))
theorem ac96_ok : cFunc Tryz.prog [1000047] [(0,[0,2],[]),(1,[1,3,4,5,6,7,8,9,10,11,12,13,14,15,16,17],[])] Tryz.f96 = some (ac96,[.tmp 2],18) := by kernel_rfl
-- 98 loop.example/prologserver/spec.l2Plain params 1 ntmps 29
def ac98 : Cd := .seq (.region [⟨(some 2),.mv (.k (.c (.d (.bool false)))),none⟩] [2])
 (.seq (.region [⟨(some 3),.mv (.t 0),none⟩,
 ⟨(some 4),.qcall 107 [(.t 3),(.k (.c (.d (.int .i64 0))))],none⟩,
 ⟨(some 5),.mv (.t 4),none⟩,
 ⟨(some 6),.mv (.t 0),some (5,false)⟩,
 ⟨(some 7),.qcall 80 [(.t 6),(.k (.c (.d (.int .i64 0))))],some (5,false)⟩,
 ⟨(some 8),.pick (.t 5) (.k (.c (.d (.bool true)))) (.t 7),none⟩,
 ⟨(some 9),.mv (.t 8),none⟩,
 ⟨(some 10),.mv (.t 0),some (9,false)⟩,
 ⟨(some 11),.index (.t 10) (.k (.c (.d (.int .i64 0)))),some (9,false)⟩,
 ⟨(some 12),.bin .geq (.t 11) (.k (.c (.d (.int .u8 65)))),some (9,false)⟩,
 ⟨(some 13),.mv (.t 12),some (9,false)⟩,
 ⟨(some 14),.mv (.t 0),some (13,true)⟩,
 ⟨(some 15),.index (.t 14) (.k (.c (.d (.int .i64 0)))),some (13,true)⟩,
 ⟨(some 16),.bin .leq (.t 15) (.k (.c (.d (.int .u8 90)))),some (13,true)⟩,
 ⟨(some 17),.pick (.t 13) (.t 16) (.k (.c (.d (.bool false)))),some (9,false)⟩,
 ⟨(some 18),.pick (.t 9) (.k (.c (.d (.bool true)))) (.t 17),none⟩,
 ⟨(some 19),.mv (.t 18),none⟩,
 ⟨(some 20),.mv (.t 0),some (19,false)⟩,
 ⟨(some 21),.index (.t 20) (.k (.c (.d (.int .i64 0)))),some (19,false)⟩,
 ⟨(some 22),.bin .eql (.t 21) (.k (.c (.d (.int .u8 91)))),some (19,false)⟩,
 ⟨(some 23),.pick (.t 19) (.k (.c (.d (.bool true)))) (.t 22),none⟩,
 ⟨(some 24),.mv (.t 23),none⟩,
 ⟨(some 25),.mv (.t 0),some (24,false)⟩,
 ⟨(some 26),.index (.t 25) (.k (.c (.d (.int .i64 0)))),some (24,false)⟩,
 ⟨(some 27),.bin .eql (.t 26) (.k (.c (.d (.int .u8 40)))),some (24,false)⟩,
 ⟨(some 28),.pick (.t 24) (.k (.c (.d (.bool true)))) (.t 27),none⟩,
 ⟨(some 2),.mv (.t 28),none⟩] [0,3,4,5,6,7,8,9,10,11,12,13,14,15,16,17,18,19,20,21,22,23,24,25,26,27,28])
 (.ret))
theorem ac98_ok : cFunc Tryz.prog [1000080,1000107] [(0,[2],[]),(1,[0,3,4,5,6,7,8,9,10,11,12,13,14,15,16,17,18,19,20,21,22,23,24,25,26,27,28],[])] Tryz.f98 = some (ac98,[.tmp 2],29) := by kernel_rfl
-- 66 loop.example/prologserver/spec.l2Left params 2 ntmps 14
def ac66 : Cd := .seq (.region [⟨(some 2),.box (.t 0),none⟩,
 ⟨(some 4),.mv (.k (.c (.d (.str [])))),none⟩] [0,4])
 (.seq (.seq (.region [⟨(some 5),.load (some 4) (.t 2),none⟩,
 ⟨(some 6),.qcall 96 [(.t 5)],none⟩] [5])
 (.cond (.t 6)
 (.seq (.region [⟨(some 7),.load (some 4) (.t 2),none⟩,
 ⟨(some 8),.qcall 39 [(.t 7)],none⟩,
 ⟨(some 9),.bin .add (.k (.c (.d (.str [40])))) (.t 8),none⟩,
 ⟨(some 10),.bin .add (.t 9) (.k (.c (.d (.str [41])))),none⟩,
 ⟨(some 4),.mv (.t 10),none⟩] [1,2,6,7,8,9,10])
 (.ret))
 (.skip)))
 (.seq (.region [⟨(some 11),.load (some 4) (.t 2),none⟩,
 ⟨(some 12),.mv (.t 1),none⟩,
 ⟨(some 13),.qcall 97 [(.t 11),(.t 12)],none⟩,
 ⟨(some 4),.mv (.t 13),none⟩] [1,2,6,11,12,13])
 (.ret)))
theorem ac66_ok : cFunc Tryz.prog [1000039,1000096,1000097] [(0,[0,4],[]),(1,[5],[]),(2,[1,2,6,7,8,9,10],[]),(3,[1,2,6,11,12,13],[])] Tryz.f66 = some (ac66,[.tmp 4],14) := by kernel_rfl
-- 68 loop.example/prologserver/spec.l2Right params 2 ntmps 20
def ac68 : Cd := .seq (.region [⟨(some 2),.box (.t 0),none⟩,
 ⟨(some 4),.mv (.k (.c (.d (.str [])))),none⟩] [0,4])
 (.seq (.region [⟨(some 6),.load (some 4) (.t 2),none⟩,
 ⟨(some 7),.mv (.t 1),none⟩,
 ⟨(some 8),.qcall 97 [(.t 6),(.t 7)],none⟩,
 ⟨(some 5),.mv (.t 8),none⟩] [1,6,7,8])
 (.seq (.seq (.region [⟨(some 9),.load (some 4) (.t 2),none⟩,
 ⟨(some 10),.qcall 96 [(.t 9)],none⟩,
 ⟨(some 11),.mv (.t 10),none⟩,
 ⟨(some 12),.mv (.t 5),some (11,false)⟩,
 ⟨(some 13),.qcall 98 [(.t 12)],some (11,false)⟩,
 ⟨(some 14),.un .not (.t 13),some (11,false)⟩,
 ⟨(some 15),.pick (.t 11) (.k (.c (.d (.bool true)))) (.t 14),none⟩] [2,9,10,11,12,13,14])
 (.cond (.t 15)
 (.seq (.region [⟨(some 16),.mv (.t 5),none⟩,
 ⟨(some 17),.bin .add (.k (.c (.d (.str [40])))) (.t 16),none⟩,
 ⟨(some 18),.bin .add (.t 17) (.k (.c (.d (.str [41])))),none⟩,
 ⟨(some 4),.mv (.t 18),none⟩] [5,15,16,17,18])
 (.ret))
 (.skip)))
 (.seq (.region [⟨(some 19),.mv (.t 5),none⟩,
 ⟨(some 4),.mv (.t 19),none⟩] [5,15,19])
 (.ret))))
theorem ac68_ok : cFunc Tryz.prog [1000096,1000097,1000098] [(0,[0,4],[]),(1,[1,6,7,8],[]),(2,[2,9,10,11,12,13,14],[]),(3,[5,15,16,17,18],[]),(4,[5,15,19],[])] Tryz.f68 = some (ac68,[.tmp 4],20) := by kernel_rfl
-- 39 loop.example/prologserver/spec.l2Text params 1 ntmps 57
def ac39 : Cd := .seq (.region [⟨(some 1),.box (.t 0),none⟩,
 ⟨(some 2),.mv (.k (.c (.d (.str [])))),none⟩] [0,2])
 (.seq (.block 0 (.seq (.region [⟨(some 6),.load (some 4) (.t 1),none⟩,
 ⟨(some 7),.qcall 63 [(.t 6)],none⟩,
 ⟨(some 5),.mv (.t 7),none⟩] [6,7])
 (.cond (.t 5)
 (.seq (.region [⟨(some 8),.load (some 4) (.t 1),none⟩,
 ⟨(some 9),.qcall 64 [(.t 8)],none⟩,
 ⟨(some 2),.mv (.t 9),none⟩] [1,5,8,9])
 (.ret))
 (.seq (.region [⟨(some 11),.load (some 4) (.t 1),none⟩,
 ⟨(some 12),.qcall 65 [(.t 11)],none⟩,
 ⟨(some 10),.mv (.t 12),none⟩] [5,11,12])
 (.cond (.t 10)
 (.seq (.region [⟨(some 13),.fieldAddr 2 (.t 1),none⟩,
 ⟨(some 14),.load none (.t 13),none⟩,
 ⟨(some 15),.qcall 47 [(.t 14)],none⟩,
 ⟨(some 3),.mv (.t 15),none⟩] [10,13,14,15])
 (.seq (.region [⟨(some 16),.mv (.t 3),none⟩,
 ⟨(some 4),.mv (.t 16),none⟩] [16])
 (.seq (.seq (.region [⟨(some 17),.mv (.t 3),none⟩,
 ⟨(some 18),.bin .eql (.t 17) (.k (.c (.d (.int .i64 3)))),none⟩] [17])
 (.cond (.t 18)
 (.region [⟨(some 4),.mv (.k (.c (.d (.int .i64 2)))),none⟩] [18])
 (.skip)))
 (.seq (.region [⟨(some 19),.fieldAddr 3 (.t 1),none⟩,
 ⟨(some 23),.mv (.t 4),none⟩,
 ⟨(some 25),.fieldAddr 2 (.t 1),none⟩,
 ⟨(some 29),.fieldAddr 3 (.t 1),none⟩,
 ⟨(some 33),.mv (.t 3),none⟩,
 ⟨(some 34),.bin .sub (.t 33) (.k (.c (.d (.int .i64 1)))),none⟩,
 ⟨(some 20),.load none (.t 19),none⟩,
 ⟨(some 21),.indexAddr 4 (.t 20) (.k (.c (.d (.int .i64 0)))),none⟩,
 ⟨(some 22),.load (some 4) (.t 21),none⟩,
 ⟨(some 24),.qcall 66 [(.t 22),(.t 23)],none⟩,
 ⟨(some 26),.load none (.t 25),none⟩,
 ⟨(some 27),.qcall 67 [(.t 26)],none⟩,
 ⟨(some 28),.bin .add (.t 24) (.t 27),none⟩,
 ⟨(some 30),.load none (.t 29),none⟩,
 ⟨(some 31),.indexAddr 4 (.t 30) (.k (.c (.d (.int .i64 1)))),none⟩,
 ⟨(some 32),.load (some 4) (.t 31),none⟩,
 ⟨(some 35),.qcall 68 [(.t 32),(.t 34)],none⟩,
 ⟨(some 36),.bin .add (.t 28) (.t 35),none⟩,
 ⟨(some 2),.mv (.t 36),none⟩] [1,3,4,18,19,20,21,22,23,24,25,26,27,28,29,30,31,32,33,34,35,36])
 (.ret)))))
 (.seq (.region [⟨(some 38),.fieldAddr 0 (.t 1),none⟩,
 ⟨(some 39),.load none (.t 38),none⟩,
 ⟨(some 40),.bin .eql (.t 39) (.k (.c (.d (.int .i64 3)))),none⟩,
 ⟨(some 41),.mv (.t 40),none⟩,
 ⟨(some 42),.fieldAddr 3 (.t 1),some (41,true)⟩,
 ⟨(some 43),.load none (.t 42),some (41,true)⟩,
 ⟨(some 44),.len 1 (.t 43),some (41,true)⟩,
 ⟨(some 45),.bin .gtr (.t 44) (.k (.c (.d (.int .i64 0)))),some (41,true)⟩,
 ⟨(some 46),.pick (.t 41) (.t 45) (.k (.c (.d (.bool false)))),none⟩,
 ⟨(some 37),.mv (.t 46),none⟩] [10,38,39,40,41,42,43,44,45,46])
 (.cond (.t 37)
 (.seq (.region [⟨(some 47),.fieldAddr 2 (.t 1),none⟩,
 ⟨(some 50),.fieldAddr 3 (.t 1),none⟩,
 ⟨(some 48),.load none (.t 47),none⟩,
 ⟨(some 49),.bin .add (.t 48) (.k (.c (.d (.str [40])))),none⟩,
 ⟨(some 51),.load none (.t 50),none⟩,
 ⟨(some 52),.qcall 69 [(.t 51)],none⟩,
 ⟨(some 53),.bin .add (.t 49) (.t 52),none⟩,
 ⟨(some 54),.bin .add (.t 53) (.k (.c (.d (.str [41])))),none⟩,
 ⟨(some 2),.mv (.t 54),none⟩] [1,37,47,48,49,50,51,52,53,54])
 (.ret))
 (.skip))))))))
 (.seq (.region [⟨(some 55),.load (some 4) (.t 1),none⟩,
 ⟨(some 56),.qcall 70 [(.t 55)],none⟩,
 ⟨(some 2),.mv (.t 56),none⟩] [1,37,55,56])
 (.ret)))
theorem ac39_ok : cFunc Tryz.prog [1000047,1000063,1000064,1000065,1000066,1000067,1000068,1000069,1000070] [(0,[0,2],[]),(1,[6,7],[]),(2,[1,5,8,9],[]),(3,[5,11,12],[]),(4,[10,13,14,15],[]),(5,[16],[]),(6,[17],[]),(7,[18],[]),(8,[1,3,4,18,19,20,21,22,23,24,25,26,27,28,29,30,31,32,33,34,35,36],[0,4,6,10,14,15,1,2,3,5,7,8,9,11,12,13,16,17,18]),(9,[10,38,39,40,41,42,43,44,45,46],[]),(10,[1,37,47,48,49,50,51,52,53,54],[0,3,1,2,4,5,6,7,8]),(11,[1,37,55,56],[])] Tryz.f39 = some (ac39,[.tmp 2],57) := by kernel_rfl
theorem u8_nat {m : Nat} (h : m < 256) : ((UInt8.ofNat m).toNat : Int) = m := by simp; omega
theorem b2s_byte {m : Nat} {K : A → St → Prop} {st : St} (h : m < 256) (hk : K (.c (.d (.str [UInt8.ofNat m]))) st) : B2SK true [[.int .u8 (m : Int)]] K st :=
  ⟨[UInt8.ofNat m], fun _ => by simp only [bytesRows, List.map_cons, List.map_nil, u8_nat h], hk⟩
theorem letter_calls (n : Nat) (h : n ≤ 25) (H : Heap) : ACalls Tryz.prog 99 [.c (.d (.int .i64 n))] H (fun r H' => H' = H ∧ r = .c (.d (.str [UInt8.ofNat (65 + n)]))) := by
  refine acalls Tryz.func99 (by kernel_rfl) ac99_ok fun hf => ?_
  have hw : IntKind.wrap .u8 (n : Int) = n := by simp [IntKind.wrap, IntKind.bits, IntKind.signed]; omega
  have hi : inR .u8 (65 + (n : Int)) := by simp [inR, IntKind.min, IntKind.max, IntKind.signed, IntKind.bits]; omega
  simp -implicitDefEqProofs [ac99, hw, hi, go_sem, -List.set_cons_succ, -List.set_cons_zero]
  have e : 65 + (n : Int) = ((65 + n : Nat) : Int) := by omega
  simp only [e]
  refine b2s_byte (by omega) ?_
  simp -implicitDefEqProofs [go_sem, -List.set_cons_succ, -List.set_cons_zero]
def infixB (t : Tm) : Bool := (decide (t.k = 3) && decide ((t.kids.length : Int) = 2)) && decide (0 < levelN t.s)
def soleB (t : Tm) : Bool := (decide (t.k = 3) && decide ((t.kids.length : Int) = 0)) && decide (0 < levelN t.s)
theorem infix_calls (t : Tm) (ht : t.fits) (H : Heap) : ACalls Tryz.prog 65 [.agg (t.row.map .d)] H (fun r H' => H' = H ∧ r = .c (.d (.bool (infixB t)))) := by
  obtain ⟨k, n, s, l⟩ := t
  obtain ⟨_, _, hs, hl, _⟩ := ht
  refine acalls Tryz.func65 (by kernel_rfl) ac65_ok fun hf => ?_
  have hli : inR .i64 (l.length : Int) := small_i64 (by omega) (by omega)
  by_cases hk : k = 3
  · by_cases h2 : l.length = 2
    · match l, h2 with
      | [a, b], _ =>
        have h22 : inR .i64 2 := small_i64 (by omega) (by omega)
        simp -implicitDefEqProofs [ac65, row_mk, hk, h22, go_sem, -List.set_cons_succ, -List.set_cons_zero]
        refine qcall_pure (level_calls s) hf rfl ?_
        simp -implicitDefEqProofs [infixB, Tm.k, Tm.kids, Tm.s, go_sem, -List.set_cons_succ, -List.set_cons_zero]
        exact decide_eq_decide.2 Iff.rfl
    · have h3 : ((l.length : Int) == 2) = false := by simpa using fun h => h2 (by omega)
      have h4 : ¬ (l.length : Int) = 2 := fun h => h2 (by omega)
      simp -implicitDefEqProofs [ac65, row_mk, hk, hli, h3, h4, infixB, Tm.k, Tm.kids, Tm.s, go_sem, -List.set_cons_succ, -List.set_cons_zero]
  · simp -implicitDefEqProofs [ac65, row_mk, hk, hli, infixB, Tm.k, Tm.kids, Tm.s, go_sem, -List.set_cons_succ, -List.set_cons_zero]
theorem sole_calls (t : Tm) (ht : t.fits) (H : Heap) : ACalls Tryz.prog 96 [.agg (t.row.map .d)] H (fun r H' => H' = H ∧ r = .c (.d (.bool (soleB t)))) := by
  obtain ⟨k, n, s, l⟩ := t
  obtain ⟨_, _, hs, hl, _⟩ := ht
  refine acalls Tryz.func96 (by kernel_rfl) ac96_ok fun hf => ?_
  have hli : inR .i64 (l.length : Int) := small_i64 (by omega) (by omega)
  by_cases hk : k = 3
  · cases l with
    | nil =>
      have h00 : inR .i64 0 := small_i64 (by omega) (by omega)
      simp -implicitDefEqProofs [ac96, row_mk, hk, h00, go_sem, -List.set_cons_succ, -List.set_cons_zero]
      refine qcall_pure (level_calls s) hf rfl ?_
      simp -implicitDefEqProofs [soleB, Tm.k, Tm.kids, Tm.s, go_sem, -List.set_cons_succ, -List.set_cons_zero]
      exact decide_eq_decide.2 Iff.rfl
    | cons a l =>
      have h3 : (((l.length : Int) + 1) == 0) = false := by simp; omega
      have h4 : ¬ (l.length : Int) + 1 = 0 := by omega
      have hl2 : inR .i64 ((l.length : Int) + 1) := by simpa using hli
      simp -implicitDefEqProofs [ac96, row_mk, hk, hl2, h3, h4, soleB, Tm.k, Tm.kids, Tm.s, go_sem, -List.set_cons_succ, -List.set_cons_zero]
  · simp -implicitDefEqProofs [ac96, row_mk, hk, hli, soleB, Tm.k, Tm.kids, Tm.s, go_sem, -List.set_cons_succ, -List.set_cons_zero]
theorem spaced_calls (s : List UInt8) (hl : 0 < levelN s) (H : Heap) : ACalls Tryz.prog 67 [.c (.d (.str s))] H (fun r H' => H' = H ∧ r = .c (.d (.str (opSp s)))) := by
  have hm : s ∈ [[61], [92, 61], [61, 61], [60], [62], [61, 60], [62, 61], [61, 58, 61], [105, 115], [43], [45], [42], [47, 47], [109, 111, 100]] := by
    unfold levelN at hl
    split at hl
    · rename_i h; simp [ops3] at h; rcases h with rfl | rfl | rfl | rfl | rfl | rfl | rfl | rfl | rfl <;> simp
    · split at hl
      · rename_i h; simp at h; rcases h with rfl | rfl <;> simp
      · split at hl
        · rename_i h; simp at h; rcases h with rfl | rfl | rfl <;> simp
        · omega
  refine acalls Tryz.func67 (by kernel_rfl) ac67_ok fun hf => ?_
  simp at hm
  rcases hm with rfl | rfl | rfl | rfl | rfl | rfl | rfl | rfl | rfl | rfl | rfl | rfl | rfl | rfl <;> simp -implicitDefEqProofs [ac67, opSp, lettersB, lowB, maxStr, go_sem, -List.set_cons_succ, -List.set_cons_zero]
/-- the text of a term is as it is said -/
def TxS (t : Tm) : Prop := ∀ H, ACalls Tryz.prog 39 [.agg (t.row.map .d)] H (fun r H' => H' = H ∧ r = .c (.d (.str t.wr)))
/-- a text, in brackets if its operator's level is above another one -/
def brk (t : Tm) (m : Int) : List UInt8 := if infixB t && decide (m < levelN t.s) then 40 :: t.wr ++ [41] else t.wr
theorem brk_len (t : Tm) (m : Int) : (brk t m).length ≤ t.wr.length + 2 := by
  unfold brk
  split <;> simp
theorem bracket_calls (t : Tm) (ht : t.fits) (hT : TxS t) (hw : t.wr.length ≤ 1000000) (m : Int) (H : Heap) : ACalls Tryz.prog 97 [.agg (t.row.map .d), .c (.d (.int .i64 m))] H (fun r H' => H' = H ∧ r = .c (.d (.str (brk t m)))) := by
  have c1 := infix_calls t ht
  unfold TxS at hT
  rw [row_eq] at c1 hT ⊢
  simp only [List.map_cons, List.map_nil] at c1 hT ⊢
  refine acalls Tryz.func97 (by kernel_rfl) ac97_ok fun hf => ?_
  simp -implicitDefEqProofs [ac97, go_sem, -List.set_cons_succ, -List.set_cons_zero]
  refine qcall_pure c1 hf rfl ?_
  cases hi : infixB t with
  | false =>
    simp -implicitDefEqProofs [go_sem, -List.set_cons_succ, -List.set_cons_zero]
    refine qcall_pure hT hf rfl ?_
    simp -implicitDefEqProofs [brk, hi, go_sem, -List.set_cons_succ, -List.set_cons_zero]
  | true =>
    simp -implicitDefEqProofs [go_sem, -List.set_cons_succ, -List.set_cons_zero]
    refine qcall_pure (level_calls t.s) hf rfl ?_
    simp -implicitDefEqProofs [go_sem, -List.set_cons_succ, -List.set_cons_zero]
    refine ⟨fun h => qcall_pure hT hf rfl ?_, fun h => qcall_pure hT hf rfl ?_⟩
    · simp -implicitDefEqProofs [brk, hi, h, maxStr, go_sem, -List.set_cons_succ, -List.set_cons_zero]
      omega
    · simp -implicitDefEqProofs [brk, hi, Int.not_lt.2 h, go_sem, -List.set_cons_succ, -List.set_cons_zero]
theorem left_calls (t : Tm) (ht : t.fits) (hT : TxS t) (hw : t.wr.length ≤ 1000000) (m : Int) (H : Heap) : ACalls Tryz.prog 66 [.agg (t.row.map .d), .c (.d (.int .i64 m))] H
    (fun r H' => H' = H ∧ r = .c (.d (.str (if soleB t then 40 :: t.wr ++ [41] else brk t m)))) := by
  have c1 := sole_calls t ht
  have c2 := bracket_calls t ht hT hw m
  unfold TxS at hT
  rw [row_eq] at c1 c2 hT ⊢
  simp only [List.map_cons, List.map_nil] at c1 c2 hT ⊢
  refine acalls Tryz.func66 (by kernel_rfl) ac66_ok fun hf => ?_
  simp -implicitDefEqProofs [ac66, go_sem, -List.set_cons_succ, -List.set_cons_zero]
  refine qcall_pure c1 hf rfl ?_
  cases hi : soleB t with
  | false =>
    simp -implicitDefEqProofs [go_sem, -List.set_cons_succ, -List.set_cons_zero]
    refine qcall_pure c2 hf rfl ?_
    simp -implicitDefEqProofs [go_sem, -List.set_cons_succ, -List.set_cons_zero]
  | true =>
    simp -implicitDefEqProofs [go_sem, -List.set_cons_succ, -List.set_cons_zero]
    refine qcall_pure hT hf rfl ?_
    simp -implicitDefEqProofs [maxStr, go_sem, -List.set_cons_succ, -List.set_cons_zero]
    omega
theorem byte_off {s : List UInt8} {i : Int} (b : UInt8) {K : A → St → Prop} {st : St} (hk : K (.c (.d (.int .u8 b.toNat))) st) : ByteK false s i K st := ⟨b, fun h => (by cases h), hk⟩
theorem small_at (b : UInt8) (r : List UInt8) (hl : r.length ≤ 4000000) (H : Heap) : ACalls Tryz.prog 107 [.c (.d (.str (b :: r))), .c (.d (.int .i64 0))] H (fun r H' => H' = H ∧ r = .c (.d (.bool (decide (97 ≤ b.toNat ∧ b.toNat ≤ 122))))) := by
  refine acalls Tryz.func107 (by kernel_rfl) ac107_ok fun hf => ?_
  have hli : inR .i64 ((r.length : Int) + 1) := small_i64 (by omega) (by omega)
  have hp : (0 : Int) < (r.length : Int) + 1 := by omega
  simp -implicitDefEqProofs [ac107, hli, hp, go_sem, -List.set_cons_succ, -List.set_cons_zero]
  refine byte_int b (by omega) (by simp) ?_
  by_cases h1 : (97 : Int) ≤ b.toNat
  · have h1' : 97 ≤ b.toNat := by omega
    simp -implicitDefEqProofs [h1, h1', go_sem, -List.set_cons_succ, -List.set_cons_zero]
    refine byte_int b (by omega) (by simp) ?_
    simp -implicitDefEqProofs [h1', go_sem, -List.set_cons_succ, -List.set_cons_zero]
    omega
  · have h1' : ¬ 97 ≤ b.toNat := by omega
    simp -implicitDefEqProofs [h1, h1', go_sem, -List.set_cons_succ, -List.set_cons_zero]
    refine byte_off b ?_
    simp -implicitDefEqProofs [h1', go_sem, -List.set_cons_succ, -List.set_cons_zero]
theorem digit_at (b : UInt8) (r : List UInt8) (hl : r.length ≤ 4000000) (H : Heap) : ACalls Tryz.prog 80 [.c (.d (.str (b :: r))), .c (.d (.int .i64 0))] H (fun r H' => H' = H ∧ r = .c (.d (.bool (decide (48 ≤ b.toNat ∧ b.toNat ≤ 57))))) := by
  refine acalls Tryz.func80 (by kernel_rfl) ac80_ok fun hf => ?_
  have hli : inR .i64 ((r.length : Int) + 1) := small_i64 (by omega) (by omega)
  have hp : (0 : Int) < (r.length : Int) + 1 := by omega
  simp -implicitDefEqProofs [ac80, hli, hp, go_sem, -List.set_cons_succ, -List.set_cons_zero]
  refine byte_int b (by omega) (by simp) ?_
  by_cases h1 : (48 : Int) ≤ b.toNat
  · have h1' : 48 ≤ b.toNat := by omega
    simp -implicitDefEqProofs [h1, h1', go_sem, -List.set_cons_succ, -List.set_cons_zero]
    refine byte_int b (by omega) (by simp) ?_
    simp -implicitDefEqProofs [h1', go_sem, -List.set_cons_succ, -List.set_cons_zero]
    omega
  · have h1' : ¬ 48 ≤ b.toNat := by omega
    simp -implicitDefEqProofs [h1, h1', go_sem, -List.set_cons_succ, -List.set_cons_zero]
    refine byte_off b ?_
    simp -implicitDefEqProofs [h1', go_sem, -List.set_cons_succ, -List.set_cons_zero]
theorem plain_calls (b : UInt8) (r : List UInt8) (hl : r.length ≤ 4000000) (H : Heap) : ACalls Tryz.prog 98 [.c (.d (.str (b :: r)))] H (fun r' H' => H' = H ∧ r' = .c (.d (.bool (plainC b)))) := by
  refine acalls Tryz.func98 (by kernel_rfl) ac98_ok fun hf => ?_
  simp -implicitDefEqProofs [ac98, go_sem, -List.set_cons_succ, -List.set_cons_zero]
  refine qcall_pure (small_at b r hl) hf rfl ?_
  have on : ∀ {K : A → St → Prop} {st : St}, K (.c (.d (.int .u8 b.toNat))) st → ByteK true (b :: r) 0 K st := fun hk => byte_int b (by omega) (by simp) hk
  by_cases h1 : 97 ≤ b.toNat ∧ b.toNat ≤ 122
  · have hp : plainC b = true := by simp [plainC, h1]
    simp -implicitDefEqProofs [h1, hp, go_sem, -List.set_cons_succ, -List.set_cons_zero]
    refine byte_off b ?_
    simp -implicitDefEqProofs [go_sem, -List.set_cons_succ, -List.set_cons_zero]
    refine byte_off b ?_
    simp -implicitDefEqProofs [go_sem, -List.set_cons_succ, -List.set_cons_zero]
    refine byte_off b ?_
    simp -implicitDefEqProofs [go_sem, -List.set_cons_succ, -List.set_cons_zero]
    refine byte_off b ?_
    simp -implicitDefEqProofs [go_sem, -List.set_cons_succ, -List.set_cons_zero]
  · simp -implicitDefEqProofs [h1, go_sem, -List.set_cons_succ, -List.set_cons_zero]
    refine qcall_pure (digit_at b r hl) hf rfl ?_
    by_cases h2 : 48 ≤ b.toNat ∧ b.toNat ≤ 57
    · have hp : plainC b = true := by simp [plainC, h2]
      simp -implicitDefEqProofs [h2, hp, go_sem, -List.set_cons_succ, -List.set_cons_zero]
      refine byte_off b ?_
      simp -implicitDefEqProofs [go_sem, -List.set_cons_succ, -List.set_cons_zero]
      refine byte_off b ?_
      simp -implicitDefEqProofs [go_sem, -List.set_cons_succ, -List.set_cons_zero]
      refine byte_off b ?_
      simp -implicitDefEqProofs [go_sem, -List.set_cons_succ, -List.set_cons_zero]
      refine byte_off b ?_
      simp -implicitDefEqProofs [go_sem, -List.set_cons_succ, -List.set_cons_zero]
    · simp -implicitDefEqProofs [h2, go_sem, -List.set_cons_succ, -List.set_cons_zero]
      refine on ?_
      by_cases h3 : (65 : Int) ≤ b.toNat
      · simp -implicitDefEqProofs [h3, go_sem, -List.set_cons_succ, -List.set_cons_zero]
        refine on ?_
        by_cases h4 : (b.toNat : Int) ≤ 90
        · have hp : plainC b = true := by
            have : 65 ≤ b.toNat ∧ b.toNat ≤ 90 := by omega
            simp [plainC, this]
          simp -implicitDefEqProofs [h4, hp, go_sem, -List.set_cons_succ, -List.set_cons_zero]
          refine byte_off b ?_
          simp -implicitDefEqProofs [go_sem, -List.set_cons_succ, -List.set_cons_zero]
          refine byte_off b ?_
          simp -implicitDefEqProofs [go_sem, -List.set_cons_succ, -List.set_cons_zero]
        · simp -implicitDefEqProofs [h4, go_sem, -List.set_cons_succ, -List.set_cons_zero]
          refine on ?_
          by_cases h5 : (b.toNat : Int) = 91
          · have h6 : b = 91 := UInt8.toNat_inj.1 (by simp; omega)
            have hp : plainC b = true := by simp [plainC, h6]
            simp -implicitDefEqProofs [h5, hp, go_sem, -List.set_cons_succ, -List.set_cons_zero]
            refine byte_off b ?_
            simp -implicitDefEqProofs [go_sem, -List.set_cons_succ, -List.set_cons_zero]
          · have h6 : b ≠ 91 := fun h => h5 (by rw [h]; rfl)
            have hp : plainC b = decide ((b.toNat : Int) = 40) := by
              have h7 : ¬ (65 ≤ b.toNat ∧ b.toNat ≤ 90) := by omega
              have h8 : (b = 40) ↔ ((b.toNat : Int) = 40) := ⟨fun h => by rw [h]; rfl, fun h => UInt8.toNat_inj.1 (by simp; omega)⟩
              simp [plainC, h1, h2, h6, h7, beq_dec, h8]
            have h9 : ((b.toNat : Int) == 91) = false := by simpa using h5
            simp -implicitDefEqProofs [h5, h9, hp, go_sem, -List.set_cons_succ, -List.set_cons_zero]
            refine on ?_
            simp -implicitDefEqProofs [go_sem, -List.set_cons_succ, -List.set_cons_zero]
            try (simp [beq_dec]; done)
      · simp -implicitDefEqProofs [h3, go_sem, -List.set_cons_succ, -List.set_cons_zero]
        refine byte_off b ?_
        simp -implicitDefEqProofs [go_sem, -List.set_cons_succ, -List.set_cons_zero]
        refine on ?_
        by_cases h5 : (b.toNat : Int) = 91
        · have h6 : b = 91 := UInt8.toNat_inj.1 (by simp; omega)
          have hp : plainC b = true := by simp [plainC, h6]
          simp -implicitDefEqProofs [h5, hp, go_sem, -List.set_cons_succ, -List.set_cons_zero]
          refine byte_off b ?_
          simp -implicitDefEqProofs [go_sem, -List.set_cons_succ, -List.set_cons_zero]
        · have h6 : b ≠ 91 := fun h => h5 (by rw [h]; rfl)
          have hp : plainC b = decide ((b.toNat : Int) = 40) := by
            have h7 : ¬ (65 ≤ b.toNat ∧ b.toNat ≤ 90) := by omega
            have h8 : (b = 40) ↔ ((b.toNat : Int) = 40) := ⟨fun h => by rw [h]; rfl, fun h => UInt8.toNat_inj.1 (by simp; omega)⟩
            simp [plainC, h1, h2, h6, h7, beq_dec, h8]
          have h9 : ((b.toNat : Int) == 91) = false := by simpa using h5
          simp -implicitDefEqProofs [h5, h9, hp, go_sem, -List.set_cons_succ, -List.set_cons_zero]
          refine on ?_
          simp -implicitDefEqProofs [go_sem, -List.set_cons_succ, -List.set_cons_zero]
          try (simp [beq_dec]; done)
theorem right_calls (t : Tm) (ht : t.fits) (hT : TxS t) (hne : t.wr ≠ []) (hw : t.wr.length ≤ 1000000) (m : Int) (H : Heap) : ACalls Tryz.prog 68 [.agg (t.row.map .d), .c (.d (.int .i64 m))] H
    (fun r H' => H' = H ∧ r = .c (.d (.str (if soleB t || !plainC ((brk t m).headD 0) then 40 :: brk t m ++ [41] else brk t m)))) := by
  have c1 := sole_calls t ht
  have c2 := bracket_calls t ht hT hw m
  have hl := brk_len t m
  have hbne : brk t m ≠ [] := by
    unfold brk
    split
    · simp
    · exact hne
  rw [row_eq] at c1 c2 ⊢
  simp only [List.map_cons, List.map_nil] at c1 c2 ⊢
  refine acalls Tryz.func68 (by kernel_rfl) ac68_ok fun hf => ?_
  simp -implicitDefEqProofs [ac68, go_sem, -List.set_cons_succ, -List.set_cons_zero]
  refine qcall_pure c2 hf rfl ?_
  generalize brk t m = w at hl hbne ⊢
  obtain ⟨b, r, rfl⟩ : ∃ b r, w = b :: r := by
    cases w with
    | nil => exact absurd rfl hbne
    | cons b r => exact ⟨b, r, rfl⟩
  simp at hl
  simp -implicitDefEqProofs [go_sem, -List.set_cons_succ, -List.set_cons_zero]
  refine qcall_pure c1 hf rfl ?_
  cases hi : soleB t with
  | true =>
    simp -implicitDefEqProofs [maxStr, go_sem, -List.set_cons_succ, -List.set_cons_zero]
    omega
  | false =>
    simp -implicitDefEqProofs [go_sem, -List.set_cons_succ, -List.set_cons_zero]
    refine qcall_pure (plain_calls b r (by omega)) hf rfl ?_
    cases hp : plainC b <;> simp -implicitDefEqProofs [maxStr, go_sem, -List.set_cons_succ, -List.set_cons_zero]
    omega
theorem joinS_take (l : List Tm) (h : ∀ t ∈ l, t.wr.length ≤ 1000000) {i : Nat} (hi : i ≤ l.length) : (joinS 44 ((l.map Tm.wr).take i)).length ≤ 1000001 * i := by
  refine Nat.le_trans (joinS_len 44 _) ?_
  rw [← List.map_take]
  have : ∀ q : List Tm, (∀ t ∈ q, t.wr.length ≤ 1000000) → ((q.map Tm.wr).map fun x => x.length + 1).sum ≤ 1000001 * q.length := by
    intro q
    induction q with
    | nil => intro _; simp
    | cons a q ih =>
      intro h
      have h1 := h a (by simp)
      have h2 := ih fun t ht => h t (by simp [ht])
      simp at h2 ⊢
      omega
  have h3 := this (l.take i) fun t ht => h t (List.mem_of_mem_take ht)
  simpa [Nat.min_eq_left hi] using h3
theorem wargs_calls (l : List Tm) (hl : l.length ≤ 1048576) (hT : ∀ t ∈ l, TxS t ∧ t.wr.length ≤ 1000000) (H : Heap) : ACalls Tryz.prog 69 [.c (.d (.sl (l.map Tm.row)))] H (fun r H' => H' = H ∧ r = .c (.d (.str (joinS 44 (l.map Tm.wr))))) := by
  refine acalls Tryz.func69 (by kernel_rfl) ac69_ok fun hf => ?_
  have hli : inR .i64 (l.length : Int) := small_i64 (by omega) (by omega)
  simp -implicitDefEqProofs [ac69, hli, go_sem, -List.set_cons_succ, -List.set_cons_zero]
  refine loop_set (σ := Nat) (fun i => [(4, .c (.d (.int .i64 i))), (3, .c (.d (.str (joinS 44 ((l.map Tm.wr).take i)))))]) (fun _ => H) (fun _ => []) (fun i => i ≤ l.length) (fun i => l.length - i) 0 rfl (Nat.zero_le _) ?_
  intro i hi
  have hb : (joinS 44 ((l.map Tm.wr).take i)).length ≤ 1000001 * i := joinS_take l (fun t ht => (hT t ht).2) hi
  simp -implicitDefEqProofs [setAll, hli, go_sem, -List.set_cons_succ, -List.set_cons_zero]
  refine ⟨fun hlt => ?_, fun hge => by rw [List.take_of_length_le (by simpa using hge)]⟩
  have hadd : inR .i64 ((i : Int) + 1) := small_i64 (by omega) (by omega)
  have hnext : joinS 44 ((l.map Tm.wr).take (i + 1)) = if (l.map Tm.wr).take i = [] then l[i].wr else joinS 44 ((l.map Tm.wr).take i) ++ 44 :: l[i].wr := by
    rw [List.take_succ_eq_append_getElem (by simpa using hlt), joinS_snoc]
    simp
  have hwi := (hT l[i] (List.getElem_mem hlt)).2
  have hTi := (hT l[i] (List.getElem_mem hlt)).1
  refine ⟨fun hp => ⟨by unfold maxStr; omega, row_of hlt (row_len _) ?_⟩, fun h0 => row_of hlt (row_len _) ?_⟩
  · have hne : ¬ (l.map Tm.wr).take i = [] := by
      intro h
      have := congrArg List.length h
      rw [List.length_take, List.length_map] at this
      simp only [List.length_nil] at this
      omega
    rw [if_neg hne] at hnext
    simp -implicitDefEqProofs [row_len, take_row, pure_d, re_d, go_sem, -List.set_cons_succ, -List.set_cons_zero]
    refine qcall_pure hTi hf rfl ?_
    simp -implicitDefEqProofs [hadd, maxStr, go_sem, -List.set_cons_succ, -List.set_cons_zero]
    refine ⟨by omega, ?_⟩
    exact loop_back (i + 1) (by simp [setAll, hnext]) hlt (by show l.length - (i + 1) < l.length - i; omega)
  · subst h0
    simp at hnext
    simp -implicitDefEqProofs [row_len, take_row, pure_d, re_d, go_sem, -List.set_cons_succ, -List.set_cons_zero]
    refine qcall_pure hTi hf rfl ?_
    simp -implicitDefEqProofs [hadd, maxStr, joinS, go_sem, -List.set_cons_succ, -List.set_cons_zero]
    refine ⟨by omega, by simpa using hadd, ?_⟩
    exact loop_back 1 (by simp [setAll, hnext]) hlt (by show l.length - 1 < l.length - 0; omega)
theorem leaf_calls (t : Tm) (ht : t.fits) (hg : t.good) (hk : t.kids = []) (H : Heap) : ACalls Tryz.prog 70 [.agg (t.row.map .d)] H (fun r H' => H' = H ∧ r = .c (.d (.str t.wr))) := by
  obtain ⟨k, n, s, l⟩ := t
  obtain rfl : l = [] := hk
  obtain ⟨ho, _⟩ := hg
  have hpair := pairSpec_calls _ ht
  obtain ⟨hk1, hn1, hs, hl, _⟩ := ht
  refine acalls Tryz.func70 (by kernel_rfl) ac70_ok fun hf => ?_
  have h00 : inR .i64 0 := small_i64 (by omega) (by omega)
  rcases own_cases ho with ⟨rfl, n0, n1, rfl, _⟩ | ⟨rfl, n0, n1, rfl, _⟩ | ⟨rfl, rfl, hs2, _⟩
  · obtain ⟨m, rfl⟩ := Int.eq_ofNat_of_zero_le n0
    simp -implicitDefEqProofs [ac70, row_mk, go_sem, -List.set_cons_succ, -List.set_cons_zero]
    refine qcall_pure (letter_calls m (by omega)) hf rfl ?_
    simp -implicitDefEqProofs [Tm.wr, wrNode, go_sem, -List.set_cons_succ, -List.set_cons_zero]
  · simp -implicitDefEqProofs [ac70, row_mk, go_sem, -List.set_cons_succ, -List.set_cons_zero]
    refine qcall_pure (dec1_calls n (by omega) (by omega)) hf rfl ?_
    simp -implicitDefEqProofs [Tm.wr, wrNode, go_sem, -List.set_cons_succ, -List.set_cons_zero]
  · simp [row_mk] at hpair
    simp -implicitDefEqProofs [ac70, row_mk, go_sem, -List.set_cons_succ, -List.set_cons_zero]
    refine qcall_pure hpair hf rfl ?_
    have hpb : (Tm.mk 3 0 s []).pairB = false := by simp [Tm.pairB, Tm.kids]
    simp -implicitDefEqProofs [hpb, go_sem, -List.set_cons_succ, -List.set_cons_zero]
    refine loop_set (σ := Unit) (fun _ => []) (fun _ => H) (fun _ => [_]) (fun _ => True) (fun _ => 0) () rfl trivial ?_
    rintro ⟨⟩ _
    simp -implicitDefEqProofs [setAll, h00, go_sem, -List.set_cons_succ, -List.set_cons_zero]
    simp [Tm.wr, wrNode]
end Go.Proofs.YtgfmlifkhpjplaaGreatDoor

/-
  Lists and terms as the reference writes them.
  Conditions: none.
-/
open Go Go.AM Go.Proofs
namespace Go.Proofs.YtgfmlifkhpjplaaGreatDoor
open Go.ChangeShapes Go.WideShapes Go.ChangeAt Go.RowKit
set_option linter.unusedVariables false
set_option linter.unusedSimpArgs false
set_option maxRecDepth 100000
theorem pair_inv {t : Tm} (h : t.pairB = true) : ∃ n a b, t = .mk 3 n [46] [a, b] := by
  obtain ⟨k, n, s, l⟩ := t
  simp only [Tm.pairB, Tm.k, Tm.s, Tm.kids, Bool.and_eq_true, decide_eq_true_eq, beq_iff_eq] at h
  obtain ⟨⟨hk, rfl⟩, hl⟩ := h
  obtain rfl : k = 3 := of_decide_eq_true hk
  have hl : (l.length : Int) = 2 := of_decide_eq_true hl
  match l, show l.length = 2 by omega with
  | [a, b], _ => exact ⟨n, a, b, rfl⟩
theorem pair_wrt (n : Int) (a b : Tm) : (Tm.mk 3 n [46] [a, b]).wrt = 44 :: a.wr ++ b.wrt := by
  rw [Tm.wrt, wrs_map, wrts_map]
  simp
theorem pair_wr (n : Int) (a b : Tm) : (Tm.mk 3 n [46] [a, b]).wr = 91 :: (a.wr ++ b.wrt) ++ [93] := by
  rw [Tm.wr, wrs_map, wrts_map]
  simp [wrNode]
theorem end_wrt {t : Tm} (h : t.pairB = false) : t.wrt = if t.nilB then [] else 124 :: t.wr := by
  obtain ⟨k, n, s, l⟩ := t
  rw [Tm.wrt, Tm.wr]
  have h1 : ¬ (k = 3 ∧ s = [46] ∧ l.length = 2) := by
    rintro ⟨rfl, rfl, h2⟩
    have h3 : (l.length : Int) = 2 := by omega
    simp [Tm.pairB, Tm.k, Tm.s, Tm.kids, h3] at h
  rw [if_neg h1]
  by_cases h2 : k = 3 ∧ s = [91, 93] ∧ l = []
  · obtain ⟨rfl, rfl, rfl⟩ := h2
    simp [Tm.nilB, Tm.k, Tm.kids, Tm.s]
  · have h3 : (Tm.mk k n s l).nilB = false := by
      cases hb : (Tm.mk k n s l).nilB with
      | false => rfl
      | true =>
        simp only [Tm.nilB, Tm.k, Tm.kids, Tm.s, Bool.and_eq_true, decide_eq_true_eq, beq_iff_eq, List.isEmpty_iff] at hb
        exact absurd ⟨of_decide_eq_true hb.1.1, hb.2, hb.1.2⟩ h2
    rw [if_neg h2, h3]
    rfl
/-- a term that the writers meet -/
structure Tm.ok (t : Tm) : Prop where
  fits : t.fits
  good : t.good
  size : t.size ≤ 300
theorem Tm.ok.len {t : Tm} (h : t.ok) : t.wr.length ≤ 6000 ∧ t.wrt.length ≤ 6001 ∧ t.wr ≠ [] := by
  have := wr_len t h.good
  have := h.size
  exact ⟨by omega, by omega, (wr_len t h.good).2⟩
theorem Tm.ok.kid {k n : Int} {s : List UInt8} {l : List Tm} (h : (Tm.mk k n s l).ok) {u : Tm} (hu : u ∈ l) : u.ok ∧ u.size < (Tm.mk k n s l).size := by
  obtain ⟨h1, h2, h3⟩ := h
  have h4 := sizes_mem hu
  rw [Tm.size] at h3 ⊢
  cases h1 with
  | mk _ _ _ _ hk => cases h2 with
    | mk _ hg => exact ⟨⟨hk u hu, hg u hu, by omega⟩, by omega⟩
theorem list_calls (t : Tm) (ht : t.ok) (hp : t.pairB = true) (hT : ∀ u : Tm, u.ok → u.size < t.size → TxS u) (H : Heap) : ACalls Tryz.prog 64 [.agg (t.row.map .d)] H (fun r H' => H' = H ∧ r = .c (.d (.str t.wr))) := by
  refine acalls Tryz.func64 (by kernel_rfl) ac64_ok fun hf => ?_
  simp -implicitDefEqProofs [ac64, row_len, take_row, go_sem, -List.set_cons_succ, -List.set_cons_zero]
  refine loop_enter (St.le_token 3 4 rfl) ?_
  refine loop_set (σ := List Tm × Tm) (fun x => [(3, .c (.own (.l 1) x.1.length (x.1.map Tm.row)))]) (fun _ => H) (fun x => [.cells (x.2.row.map .d), .grow x.1.length 4])
    (fun x => x.2.ok ∧ x.1.length + x.2.size ≤ t.size ∧ (∀ u ∈ x.1, u.ok ∧ u.size < t.size) ∧ ((x.1 = [] ∧ x.2 = t) ∨ (x.1 ≠ [] ∧ t.wr = 91 :: (joinS 44 (x.1.map Tm.wr) ++ x.2.wrt) ++ [93]))) (fun x => x.2.size) ([], t) rfl ⟨ht, by simp, by simp, .inl ⟨rfl, rfl⟩⟩ ?_
  rintro ⟨l, c⟩ ⟨hc, hsz, hl, hw⟩
  simp only at hc hsz hl hw
  have hts := ht.size
  simp -implicitDefEqProofs [setAll, row_len, take_row, pure_d, re_d, go_sem, -List.set_cons_succ, -List.set_cons_zero]
  refine qcall_pure (pairSpec_calls c hc.fits) hf rfl ?_
  cases hcp : c.pairB with
  | true =>
    obtain ⟨n, a, b, rfl⟩ := pair_inv hcp
    simp -implicitDefEqProofs [row_mk, go_sem, -List.set_cons_succ, -List.set_cons_zero]
    have ha := hc.kid (u := a) (by simp)
    have hb := hc.kid (u := b) (by simp)
    have hct : (Tm.mk 3 n [46] [a, b]).size ≤ t.size := by omega
    have hcs : (Tm.mk 3 n [46] [a, b]).size = 1 + a.size + b.size := by simp [Tm.size, sizes]; omega
    refine row_int a.row (by omega) rfl (row_len _) ?_
    simp -implicitDefEqProofs [row_len, take_row, pure_d, re_d, toDs_map, hf, go_sem, -List.set_cons_succ, -List.set_cons_zero]
    refine ⟨allLen_map row_len, by unfold maxApp; omega, row_int b.row (by omega) rfl (row_len _) ?_⟩
    simp -implicitDefEqProofs [row_len, take_row, pure_d, re_d, toDs_map, hf, go_sem, -List.set_cons_succ, -List.set_cons_zero]
    refine loop_back (l ++ [a], b) (by simp [setAll]) ⟨hb.1, by simp; omega, fun u hu => ?_, .inr ⟨by simp, ?_⟩⟩ (by show b.size < (Tm.mk 3 n [46] [a, b]).size; omega)
    · rcases List.mem_append.1 hu with hu | hu
      · exact hl u hu
      · rw [List.mem_singleton.1 hu]
        exact ⟨ha.1, by omega⟩
    · simp only [List.map_append, List.map_cons, List.map_nil]
      rw [joinS_snoc]
      rcases hw with ⟨rfl, rfl⟩ | ⟨hne, hw⟩
      · rw [pair_wr]
        simp
      · rw [hw, pair_wrt, if_neg (by simpa using hne)]
        simp
  | false =>
    have hlen : (joinS 44 (l.map Tm.wr)).length ≤ 1000001 * l.length := by
      have := joinS_take l (fun u hu => by have := (hl u hu).1.len; omega) (Nat.le_refl _)
      rwa [List.take_of_length_le (by simp)] at this
    have hne : l ≠ [] := by
      rintro rfl
      rcases hw with ⟨_, rfl⟩ | ⟨h, _⟩
      · rw [hp] at hcp; cases hcp
      · exact h rfl
    obtain ⟨_, hw⟩ : l ≠ [] ∧ t.wr = 91 :: (joinS 44 (l.map Tm.wr) ++ c.wrt) ++ [93] := by
      rcases hw with ⟨h, _⟩ | h
      · exact absurd h hne
      · exact h
    have hlt : c.size < t.size := by
      have : 0 < l.length := List.length_pos_iff.2 hne
      omega
    have hargs := wargs_calls l (by omega) (fun u hu => ⟨hT u (hl u hu).1 (hl u hu).2, by have := (hl u hu).1.len; omega⟩)
    rw [end_wrt hcp] at hw
    have hcl := hc.len
    simp -implicitDefEqProofs [row_len, take_row, pure_d, re_d, go_sem, -List.set_cons_succ, -List.set_cons_zero]
    refine qcall_pure (nilSpec_calls c hc.fits) hf rfl ?_
    cases hn : c.nilB with
    | true =>
      rw [hn] at hw
      simp -implicitDefEqProofs [go_sem, -List.set_cons_succ, -List.set_cons_zero]
      refine qcall_pure hargs hf rfl ?_
      simp -implicitDefEqProofs [hw, maxStr, go_sem, -List.set_cons_succ, -List.set_cons_zero]
      omega
    | false =>
      rw [hn] at hw
      simp -implicitDefEqProofs [go_sem, -List.set_cons_succ, -List.set_cons_zero]
      refine qcall_pure hargs hf rfl ?_
      simp -implicitDefEqProofs [maxStr, row_len, take_row, pure_d, re_d, go_sem, -List.set_cons_succ, -List.set_cons_zero]
      refine ⟨by omega, by omega, qcall_pure (hT c hc hlt) hf rfl ?_⟩
      simp -implicitDefEqProofs [hw, maxStr, go_sem, -List.set_cons_succ, -List.set_cons_zero]
      omega
theorem sole_eq (t : Tm) : soleB t = (t.atomB && decide (0 < levelN t.s)) := by
  have : decide ((t.kids.length : Int) = 0) = t.kids.isEmpty := by cases t.kids <;> simp; omega
  simp only [soleB, Tm.atomB, this]
theorem infix_lv (t : Tm) {m : Int} (hm : 0 ≤ m) (hk : t.kids.length = 2 → t.k = 3) : (infixB t && decide (m < levelN t.s)) = decide (m < t.lv) := by
  unfold infixB Tm.lv
  by_cases h2 : t.kids.length = 2
  · have h3 := hk h2
    have h4 : (t.kids.length : Int) = 2 := by omega
    rw [if_pos h2, Bool.eq_iff_iff]
    simp only [Bool.and_eq_true, decide_eq_true_iff]
    exact ⟨fun h => h.2, fun h => ⟨⟨⟨h3, h4⟩, by omega⟩, h⟩⟩
  · have h4 : ¬ (t.kids.length : Int) = 2 := by omega
    rw [if_neg h2, Bool.eq_iff_iff]
    simp only [Bool.and_eq_true, decide_eq_true_iff]
    exact ⟨fun h => absurd h.1.1.2 h4, fun h => by omega⟩
theorem brk_opnd_left (t : Tm) {m : Int} (hm : 0 ≤ m) (hk : t.kids.length = 2 → t.k = 3) : (if soleB t then 40 :: t.wr ++ [41] else brk t m) = opnd t t.wr m false := by
  unfold brk opnd
  rw [infix_lv t hm hk, sole_eq]
  cases (t.atomB && decide (0 < levelN t.s)) <;> cases decide (m < t.lv) <;> rfl
theorem plain_40 : plainC 40 = true := by decide
theorem sole_not_infix {t : Tm} (h : soleB t = true) : infixB t = false := by
  cases hi : infixB t with
  | false => rfl
  | true =>
    simp only [soleB, infixB, Bool.and_eq_true, decide_eq_true_iff] at h hi
    omega
theorem brk_opnd_right (t : Tm) {m : Int} (hm : 0 ≤ m) (hk : t.kids.length = 2 → t.k = 3) : (if soleB t || !plainC ((brk t m).headD 0) then 40 :: brk t m ++ [41] else brk t m) = opnd t t.wr m true := by
  have h1 : brk t m = if decide (m < t.lv) then 40 :: t.wr ++ [41] else t.wr := by
    unfold brk
    rw [infix_lv t hm hk]
  have h2 : soleB t = true → decide (m < t.lv) = false := fun h => by
    rw [← infix_lv t hm hk, sole_not_infix h]
    rfl
  unfold opnd
  rw [← sole_eq, h1]
  cases hs : soleB t with
  | true =>
    rw [h2 hs]
    rfl
  | false =>
    cases decide (m < t.lv) with
    | true => simp [plain_40]
    | false => simp
theorem lv_range {s : List UInt8} (h : 0 < levelN s) : (levelN s = 1 ∨ levelN s = 2 ∨ levelN s = 3) ∧ (levelN s = 3 → leftMost s = 2) ∧ (levelN s ≠ 3 → leftMost s = levelN s) := by
  have h1 : levelN s = 1 ∨ levelN s = 2 ∨ levelN s = 3 := by
    unfold levelN at h ⊢
    split
    · simp
    · split
      · simp
      · split
        · simp
        · rename_i a b c; rw [if_neg a, if_neg b, if_neg c] at h; omega
  refine ⟨h1, fun h3 => ?_, fun h3 => ?_⟩
  · simp [leftMost, leftB, h3]
  · rcases h1 with h1 | h1 | h1
    · simp [leftMost, leftB, h1]
    · simp [leftMost, leftB, h1]
    · exact absurd h1 h3
theorem text_calls : ∀ (N : Nat) (t : Tm), t.size ≤ N → t.ok → TxS t := by
  intro N
  induction N with
  | zero =>
    intro t h
    obtain ⟨k, n, s, l⟩ := t
    rw [Tm.size] at h
    omega
  | succ N ih =>
    intro t hN ht H
    have hT : ∀ u : Tm, u.ok → u.size < t.size → TxS u := fun u hu h => ih u (by omega) hu
    have c1 := pairSpec_calls t ht.fits
    have c2 := infix_calls t ht.fits
    refine acalls Tryz.func39 (by kernel_rfl) ac39_ok fun hf => ?_
    simp -implicitDefEqProofs [ac39, row_len, take_row, pure_d, re_d, go_sem, -List.set_cons_succ, -List.set_cons_zero]
    refine qcall_pure c1 hf rfl ?_
    cases hp : t.pairB with
    | true =>
      simp -implicitDefEqProofs [row_len, take_row, pure_d, re_d, go_sem, -List.set_cons_succ, -List.set_cons_zero]
      refine qcall_pure (list_calls t ht hp hT) hf rfl ?_
      simp -implicitDefEqProofs [go_sem, -List.set_cons_succ, -List.set_cons_zero]
    | false =>
      simp -implicitDefEqProofs [row_len, take_row, pure_d, re_d, go_sem, -List.set_cons_succ, -List.set_cons_zero]
      refine qcall_pure c2 hf rfl ?_
      cases hi : infixB t with
      | true =>
        obtain ⟨k, n, s, l⟩ := t
        have hi2 := hi
        simp only [infixB, Tm.k, Tm.kids, Tm.s, Bool.and_eq_true, decide_eq_true_iff] at hi2
        obtain ⟨⟨hk3, hl2⟩, hlv⟩ := hi2
        obtain rfl : k = 3 := of_decide_eq_true hk3
        have hl2 : (l.length : Int) = 2 := of_decide_eq_true hl2
        have hlp : 0 < levelN s := of_decide_eq_true hlv
        clear hlv
        match l, show l.length = 2 by omega, ht, hT, hp with
        | [a, b], _, ht, hT, hp =>
          have ha := ht.kid (u := a) (by simp)
          have hb := ht.kid (u := b) (by simp)
          have hal := ha.1.len
          have hbl := hb.1.len
          obtain ⟨hr1, hr2, hr3⟩ := lv_range hlp
          have hsl : s.length ≤ 1048576 := by
            cases ht.fits with
            | mk _ _ h3 _ _ => exact h3
          have hsub : inR .i64 (levelN s - 1) := small_i64 (by omega) (by omega)
          simp -implicitDefEqProofs [row_mk, go_sem, -List.set_cons_succ, -List.set_cons_zero]
          refine qcall_pure (level_calls s) hf rfl ?_
          have hk2 : ∀ u : Tm, u.ok → u.kids.length = 2 → u.k = 3 := fun u hu h => by
            obtain ⟨k, n, s, l⟩ := u
            have hg := hu.good
            cases hg with
            | mk ho _ =>
              rcases own_cases ho with ⟨_, _, _, _, rfl⟩ | ⟨_, _, _, _, rfl⟩ | ⟨h3, _⟩
              · simp [Tm.kids] at h
              · simp [Tm.kids] at h
              · exact h3
          have hm0 : 0 ≤ leftMost s := by
            by_cases h3 : levelN s = 3
            · rw [hr2 h3]; omega
            · rw [hr3 h3]; omega
          have cl := left_calls a ha.1.fits (hT a ha.1 ha.2) (by omega) (leftMost s)
          have cr := right_calls b hb.1.fits (hT b hb.1 hb.2) hbl.2.2 (by omega) (levelN s - 1)
          rw [brk_opnd_left a hm0 (hk2 a ha.1)] at cl
          rw [brk_opnd_right b (by omega) (hk2 b hb.1)] at cr
          have hol := opnd_len a a.wr (leftMost s) false
          have hor := opnd_len b b.wr (levelN s - 1) true
          have hos := opSp_len s
          have hwr : (Tm.mk 3 n s [a, b]).wr = opnd a a.wr (leftMost s) false ++ opSp s ++ opnd b b.wr (levelN s - 1) true := by
            have hne : s ≠ [46] := by rintro rfl; simp [levelN, ops3] at hlp
            rw [Tm.wr, wrs_map, wrts_map]
            simp [wrNode, hne, hlp]
          rw [hwr]
          by_cases h3 : levelN s = 3
          · rw [hr2 h3] at cl hol
            rw [h3, show (3 : Int) - 1 = 2 from rfl] at cr hor hsub
            rw [h3, show (3 : Int) - 1 = 2 from rfl]
            have h22 : inR .i64 2 := small_i64 (by omega) (by omega)
            simp only [hr2 h3]
            simp -implicitDefEqProofs [h3, hsub, h22, go_sem, -List.set_cons_succ, -List.set_cons_zero]
            refine row_int (i := 0) a.row (by omega) rfl (row_len _) ?_
            simp -implicitDefEqProofs [row_len, take_row, pure_d, re_d, go_sem, -List.set_cons_succ, -List.set_cons_zero]
            refine qcall_pure cl hf rfl ?_
            simp -implicitDefEqProofs [go_sem, -List.set_cons_succ, -List.set_cons_zero]
            refine qcall_pure (spaced_calls s hlp) hf rfl ?_
            simp -implicitDefEqProofs [maxStr, go_sem, -List.set_cons_succ, -List.set_cons_zero]
            refine ⟨by omega, row_int (i := 1) b.row (by omega) rfl (row_len _) ?_⟩
            simp -implicitDefEqProofs [row_len, take_row, pure_d, re_d, go_sem, -List.set_cons_succ, -List.set_cons_zero]
            refine qcall_pure cr hf rfl ?_
            simp -implicitDefEqProofs [maxStr, go_sem, -List.set_cons_succ, -List.set_cons_zero]
            omega
          · rw [hr3 h3] at cl hol
            have h4 : (levelN s == 3) = false := by simpa using h3
            simp only [hr3 h3]
            simp -implicitDefEqProofs [h3, h4, hsub, go_sem, -List.set_cons_succ, -List.set_cons_zero]
            refine row_int (i := 0) a.row (by omega) rfl (row_len _) ?_
            simp -implicitDefEqProofs [row_len, take_row, pure_d, re_d, go_sem, -List.set_cons_succ, -List.set_cons_zero]
            refine qcall_pure cl hf rfl ?_
            simp -implicitDefEqProofs [go_sem, -List.set_cons_succ, -List.set_cons_zero]
            refine qcall_pure (spaced_calls s hlp) hf rfl ?_
            simp -implicitDefEqProofs [maxStr, go_sem, -List.set_cons_succ, -List.set_cons_zero]
            refine ⟨by omega, row_int (i := 1) b.row (by omega) rfl (row_len _) ?_⟩
            simp -implicitDefEqProofs [row_len, take_row, pure_d, re_d, go_sem, -List.set_cons_succ, -List.set_cons_zero]
            refine qcall_pure cr hf rfl ?_
            simp -implicitDefEqProofs [maxStr, go_sem, -List.set_cons_succ, -List.set_cons_zero]
            omega
      | false =>
        have hli : inR .i64 (t.kids.length : Int) := by
          cases ht.fits with
          | mk _ _ _ h _ => exact small_i64 (by simp only [Tm.kids]; omega) (by simp only [Tm.kids]; omega)
        by_cases hks : t.kids = []
        · have hlf := leaf_calls t ht.fits ht.good hks
          obtain ⟨k, n, s, l⟩ := t
          obtain rfl : l = [] := hks
          have h00 : inR .i64 0 := small_i64 (by omega) (by omega)
          simp [row_mk] at hlf
          by_cases hk : k = 3
          · simp -implicitDefEqProofs [row_mk, hk, h00, go_sem, -List.set_cons_succ, -List.set_cons_zero]
            subst hk
            refine qcall_pure hlf hf rfl ?_
            simp -implicitDefEqProofs [go_sem, -List.set_cons_succ, -List.set_cons_zero]
          · simp -implicitDefEqProofs [row_mk, hk, h00, go_sem, -List.set_cons_succ, -List.set_cons_zero]
            refine qcall_pure hlf hf rfl ?_
            simp -implicitDefEqProofs [go_sem, -List.set_cons_succ, -List.set_cons_zero]
        · obtain ⟨k, n, s, l⟩ := t
          have hkl : l ≠ [] := hks
          clear hks
          have hkids := fun u hu => ht.kid (k := k) (n := n) (s := s) (l := l) (u := u) hu
          obtain rfl : k = 3 := by
            cases ht.good with
            | mk ho _ =>
              rcases own_cases ho with ⟨_, _, _, _, h⟩ | ⟨_, _, _, _, h⟩ | ⟨h3, _⟩
              · exact absurd h hkl
              · exact absurd h hkl
              · exact h3
          simp only [Tm.kids] at hli
          have hsl : s.length ≤ 1048576 ∧ l.length ≤ 1048576 := by
            cases ht.fits with
            | mk _ _ h3 h4 _ => exact ⟨h3, h4⟩
          have hps : 0 < l.length := List.length_pos_iff.2 hkl
          have hpos : (0 : Int) < l.length := by omega
          have hargs := wargs_calls l hsl.2 (fun u hu => ⟨hT u (hkids u hu).1 (hkids u hu).2, by have := (hkids u hu).1.len; omega⟩)
          have hjl := joinS_take l (fun u hu => by have := (hkids u hu).1.len; omega) (Nat.le_refl _)
          rw [List.take_of_length_le (by simp)] at hjl
          have hwr : (Tm.mk 3 n s l).wr = s ++ 40 :: joinS 44 (l.map Tm.wr) ++ [41] := by
            rw [Tm.wr, wrs_map, wrts_map]
            have h1 : ¬ (s = [46] ∧ l.length = 2) := by
              rintro ⟨rfl, h⟩
              have h' : (l.length : Int) = 2 := by omega
              simp [Tm.pairB, Tm.k, Tm.s, Tm.kids, h'] at hp
            have h2 : ¬ (l.length = 2 ∧ 0 < levelN s) := by
              rintro ⟨h, h'⟩
              have h'' : (l.length : Int) = 2 := by omega
              simp [infixB, Tm.k, Tm.s, Tm.kids, h'', h'] at hi
            simp [wrNode, h1, h2, hkl]
          rw [hwr]
          simp -implicitDefEqProofs [row_mk, hli, hpos, hps, hkl, go_sem, -List.set_cons_succ, -List.set_cons_zero]
          refine ⟨by unfold maxStr; omega, qcall_pure hargs hf rfl ?_⟩
          simp -implicitDefEqProofs [maxStr, go_sem, -List.set_cons_succ, -List.set_cons_zero]
          omega
end Go.Proofs.YtgfmlifkhpjplaaGreatDoor

/-
  Terms as the program writes them.
  Conditions: none.
-/
open Go Go.AM Go.Proofs
namespace Go.Proofs.YtgfmlifkhpjplaaGreatDoor
open Go.ChangeShapes Go.WideShapes Go.ChangeAt Go.RowKit
set_option linter.unusedVariables false
set_option linter.unusedSimpArgs false
set_option maxRecDepth 100000
-- 90 loop.example/prologserver/impl.letter params 1 ntmps 8
def ac87 : Cd := .seq (.region [⟨(some 2),.mv (.k (.c (.d (.bool false)))),none⟩] [2])
 (.seq (.region [⟨(some 3),.mv (.t 0),none⟩,
 ⟨(some 4),.bin .geq (.t 3) (.k (.c (.d (.int .u8 48)))),none⟩,
 ⟨(some 5),.mv (.t 4),none⟩,
 ⟨(some 6),.mv (.t 0),some (5,true)⟩,
 ⟨(some 7),.bin .leq (.t 6) (.k (.c (.d (.int .u8 57)))),some (5,true)⟩,
 ⟨(some 8),.pick (.t 5) (.t 7) (.k (.c (.d (.bool false)))),none⟩,
 ⟨(some 2),.mv (.t 8),none⟩] [0,3,4,5,6,7,8])
 (.ret))
theorem ac87_ok : cFunc Tryz.prog [] [(0,[2],[]),(1,[0,3,4,5,6,7,8],[])] Tryz.f87 = some (ac87,[.tmp 2],9) := by kernel_rfl
-- 60 loop.example/prologserver/impl.leftMost params 1 ntmps 14
def ac60 : Cd := .seq (.region [⟨(some 2),.mv (.k (.c (.d (.int .i64 0)))),none⟩] [2])
 (.seq (.region [⟨(some 6),.mv (.t 0),none⟩,
 ⟨(some 7),.qcall 58 [(.t 6)],none⟩,
 ⟨(some 5),.mv (.t 7),none⟩,
 ⟨(some 8),.extract 0 (.t 5),none⟩,
 ⟨(some 9),.extract 1 (.t 5),none⟩,
 ⟨(some 3),.mv (.t 8),none⟩,
 ⟨(some 4),.mv (.t 9),none⟩] [0,5,6,7,8,9])
 (.seq (.seq (.region [⟨(some 10),.mv (.t 4),none⟩] [4])
 (.cond (.t 10)
 (.seq (.region [⟨(some 11),.mv (.t 3),none⟩,
 ⟨(some 2),.mv (.t 11),none⟩] [3,10,11])
 (.ret))
 (.skip)))
 (.seq (.region [⟨(some 12),.mv (.t 3),none⟩,
 ⟨(some 13),.bin .sub (.t 12) (.k (.c (.d (.int .i64 1)))),none⟩,
 ⟨(some 2),.mv (.t 13),none⟩] [3,10,12,13])
 (.ret))))
theorem ac60_ok : cFunc Tryz.prog [1000058] [(0,[2],[]),(1,[0,5,6,7,8,9],[]),(2,[4],[]),(3,[3,10,11],[]),(4,[3,10,12,13],[])] Tryz.f60 = some (ac60,[.tmp 2],14) := by kernel_rfl
-- 61 loop.example/prologserver/impl.opText params 1 ntmps 9
def ac61 : Cd := .seq (.region [⟨(some 2),.mv (.k (.c (.d (.str [])))),none⟩] [2])
 (.seq (.seq (.region [⟨(some 3),.mv (.t 0),none⟩,
 ⟨(some 4),.qcall 89 [(.t 3)],none⟩] [3])
 (.cond (.t 4)
 (.seq (.region [⟨(some 5),.mv (.t 0),none⟩,
 ⟨(some 6),.bin .add (.k (.c (.d (.str [32])))) (.t 5),none⟩,
 ⟨(some 7),.bin .add (.t 6) (.k (.c (.d (.str [32])))),none⟩,
 ⟨(some 2),.mv (.t 7),none⟩] [0,4,5,6,7])
 (.ret))
 (.skip)))
 (.seq (.region [⟨(some 8),.mv (.t 0),none⟩,
 ⟨(some 2),.mv (.t 8),none⟩] [0,4,8])
 (.ret)))
theorem ac61_ok : cFunc Tryz.prog [1000089] [(0,[2],[]),(1,[3],[]),(2,[0,4,5,6,7],[]),(3,[0,4,8],[])] Tryz.f61 = some (ac61,[.tmp 2],9) := by kernel_rfl
-- 59 loop.example/prologserver/impl.writeOperand params 3 ntmps 74
theorem isDigit_calls (b : UInt8) (H : Heap) : ACalls Tryz.prog 87 [.c (.d (.int .u8 b.toNat))] H (fun r H' => H' = H ∧ r = .c (.d (.bool (decide (48 ≤ b.toNat ∧ b.toNat ≤ 57))))) := by
  refine acalls Tryz.func87 (by kernel_rfl) ac87_ok fun hf => ?_
  by_cases h1 : (48 : Int) ≤ b.toNat
  · have h1' : 48 ≤ b.toNat := by omega
    simp -implicitDefEqProofs [ac87, h1, h1', go_sem, -List.set_cons_succ, -List.set_cons_zero]
    omega
  · have h1' : ¬ 48 ≤ b.toNat := by omega
    simp -implicitDefEqProofs [ac87, h1, h1', go_sem, -List.set_cons_succ, -List.set_cons_zero]
theorem leftMost_calls (s : List UInt8) (H : Heap) : ACalls Tryz.prog 60 [.c (.d (.str s))] H (fun r H' => H' = H ∧ r = .c (.d (.int .i64 (leftMost s)))) := by
  refine acalls Tryz.func60 (by kernel_rfl) ac60_ok fun hf => ?_
  simp -implicitDefEqProofs [ac60, go_sem, -List.set_cons_succ, -List.set_cons_zero]
  refine qcall_pure (opLevel_calls s) hf rfl ?_
  have hr : 0 ≤ levelN s ∧ levelN s ≤ 3 := by
    by_cases h : 0 < levelN s
    · have := (lv_range h).1; omega
    · unfold levelN at h ⊢
      split
      · simp
      · split
        · simp
        · split <;> simp
  have hsub : inR .i64 (levelN s - 1) := small_i64 (by omega) (by omega)
  cases hb : leftB s <;> simp -implicitDefEqProofs [hb, leftMost, hsub, go_sem, -List.set_cons_succ, -List.set_cons_zero]
theorem opText_calls (s : List UInt8) (hs : s.length ≤ 1048576) (H : Heap) : ACalls Tryz.prog 61 [.c (.d (.str s))] H (fun r H' => H' = H ∧ r = .c (.d (.str (opSp s)))) := by
  refine acalls Tryz.func61 (by kernel_rfl) ac61_ok fun hf => ?_
  simp -implicitDefEqProofs [ac61, go_sem, -List.set_cons_succ, -List.set_cons_zero]
  refine qcall_pure (isLetters_calls s (by omega)) hf rfl ?_
  cases hb : lettersB s <;> simp -implicitDefEqProofs [hb, opSp, maxStr, go_sem, -List.set_cons_succ, -List.set_cons_zero]
  omega
end Go.Proofs.YtgfmlifkhpjplaaGreatDoor

/-
  The program's reader: small steps.
  Conditions: none.
-/
open Go Go.AM Go.Proofs
namespace Go.Proofs.YtgfmlifkhpjplaaGreatDoor
open Go.ChangeShapes Go.WideShapes Go.ChangeAt Go.RowKit
set_option linter.unusedVariables false
set_option linter.unusedSimpArgs false
set_option maxRecDepth 100000
-- 115 (*loop.example/prologserver/impl.reader).skip params 2 ntmps 21
def ac115 : Cd := .seq (.seq (.region [⟨(some 4),.mv (.t 0),none⟩,
 ⟨(some 5),.call false 111 [(.t 4)],none⟩,
 ⟨(some 6),.mv (.t 1),none⟩,
 ⟨(some 7),.bin .neq (.t 5) (.t 6),none⟩] [1,4,5,6])
 (.cond (.t 7)
 (.seq (.region [⟨(some 8),.mv (.t 0),none⟩,
 ⟨(some 9),.mv (.t 0),none⟩,
 ⟨(some 10),.nilCheck (.t 9),none⟩,
 ⟨(some 11),.fieldAddr 1 (.t 10),none⟩,
 ⟨(some 12),.load none (.t 11),none⟩,
 ⟨(some 13),.call false 110 [(.t 8),(.t 12)],none⟩] [0,7,8,9,10,11,12,13])
 (.ret))
 (.skip)))
 (.region [⟨(some 14),.mv (.t 0),none⟩,
 ⟨(some 15),.nilCheck (.t 14),none⟩,
 ⟨(some 16),.fieldAddr 1 (.t 15),none⟩,
 ⟨(some 17),.load none (.t 16),none⟩,
 ⟨(some 18),.bin .add (.t 17) (.k (.c (.d (.int .i64 1)))),none⟩,
 ⟨(some 19),.nilCheck (.t 14),none⟩,
 ⟨(some 20),.fieldAddr 1 (.t 19),none⟩,
 ⟨none,.store 1 (.t 20) (.t 18),none⟩] [0,7,14,15,16,17,18,19,20])
theorem ac115_ok : cFunc Tryz.prog [] [(0,[1,4,5,6],[]),(1,[0,7,8,9,10,11,12,13],[]),(2,[0,7,14,15,16,17,18,19,20],[])] Tryz.f115 = some (ac115,[],21) := by kernel_rfl
-- 113 (*loop.example/prologserver/impl.reader).isNumber params 1 ntmps 38
def ac113 : Cd := .seq (.region [⟨(some 2),.mv (.k (.c (.d (.bool false)))),none⟩] [2])
 (.seq (.region [⟨(some 4),.mv (.t 0),none⟩,
 ⟨(some 5),.call false 111 [(.t 4)],none⟩,
 ⟨(some 3),.mv (.t 5),none⟩] [4,5])
 (.seq (.region [⟨(some 6),.mv (.t 3),none⟩,
 ⟨(some 7),.qcall 87 [(.t 6)],none⟩,
 ⟨(some 8),.mv (.t 7),none⟩,
 ⟨(some 9),.mv (.t 3),some (8,false)⟩,
 ⟨(some 10),.bin .eql (.t 9) (.k (.c (.d (.int .u8 45)))),some (8,false)⟩,
 ⟨(some 11),.mv (.t 10),some (8,false)⟩,
 ⟨(some 12),.mv (.t 0),some (11,true)⟩,
 ⟨(some 13),.nilCheck (.t 12),some (11,true)⟩,
 ⟨(some 14),.fieldAddr 1 (.t 13),some (11,true)⟩,
 ⟨(some 17),.mv (.t 0),some (11,true)⟩,
 ⟨(some 18),.nilCheck (.t 17),some (11,true)⟩,
 ⟨(some 19),.fieldAddr 0 (.t 18),some (11,true)⟩,
 ⟨(some 15),.load none (.t 14),some (11,true)⟩,
 ⟨(some 16),.bin .add (.t 15) (.k (.c (.d (.int .i64 1)))),some (11,true)⟩,
 ⟨(some 20),.load none (.t 19),some (11,true)⟩,
 ⟨(some 21),.len 0 (.t 20),some (11,true)⟩,
 ⟨(some 22),.bin .lss (.t 16) (.t 21),some (11,true)⟩,
 ⟨(some 23),.pick (.t 11) (.t 22) (.k (.c (.d (.bool false)))),some (8,false)⟩,
 ⟨(some 24),.mv (.t 23),some (8,false)⟩,
 ⟨(some 25),.mv (.t 0),some (24,true)⟩,
 ⟨(some 26),.nilCheck (.t 25),some (24,true)⟩,
 ⟨(some 27),.fieldAddr 0 (.t 26),some (24,true)⟩,
 ⟨(some 29),.mv (.t 0),some (24,true)⟩,
 ⟨(some 30),.nilCheck (.t 29),some (24,true)⟩,
 ⟨(some 31),.fieldAddr 1 (.t 30),some (24,true)⟩,
 ⟨(some 28),.load none (.t 27),some (24,true)⟩,
 ⟨(some 32),.load none (.t 31),some (24,true)⟩,
 ⟨(some 33),.bin .add (.t 32) (.k (.c (.d (.int .i64 1)))),some (24,true)⟩,
 ⟨(some 34),.index (.t 28) (.t 33),some (24,true)⟩,
 ⟨(some 35),.qcall 87 [(.t 34)],some (24,true)⟩,
 ⟨(some 36),.pick (.t 24) (.t 35) (.k (.c (.d (.bool false)))),some (8,false)⟩,
 ⟨(some 37),.pick (.t 8) (.k (.c (.d (.bool true)))) (.t 36),none⟩,
 ⟨(some 2),.mv (.t 37),none⟩] [0,3,6,7,8,9,10,11,12,13,14,15,16,17,18,19,20,21,22,23,24,25,26,27,28,29,30,31,32,33,34,35,36,37])
 (.ret)))
theorem ac113_ok : cFunc Tryz.prog [1000087] [(0,[2],[]),(1,[4,5],[]),(2,[0,3,6,7,8,9,10,11,12,13,14,15,16,17,18,19,20,21,22,23,24,25,26,27,28,29,30,31,32,33,34,35,36,37],[0,1,2,3,4,5,6,7,8,11,12,13,9,10,14,15,16,17,18,19,20,21,23,24,25,22,26,27,28,29,30,31,32])] Tryz.f113 = some (ac113,[.tmp 2],38) := by kernel_rfl
-- 116 strings.HasPrefix params 2 ntmps 8
def ac116 : Cd := .seq (.region [⟨(some 4),.mv (.k (.c (.d (.bool false)))),none⟩] [4])
 (.seq (.region [⟨(some 5),.mv (.t 0),none⟩,
 ⟨(some 6),.mv (.t 1),none⟩,
 ⟨(some 7),.qcall 131 [(.t 5),(.t 6)],none⟩,
 ⟨(some 4),.mv (.t 7),none⟩] [0,1,5,6,7])
 (.ret))
theorem ac116_ok : cFunc Tryz.prog [1000131] [(0,[4],[]),(1,[0,1,5,6,7],[])] Tryz.f116 = some (ac116,[.tmp 4],8) := by kernel_rfl
-- 131 internal/stringslite.HasPrefix params 2 ntmps 18
def ac131 : Cd := .seq (.region [⟨(some 4),.mv (.k (.c (.d (.bool false)))),none⟩] [4])
 (.seq (.region [⟨(some 5),.mv (.t 0),none⟩,
 ⟨(some 6),.len 0 (.t 5),none⟩,
 ⟨(some 7),.mv (.t 1),none⟩,
 ⟨(some 8),.len 0 (.t 7),none⟩,
 ⟨(some 9),.bin .geq (.t 6) (.t 8),none⟩,
 ⟨(some 10),.mv (.t 9),none⟩,
 ⟨(some 11),.mv (.t 0),some (10,true)⟩,
 ⟨(some 12),.mv (.t 1),some (10,true)⟩,
 ⟨(some 13),.len 0 (.t 12),some (10,true)⟩,
 ⟨(some 14),.slice 0 (.t 11) none (some (.t 13)) none,some (10,true)⟩,
 ⟨(some 15),.mv (.t 1),some (10,true)⟩,
 ⟨(some 16),.bin .eql (.t 14) (.t 15),some (10,true)⟩,
 ⟨(some 17),.pick (.t 10) (.t 16) (.k (.c (.d (.bool false)))),none⟩,
 ⟨(some 4),.mv (.t 17),none⟩] [0,1,5,6,7,8,9,10,11,12,13,14,15,16,17])
 (.ret))
theorem ac131_ok : cFunc Tryz.prog [] [(0,[4],[]),(1,[0,1,5,6,7,8,9,10,11,12,13,14,15,16,17],[])] Tryz.f131 = some (ac131,[.tmp 4],18) := by kernel_rfl
theorem skip_mv (s : List UInt8) (hs : s.length ≤ 1000000) (a : Nat) (b : Int) (ha : a ≤ 1000000) (c : UInt8) : Mv 115 [.c (.d (.int .u8 c.toNat))] s a b (.tup []) (if nxt s a b = c then a + 1 else a) (if nxt s a b = c then b else if b < 0 then (a : Int) else b) := fun H i hp h2 hi => by
  refine acalls Tryz.func115 (by kernel_rfl) ac115_ok fun hf => ?_
  rw [ro_len] at hf
  have hf1 := fun a' b' => ro_fits (s' := s) (a' := a') (b' := b') hf
  have ha1 : inR .i64 ((a : Int) + 1) := small_i64 (by omega) (by omega)
  simp -implicitDefEqProofs [ac115, ro_len, go_sem, -List.set_cons_succ, -List.set_cons_zero]
  refine call_mv (next_mv s hs a b ha) hp h2 hi (by simp [Ob.re, C.re]) rfl hf ?_
  by_cases h : nxt s a b = c
  · simp -implicitDefEqProofs [h, ro_get hi, ro_len, ro_up, ha1, Ref.re, hf1, go_sem, -List.set_cons_succ, -List.set_cons_zero]
  · have h' : ¬ (((nxt s a b).toNat : Int) = c.toNat) := fun e => h (UInt8.toNat_inj.1 (by omega))
    have h'' : ((nxt s a b).toNat : Int) != c.toNat := by simpa using h'
    simp -implicitDefEqProofs [h, h', ro_get hi, ro_len, ro_set, Ref.re, hf1, go_sem, -List.set_cons_succ, -List.set_cons_zero]
    refine call_mv (stop_mv s a b a) hp h2 hi (by simp [Ob.re, C.re]) (zeroA_re _) hf ?_
    simp -implicitDefEqProofs [go_sem, -List.set_cons_succ, -List.set_cons_zero]
theorem nxt_dig (s : List UInt8) (a : Nat) : decide (48 ≤ (nxt s a (-1)).toNat ∧ (nxt s a (-1)).toNat ≤ 57) = digAt s a := by
  unfold nxt digAt digB
  rw [if_neg (by decide)]
  cases s[a]? with
  | none => rfl
  | some b => simp
theorem nxt_sgn (s : List UInt8) (a : Nat) (c : UInt8) (h0 : c ≠ 0) : (nxt s a (-1) == c) = sgn s a c := by
  unfold nxt sgn
  rw [if_neg (by decide)]
  cases s[a]? with
  | none => simp; exact fun h => h0 h.symm
  | some b => rfl
theorem nxt_eq (s : List UInt8) (a : Nat) (c : UInt8) (h0 : c ≠ 0) : (((nxt s a (-1)).toNat : Int) == (c.toNat : Int)) = sgn s a c := by
  rw [← nxt_sgn s a c h0, Bool.eq_iff_iff]
  simp
  exact ⟨fun h => UInt8.toNat_inj.1 (by omega), fun h => by rw [h]⟩
theorem isNumber_mv (s : List UInt8) (hs : s.length ≤ 1000000) (a : Nat) (ha : a ≤ 1000000) : Mv 113 [] s a (-1) (.c (.d (.bool (digAt s a || sgn s a 45 && digAt s (a + 1))))) a (-1) := fun H i hp h2 hi => by
  refine acalls Tryz.func113 (by kernel_rfl) ac113_ok fun hf => ?_
  rw [ro_len] at hf
  have hf1 := fun a' b' => ro_fits (s' := s) (a' := a') (b' := b') hf
  have ha1 : inR .i64 ((a : Int) + 1) := small_i64 (by omega) (by omega)
  have hli : inR .i64 (s.length : Int) := small_i64 (by omega) (by omega)
  simp -implicitDefEqProofs [ac113, ro_len, go_sem, -List.set_cons_succ, -List.set_cons_zero]
  refine call_mv (next_mv s hs a (-1) ha) hp h2 hi (by simp [Ob.re, C.re]) rfl hf ?_
  simp -implicitDefEqProofs [ro_len, go_sem, -List.set_cons_succ, -List.set_cons_zero]
  have e45 := nxt_eq s a 45 (by decide)
  have e45' : (((nxt s a (-1)).toNat : Int) == 45) = sgn s a 45 := e45
  have hfr : Obs.fits (ro H i s a (-1)).length 0 (ro H i s a (-1)) := by rw [ro_len]; exact hf
  refine qcall_pure (isDigit_calls (nxt s a (-1))) hfr rfl ?_
  rw [nxt_dig]
  cases hd : digAt s a with
  | true =>
    by_cases hlt2 : (a : Int) + 1 < (s.length : Int) <;> cases h45 : sgn s a 45
    all_goals
      rw [h45] at e45'
      simp -implicitDefEqProofs [ro_get hi, ro_len, ro_set, e45', hli, ha1, hlt2, Ref.re, go_sem, -List.set_cons_succ, -List.set_cons_zero]
      refine byte_off 0 ?_
      simp -implicitDefEqProofs [go_sem, -List.set_cons_succ, -List.set_cons_zero]
  | false =>
    cases h45 : sgn s a 45 with
    | false =>
      rw [h45] at e45'
      simp -implicitDefEqProofs [ro_get hi, ro_len, ro_set, e45', hli, ha1, Ref.re, go_sem, -List.set_cons_succ, -List.set_cons_zero]
      refine byte_off 0 ?_
      simp -implicitDefEqProofs [go_sem, -List.set_cons_succ, -List.set_cons_zero]
    | true =>
      rw [h45] at e45'
      by_cases hlt : a + 1 < s.length
      · have hlt2 : (a : Int) + 1 < s.length := by omega
        have e1 : (a : Int) + 1 = ((a + 1 : Nat) : Int) := by omega
        have hdd : decide (48 ≤ s[a + 1].toNat ∧ s[a + 1].toNat ≤ 57) = digAt s (a + 1) := by
          unfold digAt digB
          rw [List.getElem?_eq_getElem hlt]
          simp
        simp -implicitDefEqProofs [ro_get hi, ro_len, ro_set, e45', hli, ha1, hlt2, Ref.re, go_sem, -List.set_cons_succ, -List.set_cons_zero]
        rw [e1]
        refine byte_nat hlt ?_
        simp -implicitDefEqProofs [go_sem, -List.set_cons_succ, -List.set_cons_zero]
        refine qcall_pure (isDigit_calls s[a + 1]) hfr rfl ?_
        rw [hdd]
        simp -implicitDefEqProofs [go_sem, -List.set_cons_succ, -List.set_cons_zero]
      · have hlt2 : ¬ (a : Int) + 1 < s.length := by omega
        have hdd : digAt s (a + 1) = false := dig_end (by simp; omega)
        simp -implicitDefEqProofs [ro_get hi, ro_len, ro_set, e45', hli, ha1, hlt2, hdd, Ref.re, go_sem, -List.set_cons_succ, -List.set_cons_zero]
        refine byte_off 0 ?_
        simp -implicitDefEqProofs [go_sem, -List.set_cons_succ, -List.set_cons_zero]
theorem hasPrefix0_calls (t x : List UInt8) (ht : t.length ≤ 1000000) (hx : x.length ≤ 1000000) (H : Heap) : ACalls Tryz.prog 131 [.c (.d (.str t)), .c (.d (.str x))] H (fun r H' => H' = H ∧ r = .c (.d (.bool (t.take x.length == x)))) := by
  refine acalls Tryz.func131 (by kernel_rfl) ac131_ok fun hf => ?_
  have h1 : inR .i64 (t.length : Int) := small_i64 (by omega) (by omega)
  have h2 : inR .i64 (x.length : Int) := small_i64 (by omega) (by omega)
  by_cases h : x.length ≤ t.length
  · have h' : (x.length : Int) ≤ t.length := by omega
    simp -implicitDefEqProofs [ac131, h1, h2, h, h', go_sem, -List.set_cons_succ, -List.set_cons_zero]
  · have h' : ¬ (x.length : Int) ≤ t.length := by omega
    have h3 : (t.take x.length == x) = false := by
      simp only [beq_eq_false_iff_ne]
      intro e
      have := congrArg List.length e
      simp at this
      omega
    simp -implicitDefEqProofs [ac131, h1, h2, h, h', h3, go_sem, -List.set_cons_succ, -List.set_cons_zero]
theorem hasPrefix_calls (t x : List UInt8) (ht : t.length ≤ 1000000) (hx : x.length ≤ 1000000) (H : Heap) : ACalls Tryz.prog 116 [.c (.d (.str t)), .c (.d (.str x))] H (fun r H' => H' = H ∧ r = .c (.d (.bool (t.take x.length == x)))) := by
  refine acalls Tryz.func116 (by kernel_rfl) ac116_ok fun hf => ?_
  simp -implicitDefEqProofs [ac116, go_sem, -List.set_cons_succ, -List.set_cons_zero]
  refine qcall_pure (hasPrefix0_calls t x ht hx) hf rfl ?_
  simp -implicitDefEqProofs [go_sem, -List.set_cons_succ, -List.set_cons_zero]
end Go.Proofs.YtgfmlifkhpjplaaGreatDoor

/-
  The program's reader: numbers.
  Conditions: none.
-/
open Go Go.AM Go.Proofs
namespace Go.Proofs.YtgfmlifkhpjplaaGreatDoor
open Go.ChangeShapes Go.WideShapes Go.ChangeAt Go.RowKit
set_option linter.unusedVariables false
set_option linter.unusedSimpArgs false
set_option maxRecDepth 100000
-- 114 (*loop.example/prologserver/impl.reader).number params 1 ntmps 61
-- loop head live: [0,2,3]
def ac114 : Cd := .seq (.region [⟨(some 2),.alloc [(.d (.int .i64 0)),(.d (.int .i64 0)),(.d (.str [])),(.full [])],none⟩] [])
 (.seq (.region [⟨(some 7),.mv (.t 0),none⟩,
 ⟨(some 8),.nilCheck (.t 7),none⟩,
 ⟨(some 9),.fieldAddr 1 (.t 8),none⟩,
 ⟨(some 10),.load none (.t 9),none⟩,
 ⟨(some 3),.mv (.t 10),none⟩] [7,8,9,10])
 (.seq (.region [⟨(some 11),.mv (.t 0),none⟩,
 ⟨(some 12),.nilCheck (.t 11),none⟩,
 ⟨(some 13),.fieldAddr 1 (.t 12),none⟩,
 ⟨(some 14),.load none (.t 13),none⟩,
 ⟨(some 15),.bin .add (.t 14) (.k (.c (.d (.int .i64 1)))),none⟩,
 ⟨(some 16),.nilCheck (.t 11),none⟩,
 ⟨(some 17),.fieldAddr 1 (.t 16),none⟩,
 ⟨none,.store 1 (.t 17) (.t 15),none⟩] [11,12,13,14,15,16,17])
 (.seq (.block 0 (.loop (.seq (.seq (.region [⟨(some 18),.mv (.t 0),none⟩,
 ⟨(some 19),.call false 111 [(.t 18)],none⟩,
 ⟨(some 20),.qcall 87 [(.t 19)],none⟩] [18,19])
 (.cond (.t 20)
 (.skip)
 (.exit 0)))
 (.block 1 (.region [⟨(some 21),.mv (.t 0),none⟩,
 ⟨(some 22),.nilCheck (.t 21),none⟩,
 ⟨(some 23),.fieldAddr 1 (.t 22),none⟩,
 ⟨(some 24),.load none (.t 23),none⟩,
 ⟨(some 25),.bin .add (.t 24) (.k (.c (.d (.int .i64 1)))),none⟩,
 ⟨(some 26),.nilCheck (.t 21),none⟩,
 ⟨(some 27),.fieldAddr 1 (.t 26),none⟩,
 ⟨none,.store 1 (.t 27) (.t 25),none⟩] [20,21,22,23,24,25,26,27])))))
 (.seq (.region [⟨(some 28),.mv (.t 0),none⟩,
 ⟨(some 29),.nilCheck (.t 28),none⟩,
 ⟨(some 30),.fieldAddr 0 (.t 29),none⟩,
 ⟨(some 32),.mv (.t 3),none⟩,
 ⟨(some 33),.mv (.t 0),none⟩,
 ⟨(some 34),.nilCheck (.t 33),none⟩,
 ⟨(some 35),.fieldAddr 1 (.t 34),none⟩,
 ⟨(some 31),.load none (.t 30),none⟩,
 ⟨(some 36),.load none (.t 35),none⟩,
 ⟨(some 37),.slice 0 (.t 31) (some (.t 32)) (some (.t 36)) none,none⟩,
 ⟨(some 4),.mv (.t 37),none⟩] [28,29,30,31,32,33,34,35,36,37])
 (.seq (.region [⟨(some 39),.mv (.t 4),none⟩,
 ⟨(some 40),.call false 129 [(.t 39)],none⟩,
 ⟨(some 38),.mv (.t 40),none⟩,
 ⟨(some 41),.extract 0 (.t 38),none⟩,
 ⟨(some 42),.extract 1 (.t 38),none⟩,
 ⟨(some 5),.mv (.t 41),none⟩,
 ⟨(some 6),.mv (.t 42),none⟩] [38,39,40,41,42])
 (.seq (.seq (.region [⟨(some 43),.mv (.t 6),none⟩,
 ⟨(some 44),.errNil true (.t 43),none⟩,
 ⟨(some 45),.mv (.t 44),none⟩,
 ⟨(some 46),.mv (.t 5),some (45,false)⟩,
 ⟨(some 47),.qcall 91 [(.t 46)],some (45,false)⟩,
 ⟨(some 48),.mv (.t 4),some (45,false)⟩,
 ⟨(some 49),.bin .neq (.t 47) (.t 48),some (45,false)⟩,
 ⟨(some 50),.pick (.t 45) (.k (.c (.d (.bool true)))) (.t 49),none⟩,
 ⟨(some 51),.mv (.t 50),none⟩,
 ⟨(some 52),.mv (.t 5),some (51,false)⟩,
 ⟨(some 53),.qcall 71 [(.t 52),(.k (.c (.d (.int .i64 (-999))))),(.k (.c (.d (.int .i64 999))))],some (51,false)⟩,
 ⟨(some 54),.un .not (.t 53),some (51,false)⟩,
 ⟨(some 55),.pick (.t 51) (.k (.c (.d (.bool true)))) (.t 54),none⟩] [4,6,43,44,45,46,47,48,49,50,51,52,53,54])
 (.cond (.t 55)
 (.seq (.region [⟨(some 56),.mv (.t 0),none⟩,
 ⟨(some 57),.mv (.t 3),none⟩,
 ⟨(some 58),.call false 110 [(.t 56),(.t 57)],none⟩,
 ⟨none,.store 4 (.t 2) (.t 58),none⟩] [0,3,5,55,56,57,58])
 (.ret))
 (.skip)))
 (.seq (.region [⟨(some 59),.mv (.t 5),none⟩,
 ⟨(some 60),.qcall 130 [(.t 59)],none⟩,
 ⟨none,.store 4 (.t 2) (.t 60),none⟩] [0,3,5,55,59,60])
 (.ret))))))))
theorem ac114_ok : cFunc Tryz.prog [1000071,1000087,1000091,1000130] [(0,[],[]),(1,[7,8,9,10],[]),(2,[11,12,13,14,15,16,17],[]),(3,[18,19],[]),(4,[20,21,22,23,24,25,26,27],[]),(5,[28,29,30,31,32,33,34,35,36,37],[0,1,2,4,5,6,7,3,8,9,10]),(6,[38,39,40,41,42],[]),(7,[4,6,43,44,45,46,47,48,49,50,51,52,53,54],[]),(8,[0,3,5,55,56,57,58],[]),(9,[0,3,5,55,59,60],[])] Tryz.f114 = some (ac114,[.cell 2 (some 4)],61) := by kernel_rfl
-- 130 loop.example/prologserver/impl.number params 1 ntmps 5
def ac130 : Cd := .seq (.region [⟨(some 2),.alloc [(.d (.int .i64 0)),(.d (.int .i64 0)),(.d (.str [])),(.full [])],none⟩] [])
 (.seq (.region [⟨(some 3),.mv (.t 0),none⟩,
 ⟨(some 4),.build [(.d (.int .i64 0)),(.d (.int .i64 0)),(.d (.str [])),(.full [])] [(0,1,(.k (.c (.d (.int .i64 2))))),(1,1,(.t 3))],none⟩,
 ⟨none,.store 4 (.t 2) (.t 4),none⟩] [0,3,4])
 (.ret))
theorem ac130_ok : cFunc Tryz.prog [] [(0,[],[]),(1,[0,3,4],[])] Tryz.f130 = some (ac130,[.cell 2 (some 4)],5) := by kernel_rfl
theorem numberC_calls (n : Int) (hn : inR .i64 n) (H : Heap) : ACalls Tryz.prog 130 [.c (.d (.int .i64 n))] H (fun r H' => H' = H ∧ r = .agg ((Tm.mk 2 n [] []).row.map .d)) := by
  refine acalls Tryz.func130 (by kernel_rfl) ac130_ok fun hf => ?_
  simp -implicitDefEqProofs [ac130, row_mk, hn, hf, go_sem, -List.set_cons_succ, -List.set_cons_zero]
/-- a call that leaves all objects as they were, with one of several results -/
theorem call_rel {P : Program} {f : FuncId} {xs : List A} {sl : List A} {ext loc H₂ : Heap} {R : A → Prop} {K : A → St → Prop} (hc : ACalls P f xs H₂ (fun r' H' => H' = H₂ ∧ R r')) (hf : Obs.fits ext.length 0 ext) (hH : H₂ = ext ++ loc.map (Ob.re ext.length))
    (hk : ∀ r, R r → A.re ext.length r = r ∧ K r ⟨sl, ext, loc⟩) : ACalls P f xs H₂ (CallK K ⟨sl, ext, loc⟩) := by
  subst hH
  exact hc.mono fun r' H' ⟨h1, h2⟩ => ⟨ext, loc, r', h1, rfl, Nat.le_refl _, hf, (hk r' h2).1.symm, (hk r' h2).2⟩
/-- what number gives -/
def numV2 (s : List UInt8) (a : Nat) : A := match numR s a with
  | some (n, _) => .agg ((Tm.mk 2 n [] []).row.map .d)
  | none => zeroA
def numB (s : List UInt8) (a : Nat) : Int := match numR s a with
  | some _ => -1
  | none => a
set_option maxHeartbeats 1600000 in
theorem number_mv (s : List UInt8) (hs : s.length ≤ 1000000) (a : Nat) (ha : a ≤ s.length) (h : digAt s a = true ∨ (sgn s a 45 = true ∧ digAt s (a + 1) = true)) : Mv 114 [] s a (-1) (numV2 s a) (runE digAt s s.length (a + 1)) (numB s a) := fun H i hp h2 hi => by
  obtain ⟨l1, l2, l3, l4⟩ := number_law ha h
  refine acalls Tryz.func114 (by kernel_rfl) ac114_ok fun hf => ?_
  rw [ro_len] at hf
  have hf1 := fun a' b' => ro_fits (s' := s) (a' := a') (b' := b') hf
  have hfr : ∀ a' b', Obs.fits (ro H i s a' b').length 0 (ro H i s a' b') := fun a' b' => by rw [ro_len]; exact hf1 a' b'
  have ha1 : inR .i64 ((a : Int) + 1) := small_i64 (by omega) (by omega)
  have hli : inR .i64 (s.length : Int) := small_i64 (by omega) (by omega)
  simp -implicitDefEqProofs [ac114, ro_get hi, ro_len, ro_up, ha1, Ref.re, hf1, go_sem, -List.set_cons_succ, -List.set_cons_zero]
  refine loop_set (σ := Nat) (fun k => []) (fun k => ro H i s k (-1)) (fun _ => [.cells [.d (.int .i64 0), .d (.int .i64 0), .d (.str []), .full []]])
    (fun k => a + 1 ≤ k ∧ k ≤ s.length ∧ ∀ m, a + 1 + m < k → digAt s (a + 1 + m) = true) (fun k => s.length - k) (a + 1) (by simp [setAll]) ⟨Nat.le_refl _, by omega, fun m hm => by omega⟩ ?_
  rintro k ⟨hk1, hk2, hk3⟩
  have hki : inR .i64 ((k : Int) + 1) := small_i64 (by omega) (by omega)
  simp -implicitDefEqProofs [setAll, ro_len, go_sem, -List.set_cons_succ, -List.set_cons_zero]
  refine call_mv (next_mv s hs k (-1) (by omega)) hp h2 hi (by simp [Ob.re, C.re]) rfl (hf1 _ _) ?_
  simp -implicitDefEqProofs [ro_len, go_sem, -List.set_cons_succ, -List.set_cons_zero]
  refine qcall_pure (isDigit_calls (nxt s k (-1))) (hfr _ _) rfl ?_
  rw [nxt_dig]
  cases hd : digAt s k with
  | true =>
    have hlt := dig_lt _ hd
    simp -implicitDefEqProofs [ro_get hi, ro_len, ro_up, hki, Ref.re, hf1, go_sem, -List.set_cons_succ, -List.set_cons_zero]
    exact loop_back (k + 1) (by simp [setAll]) ⟨by omega, by omega, fun m hm => by
      rcases Nat.lt_or_ge (a + 1 + m) k with h | h
      · exact hk3 m h
      · rw [show a + 1 + m = k by omega]; exact hd⟩ (by show s.length - (k + 1) < s.length - k; omega)
  | false =>
    have he : runE digAt s s.length (a + 1) = k := by
      rw [runE_stop s.length (a + 1) (k - (a + 1)) (by omega) (fun m hm => hk3 m (by omega)) (.inr (by rw [show a + 1 + (k - (a + 1)) = k by omega]; exact hd))]
      omega
    rw [he] at l3 l4 ⊢
    have hcut : (s.take k).drop a = cutS s a k := rfl
    simp -implicitDefEqProofs [ro_get hi, ro_len, ro_up, hki, Ref.re, hf1, hcut, go_sem, -List.set_cons_succ, -List.set_cons_zero]
    obtain ⟨o, o2, g1, g2, hT, hE⟩ := id hp
    have hi0 : (0 : Nat) ≠ i := by omega
    have hi1 : (1 : Nat) ≠ i := by omega
    have hcl : (cutS s a k).length ≤ 1000000 := by rw [cutS_len]; omega
    refine ⟨⟨by omega, hk2⟩, ?_⟩
    refine call_rel (atoi_call hE _ hcl l3 _ (by rw [List.getElem?_append_left (by rw [ro_len]; omega), ro_other hi1]; exact g2)) (hfr _ _) (by simp [Ob.re, C.re]) ?_
    rintro r ⟨n, e, hn, rfl, hr⟩
    refine ⟨by simp [A.re, A.res, C.re], ?_⟩
    have hg0 : (ro H i s k (-1))[0]? = some (.tab 0 o) := by rw [ro_other hi0]; exact g1
    have fail : numR s a = none → numV2 s a = zeroA ∧ numB s a = a := fun h => by simp [numV2, numB, h]
    rcases hr with ⟨rfl, hok⟩ | ⟨p, q, rfl, hrg⟩
    · simp -implicitDefEqProofs [go_sem, -List.set_cons_succ, -List.set_cons_zero]
      refine qcall_tab (fun H' hH' => itoa_call hT n hn H' hH') (hfr _ _) hg0 rfl ?_
      by_cases heq : Lib.itoa n = cutS s a k
      · simp -implicitDefEqProofs [heq, go_sem, -List.set_cons_succ, -List.set_cons_zero]
        refine qcall_pure (within_calls n (-999) 999) (hfr _ _) rfl ?_
        cases hn4 : numR s a with
        | some x =>
          obtain ⟨m, j⟩ := x
          rw [hn4] at l4
          obtain ⟨q1, q2, q3, q4, q5⟩ := l4
          have hm : n = m := by rw [q1] at hok; cases hok; rfl
          subst hm
          simp -implicitDefEqProofs [q4, q5, hn, go_sem, -List.set_cons_succ, -List.set_cons_zero]
          refine qcall_pure (numberC_calls n hn) (hfr _ _) (by simp [A.re, re_d]) ?_
          simp -implicitDefEqProofs [numV2, numB, hn4, row_mk, hfr, go_sem, -List.set_cons_succ, -List.set_cons_zero]
        | none =>
          rw [hn4] at l4
          have hno := l4 n heq
          have hw : (decide (-999 ≤ n) && decide (n ≤ 999)) = false := by
            rw [Bool.and_eq_false_iff, decide_eq_false_iff_not, decide_eq_false_iff_not]; omega
          rw [hw]
          obtain ⟨e1, e2⟩ := fail hn4
          simp -implicitDefEqProofs [go_sem, -List.set_cons_succ, -List.set_cons_zero]
          refine call_mv (stop_mv s k (-1) a) hp h2 hi (by simp [Ob.re, C.re]) (zeroA_re _) (hf1 _ _) ?_
          simp -implicitDefEqProofs [e1, e2, zeroA, row_mk, hfr, go_sem, -List.set_cons_succ, -List.set_cons_zero]
      · have hn4 : numR s a = none := by
          cases hn4 : numR s a with
          | none => rfl
          | some x =>
            rw [hn4] at l4
            obtain ⟨q1, q2, _⟩ := l4
            rw [q1] at hok
            cases hok
            exact absurd q2 heq
        obtain ⟨e1, e2⟩ := fail hn4
        have heq2 : (Lib.itoa n != cutS s a k) = true := by simpa using heq
        simp -implicitDefEqProofs [heq, heq2, go_sem, -List.set_cons_succ, -List.set_cons_zero]
        refine call_mv (stop_mv s k (-1) a) hp h2 hi (by simp [Ob.re, C.re]) (zeroA_re _) (hf1 _ _) ?_
        simp -implicitDefEqProofs [e1, e2, zeroA, row_mk, hfr, go_sem, -List.set_cons_succ, -List.set_cons_zero]
    · have hn4 : numR s a = none := by
        cases hn4 : numR s a with
        | none => rfl
        | some x =>
          rw [hn4] at l4
          obtain ⟨q1, _⟩ := l4
          rw [q1] at hrg
          cases hrg
      obtain ⟨e1, e2⟩ := fail hn4
      simp -implicitDefEqProofs [go_sem, -List.set_cons_succ, -List.set_cons_zero]
      refine call_mv (stop_mv s k (-1) a) hp h2 hi (by simp [Ob.re, C.re]) (zeroA_re _) (hf1 _ _) ?_
      simp -implicitDefEqProofs [e1, e2, zeroA, row_mk, hfr, go_sem, -List.set_cons_succ, -List.set_cons_zero]
end Go.Proofs.YtgfmlifkhpjplaaGreatDoor

/-
  The program's reader: names.
  Conditions: none.
-/
open Go Go.AM Go.Proofs
namespace Go.Proofs.YtgfmlifkhpjplaaGreatDoor
open Go.ChangeShapes Go.WideShapes Go.ChangeAt Go.RowKit
set_option linter.unusedVariables false
set_option linter.unusedSimpArgs false
set_option maxRecDepth 100000
-- 119 (*loop.example/prologserver/impl.reader).name params 1 ntmps 77
-- loop head live: [0,3,4]
-- loop head live: [0,3,4,44,45,46]
def ac119 : Cd := .seq (.region [⟨(some 2),.mv (.k (.c (.d (.str [])))),none⟩] [2])
 (.seq (.region [⟨(some 7),.mv (.t 0),none⟩,
 ⟨(some 8),.nilCheck (.t 7),none⟩,
 ⟨(some 9),.fieldAddr 0 (.t 8),none⟩,
 ⟨(some 11),.mv (.t 0),none⟩,
 ⟨(some 12),.nilCheck (.t 11),none⟩,
 ⟨(some 13),.fieldAddr 1 (.t 12),none⟩,
 ⟨(some 10),.load none (.t 9),none⟩,
 ⟨(some 14),.load none (.t 13),none⟩,
 ⟨(some 15),.slice 0 (.t 10) (some (.t 14)) none none,none⟩,
 ⟨(some 3),.mv (.t 15),none⟩] [7,8,9,10,11,12,13,14,15])
 (.seq (.region [⟨(some 4),.mv (.k (.c (.d (.int .i64 0)))),none⟩] [])
 (.seq (.block 0 (.loop (.seq (.seq (.region [⟨(some 16),.mv (.t 4),none⟩,
 ⟨(some 17),.mv (.t 3),none⟩,
 ⟨(some 18),.len 0 (.t 17),none⟩,
 ⟨(some 19),.bin .lss (.t 16) (.t 18),none⟩,
 ⟨(some 20),.mv (.t 19),none⟩,
 ⟨(some 21),.mv (.t 3),some (20,true)⟩,
 ⟨(some 22),.mv (.t 4),some (20,true)⟩,
 ⟨(some 23),.index (.t 21) (.t 22),some (20,true)⟩,
 ⟨(some 24),.bin .geq (.t 23) (.k (.c (.d (.int .u8 97)))),some (20,true)⟩,
 ⟨(some 25),.pick (.t 20) (.t 24) (.k (.c (.d (.bool false)))),none⟩,
 ⟨(some 26),.mv (.t 25),none⟩,
 ⟨(some 27),.mv (.t 3),some (26,true)⟩,
 ⟨(some 28),.mv (.t 4),some (26,true)⟩,
 ⟨(some 29),.index (.t 27) (.t 28),some (26,true)⟩,
 ⟨(some 30),.bin .leq (.t 29) (.k (.c (.d (.int .u8 122)))),some (26,true)⟩,
 ⟨(some 31),.pick (.t 26) (.t 30) (.k (.c (.d (.bool false)))),none⟩] [16,17,18,19,20,21,22,23,24,25,26,27,28,29,30])
 (.cond (.t 31)
 (.skip)
 (.exit 0)))
 (.block 1 (.region [⟨(some 32),.mv (.t 4),none⟩,
 ⟨(some 33),.bin .add (.t 32) (.k (.c (.d (.int .i64 1)))),none⟩,
 ⟨(some 4),.mv (.t 33),none⟩] [31,32,33])))))
 (.seq (.seq (.region [⟨(some 34),.mv (.t 4),none⟩,
 ⟨(some 35),.bin .gtr (.t 34) (.k (.c (.d (.int .i64 6)))),none⟩] [34])
 (.cond (.t 35)
 (.seq (.region [⟨(some 36),.mv (.t 0),none⟩,
 ⟨(some 37),.mv (.t 0),none⟩,
 ⟨(some 38),.nilCheck (.t 37),none⟩,
 ⟨(some 39),.fieldAddr 1 (.t 38),none⟩,
 ⟨(some 40),.load none (.t 39),none⟩,
 ⟨(some 41),.call false 110 [(.t 36),(.t 40)],none⟩] [0,3,4,35,36,37,38,39,40,41])
 (.seq (.region [⟨(some 2),.mv (.k (.c (.d (.str [])))),none⟩] [])
 (.ret)))
 (.skip)))
 (.seq (.seq (.region [⟨(some 42),.mv (.t 4),none⟩,
 ⟨(some 43),.bin .eql (.t 42) (.k (.c (.d (.int .i64 0)))),none⟩] [2,35,42])
 (.cond (.t 43)
 (.seq (.region [⟨(some 44),.qcall 103 [],none⟩,
 ⟨(some 45),.len 1 (.t 44),none⟩,
 ⟨(some 46),.mv (.k (.c (.d (.int .i64 0)))),none⟩] [43])
 (.block 2 (.loop (.seq (.region [⟨(some 47),.bin .lss (.t 46) (.t 45),none⟩] [])
 (.seq (.cond (.t 47)
 (.skip)
 (.exit 2))
 (.seq (.block 3 (.seq (.region [⟨(some 48),.indexAddr 1 (.t 44) (.t 46),none⟩,
 ⟨(some 49),.load none (.t 48),none⟩,
 ⟨(some 6),.mv (.t 49),none⟩] [47,48,49])
 (.seq (.region [⟨(some 50),.mv (.t 3),none⟩,
 ⟨(some 51),.mv (.t 6),none⟩,
 ⟨(some 52),.qcall 116 [(.t 50),(.t 51)],none⟩] [50,51])
 (.cond (.t 52)
 (.region [⟨(some 53),.mv (.t 4),none⟩,
 ⟨(some 54),.mv (.t 6),none⟩,
 ⟨(some 55),.len 0 (.t 54),none⟩,
 ⟨(some 56),.imax (.t 53) (.t 55),none⟩,
 ⟨(some 4),.mv (.t 56),none⟩] [6,52,53,54,55,56])
 (.skip)))))
 (.region [⟨(some 57),.bin .add (.t 46) (.k (.c (.d (.int .i64 1)))),none⟩,
 ⟨(some 46),.mv (.t 57),none⟩] [6,52,57])))))))
 (.skip)))
 (.seq (.seq (.region [⟨(some 58),.mv (.t 4),none⟩,
 ⟨(some 59),.bin .eql (.t 58) (.k (.c (.d (.int .i64 0)))),none⟩] [43,58])
 (.cond (.t 59)
 (.seq (.region [⟨(some 60),.mv (.t 0),none⟩,
 ⟨(some 61),.mv (.t 0),none⟩,
 ⟨(some 62),.nilCheck (.t 61),none⟩,
 ⟨(some 63),.fieldAddr 1 (.t 62),none⟩,
 ⟨(some 64),.load none (.t 63),none⟩,
 ⟨(some 65),.call false 110 [(.t 60),(.t 64)],none⟩] [0,3,4,59,60,61,62,63,64,65])
 (.seq (.region [⟨(some 2),.mv (.k (.c (.d (.str [])))),none⟩] [])
 (.ret)))
 (.skip)))
 (.seq (.region [⟨(some 66),.mv (.t 0),none⟩,
 ⟨(some 67),.nilCheck (.t 66),none⟩,
 ⟨(some 68),.fieldAddr 1 (.t 67),none⟩,
 ⟨(some 69),.load none (.t 68),none⟩,
 ⟨(some 70),.mv (.t 4),none⟩,
 ⟨(some 71),.bin .add (.t 69) (.t 70),none⟩,
 ⟨(some 72),.nilCheck (.t 66),none⟩,
 ⟨(some 73),.fieldAddr 1 (.t 72),none⟩,
 ⟨none,.store 1 (.t 73) (.t 71),none⟩] [0,2,59,66,67,68,69,70,71,72,73])
 (.seq (.region [⟨(some 74),.mv (.t 3),none⟩,
 ⟨(some 75),.mv (.t 4),none⟩,
 ⟨(some 76),.slice 0 (.t 74) none (some (.t 75)) none,none⟩,
 ⟨(some 2),.mv (.t 76),none⟩] [3,4,74,75,76])
 (.ret)))))))))
theorem ac119_ok : cFunc Tryz.prog [1000103,1000116] [(0,[2],[]),(1,[7,8,9,10,11,12,13,14,15],[0,1,2,4,5,6,3,7,8,9]),(2,[],[]),(3,[16,17,18,19,20,21,22,23,24,25,26,27,28,29,30],[]),(4,[31,32,33],[]),(5,[34],[]),(6,[0,3,4,35,36,37,38,39,40,41],[]),(7,[],[]),(8,[2,35,42],[]),(9,[43],[]),(10,[],[]),(11,[47,48,49],[]),(12,[50,51],[]),(13,[6,52,53,54,55,56],[]),(14,[6,52,57],[]),(15,[43,58],[]),(16,[0,3,4,59,60,61,62,63,64,65],[]),(17,[],[]),(18,[0,2,59,66,67,68,69,70,71,72,73],[]),(19,[3,4,74,75,76],[])] Tryz.f119 = some (ac119,[.tmp 2],77) := by kernel_rfl
/-- the greatest length of a beginning out of a list -/
def maxP (t : List UInt8) : List (List UInt8) → Nat → Nat
  | [], n => n
  | x :: l, n => maxP t l (if t.take x.length == x then (if n < x.length then x.length else n) else n)
theorem cut_drop (s : List UInt8) (a n : Nat) : cutS s a (a + n) = (s.drop a).take n := by
  rw [cutS, List.drop_take, Nat.add_sub_cancel_left]
theorem maxP_best {s : List UInt8} {a : Nat} (ha : a ≤ s.length) : ∀ (l : List (List UInt8)) (b : List UInt8), maxP (s.drop a) l b.length = (bestS s a l b).length
  | [], b => rfl
  | x :: l, b => by
    unfold maxP bestS
    rw [cut_drop]
    by_cases h : ((s.drop a).take x.length == x) = true
    · have hl : a + x.length ≤ s.length := by
        have := congrArg List.length (beq_iff_eq.1 h)
        simp at this
        omega
      rw [if_pos h]
      by_cases hb : b.length < x.length
      · simp only [hl, h, hb, decide_true, Bool.and_self, if_true]
        exact maxP_best ha l x
      · simp only [hl, h, hb, decide_true, decide_false, Bool.and_false, Bool.false_eq_true, if_false]
        exact maxP_best ha l b
    · rw [if_neg h]
      have h' : ((s.drop a).take x.length == x) = false := by simpa using h
      simp only [h', Bool.and_false, Bool.false_and, Bool.false_eq_true, if_false]
      exact maxP_best ha l b
def nameV (s : List UInt8) (a : Nat) : A := match nameR s a with
  | some (n, _) => .c (.d (.str n))
  | none => .c (.d (.str []))
def nameJ (s : List UInt8) (a : Nat) : Nat := match nameR s a with
  | some (_, j) => j
  | none => a
def nameF (s : List UInt8) (a : Nat) : Int := match nameR s a with
  | some _ => -1
  | none => a
set_option maxHeartbeats 1600000 in
theorem name_mv (s : List UInt8) (hs : s.length ≤ 1000000) (a : Nat) (ha : a ≤ s.length) : Mv 119 [] s a (-1) (nameV s a) (nameJ s a) (nameF s a) := fun H i hp h2 hi => by
  refine acalls Tryz.func119 (by kernel_rfl) ac119_ok fun hf => ?_
  rw [ro_len] at hf
  have hf1 := fun a' b' => ro_fits (s' := s) (a' := a') (b' := b') hf
  have hfr : ∀ a' b', Obs.fits (ro H i s a' b').length 0 (ro H i s a' b') := fun a' b' => by rw [ro_len]; exact hf1 a' b'
  obtain ⟨t, ht⟩ : ∃ t, t = s.drop a := ⟨_, rfl⟩
  have htl : t.length = s.length - a := by rw [ht]; simp
  have hli : inR .i64 (t.length : Int) := small_i64 (by omega) (by omega)
  have hst : s.take s.length = s := List.take_length
  simp -implicitDefEqProofs [ac119, ro_get hi, ro_len, Ref.re, hf1, ← ht, go_sem, -List.set_cons_succ, -List.set_cons_zero]
  refine ⟨by omega, ?_⟩
  refine loop_set (σ := Nat) (fun k => [(4, .c (.d (.int .i64 k)))]) (fun k => ro H i s a (-1)) (fun _ => [])
    (fun k => k ≤ t.length ∧ ∀ m, m < k → smaAt s (a + m) = true) (fun k => t.length - k) 0 (by simp [setAll]) ⟨Nat.zero_le _, fun m hm => by omega⟩ ?_
  rintro k ⟨hk2, hk3⟩
  have hki : inR .i64 ((k : Int) + 1) := small_i64 (by omega) (by omega)
  simp -implicitDefEqProofs [setAll, ro_len, hli, go_sem, -List.set_cons_succ, -List.set_cons_zero]
  refine (fun (more : smaAt s (a + k) = true → (?more : Prop)) (stop : smaAt s (a + k) = false → (?stop : Prop)) => ?main) ?rest1 ?rest2
  case main =>
    by_cases hlt : k < t.length
    · have hsm : smaAt s (a + k) = smaB t[k] := by
        have : s[a + k]? = some t[k] := by rw [← List.getElem?_drop, ← ht, List.getElem?_eq_getElem hlt]
        unfold smaAt
        rw [this]
      simp -implicitDefEqProofs [hlt, go_sem, -List.set_cons_succ, -List.set_cons_zero]
      refine byte_nat hlt ?_
      by_cases h1 : (97 : Int) ≤ t[k].toNat
      · simp -implicitDefEqProofs [h1, go_sem, -List.set_cons_succ, -List.set_cons_zero]
        refine byte_nat hlt ?_
        by_cases h3 : (t[k].toNat : Int) ≤ 122
        · simp -implicitDefEqProofs [h3, hki, go_sem, -List.set_cons_succ, -List.set_cons_zero]
          exact more (by rw [hsm]; simp [smaB]; omega)
        · simp -implicitDefEqProofs [h3, hki, go_sem, -List.set_cons_succ, -List.set_cons_zero]
          exact stop (by rw [hsm]; simp [smaB]; omega)
      · simp -implicitDefEqProofs [h1, go_sem, -List.set_cons_succ, -List.set_cons_zero]
        refine byte_off 0 ?_
        simp -implicitDefEqProofs [go_sem, -List.set_cons_succ, -List.set_cons_zero]
        exact stop (by rw [hsm]; simp [smaB]; omega)
    · simp -implicitDefEqProofs [hlt, go_sem, -List.set_cons_succ, -List.set_cons_zero]
      refine byte_off 0 ?_
      simp -implicitDefEqProofs [go_sem, -List.set_cons_succ, -List.set_cons_zero]
      refine byte_off 0 ?_
      simp -implicitDefEqProofs [go_sem, -List.set_cons_succ, -List.set_cons_zero]
      exact stop (sma_end (by simp; omega))
  case rest1 =>
    intro hsm
    have hlt := sma_lt _ hsm
    exact loop_back (k + 1) (by simp [setAll]) ⟨by omega, fun m hm => by
      rcases Nat.lt_or_ge m k with h | h
      · exact hk3 m h
      · rw [show m = k by omega]; exact hsm⟩ (by show t.length - (k + 1) < t.length - k; omega)
  case rest2 =>
    intro hsm
    have he : runE smaAt s s.length a = a + k := runE_stop s.length a k (by omega) hk3 (.inr hsm)
    have hii : inR .i64 ((a : Int) + (k : Int)) := small_i64 (by omega) (by omega)
    refine ⟨fun h6 => ?_, fun h6 => ⟨fun h0 => ?_, fun h0 => ⟨fun h => absurd h h0, fun _ => ?_⟩⟩⟩
    · have hn : nameR s a = none := by unfold nameR; rw [he, if_pos (by omega)]
      simp -implicitDefEqProofs [ro_get hi, ro_len, go_sem, -List.set_cons_succ, -List.set_cons_zero]
      refine call_mv (stop_mv s a (-1) a) hp h2 hi (by simp [Ob.re, C.re]) (zeroA_re _) (hf1 _ _) ?_
      simp -implicitDefEqProofs [nameV, nameJ, nameF, hn, go_sem, -List.set_cons_succ, -List.set_cons_zero]
    · subst h0
      refine qcall_pure symbols_calls (hfr _ _) rfl ?_
      have hsl : signs.length = 15 := rfl
      have hs15 : inR .i64 (15 : Int) := small_i64 (by omega) (by omega)
      have hs0 : inR .i64 (0 : Int) := small_i64 (by omega) (by omega)
      simp -implicitDefEqProofs [hsl, hs15, go_sem, -List.set_cons_succ, -List.set_cons_zero]
      obtain ⟨G, hG⟩ : ∃ G, G = bestS s a signs [] := ⟨_, rfl⟩
      have hG2 : maxP t signs 0 = G.length := by rw [hG, ht]; exact maxP_best ha signs []
      have hG3 : G.length ≤ t.length := by
        obtain ⟨⟨y, hy⟩, _⟩ := best_max ha signs [] ⟨s.drop a, by simp⟩
        rw [← hG, ← ht] at hy
        rw [← hy]; simp
      refine loop_set (σ := Nat × Nat) (fun x => [(46, .c (.d (.int .i64 x.1))), (4, .c (.d (.int .i64 x.2)))]) (fun _ => ro H i s a (-1)) (fun _ => []) (fun x => x.1 ≤ 15 ∧ maxP t (signs.drop x.1) x.2 = G.length ∧ x.2 ≤ 3) (fun x => 15 - x.1) (0, 0) (by simp [setAll]) ⟨by omega, hG2, by simp⟩ ?_
      rintro ⟨j, b⟩ ⟨hj, h1, h3⟩
      simp only at hj h1 h3
      simp -implicitDefEqProofs [setAll, hsl, hs15, ro_len, go_sem, -List.set_cons_succ, -List.set_cons_zero]
      refine ⟨fun hlt => ?_, fun hge => ?_⟩
      · have hlt' : j < signs.length := by rw [hsl]; omega
        have hd : signs.drop j = signs[j] :: signs.drop (j + 1) := List.drop_eq_getElem_cons hlt'
        rw [hd, maxP] at h1
        have h4 : signs[j].length ≤ 3 := by
          have : ∀ n ∈ signs, n.length ≤ 3 := by decide
          exact this _ (List.getElem_mem hlt')
        have hrow : (signs.map strRow)[j]? = some [.str signs[j]] := by simp [hlt', strRow]
        obtain ⟨w, hw⟩ : ∃ w, w = signs[j] := ⟨_, rfl⟩
        rw [← hw] at h1 h4 hrow
        have hwl : inR .i64 (w.length : Int) := small_i64 (by omega) (by omega)
        have hadd : inR .i64 ((j : Int) + 1) := small_i64 (by omega) (by omega)
        refine row_nat _ hrow rfl ?_
        simp -implicitDefEqProofs [ro_len, go_sem, -List.set_cons_succ, -List.set_cons_zero]
        refine qcall_pure (hasPrefix_calls t w (by omega) (by omega)) (hfr _ _) rfl ?_
        cases hq : (t.take w.length == w) with
        | true =>
          rw [hq] at h1
          simp only [if_true] at h1
          simp -implicitDefEqProofs [hwl, hadd, ro_len, go_sem, -List.set_cons_succ, -List.set_cons_zero]
          by_cases hbw : b < w.length
          · rw [if_pos hbw] at h1
            refine loop_back (j + 1, w.length) (by simp [setAll, hbw]) ⟨by omega, h1, h4⟩ (by show 15 - (j + 1) < 15 - j; omega)
          · rw [if_neg hbw] at h1
            refine loop_back (j + 1, b) (by simp [setAll, hbw]) ⟨by omega, h1, h3⟩ (by show 15 - (j + 1) < 15 - j; omega)
        | false =>
          rw [hq] at h1
          simp only [Bool.false_eq_true, if_false] at h1
          simp -implicitDefEqProofs [hadd, ro_len, go_sem, -List.set_cons_succ, -List.set_cons_zero]
          exact loop_back (j + 1, b) (by simp [setAll]) ⟨by omega, h1, h3⟩ (by show 15 - (j + 1) < 15 - j; omega)
      · obtain rfl : j = 15 := by omega
        have h15 : signs.drop 15 = [] := rfl
        rw [h15, maxP] at h1
        subst h1
        have hgi : inR .i64 ((a : Int) + (G.length : Int)) := small_i64 (by omega) (by omega)
        by_cases hG0 : G = []
        · have hn : nameR s a = none := by unfold nameR; rw [he, if_neg (by omega), if_neg (by omega), ← hG, if_pos hG0]
          simp -implicitDefEqProofs [hG0, ro_get hi, ro_len, go_sem, -List.set_cons_succ, -List.set_cons_zero]
          refine call_mv (stop_mv s a (-1) a) hp h2 hi (by simp [Ob.re, C.re]) (zeroA_re _) (hf1 _ _) ?_
          simp -implicitDefEqProofs [nameV, nameJ, nameF, hn, go_sem, -List.set_cons_succ, -List.set_cons_zero]
        · have hn : nameR s a = some (G, a + G.length) := by unfold nameR; rw [he, if_neg (by omega), if_neg (by omega), ← hG, if_neg hG0]
          have htk : t.take G.length = G := by
            obtain ⟨⟨y, hy⟩, _⟩ := best_max ha signs [] ⟨s.drop a, by simp⟩
            rw [← hG, ← ht] at hy
            rw [← hy, List.take_left]
          simp -implicitDefEqProofs [hG0, ro_get hi, ro_len, hgi, hf1, htk, ro_set1, Ref.re, nameV, nameJ, nameF, hn, go_sem, -List.set_cons_succ, -List.set_cons_zero]
          exact hG3
    · have hn : nameR s a = some (t.take k, a + k) := by
        unfold nameR
        rw [he, if_neg (by omega), if_pos (by omega), cut_drop, ← ht]
      simp -implicitDefEqProofs [ro_get hi, ro_len, hii, hf1, ro_set1, Ref.re, nameV, nameJ, nameF, hn, go_sem, -List.set_cons_succ, -List.set_cons_zero]
      exact hk2
end Go.Proofs.YtgfmlifkhpjplaaGreatDoor
