/-
  Contracts of functions that the law reaches, and plain lemmas: several texts in one.
  Conditions: none.
-/
import Derived.Test.YtbblefjbgbocoaaGreatDoorBundA
import Derived.Lib.ItoaNum
import Derived.Lib.AtoiAllCases
import Derived.Shelf.Strconv.Itoa3
open Go Go.AM Go.Proofs
attribute [local go_sem] kw ew sw tw a_ b_ c_ A.ok A.val d_ e_ f_ g_ h_ i_ j_ k_ l_ m_ unA unD n_ AOp.total o_ p_ q_ r_ s_ t_ u_ v_ A.thaw C.thaw A.fits As.fits C.fits evs oks w_ A.pure C.pure A.re C.re x_ y_ cut A.cells C.rows? z_ A_ B_ C_ a0_ b0_ D_ Ob.re Cs.fits E_ F_ G_ H_ I_ J_ K_ L_ M_ N_ O_ C.toD P_ Q_ R_ S_ T_ Obs.fits U_ eqD V_ W_ X_ Y_ Z_
/-
  The program's reader reads what the reference's reads.
  Conditions: none.
-/
open Go Go.AM Go.Proofs
namespace Go.Proofs.YtbblefjbgbocoaaGreatDoor
set_option linter.unusedVariables false
set_option linter.unusedSimpArgs false
set_option maxRecDepth 100000
theorem shp_spec {d : Nat} {k n : Int} {s : List UInt8} {l : List Tm} : (Tm.mk k n s l).shape d = true ↔ 1 ≤ d ∧ (Tm.mk k n s l).ownB = true ∧ ∀ t ∈ l, t.shape (d - 1) = true := by
  rw [Tm.shape, shapes_all]
  simp
theorem shp_mono : ∀ (t : Tm) (d e : Nat), d ≤ e → t.shape d = true → t.shape e = true := by
  refine Tm.ind fun k n s l ih d e hde h => ?_
  rw [shp_spec] at h ⊢
  exact ⟨by omega, h.2.1, fun t ht => ih t ht (d - 1) (e - 1) (by omega) (h.2.2 t ht)⟩
theorem opR_level {s : List UInt8} {i j : Nat} {n : List UInt8} (h : opR s i = some (n, j)) : 1 ≤ levelN n ∧ levelN n ≤ 3 := by
  have hl := levelN_le n
  have h0 : ¬ levelN n = 0 := by
    unfold opR at h
    generalize (if sgn s i 32 then i + 1 else i) = p at h
    split at h
    · cases h
    · cases hn : nameR s p with
      | none => rw [hn] at h; cases h
      | some q =>
        obtain ⟨m, k⟩ := q
        rw [hn] at h
        simp only at h
        split at h
        · cases h
        · rename_i hl
          split at h
          · cases h
          · simp only [Option.some.injEq, Prod.mk.injEq] at h
            rw [← h.1]; exact hl
  omega
theorem leftMost_lv {n : List UInt8} (h : 1 ≤ levelN n ∧ levelN n ≤ 3) : leftMost n = if levelN n = 3 then 2 else levelN n := by
  unfold leftMost leftB
  rcases (show levelN n = 1 ∨ levelN n = 2 ∨ levelN n = 3 by omega) with e | e | e <;> rw [e] <;> decide
theorem thn_assoc (r : Option Rs) (f g : List Tm → Nat → Option Rs) : thn (thn r f) g = thn r fun ts j => thn (f ts j) g := by
  cases r with
  | none => rfl
  | some v => cases v <;> rfl
theorem thn_congr {r : Option Rs} {f g : List Tm → Nat → Option Rs} (h : ∀ ts j, r = some (.ok ts j) → f ts j = g ts j) : thn r f = thn r g := by
  cases r with
  | none => rfl
  | some v =>
    cases v with
    | bad e => rfl
    | ok ts j => exact h ts j rfl
section
variable {s : List UInt8} (hs : s.length ≤ 1000000)
include hs
theorem rdF_step {j : Job} (hj : j.pre s) : rdF s j = step s (rdF s) j := by
  obtain ⟨r, h1, _⟩ := rd_total s hs (8 * s.length + 20) j (by cases j <;> simp only [Job.m, Job.pre] at * <;> omega) hj
  have h2 : step s (rd s (8 * s.length + 19)) j = some r := h1
  rw [rdF, h1]
  exact (step_mono s (fun j' r' h => rd_succ s _ j' r' h) j r h2).symm
theorem rdF_post {j : Job} {r : Rs} (hj : j.pre s) (h : rdF s j = some r) : j.post s r := rd_post hs hj h
theorem prime_one {i D : Nat} (hi : i ≤ s.length) {ts : List Tm} {j : Nat} (h : rdF s (.prime i D) = some (.ok ts j)) : ts = [Rs.tm ts] ∧ i < j ∧ j ≤ s.length ∧ (Rs.tm ts).fits := by
  obtain ⟨h1, h2, t, rfl, h3⟩ := rdF_post hs (j := .prime i D) hi h
  exact ⟨rfl, h1, h2, h3⟩
theorem read_one {i D l : Nat} (hi : i ≤ s.length) (hl : l ≤ 3) {ts : List Tm} {j : Nat} (h : rdF s (.read i D l) = some (.ok ts j)) : ts = [Rs.tm ts] ∧ i < j ∧ j ≤ s.length ∧ (Rs.tm ts).fits := by
  obtain ⟨h1, h2, t, rfl, h3⟩ := rdF_post hs (j := .read i D l) ⟨hi, hl⟩ h
  exact ⟨rfl, h1, h2, h3⟩
theorem ops_one {t : Tm} {i D l : Nat} (hi : i ≤ s.length) (ht : t.fits) (hl : l ≤ 3) {ts : List Tm} {j : Nat} (h : rdF s (.ops t i D l) = some (.ok ts j)) : ts = [Rs.tm ts] ∧ i ≤ j ∧ j ≤ s.length ∧ (Rs.tm ts).fits := by
  obtain ⟨h1, h2, t, rfl, h3⟩ := rdF_post hs (j := .ops t i D l) ⟨hi, ht, hl⟩ h
  exact ⟨rfl, h1, h2, h3⟩
/-- operators of levels from a on -/
def contF (s : List UInt8) (D : Nat) : Nat → Nat → Tm → Nat → Option Rs
  | 0, _, t, i => some (.ok [t] i)
  | n + 1, a, t, i => thn (rdF s (.ops t i D a)) fun us k => contF s D n (a + 1) (Rs.tm us) k
omit hs in
theorem cont_add (D : Nat) : ∀ (n m a : Nat) (t : Tm) (i : Nat), contF s D (n + m) a t i = thn (contF s D n a t i) fun us k => contF s D m (a + n) (Rs.tm us) k
  | 0, m, a, t, i => by simp [contF, thn_ok, Rs.tm]
  | n + 1, m, a, t, i => by
    rw [show n + 1 + m = (n + m) + 1 by omega, contF, contF, thn_assoc]
    refine thn_congr fun ts j _ => ?_
    rw [cont_add D n m (a + 1)]
    refine thn_congr fun us k _ => ?_
    rw [show a + 1 + n = a + (n + 1) by omega]
theorem read_cont (D : Nat) {i : Nat} (hi : i ≤ s.length) : ∀ l, l ≤ 3 → rdF s (.read i D l) = thn (rdF s (.prime i D)) fun ts j => contF s D l 1 (Rs.tm ts) j
  | 0, hl => by
    have e0 : step s (rdF s) (.read i D 0) = rdF s (.prime i D) := by simp only [step]
    rw [rdF_step hs (j := .read i D 0) ⟨hi, hl⟩, e0]
    cases h : rdF s (.prime i D) with
    | none => rfl
    | some v =>
      cases v with
      | bad e => rfl
      | ok ts j => simp only [thn_ok, contF]; rw [← (prime_one hs hi h).1]
  | l + 1, hl => by
    have ih := read_cont D hi l (by omega)
    rw [rdF_step hs (j := .read i D (l + 1)) ⟨hi, hl⟩]
    have e : step s (rdF s) (.read i D (l + 1)) = thn (rdF s (.read i D l)) fun ts j => rdF s (.ops (Rs.tm ts) j D (l + 1)) := by
      simp only [step]
      cases rdF s (.read i D l) with
      | none => rfl
      | some v => cases v <;> rfl
    rw [e]
    have e2 : (thn (rdF s (.read i D l)) fun ts j => rdF s (.ops (Rs.tm ts) j D (l + 1))) = thn (rdF s (.read i D l)) fun ts j => contF s D 1 (l + 1) (Rs.tm ts) j := by
      refine thn_congr fun ts j h => ?_
      obtain ⟨_, _, h2, h3⟩ := read_one hs hi (by omega) h
      simp only [contF]
      cases hq : rdF s (.ops (Rs.tm ts) j D (l + 1)) with
      | none => rfl
      | some v =>
        cases v with
        | bad e => rfl
        | ok us k => simp only [thn_ok]; rw [← (ops_one hs h2 h3 hl hq).1]
    rw [e2, ih, thn_assoc]
    refine thn_congr fun ts j _ => ?_
    rw [cont_add D l 1 1]
    refine thn_congr fun us k _ => ?_
    rw [Nat.add_comm]
theorem ops_none {t : Tm} {i D a : Nat} (hi : i ≤ s.length) (ht : t.fits) (ha : a ≤ 3) (h : opR s i = none) : rdF s (.ops t i D a) = some (.ok [t] i) := by
  rw [rdF_step hs (j := .ops t i D a) ⟨hi, ht, ha⟩]; simp only [step, h]
theorem ops_other {t : Tm} {i D a j : Nat} {n : List UInt8} (hi : i ≤ s.length) (ht : t.fits) (ha : a ≤ 3) (h : opR s i = some (n, j)) (hl : ¬ levelN n = a) : rdF s (.ops t i D a) = some (.ok [t] i) := by
  rw [rdF_step hs (j := .ops t i D a) ⟨hi, ht, ha⟩]; simp only [step, h, if_neg hl]
theorem ops_take {t : Tm} {i D a j : Nat} {n : List UInt8} (hi : i ≤ s.length) (ht : t.fits) (ha : a ≤ 3) (h : opR s i = some (n, j)) (hl : levelN n = a) :
    rdF s (.ops t i D a) = thn (rdF s (.read j D (a - 1))) fun us k => if a = 3 then some (.ok [.mk 3 0 n [t, Rs.tm us]] k) else rdF s (.ops (.mk 3 0 n [t, Rs.tm us]) k D a) := by
  rw [rdF_step hs (j := .ops t i D a) ⟨hi, ht, ha⟩]; simp only [step, h, if_pos hl]
  cases rdF s (.read j D (a - 1)) with
  | none => rfl
  | some v => cases v <;> rfl
omit hs in
theorem cont_skip {t : Tm} {i D : Nat} : ∀ (n a : Nat), (∀ a', a ≤ a' → a' < a + n → rdF s (.ops t i D a') = some (.ok [t] i)) → contF s D n a t i = some (.ok [t] i)
  | 0, a, _ => rfl
  | n + 1, a, h => by
    rw [contF, h a (Nat.le_refl _) (by omega), thn_ok]
    exact cont_skip n (a + 1) fun a' h1 h2 => h a' (by omega) (by omega)
/-- .. behind an operand of level m, up to level l -/
def contM (s : List UInt8) (D m l : Nat) (t : Tm) (i : Nat) : Option Rs :=
  if m = 3 then some (.ok [t] i) else contF s D (l + 1 - max m 1) (max m 1) t i
theorem cont_loop {t : Tm} {i D m l : Nat} (hi : i ≤ s.length) (ht : t.fits) (hm : m ≤ 3) (hl : l ≤ 3) : contM s D m l t i = match opR s i with
    | none => some (.ok [t] i)
    | some (n, j) => if (l : Int) < levelN n ∨ leftMost n < (m : Int) then some (.ok [t] i)
      else thn (rdF s (.read j D (levelN n - 1).toNat)) fun us k => contM s D (levelN n).toNat l (.mk 3 0 n [t, Rs.tm us]) k := by
  cases ho : opR s i with
  | none =>
    unfold contM
    split
    · rfl
    · exact cont_skip _ _ fun a' h1 h2 => ops_none hs hi ht (by omega) ho
  | some p =>
    obtain ⟨n, j⟩ := p
    have hlv := opR_level ho
    have hlm := leftMost_lv hlv
    obtain ⟨o1, o2, o3⟩ := opR_ok hi ho
    simp only
    split
    · rename_i hc
      unfold contM
      split
      · rfl
      · rename_i hm3
        refine cont_skip _ _ fun a' h1 h2 => ops_other hs hi ht (by omega) ho ?_
        rcases hc with hc | hc
        · omega
        · rw [hlm] at hc
          split at hc <;> omega
    · rename_i hc
      have hc1 : levelN n ≤ l := by omega
      have hc2 : (m : Int) ≤ leftMost n := by omega
      rw [hlm] at hc2
      have hm3 : ¬ m = 3 := by split at hc2 <;> omega
      obtain ⟨lv, hlv'⟩ : ∃ lv : Nat, levelN n = lv := ⟨(levelN n).toNat, by omega⟩
      rw [hlv'] at hc1 hc2 hlv hlm ⊢
      have hle : max m 1 ≤ lv := by split at hc2 <;> omega
      have e1 : contM s D m l t i = thn (rdF s (.ops t i D lv)) fun us k => contF s D (l - lv) (lv + 1) (Rs.tm us) k := by
        unfold contM
        rw [if_neg hm3, show l + 1 - max m 1 = (lv - max m 1) + ((l - lv) + 1) by omega, cont_add, cont_skip _ _ fun a' h1 h2 => ops_other hs hi ht (by omega) ho (by omega), thn_ok, show max m 1 + (lv - max m 1) = lv by omega]
        rfl
      have hsub : ((lv : Int) - 1).toNat = lv - 1 := by omega
      rw [e1, ops_take hs hi ht (by omega) ho hlv', hsub, Int.toNat_natCast, thn_assoc]
      refine thn_congr fun us k hr => ?_
      obtain ⟨_, r1, r2, r3⟩ := read_one hs o2 (by omega) hr
      have hf : (Tm.mk 3 0 n [t, Rs.tm us]).fits := fits_st o3 (by simp) (by simp [ht, r3])
      by_cases h3 : lv = 3
      · have hl3 : l = 3 := by omega
        subst h3; subst hl3
        rw [if_pos rfl, thn_ok]
        simp [contM, contF, Rs.tm]
      · rw [if_neg h3]
        unfold contM
        rw [if_neg h3, show max lv 1 = lv by omega, show l + 1 - lv = (l - lv) + 1 by omega]
        rfl
/-- what is too deep stays so -/
theorem cont_shape {D l q : Nat} (hl : l ≤ 3) : ∀ (N : Nat) {t : Tm} {i m : Nat}, s.length - i ≤ N → i ≤ s.length → t.fits → m ≤ 3 → t.shape q = false → ∀ ts k, contM s D m l t i = some (.ok ts k) → ∃ t' ∈ ts, t'.shape q = false := by
  intro N
  induction N with
  | zero =>
    intro t i m hN hi ht hm hq ts k h
    rw [cont_loop hs hi ht hm hl] at h
    cases ho : opR s i with
    | none => rw [ho] at h; cases h; exact ⟨t, by simp, hq⟩
    | some p =>
      obtain ⟨n, j⟩ := p
      obtain ⟨o1, o2, o3⟩ := opR_ok hi ho
      omega
  | succ N ih =>
    intro t i m hN hi ht hm hq ts k h
    rw [cont_loop hs hi ht hm hl] at h
    cases ho : opR s i with
    | none => rw [ho] at h; cases h; exact ⟨t, by simp, hq⟩
    | some p =>
      obtain ⟨n, j⟩ := p
      obtain ⟨o1, o2, o3⟩ := opR_ok hi ho
      have hlv := opR_level ho
      rw [ho] at h
      simp only at h
      split at h
      · cases h; exact ⟨t, by simp, hq⟩
      · rcases thn_some h with ⟨e, _, e2⟩ | ⟨us, k', h1, h2⟩
        · cases e2
        · obtain ⟨_, r1, r2, r3⟩ := read_one hs o2 (by omega) h1
          refine ih (by omega) r2 (fits_st o3 (by simp) (by simp [ht, r3])) (by omega) ?_ ts k h2
          cases hsh : (Tm.mk 3 0 n [t, Rs.tm us]).shape q with
          | false => rfl
          | true =>
            have := (shp_spec.1 hsh).2.2 t (by simp)
            rw [shp_mono t (q - 1) q (by omega) this] at hq
            cases hq
omit hs in
theorem kid_deep {n : List UInt8} {l : List Tm} {u : Tm} {q : Nat} (hu : u ∈ l) (h : u.shape q = false) : (Tm.mk 3 0 n l).shape q = false := by
  cases hsh : (Tm.mk 3 0 n l).shape q with
  | false => rfl
  | true =>
    have := (shp_spec.1 hsh).2.2 u hu
    rw [shp_mono u (q - 1) q (by omega) this] at h
    cases h
omit hs in
theorem kid_deep1 {n : List UInt8} {l : List Tm} {u : Tm} {q : Nat} (hu : u ∈ l) (h : u.shape (q - 1) = false) : (Tm.mk 3 0 n l).shape q = false := by
  cases hsh : (Tm.mk 3 0 n l).shape q with
  | false => rfl
  | true =>
    have := (shp_spec.1 hsh).2.2 u hu
    rw [this] at h
    cases h
omit hs in
theorem chain_deep {t : Tm} : ∀ (l : List Tm) (q j : Nat) (u : Tm), l[j]? = some u → u.shape (q - (j + 1)) = false → (chainT l t).shape q = false
  | [], q, j, u, h, _ => by simp at h
  | x :: l, q, 0, u, h, hu => by
    simp at h; subst h
    exact kid_deep1 (u := x) (by simp) hu
  | x :: l, q, j + 1, u, h, hu => by
    refine kid_deep1 (u := chainT l t) (by simp) (chain_deep l (q - 1) j u (by simpa using h) ?_)
    rw [show q - 1 - (j + 1) = q - (j + 1 + 1) by omega]; exact hu
omit hs in
theorem tail_deep {t : Tm} : ∀ (l : List Tm) (q : Nat), t.shape (q - l.length) = false → (chainT l t).shape q = false
  | [], q, h => h
  | x :: l, q, h => kid_deep1 (u := chainT l t) (by simp) (tail_deep l (q - 1) (by rw [show q - 1 - l.length = q - (x :: l).length by simp; omega]; exact h))
/-- what the program's reader gives, told of the reference's -/
def PJ.tells (s : List UInt8) (D : Nat) : PJ → Rs → Prop
  | .term l d i, .ok ts k => rdF s (.read i D l) = some (.ok ts k)
  | .term l d i, .bad _ => ∀ ts k, rdF s (.read i D l) = some (.ok ts k) → ∃ t ∈ ts, t.shape (31 - d) = false
  | .loop t m l d i, .ok ts k => contM s D m l t i = some (.ok ts k)
  | .loop t m l d i, .bad _ => ∀ ts k, contM s D m l t i = some (.ok ts k) → ∃ t' ∈ ts, t'.shape (31 - d) = false
  | .args d i, .ok ts k => rdF s (.terms (i + 1) (D - 1) 41 41) = if sgn s k 41 then some (.ok ts k) else some (.bad k)
  | .args d i, .bad _ => ∀ ts k, rdF s (.terms (i + 1) (D - 1) 41 41) = some (.ok ts k) → ∃ t ∈ ts, t.shape (31 - (d + 1)) = false
  | .items d n i, .ok ts k => rdF s (.terms i (D - 1) 93 124) = if sgn s k 93 || sgn s k 124 then some (.ok ts k) else some (.bad k)
  | .items d n i, .bad _ => ∀ ts k, rdF s (.terms i (D - 1) 93 124) = some (.ok ts k) → ∃ (j : Nat) (t : Tm), ts[j]? = some t ∧ t.shape (31 - (d + 1 + n + j)) = false
  | .prime d i, .ok ts k => rdF s (.prime i D) = some (.ok ts k)
  | .prime d i, .bad _ => ∀ ts k, rdF s (.prime i D) = some (.ok ts k) → ∃ t ∈ ts, t.shape (31 - d) = false
def PJ.dp : PJ → Nat
  | .term l d i => d
  | .loop t m l d i => d
  | .args d i => d
  | .items d n i => d
  | .prime d i => d
theorem terms_stepF (i D : Nat) (e o : UInt8) (hi : i ≤ s.length) : rdF s (.terms i D e o) = thn (rdF s (.read i D 3)) fun ts j => if sgn s j e || sgn s j o then some (.ok [Rs.tm ts] j)
    else if sgn s j 44 then thn (rdF s (.terms (j + 1) D e o)) fun us k => some (.ok (Rs.tm ts :: us) k) else some (.bad j) := by
  rw [rdF_step hs (j := .terms i D e o) hi]; rfl
theorem prime_stepF (i D : Nat) (hi : i ≤ s.length) : rdF s (.prime i D) = match s[i]? with
    | none => some (.bad i)
    | some b => if D < 1 then some (.bad i)
      else if b = 40 then thn (rdF s (.read (i + 1) D 3)) fun ts j => if sgn s j 41 then some (.ok [Rs.tm ts] (j + 1)) else some (.bad j)
      else if b = 91 ∧ sgn s (i + 1) 93 = false then thn (rdF s (.terms (i + 1) (D - 1) 93 124)) fun ts j => if sgn s j 93 then some (.ok [chainT ts nilT] (j + 1))
        else thn (rdF s (.read (j + 1) (D - 1) 3)) fun us k => if sgn s k 93 then some (.ok [chainT ts (Rs.tm us)] (k + 1)) else some (.bad k)
      else if bigB b then some (.ok [.mk 1 (b.toNat - 65 : Nat) [] []] (i + 1))
      else if digB b || b == 45 && digAt s (i + 1) then match numR s i with
        | none => some (.bad i)
        | some (n, j) => some (.ok [.mk 2 n [] []] j)
      else match nameR s i with
        | none => some (.bad i)
        | some (n, j) => if sgn s j 40 then thn (rdF s (.terms (j + 1) (D - 1) 41 41)) fun ts k => some (.ok [.mk 3 0 n ts] (k + 1)) else some (.ok [.mk 3 0 n []] j) := by
  rw [rdF_step hs (j := .prime i D) hi]; rfl
omit hs in
theorem sgn_one {k : Nat} {a b : UInt8} (h : sgn s k a = true) (hab : a ≠ b) : sgn s k b = false := by
  unfold sgn at h ⊢
  split at h
  · rename_i c hc
    simp at h
    subst h
    simp [hab]
  · cases h
omit hs in
theorem shape_zero (t : Tm) : t.shape 0 = false := by
  cases t
  rw [Tm.shape]; rfl
omit hs in
theorem rp_nonempty {f d n i : Nat} {ts : List Tm} {k : Nat} (h : rp s f (.items d n i) = some (.ok ts k)) : ts ≠ [] := by
  cases f with
  | zero => cases h
  | succ f =>
    have h : (thn (rp s f (.term 3 (d + 1 + n) i)) fun ts j => if sgn s j 44 then thn (rp s f (.items d (n + 1) (j + 1))) fun us k => some (.ok (Rs.tm ts :: us) k) else some (.ok [Rs.tm ts] j)) = some (.ok ts k) := h
    rcases thn_some h with ⟨e, _, e2⟩ | ⟨us, j, _, h2⟩
    · cases e2
    · split at h2
      · rcases thn_some h2 with ⟨_, _, e2⟩ | ⟨vs, m, _, g4⟩
        · cases e2
        · cases g4; simp
      · cases h2; simp
theorem rp_tells : ∀ (f : Nat) (pj : PJ) (r : Rs), rp s f pj = some r → pj.pre s → ∀ D, 31 ≤ pj.dp + D → pj.tells s D r
  | 0, pj, r, h, _, _, _ => by cases h
  | f + 1, .term l d i, r, h, hp, D, hD => by
    obtain ⟨hi, hl⟩ := hp
    have hD : 31 ≤ d + D := hD
    have h : (thn (rp s f (.prime d i)) fun ts j => rp s f (.loop (Rs.tm ts) 0 l d j)) = some r := h
    rcases thn_some h with ⟨e, h1, rfl⟩ | ⟨ts, j, h1, h2⟩
    · intro ts k hk
      rw [read_cont hs D hi l hl] at hk
      rcases thn_some hk with ⟨_, _, e2⟩ | ⟨us, j, g1, g2⟩
      · cases e2
      · obtain ⟨t, ht, hsh⟩ := rp_tells f _ _ h1 hi D hD us j g1
        obtain ⟨p1, p2, p3, p4⟩ := prime_one hs hi g1
        rw [p1] at ht; simp at ht; subst ht
        exact cont_shape hs hl _ (Nat.le_refl _) p3 p4 (m := 0) (by omega) hsh ts k (by unfold contM; simpa using g2)
    · have q1 : rdF s (.prime i D) = some (.ok ts j) := rp_tells f _ _ h1 hi D hD
      obtain ⟨p1, p2, p3, p4⟩ := prime_one hs hi q1
      have q2 := rp_tells f _ _ h2 ⟨p3, p4, hl, by omega⟩ D hD
      have e : rdF s (.read i D l) = contM s D 0 l (Rs.tm ts) j := by
        rw [read_cont hs D hi l hl, q1, thn_ok]; unfold contM; simp
      cases r with
      | ok ts' k => show rdF s (.read i D l) = _; rw [e]; exact q2
      | bad e' => intro ts' k hk; rw [e] at hk; exact q2 ts' k hk
  | f + 1, .loop t m l d i, r, h, hp, D, hD => by
    obtain ⟨hi, ht, hl, hm⟩ := hp
    have hD : 31 ≤ d + D := hD
    have hc := cont_loop hs (D := D) hi ht hm hl
    have h : (match opR s i with
      | none => some (.ok [t] i)
      | some (n, j) => if (l : Int) < levelN n ∨ leftMost n < (m : Int) then some (.ok [t] i)
        else thn (rp s f (.term (levelN n - 1).toNat d j)) fun us k => rp s f (.loop (.mk 3 0 n [t, Rs.tm us]) (levelN n).toNat l d k)) = some r := h
    cases ho : opR s i with
    | none => rw [ho] at h hc; cases h; exact hc
    | some p =>
      obtain ⟨n, j⟩ := p
      rw [ho] at h hc
      obtain ⟨o1, o2, o3⟩ := opR_ok hi ho
      have hlv := opR_level ho
      simp only at h hc
      split at h
      · rename_i hif
        rw [if_pos hif] at hc
        cases h; exact hc
      · rename_i hif
        rw [if_neg hif] at hc
        rcases thn_some h with ⟨e, h1, rfl⟩ | ⟨us, k, h1, h2⟩
        · intro ts k hk
          rw [hc] at hk
          rcases thn_some hk with ⟨_, _, e2⟩ | ⟨us, k', g1, g2⟩
          · cases e2
          · obtain ⟨u, hu, hsh⟩ := rp_tells f _ _ h1 ⟨o2, by omega⟩ D hD us k' g1
            obtain ⟨p1, p2, p3, p4⟩ := read_one hs o2 (by omega) g1
            rw [p1] at hu; simp at hu; subst hu
            exact cont_shape hs hl _ (Nat.le_refl _) p3 (fits_st o3 (by simp) (by simp [ht, p4])) (by omega) (kid_deep (u := Rs.tm us) (by simp) hsh) ts k g2
        · have q1 : rdF s (.read j D (levelN n - 1).toNat) = some (.ok us k) := rp_tells f _ _ h1 ⟨o2, by omega⟩ D hD
          obtain ⟨p1, p2, p3, p4⟩ := read_one hs o2 (by omega) q1
          have q2 := rp_tells f _ _ h2 ⟨p3, fits_st o3 (by simp) (by simp [ht, p4]), hl, by omega⟩ D hD
          rw [q1, thn_ok] at hc
          cases r with
          | ok ts' k' => show contM s D m l t i = _; rw [hc]; exact q2
          | bad e' => intro ts' k' hk; rw [hc] at hk; exact q2 ts' k' hk
  | f + 1, .args d i, r, h, hp, D, hD => by
    have hp : i < s.length := hp
    have hD : 31 ≤ d + D := hD
    have hD1 : 31 ≤ (d + 1) + (D - 1) := by omega
    have ht := terms_stepF hs (i + 1) (D - 1) 41 41 (by omega)
    have h : (thn (rp s f (.term 3 (d + 1) (i + 1))) fun ts j => if sgn s j 44 then thn (rp s f (.args d j)) fun us k => some (.ok (Rs.tm ts :: us) k) else some (.ok [Rs.tm ts] j)) = some r := h
    rcases thn_some h with ⟨e, h1, rfl⟩ | ⟨ts, j, h1, h2⟩
    · intro ts k hk
      rw [ht] at hk
      rcases thn_some hk with ⟨_, _, e2⟩ | ⟨us, k', g1, g2⟩
      · cases e2
      · obtain ⟨u, hu, hsh⟩ := rp_tells f _ _ h1 ⟨by omega, by omega⟩ (D - 1) hD1 us k' g1
        obtain ⟨p1, p2, p3, p4⟩ := read_one hs (by omega) (by omega) g1
        rw [p1] at hu; simp at hu; subst hu
        refine ⟨Rs.tm us, ?_, hsh⟩
        split at g2
        · cases g2; simp
        · split at g2
          · rcases thn_some g2 with ⟨_, _, e2⟩ | ⟨vs, m, g3, g4⟩
            · cases e2
            · cases g4; simp
          · cases g2
    · have q1 : rdF s (.read (i + 1) (D - 1) 3) = some (.ok ts j) := rp_tells f _ _ h1 ⟨by omega, by omega⟩ (D - 1) hD1
      rw [q1, thn_ok] at ht
      by_cases hc : sgn s j 44 = true
      · rw [if_pos hc] at h2
        have hno := sgn_one hc (b := 41) (by decide)
        rw [hno, hc] at ht
        simp only [Bool.or_self, Bool.false_eq_true, if_false, if_true] at ht
        have hlt := sgn_lt hc
        rcases thn_some h2 with ⟨e, g1, rfl⟩ | ⟨us, k, g1, g2⟩
        · intro ts' k' hk
          rw [ht] at hk
          rcases thn_some hk with ⟨_, _, e2⟩ | ⟨vs, m, g3, g4⟩
          · cases e2
          · obtain ⟨u, hu, hsh⟩ := rp_tells f _ _ g1 hlt D hD vs m g3
            cases g4
            exact ⟨u, by simp [hu], hsh⟩
        · have q2 : rdF s (.terms (j + 1) (D - 1) 41 41) = if sgn s k 41 then some (.ok us k) else some (.bad k) := rp_tells f _ _ g1 hlt D hD
          cases g2
          show rdF s (.terms (i + 1) (D - 1) 41 41) = _
          rw [ht, q2]
          split <;> rfl
      · rw [if_neg hc] at h2
        cases h2
        show rdF s (.terms (i + 1) (D - 1) 41 41) = _
        rw [ht]
        simp [hc]
  | f + 1, .items d n i, r, h, hp, D, hD => by
    have hp : i ≤ s.length := hp
    have hD : 31 ≤ d + D := hD
    have hD1 : 31 ≤ (d + 1 + n) + (D - 1) := by omega
    have ht := terms_stepF hs i (D - 1) 93 124 (by omega)
    have h : (thn (rp s f (.term 3 (d + 1 + n) i)) fun ts j => if sgn s j 44 then thn (rp s f (.items d (n + 1) (j + 1))) fun us k => some (.ok (Rs.tm ts :: us) k) else some (.ok [Rs.tm ts] j)) = some r := h
    rcases thn_some h with ⟨e, h1, rfl⟩ | ⟨ts, j, h1, h2⟩
    · intro ts k hk
      rw [ht] at hk
      rcases thn_some hk with ⟨_, _, e2⟩ | ⟨us, k', g1, g2⟩
      · cases e2
      · obtain ⟨u, hu, hsh⟩ := rp_tells f _ _ h1 ⟨by omega, by omega⟩ (D - 1) hD1 us k' g1
        obtain ⟨p1, p2, p3, p4⟩ := read_one hs (by omega) (by omega) g1
        rw [p1] at hu; simp at hu; subst hu
        refine ⟨0, Rs.tm us, ?_, hsh⟩
        split at g2
        · cases g2; rfl
        · split at g2
          · rcases thn_some g2 with ⟨_, _, e2⟩ | ⟨vs, m, g3, g4⟩
            · cases e2
            · cases g4; rfl
          · cases g2
    · have q1 : rdF s (.read i (D - 1) 3) = some (.ok ts j) := rp_tells f _ _ h1 ⟨by omega, by omega⟩ (D - 1) hD1
      rw [q1, thn_ok] at ht
      by_cases hc : sgn s j 44 = true
      · rw [if_pos hc] at h2
        have hno := sgn_one hc (b := 93) (by decide)
        have hno2 := sgn_one hc (b := 124) (by decide)
        rw [hno, hno2, hc] at ht
        simp only [Bool.or_self, Bool.false_eq_true, if_false, if_true] at ht
        have hlt := sgn_lt hc
        rcases thn_some h2 with ⟨e, g1, rfl⟩ | ⟨us, k, g1, g2⟩
        · intro ts' k' hk
          rw [ht] at hk
          rcases thn_some hk with ⟨_, _, e2⟩ | ⟨vs, m, g3, g4⟩
          · cases e2
          · obtain ⟨x, u, hu, hsh⟩ := rp_tells f _ _ g1 (show j + 1 ≤ s.length by omega) D hD vs m g3
            cases g4
            exact ⟨x + 1, u, by simpa using hu, by rw [show d + 1 + n + (x + 1) = d + 1 + (n + 1) + x by omega]; exact hsh⟩
        · have q2 : rdF s (.terms (j + 1) (D - 1) 93 124) = if sgn s k 93 || sgn s k 124 then some (.ok us k) else some (.bad k) := rp_tells f _ _ g1 (show j + 1 ≤ s.length by omega) D hD
          cases g2
          show rdF s (.terms i (D - 1) 93 124) = _
          rw [ht, q2]
          split <;> rfl
      · rw [if_neg hc] at h2
        cases h2
        show rdF s (.terms i (D - 1) 93 124) = _
        rw [ht]
        simp [hc]
  | f + 1, .prime d i, r, h, hp, D, hD => by
    have hi : i ≤ s.length := hp
    have hD : 31 ≤ d + D := hD
    have ht := prime_stepF hs i D hi
    by_cases hd : 30 < d
    · have h : (if 30 < d then some (.bad i) else _) = some r := h
      rw [if_pos hd] at h
      cases h
      intro ts k hk
      obtain ⟨p1, p2, p3, p4⟩ := prime_one hs hi hk
      refine ⟨Rs.tm ts, by rw [p1]; simp [Rs.tm], ?_⟩
      rw [show 31 - d = 0 by omega]; exact shape_zero _
    · have h : (if 30 < d then some (.bad i) else match s[i]? with
        | none => some (.bad i)
        | some b => if bigB b then some (.ok [.mk 1 (b.toNat - 65 : Nat) [] []] (i + 1))
          else if digB b || b == 45 && digAt s (i + 1) then match numR s i with
            | none => some (.bad i)
            | some (n, j) => some (.ok [.mk 2 n [] []] j)
          else if b = 40 then thn (rp s f (.term 3 d (i + 1))) fun ts j => if sgn s j 41 then some (.ok [Rs.tm ts] (j + 1)) else some (.bad j)
          else if b = 91 ∧ sgn s (i + 1) 93 = false then thn (rp s f (.items d 0 (i + 1))) fun ts j =>
            if sgn s j 124 then thn (rp s f (.term 3 (d + ts.length) (j + 1))) fun us k => if sgn s k 93 then some (.ok [chainT ts (Rs.tm us)] (k + 1)) else some (.bad k)
            else if sgn s j 93 then some (.ok [chainT ts nilT] (j + 1)) else some (.bad j)
          else match nameR s i with
            | none => some (.bad i)
            | some (n, j) => if sgn s j 40 then thn (rp s f (.args d j)) fun ts k => if sgn s k 41 then some (.ok [.mk 3 0 n ts] (k + 1)) else some (.bad k)
              else some (.ok [.mk 3 0 n []] j)) = some r := h
      rw [if_neg hd] at h
      have hD1 : ¬ D < 1 := by omega
      cases hb : s[i]? with
      | none =>
        rw [hb] at h ht
        cases h
        intro ts k hk
        rw [ht] at hk; cases hk
      | some b =>
        rw [hb] at h ht
        simp only [if_neg hD1] at h ht
        have hlt := (List.getElem?_eq_some_iff.1 hb).1
        by_cases h40 : b = 40
        · subst h40
          rw [if_pos rfl] at ht
          rw [if_neg (by decide), if_neg (by simp; decide), if_pos rfl] at h
          rcases thn_some h with ⟨e, h1, rfl⟩ | ⟨ts, j, h1, h2⟩
          · intro ts k hk
            rw [ht] at hk
            rcases thn_some hk with ⟨_, _, e2⟩ | ⟨us, k', g1, g2⟩
            · cases e2
            · obtain ⟨u, hu, hsh⟩ := rp_tells f _ _ h1 ⟨by omega, by omega⟩ D hD us k' g1
              obtain ⟨p1, p2, p3, p4⟩ := read_one hs (by omega) (by omega) g1
              rw [p1] at hu; simp at hu; subst hu
              split at g2
              · cases g2; exact ⟨_, by simp, hsh⟩
              · cases g2
          · have q1 : rdF s (.read (i + 1) D 3) = some (.ok ts j) := rp_tells f _ _ h1 ⟨by omega, by omega⟩ D hD
            rw [q1, thn_ok] at ht
            split at h2
            · rename_i hc; rw [if_pos hc] at ht; cases h2; exact ht
            · rename_i hc; rw [if_neg hc] at ht; cases h2; intro ts' k' hk; rw [ht] at hk; cases hk
        · rw [if_neg h40] at h ht
          by_cases h91 : b = 91 ∧ sgn s (i + 1) 93 = false
          · have hb91 := h91.1
            rw [if_pos h91] at h ht
            rw [if_neg (by rw [hb91]; decide), if_neg (by rw [hb91]; simp; decide)] at h
            have hD2 : 31 ≤ d + D := hD
            rcases thn_some h with ⟨e, h1, rfl⟩ | ⟨ts, j, h1, h2⟩
            · intro ts k hk
              rw [ht] at hk
              rcases thn_some hk with ⟨_, _, e2⟩ | ⟨us, k', g1, g2⟩
              · cases e2
              · obtain ⟨x, u, hu, hsh⟩ := rp_tells f _ _ h1 (show i + 1 ≤ s.length by omega) D hD us k' g1
                have hsh' : u.shape (31 - d - (x + 1)) = false := by rw [show 31 - d - (x + 1) = 31 - (d + 1 + 0 + x) by omega]; exact hsh
                split at g2
                · cases g2; exact ⟨chainT us nilT, by simp, chain_deep us _ x u hu hsh'⟩
                · rcases thn_some g2 with ⟨_, _, e2⟩ | ⟨vs, m, g3, g4⟩
                  · cases e2
                  · split at g4
                    · cases g4; exact ⟨chainT us (Rs.tm vs), by simp, chain_deep us _ x u hu hsh'⟩
                    · cases g4
            · have q1 : rdF s (.terms (i + 1) (D - 1) 93 124) = if sgn s j 93 || sgn s j 124 then some (.ok ts j) else some (.bad j) := rp_tells f _ _ h1 (show i + 1 ≤ s.length by omega) D hD
              obtain ⟨_, pk, _, _⟩ : i + 1 < j ∧ j ≤ s.length ∧ _ ∧ _ := rp_post hs (j := .items d 0 (i + 1)) (show i + 1 ≤ s.length by omega) h1
              by_cases hc : sgn s j 124 = true
              · have hno := sgn_one hc (b := 93) (by decide)
                have hk := sgn_lt hc
                rw [q1, hc, hno] at ht
                simp only [Bool.or_true, if_true, thn_ok, hno, Bool.false_eq_true, if_false] at ht
                rw [if_pos hc] at h2
                have hl : 1 ≤ ts.length := by
                  cases ts with
                  | nil =>
                    obtain ⟨_, _, _, _, _⟩ := rdF_post hs (j := .terms (i + 1) (D - 1) 93 124) (show i + 1 ≤ s.length by omega) (r := .ok [] j) (by rw [q1, hc]; simp)
                    have := rp_nonempty h1
                    simp at this
                  | cons a l => simp
                have hD3 : 31 ≤ (d + ts.length) + (D - 1) := by omega
                rcases thn_some h2 with ⟨e, g1, rfl⟩ | ⟨us, k, g1, g2⟩
                · intro ts' k' hk'
                  rw [ht] at hk'
                  rcases thn_some hk' with ⟨_, _, e2⟩ | ⟨vs, m, g3, g4⟩
                  · cases e2
                  · obtain ⟨u, hu, hsh⟩ := rp_tells f _ _ g1 ⟨by omega, by omega⟩ (D - 1) hD3 vs m g3
                    obtain ⟨p1, p2, p3, p4⟩ := read_one hs (by omega) (by omega) g3
                    rw [p1] at hu; simp at hu; subst hu
                    split at g4
                    · cases g4; exact ⟨chainT ts (Rs.tm vs), by simp, tail_deep ts _ (by rw [show 31 - d - ts.length = 31 - (d + ts.length) by omega]; exact hsh)⟩
                    · cases g4
                · have q2 : rdF s (.read (j + 1) (D - 1) 3) = some (.ok us k) := rp_tells f _ _ g1 ⟨by omega, by omega⟩ (D - 1) hD3
                  rw [q2, thn_ok] at ht
                  split at g2
                  · rename_i hc2; rw [if_pos hc2] at ht; cases g2; exact ht
                  · rename_i hc2; rw [if_neg hc2] at ht; cases g2; intro ts' k' hk'; rw [ht] at hk'; cases hk'
              · rw [if_neg hc] at h2
                by_cases hc2 : sgn s j 93 = true
                · rw [if_pos hc2] at h2
                  rw [q1, hc2] at ht
                  simp only [Bool.true_or, if_true, thn_ok, hc2] at ht
                  cases h2; exact ht
                · rw [if_neg hc2] at h2
                  have hcf : sgn s j 124 = false := by simpa using hc
                  have hcf2 : sgn s j 93 = false := by simpa using hc2
                  rw [q1, hcf, hcf2] at ht
                  simp only [Bool.or_self, Bool.false_eq_true, if_false, thn_bad] at ht
                  cases h2; intro ts' k' hk'; rw [ht] at hk'; cases hk'
          · rw [if_neg h91] at h ht
            split at h
            · rename_i hc; rw [if_pos hc] at ht; cases h; exact ht
            · rename_i hc
              rw [if_neg hc] at ht
              split at h
              · rename_i hc2
                rw [if_pos hc2] at ht
                cases hn : numR s i with
                | none => rw [hn] at h ht; cases h; intro ts' k' hk'; rw [ht] at hk'; cases hk'
                | some p => obtain ⟨n, j⟩ := p; rw [hn] at h ht; cases h; exact ht
              · rename_i hc2
                rw [if_neg hc2] at ht
                cases hn : nameR s i with
                | none => rw [hn] at h ht; cases h; intro ts' k' hk'; rw [ht] at hk'; cases hk'
                | some p =>
                  obtain ⟨n, j⟩ := p
                  obtain ⟨n1, n2, n3⟩ := nameR_ok hi hn
                  rw [hn] at h ht
                  simp only at h ht
                  split at h
                  · rename_i hc3
                    have hlt := sgn_lt hc3
                    rw [if_pos hc3] at ht
                    rcases thn_some h with ⟨e, h1, rfl⟩ | ⟨ts, k, h1, h2⟩
                    · intro ts k hk
                      rw [ht] at hk
                      rcases thn_some hk with ⟨_, _, e2⟩ | ⟨us, k', g1, g2⟩
                      · cases e2
                      · obtain ⟨u, hu, hsh⟩ := rp_tells f _ _ h1 hlt D hD us k' g1
                        cases g2
                        exact ⟨.mk 3 0 n us, by simp, kid_deep1 hu (by rw [show 31 - d - 1 = 31 - (d + 1) by omega]; exact hsh)⟩
                    · have q1 : rdF s (.terms (j + 1) (D - 1) 41 41) = if sgn s k 41 then some (.ok ts k) else some (.bad k) := rp_tells f _ _ h1 hlt D hD
                      split at h2
                      · rename_i hc4; rw [q1, if_pos hc4, thn_ok] at ht; cases h2; exact ht
                      · rename_i hc4; rw [q1, if_neg hc4, thn_bad] at ht; cases h2; intro ts' k' hk'; rw [ht] at hk'; cases hk'
                  · rename_i hc3
                    rw [if_neg hc3] at ht
                    cases h; exact ht
end
end Go.Proofs.YtbblefjbgbocoaaGreatDoor

/-
  Small numbers in decimal.
  Conditions: none.
-/
open Go Go.AM Go.Proofs
namespace Go.Proofs.YtbblefjbgbocoaaGreatDoor
set_option linter.unusedVariables false
set_option linter.unusedSimpArgs false
set_option maxRecDepth 100000
/-- small numbers in decimal -/
def dec3 (u : Nat) : List UInt8 := if u < 10 then [UInt8.ofNat (48 + u)] else if u < 100 then [UInt8.ofNat (48 + u / 10), UInt8.ofNat (48 + u % 10)] else [UInt8.ofNat (48 + u / 100), UInt8.ofNat (48 + u / 10 % 10), UInt8.ofNat (48 + u % 10)]
def itoa3 (n : Int) : List UInt8 := if n < 0 then 45 :: dec3 n.natAbs else dec3 n.toNat
theorem dd_lt {u : Nat} (h : u < 10) : Lib.decDigits u = [UInt8.ofNat (48 + u)] := by rw [Lib.decDigits, dif_pos h]
theorem dd_ge {u : Nat} (h : ¬ u < 10) : Lib.decDigits u = Lib.decDigits (u / 10) ++ [UInt8.ofNat (48 + u % 10)] := by rw [Lib.decDigits, dif_neg h]
theorem dec3_eq {u : Nat} (h : u ≤ 999) : dec3 u = Lib.decDigits u := by
  unfold dec3
  by_cases h1 : u < 10
  · rw [if_pos h1, dd_lt h1]
  · rw [if_neg h1, dd_ge h1]
    by_cases h2 : u < 100
    · rw [if_pos h2, dd_lt (by omega)]; rfl
    · rw [if_neg h2, dd_ge (u := u / 10) (by omega), dd_lt (u := u / 10 / 10) (by omega)]
      have : u / 10 / 10 = u / 100 := by omega
      rw [this]; rfl
theorem itoa3_eq {n : Int} (h0 : -999 ≤ n) (h1 : n ≤ 999) : itoa3 n = Lib.itoa n := by
  unfold itoa3 Lib.itoa
  split
  · rw [dec3_eq (by omega)]
  · rw [dec3_eq (by omega)]
end Go.Proofs.YtbblefjbgbocoaaGreatDoor

/-
  What is written is read back: names, numbers, operators.
  Conditions: none.
-/
open Go Go.AM Go.Proofs
namespace Go.Proofs.YtbblefjbgbocoaaGreatDoor
set_option linter.unusedVariables false
set_option linter.unusedSimpArgs false
set_option maxRecDepth 100000
section
variable {s : List UInt8} {i : Nat} {w r : List UInt8}
theorem dr_get (h : s.drop i = w ++ r) (k : Nat) : s[i + k]? = (w ++ r)[k]? := by rw [← h, List.getElem?_drop]
theorem dr_add (h : s.drop i = w ++ r) : s.drop (i + w.length) = r := by rw [← List.drop_drop, h, List.drop_left]
theorem dr_len (h : s.drop i = w ++ r) (hi : i ≤ s.length) : s.length = i + w.length + r.length := by
  have := congrArg List.length h
  simp at this; omega
theorem sgn_dr {c d : UInt8} (h : s.drop i = c :: r) : sgn s i d = (c == d) := by
  have := dr_get (w := []) (r := c :: r) (i := i) (s := s) (by simpa using h) 0
  simp at this
  simp [sgn, this]
theorem at_dr {c : UInt8} (h : s.drop i = c :: r) : s[i]? = some c := by
  have := dr_get (w := []) (r := c :: r) (i := i) (s := s) (by simpa using h) 0
  simpa using this
theorem sma_dr {c : UInt8} (h : s.drop i = c :: r) : smaAt s i = smaB c := by simp [smaAt, at_dr h]
theorem dig_end (h : s.drop i = []) : digAt s i = false := by
  have : s.length ≤ i := by simpa using h
  simp [digAt, this]
theorem sma_end (h : s.drop i = []) : smaAt s i = false := by
  have : s.length ≤ i := by simpa using h
  simp [smaAt, this]
theorem cut_dr (h : s.drop i = w ++ r) : cutS s i (i + w.length) = w := by
  rw [cutS, List.drop_take, h, Nat.add_sub_cancel_left, List.take_left]
/-- a run of bytes -/
theorem run_dr {p : List UInt8 → Nat → Bool} {q : UInt8 → Bool} (hp : ∀ s i, p s i = match s[i]? with | some b => q b | none => false) (h : s.drop i = w ++ r) (hw : w.all q = true) (hr : ∀ c r', r = c :: r' → q c = false) {n : Nat} (hn : w.length ≤ n) : runE p s n i = i + w.length := by
  have key : ∀ (n i m : Nat), m ≤ n → (∀ k, k < m → p s (i + k) = true) → (m = n ∨ p s (i + m) = false) → runE p s n i = i + m := by
    intro n
    induction n with
    | zero => intro i m hm _ _; have : m = 0 := by omega
              subst this; rfl
    | succ n ih =>
      intro i m hm h1 h2
      cases m with
      | zero =>
        have h2 : p s i = false := by rcases h2 with h2 | h2; omega; exact h2
        unfold runE; simp [h2]
      | succ m =>
        have h0 := h1 0 (by omega)
        simp only [Nat.add_zero] at h0
        unfold runE
        rw [if_pos h0, ih (i + 1) m (by omega) (fun k hk => by rw [show i + 1 + k = i + (k + 1) by omega]; exact h1 (k + 1) (by omega)) (by rcases h2 with h2 | h2; exact .inl (by omega); exact .inr (by rw [show i + 1 + m = i + (m + 1) by omega]; exact h2))]
        omega
  refine key n i w.length hn (fun k hk => ?_) (.inr ?_)
  · rw [hp, dr_get h, List.getElem?_append_left hk, List.getElem?_eq_getElem hk]
    exact List.all_eq_true.1 hw _ (List.getElem_mem hk)
  · rw [hp, dr_get h, List.getElem?_append_right (Nat.le_refl _), Nat.sub_self]
    cases r with
    | nil => rfl
    | cons c r' => exact hr c r' rfl
theorem digAt_def (s : List UInt8) (i : Nat) : digAt s i = match s[i]? with | some b => digB b | none => false := rfl
theorem smaAt_def (s : List UInt8) (i : Nat) : smaAt s i = match s[i]? with | some b => smaB b | none => false := rfl
theorem low_sma (b : UInt8) : lowB b = smaB b := by
  unfold lowB smaB
  rw [Bool.eq_iff_iff]
  simp
  omega
/-- the longest name that stands at a place -/
theorem match_iff {n : List UInt8} (hi : i ≤ s.length) : (decide (i + n.length ≤ s.length) && cutS s i (i + n.length) == n) = true ↔ n <+: s.drop i := by
  simp only [Bool.and_eq_true, decide_eq_true_eq, beq_iff_eq]
  rw [cutS, List.drop_take, Nat.add_sub_cancel_left]
  constructor
  · rintro ⟨h1, h2⟩
    exact ⟨(s.drop i).drop n.length, by conv => rhs; rw [← List.take_append_drop n.length (s.drop i), h2]⟩
  · rintro ⟨y, hy⟩
    refine ⟨?_, by rw [← hy, List.take_left]⟩
    have := congrArg List.length hy
    simp at this; omega
theorem best_max (hi : i ≤ s.length) : ∀ (L : List (List UInt8)) (b : List UInt8), b <+: s.drop i → bestS s i L b <+: s.drop i ∧ b.length ≤ (bestS s i L b).length ∧ (∀ n ∈ L, n <+: s.drop i → n.length ≤ (bestS s i L b).length) ∧ (bestS s i L b = b ∨ bestS s i L b ∈ L)
  | [], b, hb => ⟨hb, Nat.le_refl _, by simp, .inl rfl⟩
  | n :: L, b, hb => by
    unfold bestS
    by_cases hm : (decide (i + n.length ≤ s.length) && cutS s i (i + n.length) == n) = true
    · have hpre := (match_iff hi).1 hm
      by_cases hlt : b.length < n.length
      · rw [if_pos (by simp only [hm, Bool.true_and]; simpa using hlt)]
        obtain ⟨h1, h2, h3, h4⟩ := best_max hi L n hpre
        refine ⟨h1, by omega, fun x hx hp => ?_, ?_⟩
        · rcases List.mem_cons.1 hx with rfl | hx
          · exact h2
          · exact h3 x hx hp
        · rcases h4 with h4 | h4
          · rw [h4]; exact .inr (by simp)
          · exact .inr (List.mem_cons_of_mem _ h4)
      · rw [if_neg (by simp only [hm, Bool.true_and]; simpa using hlt)]
        obtain ⟨h1, h2, h3, h4⟩ := best_max hi L b hb
        refine ⟨h1, h2, fun x hx hp => ?_, ?_⟩
        · rcases List.mem_cons.1 hx with rfl | hx
          · omega
          · exact h3 x hx hp
        · rcases h4 with h4 | h4
          · exact .inl h4
          · exact .inr (List.mem_cons_of_mem _ h4)
    · have hno : ¬ n <+: s.drop i := fun h => hm ((match_iff hi).2 h)
      rw [if_neg (by simp only [Bool.and_eq_true] at hm ⊢; exact fun h => hm h.1)]
      obtain ⟨h1, h2, h3, h4⟩ := best_max hi L b hb
      refine ⟨h1, h2, fun x hx hp => ?_, ?_⟩
      · rcases List.mem_cons.1 hx with rfl | hx
        · exact absurd hp hno
        · exact h3 x hx hp
      · rcases h4 with h4 | h4
        · exact .inl h4
        · exact .inr (List.mem_cons_of_mem _ h4)
theorem best_none (hi : i ≤ s.length) (h : ∀ x ∈ signs, ¬ x <+: s.drop i) : bestS s i signs [] = [] := by
  obtain ⟨h1, _, _, h4⟩ := best_max hi signs [] ⟨s.drop i, by simp⟩
  rcases h4 with h4 | h4
  · exact h4
  · exact absurd h1 (h _ h4)
theorem nameR_letters {nm : List UInt8} (hi : i ≤ s.length) (h : s.drop i = nm ++ r) (hl : lettersB nm = true) (hr : ∀ c r', r = c :: r' → smaB c = false) : nameR s i = some (nm, i + nm.length) := by
  simp only [lettersB, Bool.and_eq_true, decide_eq_true_eq] at hl
  have hall : nm.all smaB = true := by
    rw [← hl.1]; congr 1; funext b; exact (low_sma b).symm
  have hlen := dr_len h hi
  have hrun := run_dr smaAt_def h hall hr (n := s.length) (by omega)
  unfold nameR
  rw [hrun, if_neg (by omega), if_pos (by omega), cut_dr h]
theorem nameR_none (hi : i ≤ s.length) (h1 : ∀ c r', s.drop i = c :: r' → smaB c = false) (h2 : ∀ x ∈ signs, ¬ x <+: s.drop i) : nameR s i = none := by
  have hrun := run_dr (w := []) (r := s.drop i) (s := s) (i := i) smaAt_def rfl rfl h1 (n := s.length) (Nat.zero_le _)
  simp only [List.length_nil, Nat.add_zero] at hrun
  unfold nameR
  rw [hrun, if_neg (by omega), if_neg (by omega), if_pos (best_none hi h2)]
end
/-- the operators -/
def allOps : List (List UInt8) := ops3 ++ [[43], [45]] ++ [[42], [47, 47], [109, 111, 100]]
theorem level_ops {n : List UInt8} (h : 1 ≤ levelN n) : n ∈ allOps := by
  unfold levelN at h
  unfold allOps
  split at h
  · rename_i h1; simp at h1; simp [h1]
  · split at h
    · rename_i h1; simp at h1; rcases h1 with h1 | h1 <;> simp [h1]
    · split at h
      · rename_i h1; simp at h1; rcases h1 with h1 | h1 | h1 <;> simp [h1]
      · omega
theorem ops_head : ∀ n ∈ allOps, (match opSp n with | [] => false | c :: _ => (!digB c && !smaB c) && !(c == 40) && !(c == 44) && !(c == 93) && !(c == 124) && !(c == 41)) = true := by decide
/-- what may stand behind a term: nothing, a closing byte, or an operator of at least a level -/
inductive Fol (m : Int) : List UInt8 → Prop
  | nil : Fol m []
  | close {c : UInt8} {r : List UInt8} : c ∈ [41, 44, 93, 124] → Fol m (c :: r)
  | op {n : List UInt8} {c : UInt8} {r : List UInt8} : 1 ≤ levelN n → m ≤ levelN n → plainC c = true → Fol m (opSp n ++ c :: r)
theorem Fol.mono {m m' : Int} {r : List UInt8} (h : Fol m r) (hm : m' ≤ m) : Fol m' r := by
  cases h with
  | nil => exact .nil
  | close h => exact .close h
  | op h1 h2 h3 => exact .op h1 (by omega) h3
theorem Fol.head {m : Int} {r : List UInt8} (h : Fol m r) : ∀ c r', r = c :: r' → digB c = false ∧ smaB c = false ∧ c ≠ 40 := by
  intro c r' e
  cases h with
  | nil => cases e
  | close h =>
    cases e
    have : ∀ c ∈ ([41, 44, 93, 124] : List UInt8), (!digB c && !smaB c && !(c == 40)) = true := by decide
    have := this _ h
    simp at this
    exact ⟨this.1.1, this.1.2, this.2⟩
  | @op n d q h1 h2 h3 =>
    have hh := ops_head n (level_ops h1)
    cases ho : opSp n with
    | nil => rw [ho] at hh; cases hh
    | cons a y =>
      rw [ho] at hh e
      cases e
      simp at hh
      exact ⟨hh.1.1.1.1.1.1, hh.1.1.1.1.1.2, hh.1.1.1.1.2⟩
section
variable {s : List UInt8} {i : Nat} {r : List UInt8}
end
end Go.Proofs.YtbblefjbgbocoaaGreatDoor

/-
  What is written is read back: terms.
  Conditions: none.
-/
open Go Go.AM Go.Proofs
namespace Go.Proofs.YtbblefjbgbocoaaGreatDoor
set_option linter.unusedVariables false
set_option linter.unusedSimpArgs false
set_option maxRecDepth 100000
/-! ### numbers -/
def dec3Ok (u : Nat) : Bool := canB (dec3 u) && decide (numV (dec3 u) = u) && decide ((dec3 u).length ≤ 3) && decide (1 ≤ (dec3 u).length)
theorem dec3_all : ((List.range 1000).all dec3Ok) = true := by kernel_rfl
theorem dec3_ok {u : Nat} (h : u ≤ 999) : canB (dec3 u) = true ∧ numV (dec3 u) = u ∧ (dec3 u).length ≤ 3 ∧ 1 ≤ (dec3 u).length := by
  have := List.all_eq_true.1 dec3_all u (by simp; omega)
  simp only [dec3Ok, Bool.and_eq_true, decide_eq_true_eq] at this
  exact ⟨this.1.1.1, this.1.1.2, this.1.2, this.2⟩
theorem can_digs {l : List UInt8} (h : canB l = true) : l.all digB = true := by simp only [canB, Bool.and_eq_true] at h; exact h.2
section
variable {s : List UInt8} {i : Nat} {r : List UInt8}
theorem numR_dr {n : Int} (h0 : -999 ≤ n) (h1 : n ≤ 999) (h : s.drop i = itoa3 n ++ r) (hr : ∀ c r', r = c :: r' → digB c = false) : numR s i = some (n, i + (itoa3 n).length) := by
  by_cases hneg : n < 0
  · have hi3 : itoa3 n = 45 :: dec3 n.natAbs := by unfold itoa3; rw [if_pos hneg]
    obtain ⟨d1, d2, d3, d4⟩ := dec3_ok (u := n.natAbs) (by omega)
    rw [hi3] at h ⊢
    have hs : sgn s i 45 = true := by rw [sgn_dr (c := 45) (r := dec3 n.natAbs ++ r) (by simpa using h)]; rfl
    have hd : s.drop (i + 1) = dec3 n.natAbs ++ r := by
      have := dr_add (w := [45]) (r := dec3 n.natAbs ++ r) (s := s) (i := i) (by simpa using h)
      simpa using this
    have hrun := run_dr digAt_def hd (can_digs d1) hr (n := 4) (by omega)
    have hcut := cut_dr hd
    unfold numR
    simp only [hs, if_true, hrun, hcut, d1, d2]
    have e1 : ¬ (n.natAbs = 0) := by omega
    have e2 : ¬ 999 < n.natAbs := by omega
    simp [e1, e2]
    omega
  · have hi3 : itoa3 n = dec3 n.toNat := by unfold itoa3; rw [if_neg hneg]
    obtain ⟨d1, d2, d3, d4⟩ := dec3_ok (u := n.toNat) (by omega)
    rw [hi3] at h ⊢
    have hs : sgn s i 45 = false := by
      cases hq : dec3 n.toNat with
      | nil => rw [hq] at d4; simp at d4
      | cons c y =>
        rw [hq] at h
        rw [sgn_dr (c := c) (r := y ++ r) (by simpa using h)]
        have := List.all_eq_true.1 (can_digs d1) c (by rw [hq]; simp)
        cases hc : (c == 45) with
        | false => rfl
        | true => simp at hc; subst hc; simp [digB] at this
    have hrun := run_dr digAt_def h (can_digs d1) hr (n := 4) (by omega)
    have hcut := cut_dr h
    unfold numR
    simp only [hs, Bool.false_eq_true, if_false, hrun, hcut, d1, d2]
    have e2 : ¬ 999 < n.toNat := by omega
    simp [e2]
    omega
end
/-! ### heads -/
end Go.Proofs.YtbblefjbgbocoaaGreatDoor

/-
  Variables and numbers of the reference.
  Conditions: none.
-/
open Go Go.AM Go.Proofs
namespace Go.Proofs.YtbblefjbgbocoaaGreatDoor
open Go.ChangeShapes Go.WideShapes Go.ChangeAt Go.RowKit
set_option linter.unusedVariables false
set_option linter.unusedSimpArgs false
set_option maxRecDepth 100000
-- 124 loop.example/prologserver/spec.l1Var params 1 ntmps 5
def ac124 : Cd := .seq (.region [⟨(some 2),.alloc [(.d (.int .i64 0)),(.d (.int .i64 0)),(.d (.str [])),(.full [])],none⟩] [])
 (.seq (.region [⟨(some 3),.mv (.t 0),none⟩,
 ⟨(some 4),.build [(.d (.int .i64 0)),(.d (.int .i64 0)),(.d (.str [])),(.full [])] [(0,1,(.k (.c (.d (.int .i64 1))))),(1,1,(.t 3))],none⟩,
 ⟨none,.store 4 (.t 2) (.t 4),none⟩] [0,3,4])
 (.ret))
theorem ac124_ok : cFunc Tryz.prog [] [(0,[],[]),(1,[0,3,4],[])] Tryz.f124 = some (ac124,[.cell 2 (some 4)],5) := by kernel_rfl
-- 125 loop.example/prologserver/spec.l1Int params 1 ntmps 5
def ac125 : Cd := .seq (.region [⟨(some 2),.alloc [(.d (.int .i64 0)),(.d (.int .i64 0)),(.d (.str [])),(.full [])],none⟩] [])
 (.seq (.region [⟨(some 3),.mv (.t 0),none⟩,
 ⟨(some 4),.build [(.d (.int .i64 0)),(.d (.int .i64 0)),(.d (.str [])),(.full [])] [(0,1,(.k (.c (.d (.int .i64 2))))),(1,1,(.t 3))],none⟩,
 ⟨none,.store 4 (.t 2) (.t 4),none⟩] [0,3,4])
 (.ret))
theorem ac125_ok : cFunc Tryz.prog [] [(0,[],[]),(1,[0,3,4],[])] Tryz.f125 = some (ac125,[.cell 2 (some 4)],5) := by kernel_rfl
theorem var_calls (n : Int) (H : Heap) : ACalls Tryz.prog 124 [.c (.d (.int .i64 n))] H (fun r H' => H' = H ∧ r = .agg ((Tm.mk 1 n [] []).row.map .d)) := by
  refine acalls Tryz.func124 (by kernel_rfl) ac124_ok fun hf => ?_
  simp -implicitDefEqProofs [ac124, row_mk, hf, go_sem, -List.set_cons_succ, -List.set_cons_zero]
theorem int_calls (n : Int) (H : Heap) : ACalls Tryz.prog 125 [.c (.d (.int .i64 n))] H (fun r H' => H' = H ∧ r = .agg ((Tm.mk 2 n [] []).row.map .d)) := by
  refine acalls Tryz.func125 (by kernel_rfl) ac125_ok fun hf => ?_
  simp -implicitDefEqProofs [ac125, row_mk, hf, go_sem, -List.set_cons_succ, -List.set_cons_zero]
end Go.Proofs.YtbblefjbgbocoaaGreatDoor

/-
  The codes of two readers of bytes.
  Conditions: none.
-/
open Go Go.AM Go.Proofs
namespace Go.Proofs.YtbblefjbgbocoaaGreatDoor
-- 200 loop.example/prologserver/spec.l1Digit params 2 ntmps 25
def ac200 : Cd := .seq (.region [⟨(some 4),.mv (.k (.c (.d (.bool false)))),none⟩] [4])
 (.seq (.region [⟨(some 5),.mv (.t 1),none⟩,
 ⟨(some 6),.bin .geq (.t 5) (.k (.c (.d (.int .i64 0)))),none⟩,
 ⟨(some 7),.mv (.t 6),none⟩,
 ⟨(some 8),.mv (.t 1),some (7,true)⟩,
 ⟨(some 9),.mv (.t 0),some (7,true)⟩,
 ⟨(some 10),.len 0 (.t 9),some (7,true)⟩,
 ⟨(some 11),.bin .lss (.t 8) (.t 10),some (7,true)⟩,
 ⟨(some 12),.pick (.t 7) (.t 11) (.k (.c (.d (.bool false)))),none⟩,
 ⟨(some 13),.mv (.t 12),none⟩,
 ⟨(some 14),.mv (.t 0),some (13,true)⟩,
 ⟨(some 15),.mv (.t 1),some (13,true)⟩,
 ⟨(some 16),.index (.t 14) (.t 15),some (13,true)⟩,
 ⟨(some 17),.bin .geq (.t 16) (.k (.c (.d (.int .u8 48)))),some (13,true)⟩,
 ⟨(some 18),.pick (.t 13) (.t 17) (.k (.c (.d (.bool false)))),none⟩,
 ⟨(some 19),.mv (.t 18),none⟩,
 ⟨(some 20),.mv (.t 0),some (19,true)⟩,
 ⟨(some 21),.mv (.t 1),some (19,true)⟩,
 ⟨(some 22),.index (.t 20) (.t 21),some (19,true)⟩,
 ⟨(some 23),.bin .leq (.t 22) (.k (.c (.d (.int .u8 57)))),some (19,true)⟩,
 ⟨(some 24),.pick (.t 19) (.t 23) (.k (.c (.d (.bool false)))),none⟩,
 ⟨(some 4),.mv (.t 24),none⟩] [0,1,5,6,7,8,9,10,11,12,13,14,15,16,17,18,19,20,21,22,23,24])
 (.ret))
theorem ac200_ok : cFunc Tryz.prog [] [(0,[4],[]),(1,[0,1,5,6,7,8,9,10,11,12,13,14,15,16,17,18,19,20,21,22,23,24],[])] Tryz.f200 = some (ac200,[.tmp 4],25) := by kernel_rfl
-- 231 loop.example/prologserver/spec.l1Small params 2 ntmps 25
def ac231 : Cd := .seq (.region [⟨(some 4),.mv (.k (.c (.d (.bool false)))),none⟩] [4])
 (.seq (.region [⟨(some 5),.mv (.t 1),none⟩,
 ⟨(some 6),.bin .geq (.t 5) (.k (.c (.d (.int .i64 0)))),none⟩,
 ⟨(some 7),.mv (.t 6),none⟩,
 ⟨(some 8),.mv (.t 1),some (7,true)⟩,
 ⟨(some 9),.mv (.t 0),some (7,true)⟩,
 ⟨(some 10),.len 0 (.t 9),some (7,true)⟩,
 ⟨(some 11),.bin .lss (.t 8) (.t 10),some (7,true)⟩,
 ⟨(some 12),.pick (.t 7) (.t 11) (.k (.c (.d (.bool false)))),none⟩,
 ⟨(some 13),.mv (.t 12),none⟩,
 ⟨(some 14),.mv (.t 0),some (13,true)⟩,
 ⟨(some 15),.mv (.t 1),some (13,true)⟩,
 ⟨(some 16),.index (.t 14) (.t 15),some (13,true)⟩,
 ⟨(some 17),.bin .geq (.t 16) (.k (.c (.d (.int .u8 97)))),some (13,true)⟩,
 ⟨(some 18),.pick (.t 13) (.t 17) (.k (.c (.d (.bool false)))),none⟩,
 ⟨(some 19),.mv (.t 18),none⟩,
 ⟨(some 20),.mv (.t 0),some (19,true)⟩,
 ⟨(some 21),.mv (.t 1),some (19,true)⟩,
 ⟨(some 22),.index (.t 20) (.t 21),some (19,true)⟩,
 ⟨(some 23),.bin .leq (.t 22) (.k (.c (.d (.int .u8 122)))),some (19,true)⟩,
 ⟨(some 24),.pick (.t 19) (.t 23) (.k (.c (.d (.bool false)))),none⟩,
 ⟨(some 4),.mv (.t 24),none⟩] [0,1,5,6,7,8,9,10,11,12,13,14,15,16,17,18,19,20,21,22,23,24])
 (.ret))
theorem ac231_ok : cFunc Tryz.prog [] [(0,[4],[]),(1,[0,1,5,6,7,8,9,10,11,12,13,14,15,16,17,18,19,20,21,22,23,24],[])] Tryz.f231 = some (ac231,[.tmp 4],25) := by kernel_rfl
end Go.Proofs.YtbblefjbgbocoaaGreatDoor

/-
  The reference's parser does what it is said to do.
  Conditions: none.
-/
open Go Go.AM Go.Proofs
namespace Go.Proofs.YtbblefjbgbocoaaGreatDoor
open Go.ChangeShapes Go.WideShapes Go.ChangeAt Go.RowKit
set_option linter.unusedVariables false
set_option linter.unusedSimpArgs false
set_option maxRecDepth 100000
-- 106 loop.example/prologserver/spec.l1Sign params 3 ntmps 22
def ac106 : Cd := .seq (.region [⟨(some 6),.mv (.k (.c (.d (.bool false)))),none⟩] [6])
 (.seq (.region [⟨(some 7),.mv (.t 1),none⟩,
 ⟨(some 8),.bin .geq (.t 7) (.k (.c (.d (.int .i64 0)))),none⟩,
 ⟨(some 9),.mv (.t 8),none⟩,
 ⟨(some 10),.mv (.t 1),some (9,true)⟩,
 ⟨(some 11),.mv (.t 0),some (9,true)⟩,
 ⟨(some 12),.len 0 (.t 11),some (9,true)⟩,
 ⟨(some 13),.bin .lss (.t 10) (.t 12),some (9,true)⟩,
 ⟨(some 14),.pick (.t 9) (.t 13) (.k (.c (.d (.bool false)))),none⟩,
 ⟨(some 15),.mv (.t 14),none⟩,
 ⟨(some 16),.mv (.t 0),some (15,true)⟩,
 ⟨(some 17),.mv (.t 1),some (15,true)⟩,
 ⟨(some 18),.index (.t 16) (.t 17),some (15,true)⟩,
 ⟨(some 19),.mv (.t 2),some (15,true)⟩,
 ⟨(some 20),.bin .eql (.t 18) (.t 19),some (15,true)⟩,
 ⟨(some 21),.pick (.t 15) (.t 20) (.k (.c (.d (.bool false)))),none⟩,
 ⟨(some 6),.mv (.t 21),none⟩] [0,1,2,7,8,9,10,11,12,13,14,15,16,17,18,19,20,21])
 (.ret))
theorem ac106_ok : cFunc Tryz.prog [] [(0,[6],[]),(1,[0,1,2,7,8,9,10,11,12,13,14,15,16,17,18,19,20,21],[])] Tryz.f106 = some (ac106,[.tmp 6],22) := by kernel_rfl
-- 107 loop.example/prologserver/spec.l18Num params 1 ntmps 67
-- loop head live: [0,4,5,6]
def ac107 : Cd := .seq (.region [⟨(some 2),.mv (.k (.c (.d (.int .i64 0)))),none⟩,
 ⟨(some 3),.mv (.k (.c (.d (.bool false)))),none⟩] [2,3])
 (.seq (.region [⟨(some 7),.mv (.t 0),none⟩,
 ⟨(some 8),.len 0 (.t 7),none⟩,
 ⟨(some 9),.bin .gtr (.t 8) (.k (.c (.d (.int .i64 0)))),none⟩,
 ⟨(some 10),.mv (.t 9),none⟩,
 ⟨(some 11),.mv (.t 0),some (10,true)⟩,
 ⟨(some 12),.index (.t 11) (.k (.c (.d (.int .i64 0)))),some (10,true)⟩,
 ⟨(some 13),.bin .eql (.t 12) (.k (.c (.d (.int .u8 45)))),some (10,true)⟩,
 ⟨(some 14),.pick (.t 10) (.t 13) (.k (.c (.d (.bool false)))),none⟩,
 ⟨(some 4),.mv (.t 14),none⟩] [7,8,9,10,11,12,13,14])
 (.seq (.seq (.region [⟨(some 15),.mv (.t 4),none⟩] [])
 (.cond (.t 15)
 (.region [⟨(some 16),.mv (.t 0),none⟩,
 ⟨(some 17),.slice 0 (.t 16) (some (.k (.c (.d (.int .i64 1))))) none none,none⟩,
 ⟨(some 0),.mv (.t 17),none⟩] [15,16,17])
 (.skip)))
 (.seq (.seq (.region [⟨(some 18),.mv (.t 0),none⟩,
 ⟨(some 19),.len 0 (.t 18),none⟩,
 ⟨(some 20),.bin .eql (.t 19) (.k (.c (.d (.int .i64 0)))),none⟩,
 ⟨(some 21),.mv (.t 20),none⟩,
 ⟨(some 22),.mv (.t 0),some (21,false)⟩,
 ⟨(some 23),.len 0 (.t 22),some (21,false)⟩,
 ⟨(some 24),.bin .gtr (.t 23) (.k (.c (.d (.int .i64 17)))),some (21,false)⟩,
 ⟨(some 25),.pick (.t 21) (.k (.c (.d (.bool true)))) (.t 24),none⟩,
 ⟨(some 26),.mv (.t 25),none⟩,
 ⟨(some 27),.mv (.t 0),some (26,false)⟩,
 ⟨(some 28),.index (.t 27) (.k (.c (.d (.int .i64 0)))),some (26,false)⟩,
 ⟨(some 29),.bin .eql (.t 28) (.k (.c (.d (.int .u8 48)))),some (26,false)⟩,
 ⟨(some 30),.mv (.t 29),some (26,false)⟩,
 ⟨(some 31),.mv (.t 0),some (30,true)⟩,
 ⟨(some 32),.len 0 (.t 31),some (30,true)⟩,
 ⟨(some 33),.bin .gtr (.t 32) (.k (.c (.d (.int .i64 1)))),some (30,true)⟩,
 ⟨(some 34),.mv (.t 33),some (30,true)⟩,
 ⟨(some 35),.mv (.t 4),some (34,false)⟩,
 ⟨(some 36),.pick (.t 34) (.k (.c (.d (.bool true)))) (.t 35),some (30,true)⟩,
 ⟨(some 37),.pick (.t 30) (.t 36) (.k (.c (.d (.bool false)))),some (26,false)⟩,
 ⟨(some 38),.pick (.t 26) (.k (.c (.d (.bool true)))) (.t 37),none⟩] [15,18,19,20,21,22,23,24,25,26,27,28,29,30,31,32,33,34,35,36,37])
 (.cond (.t 38)
 (.seq (.region [⟨(some 2),.mv (.k (.c (.d (.int .i64 0)))),none⟩,
 ⟨(some 3),.mv (.k (.c (.d (.bool false)))),none⟩] [0,4,38])
 (.ret))
 (.skip)))
 (.seq (.region [⟨(some 5),.mv (.k (.c (.d (.int .i64 0)))),none⟩] [2,3,38])
 (.seq (.seq (.region [⟨(some 6),.mv (.k (.c (.d (.int .i64 0)))),none⟩] [])
 (.block 0 (.loop (.seq (.seq (.region [⟨(some 39),.mv (.t 6),none⟩,
 ⟨(some 40),.mv (.t 0),none⟩,
 ⟨(some 41),.len 0 (.t 40),none⟩,
 ⟨(some 42),.bin .lss (.t 39) (.t 41),none⟩] [39,40,41])
 (.cond (.t 42)
 (.skip)
 (.exit 0)))
 (.seq (.block 1 (.seq (.seq (.region [⟨(some 45),.mv (.t 0),none⟩,
 ⟨(some 46),.mv (.t 6),none⟩,
 ⟨(some 47),.index (.t 45) (.t 46),none⟩,
 ⟨(some 48),.bin .lss (.t 47) (.k (.c (.d (.int .u8 48)))),none⟩,
 ⟨(some 49),.mv (.t 48),none⟩,
 ⟨(some 50),.mv (.t 0),some (49,false)⟩,
 ⟨(some 51),.mv (.t 6),some (49,false)⟩,
 ⟨(some 52),.index (.t 50) (.t 51),some (49,false)⟩,
 ⟨(some 53),.bin .gtr (.t 52) (.k (.c (.d (.int .u8 57)))),some (49,false)⟩,
 ⟨(some 54),.pick (.t 49) (.k (.c (.d (.bool true)))) (.t 53),none⟩] [42,45,46,47,48,49,50,51,52,53])
 (.cond (.t 54)
 (.seq (.region [⟨(some 2),.mv (.k (.c (.d (.int .i64 0)))),none⟩,
 ⟨(some 3),.mv (.k (.c (.d (.bool false)))),none⟩] [0,4,5,6,54])
 (.ret))
 (.skip)))
 (.region [⟨(some 55),.mv (.t 5),none⟩,
 ⟨(some 56),.bin .mul (.t 55) (.k (.c (.d (.int .i64 10)))),none⟩,
 ⟨(some 57),.mv (.t 0),none⟩,
 ⟨(some 58),.mv (.t 6),none⟩,
 ⟨(some 59),.index (.t 57) (.t 58),none⟩,
 ⟨(some 60),.bin .sub (.t 59) (.k (.c (.d (.int .u8 48)))),none⟩,
 ⟨(some 61),.cvInt .i64 (.t 60),none⟩,
 ⟨(some 62),.bin .add (.t 56) (.t 61),none⟩,
 ⟨(some 5),.mv (.t 62),none⟩] [2,3,54,55,56,57,58,59,60,61,62])))
 (.region [⟨(some 43),.mv (.t 6),none⟩,
 ⟨(some 44),.bin .add (.t 43) (.k (.c (.d (.int .i64 1)))),none⟩,
 ⟨(some 6),.mv (.t 44),none⟩] [43,44]))))))
 (.seq (.seq (.region [⟨(some 63),.mv (.t 4),none⟩] [4])
 (.cond (.t 63)
 (.region [⟨(some 64),.mv (.t 5),none⟩,
 ⟨(some 65),.un .neg (.t 64),none⟩,
 ⟨(some 5),.mv (.t 65),none⟩] [63,64,65])
 (.skip)))
 (.seq (.region [⟨(some 66),.mv (.t 5),none⟩,
 ⟨(some 2),.mv (.t 66),none⟩,
 ⟨(some 3),.mv (.k (.c (.d (.bool true)))),none⟩] [5,63,66])
 (.ret))))))))
theorem ac107_ok : cFunc Tryz.prog [] [(0,[2,3],[]),(1,[7,8,9,10,11,12,13,14],[]),(2,[],[]),(3,[15,16,17],[]),(4,[15,18,19,20,21,22,23,24,25,26,27,28,29,30,31,32,33,34,35,36,37],[]),(5,[0,4,38],[]),(6,[2,3,38],[]),(7,[],[]),(8,[39,40,41],[]),(10,[42,45,46,47,48,49,50,51,52,53],[]),(11,[0,4,5,6,54],[]),(12,[2,3,54,55,56,57,58,59,60,61,62],[]),(9,[43,44],[]),(13,[4],[]),(14,[63,64,65],[]),(15,[5,63,66],[])] Tryz.f107 = some (ac107,[.tmp 2,.tmp 3],67) := by kernel_rfl
set_option maxHeartbeats 3200000 in
theorem sign_callsL (s : List UInt8) (hs : s.length ≤ 2000000) (i : Nat) (hi : i ≤ 2000000) (c : UInt8) (H : Heap) : ACalls Tryz.prog 106 [.c (.d (.str s)), .c (.d (.int .i64 i)), .c (.d (.int .u8 c.toNat))] H (fun r H' => H' = H ∧ r = .c (.d (.bool (sgn s i c)))) := by
  refine acalls Tryz.func106 (by kernel_rfl) ac106_ok fun hf => ?_
  have hli : inR .i64 (s.length : Int) := small_i64 (by omega) (by omega)
  by_cases hlt : i < s.length
  · have hsg : sgn s i c = (s[i] == c) := by simp [sgn, hlt]
    rw [hsg]
    have hlt2 : (i : Int) < s.length := by omega
    simp -implicitDefEqProofs [ac106, hli, hlt, go_sem, -List.set_cons_succ, -List.set_cons_zero]
    refine byte_nat hlt ?_
    simp -implicitDefEqProofs [go_sem, -List.set_cons_succ, -List.set_cons_zero]
    rw [Bool.eq_iff_iff]
    simp
    exact ⟨fun h => UInt8.toNat_inj.1 (by omega), fun h => by rw [h]⟩
  · have hsg : sgn s i c = false := by simp [sgn, hlt]
    have hlt2 : ¬ (i : Int) < s.length := by omega
    rw [hsg]
    simp -implicitDefEqProofs [ac106, hli, hlt, go_sem, -List.set_cons_succ, -List.set_cons_zero]
    refine byte_off 0 ?_
    simp -implicitDefEqProofs [go_sem, -List.set_cons_succ, -List.set_cons_zero]
set_option maxHeartbeats 3200000 in
theorem sign_calls (s : List UInt8) (hs : s.length ≤ 1000000) (i : Nat) (hi : i ≤ 2000000) (c : UInt8) (H : Heap) : ACalls Tryz.prog 106 [.c (.d (.str s)), .c (.d (.int .i64 i)), .c (.d (.int .u8 c.toNat))] H (fun r H' => H' = H ∧ r = .c (.d (.bool (sgn s i c)))) := sign_callsL s (by omega) i hi c H
set_option maxHeartbeats 3200000 in
theorem digit_calls (s : List UInt8) (hs : s.length ≤ 1000000) (i : Nat) (hi : i ≤ 2000000) (H : Heap) : ACalls Tryz.prog 200 [.c (.d (.str s)), .c (.d (.int .i64 i))] H (fun r H' => H' = H ∧ r = .c (.d (.bool (digAt s i)))) := by
  refine acalls Tryz.func200 (by kernel_rfl) ac200_ok fun hf => ?_
  have hli : inR .i64 (s.length : Int) := small_i64 (by omega) (by omega)
  by_cases hlt : i < s.length
  · have hsg : digAt s i = digB s[i] := by simp [digAt, hlt]
    rw [hsg]
    simp -implicitDefEqProofs [ac200, hli, hlt, go_sem, -List.set_cons_succ, -List.set_cons_zero]
    refine byte_nat hlt ?_
    by_cases h1 : (48 : Int) ≤ s[i].toNat
    · have h1' : 48 ≤ s[i].toNat := by omega
      simp -implicitDefEqProofs [h1, go_sem, -List.set_cons_succ, -List.set_cons_zero]
      refine byte_nat hlt ?_
      simp -implicitDefEqProofs [digB, h1', go_sem, -List.set_cons_succ, -List.set_cons_zero]
      omega
    · have h1' : ¬ 48 ≤ s[i].toNat := by omega
      simp -implicitDefEqProofs [h1, go_sem, -List.set_cons_succ, -List.set_cons_zero]
      refine byte_off 0 ?_
      simp -implicitDefEqProofs [digB, h1', go_sem, -List.set_cons_succ, -List.set_cons_zero]
  · have hsg : digAt s i = false := by simp [digAt, hlt]
    rw [hsg]
    simp -implicitDefEqProofs [ac200, hli, hlt, go_sem, -List.set_cons_succ, -List.set_cons_zero]
    refine byte_off 0 ?_
    simp -implicitDefEqProofs [go_sem, -List.set_cons_succ, -List.set_cons_zero]
    refine byte_off 0 ?_
    simp -implicitDefEqProofs [go_sem, -List.set_cons_succ, -List.set_cons_zero]
set_option maxHeartbeats 3200000 in
theorem small_calls (s : List UInt8) (hs : s.length ≤ 1000000) (i : Nat) (hi : i ≤ 2000000) (H : Heap) : ACalls Tryz.prog 231 [.c (.d (.str s)), .c (.d (.int .i64 i))] H (fun r H' => H' = H ∧ r = .c (.d (.bool (smaAt s i)))) := by
  refine acalls Tryz.func231 (by kernel_rfl) ac231_ok fun hf => ?_
  have hli : inR .i64 (s.length : Int) := small_i64 (by omega) (by omega)
  by_cases hlt : i < s.length
  · have hsg : smaAt s i = smaB s[i] := by simp [smaAt, hlt]
    rw [hsg]
    simp -implicitDefEqProofs [ac231, hli, hlt, go_sem, -List.set_cons_succ, -List.set_cons_zero]
    refine byte_nat hlt ?_
    by_cases h1 : (97 : Int) ≤ s[i].toNat
    · have h1' : 97 ≤ s[i].toNat := by omega
      simp -implicitDefEqProofs [h1, go_sem, -List.set_cons_succ, -List.set_cons_zero]
      refine byte_nat hlt ?_
      simp -implicitDefEqProofs [smaB, h1', go_sem, -List.set_cons_succ, -List.set_cons_zero]
      omega
    · have h1' : ¬ 97 ≤ s[i].toNat := by omega
      simp -implicitDefEqProofs [h1, go_sem, -List.set_cons_succ, -List.set_cons_zero]
      refine byte_off 0 ?_
      simp -implicitDefEqProofs [smaB, h1', go_sem, -List.set_cons_succ, -List.set_cons_zero]
  · have hsg : smaAt s i = false := by simp [smaAt, hlt]
    rw [hsg]
    simp -implicitDefEqProofs [ac231, hli, hlt, go_sem, -List.set_cons_succ, -List.set_cons_zero]
    refine byte_off 0 ?_
    simp -implicitDefEqProofs [go_sem, -List.set_cons_succ, -List.set_cons_zero]
    refine byte_off 0 ?_
    simp -implicitDefEqProofs [go_sem, -List.set_cons_succ, -List.set_cons_zero]
theorem numV_snoc (l : List UInt8) (b : UInt8) : numV (l ++ [b]) = numV l * 10 + (b.toNat - 48) := by simp [numV]
theorem numV_lt : ∀ (n : Nat) (l : List UInt8), l.length = n → l.all digB = true → numV l < 10 ^ n := by
  intro n
  induction n with
  | zero => intro l hl _; obtain rfl := List.eq_nil_of_length_eq_zero hl; simp [numV]
  | succ n ih =>
    intro l hl hd
    have hne : l ≠ [] := by intro h; subst h; simp at hl
    obtain ⟨m, b, rfl⟩ : ∃ m b, l = m ++ [b] := ⟨l.dropLast, l.getLast hne, (List.dropLast_concat_getLast hne).symm⟩
    simp at hl
    rw [List.all_append, Bool.and_eq_true] at hd
    have h1 := ih m hl hd.1
    have h2 := hd.2
    simp [digB] at h2
    rw [numV_snoc, Nat.pow_succ]
    omega
set_option maxHeartbeats 1600000 in
theorem num_calls (t : List UInt8) (hl : t.length ≤ 17) (hd : t.all digB = true) (H : Heap) : ACalls Tryz.prog 107 [.c (.d (.str t))] H
    (fun r H' => H' = H ∧ r = .tup [.c (.d (.int .i64 (if canB t then (numV t : Int) else 0))), .c (.d (.bool (canB t)))]) := by
  refine acalls Tryz.func107 (by kernel_rfl) ac107_ok fun hf => ?_
  have hli : inR .i64 (t.length : Int) := small_i64 (by omega) (by omega)
  cases t with
  | nil =>
    have h0 : inR .i64 (0 : Int) := small_i64 (by omega) (by omega)
    simp -implicitDefEqProofs [ac107, h0, go_sem, -List.set_cons_succ, -List.set_cons_zero]
    refine byte_off 0 ?_
    simp -implicitDefEqProofs [canB, h0, go_sem, -List.set_cons_succ, -List.set_cons_zero]
    refine byte_off 0 ?_
    simp -implicitDefEqProofs [canB, h0, go_sem, -List.set_cons_succ, -List.set_cons_zero]
  | cons b l =>
    have hb : digB b = true := by simp at hd; exact hd.1
    have hb2 : 48 ≤ b.toNat ∧ b.toNat ≤ 57 := by simpa [digB] using hb
    have hb45 : ((b.toNat : Int) == 45) = false := by simp; omega
    have hz : ((l.length : Int) + 1 == 0) = false := by simp; omega
    have h17 : ¬ (17 : Int) < (l.length : Int) + 1 := by simp at hl; omega
    simp only [List.length_cons, Int.natCast_add, Int.cast_ofNat_Int] at hli
    have hpos : (0 : Int) < (l.length : Int) + 1 := by omega
    obtain ⟨t, ht⟩ : ∃ t, t = b :: l := ⟨_, rfl⟩
    simp -implicitDefEqProofs [ac107, hli, hpos, go_sem, -List.set_cons_succ, -List.set_cons_zero]
    refine byte_int b (by omega) (by simp) ?_
    simp -implicitDefEqProofs [hb45, hz, h17, hli, go_sem, -List.set_cons_succ, -List.set_cons_zero]
    refine byte_int b (by omega) (by simp) ?_
    simp -implicitDefEqProofs [hb45, hz, h17, hli, go_sem, -List.set_cons_succ, -List.set_cons_zero]
    refine ⟨fun h1 h2 => ?_, fun h1 => ?_⟩
    · have hb48 : b = 48 := UInt8.toNat_inj.1 (by have : (48 : UInt8).toNat = 48 := rfl; omega)
      have hl0 : l ≠ [] := by intro h; subst h; simp at h2
      have : canB (b :: l) = false := by simp [canB, hb48, hl0]
      simp [this]
    · have hcan : canB (b :: l) = true := by
        have e1 : (b != 48) = true ∨ l = [] := by
          by_cases hb48 : b = 48
          · subst hb48
            have := h1 rfl
            right
            exact List.eq_nil_of_length_eq_zero (by omega)
          · left; simp [hb48]
        simp only [canB, Bool.and_eq_true, Bool.or_eq_true, decide_eq_true_eq, List.headD_cons]
        refine ⟨⟨⟨by simp, hl⟩, ?_⟩, hd⟩
        rcases e1 with e1 | e1
        · exact .inl e1
        · exact .inr (by simp [e1])
      rw [hcan]
      simp only [if_true]
      rw [← ht] at hl hd ⊢
      have htl : inR .i64 (t.length : Int) := small_i64 (by omega) (by omega)
      refine loop_set (σ := Nat) (fun i => [(6, .c (.d (.int .i64 i))), (5, .c (.d (.int .i64 (numV (t.take i)))))]) (fun _ => H) (fun _ => []) (fun i => i ≤ t.length) (fun i => t.length - i) 0 (by simp [setAll, numV]) (Nat.zero_le _) ?_
      intro i hi
      simp -implicitDefEqProofs [setAll, htl, go_sem, -List.set_cons_succ, -List.set_cons_zero]
      refine ⟨fun hlt => ?_, fun hge => ?_⟩
      · have hadd : inR .i64 ((i : Int) + 1) := small_i64 (by omega) (by omega)
        have hdi : digB t[i] = true := List.all_eq_true.1 hd _ (List.getElem_mem hlt)
        have hd2 : 48 ≤ t[i].toNat ∧ t[i].toNat ≤ 57 := by simpa [digB] using hdi
        have q1 : ¬ (t[i].toNat : Int) < 48 := by omega
        have q2 : ¬ (57 : Int) < t[i].toNat := by omega
        have hts : t.take (i + 1) = t.take i ++ [t[i]] := List.take_succ_eq_append_getElem hlt
        have hnv := numV_lt i (t.take i) (by simp; omega) (by
          rw [List.all_eq_true]
          intro x hx
          exact List.all_eq_true.1 hd _ (List.mem_of_mem_take hx))
        have hp : 10 ^ i ≤ 10 ^ 17 := Nat.pow_le_pow_right (by omega) (by omega)
        have hw : IntKind.i64.wrap ((t[i].toNat : Int) - 48) = (t[i].toNat : Int) - 48 := by rw [IntKind.wrap_i64]; omega
        have hr1 : inR .i64 ((numV (t.take i) : Int) * 10) := i64_def.2 (by omega)
        have hr2 : inR .i64 ((numV (t.take i) : Int) * 10 + ((t[i].toNat : Int) - 48)) := i64_def.2 (by omega)
        have hr3 : inR .u8 ((t[i].toNat : Int) - 48) := by simp [inR, IntKind.min, IntKind.max, IntKind.signed, IntKind.bits]; omega
        refine byte_nat hlt ?_
        simp -implicitDefEqProofs [q1, go_sem, -List.set_cons_succ, -List.set_cons_zero]
        refine byte_nat hlt ?_
        simp -implicitDefEqProofs [q1, q2, hr1, go_sem, -List.set_cons_succ, -List.set_cons_zero]
        refine byte_nat hlt ?_
        simp -implicitDefEqProofs [q1, q2, hr1, hr2, hr3, hw, hadd, go_sem, -List.set_cons_succ, -List.set_cons_zero]
        refine loop_back (i + 1) (by rw [hts, numV_snoc]; simp [setAll]; omega) hlt (by show t.length - (i + 1) < t.length - i; omega)
      · obtain rfl : i = t.length := by omega
        simp -implicitDefEqProofs [go_sem, -List.set_cons_succ, -List.set_cons_zero]
-- 201 loop.example/prologserver/spec.l1Number params 2 ntmps 60
-- loop head live: [0,1,4,6,7]
def ac201 : Cd := .seq (.region [⟨(some 4),.alloc [(.d (.int .i64 0)),(.d (.int .i64 0)),(.d (.str [])),(.full [])],none⟩,
 ⟨(some 5),.mv (.k (.c (.d (.int .i64 0)))),none⟩] [5])
 (.seq (.region [⟨(some 10),.mv (.t 1),none⟩,
 ⟨(some 6),.mv (.t 10),none⟩] [10])
 (.seq (.seq (.region [⟨(some 11),.mv (.t 0),none⟩,
 ⟨(some 12),.mv (.t 6),none⟩,
 ⟨(some 13),.qcall 106 [(.t 11),(.t 12),(.k (.c (.d (.int .u8 45))))],none⟩] [11,12])
 (.cond (.t 13)
 (.region [⟨(some 14),.mv (.t 6),none⟩,
 ⟨(some 15),.bin .add (.t 14) (.k (.c (.d (.int .i64 1)))),none⟩,
 ⟨(some 6),.mv (.t 15),none⟩] [13,14,15])
 (.skip)))
 (.seq (.region [⟨(some 16),.mv (.t 6),none⟩,
 ⟨(some 7),.mv (.t 16),none⟩] [13,16])
 (.seq (.block 0 (.loop (.seq (.seq (.region [⟨(some 17),.mv (.t 0),none⟩,
 ⟨(some 18),.mv (.t 6),none⟩,
 ⟨(some 19),.qcall 200 [(.t 17),(.t 18)],none⟩,
 ⟨(some 20),.mv (.t 19),none⟩,
 ⟨(some 21),.mv (.t 6),some (20,true)⟩,
 ⟨(some 22),.mv (.t 7),some (20,true)⟩,
 ⟨(some 23),.bin .add (.t 22) (.k (.c (.d (.int .i64 4)))),some (20,true)⟩,
 ⟨(some 24),.bin .lss (.t 21) (.t 23),some (20,true)⟩,
 ⟨(some 25),.pick (.t 20) (.t 24) (.k (.c (.d (.bool false)))),none⟩] [17,18,19,20,21,22,23,24])
 (.cond (.t 25)
 (.skip)
 (.exit 0)))
 (.block 1 (.region [⟨(some 26),.mv (.t 6),none⟩,
 ⟨(some 27),.bin .add (.t 26) (.k (.c (.d (.int .i64 1)))),none⟩,
 ⟨(some 6),.mv (.t 27),none⟩] [25,26,27])))))
 (.seq (.region [⟨(some 29),.mv (.t 0),none⟩,
 ⟨(some 30),.mv (.t 7),none⟩,
 ⟨(some 31),.mv (.t 6),none⟩,
 ⟨(some 32),.slice 0 (.t 29) (some (.t 30)) (some (.t 31)) none,none⟩,
 ⟨(some 33),.qcall 107 [(.t 32)],none⟩,
 ⟨(some 28),.mv (.t 33),none⟩,
 ⟨(some 34),.extract 0 (.t 28),none⟩,
 ⟨(some 35),.extract 1 (.t 28),none⟩,
 ⟨(some 8),.mv (.t 34),none⟩,
 ⟨(some 9),.mv (.t 35),none⟩] [0,28,29,30,31,32,33,34,35])
 (.seq (.seq (.region [⟨(some 36),.mv (.t 9),none⟩,
 ⟨(some 37),.un .not (.t 36),none⟩,
 ⟨(some 38),.mv (.t 37),none⟩,
 ⟨(some 39),.mv (.t 7),some (38,false)⟩,
 ⟨(some 40),.mv (.t 1),some (38,false)⟩,
 ⟨(some 41),.bin .gtr (.t 39) (.t 40),some (38,false)⟩,
 ⟨(some 42),.mv (.t 41),some (38,false)⟩,
 ⟨(some 43),.mv (.t 8),some (42,true)⟩,
 ⟨(some 44),.bin .eql (.t 43) (.k (.c (.d (.int .i64 0)))),some (42,true)⟩,
 ⟨(some 45),.pick (.t 42) (.t 44) (.k (.c (.d (.bool false)))),some (38,false)⟩,
 ⟨(some 46),.pick (.t 38) (.k (.c (.d (.bool true)))) (.t 45),none⟩,
 ⟨(some 47),.mv (.t 46),none⟩,
 ⟨(some 48),.mv (.t 8),some (47,false)⟩,
 ⟨(some 49),.bin .gtr (.t 48) (.k (.c (.d (.int .i64 999)))),some (47,false)⟩,
 ⟨(some 50),.pick (.t 47) (.k (.c (.d (.bool true)))) (.t 49),none⟩] [9,36,37,38,39,40,41,42,43,44,45,46,47,48,49])
 (.cond (.t 50)
 (.seq (.region [⟨(some 51),.build [(.d (.int .i64 0)),(.d (.int .i64 0)),(.d (.str [])),(.full [])] [],none⟩,
 ⟨none,.store 4 (.t 4) (.t 51),none⟩,
 ⟨(some 5),.mv (.k (.c (.d (.int .i64 (-1))))),none⟩] [1,6,7,8,50,51])
 (.ret))
 (.skip)))
 (.seq (.seq (.region [⟨(some 52),.mv (.t 7),none⟩,
 ⟨(some 53),.mv (.t 1),none⟩,
 ⟨(some 54),.bin .gtr (.t 52) (.t 53),none⟩] [1,5,7,50,52,53])
 (.cond (.t 54)
 (.region [⟨(some 55),.mv (.t 8),none⟩,
 ⟨(some 56),.un .neg (.t 55),none⟩,
 ⟨(some 8),.mv (.t 56),none⟩] [54,55,56])
 (.skip)))
 (.seq (.region [⟨(some 57),.mv (.t 8),none⟩,
 ⟨(some 58),.qcall 125 [(.t 57)],none⟩,
 ⟨(some 59),.mv (.t 6),none⟩,
 ⟨none,.store 4 (.t 4) (.t 58),none⟩,
 ⟨(some 5),.mv (.t 59),none⟩] [6,8,54,57,58,59])
 (.ret)))))))))
theorem ac201_ok : cFunc Tryz.prog [1000106,1000107,1000125,1000200] [(0,[5],[]),(1,[10],[]),(2,[11,12],[]),(3,[13,14,15],[]),(4,[13,16],[]),(5,[17,18,19,20,21,22,23,24],[]),(6,[25,26,27],[]),(7,[0,28,29,30,31,32,33,34,35],[]),(8,[9,36,37,38,39,40,41,42,43,44,45,46,47,48,49],[]),(9,[1,6,7,8,50,51],[]),(10,[1,5,7,50,52,53],[]),(11,[54,55,56],[]),(12,[6,8,54,57,58,59],[])] Tryz.f201 = some (ac201,[.cell 4 (some 4),.tmp 5],60) := by kernel_rfl
theorem cutS_succ {s : List UInt8} {i j : Nat} (hij : i ≤ j) (hj : j < s.length) : cutS s i (j + 1) = cutS s i j ++ [s[j]] := by
  unfold cutS
  rw [List.take_succ_eq_append_getElem hj, List.drop_append_of_le_length (by simp; omega)]
theorem cutS_same (s : List UInt8) (i : Nat) : cutS s i i = [] := by
  unfold cutS
  exact List.drop_of_length_le (by simp; omega)
/-- a run that stops -/
theorem runE_stop {p : List UInt8 → Nat → Bool} {s : List UInt8} : ∀ (n i m : Nat), m ≤ n → (∀ k, k < m → p s (i + k) = true) → (m = n ∨ p s (i + m) = false) → runE p s n i = i + m
  | 0, i, m, hm, _, _ => by
    have : m = 0 := by omega
    subst this; rfl
  | n + 1, i, 0, hm, _, h => by
    rcases h with h | h
    · omega
    · unfold runE; rw [if_neg (by simpa using h)]; rfl
  | n + 1, i, m + 1, hm, h1, h => by
    have h0 : p s i = true := h1 0 (by omega)
    unfold runE
    rw [if_pos h0, runE_stop n (i + 1) m (by omega) (fun k hk => by have := h1 (k + 1) (by omega); rwa [show i + 1 + k = i + (k + 1) by omega]) (by
      rcases h with h | h
      · left; omega
      · right; rwa [show i + 1 + m = i + (m + 1) by omega])]
    omega
theorem cut_digs {s : List UInt8} (p : Nat) : ∀ k : Nat, p + k ≤ s.length → (∀ m, m < k → digAt s (p + m) = true) → (cutS s p (p + k)).all digB = true
  | 0, _, _ => by rw [Nat.add_zero, cutS_same]; rfl
  | k + 1, h, hd => by
    rw [show p + (k + 1) = p + k + 1 by omega, cutS_succ (by omega) (by omega), List.all_append, cut_digs p k (by omega) fun m hm => hd m (by omega)]
    have h1 := hd k (by omega)
    have hlt : p + k < s.length := by omega
    simp [digAt, hlt] at h1
    simp [h1]
def numA : Option (Int × Nat) → A
  | some (n, j) => .tup [.agg ((Tm.mk 2 n [] []).row.map .d), .c (.d (.int .i64 j))]
  | none => .tup [.agg ((Tm.mk 0 0 [] []).row.map .d), .c (.d (.int .i64 (-1)))]
set_option maxHeartbeats 1600000 in
theorem number_calls (s : List UInt8) (hs : s.length ≤ 1000000) (i : Nat) (hi : i ≤ s.length) (H : Heap) : ACalls Tryz.prog 201 [.c (.d (.str s)), .c (.d (.int .i64 i))] H (fun r H' => H' = H ∧ r = numA (numR s i)) := by
  refine acalls Tryz.func201 (by kernel_rfl) ac201_ok fun hf => ?_
  have hi1 : inR .i64 ((i : Int) + 1) := small_i64 (by omega) (by omega)
  simp -implicitDefEqProofs [ac201, go_sem, -List.set_cons_succ, -List.set_cons_zero]
  refine qcall_pure (sign_calls s hs i (by omega) 45) hf rfl ?_
  cases hsg : sgn s i 45 with
  | true =>
    have hlt := sgn_lt hsg
    simp -implicitDefEqProofs [hi1, go_sem, -List.set_cons_succ, -List.set_cons_zero]
    refine loop_set (σ := Nat) (fun k => [(6, .c (.d (.int .i64 ((i + 1 + k : Nat) : Int))))]) (fun _ => H) (fun _ => [.cells [.d (.int .i64 0), .d (.int .i64 0), .d (.str []), .full []]]) (fun k => k ≤ 4 ∧ i + 1 + k ≤ s.length ∧ ∀ m, m < k → digAt s (i + 1 + m) = true) (fun k => 4 - k) 0 (by simp [setAll]) ⟨by omega, by omega, by simp⟩ ?_
    rintro k ⟨hk4, hkl, hkd⟩
    have hpk4 : inR .i64 (((i + 1 : Nat) : Int) + 4) := small_i64 (by omega) (by omega)
    have hpk4' : inR .i64 ((i : Int) + 1 + 4) := small_i64 (by omega) (by omega)
    have hpk : inR .i64 (((i + 1 : Nat) : Int) + (k : Int) + 1) := small_i64 (by omega) (by omega)
    have hpk' : inR .i64 ((i : Int) + 1 + (k : Int) + 1) := small_i64 (by omega) (by omega)
    simp -implicitDefEqProofs [setAll, go_sem, -List.set_cons_succ, -List.set_cons_zero]
    have cd := digit_calls s hs (i + 1 + k) (by omega)
    simp only [Int.natCast_add, Int.cast_ofNat_Int] at cd
    refine qcall_pure cd hf rfl ?_
    have stop : (k = 4 ∨ digAt s (i + 1 + k) = false) → runE digAt s 4 (i + 1) = i + 1 + k := fun h => runE_stop 4 (i + 1) k hk4 hkd h
    have fin : runE digAt s 4 (i + 1) = i + 1 + k → True := fun _ => trivial
    cases hdg : digAt s (i + 1 + k) with
    | true =>
      by_cases hk3 : k < 4
      · have c1 : (i : Int) + 1 + (k : Int) < (i : Int) + 1 + 4 := by omega
        simp -implicitDefEqProofs [hpk4, hpk4', c1, hpk, hpk', hk3, go_sem, -List.set_cons_succ, -List.set_cons_zero]
        have hlt := dig_lt _ hdg
        exact loop_back (k + 1) (by simp [setAll, Int.add_assoc]) ⟨by omega, by omega, fun m hm => by
          rcases Nat.lt_or_ge m k with h | h
          · exact hkd m h
          · obtain rfl : m = k := by omega
            exact hdg⟩ (by show 4 - (k + 1) < 4 - k; omega)
      · obtain rfl : k = 4 := by omega
        have he := stop (.inl rfl)
        simp -implicitDefEqProofs [hpk4, hpk4', go_sem, -List.set_cons_succ, -List.set_cons_zero]
        obtain ⟨T, hT⟩ : ∃ T, T = cutS s (i + 1) (i + 1 + 4) := ⟨_, rfl⟩
        have hTd : T.all digB = true := by rw [hT]; exact cut_digs (i + 1) 4 hkl hkd
        have hTl : T.length ≤ 17 := by rw [hT, cutS_len]; omega
        have hnat : ((i : Int) + 1 + 4).toNat = i + 1 + 4 := by omega
        have hnm := num_calls T hTl hTd
        have hVl := numV_lt T.length T rfl hTd
        have hTk : T.length ≤ 4 := by rw [hT, cutS_len]; omega
        have hp4 : 10 ^ T.length ≤ 10 ^ 4 := Nat.pow_le_pow_right (by omega) hTk
        have hR : numR s i = if canB T then if (true && decide (numV T = 0)) || decide (999 < numV T) then none else some (-(numV T : Int), i + 1 + 4) else none := by
          unfold numR
          simp only [hsg, if_true, if_false, Bool.false_eq_true, he, ← hT]
        rw [hR, hnat]
        have hT' : (s.take (i + 1 + 4)).drop (i + 1) = T := hT.symm
        rw [hT']
        refine ⟨by omega, qcall_pure hnm hf rfl ?_⟩
        have hii : (i : Int) < (i : Int) + 1 := by omega
        have hij : ¬ (i : Int) + 1 ≤ (i : Int) := by omega
        have i1 : inR .i64 (0 - (numV T : Int)) := small_i64 (by omega) (by omega)
        have i2 : inR .i64 (-(numV T : Int)) := small_i64 (by omega) (by omega)
        cases hc : canB T with
        | false => simp -implicitDefEqProofs [numA, row_mk, hf, hii, hij, go_sem, -List.set_cons_succ, -List.set_cons_zero]
        | true =>
          by_cases h0 : numV T = 0
          · simp -implicitDefEqProofs [h0, numA, row_mk, hf, hii, hij, go_sem, -List.set_cons_succ, -List.set_cons_zero]
          · by_cases h9 : 999 < numV T
            · have h9' : (999 : Int) < numV T := by omega
              have h0' : ((numV T : Int) == 0) = false := by simp; omega
              simp -implicitDefEqProofs [h0, h0', h9, h9', numA, row_mk, hf, hii, hij, go_sem, -List.set_cons_succ, -List.set_cons_zero]
            · have h9' : ¬ (999 : Int) < numV T := by omega
              have h0' : ((numV T : Int) == 0) = false := by simp; omega
              simp -implicitDefEqProofs [h0, h0', h9, h9', i1, i2, hf, hii, hij, go_sem, -List.set_cons_succ, -List.set_cons_zero]
              refine qcall_pure (int_calls (-(numV T : Int))) hf (by simp [A.re, re_d]) ?_
              simp -implicitDefEqProofs [numA, row_mk, hf, hii, hij, go_sem, -List.set_cons_succ, -List.set_cons_zero]
    | false =>
      have he := stop (.inr hdg)
      simp -implicitDefEqProofs [go_sem, -List.set_cons_succ, -List.set_cons_zero]
      obtain ⟨T, hT⟩ : ∃ T, T = cutS s (i + 1) (i + 1 + k) := ⟨_, rfl⟩
      have hTd : T.all digB = true := by rw [hT]; exact cut_digs (i + 1) k hkl hkd
      have hTl : T.length ≤ 17 := by rw [hT, cutS_len]; omega
      have hnat : ((i : Int) + 1 + (k : Int)).toNat = i + 1 + k := by omega
      have hnm := num_calls T hTl hTd
      have hVl := numV_lt T.length T rfl hTd
      have hTk : T.length ≤ 4 := by rw [hT, cutS_len]; omega
      have hp4 : 10 ^ T.length ≤ 10 ^ 4 := Nat.pow_le_pow_right (by omega) hTk
      have hR : numR s i = if canB T then if (true && decide (numV T = 0)) || decide (999 < numV T) then none else some (-(numV T : Int), i + 1 + k) else none := by
        unfold numR
        simp only [hsg, if_true, if_false, Bool.false_eq_true, he, ← hT]
      rw [hR, hnat]
      have hT' : (s.take (i + 1 + k)).drop (i + 1) = T := hT.symm
      rw [hT']
      refine ⟨by omega, qcall_pure hnm hf rfl ?_⟩
      have hii : (i : Int) < (i : Int) + 1 := by omega
      have hij : ¬ (i : Int) + 1 ≤ (i : Int) := by omega
      have i1 : inR .i64 (0 - (numV T : Int)) := small_i64 (by omega) (by omega)
      have i2 : inR .i64 (-(numV T : Int)) := small_i64 (by omega) (by omega)
      cases hc : canB T with
      | false => simp -implicitDefEqProofs [numA, row_mk, hf, hii, hij, go_sem, -List.set_cons_succ, -List.set_cons_zero]
      | true =>
        by_cases h0 : numV T = 0
        · simp -implicitDefEqProofs [h0, numA, row_mk, hf, hii, hij, go_sem, -List.set_cons_succ, -List.set_cons_zero]
        · by_cases h9 : 999 < numV T
          · have h9' : (999 : Int) < numV T := by omega
            have h0' : ((numV T : Int) == 0) = false := by simp; omega
            simp -implicitDefEqProofs [h0, h0', h9, h9', numA, row_mk, hf, hii, hij, go_sem, -List.set_cons_succ, -List.set_cons_zero]
          · have h9' : ¬ (999 : Int) < numV T := by omega
            have h0' : ((numV T : Int) == 0) = false := by simp; omega
            simp -implicitDefEqProofs [h0, h0', h9, h9', i1, i2, hf, hii, hij, go_sem, -List.set_cons_succ, -List.set_cons_zero]
            refine qcall_pure (int_calls (-(numV T : Int))) hf (by simp [A.re, re_d]) ?_
            simp -implicitDefEqProofs [numA, row_mk, hf, hii, hij, go_sem, -List.set_cons_succ, -List.set_cons_zero]
  | false =>
    simp -implicitDefEqProofs [hi1, go_sem, -List.set_cons_succ, -List.set_cons_zero]
    refine loop_set (σ := Nat) (fun k => [(6, .c (.d (.int .i64 ((i + k : Nat) : Int))))]) (fun _ => H) (fun _ => [.cells [.d (.int .i64 0), .d (.int .i64 0), .d (.str []), .full []]]) (fun k => k ≤ 4 ∧ i + k ≤ s.length ∧ ∀ m, m < k → digAt s (i + m) = true) (fun k => 4 - k) 0 (by simp [setAll]) ⟨by omega, by omega, by simp⟩ ?_
    rintro k ⟨hk4, hkl, hkd⟩
    have hpk4 : inR .i64 (((i : Nat) : Int) + 4) := small_i64 (by omega) (by omega)
    have hpk4' : inR .i64 ((i : Int) + 4) := small_i64 (by omega) (by omega)
    have hpk : inR .i64 (((i : Nat) : Int) + (k : Int) + 1) := small_i64 (by omega) (by omega)
    have hpk' : inR .i64 ((i : Int) + (k : Int) + 1) := small_i64 (by omega) (by omega)
    simp -implicitDefEqProofs [setAll, go_sem, -List.set_cons_succ, -List.set_cons_zero]
    have cd := digit_calls s hs (i + k) (by omega)
    simp only [Int.natCast_add, Int.cast_ofNat_Int] at cd
    refine qcall_pure cd hf rfl ?_
    have stop : (k = 4 ∨ digAt s (i + k) = false) → runE digAt s 4 (i) = i + k := fun h => runE_stop 4 (i) k hk4 hkd h
    have fin : runE digAt s 4 (i) = i + k → True := fun _ => trivial
    cases hdg : digAt s (i + k) with
    | true =>
      by_cases hk3 : k < 4
      · have c1 : (i : Int) + (k : Int) < (i : Int) + 4 := by omega
        simp -implicitDefEqProofs [hpk4, hpk4', c1, hpk, hpk', hk3, go_sem, -List.set_cons_succ, -List.set_cons_zero]
        have hlt := dig_lt _ hdg
        exact loop_back (k + 1) (by simp [setAll, Int.add_assoc]) ⟨by omega, by omega, fun m hm => by
          rcases Nat.lt_or_ge m k with h | h
          · exact hkd m h
          · obtain rfl : m = k := by omega
            exact hdg⟩ (by show 4 - (k + 1) < 4 - k; omega)
      · obtain rfl : k = 4 := by omega
        have he := stop (.inl rfl)
        simp -implicitDefEqProofs [hpk4, hpk4', go_sem, -List.set_cons_succ, -List.set_cons_zero]
        obtain ⟨T, hT⟩ : ∃ T, T = cutS s (i) (i + 4) := ⟨_, rfl⟩
        have hTd : T.all digB = true := by rw [hT]; exact cut_digs (i) 4 hkl hkd
        have hTl : T.length ≤ 17 := by rw [hT, cutS_len]; omega
        have hnat : ((i : Int) + 4).toNat = i + 4 := by omega
        have hnm := num_calls T hTl hTd
        have hVl := numV_lt T.length T rfl hTd
        have hTk : T.length ≤ 4 := by rw [hT, cutS_len]; omega
        have hp4 : 10 ^ T.length ≤ 10 ^ 4 := Nat.pow_le_pow_right (by omega) hTk
        have hR : numR s i = if canB T then if (false && decide (numV T = 0)) || decide (999 < numV T) then none else some ((numV T : Int), i + 4) else none := by
          unfold numR
          simp only [hsg, if_true, if_false, Bool.false_eq_true, he, ← hT]
        rw [hR, hnat]
        have hT' : (s.take (i + 4)).drop (i) = T := hT.symm
        rw [hT']
        refine ⟨by omega, qcall_pure hnm hf rfl ?_⟩
        have hii : (i : Int) < (i : Int) + 1 := by omega
        have hij : ¬ (i : Int) + 1 ≤ (i : Int) := by omega
        have i1 : inR .i64 (0 - (numV T : Int)) := small_i64 (by omega) (by omega)
        have i2 : inR .i64 (-(numV T : Int)) := small_i64 (by omega) (by omega)
        cases hc : canB T with
        | false => simp -implicitDefEqProofs [numA, row_mk, hf, hii, hij, go_sem, -List.set_cons_succ, -List.set_cons_zero]
        | true =>
          by_cases h0 : numV T = 0
          · simp -implicitDefEqProofs [h0, numA, row_mk, hf, hii, hij, go_sem, -List.set_cons_succ, -List.set_cons_zero]
            refine qcall_pure (int_calls 0) hf (by simp [A.re, re_d]) ?_
            simp -implicitDefEqProofs [numA, row_mk, h0, hf, hii, hij, go_sem, -List.set_cons_succ, -List.set_cons_zero]
          · by_cases h9 : 999 < numV T
            · have h9' : (999 : Int) < numV T := by omega
              have h0' : ((numV T : Int) == 0) = false := by simp; omega
              simp -implicitDefEqProofs [h0, h0', h9, h9', numA, row_mk, hf, hii, hij, go_sem, -List.set_cons_succ, -List.set_cons_zero]
            · have h9' : ¬ (999 : Int) < numV T := by omega
              have h0' : ((numV T : Int) == 0) = false := by simp; omega
              simp -implicitDefEqProofs [h0, h0', h9, h9', i1, i2, hf, hii, hij, go_sem, -List.set_cons_succ, -List.set_cons_zero]
              refine qcall_pure (int_calls ((numV T : Int))) hf (by simp [A.re, re_d]) ?_
              simp -implicitDefEqProofs [numA, row_mk, hf, hii, hij, go_sem, -List.set_cons_succ, -List.set_cons_zero]
    | false =>
      have he := stop (.inr hdg)
      simp -implicitDefEqProofs [go_sem, -List.set_cons_succ, -List.set_cons_zero]
      obtain ⟨T, hT⟩ : ∃ T, T = cutS s (i) (i + k) := ⟨_, rfl⟩
      have hTd : T.all digB = true := by rw [hT]; exact cut_digs (i) k hkl hkd
      have hTl : T.length ≤ 17 := by rw [hT, cutS_len]; omega
      have hnat : ((i : Int) + (k : Int)).toNat = i + k := by omega
      have hnm := num_calls T hTl hTd
      have hVl := numV_lt T.length T rfl hTd
      have hTk : T.length ≤ 4 := by rw [hT, cutS_len]; omega
      have hp4 : 10 ^ T.length ≤ 10 ^ 4 := Nat.pow_le_pow_right (by omega) hTk
      have hR : numR s i = if canB T then if (false && decide (numV T = 0)) || decide (999 < numV T) then none else some ((numV T : Int), i + k) else none := by
        unfold numR
        simp only [hsg, if_true, if_false, Bool.false_eq_true, he, ← hT]
      rw [hR, hnat]
      have hT' : (s.take (i + k)).drop (i) = T := hT.symm
      rw [hT']
      refine ⟨by omega, qcall_pure hnm hf rfl ?_⟩
      have hii : (i : Int) < (i : Int) + 1 := by omega
      have hij : ¬ (i : Int) + 1 ≤ (i : Int) := by omega
      have i1 : inR .i64 (0 - (numV T : Int)) := small_i64 (by omega) (by omega)
      have i2 : inR .i64 (-(numV T : Int)) := small_i64 (by omega) (by omega)
      cases hc : canB T with
      | false => simp -implicitDefEqProofs [numA, row_mk, hf, hii, hij, go_sem, -List.set_cons_succ, -List.set_cons_zero]
      | true =>
        by_cases h0 : numV T = 0
        · simp -implicitDefEqProofs [h0, numA, row_mk, hf, hii, hij, go_sem, -List.set_cons_succ, -List.set_cons_zero]
          refine qcall_pure (int_calls 0) hf (by simp [A.re, re_d]) ?_
          simp -implicitDefEqProofs [numA, row_mk, h0, hf, hii, hij, go_sem, -List.set_cons_succ, -List.set_cons_zero]
        · by_cases h9 : 999 < numV T
          · have h9' : (999 : Int) < numV T := by omega
            have h0' : ((numV T : Int) == 0) = false := by simp; omega
            simp -implicitDefEqProofs [h0, h0', h9, h9', numA, row_mk, hf, hii, hij, go_sem, -List.set_cons_succ, -List.set_cons_zero]
          · have h9' : ¬ (999 : Int) < numV T := by omega
            have h0' : ((numV T : Int) == 0) = false := by simp; omega
            simp -implicitDefEqProofs [h0, h0', h9, h9', i1, i2, hf, hii, hij, go_sem, -List.set_cons_succ, -List.set_cons_zero]
            refine qcall_pure (int_calls ((numV T : Int))) hf (by simp [A.re, re_d]) ?_
            simp -implicitDefEqProofs [numA, row_mk, hf, hii, hij, go_sem, -List.set_cons_succ, -List.set_cons_zero]
end Go.Proofs.YtbblefjbgbocoaaGreatDoor

/-
  Numbers as the program reads them: the plain law.
  Conditions: none.
-/
open Go Go.AM Go.Proofs
namespace Go.Proofs.YtbblefjbgbocoaaGreatDoor
set_option linter.unusedVariables false
set_option linter.unusedSimpArgs false
set_option maxRecDepth 100000
def ofDs (ds : List Nat) : List UInt8 := ds.map fun x => UInt8.ofNat (48 + x)
def canOk (l : List UInt8) : Bool := !canB l || dec3 (numV l) == l
theorem can1 : ((List.range 10).all fun x => canOk (ofDs [x])) = true := by kernel_rfl
theorem can2 : ((List.range 100).all fun x => canOk (ofDs [x / 10, x % 10])) = true := by kernel_rfl
theorem can3 : ((List.range 1000).all fun x => canOk (ofDs [x / 100, x / 10 % 10, x % 10])) = true := by kernel_rfl
theorem dig_of {b : UInt8} (h : digB b = true) : ∃ x, x < 10 ∧ b = UInt8.ofNat (48 + x) := by
  simp only [digB, Bool.and_eq_true, decide_eq_true_eq] at h
  refine ⟨b.toNat - 48, by omega, ?_⟩
  rw [show 48 + (b.toNat - 48) = b.toNat by omega]
  simp
theorem canon3 {l : List UInt8} (h : canB l = true) (h3 : l.length ≤ 3) : dec3 (numV l) = l := by
  have hd := can_digs h
  have key : canOk l = true → dec3 (numV l) = l := fun hk => by
    simp only [canOk, h, Bool.not_true, Bool.false_or, beq_iff_eq] at hk
    exact hk
  apply key
  match l, h3 with
  | [], _ => simp [canB] at h
  | [a], _ =>
    simp at hd
    obtain ⟨x, hx, rfl⟩ := dig_of hd
    exact List.all_eq_true.1 can1 x (by simp; omega)
  | [a, b], _ =>
    simp at hd
    obtain ⟨x, hx, rfl⟩ := dig_of hd.1
    obtain ⟨y, hy, rfl⟩ := dig_of hd.2
    have := List.all_eq_true.1 can2 (10 * x + y) (by simp; omega)
    rw [show (10 * x + y) / 10 = x by omega, show (10 * x + y) % 10 = y by omega] at this
    exact this
  | [a, b, c], _ =>
    simp at hd
    obtain ⟨x, hx, rfl⟩ := dig_of hd.1
    obtain ⟨y, hy, rfl⟩ := dig_of hd.2.1
    obtain ⟨z, hz, rfl⟩ := dig_of hd.2.2
    have := List.all_eq_true.1 can3 (100 * x + 10 * y + z) (by simp; omega)
    rw [show (100 * x + 10 * y + z) / 100 = x by omega, show (100 * x + 10 * y + z) / 10 % 10 = y by omega, show (100 * x + 10 * y + z) % 10 = z by omega] at this
    exact this
def atOk (n : Int) : Bool := match Lib.atoiAll (itoa3 n) with
  | .ok v => decide (v = n)
  | _ => false
theorem at_all : ((List.range 1000).all fun x => atOk x && atOk (-x)) = true := by kernel_rfl
theorem atoi_itoa3 {n : Int} (h0 : -999 ≤ n) (h1 : n ≤ 999) : Lib.atoiAll (itoa3 n) = .ok n := by
  have := List.all_eq_true.1 at_all n.natAbs (by simp; omega)
  rw [Bool.and_eq_true] at this
  have h : atOk n = true := by
    by_cases hn : 0 ≤ n
    · rw [show n = (n.natAbs : Int) by omega]; exact this.1
    · rw [show n = -(n.natAbs : Int) by omega]; exact this.2
  unfold atOk at h
  split at h
  · rename_i v hv
    rw [hv, of_decide_eq_true h]
  · cases h
theorem parse_digs : ∀ (l : List UInt8) (acc : Nat), l.all digB = true → endOk (Lib.parseUint10 acc l) = true
  | [], acc, _ => by simp [Lib.parseUint10, endOk]
  | c :: r, acc, h => by
    simp only [List.all_cons, Bool.and_eq_true] at h
    have hc := h.1
    simp only [digB, Bool.and_eq_true, decide_eq_true_eq] at hc
    simp only [Lib.parseUint10]
    rw [if_pos hc]
    split
    · rfl
    · split
      · rfl
      · exact parse_digs r _ h.2
theorem mag_digs {l : List UInt8} (h : l.all digB = true) (hne : l ≠ []) : endOk (Lib.parseMag l) = true := by
  unfold Lib.parseMag
  rw [if_neg hne]
  exact parse_digs l 0 h
/-- digits, with or without a sign -/
theorem atoi_digs {l : List UInt8} (h : l.all digB = true) (hne : l ≠ []) : endOk (Lib.atoiAll l) = true ∧ endOk (Lib.atoiAll (45 :: l)) = true := by
  have hm0 := mag_digs h hne
  constructor
  · cases l with
    | nil => exact absurd rfl hne
    | cons c r =>
      have hc : digB c = true := by simp at h; exact h.1
      simp only [digB, Bool.and_eq_true, decide_eq_true_eq] at hc
      rw [Lib.atoiAll_plain c r (by omega) (by omega)]
      cases hm : Lib.parseMag (c :: r) with
      | range => rfl
      | ok u => simp only [Lib.signless]; split <;> rfl
      | _ => rw [hm] at hm0; cases hm0
  · rw [Lib.atoiAll_minus]
    cases hm : Lib.parseMag l with
    | range => rfl
    | ok u => simp only [Lib.signed]; split <;> rfl
    | _ => rw [hm] at hm0; cases hm0
theorem take_while_split (p : UInt8 → Bool) : ∀ l : List UInt8, ∃ w r, l = w ++ r ∧ w.all p = true ∧ ∀ c r', r = c :: r' → p c = false
  | [] => ⟨[], [], rfl, rfl, by simp⟩
  | c :: l => by
    cases hc : p c with
    | true =>
      obtain ⟨w, r, h1, h2, h3⟩ := take_while_split p l
      exact ⟨c :: w, r, by rw [h1]; rfl, by simp [hc, h2], h3⟩
    | false => exact ⟨[], c :: l, rfl, rfl, fun d r' e => by cases e; exact hc⟩
/-- where a number stands -/
theorem num_split {s : List UInt8} {a : Nat} (h : digAt s a = true ∨ (sgn s a 45 = true ∧ digAt s (a + 1) = true)) :
    ∃ ds r, ds ≠ [] ∧ ds.all digB = true ∧ (∀ c r', r = c :: r' → digB c = false) ∧ (s.drop a = ds ++ r ∨ s.drop a = 45 :: ds ++ r) := by
  have get : ∀ i b, s[i]? = some b → s.drop i = b :: s.drop (i + 1) := fun i b hb => by
    obtain ⟨h1, h2⟩ := List.getElem?_eq_some_iff.1 hb
    rw [List.drop_eq_getElem_cons h1, h2]
  have dg : ∀ i, digAt s i = true → ∃ b, s[i]? = some b ∧ digB b = true := fun i hi => by
    unfold digAt at hi
    split at hi
    · rename_i b hb; exact ⟨b, hb, hi⟩
    · cases hi
  have main : ∀ i, digAt s i = true → ∃ ds r, ds ≠ [] ∧ ds.all digB = true ∧ (∀ c r', r = c :: r' → digB c = false) ∧ s.drop i = ds ++ r := fun i hi => by
    obtain ⟨b, hb, hd⟩ := dg i hi
    obtain ⟨w, r, h1, h2, h3⟩ := take_while_split digB (s.drop (i + 1))
    exact ⟨b :: w, r, by simp, by simp [hd, h2], h3, by rw [get i b hb, h1]; rfl⟩
  rcases h with h | ⟨h1, h2⟩
  · obtain ⟨ds, r, q1, q2, q3, q4⟩ := main a h
    exact ⟨ds, r, q1, q2, q3, .inl q4⟩
  · obtain ⟨ds, r, q1, q2, q3, q4⟩ := main (a + 1) h2
    have : s[a]? = some 45 := by
      unfold sgn at h1
      split at h1
      · rename_i b hb; simp at h1; rw [hb, h1]
      · cases h1
    exact ⟨ds, r, q1, q2, q3, .inr (by rw [get a 45 this, q4]; rfl)⟩
theorem four_big {l : List UInt8} (h : canB l = true) (h4 : l.length = 4) : 999 < numV l := by
  match l, h4 with
  | [a, b, c, d], _ =>
    have hd := can_digs h
    simp at hd
    simp [canB] at h
    have ha : a ≠ 48 := h.1
    have hd1 := hd.1
    simp only [digB, Bool.and_eq_true, decide_eq_true_eq] at hd1
    have : a.toNat ≠ 48 := fun e => ha (UInt8.toNat_inj.1 e)
    simp [numV]
    omega
/-- the digits that the reference looks at -/
theorem run4 {s : List UInt8} {i : Nat} {ds r : List UInt8} (hd : ds.all digB = true) (hr : ∀ c r', r = c :: r' → digB c = false) (h : s.drop i = ds ++ r) : runE digAt s 4 i = i + (ds.take 4).length ∧ cutS s i (i + (ds.take 4).length) = ds.take 4 := by
  have h2 : s.drop i = ds.take 4 ++ (ds.drop 4 ++ r) := by rw [← List.append_assoc, List.take_append_drop]; exact h
  refine ⟨?_, cut_dr h2⟩
  by_cases hl : ds.length ≤ 4
  · rw [List.take_of_length_le hl]
    exact run_dr digAt_def h hd hr hl
  · have h4 : (ds.take 4).length = 4 := by simp; omega
    rw [h4]
    refine runE_stop 4 i 4 (Nat.le_refl _) (fun k hk => ?_) (.inl rfl)
    have hk2 : k < ds.length := by omega
    have : s[i + k]? = some ds[k] := by
      rw [← List.getElem?_drop, h, List.getElem?_append_left hk2, List.getElem?_eq_getElem hk2]
    unfold digAt
    rw [this]
    exact List.all_eq_true.1 hd _ (List.getElem_mem hk2)
/-- the program's number against the reference's -/
theorem number_law {s : List UInt8} {a : Nat} (ha : a ≤ s.length) (h : digAt s a = true ∨ (sgn s a 45 = true ∧ digAt s (a + 1) = true)) :
    a + 1 ≤ runE digAt s s.length (a + 1) ∧ runE digAt s s.length (a + 1) ≤ s.length ∧ endOk (Lib.atoiAll (cutS s a (runE digAt s s.length (a + 1)))) = true ∧
    match numR s a with
    | some (n, j) => Lib.atoiAll (cutS s a (runE digAt s s.length (a + 1))) = .ok n ∧ Lib.itoa n = cutS s a (runE digAt s s.length (a + 1)) ∧ runE digAt s s.length (a + 1) = j ∧ -999 ≤ n ∧ n ≤ 999
    | none => ∀ n, Lib.itoa n = cutS s a (runE digAt s s.length (a + 1)) → ¬ (-999 ≤ n ∧ n ≤ 999) := by
  obtain ⟨ds, r, h1, h2, h3, h4⟩ := num_split h
  obtain ⟨D, hD, hdr, hrun, hDs⟩ : ∃ D, (D = ds ∨ D = 45 :: ds) ∧ s.drop a = D ++ r ∧ runE digAt s s.length (a + 1) = a + D.length ∧ endOk (Lib.atoiAll D) = true := by
    have hat := atoi_digs h2 h1
    rcases h4 with h4 | h4
    · refine ⟨ds, .inl rfl, h4, ?_, hat.1⟩
      have hlen := dr_len h4 ha
      cases hds : ds with
      | nil => exact absurd hds h1
      | cons c w =>
        rw [hds] at h4 h2
        have hd2 : s.drop (a + 1) = w ++ r := by
          have := dr_add (w := [c]) (r := w ++ r) (s := s) (i := a) (by simpa using h4)
          simpa using this
        have hlw : w.length ≤ s.length := by rw [hds] at hlen; simp at hlen; omega
        have hw : w.all digB = true := by simp at h2; exact List.all_eq_true.2 h2.2
        rw [run_dr digAt_def hd2 hw h3 hlw]
        simp; omega
    · refine ⟨45 :: ds, .inr rfl, h4, ?_, hat.2⟩
      have hlen := dr_len h4 ha
      have hd2 : s.drop (a + 1) = ds ++ r := by
        have := dr_add (w := [45]) (r := ds ++ r) (s := s) (i := a) (by simpa using h4)
        simpa using this
      rw [run_dr digAt_def hd2 h2 h3 (by simp at hlen; omega)]
      simp; omega
  have hlen := dr_len hdr ha
  have hpos : 1 ≤ D.length := by
    rcases hD with rfl | rfl
    · exact List.length_pos_iff.2 h1
    · simp
  rw [hrun, cut_dr hdr]
  refine ⟨by omega, by omega, hDs, ?_⟩
  cases hn : numR s a with
  | none =>
    intro n hi ⟨b0, b1⟩
    rw [← itoa3_eq b0 b1] at hi
    rw [← hi] at hdr
    rw [numR_dr b0 b1 hdr h3] at hn
    cases hn
  | some q =>
    obtain ⟨n, j⟩ := q
    have hok := numR_ok ha hn
    have key : D = itoa3 n ∧ j = a + D.length := by
      rcases hD with rfl | rfl
      · have hsg : sgn s a 45 = false := by
          cases hds : D with
          | nil => exact absurd hds h1
          | cons c w =>
            rw [hds] at hdr h2
            rw [sgn_dr (c := c) (r := w ++ r) (by simpa using hdr)]
            simp only [List.all_cons, Bool.and_eq_true] at h2
            have := h2.1
            cases hc : (c == 45) with
            | false => rfl
            | true => simp at hc; subst hc; simp [digB] at this
        obtain ⟨r1, r2⟩ := run4 h2 h3 hdr
        unfold numR at hn
        simp only [hsg, Bool.false_eq_true, if_false, r1, r2, Bool.false_and, Bool.false_or] at hn
        split at hn
        · rename_i hc
          split at hn
          · cases hn
          · rename_i hv
            simp at hv
            simp only [Option.some.injEq, Prod.mk.injEq] at hn
            have hl3 : (D.take 4).length ≤ 3 := by
              rcases Nat.lt_or_ge (D.take 4).length 4 with h | h
              · omega
              · have := four_big hc (by simp at h ⊢; omega); omega
            have hD4 : D.take 4 = D := List.take_of_length_le (by simp at hl3; omega)
            rw [hD4] at hc hl3 hn
            refine ⟨?_, hn.2.symm⟩
            rw [← hn.1]
            unfold itoa3
            rw [if_neg (by omega), Int.toNat_natCast, canon3 hc hl3]
        · cases hn
      · have hsg : sgn s a 45 = true := by rw [sgn_dr (c := 45) (r := ds ++ r) (by simpa using hdr)]; rfl
        have hd2 : s.drop (a + 1) = ds ++ r := by
          have := dr_add (w := [45]) (r := ds ++ r) (s := s) (i := a) (by simpa using hdr)
          simpa using this
        obtain ⟨r1, r2⟩ := run4 h2 h3 hd2
        unfold numR at hn
        simp only [hsg, if_true, r1, r2, Bool.true_and] at hn
        split at hn
        · rename_i hc
          split at hn
          · cases hn
          · rename_i hv
            simp at hv
            simp only [Option.some.injEq, Prod.mk.injEq] at hn
            have hl3 : (ds.take 4).length ≤ 3 := by
              rcases Nat.lt_or_ge (ds.take 4).length 4 with h | h
              · omega
              · have := four_big hc (by simp at h ⊢; omega); omega
            have hD4 : ds.take 4 = ds := List.take_of_length_le (by simp at hl3; omega)
            rw [hD4] at hc hl3 hn hv
            refine ⟨?_, by rw [← hn.2]; simp; omega⟩
            rw [← hn.1]
            unfold itoa3
            rw [if_pos (by omega), show (-(numV ds : Int)).natAbs = numV ds by omega, canon3 hc hl3]
        · cases hn
    obtain ⟨k1, k2⟩ := key
    refine ⟨?_, ?_, k2.symm, hok.2.2.1, hok.2.2.2⟩
    · rw [k1]; exact atoi_itoa3 hok.2.2.1 hok.2.2.2
    · rw [← itoa3_eq hok.2.2.1 hok.2.2.2, k1]
end Go.Proofs.YtbblefjbgbocoaaGreatDoor

/-
  Numerals of the reference.
  Conditions: none.
-/
open Go Go.AM Go.Proofs
namespace Go.Proofs.YtbblefjbgbocoaaGreatDoor
open Go.ChangeShapes Go.WideShapes Go.ChangeAt Go.RowKit
set_option linter.unusedVariables false
set_option linter.unusedSimpArgs false
set_option maxRecDepth 100000
-- 105 loop.example/prologserver/spec.l18Dec params 1 ntmps 31
-- loop head live: [0,3]
end Go.Proofs.YtbblefjbgbocoaaGreatDoor

/-
  Terms as the reference writes them.
  Conditions: none.
-/
open Go Go.AM Go.Proofs
namespace Go.Proofs.YtbblefjbgbocoaaGreatDoor
open Go.ChangeShapes Go.WideShapes Go.ChangeAt Go.RowKit
set_option linter.unusedVariables false
set_option linter.unusedSimpArgs false
set_option maxRecDepth 100000
-- 255 loop.example/prologserver/spec.l1Letter params 1 ntmps 8
theorem byte_off {s : List UInt8} {i : Int} (b : UInt8) {K : A → St → Prop} {st : St} (hk : K (.c (.d (.int .u8 b.toNat))) st) : ByteK false s i K st := ⟨b, fun h => (by cases h), hk⟩
end Go.Proofs.YtbblefjbgbocoaaGreatDoor

/-
  Lists and terms as the reference writes them.
  Conditions: none.
-/
open Go Go.AM Go.Proofs
namespace Go.Proofs.YtbblefjbgbocoaaGreatDoor
open Go.ChangeShapes Go.WideShapes Go.ChangeAt Go.RowKit
set_option linter.unusedVariables false
set_option linter.unusedSimpArgs false
set_option maxRecDepth 100000
/-- a term that the writers meet -/
structure Tm.ok (t : Tm) : Prop where
  fits : t.fits
  good : t.good
  size : t.size ≤ 300
theorem Tm.ok.len {t : Tm} (h : t.ok) : t.wr.length ≤ 6000 ∧ t.wrt.length ≤ 6001 ∧ t.wr ≠ [] := by
  have := wr_len t h.good
  have := h.size
  exact ⟨by omega, by omega, (wr_len t h.good).2⟩
theorem lv_range {s : List UInt8} (h : 0 < levelN s) : (levelN s = 1 ∨ levelN s = 2 ∨ levelN s = 3) ∧ (levelN s = 3 → leftMost s = 2) ∧ (levelN s ≠ 3 → leftMost s = levelN s) := by
  have h1 : levelN s = 1 ∨ levelN s = 2 ∨ levelN s = 3 := by
    unfold levelN at h ⊢
    split
    · simp
    · split
      · simp
      · split
        · simp
        · rename_i a b c; rw [if_neg a, if_neg b, if_neg c] at h; omega
  refine ⟨h1, fun h3 => ?_, fun h3 => ?_⟩
  · simp [leftMost, leftB, h3]
  · rcases h1 with h1 | h1 | h1
    · simp [leftMost, leftB, h1]
    · simp [leftMost, leftB, h1]
    · exact absurd h1 h3
end Go.Proofs.YtbblefjbgbocoaaGreatDoor

/-
  Terms as the program writes them.
  Conditions: none.
-/
open Go Go.AM Go.Proofs
namespace Go.Proofs.YtbblefjbgbocoaaGreatDoor
open Go.ChangeShapes Go.WideShapes Go.ChangeAt Go.RowKit
set_option linter.unusedVariables false
set_option linter.unusedSimpArgs false
set_option maxRecDepth 100000
-- 232 loop.example/prologserver/impl.isDigit params 1 ntmps 9
def ac232 : Cd := .seq (.region [⟨(some 2),.mv (.k (.c (.d (.bool false)))),none⟩] [2])
 (.seq (.region [⟨(some 3),.mv (.t 0),none⟩,
 ⟨(some 4),.bin .geq (.t 3) (.k (.c (.d (.int .u8 48)))),none⟩,
 ⟨(some 5),.mv (.t 4),none⟩,
 ⟨(some 6),.mv (.t 0),some (5,true)⟩,
 ⟨(some 7),.bin .leq (.t 6) (.k (.c (.d (.int .u8 57)))),some (5,true)⟩,
 ⟨(some 8),.pick (.t 5) (.t 7) (.k (.c (.d (.bool false)))),none⟩,
 ⟨(some 2),.mv (.t 8),none⟩] [0,3,4,5,6,7,8])
 (.ret))
theorem ac232_ok : cFunc Tryz.prog [] [(0,[2],[]),(1,[0,3,4,5,6,7,8],[])] Tryz.f232 = some (ac232,[.tmp 2],9) := by kernel_rfl
-- 171 loop.example/prologserver/impl.leftMost params 1 ntmps 14
def ac171 : Cd := .seq (.region [⟨(some 2),.mv (.k (.c (.d (.int .i64 0)))),none⟩] [2])
 (.seq (.region [⟨(some 6),.mv (.t 0),none⟩,
 ⟨(some 7),.qcall 170 [(.t 6)],none⟩,
 ⟨(some 5),.mv (.t 7),none⟩,
 ⟨(some 8),.extract 0 (.t 5),none⟩,
 ⟨(some 9),.extract 1 (.t 5),none⟩,
 ⟨(some 3),.mv (.t 8),none⟩,
 ⟨(some 4),.mv (.t 9),none⟩] [0,5,6,7,8,9])
 (.seq (.seq (.region [⟨(some 10),.mv (.t 4),none⟩] [4])
 (.cond (.t 10)
 (.seq (.region [⟨(some 11),.mv (.t 3),none⟩,
 ⟨(some 2),.mv (.t 11),none⟩] [3,10,11])
 (.ret))
 (.skip)))
 (.seq (.region [⟨(some 12),.mv (.t 3),none⟩,
 ⟨(some 13),.bin .sub (.t 12) (.k (.c (.d (.int .i64 1)))),none⟩,
 ⟨(some 2),.mv (.t 13),none⟩] [3,10,12,13])
 (.ret))))
theorem ac171_ok : cFunc Tryz.prog [1000170] [(0,[2],[]),(1,[0,5,6,7,8,9],[]),(2,[4],[]),(3,[3,10,11],[]),(4,[3,10,12,13],[])] Tryz.f171 = some (ac171,[.tmp 2],14) := by kernel_rfl
-- 172 loop.example/prologserver/impl.opText params 1 ntmps 9
def ac172 : Cd := .seq (.region [⟨(some 2),.mv (.k (.c (.d (.str [])))),none⟩] [2])
 (.seq (.seq (.region [⟨(some 3),.mv (.t 0),none⟩,
 ⟨(some 4),.qcall 97 [(.t 3)],none⟩] [3])
 (.cond (.t 4)
 (.seq (.region [⟨(some 5),.mv (.t 0),none⟩,
 ⟨(some 6),.bin .add (.k (.c (.d (.str [32])))) (.t 5),none⟩,
 ⟨(some 7),.bin .add (.t 6) (.k (.c (.d (.str [32])))),none⟩,
 ⟨(some 2),.mv (.t 7),none⟩] [0,4,5,6,7])
 (.ret))
 (.skip)))
 (.seq (.region [⟨(some 8),.mv (.t 0),none⟩,
 ⟨(some 2),.mv (.t 8),none⟩] [0,4,8])
 (.ret)))
theorem ac172_ok : cFunc Tryz.prog [1000097] [(0,[2],[]),(1,[3],[]),(2,[0,4,5,6,7],[]),(3,[0,4,8],[])] Tryz.f172 = some (ac172,[.tmp 2],9) := by kernel_rfl
theorem isDigit_calls (b : UInt8) (H : Heap) : ACalls Tryz.prog 232 [.c (.d (.int .u8 b.toNat))] H (fun r H' => H' = H ∧ r = .c (.d (.bool (decide (48 ≤ b.toNat ∧ b.toNat ≤ 57))))) := by
  refine acalls Tryz.func232 (by kernel_rfl) ac232_ok fun hf => ?_
  by_cases h1 : (48 : Int) ≤ b.toNat
  · have h1' : 48 ≤ b.toNat := by omega
    simp -implicitDefEqProofs [ac232, h1, h1', go_sem, -List.set_cons_succ, -List.set_cons_zero]
    omega
  · have h1' : ¬ 48 ≤ b.toNat := by omega
    simp -implicitDefEqProofs [ac232, h1, h1', go_sem, -List.set_cons_succ, -List.set_cons_zero]
theorem leftMost_calls (s : List UInt8) (H : Heap) : ACalls Tryz.prog 171 [.c (.d (.str s))] H (fun r H' => H' = H ∧ r = .c (.d (.int .i64 (leftMost s)))) := by
  refine acalls Tryz.func171 (by kernel_rfl) ac171_ok fun hf => ?_
  simp -implicitDefEqProofs [ac171, go_sem, -List.set_cons_succ, -List.set_cons_zero]
  refine qcall_pure (opLevel_calls s) hf rfl ?_
  have hr : 0 ≤ levelN s ∧ levelN s ≤ 3 := by
    by_cases h : 0 < levelN s
    · have := (lv_range h).1; omega
    · unfold levelN at h ⊢
      split
      · simp
      · split
        · simp
        · split <;> simp
  have hsub : inR .i64 (levelN s - 1) := small_i64 (by omega) (by omega)
  cases hb : leftB s <;> simp -implicitDefEqProofs [hb, leftMost, hsub, go_sem, -List.set_cons_succ, -List.set_cons_zero]
theorem opText_calls (s : List UInt8) (hs : s.length ≤ 1048576) (H : Heap) : ACalls Tryz.prog 172 [.c (.d (.str s))] H (fun r H' => H' = H ∧ r = .c (.d (.str (opSp s)))) := by
  refine acalls Tryz.func172 (by kernel_rfl) ac172_ok fun hf => ?_
  simp -implicitDefEqProofs [ac172, go_sem, -List.set_cons_succ, -List.set_cons_zero]
  refine qcall_pure (isLetters_calls s (by omega)) hf rfl ?_
  cases hb : lettersB s <;> simp -implicitDefEqProofs [hb, opSp, maxStr, go_sem, -List.set_cons_succ, -List.set_cons_zero]
  omega
end Go.Proofs.YtbblefjbgbocoaaGreatDoor

/-
  The program's reader: small steps.
  Conditions: none.
-/
open Go Go.AM Go.Proofs
namespace Go.Proofs.YtbblefjbgbocoaaGreatDoor
open Go.ChangeShapes Go.WideShapes Go.ChangeAt Go.RowKit
set_option linter.unusedVariables false
set_option linter.unusedSimpArgs false
set_option maxRecDepth 100000
-- 208 (*loop.example/prologserver/impl.reader).skip params 2 ntmps 21
def ac208 : Cd := .seq (.seq (.region [⟨(some 4),.mv (.t 0),none⟩,
 ⟨(some 5),.call false 110 [(.t 4)],none⟩,
 ⟨(some 6),.mv (.t 1),none⟩,
 ⟨(some 7),.bin .neq (.t 5) (.t 6),none⟩] [1,4,5,6])
 (.cond (.t 7)
 (.seq (.region [⟨(some 8),.mv (.t 0),none⟩,
 ⟨(some 9),.mv (.t 0),none⟩,
 ⟨(some 10),.nilCheck (.t 9),none⟩,
 ⟨(some 11),.fieldAddr 1 (.t 10),none⟩,
 ⟨(some 12),.load none (.t 11),none⟩,
 ⟨(some 13),.call false 204 [(.t 8),(.t 12)],none⟩] [0,7,8,9,10,11,12,13])
 (.ret))
 (.skip)))
 (.region [⟨(some 14),.mv (.t 0),none⟩,
 ⟨(some 15),.nilCheck (.t 14),none⟩,
 ⟨(some 16),.fieldAddr 1 (.t 15),none⟩,
 ⟨(some 17),.load none (.t 16),none⟩,
 ⟨(some 18),.bin .add (.t 17) (.k (.c (.d (.int .i64 1)))),none⟩,
 ⟨(some 19),.nilCheck (.t 14),none⟩,
 ⟨(some 20),.fieldAddr 1 (.t 19),none⟩,
 ⟨none,.store 1 (.t 20) (.t 18),none⟩] [0,7,14,15,16,17,18,19,20])
theorem ac208_ok : cFunc Tryz.prog [] [(0,[1,4,5,6],[]),(1,[0,7,8,9,10,11,12,13],[]),(2,[0,7,14,15,16,17,18,19,20],[])] Tryz.f208 = some (ac208,[],21) := by kernel_rfl
-- 206 (*loop.example/prologserver/impl.reader).isNumber params 1 ntmps 38
def ac206 : Cd := .seq (.region [⟨(some 2),.mv (.k (.c (.d (.bool false)))),none⟩] [2])
 (.seq (.region [⟨(some 4),.mv (.t 0),none⟩,
 ⟨(some 5),.call false 110 [(.t 4)],none⟩,
 ⟨(some 3),.mv (.t 5),none⟩] [4,5])
 (.seq (.region [⟨(some 6),.mv (.t 3),none⟩,
 ⟨(some 7),.qcall 232 [(.t 6)],none⟩,
 ⟨(some 8),.mv (.t 7),none⟩,
 ⟨(some 9),.mv (.t 3),some (8,false)⟩,
 ⟨(some 10),.bin .eql (.t 9) (.k (.c (.d (.int .u8 45)))),some (8,false)⟩,
 ⟨(some 11),.mv (.t 10),some (8,false)⟩,
 ⟨(some 12),.mv (.t 0),some (11,true)⟩,
 ⟨(some 13),.nilCheck (.t 12),some (11,true)⟩,
 ⟨(some 14),.fieldAddr 1 (.t 13),some (11,true)⟩,
 ⟨(some 17),.mv (.t 0),some (11,true)⟩,
 ⟨(some 18),.nilCheck (.t 17),some (11,true)⟩,
 ⟨(some 19),.fieldAddr 0 (.t 18),some (11,true)⟩,
 ⟨(some 15),.load none (.t 14),some (11,true)⟩,
 ⟨(some 16),.bin .add (.t 15) (.k (.c (.d (.int .i64 1)))),some (11,true)⟩,
 ⟨(some 20),.load none (.t 19),some (11,true)⟩,
 ⟨(some 21),.len 0 (.t 20),some (11,true)⟩,
 ⟨(some 22),.bin .lss (.t 16) (.t 21),some (11,true)⟩,
 ⟨(some 23),.pick (.t 11) (.t 22) (.k (.c (.d (.bool false)))),some (8,false)⟩,
 ⟨(some 24),.mv (.t 23),some (8,false)⟩,
 ⟨(some 25),.mv (.t 0),some (24,true)⟩,
 ⟨(some 26),.nilCheck (.t 25),some (24,true)⟩,
 ⟨(some 27),.fieldAddr 0 (.t 26),some (24,true)⟩,
 ⟨(some 29),.mv (.t 0),some (24,true)⟩,
 ⟨(some 30),.nilCheck (.t 29),some (24,true)⟩,
 ⟨(some 31),.fieldAddr 1 (.t 30),some (24,true)⟩,
 ⟨(some 28),.load none (.t 27),some (24,true)⟩,
 ⟨(some 32),.load none (.t 31),some (24,true)⟩,
 ⟨(some 33),.bin .add (.t 32) (.k (.c (.d (.int .i64 1)))),some (24,true)⟩,
 ⟨(some 34),.index (.t 28) (.t 33),some (24,true)⟩,
 ⟨(some 35),.qcall 232 [(.t 34)],some (24,true)⟩,
 ⟨(some 36),.pick (.t 24) (.t 35) (.k (.c (.d (.bool false)))),some (8,false)⟩,
 ⟨(some 37),.pick (.t 8) (.k (.c (.d (.bool true)))) (.t 36),none⟩,
 ⟨(some 2),.mv (.t 37),none⟩] [0,3,6,7,8,9,10,11,12,13,14,15,16,17,18,19,20,21,22,23,24,25,26,27,28,29,30,31,32,33,34,35,36,37])
 (.ret)))
theorem ac206_ok : cFunc Tryz.prog [1000232] [(0,[2],[]),(1,[4,5],[]),(2,[0,3,6,7,8,9,10,11,12,13,14,15,16,17,18,19,20,21,22,23,24,25,26,27,28,29,30,31,32,33,34,35,36,37],[0,1,2,3,4,5,6,7,8,11,12,13,9,10,14,15,16,17,18,19,20,21,23,24,25,22,26,27,28,29,30,31,32])] Tryz.f206 = some (ac206,[.tmp 2],38) := by kernel_rfl
-- 209 strings.HasPrefix params 2 ntmps 8
def ac209 : Cd := .seq (.region [⟨(some 4),.mv (.k (.c (.d (.bool false)))),none⟩] [4])
 (.seq (.region [⟨(some 5),.mv (.t 0),none⟩,
 ⟨(some 6),.mv (.t 1),none⟩,
 ⟨(some 7),.qcall 234 [(.t 5),(.t 6)],none⟩,
 ⟨(some 4),.mv (.t 7),none⟩] [0,1,5,6,7])
 (.ret))
theorem ac209_ok : cFunc Tryz.prog [1000234] [(0,[4],[]),(1,[0,1,5,6,7],[])] Tryz.f209 = some (ac209,[.tmp 4],8) := by kernel_rfl
-- 234 internal/stringslite.HasPrefix params 2 ntmps 18
def ac234 : Cd := .seq (.region [⟨(some 4),.mv (.k (.c (.d (.bool false)))),none⟩] [4])
 (.seq (.region [⟨(some 5),.mv (.t 0),none⟩,
 ⟨(some 6),.len 0 (.t 5),none⟩,
 ⟨(some 7),.mv (.t 1),none⟩,
 ⟨(some 8),.len 0 (.t 7),none⟩,
 ⟨(some 9),.bin .geq (.t 6) (.t 8),none⟩,
 ⟨(some 10),.mv (.t 9),none⟩,
 ⟨(some 11),.mv (.t 0),some (10,true)⟩,
 ⟨(some 12),.mv (.t 1),some (10,true)⟩,
 ⟨(some 13),.len 0 (.t 12),some (10,true)⟩,
 ⟨(some 14),.slice 0 (.t 11) none (some (.t 13)) none,some (10,true)⟩,
 ⟨(some 15),.mv (.t 1),some (10,true)⟩,
 ⟨(some 16),.bin .eql (.t 14) (.t 15),some (10,true)⟩,
 ⟨(some 17),.pick (.t 10) (.t 16) (.k (.c (.d (.bool false)))),none⟩,
 ⟨(some 4),.mv (.t 17),none⟩] [0,1,5,6,7,8,9,10,11,12,13,14,15,16,17])
 (.ret))
theorem ac234_ok : cFunc Tryz.prog [] [(0,[4],[]),(1,[0,1,5,6,7,8,9,10,11,12,13,14,15,16,17],[])] Tryz.f234 = some (ac234,[.tmp 4],18) := by kernel_rfl
theorem skip_mv (s : List UInt8) (hs : s.length ≤ 1000000) (a : Nat) (b : Int) (ha : a ≤ 1000000) (c : UInt8) : Mv 208 [.c (.d (.int .u8 c.toNat))] s a b (.tup []) (if nxt s a b = c then a + 1 else a) (if nxt s a b = c then b else if b < 0 then (a : Int) else b) := fun H i hp h2 hi => by
  refine acalls Tryz.func208 (by kernel_rfl) ac208_ok fun hf => ?_
  rw [ro_len] at hf
  have hf1 := fun a' b' => ro_fits (s' := s) (a' := a') (b' := b') hf
  have ha1 : inR .i64 ((a : Int) + 1) := small_i64 (by omega) (by omega)
  simp -implicitDefEqProofs [ac208, ro_len, go_sem, -List.set_cons_succ, -List.set_cons_zero]
  refine call_mv (next_mv s hs a b ha) hp h2 hi (by simp [Ob.re, C.re]) rfl hf ?_
  by_cases h : nxt s a b = c
  · simp -implicitDefEqProofs [h, ro_get hi, ro_len, ro_up, ha1, Ref.re, hf1, go_sem, -List.set_cons_succ, -List.set_cons_zero]
  · have h' : ¬ (((nxt s a b).toNat : Int) = c.toNat) := fun e => h (UInt8.toNat_inj.1 (by omega))
    have h'' : ((nxt s a b).toNat : Int) != c.toNat := by simpa using h'
    simp -implicitDefEqProofs [h, h', ro_get hi, ro_len, ro_set, Ref.re, hf1, go_sem, -List.set_cons_succ, -List.set_cons_zero]
    refine call_mv (stop_mv s a b a) hp h2 hi (by simp [Ob.re, C.re]) (zeroA_re _) hf ?_
    simp -implicitDefEqProofs [go_sem, -List.set_cons_succ, -List.set_cons_zero]
theorem nxt_dig (s : List UInt8) (a : Nat) : decide (48 ≤ (nxt s a (-1)).toNat ∧ (nxt s a (-1)).toNat ≤ 57) = digAt s a := by
  unfold nxt digAt digB
  rw [if_neg (by decide)]
  cases s[a]? with
  | none => rfl
  | some b => simp
theorem nxt_sgn (s : List UInt8) (a : Nat) (c : UInt8) (h0 : c ≠ 0) : (nxt s a (-1) == c) = sgn s a c := by
  unfold nxt sgn
  rw [if_neg (by decide)]
  cases s[a]? with
  | none => simp; exact fun h => h0 h.symm
  | some b => rfl
theorem nxt_eq (s : List UInt8) (a : Nat) (c : UInt8) (h0 : c ≠ 0) : (((nxt s a (-1)).toNat : Int) == (c.toNat : Int)) = sgn s a c := by
  rw [← nxt_sgn s a c h0, Bool.eq_iff_iff]
  simp
  exact ⟨fun h => UInt8.toNat_inj.1 (by omega), fun h => by rw [h]⟩
theorem isNumber_mv (s : List UInt8) (hs : s.length ≤ 1000000) (a : Nat) (ha : a ≤ 1000000) : Mv 206 [] s a (-1) (.c (.d (.bool (digAt s a || sgn s a 45 && digAt s (a + 1))))) a (-1) := fun H i hp h2 hi => by
  refine acalls Tryz.func206 (by kernel_rfl) ac206_ok fun hf => ?_
  rw [ro_len] at hf
  have hf1 := fun a' b' => ro_fits (s' := s) (a' := a') (b' := b') hf
  have ha1 : inR .i64 ((a : Int) + 1) := small_i64 (by omega) (by omega)
  have hli : inR .i64 (s.length : Int) := small_i64 (by omega) (by omega)
  simp -implicitDefEqProofs [ac206, ro_len, go_sem, -List.set_cons_succ, -List.set_cons_zero]
  refine call_mv (next_mv s hs a (-1) ha) hp h2 hi (by simp [Ob.re, C.re]) rfl hf ?_
  simp -implicitDefEqProofs [ro_len, go_sem, -List.set_cons_succ, -List.set_cons_zero]
  have e45 := nxt_eq s a 45 (by decide)
  have e45' : (((nxt s a (-1)).toNat : Int) == 45) = sgn s a 45 := e45
  have hfr : Obs.fits (ro H i s a (-1)).length 0 (ro H i s a (-1)) := by rw [ro_len]; exact hf
  refine qcall_pure (isDigit_calls (nxt s a (-1))) hfr rfl ?_
  rw [nxt_dig]
  cases hd : digAt s a with
  | true =>
    by_cases hlt2 : (a : Int) + 1 < (s.length : Int) <;> cases h45 : sgn s a 45
    all_goals
      rw [h45] at e45'
      simp -implicitDefEqProofs [ro_get hi, ro_len, ro_set, e45', hli, ha1, hlt2, Ref.re, go_sem, -List.set_cons_succ, -List.set_cons_zero]
      refine byte_off 0 ?_
      simp -implicitDefEqProofs [go_sem, -List.set_cons_succ, -List.set_cons_zero]
  | false =>
    cases h45 : sgn s a 45 with
    | false =>
      rw [h45] at e45'
      simp -implicitDefEqProofs [ro_get hi, ro_len, ro_set, e45', hli, ha1, Ref.re, go_sem, -List.set_cons_succ, -List.set_cons_zero]
      refine byte_off 0 ?_
      simp -implicitDefEqProofs [go_sem, -List.set_cons_succ, -List.set_cons_zero]
    | true =>
      rw [h45] at e45'
      by_cases hlt : a + 1 < s.length
      · have hlt2 : (a : Int) + 1 < s.length := by omega
        have e1 : (a : Int) + 1 = ((a + 1 : Nat) : Int) := by omega
        have hdd : decide (48 ≤ s[a + 1].toNat ∧ s[a + 1].toNat ≤ 57) = digAt s (a + 1) := by
          unfold digAt digB
          rw [List.getElem?_eq_getElem hlt]
          simp
        simp -implicitDefEqProofs [ro_get hi, ro_len, ro_set, e45', hli, ha1, hlt2, Ref.re, go_sem, -List.set_cons_succ, -List.set_cons_zero]
        rw [e1]
        refine byte_nat hlt ?_
        simp -implicitDefEqProofs [go_sem, -List.set_cons_succ, -List.set_cons_zero]
        refine qcall_pure (isDigit_calls s[a + 1]) hfr rfl ?_
        rw [hdd]
        simp -implicitDefEqProofs [go_sem, -List.set_cons_succ, -List.set_cons_zero]
      · have hlt2 : ¬ (a : Int) + 1 < s.length := by omega
        have hdd : digAt s (a + 1) = false := dig_end (by simp; omega)
        simp -implicitDefEqProofs [ro_get hi, ro_len, ro_set, e45', hli, ha1, hlt2, hdd, Ref.re, go_sem, -List.set_cons_succ, -List.set_cons_zero]
        refine byte_off 0 ?_
        simp -implicitDefEqProofs [go_sem, -List.set_cons_succ, -List.set_cons_zero]
theorem hasPrefix0_calls (t x : List UInt8) (ht : t.length ≤ 1000000) (hx : x.length ≤ 1000000) (H : Heap) : ACalls Tryz.prog 234 [.c (.d (.str t)), .c (.d (.str x))] H (fun r H' => H' = H ∧ r = .c (.d (.bool (t.take x.length == x)))) := by
  refine acalls Tryz.func234 (by kernel_rfl) ac234_ok fun hf => ?_
  have h1 : inR .i64 (t.length : Int) := small_i64 (by omega) (by omega)
  have h2 : inR .i64 (x.length : Int) := small_i64 (by omega) (by omega)
  by_cases h : x.length ≤ t.length
  · have h' : (x.length : Int) ≤ t.length := by omega
    simp -implicitDefEqProofs [ac234, h1, h2, h, h', go_sem, -List.set_cons_succ, -List.set_cons_zero]
  · have h' : ¬ (x.length : Int) ≤ t.length := by omega
    have h3 : (t.take x.length == x) = false := by
      simp only [beq_eq_false_iff_ne]
      intro e
      have := congrArg List.length e
      simp at this
      omega
    simp -implicitDefEqProofs [ac234, h1, h2, h, h', h3, go_sem, -List.set_cons_succ, -List.set_cons_zero]
theorem hasPrefix_calls (t x : List UInt8) (ht : t.length ≤ 1000000) (hx : x.length ≤ 1000000) (H : Heap) : ACalls Tryz.prog 209 [.c (.d (.str t)), .c (.d (.str x))] H (fun r H' => H' = H ∧ r = .c (.d (.bool (t.take x.length == x)))) := by
  refine acalls Tryz.func209 (by kernel_rfl) ac209_ok fun hf => ?_
  simp -implicitDefEqProofs [ac209, go_sem, -List.set_cons_succ, -List.set_cons_zero]
  refine qcall_pure (hasPrefix0_calls t x ht hx) hf rfl ?_
  simp -implicitDefEqProofs [go_sem, -List.set_cons_succ, -List.set_cons_zero]
end Go.Proofs.YtbblefjbgbocoaaGreatDoor

/-
  The program's reader: numbers.
  Conditions: none.
-/
open Go Go.AM Go.Proofs
namespace Go.Proofs.YtbblefjbgbocoaaGreatDoor
open Go.ChangeShapes Go.WideShapes Go.ChangeAt Go.RowKit
set_option linter.unusedVariables false
set_option linter.unusedSimpArgs false
set_option maxRecDepth 100000
-- 207 (*loop.example/prologserver/impl.reader).number params 1 ntmps 61
-- loop head live: [0,2,3]
def ac207 : Cd := .seq (.region [⟨(some 2),.alloc [(.d (.int .i64 0)),(.d (.int .i64 0)),(.d (.str [])),(.full [])],none⟩] [])
 (.seq (.region [⟨(some 7),.mv (.t 0),none⟩,
 ⟨(some 8),.nilCheck (.t 7),none⟩,
 ⟨(some 9),.fieldAddr 1 (.t 8),none⟩,
 ⟨(some 10),.load none (.t 9),none⟩,
 ⟨(some 3),.mv (.t 10),none⟩] [7,8,9,10])
 (.seq (.region [⟨(some 11),.mv (.t 0),none⟩,
 ⟨(some 12),.nilCheck (.t 11),none⟩,
 ⟨(some 13),.fieldAddr 1 (.t 12),none⟩,
 ⟨(some 14),.load none (.t 13),none⟩,
 ⟨(some 15),.bin .add (.t 14) (.k (.c (.d (.int .i64 1)))),none⟩,
 ⟨(some 16),.nilCheck (.t 11),none⟩,
 ⟨(some 17),.fieldAddr 1 (.t 16),none⟩,
 ⟨none,.store 1 (.t 17) (.t 15),none⟩] [11,12,13,14,15,16,17])
 (.seq (.block 0 (.loop (.seq (.seq (.region [⟨(some 18),.mv (.t 0),none⟩,
 ⟨(some 19),.call false 110 [(.t 18)],none⟩,
 ⟨(some 20),.qcall 232 [(.t 19)],none⟩] [18,19])
 (.cond (.t 20)
 (.skip)
 (.exit 0)))
 (.block 1 (.region [⟨(some 21),.mv (.t 0),none⟩,
 ⟨(some 22),.nilCheck (.t 21),none⟩,
 ⟨(some 23),.fieldAddr 1 (.t 22),none⟩,
 ⟨(some 24),.load none (.t 23),none⟩,
 ⟨(some 25),.bin .add (.t 24) (.k (.c (.d (.int .i64 1)))),none⟩,
 ⟨(some 26),.nilCheck (.t 21),none⟩,
 ⟨(some 27),.fieldAddr 1 (.t 26),none⟩,
 ⟨none,.store 1 (.t 27) (.t 25),none⟩] [20,21,22,23,24,25,26,27])))))
 (.seq (.region [⟨(some 28),.mv (.t 0),none⟩,
 ⟨(some 29),.nilCheck (.t 28),none⟩,
 ⟨(some 30),.fieldAddr 0 (.t 29),none⟩,
 ⟨(some 32),.mv (.t 3),none⟩,
 ⟨(some 33),.mv (.t 0),none⟩,
 ⟨(some 34),.nilCheck (.t 33),none⟩,
 ⟨(some 35),.fieldAddr 1 (.t 34),none⟩,
 ⟨(some 31),.load none (.t 30),none⟩,
 ⟨(some 36),.load none (.t 35),none⟩,
 ⟨(some 37),.slice 0 (.t 31) (some (.t 32)) (some (.t 36)) none,none⟩,
 ⟨(some 4),.mv (.t 37),none⟩] [28,29,30,31,32,33,34,35,36,37])
 (.seq (.region [⟨(some 39),.mv (.t 4),none⟩,
 ⟨(some 40),.call false 50 [(.t 39)],none⟩,
 ⟨(some 38),.mv (.t 40),none⟩,
 ⟨(some 41),.extract 0 (.t 38),none⟩,
 ⟨(some 42),.extract 1 (.t 38),none⟩,
 ⟨(some 5),.mv (.t 41),none⟩,
 ⟨(some 6),.mv (.t 42),none⟩] [38,39,40,41,42])
 (.seq (.seq (.region [⟨(some 43),.mv (.t 6),none⟩,
 ⟨(some 44),.errNil true (.t 43),none⟩,
 ⟨(some 45),.mv (.t 44),none⟩,
 ⟨(some 46),.mv (.t 5),some (45,false)⟩,
 ⟨(some 47),.qcall 47 [(.t 46)],some (45,false)⟩,
 ⟨(some 48),.mv (.t 4),some (45,false)⟩,
 ⟨(some 49),.bin .neq (.t 47) (.t 48),some (45,false)⟩,
 ⟨(some 50),.pick (.t 45) (.k (.c (.d (.bool true)))) (.t 49),none⟩,
 ⟨(some 51),.mv (.t 50),none⟩,
 ⟨(some 52),.mv (.t 5),some (51,false)⟩,
 ⟨(some 53),.qcall 45 [(.t 52),(.k (.c (.d (.int .i64 (-999))))),(.k (.c (.d (.int .i64 999))))],some (51,false)⟩,
 ⟨(some 54),.un .not (.t 53),some (51,false)⟩,
 ⟨(some 55),.pick (.t 51) (.k (.c (.d (.bool true)))) (.t 54),none⟩] [4,6,43,44,45,46,47,48,49,50,51,52,53,54])
 (.cond (.t 55)
 (.seq (.region [⟨(some 56),.mv (.t 0),none⟩,
 ⟨(some 57),.mv (.t 3),none⟩,
 ⟨(some 58),.call false 204 [(.t 56),(.t 57)],none⟩,
 ⟨none,.store 4 (.t 2) (.t 58),none⟩] [0,3,5,55,56,57,58])
 (.ret))
 (.skip)))
 (.seq (.region [⟨(some 59),.mv (.t 5),none⟩,
 ⟨(some 60),.qcall 233 [(.t 59)],none⟩,
 ⟨none,.store 4 (.t 2) (.t 60),none⟩] [0,3,5,55,59,60])
 (.ret))))))))
theorem ac207_ok : cFunc Tryz.prog [1000045,1000047,1000232,1000233] [(0,[],[]),(1,[7,8,9,10],[]),(2,[11,12,13,14,15,16,17],[]),(3,[18,19],[]),(4,[20,21,22,23,24,25,26,27],[]),(5,[28,29,30,31,32,33,34,35,36,37],[0,1,2,4,5,6,7,3,8,9,10]),(6,[38,39,40,41,42],[]),(7,[4,6,43,44,45,46,47,48,49,50,51,52,53,54],[]),(8,[0,3,5,55,56,57,58],[]),(9,[0,3,5,55,59,60],[])] Tryz.f207 = some (ac207,[.cell 2 (some 4)],61) := by kernel_rfl
-- 233 loop.example/prologserver/impl.number params 1 ntmps 5
def ac233 : Cd := .seq (.region [⟨(some 2),.alloc [(.d (.int .i64 0)),(.d (.int .i64 0)),(.d (.str [])),(.full [])],none⟩] [])
 (.seq (.region [⟨(some 3),.mv (.t 0),none⟩,
 ⟨(some 4),.build [(.d (.int .i64 0)),(.d (.int .i64 0)),(.d (.str [])),(.full [])] [(0,1,(.k (.c (.d (.int .i64 2))))),(1,1,(.t 3))],none⟩,
 ⟨none,.store 4 (.t 2) (.t 4),none⟩] [0,3,4])
 (.ret))
theorem ac233_ok : cFunc Tryz.prog [] [(0,[],[]),(1,[0,3,4],[])] Tryz.f233 = some (ac233,[.cell 2 (some 4)],5) := by kernel_rfl
theorem numberC_calls (n : Int) (hn : inR .i64 n) (H : Heap) : ACalls Tryz.prog 233 [.c (.d (.int .i64 n))] H (fun r H' => H' = H ∧ r = .agg ((Tm.mk 2 n [] []).row.map .d)) := by
  refine acalls Tryz.func233 (by kernel_rfl) ac233_ok fun hf => ?_
  simp -implicitDefEqProofs [ac233, row_mk, hn, hf, go_sem, -List.set_cons_succ, -List.set_cons_zero]
/-- a call that leaves all objects as they were, with one of several results -/
theorem call_rel {P : Program} {f : FuncId} {xs : List A} {sl : List A} {ext loc H₂ : Heap} {R : A → Prop} {K : A → St → Prop} (hc : ACalls P f xs H₂ (fun r' H' => H' = H₂ ∧ R r')) (hf : Obs.fits ext.length 0 ext) (hH : H₂ = ext ++ loc.map (Ob.re ext.length))
    (hk : ∀ r, R r → A.re ext.length r = r ∧ K r ⟨sl, ext, loc⟩) : ACalls P f xs H₂ (CallK K ⟨sl, ext, loc⟩) := by
  subst hH
  exact hc.mono fun r' H' ⟨h1, h2⟩ => ⟨ext, loc, r', h1, rfl, Nat.le_refl _, hf, (hk r' h2).1.symm, (hk r' h2).2⟩
/-- what number gives -/
def numV2 (s : List UInt8) (a : Nat) : A := match numR s a with
  | some (n, _) => .agg ((Tm.mk 2 n [] []).row.map .d)
  | none => zeroA
def numB (s : List UInt8) (a : Nat) : Int := match numR s a with
  | some _ => -1
  | none => a
set_option maxHeartbeats 1600000 in
theorem number_mv (s : List UInt8) (hs : s.length ≤ 1000000) (a : Nat) (ha : a ≤ s.length) (h : digAt s a = true ∨ (sgn s a 45 = true ∧ digAt s (a + 1) = true)) : Mv 207 [] s a (-1) (numV2 s a) (runE digAt s s.length (a + 1)) (numB s a) := fun H i hp h2 hi => by
  obtain ⟨l1, l2, l3, l4⟩ := number_law ha h
  refine acalls Tryz.func207 (by kernel_rfl) ac207_ok fun hf => ?_
  rw [ro_len] at hf
  have hf1 := fun a' b' => ro_fits (s' := s) (a' := a') (b' := b') hf
  have hfr : ∀ a' b', Obs.fits (ro H i s a' b').length 0 (ro H i s a' b') := fun a' b' => by rw [ro_len]; exact hf1 a' b'
  have ha1 : inR .i64 ((a : Int) + 1) := small_i64 (by omega) (by omega)
  have hli : inR .i64 (s.length : Int) := small_i64 (by omega) (by omega)
  simp -implicitDefEqProofs [ac207, ro_get hi, ro_len, ro_up, ha1, Ref.re, hf1, go_sem, -List.set_cons_succ, -List.set_cons_zero]
  refine loop_set (σ := Nat) (fun k => []) (fun k => ro H i s k (-1)) (fun _ => [.cells [.d (.int .i64 0), .d (.int .i64 0), .d (.str []), .full []]])
    (fun k => a + 1 ≤ k ∧ k ≤ s.length ∧ ∀ m, a + 1 + m < k → digAt s (a + 1 + m) = true) (fun k => s.length - k) (a + 1) (by simp [setAll]) ⟨Nat.le_refl _, by omega, fun m hm => by omega⟩ ?_
  rintro k ⟨hk1, hk2, hk3⟩
  have hki : inR .i64 ((k : Int) + 1) := small_i64 (by omega) (by omega)
  simp -implicitDefEqProofs [setAll, ro_len, go_sem, -List.set_cons_succ, -List.set_cons_zero]
  refine call_mv (next_mv s hs k (-1) (by omega)) hp h2 hi (by simp [Ob.re, C.re]) rfl (hf1 _ _) ?_
  simp -implicitDefEqProofs [ro_len, go_sem, -List.set_cons_succ, -List.set_cons_zero]
  refine qcall_pure (isDigit_calls (nxt s k (-1))) (hfr _ _) rfl ?_
  rw [nxt_dig]
  cases hd : digAt s k with
  | true =>
    have hlt := dig_lt _ hd
    simp -implicitDefEqProofs [ro_get hi, ro_len, ro_up, hki, Ref.re, hf1, go_sem, -List.set_cons_succ, -List.set_cons_zero]
    exact loop_back (k + 1) (by simp [setAll]) ⟨by omega, by omega, fun m hm => by
      rcases Nat.lt_or_ge (a + 1 + m) k with h | h
      · exact hk3 m h
      · rw [show a + 1 + m = k by omega]; exact hd⟩ (by show s.length - (k + 1) < s.length - k; omega)
  | false =>
    have he : runE digAt s s.length (a + 1) = k := by
      rw [runE_stop s.length (a + 1) (k - (a + 1)) (by omega) (fun m hm => hk3 m (by omega)) (.inr (by rw [show a + 1 + (k - (a + 1)) = k by omega]; exact hd))]
      omega
    rw [he] at l3 l4 ⊢
    have hcut : (s.take k).drop a = cutS s a k := rfl
    simp -implicitDefEqProofs [ro_get hi, ro_len, ro_up, hki, Ref.re, hf1, hcut, go_sem, -List.set_cons_succ, -List.set_cons_zero]
    obtain ⟨o, o2, g1, g2, hT, hE⟩ := id hp
    have hi0 : (0 : Nat) ≠ i := by omega
    have hi1 : (1 : Nat) ≠ i := by omega
    have hcl : (cutS s a k).length ≤ 1000000 := by rw [cutS_len]; omega
    refine ⟨⟨by omega, hk2⟩, ?_⟩
    refine call_rel (atoi_call hE _ (by omega) l3 _ (by rw [List.getElem?_append_left (by rw [ro_len]; omega), ro_other hi1]; exact g2)) (hfr _ _) (by simp [Ob.re, C.re]) ?_
    rintro r ⟨n, e, hn, rfl, hr⟩
    refine ⟨by simp [A.re, A.res, C.re], ?_⟩
    have hg0 : (ro H i s k (-1))[0]? = some (.tab 2 o) := by rw [ro_other hi0]; exact g1
    have fail : numR s a = none → numV2 s a = zeroA ∧ numB s a = a := fun h => by simp [numV2, numB, h]
    rcases hr with ⟨rfl, hok⟩ | ⟨p, q, rfl, hrg⟩
    · simp -implicitDefEqProofs [go_sem, -List.set_cons_succ, -List.set_cons_zero]
      refine qcall_tab (fun H' hH' => itoa_call hT n hn H' hH') (hfr _ _) hg0 rfl ?_
      by_cases heq : Lib.itoa n = cutS s a k
      · simp -implicitDefEqProofs [heq, go_sem, -List.set_cons_succ, -List.set_cons_zero]
        refine qcall_pure (within_calls n (-999) 999) (hfr _ _) rfl ?_
        cases hn4 : numR s a with
        | some x =>
          obtain ⟨m, j⟩ := x
          rw [hn4] at l4
          obtain ⟨q1, q2, q3, q4, q5⟩ := l4
          have hm : n = m := by rw [q1] at hok; cases hok; rfl
          subst hm
          simp -implicitDefEqProofs [q4, q5, hn, go_sem, -List.set_cons_succ, -List.set_cons_zero]
          refine qcall_pure (numberC_calls n hn) (hfr _ _) (by simp [A.re, re_d]) ?_
          simp -implicitDefEqProofs [numV2, numB, hn4, row_mk, hfr, go_sem, -List.set_cons_succ, -List.set_cons_zero]
        | none =>
          rw [hn4] at l4
          have hno := l4 n heq
          have hw : (decide (-999 ≤ n) && decide (n ≤ 999)) = false := by
            rw [Bool.and_eq_false_iff, decide_eq_false_iff_not, decide_eq_false_iff_not]; omega
          rw [hw]
          obtain ⟨e1, e2⟩ := fail hn4
          simp -implicitDefEqProofs [go_sem, -List.set_cons_succ, -List.set_cons_zero]
          refine call_mv (stop_mv s k (-1) a) hp h2 hi (by simp [Ob.re, C.re]) (zeroA_re _) (hf1 _ _) ?_
          simp -implicitDefEqProofs [e1, e2, zeroA, row_mk, hfr, go_sem, -List.set_cons_succ, -List.set_cons_zero]
      · have hn4 : numR s a = none := by
          cases hn4 : numR s a with
          | none => rfl
          | some x =>
            rw [hn4] at l4
            obtain ⟨q1, q2, _⟩ := l4
            rw [q1] at hok
            cases hok
            exact absurd q2 heq
        obtain ⟨e1, e2⟩ := fail hn4
        have heq2 : (Lib.itoa n != cutS s a k) = true := by simpa using heq
        simp -implicitDefEqProofs [heq, heq2, go_sem, -List.set_cons_succ, -List.set_cons_zero]
        refine call_mv (stop_mv s k (-1) a) hp h2 hi (by simp [Ob.re, C.re]) (zeroA_re _) (hf1 _ _) ?_
        simp -implicitDefEqProofs [e1, e2, zeroA, row_mk, hfr, go_sem, -List.set_cons_succ, -List.set_cons_zero]
    · have hn4 : numR s a = none := by
        cases hn4 : numR s a with
        | none => rfl
        | some x =>
          rw [hn4] at l4
          obtain ⟨q1, _⟩ := l4
          rw [q1] at hrg
          cases hrg
      obtain ⟨e1, e2⟩ := fail hn4
      simp -implicitDefEqProofs [go_sem, -List.set_cons_succ, -List.set_cons_zero]
      refine call_mv (stop_mv s k (-1) a) hp h2 hi (by simp [Ob.re, C.re]) (zeroA_re _) (hf1 _ _) ?_
      simp -implicitDefEqProofs [e1, e2, zeroA, row_mk, hfr, go_sem, -List.set_cons_succ, -List.set_cons_zero]
end Go.Proofs.YtbblefjbgbocoaaGreatDoor

/-
  The program's reader: names.
  Conditions: none.
-/
open Go Go.AM Go.Proofs
namespace Go.Proofs.YtbblefjbgbocoaaGreatDoor
open Go.ChangeShapes Go.WideShapes Go.ChangeAt Go.RowKit
set_option linter.unusedVariables false
set_option linter.unusedSimpArgs false
set_option maxRecDepth 100000
-- 212 (*loop.example/prologserver/impl.reader).name params 1 ntmps 77
-- loop head live: [0,3,4]
-- loop head live: [0,3,4,44,45,46]
def ac212 : Cd := .seq (.region [⟨(some 2),.mv (.k (.c (.d (.str [])))),none⟩] [2])
 (.seq (.region [⟨(some 7),.mv (.t 0),none⟩,
 ⟨(some 8),.nilCheck (.t 7),none⟩,
 ⟨(some 9),.fieldAddr 0 (.t 8),none⟩,
 ⟨(some 11),.mv (.t 0),none⟩,
 ⟨(some 12),.nilCheck (.t 11),none⟩,
 ⟨(some 13),.fieldAddr 1 (.t 12),none⟩,
 ⟨(some 10),.load none (.t 9),none⟩,
 ⟨(some 14),.load none (.t 13),none⟩,
 ⟨(some 15),.slice 0 (.t 10) (some (.t 14)) none none,none⟩,
 ⟨(some 3),.mv (.t 15),none⟩] [7,8,9,10,11,12,13,14,15])
 (.seq (.region [⟨(some 4),.mv (.k (.c (.d (.int .i64 0)))),none⟩] [])
 (.seq (.block 0 (.loop (.seq (.seq (.region [⟨(some 16),.mv (.t 4),none⟩,
 ⟨(some 17),.mv (.t 3),none⟩,
 ⟨(some 18),.len 0 (.t 17),none⟩,
 ⟨(some 19),.bin .lss (.t 16) (.t 18),none⟩,
 ⟨(some 20),.mv (.t 19),none⟩,
 ⟨(some 21),.mv (.t 3),some (20,true)⟩,
 ⟨(some 22),.mv (.t 4),some (20,true)⟩,
 ⟨(some 23),.index (.t 21) (.t 22),some (20,true)⟩,
 ⟨(some 24),.bin .geq (.t 23) (.k (.c (.d (.int .u8 97)))),some (20,true)⟩,
 ⟨(some 25),.pick (.t 20) (.t 24) (.k (.c (.d (.bool false)))),none⟩,
 ⟨(some 26),.mv (.t 25),none⟩,
 ⟨(some 27),.mv (.t 3),some (26,true)⟩,
 ⟨(some 28),.mv (.t 4),some (26,true)⟩,
 ⟨(some 29),.index (.t 27) (.t 28),some (26,true)⟩,
 ⟨(some 30),.bin .leq (.t 29) (.k (.c (.d (.int .u8 122)))),some (26,true)⟩,
 ⟨(some 31),.pick (.t 26) (.t 30) (.k (.c (.d (.bool false)))),none⟩] [16,17,18,19,20,21,22,23,24,25,26,27,28,29,30])
 (.cond (.t 31)
 (.skip)
 (.exit 0)))
 (.block 1 (.region [⟨(some 32),.mv (.t 4),none⟩,
 ⟨(some 33),.bin .add (.t 32) (.k (.c (.d (.int .i64 1)))),none⟩,
 ⟨(some 4),.mv (.t 33),none⟩] [31,32,33])))))
 (.seq (.seq (.region [⟨(some 34),.mv (.t 4),none⟩,
 ⟨(some 35),.bin .gtr (.t 34) (.k (.c (.d (.int .i64 6)))),none⟩] [34])
 (.cond (.t 35)
 (.seq (.region [⟨(some 36),.mv (.t 0),none⟩,
 ⟨(some 37),.mv (.t 0),none⟩,
 ⟨(some 38),.nilCheck (.t 37),none⟩,
 ⟨(some 39),.fieldAddr 1 (.t 38),none⟩,
 ⟨(some 40),.load none (.t 39),none⟩,
 ⟨(some 41),.call false 204 [(.t 36),(.t 40)],none⟩] [0,3,4,35,36,37,38,39,40,41])
 (.seq (.region [⟨(some 2),.mv (.k (.c (.d (.str [])))),none⟩] [])
 (.ret)))
 (.skip)))
 (.seq (.seq (.region [⟨(some 42),.mv (.t 4),none⟩,
 ⟨(some 43),.bin .eql (.t 42) (.k (.c (.d (.int .i64 0)))),none⟩] [2,35,42])
 (.cond (.t 43)
 (.seq (.region [⟨(some 44),.qcall 99 [],none⟩,
 ⟨(some 45),.len 1 (.t 44),none⟩,
 ⟨(some 46),.mv (.k (.c (.d (.int .i64 0)))),none⟩] [43])
 (.block 2 (.loop (.seq (.region [⟨(some 47),.bin .lss (.t 46) (.t 45),none⟩] [])
 (.seq (.cond (.t 47)
 (.skip)
 (.exit 2))
 (.seq (.block 3 (.seq (.region [⟨(some 48),.indexAddr 1 (.t 44) (.t 46),none⟩,
 ⟨(some 49),.load none (.t 48),none⟩,
 ⟨(some 6),.mv (.t 49),none⟩] [47,48,49])
 (.seq (.region [⟨(some 50),.mv (.t 3),none⟩,
 ⟨(some 51),.mv (.t 6),none⟩,
 ⟨(some 52),.qcall 209 [(.t 50),(.t 51)],none⟩] [50,51])
 (.cond (.t 52)
 (.region [⟨(some 53),.mv (.t 4),none⟩,
 ⟨(some 54),.mv (.t 6),none⟩,
 ⟨(some 55),.len 0 (.t 54),none⟩,
 ⟨(some 56),.imax (.t 53) (.t 55),none⟩,
 ⟨(some 4),.mv (.t 56),none⟩] [6,52,53,54,55,56])
 (.skip)))))
 (.region [⟨(some 57),.bin .add (.t 46) (.k (.c (.d (.int .i64 1)))),none⟩,
 ⟨(some 46),.mv (.t 57),none⟩] [6,52,57])))))))
 (.skip)))
 (.seq (.seq (.region [⟨(some 58),.mv (.t 4),none⟩,
 ⟨(some 59),.bin .eql (.t 58) (.k (.c (.d (.int .i64 0)))),none⟩] [43,58])
 (.cond (.t 59)
 (.seq (.region [⟨(some 60),.mv (.t 0),none⟩,
 ⟨(some 61),.mv (.t 0),none⟩,
 ⟨(some 62),.nilCheck (.t 61),none⟩,
 ⟨(some 63),.fieldAddr 1 (.t 62),none⟩,
 ⟨(some 64),.load none (.t 63),none⟩,
 ⟨(some 65),.call false 204 [(.t 60),(.t 64)],none⟩] [0,3,4,59,60,61,62,63,64,65])
 (.seq (.region [⟨(some 2),.mv (.k (.c (.d (.str [])))),none⟩] [])
 (.ret)))
 (.skip)))
 (.seq (.region [⟨(some 66),.mv (.t 0),none⟩,
 ⟨(some 67),.nilCheck (.t 66),none⟩,
 ⟨(some 68),.fieldAddr 1 (.t 67),none⟩,
 ⟨(some 69),.load none (.t 68),none⟩,
 ⟨(some 70),.mv (.t 4),none⟩,
 ⟨(some 71),.bin .add (.t 69) (.t 70),none⟩,
 ⟨(some 72),.nilCheck (.t 66),none⟩,
 ⟨(some 73),.fieldAddr 1 (.t 72),none⟩,
 ⟨none,.store 1 (.t 73) (.t 71),none⟩] [0,2,59,66,67,68,69,70,71,72,73])
 (.seq (.region [⟨(some 74),.mv (.t 3),none⟩,
 ⟨(some 75),.mv (.t 4),none⟩,
 ⟨(some 76),.slice 0 (.t 74) none (some (.t 75)) none,none⟩,
 ⟨(some 2),.mv (.t 76),none⟩] [3,4,74,75,76])
 (.ret)))))))))
theorem ac212_ok : cFunc Tryz.prog [1000099,1000209] [(0,[2],[]),(1,[7,8,9,10,11,12,13,14,15],[0,1,2,4,5,6,3,7,8,9]),(2,[],[]),(3,[16,17,18,19,20,21,22,23,24,25,26,27,28,29,30],[]),(4,[31,32,33],[]),(5,[34],[]),(6,[0,3,4,35,36,37,38,39,40,41],[]),(7,[],[]),(8,[2,35,42],[]),(9,[43],[]),(10,[],[]),(11,[47,48,49],[]),(12,[50,51],[]),(13,[6,52,53,54,55,56],[]),(14,[6,52,57],[]),(15,[43,58],[]),(16,[0,3,4,59,60,61,62,63,64,65],[]),(17,[],[]),(18,[0,2,59,66,67,68,69,70,71,72,73],[]),(19,[3,4,74,75,76],[])] Tryz.f212 = some (ac212,[.tmp 2],77) := by kernel_rfl
/-- the greatest length of a beginning out of a list -/
def maxP (t : List UInt8) : List (List UInt8) → Nat → Nat
  | [], n => n
  | x :: l, n => maxP t l (if t.take x.length == x then (if n < x.length then x.length else n) else n)
theorem cut_drop (s : List UInt8) (a n : Nat) : cutS s a (a + n) = (s.drop a).take n := by
  rw [cutS, List.drop_take, Nat.add_sub_cancel_left]
theorem maxP_best {s : List UInt8} {a : Nat} (ha : a ≤ s.length) : ∀ (l : List (List UInt8)) (b : List UInt8), maxP (s.drop a) l b.length = (bestS s a l b).length
  | [], b => rfl
  | x :: l, b => by
    unfold maxP bestS
    rw [cut_drop]
    by_cases h : ((s.drop a).take x.length == x) = true
    · have hl : a + x.length ≤ s.length := by
        have := congrArg List.length (beq_iff_eq.1 h)
        simp at this
        omega
      rw [if_pos h]
      by_cases hb : b.length < x.length
      · simp only [hl, h, hb, decide_true, Bool.and_self, if_true]
        exact maxP_best ha l x
      · simp only [hl, h, hb, decide_true, decide_false, Bool.and_false, Bool.false_eq_true, if_false]
        exact maxP_best ha l b
    · rw [if_neg h]
      have h' : ((s.drop a).take x.length == x) = false := by simpa using h
      simp only [h', Bool.and_false, Bool.false_and, Bool.false_eq_true, if_false]
      exact maxP_best ha l b
def nameV (s : List UInt8) (a : Nat) : A := match nameR s a with
  | some (n, _) => .c (.d (.str n))
  | none => .c (.d (.str []))
def nameJ (s : List UInt8) (a : Nat) : Nat := match nameR s a with
  | some (_, j) => j
  | none => a
def nameF (s : List UInt8) (a : Nat) : Int := match nameR s a with
  | some _ => -1
  | none => a
set_option maxHeartbeats 1600000 in
theorem name_mv (s : List UInt8) (hs : s.length ≤ 1000000) (a : Nat) (ha : a ≤ s.length) : Mv 212 [] s a (-1) (nameV s a) (nameJ s a) (nameF s a) := fun H i hp h2 hi => by
  refine acalls Tryz.func212 (by kernel_rfl) ac212_ok fun hf => ?_
  rw [ro_len] at hf
  have hf1 := fun a' b' => ro_fits (s' := s) (a' := a') (b' := b') hf
  have hfr : ∀ a' b', Obs.fits (ro H i s a' b').length 0 (ro H i s a' b') := fun a' b' => by rw [ro_len]; exact hf1 a' b'
  obtain ⟨t, ht⟩ : ∃ t, t = s.drop a := ⟨_, rfl⟩
  have htl : t.length = s.length - a := by rw [ht]; simp
  have hli : inR .i64 (t.length : Int) := small_i64 (by omega) (by omega)
  have hst : s.take s.length = s := List.take_length
  simp -implicitDefEqProofs [ac212, ro_get hi, ro_len, Ref.re, hf1, ← ht, go_sem, -List.set_cons_succ, -List.set_cons_zero]
  refine ⟨by omega, ?_⟩
  refine loop_set (σ := Nat) (fun k => [(4, .c (.d (.int .i64 k)))]) (fun k => ro H i s a (-1)) (fun _ => [])
    (fun k => k ≤ t.length ∧ ∀ m, m < k → smaAt s (a + m) = true) (fun k => t.length - k) 0 (by simp [setAll]) ⟨Nat.zero_le _, fun m hm => by omega⟩ ?_
  rintro k ⟨hk2, hk3⟩
  have hki : inR .i64 ((k : Int) + 1) := small_i64 (by omega) (by omega)
  simp -implicitDefEqProofs [setAll, ro_len, hli, go_sem, -List.set_cons_succ, -List.set_cons_zero]
  refine (fun (more : smaAt s (a + k) = true → (?more : Prop)) (stop : smaAt s (a + k) = false → (?stop : Prop)) => ?main) ?rest1 ?rest2
  case main =>
    by_cases hlt : k < t.length
    · have hsm : smaAt s (a + k) = smaB t[k] := by
        have : s[a + k]? = some t[k] := by rw [← List.getElem?_drop, ← ht, List.getElem?_eq_getElem hlt]
        unfold smaAt
        rw [this]
      simp -implicitDefEqProofs [hlt, go_sem, -List.set_cons_succ, -List.set_cons_zero]
      refine byte_nat hlt ?_
      by_cases h1 : (97 : Int) ≤ t[k].toNat
      · simp -implicitDefEqProofs [h1, go_sem, -List.set_cons_succ, -List.set_cons_zero]
        refine byte_nat hlt ?_
        by_cases h3 : (t[k].toNat : Int) ≤ 122
        · simp -implicitDefEqProofs [h3, hki, go_sem, -List.set_cons_succ, -List.set_cons_zero]
          exact more (by rw [hsm]; simp [smaB]; omega)
        · simp -implicitDefEqProofs [h3, hki, go_sem, -List.set_cons_succ, -List.set_cons_zero]
          exact stop (by rw [hsm]; simp [smaB]; omega)
      · simp -implicitDefEqProofs [h1, go_sem, -List.set_cons_succ, -List.set_cons_zero]
        refine byte_off 0 ?_
        simp -implicitDefEqProofs [go_sem, -List.set_cons_succ, -List.set_cons_zero]
        exact stop (by rw [hsm]; simp [smaB]; omega)
    · simp -implicitDefEqProofs [hlt, go_sem, -List.set_cons_succ, -List.set_cons_zero]
      refine byte_off 0 ?_
      simp -implicitDefEqProofs [go_sem, -List.set_cons_succ, -List.set_cons_zero]
      refine byte_off 0 ?_
      simp -implicitDefEqProofs [go_sem, -List.set_cons_succ, -List.set_cons_zero]
      exact stop (sma_end (by simp; omega))
  case rest1 =>
    intro hsm
    have hlt := sma_lt _ hsm
    exact loop_back (k + 1) (by simp [setAll]) ⟨by omega, fun m hm => by
      rcases Nat.lt_or_ge m k with h | h
      · exact hk3 m h
      · rw [show m = k by omega]; exact hsm⟩ (by show t.length - (k + 1) < t.length - k; omega)
  case rest2 =>
    intro hsm
    have he : runE smaAt s s.length a = a + k := runE_stop s.length a k (by omega) hk3 (.inr hsm)
    have hii : inR .i64 ((a : Int) + (k : Int)) := small_i64 (by omega) (by omega)
    refine ⟨fun h6 => ?_, fun h6 => ⟨fun h0 => ?_, fun h0 => ⟨fun h => absurd h h0, fun _ => ?_⟩⟩⟩
    · have hn : nameR s a = none := by unfold nameR; rw [he, if_pos (by omega)]
      simp -implicitDefEqProofs [ro_get hi, ro_len, go_sem, -List.set_cons_succ, -List.set_cons_zero]
      refine call_mv (stop_mv s a (-1) a) hp h2 hi (by simp [Ob.re, C.re]) (zeroA_re _) (hf1 _ _) ?_
      simp -implicitDefEqProofs [nameV, nameJ, nameF, hn, go_sem, -List.set_cons_succ, -List.set_cons_zero]
    · subst h0
      refine qcall_pure symbols_calls (hfr _ _) rfl ?_
      have hsl : signs.length = 15 := rfl
      have hs15 : inR .i64 (15 : Int) := small_i64 (by omega) (by omega)
      have hs0 : inR .i64 (0 : Int) := small_i64 (by omega) (by omega)
      simp -implicitDefEqProofs [hsl, hs15, go_sem, -List.set_cons_succ, -List.set_cons_zero]
      obtain ⟨G, hG⟩ : ∃ G, G = bestS s a signs [] := ⟨_, rfl⟩
      have hG2 : maxP t signs 0 = G.length := by rw [hG, ht]; exact maxP_best ha signs []
      have hG3 : G.length ≤ t.length := by
        obtain ⟨⟨y, hy⟩, _⟩ := best_max ha signs [] ⟨s.drop a, by simp⟩
        rw [← hG, ← ht] at hy
        rw [← hy]; simp
      refine loop_set (σ := Nat × Nat) (fun x => [(46, .c (.d (.int .i64 x.1))), (4, .c (.d (.int .i64 x.2)))]) (fun _ => ro H i s a (-1)) (fun _ => []) (fun x => x.1 ≤ 15 ∧ maxP t (signs.drop x.1) x.2 = G.length ∧ x.2 ≤ 3) (fun x => 15 - x.1) (0, 0) (by simp [setAll]) ⟨by omega, hG2, by simp⟩ ?_
      rintro ⟨j, b⟩ ⟨hj, h1, h3⟩
      simp only at hj h1 h3
      simp -implicitDefEqProofs [setAll, hsl, hs15, ro_len, go_sem, -List.set_cons_succ, -List.set_cons_zero]
      refine ⟨fun hlt => ?_, fun hge => ?_⟩
      · have hlt' : j < signs.length := by rw [hsl]; omega
        have hd : signs.drop j = signs[j] :: signs.drop (j + 1) := List.drop_eq_getElem_cons hlt'
        rw [hd, maxP] at h1
        have h4 : signs[j].length ≤ 3 := by
          have : ∀ n ∈ signs, n.length ≤ 3 := by decide
          exact this _ (List.getElem_mem hlt')
        have hrow : (signs.map strRow)[j]? = some [.str signs[j]] := by simp [hlt', strRow]
        obtain ⟨w, hw⟩ : ∃ w, w = signs[j] := ⟨_, rfl⟩
        rw [← hw] at h1 h4 hrow
        have hwl : inR .i64 (w.length : Int) := small_i64 (by omega) (by omega)
        have hadd : inR .i64 ((j : Int) + 1) := small_i64 (by omega) (by omega)
        refine row_nat _ hrow rfl ?_
        simp -implicitDefEqProofs [ro_len, go_sem, -List.set_cons_succ, -List.set_cons_zero]
        refine qcall_pure (hasPrefix_calls t w (by omega) (by omega)) (hfr _ _) rfl ?_
        cases hq : (t.take w.length == w) with
        | true =>
          rw [hq] at h1
          simp only [if_true] at h1
          simp -implicitDefEqProofs [hwl, hadd, ro_len, go_sem, -List.set_cons_succ, -List.set_cons_zero]
          by_cases hbw : b < w.length
          · rw [if_pos hbw] at h1
            refine loop_back (j + 1, w.length) (by simp [setAll, hbw]) ⟨by omega, h1, h4⟩ (by show 15 - (j + 1) < 15 - j; omega)
          · rw [if_neg hbw] at h1
            refine loop_back (j + 1, b) (by simp [setAll, hbw]) ⟨by omega, h1, h3⟩ (by show 15 - (j + 1) < 15 - j; omega)
        | false =>
          rw [hq] at h1
          simp only [Bool.false_eq_true, if_false] at h1
          simp -implicitDefEqProofs [hadd, ro_len, go_sem, -List.set_cons_succ, -List.set_cons_zero]
          exact loop_back (j + 1, b) (by simp [setAll]) ⟨by omega, h1, h3⟩ (by show 15 - (j + 1) < 15 - j; omega)
      · obtain rfl : j = 15 := by omega
        have h15 : signs.drop 15 = [] := rfl
        rw [h15, maxP] at h1
        subst h1
        have hgi : inR .i64 ((a : Int) + (G.length : Int)) := small_i64 (by omega) (by omega)
        by_cases hG0 : G = []
        · have hn : nameR s a = none := by unfold nameR; rw [he, if_neg (by omega), if_neg (by omega), ← hG, if_pos hG0]
          simp -implicitDefEqProofs [hG0, ro_get hi, ro_len, go_sem, -List.set_cons_succ, -List.set_cons_zero]
          refine call_mv (stop_mv s a (-1) a) hp h2 hi (by simp [Ob.re, C.re]) (zeroA_re _) (hf1 _ _) ?_
          simp -implicitDefEqProofs [nameV, nameJ, nameF, hn, go_sem, -List.set_cons_succ, -List.set_cons_zero]
        · have hn : nameR s a = some (G, a + G.length) := by unfold nameR; rw [he, if_neg (by omega), if_neg (by omega), ← hG, if_neg hG0]
          have htk : t.take G.length = G := by
            obtain ⟨⟨y, hy⟩, _⟩ := best_max ha signs [] ⟨s.drop a, by simp⟩
            rw [← hG, ← ht] at hy
            rw [← hy, List.take_left]
          simp -implicitDefEqProofs [hG0, ro_get hi, ro_len, hgi, hf1, htk, ro_set1, Ref.re, nameV, nameJ, nameF, hn, go_sem, -List.set_cons_succ, -List.set_cons_zero]
          exact hG3
    · have hn : nameR s a = some (t.take k, a + k) := by
        unfold nameR
        rw [he, if_neg (by omega), if_pos (by omega), cut_drop, ← ht]
      simp -implicitDefEqProofs [ro_get hi, ro_len, hii, hf1, ro_set1, Ref.re, nameV, nameJ, nameF, hn, go_sem, -List.set_cons_succ, -List.set_cons_zero]
      exact hk2
end Go.Proofs.YtbblefjbgbocoaaGreatDoor

/-
  Operators as the program reads them: the plain law.
  Conditions: none.
-/
open Go Go.AM Go.Proofs
namespace Go.Proofs.YtbblefjbgbocoaaGreatDoor
set_option linter.unusedVariables false
set_option linter.unusedSimpArgs false
set_option maxRecDepth 100000
def opL : List (List UInt8) := signs ++ [[105, 115], [109, 111, 100]]
def opOk (t x : List UInt8) : Bool := decide (0 < levelN x) && (t.take (opSp x).length == opSp x)
/-- the longest operator that stands there -/
def opBest (t : List UInt8) : List (List UInt8) → List UInt8 → List UInt8
  | [], b => b
  | x :: l, b => opBest t l (if (opOk t x && decide (b.length < x.length)) = true then x else b)
theorem opBest_spec (t : List UInt8) : ∀ (l : List (List UInt8)) (b : List UInt8), (opBest t l b = b ∨ (opBest t l b ∈ l ∧ opOk t (opBest t l b) = true)) ∧ b.length ≤ (opBest t l b).length ∧ ∀ x ∈ l, opOk t x = true → x.length ≤ (opBest t l b).length
  | [], b => ⟨.inl rfl, Nat.le_refl _, by simp⟩
  | x :: l, b => by
    unfold opBest
    by_cases h : (opOk t x && decide (b.length < x.length)) = true
    · rw [if_pos h]
      obtain ⟨h1, h2, h3⟩ := opBest_spec t l x
      simp only [Bool.and_eq_true, decide_eq_true_eq] at h
      refine ⟨.inr ?_, by omega, fun y hy hok => ?_⟩
      · rcases h1 with h1 | ⟨h1, h4⟩
        · rw [h1]; exact ⟨by simp, h.1⟩
        · exact ⟨by simp [h1], h4⟩
      · rcases List.mem_cons.1 hy with rfl | hy
        · exact h2
        · exact h3 y hy hok
    · rw [if_neg h]
      obtain ⟨h1, h2, h3⟩ := opBest_spec t l b
      simp only [Bool.and_eq_true, decide_eq_true_eq, not_and] at h
      refine ⟨?_, h2, fun y hy hok => ?_⟩
      · rcases h1 with h1 | ⟨h1, h4⟩
        · exact .inl h1
        · exact .inr ⟨by simp [h1], h4⟩
      · rcases List.mem_cons.1 hy with rfl | hy
        · have := h hok; omega
        · exact h3 y hy hok
theorem opOk_iff {t x : List UInt8} : opOk t x = true ↔ 0 < levelN x ∧ opSp x <+: t := by
  unfold opOk
  rw [Bool.and_eq_true, decide_eq_true_eq, beq_iff_eq, List.prefix_iff_eq_take]
  exact ⟨fun h => ⟨h.1, h.2.symm⟩, fun h => ⟨h.1, h.2.symm⟩⟩
theorem sign_facts : ∀ x ∈ signs, (opSp x == x && !wordB x && (match x with | [] => false | c :: _ => !(c == 32) && !smaB c)) = true := by decide
theorem sign_ops : ∀ x ∈ signs, ∀ y ∈ signs, (!(decide (0 < levelN x)) || !(y.take x.length == x) || decide (0 < levelN y)) = true := by decide
theorem ops_cases {n : List UInt8} (h : 1 ≤ levelN n) : n ∈ signs ∨ n = [105, 115] ∨ n = [109, 111, 100] := by
  have hm := level_ops h
  have : ∀ n ∈ allOps, n ∈ signs ∨ n = [105, 115] ∨ n = [109, 111, 100] := by decide
  exact this n hm
section
variable {s : List UInt8} {a : Nat} (ha : a ≤ s.length)
include ha
theorem word_op {x : List UInt8} (hx : x = [105, 115] ∨ x = [109, 111, 100]) (h : 32 :: x ++ [32] <+: s.drop a) : opR s a = some (x, a + (x.length + 2)) := by
  obtain ⟨y, hy⟩ := h
  have hl : lettersB x = true := by rcases hx with rfl | rfl <;> decide
  have hw : wordB x = true := by rcases hx with rfl | rfl <;> decide
  have hlv : ¬ levelN x = 0 := by rcases hx with rfl | rfl <;> decide
  have hd : s.drop a = 32 :: (x ++ 32 :: y) := by rw [← hy]; simp
  have h32 : sgn s a 32 = true := by rw [sgn_dr hd]; rfl
  have hd1 : s.drop (a + 1) = x ++ 32 :: y := by
    have := dr_add (w := [32]) (r := x ++ 32 :: y) (s := s) (i := a) (by simpa using hd)
    simpa using this
  have hlen := dr_len (w := [32]) (r := x ++ 32 :: y) (s := s) (i := a) (by simpa using hd) ha
  simp at hlen
  have hn : nameR s (a + 1) = some (x, a + 1 + x.length) := nameR_letters (by omega) hd1 hl fun c r' e => by cases e; decide
  have hd2 : s.drop (a + 1 + x.length) = 32 :: y := dr_add hd1
  have h322 : sgn s (a + 1 + x.length) 32 = true := by rw [sgn_dr hd2]; rfl
  unfold opR
  rw [h32]
  simp only [if_true]
  rw [if_neg (by omega), hn]
  simp only
  rw [if_neg hlv, hw, h322]
  simp
  omega
theorem sign_op {x : List UInt8} (hx : x ∈ signs) (hlv : 0 < levelN x) (h : x <+: s.drop a) : ∃ n, n ∈ signs ∧ x.length ≤ n.length ∧ opR s a = some (n, a + n.length) ∧ n <+: s.drop a := by
  have hf := sign_facts x hx
  obtain ⟨y, hy⟩ := id h
  obtain ⟨c, w, hxc⟩ : ∃ c w, x = c :: w := by
    cases x with
    | nil => simp at hf
    | cons c w => exact ⟨c, w, rfl⟩
  rw [hxc] at hf hy
  simp at hf
  have hd : s.drop a = c :: (w ++ y) := by rw [← hy]; rfl
  have h32 : sgn s a 32 = false := by
    rw [sgn_dr hd]
    simpa using hf.2.1
  have hsm : smaAt s a = false := by rw [sma_dr hd]; exact hf.2.2
  have hlen : a < s.length := by
    rcases Nat.lt_or_ge a s.length with h | h
    · exact h
    · rw [List.drop_eq_nil_of_le h] at hd; cases hd
  have hrun : runE smaAt s s.length a = a := by
    cases s.length with
    | zero => rfl
    | succ n => unfold runE; rw [hsm]; rfl
  obtain ⟨b1, _, b3, b4⟩ := best_max ha signs [] ⟨s.drop a, by simp⟩
  have hle := b3 x hx h
  have hne : bestS s a signs [] ≠ [] := by
    intro e
    rw [e, hxc] at hle
    simp at hle
  have hm : bestS s a signs [] ∈ signs := by
    rcases b4 with b4 | b4
    · exact absurd b4 hne
    · exact b4
  have hn : nameR s a = some (bestS s a signs [], a + (bestS s a signs []).length) := by
    unfold nameR
    rw [hrun, if_neg (by omega), if_neg (by omega), if_neg hne]
  generalize bestS s a signs [] = z at b1 hle hne hm hn
  have hpre : x <+: z := List.prefix_of_prefix_length_le h b1 hle
  have hz := sign_ops x hx z hm
  rw [List.prefix_iff_eq_take.1 hpre] at hlv
  have hz2 : 0 < levelN z := by
    simp only [Bool.or_eq_true, Bool.not_eq_true', decide_eq_false_iff_not, decide_eq_true_eq] at hz
    rcases hz with (hz | hz) | hz
    · rw [← List.prefix_iff_eq_take.1 hpre] at hlv; exact absurd hlv hz
    · rw [← List.prefix_iff_eq_take.1 hpre] at hz; simp at hz
    · exact hz
  have hwz : wordB z = false := by
    have := sign_facts z hm
    simp at this
    exact this.1.2
  refine ⟨z, hm, hle, ?_, b1⟩
  unfold opR
  rw [h32]
  simp only [Bool.false_eq_true, if_false]
  rw [if_neg (by omega), hn]
  simp only
  rw [if_neg (by omega), hwz]
  simp
theorem opR_cand {n : List UInt8} {j : Nat} (h : opR s a = some (n, j)) : n ∈ opL ∧ opOk (s.drop a) n = true ∧ j = a + (opSp n).length := by
  have hor := h
  unfold opR at h
  cases h32 : sgn s a 32 with
  | true =>
    rw [h32] at h
    simp only [if_true] at h
    split at h
    · cases h
    · rename_i hlt
      cases hn : nameR s (a + 1) with
      | none => rw [hn] at h; cases h
      | some q =>
        obtain ⟨m, k⟩ := q
        rw [hn] at h
        simp only at h
        split at h
        · cases h
        · rename_i hlv
          split at h
          · cases h
          · rename_i hw
            simp only [Option.some.injEq, Prod.mk.injEq] at h
            simp at hw
            obtain ⟨hw1, hw2⟩ := hw
            have hk := hw2 hw1
            obtain ⟨rfl, rfl⟩ := h
            have hmx : m = [105, 115] ∨ m = [109, 111, 100] := by simpa [wordB] using hw1
            have hd : s.drop a = 32 :: s.drop (a + 1) := by
              have h0 := sgn_lt h32
              have : s[a]? = some 32 := by
                unfold sgn at h32
                split at h32
                · rename_i b hb; simp at h32; rw [hb, h32]
                · cases h32
              obtain ⟨g1, g2⟩ := List.getElem?_eq_some_iff.1 this
              rw [List.drop_eq_getElem_cons g1, g2]
            -- the name is a run of letters
            have hpre : m <+: s.drop (a + 1) ∧ k = a + 1 + m.length := by
              unfold nameR at hn
              obtain ⟨q1, _, q3⟩ := runE_le (sma_lt (s := s)) s.length (a + 1)
              have q3 := q3 (by omega)
              split at hn
              · cases hn
              · split at hn
                · simp only [Option.some.injEq, Prod.mk.injEq] at hn
                  obtain ⟨rfl, rfl⟩ := hn
                  refine ⟨?_, by rw [cutS_len]; omega⟩
                  rw [cutS, List.drop_take]
                  exact List.take_prefix _ _
                · split at hn
                  · cases hn
                  · simp only [Option.some.injEq, Prod.mk.injEq] at hn
                    obtain ⟨rfl, rfl⟩ := hn
                    exact ⟨(best_max (s := s) (i := a + 1) (by omega) signs [] ⟨_, by simp; rfl⟩).1, rfl⟩
            obtain ⟨⟨y, hy⟩, hke⟩ := hpre
            have hdk : s.drop k = y := by rw [hke]; exact dr_add hy.symm
            have hk32 : ∃ y', y = 32 :: y' := by
              have : s[k]? = some 32 := by
                unfold sgn at hk
                split at hk
                · rename_i b hb; simp at hk; rw [hb, hk]
                · cases hk
              obtain ⟨g1, g2⟩ := List.getElem?_eq_some_iff.1 this
              exact ⟨s.drop (k + 1), by rw [← hdk, List.drop_eq_getElem_cons g1, g2]⟩
            obtain ⟨y', rfl⟩ := hk32
            have hsp : opSp m = 32 :: m ++ [32] := by rcases hmx with rfl | rfl <;> decide
            refine ⟨by rcases hmx with rfl | rfl <;> decide, opOk_iff.2 ⟨by rcases hmx with rfl | rfl <;> decide, ?_⟩, ?_⟩
            · rw [hsp, hd, ← hy]
              exact ⟨y', by simp⟩
            · rw [hw1, hsp]
              simp
              omega
  | false =>
    rw [h32] at h
    simp only [Bool.false_eq_true, if_false] at h
    split at h
    · cases h
    · rename_i hlt
      cases hn : nameR s a with
      | none => rw [hn] at h; cases h
      | some q =>
        obtain ⟨m, k⟩ := q
        rw [hn] at h
        simp only at h
        split at h
        · cases h
        · rename_i hlv
          split at h
          · cases h
          · rename_i hw
            simp only [Option.some.injEq, Prod.mk.injEq] at h
            simp at hw
            have hw1 : wordB m = false := hw.1
            rw [hw1] at h
            simp only [Bool.false_eq_true, if_false] at h
            obtain ⟨rfl, rfl⟩ := h
            have hlv1 := (opR_level hor).1
            have hms : m ∈ signs := by
              rcases ops_cases hlv1 with h | rfl | rfl
              · exact h
              · cases hw1
              · cases hw1
            have hf := sign_facts m hms
            have hsp : opSp m = m := by simp at hf; exact hf.1.1
            have hpre : m <+: s.drop a ∧ k = a + m.length := by
              unfold nameR at hn
              obtain ⟨q1, _, q3⟩ := runE_le (sma_lt (s := s)) s.length a
              have q3 := q3 ha
              split at hn
              · cases hn
              · split at hn
                · simp only [Option.some.injEq, Prod.mk.injEq] at hn
                  obtain ⟨rfl, rfl⟩ := hn
                  refine ⟨?_, by rw [cutS_len]; omega⟩
                  rw [cutS, List.drop_take]
                  exact List.take_prefix _ _
                · split at hn
                  · cases hn
                  · simp only [Option.some.injEq, Prod.mk.injEq] at hn
                    obtain ⟨rfl, rfl⟩ := hn
                    exact ⟨(best_max (s := s) (i := a) ha signs [] ⟨_, by simp; rfl⟩).1, rfl⟩
            refine ⟨List.mem_append_left _ hms, opOk_iff.2 ⟨by omega, by rw [hsp]; exact hpre.1⟩, by rw [hsp]; exact hpre.2⟩
theorem op_law : match opR s a with
    | none => opBest (s.drop a) opL [] = []
    | some (n, j) => opBest (s.drop a) opL [] = n ∧ j = a + (opSp n).length := by
  obtain ⟨h1, _, h3⟩ := opBest_spec (s.drop a) opL []
  have cand : ∀ x ∈ opL, opOk (s.drop a) x = true → ∃ n j, opR s a = some (n, j) ∧ x.length ≤ n.length ∧ (x.length = n.length → x = n) := fun x hx hok => by
    obtain ⟨hlv, hpre⟩ := opOk_iff.1 hok
    have word : ∀ x, (x = [105, 115] ∨ x = [109, 111, 100]) → opSp x <+: s.drop a → ∃ n j, opR s a = some (n, j) ∧ x.length ≤ n.length ∧ (x.length = n.length → x = n) := fun x hx hpre => by
      have hsp : opSp x = 32 :: x ++ [32] := by rcases hx with rfl | rfl <;> decide
      rw [hsp] at hpre
      exact ⟨x, _, word_op ha hx hpre, Nat.le_refl _, fun _ => rfl⟩
    rcases List.mem_append.1 hx with hx | hx
    · have hsp : opSp x = x := by have := sign_facts x hx; simp at this; exact this.1.1
      rw [hsp] at hpre
      obtain ⟨n, q1, q2, q3, q4⟩ := sign_op ha hx hlv hpre
      refine ⟨n, _, q3, q2, fun e => ?_⟩
      have := List.prefix_of_prefix_length_le hpre q4 q2
      exact this.eq_of_length e
    · simp at hx
      exact word x hx hpre
  cases ho : opR s a with
  | none =>
    rcases h1 with h1 | ⟨h1, h4⟩
    · exact h1
    · obtain ⟨n, j, q, _⟩ := cand _ h1 h4
      rw [ho] at q; cases q
  | some q =>
    obtain ⟨n, j⟩ := q
    obtain ⟨c1, c2, c3⟩ := opR_cand ha ho
    have hle := h3 n c1 c2
    have hpos : 0 < n.length := by
      obtain ⟨hlv, _⟩ := opOk_iff.1 c2
      rcases Nat.eq_zero_or_pos n.length with h | h
      · rw [List.length_eq_zero_iff] at h; subst h; exact absurd hlv (by decide)
      · exact h
    refine ⟨?_, c3⟩
    rcases h1 with h1 | ⟨h1, h4⟩
    · rw [h1] at hle; simp at hle; subst hle; simp at hpos
    · obtain ⟨n', j', q1, q2, q3⟩ := cand _ h1 h4
      rw [ho] at q1
      cases q1
      exact q3 (by omega)
end
end Go.Proofs.YtbblefjbgbocoaaGreatDoor

/-
  The program's reader: operators.
  Conditions: none.
-/
open Go Go.AM Go.Proofs
namespace Go.Proofs.YtbblefjbgbocoaaGreatDoor
open Go.ChangeShapes Go.WideShapes Go.ChangeAt Go.RowKit
set_option linter.unusedVariables false
set_option linter.unusedSimpArgs false
set_option maxRecDepth 100000
namespace Full
-- 99 loop.example/prologserver/impl.symbols params 0 ntmps 2
def ac99 : Cd := .seq (.region [⟨(some 0),.mv (.k (.c (.full []))),none⟩] [0])
 (.seq (.region [⟨(some 1),.buildSlice 1 15 [(.str [])] [(0,(.k (.c (.d (.str [43]))))),(1,(.k (.c (.d (.str [45]))))),(2,(.k (.c (.d (.str [42]))))),(3,(.k (.c (.d (.str [47,47]))))),(4,(.k (.c (.d (.str [61]))))),(5,(.k (.c (.d (.str [92,61]))))),(6,(.k (.c (.d (.str [61,61]))))),(7,(.k (.c (.d (.str [60]))))),(8,(.k (.c (.d (.str [62]))))),(9,(.k (.c (.d (.str [61,60]))))),(10,(.k (.c (.d (.str [62,61]))))),(11,(.k (.c (.d (.str [61,58,61]))))),(12,(.k (.c (.d (.str [46]))))),(13,(.k (.c (.d (.str [91,93]))))),(14,(.k (.c (.d (.str [33])))))],none⟩,
 ⟨(some 0),.mv (.t 1),none⟩] [1])
 (.ret))
theorem ac99_ok : cFunc Tryz.prog [] [(0,[0],[]),(1,[1],[])] Tryz.f99 = some (ac99,[.tmp 0],2) := by kernel_rfl
end Full
-- 169 (*loop.example/prologserver/impl.reader).operator params 1 ntmps 46
-- loop head live: [0,3,14,15,16]
def ac169 : Cd := .seq (.region [⟨(some 2),.mv (.k (.c (.d (.str [])))),none⟩] [2])
 (.seq (.region [⟨(some 3),.mv (.k (.c (.d (.str [])))),none⟩] [])
 (.seq (.seq (.region [⟨(some 6),.mv (.t 0),none⟩,
 ⟨(some 7),.nilCheck (.t 6),none⟩,
 ⟨(some 8),.fieldAddr 2 (.t 7),none⟩,
 ⟨(some 9),.load none (.t 8),none⟩,
 ⟨(some 10),.bin .geq (.t 9) (.k (.c (.d (.int .i64 0)))),none⟩] [6,7,8,9])
 (.cond (.t 10)
 (.seq (.region [⟨(some 11),.mv (.t 3),none⟩,
 ⟨(some 2),.mv (.t 11),none⟩] [0,3,10,11])
 (.ret))
 (.skip)))
 (.seq (.seq (.region [⟨(some 12),.qcall 99 [],none⟩,
 ⟨(some 13),.buildSlice 1 2 [(.str [])] [(0,(.k (.c (.d (.str [105,115]))))),(1,(.k (.c (.d (.str [109,111,100])))))],none⟩,
 ⟨(some 14),.append false 1 (.t 12) (.t 13),none⟩,
 ⟨(some 15),.len 1 (.t 14),none⟩,
 ⟨(some 16),.mv (.k (.c (.d (.int .i64 0)))),none⟩] [2,10,12,13])
 (.block 0 (.loop (.seq (.region [⟨(some 17),.bin .lss (.t 16) (.t 15),none⟩] [])
 (.seq (.cond (.t 17)
 (.skip)
 (.exit 0))
 (.seq (.block 1 (.seq (.region [⟨(some 18),.indexAddr 1 (.t 14) (.t 16),none⟩,
 ⟨(some 19),.load none (.t 18),none⟩,
 ⟨(some 5),.mv (.t 19),none⟩] [17,18,19])
 (.seq (.region [⟨(some 20),.mv (.t 5),none⟩,
 ⟨(some 21),.qcall 132 [(.t 20)],none⟩,
 ⟨(some 22),.mv (.t 21),none⟩,
 ⟨(some 23),.mv (.t 0),some (22,true)⟩,
 ⟨(some 24),.nilCheck (.t 23),some (22,true)⟩,
 ⟨(some 25),.fieldAddr 0 (.t 24),some (22,true)⟩,
 ⟨(some 27),.mv (.t 0),some (22,true)⟩,
 ⟨(some 28),.nilCheck (.t 27),some (22,true)⟩,
 ⟨(some 29),.fieldAddr 1 (.t 28),some (22,true)⟩,
 ⟨(some 32),.mv (.t 5),some (22,true)⟩,
 ⟨(some 26),.load none (.t 25),some (22,true)⟩,
 ⟨(some 30),.load none (.t 29),some (22,true)⟩,
 ⟨(some 31),.slice 0 (.t 26) (some (.t 30)) none none,some (22,true)⟩,
 ⟨(some 33),.qcall 172 [(.t 32)],some (22,true)⟩,
 ⟨(some 34),.qcall 209 [(.t 31),(.t 33)],some (22,true)⟩,
 ⟨(some 35),.pick (.t 22) (.t 34) (.k (.c (.d (.bool false)))),none⟩,
 ⟨(some 36),.mv (.t 35),none⟩,
 ⟨(some 37),.mv (.t 5),some (36,true)⟩,
 ⟨(some 38),.len 0 (.t 37),some (36,true)⟩,
 ⟨(some 39),.mv (.t 3),some (36,true)⟩,
 ⟨(some 40),.len 0 (.t 39),some (36,true)⟩,
 ⟨(some 41),.bin .gtr (.t 38) (.t 40),some (36,true)⟩,
 ⟨(some 42),.pick (.t 36) (.t 41) (.k (.c (.d (.bool false)))),none⟩] [20,21,22,23,24,25,26,27,28,29,30,31,32,33,34,35,36,37,38,39,40,41])
 (.cond (.t 42)
 (.region [⟨(some 43),.mv (.t 5),none⟩,
 ⟨(some 3),.mv (.t 43),none⟩] [5,42,43])
 (.skip)))))
 (.region [⟨(some 44),.bin .add (.t 16) (.k (.c (.d (.int .i64 1)))),none⟩,
 ⟨(some 16),.mv (.t 44),none⟩] [5,42,44])))))))
 (.seq (.region [⟨(some 45),.mv (.t 3),none⟩,
 ⟨(some 2),.mv (.t 45),none⟩] [3,45])
 (.ret)))))
theorem ac169_ok : cFunc Tryz.prog [1000099,1000132,1000172,1000209] [(0,[2],[]),(1,[],[]),(2,[6,7,8,9],[]),(3,[0,3,10,11],[]),(4,[2,10,12,13],[]),(5,[],[]),(6,[17,18,19],[]),(7,[20,21,22,23,24,25,26,27,28,29,30,31,32,33,34,35,36,37,38,39,40,41],[0,1,2,3,4,5,7,8,9,12,6,10,11,13,14,15,16,17,18,19,20,21,22]),(8,[5,42,43],[]),(9,[5,42,44],[]),(10,[3,45],[])] Tryz.f169 = some (ac169,[.tmp 2],46) := by kernel_rfl
theorem symbols_full (H : Heap) : ACalls Tryz.prog 99 [] H (fun r H' => H' = H ∧ r = .c (.full (signs.map strRow))) := by
  refine acallsK Tryz.func99 (by kernel_rfl) Full.ac99_ok fun hf => ?_
  simp -implicitDefEqProofs [Full.ac99, hf, go_sem, -List.set_cons_succ, -List.set_cons_zero]
  refine finK_ret _ ⟨trivial, trivial⟩ rfl ?_
  exact ⟨by simp, rfl⟩
def opV (s : List UInt8) (a : Nat) : List UInt8 := match opR s a with
  | some (n, _) => n
  | none => []
theorem operator_bad (s : List UInt8) (a : Nat) (b : Int) (hb : 0 ≤ b) : Mv 169 [] s a b (.c (.d (.str []))) a b := fun H i hp h2 hi => by
  refine acalls Tryz.func169 (by kernel_rfl) ac169_ok fun hf => ?_
  simp -implicitDefEqProofs [ac169, ro_get hi, hb, Ref.re, go_sem, -List.set_cons_succ, -List.set_cons_zero]
set_option maxHeartbeats 1600000 in
theorem operator_mv (s : List UInt8) (hs : s.length ≤ 1000000) (a : Nat) (ha : a ≤ s.length) : Mv 169 [] s a (-1) (.c (.d (.str (opV s a)))) a (-1) := fun H i hp h2 hi => by
  refine acalls Tryz.func169 (by kernel_rfl) ac169_ok fun hf => ?_
  rw [ro_len] at hf
  have hf1 := fun a' b' => ro_fits (s' := s) (a' := a') (b' := b') hf
  have hfr : ∀ a' b', Obs.fits (ro H i s a' b').length 0 (ro H i s a' b') := fun a' b' => by rw [ro_len]; exact hf1 a' b'
  obtain ⟨t, ht⟩ : ∃ t, t = s.drop a := ⟨_, rfl⟩
  have htl : t.length = s.length - a := by rw [ht]; simp
  have hst : s.take s.length = s := List.take_length
  have hV : opBest t opL [] = opV s a := by
    have := op_law ha
    rw [ht]
    unfold opV
    cases ho : opR s a with
    | none => rw [ho] at this; exact this
    | some q => obtain ⟨n, j⟩ := q; rw [ho] at this; exact this.1
  simp -implicitDefEqProofs [ac169, ro_get hi, ro_len, Ref.re, hf1, ← ht, go_sem, -List.set_cons_succ, -List.set_cons_zero]
  refine qcall_pure symbols_full (hfr _ _) (by simp [A.re, C.re]) ?_
  have hrows : signs.map strRow ++ [[.str [105, 115]], [.str [109, 111, 100]]] = opL.map strRow := rfl
  simp -implicitDefEqProofs [ro_len, go_sem, -List.set_cons_succ, -List.set_cons_zero]
  have hl15 : signs.length = 15 := rfl
  have hi17 : inR .i64 ((signs.length : Int) + 2) := small_i64 (by omega) (by omega)
  have hlo : opL.length = 17 := rfl
  refine ⟨allLen_map fun _ => rfl, by unfold maxApp; omega, hi17, ?_⟩
  have hpos : posF (signs.map strRow) [[.str [105, 115]], [.str [109, 111, 100]]] = signs.length + 2 := rfl
  simp only [hrows]
  refine loop_set (σ := Nat × List UInt8) (fun x => [(16, .c (.d (.int .i64 x.1))), (3, .c (.d (.str x.2)))]) (fun _ => ro H i s a (-1)) (fun _ => [.grow (signs.length + 2) 1]) (fun x => x.1 ≤ 17 ∧ opBest t (opL.drop x.1) x.2 = opV s a ∧ x.2.length ≤ 3) (fun x => 17 - x.1) (0, []) (by simp [setAll, hpos]) ⟨by omega, hV, by simp⟩ ?_
  rintro ⟨j, b⟩ ⟨hj, h1, h3⟩
  simp only at hj h1 h3
  have hadd : inR .i64 ((j : Int) + 1) := small_i64 (by omega) (by omega)
  simp -implicitDefEqProofs [setAll, hl15, ro_len, go_sem, -List.set_cons_succ, -List.set_cons_zero]
  refine ⟨fun hlt => ?_, fun hge => ?_⟩
  · have hlt' : j < opL.length := by rw [hlo]; omega
    have hd : opL.drop j = opL[j] :: opL.drop (j + 1) := List.drop_eq_getElem_cons hlt'
    rw [hd, opBest] at h1
    have h4 : opL[j].length ≤ 3 ∧ (opSp opL[j]).length ≤ 5 := by
      have : ∀ n ∈ opL, n.length ≤ 3 ∧ (opSp n).length ≤ 5 := by decide
      exact this _ (List.getElem_mem hlt')
    have hrow : (opL.map strRow)[j]? = some [.str opL[j]] := by simp [hlt', strRow]
    obtain ⟨w, hw⟩ : ∃ w, w = opL[j] := ⟨_, rfl⟩
    rw [← hw] at h1 h4 hrow
    have hwl : inR .i64 (w.length : Int) := small_i64 (by omega) (by omega)
    have hbl : inR .i64 (b.length : Int) := small_i64 (by omega) (by omega)
    refine row_nat _ hrow rfl ?_
    simp -implicitDefEqProofs [ro_len, go_sem, -List.set_cons_succ, -List.set_cons_zero]
    refine qcall_pure (isOp_calls w) (hfr _ _) rfl ?_
    have hok : opOk t w = (decide (0 < levelN w) && (t.take (opSp w).length == opSp w)) := rfl
    rw [hok] at h1
    cases hlv : decide (0 < levelN w) with
    | true =>
      rw [hlv] at h1
      simp -implicitDefEqProofs [ro_get hi, ro_len, ← ht, go_sem, -List.set_cons_succ, -List.set_cons_zero]
      refine ⟨ha, qcall_pure (opText_calls w (by omega)) (hfr _ _) rfl ?_⟩
      simp -implicitDefEqProofs [ro_len, go_sem, -List.set_cons_succ, -List.set_cons_zero]
      refine qcall_pure (hasPrefix_calls t (opSp w) (by omega) (by omega)) (hfr _ _) rfl ?_
      simp only [Bool.true_and] at h1
      cases hq : (t.take (opSp w).length == opSp w) with
      | true =>
        rw [hq] at h1
        simp only [Bool.true_and, decide_eq_true_eq] at h1
        by_cases hbw : b.length < w.length
        · have hbw' : (b.length : Int) < (w.length : Int) := by omega
          rw [if_pos hbw] at h1
          simp -implicitDefEqProofs [hwl, hbl, hbw, hbw', hadd, ro_len, go_sem, -List.set_cons_succ, -List.set_cons_zero]
          exact loop_back (j + 1, w) (by simp [setAll, hpos, hl15]) ⟨by omega, h1, h4.1⟩ (by show 17 - (j + 1) < 17 - j; omega)
        · have hbw' : ¬ (b.length : Int) < (w.length : Int) := by omega
          rw [if_neg hbw] at h1
          simp -implicitDefEqProofs [hwl, hbl, hbw, hbw', hadd, ro_len, go_sem, -List.set_cons_succ, -List.set_cons_zero]
          exact loop_back (j + 1, b) (by simp [setAll, hpos, hl15]) ⟨by omega, h1, h3⟩ (by show 17 - (j + 1) < 17 - j; omega)
      | false =>
        rw [hq] at h1
        simp only [Bool.false_and, Bool.false_eq_true, if_false] at h1
        simp -implicitDefEqProofs [hwl, hbl, hadd, ro_len, go_sem, -List.set_cons_succ, -List.set_cons_zero]
        exact loop_back (j + 1, b) (by simp [setAll, hpos, hl15]) ⟨by omega, h1, h3⟩ (by show 17 - (j + 1) < 17 - j; omega)
    | false =>
      rw [hlv] at h1
      simp only [Bool.false_and, Bool.false_eq_true, if_false] at h1
      simp -implicitDefEqProofs [ro_get hi, ro_len, ← ht, hadd, go_sem, -List.set_cons_succ, -List.set_cons_zero]
      exact loop_back (j + 1, b) (by simp [setAll, hpos, hl15]) ⟨by omega, h1, h3⟩ (by show 17 - (j + 1) < 17 - j; omega)
  · obtain rfl : j = 17 := by omega
    have h17 : opL.drop 17 = [] := rfl
    rw [h17, opBest] at h1
    subst h1
    simp -implicitDefEqProofs [ro_len, go_sem, -List.set_cons_succ, -List.set_cons_zero]
end Go.Proofs.YtbblefjbgbocoaaGreatDoor

/-
  The program's reader: what its functions do, and terms with operators.
  Conditions: none.
-/
open Go Go.AM Go.Proofs
namespace Go.Proofs.YtbblefjbgbocoaaGreatDoor
open Go.ChangeShapes Go.WideShapes Go.ChangeAt Go.RowKit
set_option linter.unusedVariables false
set_option linter.unusedSimpArgs false
set_option maxRecDepth 100000
-- 109 (*loop.example/prologserver/impl.reader).term params 3 ntmps 58
-- loop head live: [0,1,2,6,7,8]
def ac109 : Cd := .seq (.region [⟨(some 6),.alloc [(.d (.int .i64 0)),(.d (.int .i64 0)),(.d (.str [])),(.full [])],none⟩] [])
 (.seq (.region [⟨(some 13),.mv (.t 0),none⟩,
 ⟨(some 14),.mv (.t 2),none⟩,
 ⟨(some 15),.call false 168 [(.t 13),(.t 14)],none⟩,
 ⟨(some 7),.alloc [(.d (.int .i64 0)),(.d (.int .i64 0)),(.d (.str [])),(.full [])],none⟩,
 ⟨none,.store 4 (.t 7) (.t 15),none⟩] [13,14,15])
 (.seq (.region [⟨(some 8),.mv (.k (.c (.d (.int .i64 0)))),none⟩] [])
 (.block 0 (.loop (.block 1 (.seq (.region [⟨(some 16),.mv (.t 0),none⟩,
 ⟨(some 17),.call false 169 [(.t 16)],none⟩,
 ⟨(some 9),.mv (.t 17),none⟩] [16,17])
 (.seq (.region [⟨(some 19),.mv (.t 9),none⟩,
 ⟨(some 20),.qcall 170 [(.t 19)],none⟩,
 ⟨(some 18),.mv (.t 20),none⟩,
 ⟨(some 21),.extract 0 (.t 18),none⟩,
 ⟨(some 22),.extract 1 (.t 18),none⟩,
 ⟨(some 10),.mv (.t 21),none⟩,
 ⟨(some 11),.mv (.t 22),none⟩] [11,18,19,20,21,22])
 (.seq (.seq (.region [⟨(some 23),.mv (.t 9),none⟩,
 ⟨(some 24),.bin .eql (.t 23) (.k (.c (.d (.str [])))),none⟩,
 ⟨(some 25),.mv (.t 24),none⟩,
 ⟨(some 26),.mv (.t 10),some (25,false)⟩,
 ⟨(some 27),.mv (.t 1),some (25,false)⟩,
 ⟨(some 28),.bin .gtr (.t 26) (.t 27),some (25,false)⟩,
 ⟨(some 29),.pick (.t 25) (.k (.c (.d (.bool true)))) (.t 28),none⟩,
 ⟨(some 30),.mv (.t 29),none⟩,
 ⟨(some 31),.mv (.t 8),some (30,false)⟩,
 ⟨(some 32),.mv (.t 9),some (30,false)⟩,
 ⟨(some 33),.qcall 171 [(.t 32)],some (30,false)⟩,
 ⟨(some 34),.bin .gtr (.t 31) (.t 33),some (30,false)⟩,
 ⟨(some 35),.pick (.t 30) (.k (.c (.d (.bool true)))) (.t 34),none⟩] [8,23,24,25,26,27,28,29,30,31,32,33,34])
 (.cond (.t 35)
 (.seq (.region [⟨(some 36),.load (some 4) (.t 7),none⟩,
 ⟨none,.store 4 (.t 6) (.t 36),none⟩] [0,1,2,7,9,10,35,36])
 (.ret))
 (.skip)))
 (.seq (.region [⟨(some 37),.mv (.t 0),none⟩,
 ⟨(some 38),.nilCheck (.t 37),none⟩,
 ⟨(some 39),.fieldAddr 1 (.t 38),none⟩,
 ⟨(some 41),.mv (.t 9),none⟩,
 ⟨(some 40),.load none (.t 39),none⟩,
 ⟨(some 42),.qcall 172 [(.t 41)],none⟩,
 ⟨(some 43),.len 0 (.t 42),none⟩,
 ⟨(some 44),.bin .add (.t 40) (.t 43),none⟩,
 ⟨(some 45),.nilCheck (.t 37),none⟩,
 ⟨(some 46),.fieldAddr 1 (.t 45),none⟩,
 ⟨none,.store 1 (.t 46) (.t 44),none⟩] [35,37,38,39,40,41,42,43,44,45,46])
 (.seq (.region [⟨(some 47),.mv (.t 0),none⟩,
 ⟨(some 48),.mv (.t 10),none⟩,
 ⟨(some 49),.bin .sub (.t 48) (.k (.c (.d (.int .i64 1)))),none⟩,
 ⟨(some 50),.mv (.t 2),none⟩,
 ⟨(some 51),.call false 109 [(.t 47),(.t 49),(.t 50)],none⟩,
 ⟨(some 12),.alloc [(.d (.int .i64 0)),(.d (.int .i64 0)),(.d (.str [])),(.full [])],none⟩,
 ⟨none,.store 4 (.t 12) (.t 51),none⟩] [47,48,49,50,51])
 (.region [⟨(some 52),.mv (.t 9),none⟩,
 ⟨(some 53),.load (some 4) (.t 7),none⟩,
 ⟨(some 54),.load (some 4) (.t 12),none⟩,
 ⟨(some 55),.buildSlice 4 2 [(.int .i64 0),(.int .i64 0),(.str []),(.sl [])] [(0,(.t 53)),(1,(.t 54))],none⟩,
 ⟨(some 56),.build [(.d (.int .i64 0)),(.d (.int .i64 0)),(.d (.str [])),(.full [])] [(0,1,(.k (.c (.d (.int .i64 3))))),(2,1,(.t 52)),(3,1,(.t 55))],none⟩,
 ⟨(some 57),.mv (.t 10),none⟩,
 ⟨none,.store 4 (.t 7) (.t 56),none⟩,
 ⟨(some 8),.mv (.t 57),none⟩] [9,10,12,52,53,54,55,56,57])))))))))))
theorem ac109_ok : cFunc Tryz.prog [1000170,1000171,1000172] [(0,[],[]),(1,[13,14,15],[]),(2,[],[]),(3,[16,17],[]),(4,[11,18,19,20,21,22],[]),(5,[8,23,24,25,26,27,28,29,30,31,32,33,34],[]),(6,[0,1,2,7,9,10,35,36],[]),(7,[35,37,38,39,40,41,42,43,44,45,46],[0,1,2,4,3,5,6,7,8,9,10]),(8,[47,48,49,50,51],[]),(9,[9,10,12,52,53,54,55,56,57],[])] Tryz.f109 = some (ac109,[.cell 6 (some 4)],58) := by kernel_rfl
-- 213 (*loop.example/prologserver/impl.reader).part params 2 ntmps 15
def ac213 : Cd := .seq (.region [⟨(some 4),.alloc [(.d (.int .i64 0)),(.d (.int .i64 0)),(.d (.str [])),(.full [])],none⟩] [])
 (.seq (.seq (.region [⟨(some 5),.mv (.t 0),none⟩,
 ⟨(some 6),.nilCheck (.t 5),none⟩,
 ⟨(some 7),.fieldAddr 3 (.t 6),none⟩,
 ⟨(some 8),.load none (.t 7),none⟩] [5,6,7])
 (.cond (.t 8)
 (.seq (.region [⟨(some 9),.mv (.t 0),none⟩,
 ⟨(some 10),.mv (.t 1),none⟩,
 ⟨(some 11),.call false 109 [(.t 9),(.k (.c (.d (.int .i64 3)))),(.t 10)],none⟩,
 ⟨none,.store 4 (.t 4) (.t 11),none⟩] [0,1,8,9,10,11])
 (.ret))
 (.skip)))
 (.seq (.region [⟨(some 12),.mv (.t 0),none⟩,
 ⟨(some 13),.mv (.t 1),none⟩,
 ⟨(some 14),.call false 168 [(.t 12),(.t 13)],none⟩,
 ⟨none,.store 4 (.t 4) (.t 14),none⟩] [0,1,8,12,13,14])
 (.ret)))
theorem ac213_ok : cFunc Tryz.prog [] [(0,[],[]),(1,[5,6,7],[]),(2,[0,1,8,9,10,11],[]),(3,[0,1,8,12,13,14],[])] Tryz.f213 = some (ac213,[.cell 4 (some 4)],15) := by kernel_rfl
theorem drop_row (t : Tm) : List.drop 4 (t.row.map C.d) = [] := List.drop_of_length_le (by simp [row_len])
section
variable {s : List UInt8} (hs : s.length ≤ 1000000) {f : Nat}
include hs
end
end Go.Proofs.YtbblefjbgbocoaaGreatDoor

/-
  The program's reader: lists.
  Conditions: none.
-/
open Go Go.AM Go.Proofs
namespace Go.Proofs.YtbblefjbgbocoaaGreatDoor
open Go.ChangeShapes Go.WideShapes Go.ChangeAt Go.RowKit
set_option linter.unusedVariables false
set_option linter.unusedSimpArgs false
set_option maxRecDepth 100000
-- 210 (*loop.example/prologserver/impl.reader).list params 2 ntmps 52
-- loop head live: [0,1,4,5,6]
def ac210 : Cd := .seq (.region [⟨(some 4),.alloc [(.d (.int .i64 0)),(.d (.int .i64 0)),(.d (.str [])),(.full [])],none⟩] [])
 (.seq (.region [⟨(some 5),.mv (.k (.c (.full []))),none⟩] [])
 (.seq (.seq (.region [⟨(some 6),.mv (.k (.c (.d (.bool true)))),none⟩] [])
 (.block 0 (.loop (.seq (.seq (.region [⟨(some 8),.mv (.t 6),none⟩] [6])
 (.cond (.t 8)
 (.skip)
 (.exit 0)))
 (.block 1 (.seq (.region [⟨(some 9),.mv (.t 5),none⟩,
 ⟨(some 10),.mv (.t 0),none⟩,
 ⟨(some 11),.mv (.t 1),none⟩,
 ⟨(some 12),.bin .add (.t 11) (.k (.c (.d (.int .i64 1)))),none⟩,
 ⟨(some 13),.mv (.t 5),none⟩,
 ⟨(some 14),.len 1 (.t 13),none⟩,
 ⟨(some 15),.bin .add (.t 12) (.t 14),none⟩,
 ⟨(some 16),.call false 213 [(.t 10),(.t 15)],none⟩,
 ⟨(some 17),.buildSlice 4 1 [(.int .i64 0),(.int .i64 0),(.str []),(.sl [])] [(0,(.t 16))],none⟩,
 ⟨(some 18),.append false 4 (.t 9) (.t 17),none⟩,
 ⟨(some 5),.mv (.t 18),none⟩] [8,9,10,11,12,13,14,15,16,17,18])
 (.seq (.region [⟨(some 19),.mv (.t 0),none⟩,
 ⟨(some 20),.call false 110 [(.t 19)],none⟩,
 ⟨(some 21),.bin .eql (.t 20) (.k (.c (.d (.int .u8 44)))),none⟩,
 ⟨(some 6),.mv (.t 21),none⟩] [19,20,21])
 (.seq (.region [⟨(some 22),.mv (.t 6),none⟩] [])
 (.cond (.t 22)
 (.region [⟨(some 23),.mv (.t 0),none⟩,
 ⟨(some 24),.nilCheck (.t 23),none⟩,
 ⟨(some 25),.fieldAddr 1 (.t 24),none⟩,
 ⟨(some 26),.load none (.t 25),none⟩,
 ⟨(some 27),.bin .add (.t 26) (.k (.c (.d (.int .i64 1)))),none⟩,
 ⟨(some 28),.nilCheck (.t 23),none⟩,
 ⟨(some 29),.fieldAddr 1 (.t 28),none⟩,
 ⟨none,.store 1 (.t 29) (.t 27),none⟩] [22,23,24,25,26,27,28,29])
 (.skip))))))))))
 (.seq (.region [⟨(some 30),.qcall 211 [(.k (.c (.d (.str [91,93]))))],none⟩,
 ⟨(some 7),.alloc [(.d (.int .i64 0)),(.d (.int .i64 0)),(.d (.str [])),(.full [])],none⟩,
 ⟨none,.store 4 (.t 7) (.t 30),none⟩] [30])
 (.seq (.seq (.region [⟨(some 31),.mv (.t 0),none⟩,
 ⟨(some 32),.call false 110 [(.t 31)],none⟩,
 ⟨(some 33),.bin .eql (.t 32) (.k (.c (.d (.int .u8 124)))),none⟩] [31,32])
 (.cond (.t 33)
 (.seq (.region [⟨(some 34),.mv (.t 0),none⟩,
 ⟨(some 35),.nilCheck (.t 34),none⟩,
 ⟨(some 36),.fieldAddr 1 (.t 35),none⟩,
 ⟨(some 37),.load none (.t 36),none⟩,
 ⟨(some 38),.bin .add (.t 37) (.k (.c (.d (.int .i64 1)))),none⟩,
 ⟨(some 39),.nilCheck (.t 34),none⟩,
 ⟨(some 40),.fieldAddr 1 (.t 39),none⟩,
 ⟨none,.store 1 (.t 40) (.t 38),none⟩] [33,34,35,36,37,38,39,40])
 (.region [⟨(some 41),.mv (.t 0),none⟩,
 ⟨(some 42),.mv (.t 1),none⟩,
 ⟨(some 43),.mv (.t 5),none⟩,
 ⟨(some 44),.len 1 (.t 43),none⟩,
 ⟨(some 45),.bin .add (.t 42) (.t 44),none⟩,
 ⟨(some 46),.call false 213 [(.t 41),(.t 45)],none⟩,
 ⟨none,.store 4 (.t 7) (.t 46),none⟩] [1,41,42,43,44,45,46]))
 (.skip)))
 (.seq (.region [⟨(some 47),.mv (.t 0),none⟩,
 ⟨(some 48),.call false 208 [(.t 47),(.k (.c (.d (.int .u8 93))))],none⟩] [0,1,33,47,48])
 (.seq (.region [⟨(some 49),.mv (.t 5),none⟩,
 ⟨(some 50),.load (some 4) (.t 7),none⟩,
 ⟨(some 51),.qcall 235 [(.t 49),(.t 50)],none⟩,
 ⟨none,.store 4 (.t 4) (.t 51),none⟩] [5,7,49,50,51])
 (.ret)))))))
theorem ac210_ok : cFunc Tryz.prog [1000211,1000235] [(0,[],[]),(1,[],[]),(2,[],[]),(3,[6],[]),(4,[8,9,10,11,12,13,14,15,16,17,18],[]),(5,[19,20,21],[]),(6,[],[]),(7,[22,23,24,25,26,27,28,29],[]),(8,[30],[]),(9,[31,32],[]),(10,[33,34,35,36,37,38,39,40],[]),(11,[1,41,42,43,44,45,46],[]),(12,[0,1,33,47,48],[]),(13,[5,7,49,50,51],[])] Tryz.f210 = some (ac210,[.cell 4 (some 4)],52) := by kernel_rfl
-- 211 loop.example/prologserver/impl.atom params 1 ntmps 5
def ac211 : Cd := .seq (.region [⟨(some 2),.alloc [(.d (.int .i64 0)),(.d (.int .i64 0)),(.d (.str [])),(.full [])],none⟩] [])
 (.seq (.region [⟨(some 3),.mv (.t 0),none⟩,
 ⟨(some 4),.build [(.d (.int .i64 0)),(.d (.int .i64 0)),(.d (.str [])),(.full [])] [(0,1,(.k (.c (.d (.int .i64 3))))),(2,1,(.t 3))],none⟩,
 ⟨none,.store 4 (.t 2) (.t 4),none⟩] [0,3,4])
 (.ret))
theorem ac211_ok : cFunc Tryz.prog [] [(0,[],[]),(1,[0,3,4],[])] Tryz.f211 = some (ac211,[.cell 2 (some 4)],5) := by kernel_rfl
theorem nxt_bad (s : List UInt8) (a : Nat) (e : Nat) : nxt s a e = 0 := by unfold nxt; rw [if_pos (by omega)]
def Rs.app2 (out : List Tm) : Rs → Rs
  | .ok us k => .ok (out ++ us) k
  | .bad e => .bad e
section
variable {s : List UInt8} (hs : s.length ≤ 1000000) {f : Nat}
include hs
/-- what stands behind a list's elements -/
def listK (s : List UInt8) (f d : Nat) (ts : List Tm) (j : Nat) : Option Rs :=
  if sgn s j 124 then thn (rp s f (.term 3 (d + ts.length) (j + 1))) fun us k => if sgn s k 93 then some (.ok [chainT ts (Rs.tm us)] (k + 1)) else some (.bad k)
  else if sgn s j 93 then some (.ok [chainT ts nilT] (j + 1)) else some (.bad j)
end
end Go.Proofs.YtbblefjbgbocoaaGreatDoor

/-
  The program's reader: terms without operators.
  Conditions: none.
-/
open Go Go.AM Go.Proofs
namespace Go.Proofs.YtbblefjbgbocoaaGreatDoor
open Go.ChangeShapes Go.WideShapes Go.ChangeAt Go.RowKit
set_option linter.unusedVariables false
set_option linter.unusedSimpArgs false
set_option maxRecDepth 100000
namespace Full
-- 168 (*loop.example/prologserver/impl.reader).primary params 2 ntmps 134
-- loop head live: [0,1,4,7,8]
def ac168 : Cd := .seq (.region [⟨(some 4),.alloc [(.d (.int .i64 0)),(.d (.int .i64 0)),(.d (.str [])),(.full [])],none⟩] [])
 (.seq (.seq (.region [⟨(some 9),.mv (.t 0),none⟩,
 ⟨(some 10),.nilCheck (.t 9),none⟩,
 ⟨(some 11),.fieldAddr 2 (.t 10),none⟩,
 ⟨(some 12),.load none (.t 11),none⟩,
 ⟨(some 13),.bin .geq (.t 12) (.k (.c (.d (.int .i64 0)))),none⟩] [9,10,11,12])
 (.cond (.t 13)
 (.seq (.region [⟨(some 14),.build [(.d (.int .i64 0)),(.d (.int .i64 0)),(.d (.str [])),(.full [])] [],none⟩,
 ⟨none,.store 4 (.t 4) (.t 14),none⟩] [0,1,13,14])
 (.ret))
 (.skip)))
 (.seq (.seq (.region [⟨(some 15),.mv (.t 1),none⟩,
 ⟨(some 16),.bin .gtr (.t 15) (.k (.c (.d (.int .i64 30)))),none⟩] [13,15])
 (.cond (.t 16)
 (.seq (.region [⟨(some 17),.mv (.t 0),none⟩,
 ⟨(some 18),.mv (.t 0),none⟩,
 ⟨(some 19),.nilCheck (.t 18),none⟩,
 ⟨(some 20),.fieldAddr 1 (.t 19),none⟩,
 ⟨(some 21),.load none (.t 20),none⟩,
 ⟨(some 22),.call false 204 [(.t 17),(.t 21)],none⟩,
 ⟨none,.store 4 (.t 4) (.t 22),none⟩] [0,1,16,17,18,19,20,21,22])
 (.ret))
 (.skip)))
 (.seq (.region [⟨(some 23),.mv (.t 0),none⟩,
 ⟨(some 24),.call false 110 [(.t 23)],none⟩,
 ⟨(some 5),.mv (.t 24),none⟩] [16,23,24])
 (.seq (.block 0 (.seq (.region [⟨(some 26),.mv (.t 5),none⟩,
 ⟨(some 27),.bin .eql (.t 26) (.k (.c (.d (.int .u8 0)))),none⟩,
 ⟨(some 25),.mv (.t 27),none⟩] [26,27])
 (.cond (.t 25)
 (.seq (.region [⟨(some 28),.mv (.t 0),none⟩,
 ⟨(some 29),.mv (.t 0),none⟩,
 ⟨(some 30),.nilCheck (.t 29),none⟩,
 ⟨(some 31),.fieldAddr 1 (.t 30),none⟩,
 ⟨(some 32),.load none (.t 31),none⟩,
 ⟨(some 33),.call false 204 [(.t 28),(.t 32)],none⟩,
 ⟨none,.store 4 (.t 4) (.t 33),none⟩] [0,1,5,25,28,29,30,31,32,33])
 (.ret))
 (.seq (.region [⟨(some 35),.mv (.t 5),none⟩,
 ⟨(some 36),.bin .geq (.t 35) (.k (.c (.d (.int .u8 65)))),none⟩,
 ⟨(some 37),.mv (.t 36),none⟩,
 ⟨(some 38),.mv (.t 5),some (37,true)⟩,
 ⟨(some 39),.bin .leq (.t 38) (.k (.c (.d (.int .u8 90)))),some (37,true)⟩,
 ⟨(some 40),.pick (.t 37) (.t 39) (.k (.c (.d (.bool false)))),none⟩,
 ⟨(some 34),.mv (.t 40),none⟩] [25,35,36,37,38,39,40])
 (.cond (.t 34)
 (.seq (.region [⟨(some 41),.mv (.t 0),none⟩,
 ⟨(some 42),.nilCheck (.t 41),none⟩,
 ⟨(some 43),.fieldAddr 1 (.t 42),none⟩,
 ⟨(some 44),.load none (.t 43),none⟩,
 ⟨(some 45),.bin .add (.t 44) (.k (.c (.d (.int .i64 1)))),none⟩,
 ⟨(some 46),.nilCheck (.t 41),none⟩,
 ⟨(some 47),.fieldAddr 1 (.t 46),none⟩,
 ⟨none,.store 1 (.t 47) (.t 45),none⟩] [0,1,34,41,42,43,44,45,46,47])
 (.seq (.region [⟨(some 48),.mv (.t 5),none⟩,
 ⟨(some 49),.bin .sub (.t 48) (.k (.c (.d (.int .u8 65)))),none⟩,
 ⟨(some 50),.cvInt .i64 (.t 49),none⟩,
 ⟨(some 51),.qcall 205 [(.t 50)],none⟩,
 ⟨none,.store 4 (.t 4) (.t 51),none⟩] [5,48,49,50,51])
 (.ret)))
 (.seq (.region [⟨(some 53),.mv (.t 0),none⟩,
 ⟨(some 54),.call false 206 [(.t 53)],none⟩,
 ⟨(some 52),.mv (.t 54),none⟩] [34,53,54])
 (.cond (.t 52)
 (.seq (.region [⟨(some 55),.mv (.t 0),none⟩,
 ⟨(some 56),.call false 207 [(.t 55)],none⟩,
 ⟨none,.store 4 (.t 4) (.t 56),none⟩] [0,1,5,52,55,56])
 (.ret))
 (.seq (.region [⟨(some 58),.mv (.t 5),none⟩,
 ⟨(some 59),.bin .eql (.t 58) (.k (.c (.d (.int .u8 40)))),none⟩,
 ⟨(some 60),.mv (.t 59),none⟩,
 ⟨(some 61),.mv (.t 0),some (60,true)⟩,
 ⟨(some 62),.nilCheck (.t 61),some (60,true)⟩,
 ⟨(some 63),.fieldAddr 3 (.t 62),some (60,true)⟩,
 ⟨(some 64),.load none (.t 63),some (60,true)⟩,
 ⟨(some 65),.pick (.t 60) (.t 64) (.k (.c (.d (.bool false)))),none⟩,
 ⟨(some 57),.mv (.t 65),none⟩] [52,58,59,60,61,62,63,64,65])
 (.cond (.t 57)
 (.seq (.region [⟨(some 66),.mv (.t 0),none⟩,
 ⟨(some 67),.nilCheck (.t 66),none⟩,
 ⟨(some 68),.fieldAddr 1 (.t 67),none⟩,
 ⟨(some 69),.load none (.t 68),none⟩,
 ⟨(some 70),.bin .add (.t 69) (.k (.c (.d (.int .i64 1)))),none⟩,
 ⟨(some 71),.nilCheck (.t 66),none⟩,
 ⟨(some 72),.fieldAddr 1 (.t 71),none⟩,
 ⟨none,.store 1 (.t 72) (.t 70),none⟩] [5,57,66,67,68,69,70,71,72])
 (.seq (.region [⟨(some 73),.mv (.t 0),none⟩,
 ⟨(some 74),.mv (.t 1),none⟩,
 ⟨(some 75),.call false 109 [(.t 73),(.k (.c (.d (.int .i64 3)))),(.t 74)],none⟩,
 ⟨(some 6),.alloc [(.d (.int .i64 0)),(.d (.int .i64 0)),(.d (.str [])),(.full [])],none⟩,
 ⟨none,.store 4 (.t 6) (.t 75),none⟩] [1,73,74,75])
 (.seq (.region [⟨(some 76),.mv (.t 0),none⟩,
 ⟨(some 77),.call false 208 [(.t 76),(.k (.c (.d (.int .u8 41))))],none⟩] [0,76,77])
 (.seq (.region [⟨(some 78),.load (some 4) (.t 6),none⟩,
 ⟨none,.store 4 (.t 4) (.t 78),none⟩] [6,78])
 (.ret)))))
 (.seq (.region [⟨(some 80),.mv (.t 5),none⟩,
 ⟨(some 81),.bin .eql (.t 80) (.k (.c (.d (.int .u8 91)))),none⟩,
 ⟨(some 82),.mv (.t 81),none⟩,
 ⟨(some 83),.mv (.t 0),some (82,true)⟩,
 ⟨(some 84),.nilCheck (.t 83),some (82,true)⟩,
 ⟨(some 85),.fieldAddr 0 (.t 84),some (82,true)⟩,
 ⟨(some 87),.mv (.t 0),some (82,true)⟩,
 ⟨(some 88),.nilCheck (.t 87),some (82,true)⟩,
 ⟨(some 89),.fieldAddr 1 (.t 88),some (82,true)⟩,
 ⟨(some 86),.load none (.t 85),some (82,true)⟩,
 ⟨(some 90),.load none (.t 89),some (82,true)⟩,
 ⟨(some 91),.slice 0 (.t 86) (some (.t 90)) none none,some (82,true)⟩,
 ⟨(some 92),.qcall 209 [(.t 91),(.k (.c (.d (.str [91,93]))))],some (82,true)⟩,
 ⟨(some 93),.un .not (.t 92),some (82,true)⟩,
 ⟨(some 94),.pick (.t 82) (.t 93) (.k (.c (.d (.bool false)))),none⟩,
 ⟨(some 79),.mv (.t 94),none⟩] [5,57,80,81,82,83,84,85,86,87,88,89,90,91,92,93,94])
 (.cond (.t 79)
 (.seq (.region [⟨(some 95),.mv (.t 0),none⟩,
 ⟨(some 96),.nilCheck (.t 95),none⟩,
 ⟨(some 97),.fieldAddr 1 (.t 96),none⟩,
 ⟨(some 98),.load none (.t 97),none⟩,
 ⟨(some 99),.bin .add (.t 98) (.k (.c (.d (.int .i64 1)))),none⟩,
 ⟨(some 100),.nilCheck (.t 95),none⟩,
 ⟨(some 101),.fieldAddr 1 (.t 100),none⟩,
 ⟨none,.store 1 (.t 101) (.t 99),none⟩] [79,95,96,97,98,99,100,101])
 (.seq (.region [⟨(some 102),.mv (.t 0),none⟩,
 ⟨(some 103),.mv (.t 1),none⟩,
 ⟨(some 104),.call false 210 [(.t 102),(.t 103)],none⟩,
 ⟨none,.store 4 (.t 4) (.t 104),none⟩] [0,1,102,103,104])
 (.ret)))
 (.skip))))))))))))
 (.seq (.region [⟨(some 105),.mv (.t 0),none⟩,
 ⟨(some 106),.call false 212 [(.t 105)],none⟩,
 ⟨(some 107),.call false 211 [(.t 106)],none⟩,
 ⟨(some 7),.alloc [(.d (.int .i64 0)),(.d (.int .i64 0)),(.d (.str [])),(.full [])],none⟩,
 ⟨none,.store 4 (.t 7) (.t 107),none⟩] [79,105,106,107])
 (.seq (.seq (.region [⟨(some 108),.mv (.t 0),none⟩,
 ⟨(some 109),.call false 110 [(.t 108)],none⟩,
 ⟨(some 110),.bin .eql (.t 109) (.k (.c (.d (.int .u8 40)))),none⟩] [108,109])
 (.cond (.t 110)
 (.seq (.seq (.region [⟨(some 8),.mv (.k (.c (.d (.bool true)))),none⟩] [110])
 (.block 1 (.loop (.seq (.seq (.region [⟨(some 111),.mv (.t 8),none⟩] [8])
 (.cond (.t 111)
 (.skip)
 (.exit 1)))
 (.seq (.block 2 (.seq (.region [⟨(some 115),.mv (.t 0),none⟩,
 ⟨(some 116),.nilCheck (.t 115),none⟩,
 ⟨(some 117),.fieldAddr 1 (.t 116),none⟩,
 ⟨(some 118),.load none (.t 117),none⟩,
 ⟨(some 119),.bin .add (.t 118) (.k (.c (.d (.int .i64 1)))),none⟩,
 ⟨(some 120),.nilCheck (.t 115),none⟩,
 ⟨(some 121),.fieldAddr 1 (.t 120),none⟩,
 ⟨none,.store 1 (.t 121) (.t 119),none⟩] [111,115,116,117,118,119,120,121])
 (.region [⟨(some 122),.fieldAddr 3 (.t 7),none⟩,
 ⟨(some 124),.mv (.t 0),none⟩,
 ⟨(some 125),.mv (.t 1),none⟩,
 ⟨(some 126),.bin .add (.t 125) (.k (.c (.d (.int .i64 1)))),none⟩,
 ⟨(some 123),.loadL false none (.t 122),none⟩,
 ⟨(some 127),.callL false false 213 [(.t 124),(.t 126)],none⟩,
 ⟨(some 128),.buildSlice 4 1 [(.int .i64 0),(.int .i64 0),(.str []),(.sl [])] [(0,(.t 127))],none⟩,
 ⟨(some 129),.append false 4 (.t 123) (.t 128),none⟩,
 ⟨(some 130),.fieldAddr 3 (.t 7),none⟩,
 ⟨none,.store 1 (.t 130) (.t 129),none⟩] [122,123,124,125,126,127,128,129,130])))
 (.region [⟨(some 112),.mv (.t 0),none⟩,
 ⟨(some 113),.call false 110 [(.t 112)],none⟩,
 ⟨(some 114),.bin .eql (.t 113) (.k (.c (.d (.int .u8 44)))),none⟩,
 ⟨(some 8),.mv (.t 114),none⟩] [112,113,114]))))))
 (.region [⟨(some 131),.mv (.t 0),none⟩,
 ⟨(some 132),.call false 208 [(.t 131),(.k (.c (.d (.int .u8 41))))],none⟩] [0,131,132]))
 (.skip)))
 (.seq (.region [⟨(some 133),.load (some 4) (.t 7),none⟩,
 ⟨none,.store 4 (.t 4) (.t 133),none⟩] [0,1,7,110,133])
 (.ret))))))))
theorem ac168_ok : cFunc Tryz.prog [1000205,1000209,5000122,6000213] [(0,[],[]),(1,[9,10,11,12],[]),(2,[0,1,13,14],[]),(3,[13,15],[]),(4,[0,1,16,17,18,19,20,21,22],[]),(5,[16,23,24],[]),(6,[26,27],[]),(7,[0,1,5,25,28,29,30,31,32,33],[]),(8,[25,35,36,37,38,39,40],[]),(9,[0,1,34,41,42,43,44,45,46,47],[]),(10,[5,48,49,50,51],[]),(11,[34,53,54],[]),(12,[0,1,5,52,55,56],[]),(13,[52,58,59,60,61,62,63,64,65],[]),(14,[5,57,66,67,68,69,70,71,72],[]),(15,[1,73,74,75],[]),(16,[0,76,77],[]),(17,[6,78],[]),(18,[5,57,80,81,82,83,84,85,86,87,88,89,90,91,92,93,94],[0,1,2,3,4,5,7,8,9,6,10,11,12,13,14,15]),(19,[79,95,96,97,98,99,100,101],[]),(20,[0,1,102,103,104],[]),(21,[79,105,106,107],[]),(22,[108,109],[]),(23,[110],[]),(24,[8],[]),(26,[111,115,116,117,118,119,120,121],[]),(27,[122,123,124,125,126,127,128,129,130],[0,2,3,4,1,5,6,7,8,9]),(25,[112,113,114],[]),(28,[0,131,132],[]),(29,[0,1,7,110,133],[])] Tryz.f168 = some (ac168,[.cell 4 (some 4)],134) := by kernel_rfl
end Full
-- 205 loop.example/prologserver/impl.variable params 1 ntmps 5
def ac205 : Cd := .seq (.region [⟨(some 2),.alloc [(.d (.int .i64 0)),(.d (.int .i64 0)),(.d (.str [])),(.full [])],none⟩] [])
 (.seq (.region [⟨(some 3),.mv (.t 0),none⟩,
 ⟨(some 4),.build [(.d (.int .i64 0)),(.d (.int .i64 0)),(.d (.str [])),(.full [])] [(0,1,(.k (.c (.d (.int .i64 1))))),(1,1,(.t 3))],none⟩,
 ⟨none,.store 4 (.t 2) (.t 4),none⟩] [0,3,4])
 (.ret))
theorem ac205_ok : cFunc Tryz.prog [] [(0,[],[]),(1,[0,3,4],[])] Tryz.f205 = some (ac205,[.cell 2 (some 4)],5) := by kernel_rfl
theorem variableR_calls (n : Int) (H : Heap) : ACalls Tryz.prog 205 [.c (.d (.int .i64 n))] H (fun r H' => H' = H ∧ r = .agg ((Tm.mk 1 n [] []).row.map .d)) := by
  refine acalls Tryz.func205 (by kernel_rfl) ac205_ok fun hf => ?_
  simp -implicitDefEqProofs [ac205, row_mk, hf, go_sem, -List.set_cons_succ, -List.set_cons_zero]
/-- an atom: nothing stands behind its arguments -/
theorem atom_full (name : List UInt8) (H : Heap) : ACalls Tryz.prog 211 [.c (.d (.str name))] H (fun r H' => H' = H ++ [.cells [.d (.int .i64 3), .d (.int .i64 0), .d (.str name), .full []]] ∧ r = .agg [.d (.int .i64 3), .d (.int .i64 0), .d (.str name), .full []]) := by
  refine acallsK Tryz.func211 (by kernel_rfl) ac211_ok fun hf => ?_
  simp -implicitDefEqProofs [ac211, hf, go_sem, -List.set_cons_succ, -List.set_cons_zero]
  refine finK_ret _ ⟨trivial, trivial⟩ rfl ?_
  simp [Ob.re, C.re, A.re]
/-- a call that leaves one object more, which looks at no other -/
theorem call_newR {P : Program} {f : FuncId} {xs : List A} {sl : List A} {ext loc H₂ : Heap} {o : Ob} {r : A} {K : A → St → Prop} (hc : ∀ H, ACalls P f xs H (fun r' H' => H' = H ++ [o] ∧ r' = r)) (ho : Ob.re ext.length o = o) (hr : A.re ext.length r = r)
    (hf : Obs.fits ext.length 0 ext) (hH : H₂ = ext ++ loc.map (Ob.re ext.length)) (hk : K r ⟨sl, ext, loc ++ [o]⟩) : ACalls P f xs H₂ (CallK K ⟨sl, ext, loc⟩) := by
  subst hH
  exact (hc _).mono fun r' H' ⟨h1, h2⟩ => ⟨ext, loc ++ [o], r, by rw [h1, List.append_assoc, List.map_append]; simp [ho], rfl, by simp, hf, by rw [h2]; exact hr.symm, hk⟩
/-- a byte that begins nothing -/
theorem name_zero {s : List UInt8} {a : Nat} (ha : a ≤ s.length) (h : s[a]? = some 0) : nameR s a = none := by
  obtain ⟨h1, h2⟩ := List.getElem?_eq_some_iff.1 h
  have hd : s.drop a = 0 :: s.drop (a + 1) := by rw [List.drop_eq_getElem_cons h1, h2]
  refine nameR_none ha (fun c r' e => by rw [hd] at e; cases e; decide) fun x hx hp => ?_
  rw [hd] at hp
  have : ∀ x ∈ signs, (match x with | [] => false | c :: _ => c != 0) = true := by decide
  have := this x hx
  obtain ⟨y, hy⟩ := hp
  cases x with
  | nil => simp at this
  | cons c w => simp at this hy; exact this hy.1
section
variable {s : List UInt8} (hs : s.length ≤ 1000000) {f : Nat}
include hs
end
end Go.Proofs.YtbblefjbgbocoaaGreatDoor

/-
  Names and operators as the reference reads them.
  Conditions: none.
-/
open Go Go.AM Go.Proofs
namespace Go.Proofs.YtbblefjbgbocoaaGreatDoor
open Go.ChangeShapes Go.WideShapes Go.ChangeAt Go.RowKit
set_option linter.unusedVariables false
set_option linter.unusedSimpArgs false
set_option maxRecDepth 100000
-- 202 loop.example/prologserver/spec.l1Name params 2 ntmps 77
-- loop head live: [0,1,6]
-- loop head live: [0,1,7,8,9]
def ac202 : Cd := .seq (.region [⟨(some 4),.mv (.k (.c (.d (.str [])))),none⟩,
 ⟨(some 5),.mv (.k (.c (.d (.int .i64 0)))),none⟩] [4,5])
 (.seq (.region [⟨(some 11),.mv (.t 1),none⟩,
 ⟨(some 6),.mv (.t 11),none⟩] [11])
 (.seq (.block 0 (.loop (.seq (.seq (.region [⟨(some 12),.mv (.t 0),none⟩,
 ⟨(some 13),.mv (.t 6),none⟩,
 ⟨(some 14),.qcall 231 [(.t 12),(.t 13)],none⟩] [12,13])
 (.cond (.t 14)
 (.skip)
 (.exit 0)))
 (.block 1 (.region [⟨(some 15),.mv (.t 6),none⟩,
 ⟨(some 16),.bin .add (.t 15) (.k (.c (.d (.int .i64 1)))),none⟩,
 ⟨(some 6),.mv (.t 16),none⟩] [14,15,16])))))
 (.seq (.seq (.region [⟨(some 17),.mv (.t 6),none⟩,
 ⟨(some 18),.mv (.t 1),none⟩,
 ⟨(some 19),.bin .add (.t 18) (.k (.c (.d (.int .i64 6)))),none⟩,
 ⟨(some 20),.bin .gtr (.t 17) (.t 19),none⟩] [17,18,19])
 (.cond (.t 20)
 (.seq (.region [⟨(some 4),.mv (.k (.c (.d (.str [])))),none⟩,
 ⟨(some 5),.mv (.k (.c (.d (.int .i64 (-1))))),none⟩] [0,1,6,20])
 (.ret))
 (.skip)))
 (.seq (.seq (.region [⟨(some 21),.mv (.t 6),none⟩,
 ⟨(some 22),.mv (.t 1),none⟩,
 ⟨(some 23),.bin .gtr (.t 21) (.t 22),none⟩] [4,5,20,21,22])
 (.cond (.t 23)
 (.seq (.region [⟨(some 24),.mv (.t 0),none⟩,
 ⟨(some 25),.mv (.t 1),none⟩,
 ⟨(some 26),.mv (.t 6),none⟩,
 ⟨(some 27),.slice 0 (.t 24) (some (.t 25)) (some (.t 26)) none,none⟩,
 ⟨(some 28),.mv (.t 6),none⟩,
 ⟨(some 4),.mv (.t 27),none⟩,
 ⟨(some 5),.mv (.t 28),none⟩] [0,1,6,23,24,25,26,27,28])
 (.ret))
 (.skip)))
 (.seq (.region [⟨(some 7),.mv (.k (.c (.d (.str [])))),none⟩] [4,5,6,23])
 (.seq (.region [⟨(some 29),.qcall 165 [],none⟩,
 ⟨(some 8),.mv (.t 29),none⟩] [29])
 (.seq (.seq (.region [⟨(some 9),.mv (.k (.c (.d (.int .i64 0)))),none⟩] [])
 (.block 2 (.loop (.seq (.seq (.region [⟨(some 30),.mv (.t 9),none⟩,
 ⟨(some 31),.mv (.t 8),none⟩,
 ⟨(some 32),.len 1 (.t 31),none⟩,
 ⟨(some 33),.bin .lss (.t 30) (.t 32),none⟩] [30,31,32])
 (.cond (.t 33)
 (.skip)
 (.exit 2)))
 (.seq (.block 3 (.seq (.region [⟨(some 36),.mv (.t 8),none⟩,
 ⟨(some 37),.mv (.t 9),none⟩,
 ⟨(some 38),.indexAddr 1 (.t 36) (.t 37),none⟩,
 ⟨(some 39),.load none (.t 38),none⟩,
 ⟨(some 40),.len 0 (.t 39),none⟩,
 ⟨(some 10),.mv (.t 40),none⟩] [33,36,37,38,39,40])
 (.seq (.region [⟨(some 41),.mv (.t 1),none⟩,
 ⟨(some 42),.mv (.t 10),none⟩,
 ⟨(some 43),.bin .add (.t 41) (.t 42),none⟩,
 ⟨(some 44),.mv (.t 0),none⟩,
 ⟨(some 45),.len 0 (.t 44),none⟩,
 ⟨(some 46),.bin .leq (.t 43) (.t 45),none⟩,
 ⟨(some 47),.mv (.t 46),none⟩,
 ⟨(some 48),.mv (.t 0),some (47,true)⟩,
 ⟨(some 49),.mv (.t 1),some (47,true)⟩,
 ⟨(some 50),.mv (.t 1),some (47,true)⟩,
 ⟨(some 51),.mv (.t 10),some (47,true)⟩,
 ⟨(some 52),.bin .add (.t 50) (.t 51),some (47,true)⟩,
 ⟨(some 53),.slice 0 (.t 48) (some (.t 49)) (some (.t 52)) none,some (47,true)⟩,
 ⟨(some 54),.mv (.t 8),some (47,true)⟩,
 ⟨(some 55),.mv (.t 9),some (47,true)⟩,
 ⟨(some 56),.indexAddr 1 (.t 54) (.t 55),some (47,true)⟩,
 ⟨(some 57),.load none (.t 56),some (47,true)⟩,
 ⟨(some 58),.bin .eql (.t 53) (.t 57),some (47,true)⟩,
 ⟨(some 59),.pick (.t 47) (.t 58) (.k (.c (.d (.bool false)))),none⟩,
 ⟨(some 60),.mv (.t 59),none⟩,
 ⟨(some 61),.mv (.t 10),some (60,true)⟩,
 ⟨(some 62),.mv (.t 7),some (60,true)⟩,
 ⟨(some 63),.len 0 (.t 62),some (60,true)⟩,
 ⟨(some 64),.bin .gtr (.t 61) (.t 63),some (60,true)⟩,
 ⟨(some 65),.pick (.t 60) (.t 64) (.k (.c (.d (.bool false)))),none⟩] [10,41,42,43,44,45,46,47,48,49,50,51,52,53,54,55,56,57,58,59,60,61,62,63,64])
 (.cond (.t 65)
 (.region [⟨(some 66),.mv (.t 8),none⟩,
 ⟨(some 67),.mv (.t 9),none⟩,
 ⟨(some 68),.indexAddr 1 (.t 66) (.t 67),none⟩,
 ⟨(some 69),.load none (.t 68),none⟩,
 ⟨(some 7),.mv (.t 69),none⟩] [65,66,67,68,69])
 (.skip)))))
 (.region [⟨(some 34),.mv (.t 9),none⟩,
 ⟨(some 35),.bin .add (.t 34) (.k (.c (.d (.int .i64 1)))),none⟩,
 ⟨(some 9),.mv (.t 35),none⟩] [34,35,65]))))))
 (.seq (.seq (.region [⟨(some 70),.mv (.t 7),none⟩,
 ⟨(some 71),.bin .eql (.t 70) (.k (.c (.d (.str [])))),none⟩] [70])
 (.cond (.t 71)
 (.seq (.region [⟨(some 4),.mv (.k (.c (.d (.str [])))),none⟩,
 ⟨(some 5),.mv (.k (.c (.d (.int .i64 (-1))))),none⟩] [1,7,71])
 (.ret))
 (.skip)))
 (.seq (.region [⟨(some 72),.mv (.t 7),none⟩,
 ⟨(some 73),.mv (.t 1),none⟩,
 ⟨(some 74),.mv (.t 7),none⟩,
 ⟨(some 75),.len 0 (.t 74),none⟩,
 ⟨(some 76),.bin .add (.t 73) (.t 75),none⟩,
 ⟨(some 4),.mv (.t 72),none⟩,
 ⟨(some 5),.mv (.t 76),none⟩] [1,7,71,72,73,74,75,76])
 (.ret))))))))))
theorem ac202_ok : cFunc Tryz.prog [1000165,1000231] [(0,[4,5],[]),(1,[11],[]),(2,[12,13],[]),(3,[14,15,16],[]),(4,[17,18,19],[]),(5,[0,1,6,20],[]),(6,[4,5,20,21,22],[]),(7,[0,1,6,23,24,25,26,27,28],[]),(8,[4,5,6,23],[]),(9,[29],[]),(10,[],[]),(11,[30,31,32],[]),(13,[33,36,37,38,39,40],[]),(14,[10,41,42,43,44,45,46,47,48,49,50,51,52,53,54,55,56,57,58,59,60,61,62,63,64],[0,1,2,3,4,5,6,7,8,9,10,11,12,13,14,15,16,17,18,19,20,21,22,23,24]),(15,[65,66,67,68,69],[]),(12,[34,35,65],[]),(16,[70],[]),(17,[1,7,71],[]),(18,[1,7,71,72,73,74,75,76],[])] Tryz.f202 = some (ac202,[.tmp 4,.tmp 5],77) := by kernel_rfl
-- 167 loop.example/prologserver/spec.l2Op params 2 ntmps 61
def ac167 : Cd := .seq (.region [⟨(some 4),.mv (.k (.c (.d (.str [])))),none⟩,
 ⟨(some 5),.mv (.k (.c (.d (.int .i64 0)))),none⟩] [4,5])
 (.seq (.region [⟨(some 10),.mv (.t 1),none⟩,
 ⟨(some 6),.mv (.t 10),none⟩] [10])
 (.seq (.seq (.region [⟨(some 11),.mv (.t 0),none⟩,
 ⟨(some 12),.mv (.t 1),none⟩,
 ⟨(some 13),.qcall 106 [(.t 11),(.t 12),(.k (.c (.d (.int .u8 32))))],none⟩] [11,12])
 (.cond (.t 13)
 (.region [⟨(some 14),.mv (.t 1),none⟩,
 ⟨(some 15),.bin .add (.t 14) (.k (.c (.d (.int .i64 1)))),none⟩,
 ⟨(some 6),.mv (.t 15),none⟩] [13,14,15])
 (.skip)))
 (.seq (.seq (.region [⟨(some 16),.mv (.t 6),none⟩,
 ⟨(some 17),.mv (.t 0),none⟩,
 ⟨(some 18),.len 0 (.t 17),none⟩,
 ⟨(some 19),.bin .geq (.t 16) (.t 18),none⟩] [13,16,17,18])
 (.cond (.t 19)
 (.seq (.region [⟨(some 20),.mv (.t 1),none⟩,
 ⟨(some 4),.mv (.k (.c (.d (.str [])))),none⟩,
 ⟨(some 5),.mv (.t 20),none⟩] [0,1,6,19,20])
 (.ret))
 (.skip)))
 (.seq (.region [⟨(some 22),.mv (.t 0),none⟩,
 ⟨(some 23),.mv (.t 6),none⟩,
 ⟨(some 24),.qcall 202 [(.t 22),(.t 23)],none⟩,
 ⟨(some 21),.mv (.t 24),none⟩,
 ⟨(some 25),.extract 0 (.t 21),none⟩,
 ⟨(some 26),.extract 1 (.t 21),none⟩,
 ⟨(some 7),.mv (.t 25),none⟩,
 ⟨(some 8),.mv (.t 26),none⟩] [4,5,19,21,22,23,24,25,26])
 (.seq (.seq (.region [⟨(some 27),.mv (.t 8),none⟩,
 ⟨(some 28),.bin .lss (.t 27) (.k (.c (.d (.int .i64 0)))),none⟩,
 ⟨(some 29),.mv (.t 28),none⟩,
 ⟨(some 30),.mv (.t 7),some (29,false)⟩,
 ⟨(some 31),.qcall 139 [(.t 30)],some (29,false)⟩,
 ⟨(some 32),.bin .eql (.t 31) (.k (.c (.d (.int .i64 0)))),some (29,false)⟩,
 ⟨(some 33),.pick (.t 29) (.k (.c (.d (.bool true)))) (.t 32),none⟩] [27,28,29,30,31,32])
 (.cond (.t 33)
 (.seq (.region [⟨(some 34),.mv (.t 1),none⟩,
 ⟨(some 4),.mv (.k (.c (.d (.str [])))),none⟩,
 ⟨(some 5),.mv (.t 34),none⟩] [0,1,6,7,8,33,34])
 (.ret))
 (.skip)))
 (.seq (.region [⟨(some 35),.mv (.t 7),none⟩,
 ⟨(some 36),.bin .eql (.t 35) (.k (.c (.d (.str [105,115])))),none⟩,
 ⟨(some 37),.mv (.t 36),none⟩,
 ⟨(some 38),.mv (.t 7),some (37,false)⟩,
 ⟨(some 39),.bin .eql (.t 38) (.k (.c (.d (.str [109,111,100])))),some (37,false)⟩,
 ⟨(some 40),.pick (.t 37) (.k (.c (.d (.bool true)))) (.t 39),none⟩,
 ⟨(some 9),.mv (.t 40),none⟩] [4,5,33,35,36,37,38,39,40])
 (.seq (.seq (.region [⟨(some 41),.mv (.t 9),none⟩,
 ⟨(some 42),.mv (.t 6),none⟩,
 ⟨(some 43),.mv (.t 1),none⟩,
 ⟨(some 44),.bin .gtr (.t 42) (.t 43),none⟩,
 ⟨(some 45),.binB true (.t 41) (.t 44),none⟩,
 ⟨(some 46),.mv (.t 45),none⟩,
 ⟨(some 47),.mv (.t 9),some (46,false)⟩,
 ⟨(some 48),.mv (.t 47),some (46,false)⟩,
 ⟨(some 49),.mv (.t 0),some (48,true)⟩,
 ⟨(some 50),.mv (.t 8),some (48,true)⟩,
 ⟨(some 51),.qcall 106 [(.t 49),(.t 50),(.k (.c (.d (.int .u8 32))))],some (48,true)⟩,
 ⟨(some 52),.un .not (.t 51),some (48,true)⟩,
 ⟨(some 53),.pick (.t 48) (.t 52) (.k (.c (.d (.bool false)))),some (46,false)⟩,
 ⟨(some 54),.pick (.t 46) (.k (.c (.d (.bool true)))) (.t 53),none⟩] [0,6,41,42,43,44,45,46,47,48,49,50,51,52,53])
 (.cond (.t 54)
 (.seq (.region [⟨(some 55),.mv (.t 1),none⟩,
 ⟨(some 4),.mv (.k (.c (.d (.str [])))),none⟩,
 ⟨(some 5),.mv (.t 55),none⟩] [1,7,8,9,54,55])
 (.ret))
 (.skip)))
 (.seq (.seq (.region [⟨(some 56),.mv (.t 9),none⟩] [1,4,5,9,54])
 (.cond (.t 56)
 (.region [⟨(some 57),.mv (.t 8),none⟩,
 ⟨(some 58),.bin .add (.t 57) (.k (.c (.d (.int .i64 1)))),none⟩,
 ⟨(some 8),.mv (.t 58),none⟩] [56,57,58])
 (.skip)))
 (.seq (.region [⟨(some 59),.mv (.t 7),none⟩,
 ⟨(some 60),.mv (.t 8),none⟩,
 ⟨(some 4),.mv (.t 59),none⟩,
 ⟨(some 5),.mv (.t 60),none⟩] [7,8,56,59,60])
 (.ret))))))))))
theorem ac167_ok : cFunc Tryz.prog [1000106,1000139,1000202] [(0,[4,5],[]),(1,[10],[]),(2,[11,12],[]),(3,[13,14,15],[]),(4,[13,16,17,18],[]),(5,[0,1,6,19,20],[]),(6,[4,5,19,21,22,23,24,25,26],[]),(7,[27,28,29,30,31,32],[]),(8,[0,1,6,7,8,33,34],[]),(9,[4,5,33,35,36,37,38,39,40],[]),(10,[0,6,41,42,43,44,45,46,47,48,49,50,51,52,53],[]),(11,[1,7,8,9,54,55],[]),(12,[1,4,5,9,54],[]),(13,[56,57,58],[]),(14,[7,8,56,59,60],[])] Tryz.f167 = some (ac167,[.tmp 4,.tmp 5],61) := by kernel_rfl
def nameA : Option (List UInt8 × Nat) → A
  | some (n, j) => .tup [.c (.d (.str n)), .c (.d (.int .i64 j))]
  | none => .tup [.c (.d (.str [])), .c (.d (.int .i64 (-1)))]
set_option maxHeartbeats 1600000 in
theorem name_calls (s : List UInt8) (hs : s.length ≤ 1000000) (i : Nat) (hi : i ≤ s.length) (H : Heap) : ACalls Tryz.prog 202 [.c (.d (.str s)), .c (.d (.int .i64 i))] H (fun r H' => H' = H ∧ r = nameA (nameR s i)) := by
  refine acalls Tryz.func202 (by kernel_rfl) ac202_ok fun hf => ?_
  have hli : inR .i64 (s.length : Int) := small_i64 (by omega) (by omega)
  simp -implicitDefEqProofs [ac202, go_sem, -List.set_cons_succ, -List.set_cons_zero]
  refine loop_set (σ := Nat) (fun k => [(6, .c (.d (.int .i64 ((i + k : Nat) : Int))))]) (fun _ => H) (fun _ => []) (fun k => i + k ≤ s.length ∧ ∀ m, m < k → smaAt s (i + m) = true) (fun k => s.length - (i + k)) 0 (by simp [setAll]) ⟨by omega, by simp⟩ ?_
  rintro k ⟨hkl, hkd⟩
  have hk1 : inR .i64 ((i : Int) + (k : Int) + 1) := small_i64 (by omega) (by omega)
  simp -implicitDefEqProofs [setAll, go_sem, -List.set_cons_succ, -List.set_cons_zero]
  have cd := small_calls s hs (i + k) (by omega)
  simp only [Int.natCast_add] at cd
  refine qcall_pure cd hf rfl ?_
  cases hsm : smaAt s (i + k) with
  | true =>
    have hlt := sma_lt _ hsm
    simp -implicitDefEqProofs [hk1, go_sem, -List.set_cons_succ, -List.set_cons_zero]
    exact loop_back (k + 1) (by simp [setAll, Int.add_assoc]) ⟨by omega, fun m hm => by
      rcases Nat.lt_or_ge m k with h | h
      · exact hkd m h
      · obtain rfl : m = k := by omega
        exact hsm⟩ (by show s.length - (i + (k + 1)) < s.length - (i + k); omega)
  | false =>
    have he : runE smaAt s s.length i = i + k := runE_stop s.length i k (by omega) hkd (.inr hsm)
    have hi6 : inR .i64 ((i : Int) + 6) := small_i64 (by omega) (by omega)
    unfold nameR
    rw [he]
    by_cases h6 : i + 6 < i + k
    · have h6' : (i : Int) + 6 < (i : Int) + k := by omega
      simp -implicitDefEqProofs [hi6, h6, h6', nameA, go_sem, -List.set_cons_succ, -List.set_cons_zero]
    · have h6' : ¬ (i : Int) + 6 < (i : Int) + k := by omega
      rw [if_neg h6]
      by_cases h0 : i < i + k
      · have h0' : (i : Int) < (i : Int) + k := by omega
        rw [if_pos h0]
        simp -implicitDefEqProofs [hi6, h6', h0', nameA, go_sem, -List.set_cons_succ, -List.set_cons_zero]
        have hnat : ((i : Int) + (k : Int)).toNat = i + k := by omega
        rw [hnat]
        exact ⟨by omega, rfl⟩
      · obtain rfl : k = 0 := by omega
        rw [if_neg h0]
        have h6n : ¬ (i : Int) + 6 < (i : Int) := by omega
        simp -implicitDefEqProofs [hi6, h6n, go_sem, -List.set_cons_succ, -List.set_cons_zero]
        refine qcall_pure l1Signs_calls hf rfl ?_
        simp -implicitDefEqProofs [go_sem, -List.set_cons_succ, -List.set_cons_zero]
        obtain ⟨G, hG⟩ : ∃ G, G = bestS s i signs [] := ⟨_, rfl⟩
        rw [← hG]
        have hsl : signs.length = 15 := rfl
        have hs15 : inR .i64 (15 : Int) := small_i64 (by omega) (by omega)
        refine loop_set (σ := Nat × List UInt8) (fun x => [(9, .c (.d (.int .i64 x.1))), (7, .c (.d (.str x.2)))]) (fun _ => H) (fun _ => []) (fun x => x.1 ≤ 15 ∧ bestS s i (signs.drop x.1) x.2 = G ∧ x.2.length ≤ 3) (fun x => 15 - x.1) (0, []) (by simp [setAll]) ⟨by omega, by rw [hG]; rfl, by simp⟩ ?_
        rintro ⟨j, b⟩ ⟨hj, h1, h2⟩
        simp only at hj h1 h2
        simp -implicitDefEqProofs [setAll, hsl, hs15, go_sem, -List.set_cons_succ, -List.set_cons_zero]
        refine ⟨fun hlt => ?_, fun hge => ?_⟩
        · have hlt' : j < signs.length := by rw [hsl]; omega
          have hd : signs.drop j = signs[j] :: signs.drop (j + 1) := List.drop_eq_getElem_cons hlt'
          rw [hd, bestS] at h1
          have h3 : signs[j].length ≤ 3 := by
            have : ∀ n ∈ signs, n.length ≤ 3 := by decide
            exact this _ (List.getElem_mem hlt')
          have hrow : (signs.map strRow)[j]? = some [.str signs[j]] := by simp [hlt', strRow]
          obtain ⟨w, hw⟩ : ∃ w, w = signs[j] := ⟨_, rfl⟩
          rw [← hw] at h1 h3 hrow
          have hwl : inR .i64 (w.length : Int) := small_i64 (by omega) (by omega)
          have hbl : inR .i64 (b.length : Int) := small_i64 (by omega) (by omega)
          have hiw : inR .i64 ((i : Int) + (w.length : Int)) := small_i64 (by omega) (by omega)
          have hadd : inR .i64 ((j : Int) + 1) := small_i64 (by omega) (by omega)
          have hnat : ((i : Int) + (w.length : Int)).toNat = i + w.length := by omega
          have hcut : (s.take (i + w.length)).drop i = cutS s i (i + w.length) := rfl
          refine row_nat _ hrow rfl ?_
          by_cases hle : i + w.length ≤ s.length
          · have hle' : (i : Int) + (w.length : Int) ≤ (s.length : Int) := by omega
            simp -implicitDefEqProofs [hwl, hiw, hli, hnat, hcut, hle', go_sem, -List.set_cons_succ, -List.set_cons_zero]
            refine ⟨by omega, row_nat _ hrow rfl ?_⟩
            cases heq : cutS s i (i + w.length) == w with
            | true =>
              by_cases hbw : b.length < w.length
              · have hbw' : (b.length : Int) < (w.length : Int) := by omega
                simp only [hle, hbw, heq, decide_true, Bool.and_self, if_true] at h1
                simp -implicitDefEqProofs [hbl, hbw', heq, go_sem, -List.set_cons_succ, -List.set_cons_zero]
                refine row_nat _ hrow rfl ?_
                simp -implicitDefEqProofs [hadd, go_sem, -List.set_cons_succ, -List.set_cons_zero]
                exact loop_back (j + 1, w) (by simp [setAll]) ⟨by omega, h1, h3⟩ (by show 15 - (j + 1) < 15 - j; omega)
              · have hbw' : ¬ (b.length : Int) < (w.length : Int) := by omega
                simp only [hle, hbw, heq, decide_true, decide_false, Bool.and_false, Bool.false_eq_true, if_false] at h1
                simp -implicitDefEqProofs [hbl, hbw', heq, hadd, go_sem, -List.set_cons_succ, -List.set_cons_zero]
                exact loop_back (j + 1, b) (by simp [setAll]) ⟨by omega, h1, h2⟩ (by show 15 - (j + 1) < 15 - j; omega)
            | false =>
              simp only [heq, Bool.and_false, Bool.false_and, Bool.false_eq_true, if_false] at h1
              simp -implicitDefEqProofs [hbl, heq, hadd, go_sem, -List.set_cons_succ, -List.set_cons_zero]
              exact loop_back (j + 1, b) (by simp [setAll]) ⟨by omega, h1, h2⟩ (by show 15 - (j + 1) < 15 - j; omega)
          · have hle' : ¬ (i : Int) + (w.length : Int) ≤ (s.length : Int) := by omega
            simp only [hle, decide_false, Bool.false_and, Bool.false_eq_true, if_false] at h1
            simp -implicitDefEqProofs [hwl, hiw, hli, hnat, hcut, hle', go_sem, -List.set_cons_succ, -List.set_cons_zero]
            refine row_off [.str []] ?_
            simp -implicitDefEqProofs [hbl, hadd, go_sem, -List.set_cons_succ, -List.set_cons_zero]
            exact loop_back (j + 1, b) (by simp [setAll]) ⟨by omega, h1, h2⟩ (by show 15 - (j + 1) < 15 - j; omega)
        · obtain rfl : j = 15 := by omega
          have h15 : signs.drop 15 = [] := rfl
          rw [h15, bestS] at h1
          subst h1
          have hbl : inR .i64 (b.length : Int) := small_i64 (by omega) (by omega)
          have hib : inR .i64 ((i : Int) + (b.length : Int)) := small_i64 (by omega) (by omega)
          cases hb : b with
          | nil => simp -implicitDefEqProofs [hb, nameA, go_sem, -List.set_cons_succ, -List.set_cons_zero]
          | cons c r =>
            rw [hb] at hbl hib
            simp at hbl hib
            simp -implicitDefEqProofs [hb, nameA, hbl, hib, go_sem, -List.set_cons_succ, -List.set_cons_zero]
/-- what an operator is told by -/
def opA (i : Nat) : Option (List UInt8 × Nat) → A
  | some (n, j) => .tup [.c (.d (.str n)), .c (.d (.int .i64 j))]
  | none => .tup [.c (.d (.str [])), .c (.d (.int .i64 i))]
set_option maxHeartbeats 1600000 in
theorem op_calls (s : List UInt8) (hs : s.length ≤ 1000000) (i : Nat) (hi : i ≤ s.length) (H : Heap) : ACalls Tryz.prog 167 [.c (.d (.str s)), .c (.d (.int .i64 i))] H (fun r H' => H' = H ∧ r = opA i (opR s i)) := by
  refine acalls Tryz.func167 (by kernel_rfl) ac167_ok fun hf => ?_
  have hli : inR .i64 (s.length : Int) := small_i64 (by omega) (by omega)
  have hi1 : inR .i64 ((i : Int) + 1) := small_i64 (by omega) (by omega)
  simp -implicitDefEqProofs [ac167, go_sem, -List.set_cons_succ, -List.set_cons_zero]
  refine qcall_pure (sign_calls s hs i (by omega) 32) hf rfl ?_
  unfold opR
  cases hsg : sgn s i 32 with
  | true =>
    have hlt := sgn_lt hsg
    simp -implicitDefEqProofs [hi1, hli, go_sem, -List.set_cons_succ, -List.set_cons_zero]
    refine ⟨fun h => ?_, fun h => ?_⟩
    · have h' : s.length ≤ i + 1 := by omega
      simp -implicitDefEqProofs [h', opA, go_sem, -List.set_cons_succ, -List.set_cons_zero]
    have hP : ¬ s.length ≤ i + 1 := by omega
    have cn := name_calls s hs (i + 1) (by omega)
    try simp only [Int.natCast_add, Int.cast_ofNat_Int] at cn
    rw [if_neg hP]
    cases hn : nameR s (i + 1) with
    | none =>
      rw [hn] at cn
      refine qcall_pure cn hf rfl ?_
      simp -implicitDefEqProofs [nameA, opA, go_sem, -List.set_cons_succ, -List.set_cons_zero]
    | some q =>
      obtain ⟨w, j⟩ := q
      rw [hn] at cn
      have ho := nameR_ok (by omega) hn
      have hj1 : inR .i64 ((j : Int) + 1) := small_i64 (by omega) (by omega)
      have hj0 : ¬ (j : Int) < 0 := by omega
      refine qcall_pure cn hf rfl ?_
      simp -implicitDefEqProofs [nameA, hj0, go_sem, -List.set_cons_succ, -List.set_cons_zero]
      refine qcall_pure (level_calls w) hf rfl ?_
      by_cases hl : levelN w = 0
      · simp -implicitDefEqProofs [hl, opA, go_sem, -List.set_cons_succ, -List.set_cons_zero]
      · have hl' : (levelN w == 0) = false := by simp [hl]
        have hii : (i : Int) < (i : Int) + 1 := by omega
        have cs := sign_calls s hs j (by omega) 32
        by_cases e1 : w = [105, 115]
        · subst e1
          have hwb : wordB [105, 115] = true := rfl
          simp -implicitDefEqProofs [hl, hl', hii, hwb, go_sem, -List.set_cons_succ, -List.set_cons_zero]
          refine qcall_pure cs hf rfl ?_
          cases hs2 : sgn s j 32 <;> simp -implicitDefEqProofs [opA, hj1, hf, go_sem, -List.set_cons_succ, -List.set_cons_zero]
        · by_cases e2 : w = [109, 111, 100]
          · subst e2
            have hwb : wordB [109, 111, 100] = true := rfl
            simp -implicitDefEqProofs [hl, hl', hii, hwb, go_sem, -List.set_cons_succ, -List.set_cons_zero]
            refine qcall_pure cs hf rfl ?_
            cases hs2 : sgn s j 32 <;> simp -implicitDefEqProofs [opA, hj1, hf, go_sem, -List.set_cons_succ, -List.set_cons_zero]
          · have hwb : wordB w = false := by simp [wordB, e1, e2]
            have e1' : (w == [105, 115]) = false := by simp [e1]
            have e2' : (w == [109, 111, 100]) = false := by simp [e2]
            simp -implicitDefEqProofs [hl, hl', hii, hwb, e1, e2, e1', e2', opA, hf, go_sem, -List.set_cons_succ, -List.set_cons_zero]
  | false =>
    simp -implicitDefEqProofs [hi1, hli, go_sem, -List.set_cons_succ, -List.set_cons_zero]
    refine ⟨fun h => ?_, fun h => ?_⟩
    · have h' : s.length ≤ i := by omega
      simp -implicitDefEqProofs [h', opA, go_sem, -List.set_cons_succ, -List.set_cons_zero]
    have hP : ¬ s.length ≤ i := by omega
    have cn := name_calls s hs (i) (by omega)
    try simp only [Int.natCast_add, Int.cast_ofNat_Int] at cn
    rw [if_neg hP]
    cases hn : nameR s (i) with
    | none =>
      rw [hn] at cn
      refine qcall_pure cn hf rfl ?_
      simp -implicitDefEqProofs [nameA, opA, go_sem, -List.set_cons_succ, -List.set_cons_zero]
    | some q =>
      obtain ⟨w, j⟩ := q
      rw [hn] at cn
      have ho := nameR_ok (by omega) hn
      have hj1 : inR .i64 ((j : Int) + 1) := small_i64 (by omega) (by omega)
      have hj0 : ¬ (j : Int) < 0 := by omega
      refine qcall_pure cn hf rfl ?_
      simp -implicitDefEqProofs [nameA, hj0, go_sem, -List.set_cons_succ, -List.set_cons_zero]
      refine qcall_pure (level_calls w) hf rfl ?_
      by_cases hl : levelN w = 0
      · simp -implicitDefEqProofs [hl, opA, go_sem, -List.set_cons_succ, -List.set_cons_zero]
      · have hl' : (levelN w == 0) = false := by simp [hl]
        have hii : (i : Int) < (i : Int) + 1 := by omega
        have cs := sign_calls s hs j (by omega) 32
        by_cases e1 : w = [105, 115]
        · subst e1
          have hwb : wordB [105, 115] = true := rfl
          simp -implicitDefEqProofs [hl, hl', hii, hwb, go_sem, -List.set_cons_succ, -List.set_cons_zero]
          simp -implicitDefEqProofs [opA, hf, go_sem, -List.set_cons_succ, -List.set_cons_zero]
        · by_cases e2 : w = [109, 111, 100]
          · subst e2
            have hwb : wordB [109, 111, 100] = true := rfl
            simp -implicitDefEqProofs [hl, hl', hii, hwb, go_sem, -List.set_cons_succ, -List.set_cons_zero]
            simp -implicitDefEqProofs [opA, hf, go_sem, -List.set_cons_succ, -List.set_cons_zero]
          · have hwb : wordB w = false := by simp [wordB, e1, e2]
            have e1' : (w == [105, 115]) = false := by simp [e1]
            have e2' : (w == [109, 111, 100]) = false := by simp [e2]
            simp -implicitDefEqProofs [hl, hl', hii, hwb, e1, e2, e1', e2', opA, hf, go_sem, -List.set_cons_succ, -List.set_cons_zero]
end Go.Proofs.YtbblefjbgbocoaaGreatDoor
