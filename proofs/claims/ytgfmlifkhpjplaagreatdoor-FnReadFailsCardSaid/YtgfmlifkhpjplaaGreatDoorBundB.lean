/-
  Contracts of functions that the law reaches, and plain lemmas: several texts in one.
  Conditions: none.
-/
import Derived.Test.YtgfmlifkhpjplaaGreatDoorBundA
import Derived.Lib.ItoaNum
import Derived.Shelf.Strconv.Itoa3
import Derived.Test.YtgfmlifkhpjplaaGreatDoorAbsN
import Derived.MakeChecks
import Derived.LaidMore
import Derived.Shelf.LaysM
import Derived.Shelf.LaysC
import Derived.Shelf.Strconv.AtoiAll
import Derived.LaidLaws
open Go Go.AM Go.Proofs
attribute [local go_sem] kw ew sw tw a_ b_ c_ A.ok A.val d_ e_ f_ g_ h_ i_ j_ k_ l_ m_ unA unD n_ AOp.total o_ p_ q_ r_ s_ t_ u_ v_ A.thaw C.thaw A.fits As.fits C.fits evs oks w_ A.pure C.pure A.re C.re x_ y_ cut A.cells C.rows? z_ A_ B_ C_ a0_ b0_ D_ Ob.re Cs.fits E_ F_ G_ H_ I_ J_ K_ L_ M_ N_ O_ C.toD P_ Q_ R_ S_ T_ Obs.fits U_ eqD V_ W_ X_ Y_ Z_
/-
  How deep the program's reader goes: no deeper than the open brackets and their commas say;
  where that is not too deep, it fails where the reference's reader fails.
  Conditions: none.
-/
open Go Go.AM Go.Proofs
namespace Go.Proofs.YtgfmlifkhpjplaaGreatDoor
set_option linter.unusedVariables false
set_option linter.unusedSimpArgs false
set_option maxRecDepth 100000
/-- open brackets, innermost first, each with the number of its commas -/
def bkS (S : List Nat) (b : UInt8) : List Nat :=
  if b = 40 ∨ b = 91 then 0 :: S
  else if b = 41 ∨ b = 93 then (match S with
    | _ :: d :: r => d :: r
    | _ => [0])
  else if b = 44 then (match S with
    | c :: r => (c + 1) :: r
    | [] => [1])
  else S
def bkR (S : List Nat) (w : List UInt8) : List Nat := w.foldl bkS S
def pot : List Nat → Nat
  | [] => 0
  | c :: r => 1 + c + pot r
def plnB (b : UInt8) : Bool := !(([40, 91, 41, 93, 44] : List UInt8).contains b)
theorem pln_ne {b : UInt8} (h : plnB b = true) : b ≠ 40 ∧ b ≠ 91 ∧ b ≠ 41 ∧ b ≠ 93 ∧ b ≠ 44 := by
  unfold plnB at h
  simp at h
  exact h
theorem bkS_pln {b : UInt8} (h : plnB b = true) (S : List Nat) : bkS S b = S := by
  obtain ⟨h1, h2, h3, h4, h5⟩ := pln_ne h
  simp [bkS, h1, h2, h3, h4, h5]
theorem bkR_pln : ∀ (w : List UInt8) (S : List Nat), w.all plnB = true → bkR S w = S
  | [], S, _ => rfl
  | b :: w, S, h => by
    simp only [List.all_cons, Bool.and_eq_true] at h
    show bkR (bkS S b) w = S
    rw [bkS_pln h.1]
    exact bkR_pln w S h.2
theorem bkR_app (S : List Nat) (a b : List UInt8) : bkR S (a ++ b) = bkR (bkR S a) b := List.foldl_append
theorem bkS_ne {S : List Nat} (b : UInt8) (h : S ≠ []) : bkS S b ≠ [] := by
  unfold bkS
  split
  · simp
  · split
    · split <;> simp
    · split
      · split <;> simp
      · exact h
theorem bkR_ne : ∀ (w : List UInt8) {S : List Nat}, S ≠ [] → bkR S w ≠ []
  | [], _, h => h
  | b :: w, _, h => bkR_ne w (bkS_ne b h)
/-- what is open at a place -/
def stk (s : List UInt8) (i : Nat) : List Nat := bkR [0] (s.take i)
theorem stk_cons (s : List UInt8) (i : Nat) : ∃ c r, stk s i = c :: r := by
  have h := bkR_ne (s.take i) (S := [0]) (by simp)
  cases hs : bkR [0] (s.take i) with
  | nil => exact absurd hs h
  | cons c r => exact ⟨c, r, hs⟩
theorem stk_add {s w : List UInt8} {i : Nat} (h : w <+: s.drop i) : stk s (i + w.length) = bkR (stk s i) w := by
  obtain ⟨r, hr⟩ := h
  unfold stk
  rw [List.take_add, bkR_app, ← hr]
  simp
theorem stk_byte {s : List UInt8} {i : Nat} {b : UInt8} (h : s[i]? = some b) : stk s (i + 1) = bkS (stk s i) b := by
  have hlt := (List.getElem?_eq_some_iff.1 h).1
  have hb := (List.getElem?_eq_some_iff.1 h).2
  have := stk_add (s := s) (w := [b]) (i := i) ⟨s.drop (i + 1), by rw [List.drop_eq_getElem_cons hlt, hb]; rfl⟩
  exact this
theorem sgn_get {s : List UInt8} {i : Nat} {b : UInt8} (h : sgn s i b = true) : s[i]? = some b := by
  unfold sgn at h
  split at h
  · rename_i c hc
    rw [beq_iff_eq] at h
    rw [hc, h]
  · cases h
theorem stk_open {s : List UInt8} {i : Nat} {b : UInt8} (h : s[i]? = some b) (hb : b = 40 ∨ b = 91) : stk s (i + 1) = 0 :: stk s i := by
  rw [stk_byte h]
  unfold bkS
  rw [if_pos hb]
theorem stk_close {s : List UInt8} {i : Nat} {b : UInt8} {c : Nat} {r : List Nat} (h : s[i]? = some b) (hb : b = 41 ∨ b = 93) (hs : stk s i = c :: r) (hr : r ≠ []) : stk s (i + 1) = r := by
  rw [stk_byte h, hs]
  cases r with
  | nil => exact absurd rfl hr
  | cons d r => rcases hb with rfl | rfl <;> rfl
theorem stk_comma {s : List UInt8} {i : Nat} {c : Nat} {r : List Nat} (h : s[i]? = some 44) (hs : stk s i = c :: r) : stk s (i + 1) = (c + 1) :: r := by
  rw [stk_byte h, hs]; rfl
theorem cut_pre (s : List UInt8) (i j : Nat) : cutS s i j <+: s.drop i := by
  unfold cutS
  rw [List.drop_take]
  exact List.take_prefix _ _
theorem run_bytes {p : List UInt8 → Nat → Bool} {s : List UInt8} {q : UInt8 → Bool} (hp : ∀ i, p s i = true → ∃ b, s[i]? = some b ∧ q b = true) : ∀ n i, (cutS s i (runE p s n i)).all q = true
  | 0, i => by
    have : cutS s i i = [] := by unfold cutS; rw [List.drop_take]; simp
    rw [runE, this]; rfl
  | n + 1, i => by
    unfold runE
    split
    · rename_i h
      obtain ⟨b, hb, hq⟩ := hp i h
      have hlt := (List.getElem?_eq_some_iff.1 hb).1
      have hbe := (List.getElem?_eq_some_iff.1 hb).2
      have hr := (runE_le (p := p) (s := s) (fun i h => by obtain ⟨b, hb, _⟩ := hp i h; exact (List.getElem?_eq_some_iff.1 hb).1) n (i + 1)).1
      have ih := run_bytes hp n (i + 1)
      have : cutS s i (runE p s n (i + 1)) = b :: cutS s (i + 1) (runE p s n (i + 1)) := by
        unfold cutS
        rw [List.drop_take, List.drop_take, List.drop_eq_getElem_cons hlt, hbe, show runE p s n (i + 1) - i = (runE p s n (i + 1) - (i + 1)) + 1 by omega]
        rfl
      rw [this, List.all_cons, hq, ih]; rfl
    · have : cutS s i i = [] := by unfold cutS; rw [List.drop_take]; simp
      rw [this]; rfl
theorem dig_byte {s : List UInt8} (i : Nat) (h : digAt s i = true) : ∃ b, s[i]? = some b ∧ digB b = true := by
  unfold digAt at h
  split at h
  · rename_i b hb; exact ⟨b, hb, h⟩
  · cases h
theorem sma_byte {s : List UInt8} (i : Nat) (h : smaAt s i = true) : ∃ b, s[i]? = some b ∧ smaB b = true := by
  unfold smaAt at h
  split at h
  · rename_i b hb; exact ⟨b, hb, h⟩
  · cases h
theorem pln_of {b : UInt8} (h : b ≠ 40 ∧ b ≠ 91 ∧ b ≠ 41 ∧ b ≠ 93 ∧ b ≠ 44) : plnB b = true := by
  unfold plnB
  simp
  exact h
theorem pln_dig {b : UInt8} (h : digB b = true) : plnB b = true :=
  pln_of ⟨by rintro rfl; exact absurd h (by decide), by rintro rfl; exact absurd h (by decide), by rintro rfl; exact absurd h (by decide), by rintro rfl; exact absurd h (by decide), by rintro rfl; exact absurd h (by decide)⟩
theorem pln_sma {b : UInt8} (h : smaB b = true) : plnB b = true :=
  pln_of ⟨by rintro rfl; exact absurd h (by decide), by rintro rfl; exact absurd h (by decide), by rintro rfl; exact absurd h (by decide), by rintro rfl; exact absurd h (by decide), by rintro rfl; exact absurd h (by decide)⟩
theorem pln_big {b : UInt8} (h : bigB b = true) : plnB b = true :=
  pln_of ⟨by rintro rfl; exact absurd h (by decide), by rintro rfl; exact absurd h (by decide), by rintro rfl; exact absurd h (by decide), by rintro rfl; exact absurd h (by decide), by rintro rfl; exact absurd h (by decide)⟩
theorem all_imp {p q : UInt8 → Bool} (h : ∀ b, p b = true → q b = true) {w : List UInt8} (hw : w.all p = true) : w.all q = true := by
  rw [List.all_eq_true] at hw ⊢
  exact fun b hb => h b (hw b hb)
theorem best_mem (s : List UInt8) (i : Nat) : ∀ (l : List (List UInt8)) (b : List UInt8), bestS s i l b = b ∨ (bestS s i l b ∈ l ∧ bestS s i l b <+: s.drop i)
  | [], b => .inl rfl
  | n :: l, b => by
    unfold bestS
    split
    · rename_i h
      simp only [Bool.and_eq_true, decide_eq_true_eq, beq_iff_eq] at h
      rcases best_mem s i l n with h1 | ⟨h1, h2⟩
      · rw [h1]; exact .inr ⟨by simp, by rw [← h.1.2]; exact cut_pre s i _⟩
      · exact .inr ⟨by simp [h1], h2⟩
    · rcases best_mem s i l b with h1 | ⟨h1, h2⟩
      · exact .inl h1
      · exact .inr ⟨by simp [h1], h2⟩
theorem sign_pln : ∀ x ∈ signs, x.all plnB = true ∨ x = [91, 93] := by decide
theorem nil_bk (S : List Nat) (h : S ≠ []) : bkR S [91, 93] = S := by
  cases S with
  | nil => exact absurd rfl h
  | cons c r => rfl
/-- a name leaves what is open as it is -/
theorem nameR_stk {s : List UInt8} {i j : Nat} {n : List UInt8} (hi : i ≤ s.length) (h : nameR s i = some (n, j)) : stk s j = stk s i := by
  have hrl := (runE_le (sma_lt (s := s)) s.length i)
  have hne : stk s i ≠ [] := by obtain ⟨c, r, h⟩ := stk_cons s i; rw [h]; simp
  unfold nameR at h
  split at h
  · cases h
  · split at h
    · rename_i hlt
      simp only [Option.some.injEq, Prod.mk.injEq] at h
      obtain ⟨rfl, rfl⟩ := h
      have h1 := stk_add (cut_pre s i (runE smaAt s s.length i))
      have h2 := hrl.2.2 hi
      rw [cutS_len, show i + (min (runE smaAt s s.length i) s.length - i) = runE smaAt s s.length i by omega] at h1
      rw [h1]
      exact bkR_pln _ _ (all_imp (fun b => pln_sma) (run_bytes (fun i => sma_byte i) _ _))
    · split at h
      · cases h
      · rename_i hne2
        simp only [Option.some.injEq, Prod.mk.injEq] at h
        obtain ⟨rfl, rfl⟩ := h
        rcases best_mem s i signs [] with h1 | ⟨h1, h2⟩
        · exact absurd h1 hne2
        · rw [stk_add h2]
          rcases sign_pln _ h1 with h3 | h3
          · exact bkR_pln _ _ h3
          · rw [h3]; exact nil_bk _ hne
theorem numR_stk {s : List UInt8} {i j : Nat} {n : Int} (hi : i ≤ s.length) (h : numR s i = some (n, j)) : stk s j = stk s i := by
  have key : ∀ p, p ≤ s.length → stk s (runE digAt s 4 p) = stk s p := fun p hp => by
    have hrl := (runE_le (dig_lt (s := s)) 4 p)
    have h1 := stk_add (cut_pre s p (runE digAt s 4 p))
    have h2 := hrl.2.2 hp
    rw [cutS_len, show p + (min (runE digAt s 4 p) s.length - p) = runE digAt s 4 p by omega] at h1
    rw [h1]
    exact bkR_pln _ _ (all_imp (fun b => pln_dig) (run_bytes (fun i => dig_byte i) _ _))
  have hj : j = runE digAt s 4 (if sgn s i 45 then i + 1 else i) := by
    unfold numR at h
    cases hs : sgn s i 45 with
    | true =>
      simp only [hs, if_true] at h ⊢
      split at h
      · split at h
        · cases h
        · simp only [Option.some.injEq, Prod.mk.injEq] at h
          exact h.2.symm
      · cases h
    | false =>
      simp only [hs, Bool.false_eq_true, if_false] at h ⊢
      split at h
      · split at h
        · cases h
        · simp only [Option.some.injEq, Prod.mk.injEq] at h
          exact h.2.symm
      · cases h
  rw [hj]
  cases hs : sgn s i 45 with
  | true =>
    have hb := sgn_get hs
    have hlt := (List.getElem?_eq_some_iff.1 hb).1
    simp only [if_true]
    rw [key (i + 1) (by omega), stk_byte hb, bkS_pln (by decide)]
  | false =>
    simp only [Bool.false_eq_true, if_false]
    exact key i hi
theorem opL_pln : ∀ x ∈ opL, 0 < levelN x → (opSp x).all plnB = true := by decide
theorem opR_stk {s : List UInt8} {i j : Nat} {n : List UInt8} (hi : i ≤ s.length) (h : opR s i = some (n, j)) : stk s j = stk s i := by
  obtain ⟨h1, h2, rfl⟩ := opR_cand hi h
  obtain ⟨h3, h4⟩ := opOk_iff.1 h2
  rw [stk_add h4]
  exact bkR_pln _ _ (opL_pln n h1 h3)
/-- what is open behind what was read -/
def PJ.stk (s : List UInt8) : PJ → List Tm → Nat → Prop
  | .args d i, ts, k => ∃ m, ts.length = m + 1 ∧ ∀ c r, YtgfmlifkhpjplaaGreatDoor.stk s (i + 1) = c :: r → YtgfmlifkhpjplaaGreatDoor.stk s k = (c + m) :: r
  | .items d n i, ts, k => ∃ m, ts.length = m + 1 ∧ ∀ c r, YtgfmlifkhpjplaaGreatDoor.stk s i = c :: r → YtgfmlifkhpjplaaGreatDoor.stk s k = (c + m) :: r
  | .term l d i, ts, k => YtgfmlifkhpjplaaGreatDoor.stk s k = YtgfmlifkhpjplaaGreatDoor.stk s i
  | .loop t m l d i, ts, k => YtgfmlifkhpjplaaGreatDoor.stk s k = YtgfmlifkhpjplaaGreatDoor.stk s i
  | .prime d i, ts, k => YtgfmlifkhpjplaaGreatDoor.stk s k = YtgfmlifkhpjplaaGreatDoor.stk s i
section
variable {s : List UInt8} (hs : s.length ≤ 1000000)
include hs
theorem rp_stk : ∀ (f : Nat) (pj : PJ) (ts : List Tm) (k : Nat), rp s f pj = some (.ok ts k) → pj.pre s → pj.stk s ts k
  | 0, pj, ts, k, h, _ => by cases h
  | f + 1, .term l d i, ts, k, h, hp => by
    obtain ⟨hi, hl⟩ := hp
    have h : (thn (rp s f (.prime d i)) fun ts j => rp s f (.loop (Rs.tm ts) 0 l d j)) = some (.ok ts k) := h
    rcases thn_some h with ⟨e, h1, e2⟩ | ⟨us, j, h1, h2⟩
    · cases e2
    · have q1 : stk s j = stk s i := rp_stk f _ _ _ h1 hi
      obtain ⟨p1, p2, t, rfl, p4⟩ := rp_post hs (j := .prime d i) hi h1
      have q2 : stk s k = stk s j := rp_stk f _ _ _ h2 ⟨p2, p4, hl, by omega⟩
      exact q2.trans q1
  | f + 1, .loop t m l d i, ts, k, h, hp => by
    obtain ⟨hi, ht, hl, hm⟩ := hp
    have h : (match opR s i with
      | none => some (.ok [t] i)
      | some (n, j) => if (l : Int) < levelN n ∨ leftMost n < (m : Int) then some (.ok [t] i)
        else thn (rp s f (.term (levelN n - 1).toNat d j)) fun us k => rp s f (.loop (.mk 3 0 n [t, Rs.tm us]) (levelN n).toNat l d k)) = some (.ok ts k) := h
    cases ho : opR s i with
    | none => rw [ho] at h; cases h; exact rfl
    | some p =>
      obtain ⟨n, j⟩ := p
      rw [ho] at h
      obtain ⟨o1, o2, o3⟩ := opR_ok hi ho
      have hlv := opR_level ho
      have q0 := opR_stk hi ho
      simp only at h
      split at h
      · cases h; exact rfl
      · rcases thn_some h with ⟨e, h1, e2⟩ | ⟨us, k', h1, h2⟩
        · cases e2
        · have hpre : (PJ.term (levelN n - 1).toNat d j).pre s := ⟨o2, by omega⟩
          have q1 : stk s k' = stk s j := rp_stk f _ _ _ h1 hpre
          obtain ⟨p1, p2, u, rfl, p4⟩ := rp_post hs hpre h1
          have q2 : stk s k = stk s k' := rp_stk f _ _ _ h2 ⟨p2, fits_st o3 (by simp) (by simp [Rs.tm, ht, p4]), hl, by omega⟩
          exact q2.trans (q1.trans q0)
  | f + 1, .args d i, ts, k, h, hp => by
    have hp : i < s.length := hp
    have h : (thn (rp s f (.term 3 (d + 1) (i + 1))) fun ts j => if sgn s j 44 then thn (rp s f (.args d j)) fun us k => some (.ok (Rs.tm ts :: us) k) else some (.ok [Rs.tm ts] j)) = some (.ok ts k) := h
    rcases thn_some h with ⟨e, h1, e2⟩ | ⟨us, j, h1, h2⟩
    · cases e2
    · have q1 : stk s j = stk s (i + 1) := rp_stk f _ _ _ h1 ⟨by omega, by omega⟩
      split at h2
      · rename_i hc
        have hlt := sgn_lt hc
        rcases thn_some h2 with ⟨_, _, e2⟩ | ⟨vs, k', g1, g2⟩
        · cases e2
        · cases g2
          obtain ⟨m, hm, q2⟩ := rp_stk f _ _ _ g1 hlt
          refine ⟨m + 1, by simp [hm], fun c r hcr => ?_⟩
          rw [q2 (c + 1) r (stk_comma (sgn_get hc) (q1.trans hcr))]
          congr 1; omega
      · cases h2
        exact ⟨0, by simp, fun c r hcr => q1.trans hcr⟩
  | f + 1, .items d n i, ts, k, h, hp => by
    have hp : i ≤ s.length := hp
    have h : (thn (rp s f (.term 3 (d + 1 + n) i)) fun ts j => if sgn s j 44 then thn (rp s f (.items d (n + 1) (j + 1))) fun us k => some (.ok (Rs.tm ts :: us) k) else some (.ok [Rs.tm ts] j)) = some (.ok ts k) := h
    rcases thn_some h with ⟨e, h1, e2⟩ | ⟨us, j, h1, h2⟩
    · cases e2
    · have q1 : stk s j = stk s i := rp_stk f _ _ _ h1 ⟨hp, by omega⟩
      split at h2
      · rename_i hc
        have hlt := sgn_lt hc
        rcases thn_some h2 with ⟨_, _, e2⟩ | ⟨vs, k', g1, g2⟩
        · cases e2
        · cases g2
          obtain ⟨m, hm, q2⟩ := rp_stk f _ _ _ g1 (show j + 1 ≤ s.length by omega)
          refine ⟨m + 1, by simp [hm], fun c r hcr => ?_⟩
          rw [q2 (c + 1) r (stk_comma (sgn_get hc) (q1.trans hcr))]
          congr 1; omega
      · cases h2
        exact ⟨0, by simp, fun c r hcr => q1.trans hcr⟩
  | f + 1, .prime d i, ts, k, h, hp => by
    have hi : i ≤ s.length := hp
    have hne : stk s i ≠ [] := by obtain ⟨c, r, h⟩ := stk_cons s i; rw [h]; simp
    have h : (if 30 < d then some (.bad i) else match s[i]? with
      | none => some (.bad i)
      | some b => if bigB b then some (.ok [.mk 1 (b.toNat - 65 : Nat) [] []] (i + 1))
        else if digB b || b == 45 && digAt s (i + 1) then match numR s i with
          | none => some (.bad i)
          | some (n, j) => some (.ok [.mk 2 n [] []] j)
        else if b = 40 then thn (rp s f (.term 3 d (i + 1))) fun ts j => if sgn s j 41 then some (.ok [Rs.tm ts] (j + 1)) else some (.bad j)
        else if b = 91 ∧ sgn s (i + 1) 93 = false then thn (rp s f (.items d 0 (i + 1))) fun ts j =>
          if sgn s j 124 then thn (rp s f (.term 3 (d + ts.length) (j + 1))) fun us k => if sgn s k 93 then some (.ok [chainT ts (Rs.tm us)] (k + 1)) else some (.bad k)
          else if sgn s j 93 then some (.ok [chainT ts nilT] (j + 1)) else some (.bad j)
        else match nameR s i with
          | none => some (.bad i)
          | some (n, j) => if sgn s j 40 then thn (rp s f (.args d j)) fun ts k => if sgn s k 41 then some (.ok [.mk 3 0 n ts] (k + 1)) else some (.bad k)
            else some (.ok [.mk 3 0 n []] j)) = some (.ok ts k) := h
    show stk s k = stk s i
    split at h
    · cases h
    · cases hb : s[i]? with
      | none => rw [hb] at h; cases h
      | some b =>
        rw [hb] at h
        simp only at h
        have hlt := (List.getElem?_eq_some_iff.1 hb).1
        split at h
        · rename_i hbig; cases h; rw [stk_byte hb, bkS_pln (pln_big hbig)]
        · split at h
          · cases hn : numR s i with
            | none => rw [hn] at h; cases h
            | some p => obtain ⟨n, j⟩ := p; rw [hn] at h; cases h; exact numR_stk hi hn
          · split at h
            · rename_i h40
              rcases thn_some h with ⟨e, h1, e2⟩ | ⟨us, j, h1, h2⟩
              · cases e2
              · have q1 : stk s j = stk s (i + 1) := rp_stk f _ _ _ h1 ⟨by omega, by omega⟩
                rw [stk_open hb (.inl h40)] at q1
                split at h2
                · rename_i hc; cases h2; exact stk_close (sgn_get hc) (.inl rfl) q1 hne
                · cases h2
            · split at h
              · rename_i h91
                rcases thn_some h with ⟨e, h1, e2⟩ | ⟨us, j, h1, h2⟩
                · cases e2
                · obtain ⟨m, hm, q1⟩ := rp_stk f _ _ _ h1 (show i + 1 ≤ s.length by omega)
                  obtain ⟨_, pk, _, _⟩ : i + 1 < j ∧ j ≤ s.length ∧ _ ∧ _ := rp_post hs (j := .items d 0 (i + 1)) (show i + 1 ≤ s.length by omega) h1
                  have q1 := q1 0 _ (stk_open hb (.inr h91.1))
                  split at h2
                  · rename_i hc
                    have hjl := sgn_lt hc
                    rcases thn_some h2 with ⟨e, g1, e2⟩ | ⟨vs, k', g1, g2⟩
                    · cases e2
                    · have q2 : stk s k' = stk s (j + 1) := rp_stk f _ _ _ g1 ⟨by omega, by omega⟩
                      rw [stk_byte (sgn_get hc), bkS_pln (by decide), q1] at q2
                      split at g2
                      · rename_i hc2; cases g2; exact stk_close (sgn_get hc2) (.inr rfl) q2 hne
                      · cases g2
                  · split at h2
                    · rename_i hc; cases h2; exact stk_close (sgn_get hc) (.inr rfl) q1 hne
                    · cases h2
              · cases hn : nameR s i with
                | none => rw [hn] at h; cases h
                | some p =>
                  obtain ⟨n, j⟩ := p
                  rw [hn] at h
                  have q0 := nameR_stk hi hn
                  simp only at h
                  split at h
                  · rename_i hc
                    have hjl := sgn_lt hc
                    rcases thn_some h with ⟨e, h1, e2⟩ | ⟨us, k', h1, h2⟩
                    · cases e2
                    · obtain ⟨m, hm, q1⟩ := rp_stk f _ _ _ h1 hjl
                      have q1 := q1 0 _ (stk_open (sgn_get hc) (.inl rfl))
                      split at h2
                      · rename_i hc2; cases h2; rw [stk_close (sgn_get hc2) (.inl rfl) q1 (by rw [q0]; exact hne), q0]
                      · cases h2
                  · cases h; exact q0
/-- how deep a job is begun -/
def PJ.dok (s : List UInt8) : PJ → Prop
  | .term l d i => d ≤ pot (YtgfmlifkhpjplaaGreatDoor.stk s i)
  | .loop t m l d i => d ≤ pot (YtgfmlifkhpjplaaGreatDoor.stk s i)
  | .args d i => d + 1 ≤ pot (YtgfmlifkhpjplaaGreatDoor.stk s (i + 1))
  | .items d n i => d + 1 + n ≤ pot (YtgfmlifkhpjplaaGreatDoor.stk s i)
  | .prime d i => d ≤ pot (YtgfmlifkhpjplaaGreatDoor.stk s i)
/-- the reference's reader fails at a place -/
def PJ.bads (s : List UInt8) (D e : Nat) : PJ → Prop
  | .term l d i => rdF s (.read i D l) = some (.bad e)
  | .loop t m l d i => contM s D m l t i = some (.bad e)
  | .args d i => rdF s (.terms (i + 1) (D - 1) 41 41) = some (.bad e)
  | .items d n i => rdF s (.terms i (D - 1) 93 124) = some (.bad e)
  | .prime d i => rdF s (.prime i D) = some (.bad e)
theorem rp_bads (hb30 : ∀ i, pot (stk s i) ≤ 30) : ∀ (f : Nat) (pj : PJ) (e : Nat), rp s f pj = some (.bad e) → pj.pre s → pj.dok s → ∀ D, 31 ≤ pj.dp + D → pj.bads s D e
  | 0, pj, e, h, _, _, _, _ => by cases h
  | f + 1, .term l d i, e, h, hp, hd, D, hD => by
    obtain ⟨hi, hl⟩ := hp
    have hD : 31 ≤ d + D := hD
    have hd : d ≤ pot (stk s i) := hd
    have h : (thn (rp s f (.prime d i)) fun ts j => rp s f (.loop (Rs.tm ts) 0 l d j)) = some (.bad e) := h
    show rdF s (.read i D l) = some (.bad e)
    rw [read_cont hs D hi l hl]
    rcases thn_some h with ⟨e', h1, e2⟩ | ⟨ts, j, h1, h2⟩
    · cases e2
      have q1 : rdF s (.prime i D) = some (.bad e) := rp_bads hb30 f _ _ h1 hi hd D hD
      rw [q1, thn_bad]
    · have q1 : rdF s (.prime i D) = some (.ok ts j) := rp_tells hs f _ _ h1 hi D hD
      obtain ⟨p1, p2, p3, p4⟩ := prime_one hs hi q1
      have q3 : stk s j = stk s i := rp_stk hs f _ _ _ h1 hi
      have q2 : contM s D 0 l (Rs.tm ts) j = some (.bad e) := rp_bads hb30 f _ _ h2 ⟨p3, p4, hl, by omega⟩ (show d ≤ pot (stk s j) by rw [q3]; exact hd) D hD
      rw [q1, thn_ok]
      unfold contM at q2
      simpa using q2
  | f + 1, .loop t m l d i, e, h, hp, hd, D, hD => by
    obtain ⟨hi, ht, hl, hm⟩ := hp
    have hD : 31 ≤ d + D := hD
    have hd : d ≤ pot (stk s i) := hd
    have hc := cont_loop hs (D := D) hi ht hm hl
    have h : (match opR s i with
      | none => some (.ok [t] i)
      | some (n, j) => if (l : Int) < levelN n ∨ leftMost n < (m : Int) then some (.ok [t] i)
        else thn (rp s f (.term (levelN n - 1).toNat d j)) fun us k => rp s f (.loop (.mk 3 0 n [t, Rs.tm us]) (levelN n).toNat l d k)) = some (.bad e) := h
    show contM s D m l t i = some (.bad e)
    cases ho : opR s i with
    | none => rw [ho] at h; cases h
    | some p =>
      obtain ⟨n, j⟩ := p
      rw [ho] at h hc
      obtain ⟨o1, o2, o3⟩ := opR_ok hi ho
      have hlv := opR_level ho
      have q0 := opR_stk hi ho
      simp only at h hc
      split at h
      · cases h
      · rename_i hif
        rw [if_neg hif] at hc
        have hd1 : d ≤ pot (stk s j) := by rw [q0]; exact hd
        rcases thn_some h with ⟨e', h1, e2⟩ | ⟨us, k, h1, h2⟩
        · cases e2
          have q1 : rdF s (.read j D (levelN n - 1).toNat) = some (.bad e) := rp_bads hb30 f _ _ h1 ⟨o2, by omega⟩ hd1 D hD
          rw [hc, q1, thn_bad]
        · have hpre : (PJ.term (levelN n - 1).toNat d j).pre s := ⟨o2, by omega⟩
          have q1 : rdF s (.read j D (levelN n - 1).toNat) = some (.ok us k) := rp_tells hs f _ _ h1 hpre D hD
          obtain ⟨p1, p2, p3, p4⟩ := read_one hs o2 (by omega) q1
          have q3 : stk s k = stk s j := rp_stk hs f _ _ _ h1 hpre
          have q2 : contM s D (levelN n).toNat l (.mk 3 0 n [t, Rs.tm us]) k = some (.bad e) := rp_bads hb30 f _ _ h2 ⟨p3, fits_st o3 (by simp) (by simp [ht, p4]), hl, by omega⟩ (show d ≤ pot (stk s k) by rw [q3]; exact hd1) D hD
          rw [hc, q1, thn_ok, q2]
  | f + 1, .args d i, e, h, hp, hd, D, hD => by
    have hp : i < s.length := hp
    have hD : 31 ≤ d + D := hD
    have hd : d + 1 ≤ pot (stk s (i + 1)) := hd
    have hD1 : 31 ≤ (d + 1) + (D - 1) := by omega
    have ht := terms_stepF hs (i + 1) (D - 1) 41 41 (by omega)
    have h : (thn (rp s f (.term 3 (d + 1) (i + 1))) fun ts j => if sgn s j 44 then thn (rp s f (.args d j)) fun us k => some (.ok (Rs.tm ts :: us) k) else some (.ok [Rs.tm ts] j)) = some (.bad e) := h
    show rdF s (.terms (i + 1) (D - 1) 41 41) = some (.bad e)
    rcases thn_some h with ⟨e', h1, e2⟩ | ⟨ts, j, h1, h2⟩
    · cases e2
      have q1 : rdF s (.read (i + 1) (D - 1) 3) = some (.bad e) := rp_bads hb30 f _ _ h1 ⟨by omega, by omega⟩ hd (D - 1) hD1
      rw [ht, q1, thn_bad]
    · have hpre : (PJ.term 3 (d + 1) (i + 1)).pre s := ⟨by omega, by omega⟩
      have q1 : rdF s (.read (i + 1) (D - 1) 3) = some (.ok ts j) := rp_tells hs f _ _ h1 hpre (D - 1) hD1
      have q3 : stk s j = stk s (i + 1) := rp_stk hs f _ _ _ h1 hpre
      rw [q1, thn_ok] at ht
      by_cases hc : sgn s j 44 = true
      · rw [if_pos hc] at h2
        have hno := sgn_one hc (b := 41) (by decide)
        rw [hno, hc] at ht
        simp only [Bool.or_self, Bool.false_eq_true, if_false, if_true] at ht
        have hlt := sgn_lt hc
        obtain ⟨c, r, hcr⟩ := stk_cons s j
        have hst := stk_comma (sgn_get hc) hcr
        rcases thn_some h2 with ⟨e', g1, e2⟩ | ⟨us, k, g1, g2⟩
        · cases e2
          have q2 : rdF s (.terms (j + 1) (D - 1) 41 41) = some (.bad e) := rp_bads hb30 f _ _ g1 hlt (show d + 1 ≤ pot (stk s (j + 1)) by
            rw [hst]; rw [← q3, hcr] at hd; simp only [pot] at hd ⊢; omega) D hD
          rw [ht, q2, thn_bad]
        · cases g2
      · rw [if_neg hc] at h2; cases h2
  | f + 1, .items d n i, e, h, hp, hd, D, hD => by
    have hp : i ≤ s.length := hp
    have hD : 31 ≤ d + D := hD
    have hd : d + 1 + n ≤ pot (stk s i) := hd
    have hD1 : 31 ≤ (d + 1 + n) + (D - 1) := by omega
    have ht := terms_stepF hs i (D - 1) 93 124 (by omega)
    have h : (thn (rp s f (.term 3 (d + 1 + n) i)) fun ts j => if sgn s j 44 then thn (rp s f (.items d (n + 1) (j + 1))) fun us k => some (.ok (Rs.tm ts :: us) k) else some (.ok [Rs.tm ts] j)) = some (.bad e) := h
    show rdF s (.terms i (D - 1) 93 124) = some (.bad e)
    rcases thn_some h with ⟨e', h1, e2⟩ | ⟨ts, j, h1, h2⟩
    · cases e2
      have q1 : rdF s (.read i (D - 1) 3) = some (.bad e) := rp_bads hb30 f _ _ h1 ⟨by omega, by omega⟩ hd (D - 1) hD1
      rw [ht, q1, thn_bad]
    · have hpre : (PJ.term 3 (d + 1 + n) i).pre s := ⟨by omega, by omega⟩
      have q1 : rdF s (.read i (D - 1) 3) = some (.ok ts j) := rp_tells hs f _ _ h1 hpre (D - 1) hD1
      have q3 : stk s j = stk s i := rp_stk hs f _ _ _ h1 hpre
      rw [q1, thn_ok] at ht
      by_cases hc : sgn s j 44 = true
      · rw [if_pos hc] at h2
        have hno := sgn_one hc (b := 93) (by decide)
        have hno2 := sgn_one hc (b := 124) (by decide)
        rw [hno, hno2, hc] at ht
        simp only [Bool.or_self, Bool.false_eq_true, if_false, if_true] at ht
        have hlt := sgn_lt hc
        obtain ⟨c, r, hcr⟩ := stk_cons s j
        have hst := stk_comma (sgn_get hc) hcr
        rcases thn_some h2 with ⟨e', g1, e2⟩ | ⟨us, k, g1, g2⟩
        · cases e2
          have q2 : rdF s (.terms (j + 1) (D - 1) 93 124) = some (.bad e) := rp_bads hb30 f _ _ g1 (show j + 1 ≤ s.length by omega) (show d + 1 + (n + 1) ≤ pot (stk s (j + 1)) by
            rw [hst]; rw [← q3, hcr] at hd; simp only [pot] at hd ⊢; omega) D hD
          rw [ht, q2, thn_bad]
        · cases g2
      · rw [if_neg hc] at h2; cases h2
  | f + 1, .prime d i, e, h, hp, hd, D, hD => by
    have hi : i ≤ s.length := hp
    have hD : 31 ≤ d + D := hD
    have hd : d ≤ pot (stk s i) := hd
    have hd30 := hb30 i
    have ht := prime_stepF hs i D hi
    have h : (if 30 < d then some (.bad i) else match s[i]? with
      | none => some (.bad i)
      | some b => if bigB b then some (.ok [.mk 1 (b.toNat - 65 : Nat) [] []] (i + 1))
        else if digB b || b == 45 && digAt s (i + 1) then match numR s i with
          | none => some (.bad i)
          | some (n, j) => some (.ok [.mk 2 n [] []] j)
        else if b = 40 then thn (rp s f (.term 3 d (i + 1))) fun ts j => if sgn s j 41 then some (.ok [Rs.tm ts] (j + 1)) else some (.bad j)
        else if b = 91 ∧ sgn s (i + 1) 93 = false then thn (rp s f (.items d 0 (i + 1))) fun ts j =>
          if sgn s j 124 then thn (rp s f (.term 3 (d + ts.length) (j + 1))) fun us k => if sgn s k 93 then some (.ok [chainT ts (Rs.tm us)] (k + 1)) else some (.bad k)
          else if sgn s j 93 then some (.ok [chainT ts nilT] (j + 1)) else some (.bad j)
        else match nameR s i with
          | none => some (.bad i)
          | some (n, j) => if sgn s j 40 then thn (rp s f (.args d j)) fun ts k => if sgn s k 41 then some (.ok [.mk 3 0 n ts] (k + 1)) else some (.bad k)
            else some (.ok [.mk 3 0 n []] j)) = some (.bad e) := h
    show rdF s (.prime i D) = some (.bad e)
    rw [if_neg (by omega)] at h
    have hD1 : ¬ D < 1 := by omega
    cases hb : s[i]? with
    | none => rw [hb] at h ht; cases h; exact ht
    | some b =>
      rw [hb] at h ht
      simp only [if_neg hD1] at h ht
      have hlt := (List.getElem?_eq_some_iff.1 hb).1
      by_cases h40 : b = 40
      · have hop := stk_open hb (.inl h40)
        subst h40
        rw [if_pos rfl] at ht
        rw [if_neg (by decide), if_neg (by simp; decide), if_pos rfl] at h
        have hdo : d ≤ pot (stk s (i + 1)) := by rw [hop]; simp only [pot]; omega
        rcases thn_some h with ⟨e', h1, e2⟩ | ⟨ts, j, h1, h2⟩
        · cases e2
          have q1 : rdF s (.read (i + 1) D 3) = some (.bad e) := rp_bads hb30 f _ _ h1 ⟨by omega, by omega⟩ hdo D hD
          rw [ht, q1, thn_bad]
        · have q1 : rdF s (.read (i + 1) D 3) = some (.ok ts j) := rp_tells hs f _ _ h1 ⟨by omega, by omega⟩ D hD
          rw [q1, thn_ok] at ht
          split at h2
          · cases h2
          · rename_i hc; rw [if_neg hc] at ht; cases h2; exact ht
      · rw [if_neg h40] at h ht
        by_cases h91 : b = 91 ∧ sgn s (i + 1) 93 = false
        · have hb91 := h91.1
          have hop := stk_open hb (.inr hb91)
          rw [if_pos h91] at h ht
          rw [if_neg (by rw [hb91]; decide), if_neg (by rw [hb91]; simp; decide)] at h
          have hdo : d + 1 + 0 ≤ pot (stk s (i + 1)) := by rw [hop]; simp only [pot]; omega
          rcases thn_some h with ⟨e', h1, e2⟩ | ⟨ts, j, h1, h2⟩
          · cases e2
            have q1 : rdF s (.terms (i + 1) (D - 1) 93 124) = some (.bad e) := rp_bads hb30 f _ _ h1 (show i + 1 ≤ s.length by omega) hdo D hD
            rw [ht, q1, thn_bad]
          · have hpre : (PJ.items d 0 (i + 1)).pre s := show i + 1 ≤ s.length by omega
            have q1 : rdF s (.terms (i + 1) (D - 1) 93 124) = if sgn s j 93 || sgn s j 124 then some (.ok ts j) else some (.bad j) := rp_tells hs f _ _ h1 hpre D hD
            obtain ⟨m, hm, q3⟩ := rp_stk hs f _ _ _ h1 hpre
            have q3 := q3 0 _ hop
            by_cases hc : sgn s j 124 = true
            · have hno := sgn_one hc (b := 93) (by decide)
              have hk := sgn_lt hc
              rw [q1, hc, hno] at ht
              simp only [Bool.or_true, if_true, thn_ok, hno, Bool.false_eq_true, if_false] at ht
              rw [if_pos hc] at h2
              have hD3 : 31 ≤ (d + ts.length) + (D - 1) := by omega
              have hdt : d + ts.length ≤ pot (stk s (j + 1)) := by
                rw [stk_byte (sgn_get hc), bkS_pln (by decide), q3]; simp only [pot]; omega
              rcases thn_some h2 with ⟨e', g1, e2⟩ | ⟨us, k, g1, g2⟩
              · cases e2
                have q2 : rdF s (.read (j + 1) (D - 1) 3) = some (.bad e) := rp_bads hb30 f _ _ g1 ⟨by omega, by omega⟩ hdt (D - 1) hD3
                rw [ht, q2, thn_bad]
              · have q2 : rdF s (.read (j + 1) (D - 1) 3) = some (.ok us k) := rp_tells hs f _ _ g1 ⟨by omega, by omega⟩ (D - 1) hD3
                rw [q2, thn_ok] at ht
                split at g2
                · cases g2
                · rename_i hc2; rw [if_neg hc2] at ht; cases g2; exact ht
            · rw [if_neg hc] at h2
              split at h2
              · cases h2
              · rename_i hc2
                have hcf : sgn s j 124 = false := by simpa using hc
                have hcf2 : sgn s j 93 = false := by simpa using hc2
                rw [q1, hcf, hcf2] at ht
                simp only [Bool.or_self, Bool.false_eq_true, if_false, thn_bad] at ht
                cases h2; exact ht
        · rw [if_neg h91] at h ht
          split at h
          · cases h
          · rename_i hc
            rw [if_neg hc] at ht
            split at h
            · rename_i hc2
              rw [if_pos hc2] at ht
              cases hn : numR s i with
              | none => rw [hn] at h ht; cases h; exact ht
              | some p => obtain ⟨n, j⟩ := p; rw [hn] at h; cases h
            · rename_i hc2
              rw [if_neg hc2] at ht
              cases hn : nameR s i with
              | none => rw [hn] at h ht; cases h; exact ht
              | some p =>
                obtain ⟨n, j⟩ := p
                obtain ⟨n1, n2, n3⟩ := nameR_ok hi hn
                have q0 := nameR_stk hi hn
                rw [hn] at h ht
                simp only at h ht
                split at h
                · rename_i hc3
                  have hlt := sgn_lt hc3
                  have hop := stk_open (sgn_get hc3) (.inl rfl)
                  have hdo : d + 1 ≤ pot (stk s (j + 1)) := by rw [hop, q0]; simp only [pot]; omega
                  rw [if_pos hc3] at ht
                  rcases thn_some h with ⟨e', h1, e2⟩ | ⟨ts, k, h1, h2⟩
                  · cases e2
                    have q1 : rdF s (.terms (j + 1) (D - 1) 41 41) = some (.bad e) := rp_bads hb30 f _ _ h1 hlt hdo D hD
                    rw [ht, q1, thn_bad]
                  · have q1 : rdF s (.terms (j + 1) (D - 1) 41 41) = if sgn s k 41 then some (.ok ts k) else some (.bad k) := rp_tells hs f _ _ h1 hlt D hD
                    split at h2
                    · cases h2
                    · rename_i hc4; rw [q1, if_neg hc4, thn_bad] at ht; cases h2; exact ht
                · cases h
end
end Go.Proofs.YtgfmlifkhpjplaaGreatDoor

/-
  Variables and numbers of the reference.
  Conditions: none.
-/
open Go Go.AM Go.Proofs
namespace Go.Proofs.YtgfmlifkhpjplaaGreatDoor
open Go.ChangeShapes Go.WideShapes Go.ChangeAt Go.RowKit
set_option linter.unusedVariables false
set_option linter.unusedSimpArgs false
set_option maxRecDepth 100000
-- 79 loop.example/prologserver/spec.l1Var params 1 ntmps 5
def ac79 : Cd := .seq (.region [⟨(some 2),.alloc [(.d (.int .i64 0)),(.d (.int .i64 0)),(.d (.str [])),(.full [])],none⟩] [])
 (.seq (.region [⟨(some 3),.mv (.t 0),none⟩,
 ⟨(some 4),.build [(.d (.int .i64 0)),(.d (.int .i64 0)),(.d (.str [])),(.full [])] [(0,1,(.k (.c (.d (.int .i64 1))))),(1,1,(.t 3))],none⟩,
 ⟨none,.store 4 (.t 2) (.t 4),none⟩] [0,3,4])
 (.ret))
theorem ac79_ok : cFunc Tryz.prog [] [(0,[],[]),(1,[0,3,4],[])] Tryz.f79 = some (ac79,[.cell 2 (some 4)],5) := by kernel_rfl
-- 55 loop.example/prologserver/spec.l1Int params 1 ntmps 5
def ac55 : Cd := .seq (.region [⟨(some 2),.alloc [(.d (.int .i64 0)),(.d (.int .i64 0)),(.d (.str [])),(.full [])],none⟩] [])
 (.seq (.region [⟨(some 3),.mv (.t 0),none⟩,
 ⟨(some 4),.build [(.d (.int .i64 0)),(.d (.int .i64 0)),(.d (.str [])),(.full [])] [(0,1,(.k (.c (.d (.int .i64 2))))),(1,1,(.t 3))],none⟩,
 ⟨none,.store 4 (.t 2) (.t 4),none⟩] [0,3,4])
 (.ret))
theorem ac55_ok : cFunc Tryz.prog [] [(0,[],[]),(1,[0,3,4],[])] Tryz.f55 = some (ac55,[.cell 2 (some 4)],5) := by kernel_rfl
theorem var_calls (n : Int) (H : Heap) : ACalls Tryz.prog 79 [.c (.d (.int .i64 n))] H (fun r H' => H' = H ∧ r = .agg ((Tm.mk 1 n [] []).row.map .d)) := by
  refine acalls Tryz.func79 (by kernel_rfl) ac79_ok fun hf => ?_
  simp -implicitDefEqProofs [ac79, row_mk, hf, go_sem, -List.set_cons_succ, -List.set_cons_zero]
theorem int_calls (n : Int) (H : Heap) : ACalls Tryz.prog 55 [.c (.d (.int .i64 n))] H (fun r H' => H' = H ∧ r = .agg ((Tm.mk 2 n [] []).row.map .d)) := by
  refine acalls Tryz.func55 (by kernel_rfl) ac55_ok fun hf => ?_
  simp -implicitDefEqProofs [ac55, row_mk, hf, go_sem, -List.set_cons_succ, -List.set_cons_zero]
end Go.Proofs.YtgfmlifkhpjplaaGreatDoor

/-
  Slices of bytes as data.
  Conditions: none.
-/
open Go Go.AM Go.Proofs
namespace Go.Proofs.YtgfmlifkhpjplaaGreatDoor
open Go.ChangeShapes Go.WideShapes Go.ChangeAt Go.RowKit
set_option linter.unusedVariables false
set_option linter.unusedSimpArgs false
set_option maxRecDepth 100000
theorem bytesRows_len {s : List UInt8} : (bytesRows s).length = s.length := by simp [bytesRows]
theorem bytesRows_nil {s : List UInt8} : bytesRows s = [] ↔ s = [] := by simp [bytesRows]
theorem bytesRows_get {s : List UInt8} {i : Nat} (h : i < s.length) : (bytesRows s)[i]? = some [.int .u8 s[i].toNat] := by simp [bytesRows, h]
theorem bytes_ty {row : List D} (h : HasTy Tryz.prog 30 row) : ∃ s : List UInt8, row = [.sl (bytesRows s)] ∧ s.length ≤ reachBytes := by
  obtain ⟨rows, rfl, hb, hc, ht⟩ := h.sl_inv Tryz.underlying30
  rw [show Tryz.prog.bytesOf 5 = 1 from by kernel_rfl] at hb
  obtain ⟨l, rfl, hl⟩ := list_of_ty (f := fun b : UInt8 => [.int .u8 b.toNat]) (p := fun _ => True) (rows := rows) (fun r hr => by
    obtain ⟨n, e, hn⟩ := (ht r hr).int_inv Tryz.underlying5
    refine ⟨UInt8.ofNat n.toNat, ?_, trivial⟩
    rw [e]
    have h1 : 0 ≤ n ∧ n ≤ 255 := by simpa [inR, IntKind.min, IntKind.max, IntKind.signed, IntKind.bits] using hn
    have : ((UInt8.ofNat n.toNat).toNat : Int) = n := by
      rw [UInt8.toNat_ofNat']
      omega
    rw [this])
  exact ⟨l, rfl, by simpa using hb⟩
theorem byteRow {s : List UInt8} {i : Int} {K : A → St → Prop} {st : St} (h0 : 0 ≤ i) (h : i < s.length) (hk : K (.c (.el [.int .u8 (s[i.toNat]'(by omega)).toNat] 0)) st) : RowK true (bytesRows s) i 1 K st :=
  row_int _ h0 (bytesRows_get (by omega)) rfl hk
theorem u8_i64 (b : UInt8) : IntKind.wrap .i64 (b.toNat : Int) = b.toNat := by
  rw [IntKind.wrap_i64]
  have := b.toNat_lt
  omega
end Go.Proofs.YtgfmlifkhpjplaaGreatDoor

/-
  The source of draws: its first functions, each by what it answers.
  Conditions: none.
-/
open Go Go.AM Go.Proofs
namespace Go.Proofs.YtgfmlifkhpjplaaGreatDoor
open Go.ChangeShapes Go.WideShapes Go.ChangeAt Go.RowKit
set_option linter.unusedVariables false
set_option linter.unusedSimpArgs false
set_option maxRecDepth 100000
-- 53 (*loop.example/prologserver/spec.l18Rd).pick params 2 ntmps 99
def ac53 : Cd := .seq (.region [⟨(some 4),.mv (.k (.c (.d (.int .i64 0)))),none⟩] [4])
 (.seq (.region [⟨(some 7),.mv (.t 0),none⟩,
 ⟨(some 8),.mv (.t 0),none⟩,
 ⟨(some 9),.nilCheck (.t 8),none⟩,
 ⟨(some 10),.fieldAddr 1 (.t 9),none⟩,
 ⟨(some 11),.load none (.t 10),none⟩,
 ⟨(some 12),.bin .add (.t 11) (.k (.c (.d (.int .i64 1)))),none⟩,
 ⟨(some 13),.nilCheck (.t 7),none⟩,
 ⟨(some 14),.fieldAddr 1 (.t 13),none⟩,
 ⟨none,.store 1 (.t 14) (.t 12),none⟩] [7,8,9,10,11,12,13,14])
 (.seq (.seq (.region [⟨(some 15),.mv (.t 1),none⟩,
 ⟨(some 16),.bin .lss (.t 15) (.k (.c (.d (.int .i64 1)))),none⟩,
 ⟨(some 17),.mv (.t 16),none⟩,
 ⟨(some 18),.mv (.t 0),some (17,false)⟩,
 ⟨(some 19),.nilCheck (.t 18),some (17,false)⟩,
 ⟨(some 20),.fieldAddr 0 (.t 19),some (17,false)⟩,
 ⟨(some 21),.load none (.t 20),some (17,false)⟩,
 ⟨(some 22),.len 1 (.t 21),some (17,false)⟩,
 ⟨(some 23),.bin .eql (.t 22) (.k (.c (.d (.int .i64 0)))),some (17,false)⟩,
 ⟨(some 24),.pick (.t 17) (.k (.c (.d (.bool true)))) (.t 23),none⟩] [15,16,17,18,19,20,21,22,23])
 (.cond (.t 24)
 (.seq (.region [⟨(some 4),.mv (.k (.c (.d (.int .i64 0)))),none⟩] [0,1,24])
 (.ret))
 (.skip)))
 (.seq (.region [⟨(some 25),.mv (.t 0),none⟩,
 ⟨(some 26),.nilCheck (.t 25),none⟩,
 ⟨(some 27),.fieldAddr 1 (.t 26),none⟩,
 ⟨(some 28),.load none (.t 27),none⟩,
 ⟨(some 29),.bin .sub (.t 28) (.k (.c (.d (.int .i64 1)))),none⟩,
 ⟨(some 5),.mv (.t 29),none⟩] [4,24,25,26,27,28,29])
 (.seq (.seq (.region [⟨(some 30),.mv (.t 5),none⟩,
 ⟨(some 31),.mv (.t 0),none⟩,
 ⟨(some 32),.nilCheck (.t 31),none⟩,
 ⟨(some 33),.fieldAddr 0 (.t 32),none⟩,
 ⟨(some 34),.load none (.t 33),none⟩,
 ⟨(some 35),.len 1 (.t 34),none⟩,
 ⟨(some 36),.bin .lss (.t 30) (.t 35),none⟩] [30,31,32,33,34,35])
 (.cond (.t 36)
 (.seq (.region [⟨(some 37),.mv (.t 0),none⟩,
 ⟨(some 38),.nilCheck (.t 37),none⟩,
 ⟨(some 39),.fieldAddr 0 (.t 38),none⟩,
 ⟨(some 40),.load none (.t 39),none⟩,
 ⟨(some 41),.mv (.t 5),none⟩,
 ⟨(some 42),.indexAddr 1 (.t 40) (.t 41),none⟩,
 ⟨(some 43),.load none (.t 42),none⟩,
 ⟨(some 44),.cvInt .i64 (.t 43),none⟩,
 ⟨(some 45),.mv (.t 1),none⟩,
 ⟨(some 46),.bin .rem (.t 44) (.t 45),none⟩,
 ⟨(some 4),.mv (.t 46),none⟩] [0,1,5,36,37,38,39,40,41,42,43,44,45,46])
 (.ret))
 (.skip)))
 (.seq (.region [⟨(some 47),.mv (.t 0),none⟩,
 ⟨(some 48),.nilCheck (.t 47),none⟩,
 ⟨(some 49),.fieldAddr 0 (.t 48),none⟩,
 ⟨(some 51),.mv (.t 5),none⟩,
 ⟨(some 52),.mv (.t 0),none⟩,
 ⟨(some 53),.nilCheck (.t 52),none⟩,
 ⟨(some 54),.fieldAddr 0 (.t 53),none⟩,
 ⟨(some 62),.mv (.t 0),none⟩,
 ⟨(some 63),.nilCheck (.t 62),none⟩,
 ⟨(some 64),.fieldAddr 0 (.t 63),none⟩,
 ⟨(some 66),.mv (.t 5),none⟩,
 ⟨(some 67),.bin .mul (.t 66) (.k (.c (.d (.int .i64 7)))),none⟩,
 ⟨(some 68),.bin .add (.t 67) (.k (.c (.d (.int .i64 3)))),none⟩,
 ⟨(some 69),.mv (.t 0),none⟩,
 ⟨(some 70),.nilCheck (.t 69),none⟩,
 ⟨(some 71),.fieldAddr 0 (.t 70),none⟩,
 ⟨(some 80),.mv (.t 5),none⟩,
 ⟨(some 81),.bin .mul (.t 80) (.k (.c (.d (.int .i64 29)))),none⟩,
 ⟨(some 83),.mv (.t 5),none⟩,
 ⟨(some 84),.mv (.t 0),none⟩,
 ⟨(some 85),.nilCheck (.t 84),none⟩,
 ⟨(some 86),.fieldAddr 0 (.t 85),none⟩,
 ⟨(some 50),.load none (.t 49),none⟩,
 ⟨(some 55),.load none (.t 54),none⟩,
 ⟨(some 56),.len 1 (.t 55),none⟩,
 ⟨(some 57),.bin .rem (.t 51) (.t 56),none⟩,
 ⟨(some 58),.indexAddr 1 (.t 50) (.t 57),none⟩,
 ⟨(some 59),.load none (.t 58),none⟩,
 ⟨(some 60),.cvInt .i64 (.t 59),none⟩,
 ⟨(some 61),.bin .mul (.t 60) (.k (.c (.d (.int .i64 131)))),none⟩,
 ⟨(some 65),.load none (.t 64),none⟩,
 ⟨(some 72),.load none (.t 71),none⟩,
 ⟨(some 73),.len 1 (.t 72),none⟩,
 ⟨(some 74),.bin .rem (.t 68) (.t 73),none⟩,
 ⟨(some 75),.indexAddr 1 (.t 65) (.t 74),none⟩,
 ⟨(some 76),.load none (.t 75),none⟩,
 ⟨(some 77),.cvInt .i64 (.t 76),none⟩,
 ⟨(some 78),.bin .mul (.t 77) (.k (.c (.d (.int .i64 1117)))),none⟩,
 ⟨(some 79),.bin .add (.t 61) (.t 78),none⟩,
 ⟨(some 82),.bin .add (.t 79) (.t 81),none⟩,
 ⟨(some 87),.load none (.t 86),none⟩,
 ⟨(some 88),.len 1 (.t 87),none⟩,
 ⟨(some 89),.bin .quo (.t 83) (.t 88),none⟩,
 ⟨(some 90),.bin .mul (.t 89) (.k (.c (.d (.int .i64 53)))),none⟩,
 ⟨(some 91),.bin .add (.t 82) (.t 90),none⟩,
 ⟨(some 6),.mv (.t 91),none⟩] [0,4,5,36,47,48,49,50,51,52,53,54,55,56,57,58,59,60,61,62,63,64,65,66,67,68,69,70,71,72,73,74,75,76,77,78,79,80,81,82,83,84,85,86,87,88,89,90,91])
 (.seq (.region [⟨(some 92),.mv (.t 6),none⟩,
 ⟨(some 93),.mv (.t 6),none⟩,
 ⟨(some 94),.bin .quo (.t 93) (.k (.c (.d (.int .i64 64)))),none⟩,
 ⟨(some 95),.bin .xor (.t 92) (.t 94),none⟩,
 ⟨(some 6),.mv (.t 95),none⟩] [92,93,94,95])
 (.seq (.region [⟨(some 96),.mv (.t 6),none⟩,
 ⟨(some 97),.mv (.t 1),none⟩,
 ⟨(some 98),.bin .rem (.t 96) (.t 97),none⟩,
 ⟨(some 4),.mv (.t 98),none⟩] [1,6,96,97,98])
 (.ret))))))))
theorem ac53_ok : cFunc Tryz.prog [] [(0,[4],[]),(1,[7,8,9,10,11,12,13,14],[]),(2,[15,16,17,18,19,20,21,22,23],[]),(3,[0,1,24],[]),(4,[4,24,25,26,27,28,29],[]),(5,[30,31,32,33,34,35],[]),(6,[0,1,5,36,37,38,39,40,41,42,43,44,45,46],[]),(7,[0,4,5,36,47,48,49,50,51,52,53,54,55,56,57,58,59,60,61,62,63,64,65,66,67,68,69,70,71,72,73,74,75,76,77,78,79,80,81,82,83,84,85,86,87,88,89,90,91],[0,1,2,4,5,6,7,15,16,17,19,20,21,22,23,24,33,34,36,37,38,39,3,8,9,10,11,12,13,14,18,25,26,27,28,29,30,31,32,35,40,41,42,43,44,45]),(8,[92,93,94,95],[]),(9,[1,6,96,97,98],[])] Tryz.f53 = some (ac53,[.tmp 4],99) := by kernel_rfl
-- 34 loop.example/prologserver/spec.l18Open params 1 ntmps 11
def ac34 : Cd := .seq (.region [⟨(some 2),.mv (.k (.c (.d (.v (.pointer none))))),none⟩] [2])
 (.seq (.seq (.region [⟨(some 3),.mv (.t 0),none⟩,
 ⟨(some 4),.len 1 (.t 3),none⟩,
 ⟨(some 5),.bin .gtr (.t 4) (.k (.c (.d (.int .i64 2000)))),none⟩] [3,4])
 (.cond (.t 5)
 (.region [⟨(some 6),.mv (.t 0),none⟩,
 ⟨(some 7),.slice 1 (.t 6) none (some (.k (.c (.d (.int .i64 2000))))) none,none⟩,
 ⟨(some 0),.mv (.t 7),none⟩] [5,6,7])
 (.skip)))
 (.seq (.region [⟨(some 8),.mv (.t 0),none⟩,
 ⟨(some 9),.build [(.full []),(.d (.int .i64 0))] [(0,1,(.t 8))],none⟩,
 ⟨(some 10),.box (.t 9),none⟩,
 ⟨(some 2),.mv (.t 10),none⟩] [0,5,8,9,10])
 (.ret)))
theorem ac34_ok : cFunc Tryz.prog [] [(0,[2],[]),(1,[3,4],[]),(2,[5,6,7],[]),(3,[0,5,8,9,10],[])] Tryz.f34 = some (ac34,[.tmp 2],11) := by kernel_rfl
-- 37 (*loop.example/prologserver/spec.l18Rd).num params 2 ntmps 12
def ac37 : Cd := .seq (.region [⟨(some 4),.mv (.k (.c (.d (.int .i64 0)))),none⟩] [4])
 (.seq (.region [⟨(some 5),.mv (.t 1),none⟩,
 ⟨(some 6),.mv (.t 0),none⟩,
 ⟨(some 7),.mv (.t 1),none⟩,
 ⟨(some 8),.len 1 (.t 7),none⟩,
 ⟨(some 9),.call false 53 [(.t 6),(.t 8)],none⟩,
 ⟨(some 10),.indexAddr 1 (.t 5) (.t 9),none⟩,
 ⟨(some 11),.load none (.t 10),none⟩,
 ⟨(some 4),.mv (.t 11),none⟩] [0,1,5,6,7,8,9,10,11])
 (.ret))
theorem ac37_ok : cFunc Tryz.prog [] [(0,[4],[]),(1,[0,1,5,6,7,8,9,10,11],[])] Tryz.f37 = some (ac37,[.tmp 4],12) := by kernel_rfl
/-- a source of draws, at a place -/
def Rd (c : List UInt8) (p : Int) : Ob := .cells [.d (.sl (bytesRows c)), .d (.int .i64 p)]
theorem xor_small {x y : Int} (hx : 0 ≤ x) (hx1 : x < 1099511627776) (hy : 0 ≤ y) (hy1 : y < 1099511627776) : 0 ≤ bitsVal .xor .i64 x y ∧ bitsVal .xor .i64 x y < 1099511627776 := by
  obtain ⟨a, rfl⟩ := Int.eq_ofNat_of_zero_le hx
  obtain ⟨b, rfl⟩ := Int.eq_ofNat_of_zero_le hy
  have hx : a < 2 ^ 40 := by omega
  have hy : b < 2 ^ 40 := by omega
  have hxor : a ^^^ b < 2 ^ 40 := Nat.xor_lt_two_pow hx hy
  have e : ((BitVec.ofInt 64 (a : Int)) ^^^ (BitVec.ofInt 64 (b : Int))).toNat = a ^^^ b := by
    rw [BitVec.toNat_xor]
    have h1 : (BitVec.ofInt 64 (a : Int)).toNat = a := by rw [BitVec.ofInt_natCast, BitVec.toNat_ofNat, Nat.mod_eq_of_lt (by omega)]
    have h2 : (BitVec.ofInt 64 (b : Int)).toNat = b := by rw [BitVec.ofInt_natCast, BitVec.toNat_ofNat, Nat.mod_eq_of_lt (by omega)]
    rw [h1, h2]
  have : bitsVal .xor .i64 (a : Int) (b : Int) = ((a ^^^ b : Nat) : Int) := by
    show IntKind.wrap .i64 (((BitVec.ofInt 64 (a : Int)) ^^^ (BitVec.ofInt 64 (b : Int))).toNat : Int) = _
    rw [e, IntKind.wrap_i64]
    omega
  rw [this]
  omega
theorem pick_calls (c : List UInt8) (hc : c.length ≤ 2000) (p m : Int) (hp : 0 ≤ p) (hp1 : p ≤ 1000000) (hm : -1000000000 ≤ m ∧ m ≤ 1000000000) (H : Heap) (i : Nat) (hi : i < H.length) :
    ACalls Tryz.prog 53 [.c (.ptr (.e i) 0), .c (.d (.int .i64 m))] (H.set i (Rd c p)) (fun r H' => ∃ k : Int, r = .c (.d (.int .i64 k)) ∧ 0 ≤ k ∧ (0 < m → k < m) ∧ H' = H.set i (Rd c (p + 1))) := by
  refine acalls Tryz.func53 (by kernel_rfl) ac53_ok fun hf => ?_
  have hadd : inR .i64 (p + 1) := small_i64 (by omega) (by omega)
  have hl : inR .i64 (c.length : Int) := small_i64 (by omega) (by omega)
  have hi64 : inR .i64 p := small_i64 (by omega) (by omega)
  simp only [List.length_set] at hf
  simp -implicitDefEqProofs [ac53, Rd, hadd, hl, hi64, hi, List.getElem?_set, bytesRows_len, go_sem, -List.set_cons_succ, -List.set_cons_zero]
  have hfit : Obs.fits H.length 0 (H.set i (.cells [.d (.sl (bytesRows c)), .d (.int .i64 (p + 1))])) := fits_reset hf ⟨trivial, trivial, trivial⟩
  refine ⟨hfit, fun h1 hc0 => ⟨fun h2 => ?_, fun h2 => ?_⟩⟩
  · refine byteRow hp (by omega) ?_
    simp -implicitDefEqProofs [u8_i64, go_sem, -List.set_cons_succ, -List.set_cons_zero]
    refine ⟨by omega, Int.tmod_nonneg _ (by omega), fun h => Int.tmod_lt_of_pos _ h⟩
  · have hcl : 0 < c.length := by cases c with | nil => exact absurd rfl hc0 | cons a l => simp
    refine ⟨small_i64 (by omega) (by omega), small_i64 (by omega) (by omega), small_i64 (by omega) (by omega), hc0, ?_⟩
    have hm1 := Int.tmod_nonneg (a := p) (c.length : Int) hp
    have hm2 := Int.tmod_lt_of_pos p (b := (c.length : Int)) (by omega)
    refine byteRow hm1 (by omega) ?_
    have hb1 := (c[(p.tmod ↑c.length).toNat]'(by omega)).toNat_lt
    have hq : 0 ≤ (p * 7 + 3).tmod (c.length : Int) := Int.tmod_nonneg _ (by omega)
    have hq2 := Int.tmod_lt_of_pos (p * 7 + 3) (b := (c.length : Int)) (by omega)
    simp -implicitDefEqProofs [u8_i64, hcl, hi, hl, bytesRows_len, bytesRows_nil, hc0, List.getElem?_set, go_sem, -List.set_cons_succ, -List.set_cons_zero]
    refine ⟨small_i64 (by omega) (by omega), byteRow hq (by omega) ?_⟩
    have hb2 := (c[((p * 7 + 3).tmod ↑c.length).toNat]'(by omega)).toNat_lt
    have hd0 : 0 ≤ p.tdiv (c.length : Int) := Int.tdiv_nonneg hp (by omega)
    have hd1 : p.tdiv (c.length : Int) ≤ p := Int.tdiv_le_self _ hp
    generalize ((c[(p.tmod ↑c.length).toNat]'(by omega)).toNat : Nat) = b1 at hb1
    generalize ((c[((p * 7 + 3).tmod ↑c.length).toNat]'(by omega)).toNat : Nat) = b2 at hb2
    generalize hdd : p.tdiv (c.length : Int) = d at hd0 hd1
    have i1 : inR .i64 ((b2 : Int) * 1117) := small_i64 (by omega) (by omega)
    have i2 : inR .i64 ((b1 : Int) * 131 + (b2 : Int) * 1117) := small_i64 (by omega) (by omega)
    have i3 : inR .i64 ((b1 : Int) * 131 + (b2 : Int) * 1117 + p * 29) := small_i64 (by omega) (by omega)
    have i4 : inR .i64 d := small_i64 (by omega) (by omega)
    have i5 : inR .i64 (d * 53) := small_i64 (by omega) (by omega)
    have i6 : inR .i64 ((b1 : Int) * 131 + (b2 : Int) * 1117 + p * 29 + d * 53) := small_i64 (by omega) (by omega)
    have hw : IntKind.wrap .i64 (b2 : Int) = b2 := by rw [IntKind.wrap_i64]; omega
    generalize hX : (b1 : Int) * 131 + (b2 : Int) * 1117 + p * 29 + d * 53 = X at i6
    have hx0 : 0 ≤ X := by omega
    have hx1 : X < 1099511627776 := by omega
    have j1 : 0 ≤ X.tdiv 64 := Int.tdiv_nonneg hx0 (by omega)
    have j2 : X.tdiv 64 ≤ X := Int.tdiv_le_self _ hx0
    obtain ⟨k1, k2⟩ := xor_small hx0 hx1 j1 (by omega)
    have i7 : inR .i64 (X.tdiv 64) := small_i64 (by omega) (by omega)
    simp -implicitDefEqProofs [hw, hcl, hi, hl, hdd, i1, i2, i3, i4, i5, hX, i6, i7, bytesRows_len, bytesRows_nil, hc0, List.getElem?_set, go_sem, -List.set_cons_succ, -List.set_cons_zero]
    exact ⟨by omega, Int.tmod_nonneg _ k1, fun h => Int.tmod_lt_of_pos _ h⟩

/-- what a function that draws gives: its source stands behind where it stood -/
def Drew (R : A → Prop) (N : Int) (c : List UInt8) (p : Int) (H : Heap) (i : Nat) (r : A) (H' : Heap) : Prop := R r ∧ ∃ p', p ≤ p' ∧ p' ≤ p + N ∧ H' = H.set i (Rd c p')
/-- what a function that draws is shown to give -/
def Draws (f : FuncId) (xs : List A) (N : Int) (R : A → Prop) : Prop :=
  ∀ (c : List UInt8) (p : Int) (H : Heap) (i : Nat), c.length ≤ 2000 → 0 ≤ p → p + N ≤ 1000000 → i < H.length → ACalls Tryz.prog f (.c (.ptr (.e i) 0) :: xs) (H.set i (Rd c p)) (Drew R N c p H i)
/-- an integer in a range -/
def IntIn (lo hi : Int) (r : A) : Prop := ∃ k : Int, r = .c (.d (.int .i64 k)) ∧ lo ≤ k ∧ k < hi
theorem pick_draws (m : Int) (hm : 1 ≤ m ∧ m ≤ 1000000000) : Draws 53 [.c (.d (.int .i64 m))] 1 (IntIn 0 m) := fun c p H i hc hp hp1 hi =>
  (pick_calls c hc p m hp (by omega) ⟨by omega, hm.2⟩ H i hi).mono fun r H' ⟨k, h1, h2, h3, h4⟩ => ⟨⟨k, h1, h2, h3 (by omega)⟩, p + 1, by omega, by omega, h4⟩

/-- a call that draws from a source that was handed in -/
theorem call_drawE {f : FuncId} {xs : List A} {N : Int} {R : A → Prop} (hd : Draws f xs N R) {c : List UInt8} {p : Int} {H : Heap} {i : Nat} {sl : List A} {loc H₂ : Heap} {K : A → St → Prop} (hc : c.length ≤ 2000) (hp : 0 ≤ p) (hp1 : p + N ≤ 1000000) (hi : i < H.length)
    (hH : H₂ = H.set i (Rd c p) ++ loc.map (Ob.re H.length)) (hr : ∀ r, R r → A.re H.length r = r) (hf : Obs.fits H.length 0 (H.set i (Rd c p))) (hk : ∀ r p', R r → p ≤ p' → p' ≤ p + N → K r ⟨sl, H.set i (Rd c p'), loc⟩) :
    ACalls Tryz.prog f (.c (.ptr (.e i) 0) :: xs) H₂ (CallK K ⟨sl, H.set i (Rd c p), loc⟩) := by
  subst hH
  have h := hd c p (H ++ loc.map (Ob.re H.length)) i hc hp hp1 (by simp; omega)
  rw [List.set_append_left _ _ hi] at h
  refine h.mono fun r H' ⟨h1, p', h2, h3, h4⟩ => ?_
  rw [List.set_append_left _ _ hi] at h4
  exact ⟨H.set i (Rd c p'), loc, r, by simpa using h4, by simp, Nat.le_refl _, by simpa using fits_reset (b := Rd c p') hf ⟨trivial, trivial, trivial⟩, by simpa using (hr r h1).symm, hk r p' h1 h2 h3⟩
/-- a call that draws from an own source, the first own object -/
theorem call_drawL {f : FuncId} {xs : List A} {N : Int} {R : A → Prop} (hd : Draws f xs N R) {c : List UInt8} {p : Int} {H : Heap} {sl : List A} {loc H₂ : Heap} {j : Nat} {K : A → St → Prop} (hc : c.length ≤ 2000) (hp : 0 ≤ p) (hp1 : p + N ≤ 1000000) (hj : loc[j]? = some (Rd c p))
    (hH : H₂ = H ++ loc.map (Ob.re H.length)) (hr : ∀ r, R r → A.re H.length r = r) (hf : Obs.fits H.length 0 H) (hk : ∀ r p', R r → p ≤ p' → p' ≤ p + N → K r ⟨sl, H, loc.set j (Rd c p')⟩) :
    ACalls Tryz.prog f (.c (.ptr (.e (H.length + j)) 0) :: xs) H₂ (CallK K ⟨sl, H, loc⟩) := by
  subst hH
  have hjl : j < loc.length := (List.getElem?_eq_some_iff.1 hj).1
  have h := hd c p (H ++ loc.map (Ob.re H.length)) (H.length + j) hc hp hp1 (by simp; omega)
  have e : ∀ q, (H ++ loc.map (Ob.re H.length)).set (H.length + j) (Rd c q) = H ++ (loc.set j (Rd c q)).map (Ob.re H.length) := fun q => by
    rw [List.set_append_right _ _ (by omega), Nat.add_sub_cancel_left, List.map_set]
    rfl
  have e0 : loc.set j (Rd c p) = loc := by
    apply List.ext_getElem?
    intro k
    rw [List.getElem?_set]
    split
    · rename_i h; subst h; rw [hj]
    · rfl
  rw [e, e0] at h
  refine h.mono fun r H' ⟨h1, p', h2, h3, h4⟩ => ?_
  rw [e] at h4
  exact ⟨H, loc.set j (Rd c p'), r, h4, rfl, by simp, hf, (hr r h1).symm, hk r p' h1 h2 h3⟩
theorem IntIn.re {lo hi : Int} {n : Nat} {r : A} (h : IntIn lo hi r) : A.re n r = r := by
  obtain ⟨k, rfl, _⟩ := h
  rfl

theorem num_draws (l : List Int) (hl : 1 ≤ l.length ∧ l.length ≤ 1000) : Draws 37 [.c (.d (.sl (l.map fun n => [.int .i64 n])))] 1 (fun r => ∃ n ∈ l, r = .c (.d (.int .i64 n))) := fun c p H i hc hp hp1 hi => by
  refine acalls Tryz.func37 (by kernel_rfl) ac37_ok fun hf => ?_
  simp only [List.length_set] at hf
  have hll : inR .i64 (l.length : Int) := small_i64 (by omega) (by omega)
  simp -implicitDefEqProofs [ac37, hll, go_sem, -List.set_cons_succ, -List.set_cons_zero]
  refine call_drawE (pick_draws l.length ⟨by omega, by omega⟩) hc hp hp1 hi (by simp) (fun r => IntIn.re) hf ?_
  rintro _ p' ⟨k, rfl, h1, h2⟩ h3 h4
  simp -implicitDefEqProofs [go_sem, -List.set_cons_succ, -List.set_cons_zero]
  have hk : k.toNat < l.length := by omega
  refine row_int [.int .i64 l[k.toNat]] h1 (by simp [hk]) rfl ?_
  simp -implicitDefEqProofs [go_sem, -List.set_cons_succ, -List.set_cons_zero]
  exact ⟨⟨_, List.getElem_mem hk, rfl⟩, p', h3, h4, rfl⟩
theorem open_calls (c : List UInt8) (hc : c.length ≤ 1048576) (H : Heap) : ACalls Tryz.prog 34 [.c (.d (.sl (bytesRows c)))] H (fun r H' => r = .c (.ptr (.e H.length) 0) ∧ ∃ c' : List UInt8, c'.length ≤ 2000 ∧ H' = H ++ [Rd c' 0]) := by
  refine acallsK Tryz.func34 (by kernel_rfl) ac34_ok fun hf => ?_
  have hl : inR .i64 (c.length : Int) := small_i64 (by omega) (by omega)
  simp -implicitDefEqProofs [ac34, hl, bytesRows_len, go_sem, -List.set_cons_succ, -List.set_cons_zero]
  refine ⟨fun h => ⟨?_, by omega, ?_⟩, fun h => ?_⟩
  · intro r hr
    simp only [bytesRows, List.mem_map] at hr
    obtain ⟨b, _, rfl⟩ := hr
    rfl
  · refine finK_ret _ ⟨trivial, trivial⟩ rfl ⟨rfl, c.take 2000, by simp; omega, ?_⟩
    simp [Rd, bytesRows, Ob.re, C.re]
  · refine finK_ret _ ⟨trivial, trivial⟩ rfl ⟨rfl, c, by omega, ?_⟩
    simp [Rd, Ob.re, C.re]
end Go.Proofs.YtgfmlifkhpjplaaGreatDoor

/-
  Terms that are drawn.
  Conditions: none.
-/
open Go Go.AM Go.Proofs
namespace Go.Proofs.YtgfmlifkhpjplaaGreatDoor
open Go.ChangeShapes Go.WideShapes Go.ChangeAt Go.RowKit
set_option linter.unusedVariables false
set_option linter.unusedSimpArgs false
set_option maxRecDepth 100000
-- 54 (*loop.example/prologserver/spec.l18Rd).of params 2 ntmps 12
def ac54 : Cd := .seq (.region [⟨(some 4),.mv (.k (.c (.d (.str [])))),none⟩] [4])
 (.seq (.region [⟨(some 5),.mv (.t 1),none⟩,
 ⟨(some 6),.mv (.t 0),none⟩,
 ⟨(some 7),.mv (.t 1),none⟩,
 ⟨(some 8),.len 1 (.t 7),none⟩,
 ⟨(some 9),.call false 53 [(.t 6),(.t 8)],none⟩,
 ⟨(some 10),.indexAddr 1 (.t 5) (.t 9),none⟩,
 ⟨(some 11),.load none (.t 10),none⟩,
 ⟨(some 4),.mv (.t 11),none⟩] [0,1,5,6,7,8,9,10,11])
 (.ret))
theorem ac54_ok : cFunc Tryz.prog [] [(0,[4],[]),(1,[0,1,5,6,7,8,9,10,11],[])] Tryz.f54 = some (ac54,[.tmp 4],12) := by kernel_rfl
-- 56 loop.example/prologserver/spec.l1Draw params 2 ntmps 65
-- loop head live: [0,1,4,5,6]
def ac56 : Cd := .seq (.region [⟨(some 4),.alloc [(.d (.int .i64 0)),(.d (.int .i64 0)),(.d (.str [])),(.full [])],none⟩] [])
 (.seq (.seq (.region [⟨(some 7),.mv (.t 1),none⟩,
 ⟨(some 8),.bin .lss (.t 7) (.k (.c (.d (.int .i64 2)))),none⟩,
 ⟨(some 9),.mv (.t 8),none⟩,
 ⟨(some 10),.mv (.t 0),some (9,false)⟩,
 ⟨(some 11),.call false 53 [(.t 10),(.k (.c (.d (.int .i64 4))))],some (9,false)⟩,
 ⟨(some 12),.bin .eql (.t 11) (.k (.c (.d (.int .i64 0)))),some (9,false)⟩,
 ⟨(some 13),.pick (.t 9) (.k (.c (.d (.bool true)))) (.t 12),none⟩] [7,8,9,10,11,12])
 (.cond (.t 13)
 (.seq (.seq (.region [⟨(some 14),.mv (.t 0),none⟩,
 ⟨(some 15),.call false 53 [(.t 14),(.k (.c (.d (.int .i64 4))))],none⟩] [1,13,14])
 (.block 0 (.seq (.region [⟨(some 17),.bin .eql (.t 15) (.k (.c (.d (.int .i64 0)))),none⟩,
 ⟨(some 16),.mv (.t 17),none⟩] [17])
 (.cond (.t 16)
 (.seq (.region [⟨(some 18),.mv (.t 0),none⟩,
 ⟨(some 19),.call false 53 [(.t 18),(.k (.c (.d (.int .i64 4))))],none⟩,
 ⟨(some 20),.qcall 79 [(.t 19)],none⟩,
 ⟨none,.store 4 (.t 4) (.t 20),none⟩] [0,15,16,18,19,20])
 (.ret))
 (.seq (.region [⟨(some 22),.bin .eql (.t 15) (.k (.c (.d (.int .i64 1)))),none⟩,
 ⟨(some 21),.mv (.t 22),none⟩] [15,16,22])
 (.cond (.t 21)
 (.seq (.region [⟨(some 23),.mv (.t 0),none⟩,
 ⟨(some 24),.buildSlice 1 6 [(.int .i64 0)] [(0,(.k (.c (.d (.int .i64 0))))),(1,(.k (.c (.d (.int .i64 1))))),(2,(.k (.c (.d (.int .i64 7))))),(3,(.k (.c (.d (.int .i64 (-3)))))),(4,(.k (.c (.d (.int .i64 999))))),(5,(.k (.c (.d (.int .i64 (-999))))))],none⟩,
 ⟨(some 25),.call false 37 [(.t 23),(.t 24)],none⟩,
 ⟨(some 26),.qcall 55 [(.t 25)],none⟩,
 ⟨none,.store 4 (.t 4) (.t 26),none⟩] [0,21,23,24,25,26])
 (.ret))
 (.skip)))))))
 (.seq (.region [⟨(some 27),.mv (.t 0),none⟩,
 ⟨(some 28),.buildSlice 1 6 [(.str [])] [(0,(.k (.c (.d (.str [97]))))),(1,(.k (.c (.d (.str [98]))))),(2,(.k (.c (.d (.str [110,105,108]))))),(3,(.k (.c (.d (.str [91,93]))))),(4,(.k (.c (.d (.str [102,111,111]))))),(5,(.k (.c (.d (.str [43])))))],none⟩,
 ⟨(some 29),.call false 54 [(.t 27),(.t 28)],none⟩,
 ⟨(some 30),.call false 48 [(.t 29),(.k (.c (.full [])))],none⟩,
 ⟨none,.store 4 (.t 4) (.t 30),none⟩] [0,21,27,28,29,30])
 (.ret)))
 (.skip)))
 (.seq (.seq (.region [⟨(some 31),.mv (.t 0),none⟩,
 ⟨(some 32),.call false 53 [(.t 31),(.k (.c (.d (.int .i64 3))))],none⟩,
 ⟨(some 33),.bin .eql (.t 32) (.k (.c (.d (.int .i64 0)))),none⟩] [13,31,32])
 (.cond (.t 33)
 (.seq (.region [⟨(some 34),.mv (.t 0),none⟩,
 ⟨(some 35),.mv (.t 1),none⟩,
 ⟨(some 36),.bin .sub (.t 35) (.k (.c (.d (.int .i64 1)))),none⟩,
 ⟨(some 37),.callL false false 56 [(.t 34),(.t 36)],none⟩,
 ⟨(some 38),.mv (.t 0),none⟩,
 ⟨(some 39),.mv (.t 1),none⟩,
 ⟨(some 40),.bin .sub (.t 39) (.k (.c (.d (.int .i64 1)))),none⟩,
 ⟨(some 41),.callL false false 56 [(.t 38),(.t 40)],none⟩,
 ⟨(some 42),.buildSlice 4 2 [(.int .i64 0),(.int .i64 0),(.str []),(.sl [])] [(0,(.t 37)),(1,(.t 41))],none⟩,
 ⟨(some 43),.call false 48 [(.k (.c (.d (.str [46])))),(.t 42)],none⟩,
 ⟨none,.store 4 (.t 4) (.t 43),none⟩] [0,1,33,34,35,36,37,38,39,40,41,42,43])
 (.ret))
 (.skip)))
 (.seq (.region [⟨(some 44),.mv (.t 0),none⟩,
 ⟨(some 45),.buildSlice 1 7 [(.str [])] [(0,(.k (.c (.d (.str [102]))))),(1,(.k (.c (.d (.str [103]))))),(2,(.k (.c (.d (.str [115]))))),(3,(.k (.c (.d (.str [43]))))),(4,(.k (.c (.d (.str [61]))))),(5,(.k (.c (.d (.str [105,115]))))),(6,(.k (.c (.d (.str [102,111,111])))))],none⟩,
 ⟨(some 46),.call false 54 [(.t 44),(.t 45)],none⟩,
 ⟨(some 47),.call false 48 [(.t 46),(.k (.c (.full [])))],none⟩,
 ⟨(some 5),.alloc [(.d (.int .i64 0)),(.d (.int .i64 0)),(.d (.str [])),(.full [])],none⟩,
 ⟨none,.store 4 (.t 5) (.t 47),none⟩] [33,44,45,46,47])
 (.seq (.seq (.region [⟨(some 48),.mv (.t 0),none⟩,
 ⟨(some 49),.buildSlice 1 4 [(.int .i64 0)] [(0,(.k (.c (.d (.int .i64 2))))),(1,(.k (.c (.d (.int .i64 1))))),(2,(.k (.c (.d (.int .i64 3))))),(3,(.k (.c (.d (.int .i64 2)))))],none⟩,
 ⟨(some 50),.call false 37 [(.t 48),(.t 49)],none⟩,
 ⟨(some 6),.mv (.t 50),none⟩] [48,49,50])
 (.block 1 (.loop (.seq (.seq (.region [⟨(some 51),.mv (.t 6),none⟩,
 ⟨(some 52),.bin .gtr (.t 51) (.k (.c (.d (.int .i64 0)))),none⟩] [51])
 (.cond (.t 52)
 (.skip)
 (.exit 1)))
 (.seq (.block 2 (.region [⟨(some 55),.fieldAddr 3 (.t 5),none⟩,
 ⟨(some 57),.mv (.t 0),none⟩,
 ⟨(some 58),.mv (.t 1),none⟩,
 ⟨(some 59),.bin .sub (.t 58) (.k (.c (.d (.int .i64 1)))),none⟩,
 ⟨(some 56),.loadL false none (.t 55),none⟩,
 ⟨(some 60),.callL false false 56 [(.t 57),(.t 59)],none⟩,
 ⟨(some 61),.buildSlice 4 1 [(.int .i64 0),(.int .i64 0),(.str []),(.sl [])] [(0,(.t 60))],none⟩,
 ⟨(some 62),.append false 4 (.t 56) (.t 61),none⟩,
 ⟨(some 63),.fieldAddr 3 (.t 5),none⟩,
 ⟨none,.store 1 (.t 63) (.t 62),none⟩] [52,55,56,57,58,59,60,61,62,63]))
 (.region [⟨(some 53),.mv (.t 6),none⟩,
 ⟨(some 54),.bin .sub (.t 53) (.k (.c (.d (.int .i64 1)))),none⟩,
 ⟨(some 6),.mv (.t 54),none⟩] [53,54]))))))
 (.seq (.region [⟨(some 64),.load (some 4) (.t 5),none⟩,
 ⟨none,.store 4 (.t 4) (.t 64),none⟩] [5,64])
 (.ret))))))
theorem ac56_ok : cFunc Tryz.prog [1000055,1000079,5000055,6000056] [(0,[],[]),(1,[7,8,9,10,11,12],[]),(2,[1,13,14],[]),(3,[17],[]),(4,[0,15,16,18,19,20],[]),(5,[15,16,22],[]),(6,[0,21,23,24,25,26],[]),(7,[0,21,27,28,29,30],[]),(8,[13,31,32],[]),(9,[0,1,33,34,35,36,37,38,39,40,41,42,43],[]),(10,[33,44,45,46,47],[]),(11,[48,49,50],[]),(12,[51],[]),(14,[52,55,56,57,58,59,60,61,62,63],[0,2,3,4,1,5,6,7,8,9]),(13,[53,54],[]),(15,[5,64],[])] Tryz.f56 = some (ac56,[.cell 4 (some 4)],65) := by kernel_rfl
namespace Full
-- 48 loop.example/prologserver/spec.l1Struct params 2 ntmps 10
def ac48 : Cd := .seq (.region [⟨(some 4),.alloc [(.d (.int .i64 0)),(.d (.int .i64 0)),(.d (.str [])),(.full [])],none⟩] [])
 (.seq (.region [⟨(some 5),.mv (.t 0),none⟩,
 ⟨(some 6),.buildSlice 4 0 [(.int .i64 0),(.int .i64 0),(.str []),(.sl [])] [],none⟩,
 ⟨(some 7),.mv (.t 1),none⟩,
 ⟨(some 8),.appendF 4 (.t 6) (.t 7),none⟩,
 ⟨(some 9),.build [(.d (.int .i64 0)),(.d (.int .i64 0)),(.d (.str [])),(.full [])] [(0,1,(.k (.c (.d (.int .i64 3))))),(2,1,(.t 5)),(3,1,(.t 8))],none⟩,
 ⟨none,.store 4 (.t 4) (.t 9),none⟩] [0,1,5,6,7,8,9])
 (.ret))
theorem ac48_ok : cFunc Tryz.prog [3000006] [(0,[],[]),(1,[0,1,5,6,7,8,9],[])] Tryz.f48 = some (ac48,[.cell 4 (some 4)],10) := by kernel_rfl
end Full
theorem of_draws (l : List (List UInt8)) (hl : 1 ≤ l.length ∧ l.length ≤ 1000) : Draws 54 [.c (.d (.sl (l.map fun s => [.str s])))] 1 (fun r => ∃ s ∈ l, r = .c (.d (.str s))) := fun c p H i hc hp hp1 hi => by
  refine acalls Tryz.func54 (by kernel_rfl) ac54_ok fun hf => ?_
  simp only [List.length_set] at hf
  have hll : inR .i64 (l.length : Int) := small_i64 (by omega) (by omega)
  simp -implicitDefEqProofs [ac54, hll, go_sem, -List.set_cons_succ, -List.set_cons_zero]
  refine call_drawE (pick_draws l.length ⟨by omega, by omega⟩) hc hp hp1 hi (by simp) (fun r => IntIn.re) hf ?_
  rintro _ p' ⟨k, rfl, h1, h2⟩ h3 h4
  simp -implicitDefEqProofs [go_sem, -List.set_cons_succ, -List.set_cons_zero]
  have hk : k.toNat < l.length := by omega
  refine row_int [.str l[k.toNat]] h1 (by simp [hk]) rfl ?_
  simp -implicitDefEqProofs [go_sem, -List.set_cons_succ, -List.set_cons_zero]
  exact ⟨⟨_, List.getElem_mem hk, rfl⟩, p', h3, h4, rfl⟩
/-- a structure without arguments: nothing stands behind its arguments -/
theorem struct_full (name : List UInt8) (H : Heap) : ACalls Tryz.prog 48 [.c (.d (.str name)), .c (.d (.sl []))] H (fun r H' => H' = H ++ [.cells [.d (.int .i64 3), .d (.int .i64 0), .d (.str name), .full []]] ∧ r = .agg [.d (.int .i64 3), .d (.int .i64 0), .d (.str name), .full []]) := by
  refine acallsK Tryz.func48 (by kernel_rfl) Full.ac48_ok fun hf => ?_
  simp -implicitDefEqProofs [Full.ac48, hf, go_sem, -List.set_cons_succ, -List.set_cons_zero]
  refine finK_ret _ ⟨trivial, trivial⟩ rfl ?_
  simp [Ob.re, C.re, A.re]
/-- a call that leaves one object more, which looks at no other -/
theorem call_new {P : Program} {f : FuncId} {xs : List A} {sl : List A} {ext loc H₂ : Heap} {o : Ob} {r : A} {K : A → St → Prop} (hc : ∀ H, ACalls P f xs H (fun r' H' => H' = H ++ [o] ∧ r' = r)) (ho : Ob.re ext.length o = o) (hr : A.re ext.length r = r)
    (hf : Obs.fits ext.length 0 ext) (hH : H₂ = ext ++ loc.map (Ob.re ext.length)) (hk : K r ⟨sl, ext, loc ++ [o]⟩) : ACalls P f xs H₂ (CallK K ⟨sl, ext, loc⟩) := by
  subst hH
  exact (hc _).mono fun r' H' ⟨h1, h2⟩ => ⟨ext, loc ++ [o], r, by rw [h1, List.append_assoc, List.map_append]; simp [ho], rfl, by simp, hf, by rw [h2]; exact hr.symm, hk⟩
/-- a term that a law looks at -/
def TmR (r : A) : Prop := ∃ t : Tm, r = .agg (t.row.map .d) ∧ t.fits
theorem TmR.re {n : Nat} {r : A} (h : TmR r) : A.re n r = r := by
  obtain ⟨t, rfl, _⟩ := h
  simp [A.re, re_d]
/-- the names that are drawn -/
def drawNames : List (List UInt8) := [[97], [98], [110, 105, 108], [91, 93], [102, 111, 111], [43], [46], [102], [103], [115], [61], [105, 115]]
theorem draw_names {l : List (List UInt8)} {s : List UInt8} (h : s ∈ l) (hl : l.all (drawNames.contains ·) = true := by decide) : s ∈ drawNames := by
  simp only [List.all_eq_true, List.contains_iff_mem] at hl
  exact hl s h
/-- a term that is drawn -/
def TmP (P : Tm → Prop) (r : A) : Prop := ∃ t : Tm, r = .agg (t.row.map .d) ∧ t.fits ∧ P t
theorem TmP.re {P : Tm → Prop} {n : Nat} {r : A} (h : TmP P r) : A.re n r = r := by
  obtain ⟨t, rfl, _⟩ := h
  simp [A.re, re_d]
theorem draw_of {P Q : Tm → Prop} (hP1 : ∀ n, 0 ≤ n → n ≤ 25 → P (.mk 1 n [] [])) (hP2 : ∀ n, -999 ≤ n → n ≤ 999 → P (.mk 2 n [] [])) (hP3 : ∀ s ∈ drawNames, ∀ l : List Tm, l.length ≤ 3 → (∀ t ∈ l, Q t) → P (.mk 3 0 s l))
    (d : Nat) (hd : d ≤ 6) (M N : Int) (hM : 0 ≤ M) (hN : 4 + 3 * M ≤ N) (ih : 2 ≤ d → Draws 56 [.c (.d (.int .i64 ((d : Int) - 1)))] M (TmP Q)) : Draws 56 [.c (.d (.int .i64 d))] N (TmP P) := fun c p H i hc hp hp1 hi => by
  refine acalls Tryz.func56 (by kernel_rfl) ac56_ok fun hf => ?_
  simp only [List.length_set] at hf
  simp -implicitDefEqProofs [ac56, go_sem, -List.set_cons_succ, -List.set_cons_zero]
  have hf0 : ∀ q, Obs.fits H.length 0 (H.set i (Rd c q)) := fun q => fits_reset (b := Rd c q) hf ⟨trivial, trivial, trivial⟩
  have hf1 : ∀ q, Obs.fits (H.set i (Rd c q)).length 0 (H.set i (Rd c q)) := fun q => by simpa using hf0 q
  have done : ∀ (t : Tm) (q : Int), p ≤ q → q ≤ p + N → t.fits → P t → ∀ r, r = .agg (t.row.map .d) → Drew (TmP P) N c p H i r (H.set i (Rd c q)) := fun t q a1 a2 a3 a4 r hr => ⟨⟨t, hr, a3, a4⟩, q, a1, a2, rfl⟩
  refine ⟨fun h2 => ⟨h2, ?_⟩, fun h2 => ?_⟩
  · refine call_drawE (pick_draws 4 (by omega)) hc hp (by omega) hi (by simp [Ob.re, C.re]) (fun r => IntIn.re) (hf0 _) ?_
    rintro _ p0 ⟨k, rfl, k0, k1⟩ h3 h4
    have hd0 : ¬ ((d : Int) < 2) := by omega
    simp -implicitDefEqProofs [hf0, hd0, go_sem, -List.set_cons_succ, -List.set_cons_zero]
    refine ⟨fun _ => ?_, fun _ => ?_⟩
    · skip
      refine call_drawE (pick_draws 4 (by omega)) hc (by omega) (by omega) hi (by simp [Ob.re, C.re]) (fun r => IntIn.re) (hf0 _) ?_
      rintro _ p1 ⟨k, rfl, k0, k1⟩ h3 h4
      simp -implicitDefEqProofs [hf0, go_sem, -List.set_cons_succ, -List.set_cons_zero]
      refine ⟨fun _ => ?_, fun _ => ⟨fun _ => ?_, fun _ => ?_⟩⟩
      · refine call_drawE (pick_draws 4 (by omega)) hc (by omega) (by omega) hi (by simp [Ob.re, C.re]) (fun r => IntIn.re) (hf0 _) ?_
        rintro _ p2 ⟨n, rfl, n0, n1⟩ h5 h6
        simp -implicitDefEqProofs [hf0, go_sem, -List.set_cons_succ, -List.set_cons_zero]
        refine qcall_pure (var_calls n) (hf1 _) (by simp [A.re, re_d]) ?_
        simp -implicitDefEqProofs [hf0, row_mk, go_sem, -List.set_cons_succ, -List.set_cons_zero]
        exact done (.mk 1 n [] []) p2 (by omega) (by omega) (.mk (small_i64 (by omega) (by omega)) (small_i64 (by omega) (by omega)) (by simp) (by simp) (by simp)) (hP1 n (by omega) (by omega)) _ (by simp [row_mk])
      · refine call_drawE (num_draws [0, 1, 7, -3, 999, -999] (by decide)) hc (by omega) (by omega) hi (by simp [Ob.re, C.re]) (fun r ⟨n, _, hn⟩ => by subst hn; rfl) (hf0 _) ?_
        rintro _ p2 ⟨n, hn, rfl⟩ h5 h6
        have hn : -999 ≤ n ∧ n ≤ 999 := by simp at hn; omega
        simp -implicitDefEqProofs [hf0, go_sem, -List.set_cons_succ, -List.set_cons_zero]
        refine qcall_pure (int_calls n) (hf1 _) (by simp [A.re, re_d]) ?_
        simp -implicitDefEqProofs [hf0, row_mk, go_sem, -List.set_cons_succ, -List.set_cons_zero]
        exact done (.mk 2 n [] []) p2 (by omega) (by omega) (.mk (small_i64 (by omega) (by omega)) (small_i64 (by omega) (by omega)) (by simp) (by simp) (by simp)) (hP2 n (by omega) (by omega)) _ (by simp [row_mk])
      · refine call_drawE (of_draws [[97], [98], [110, 105, 108], [91, 93], [102, 111, 111], [43]] (by decide)) hc (by omega) (by omega) hi (by simp [Ob.re, C.re]) (fun r ⟨n, _, hn⟩ => by subst hn; rfl) (hf0 _) ?_
        rintro _ p2 ⟨s, hs, rfl⟩ h5 h6
        have hsm : s ∈ drawNames := draw_names hs
        have hs : s.length ≤ 3 := by simp at hs; rcases hs with rfl | rfl | rfl | rfl | rfl | rfl <;> decide
        simp -implicitDefEqProofs [hf0, go_sem, -List.set_cons_succ, -List.set_cons_zero]
        refine call_new (struct_full s) (by simp [Ob.re, C.re]) (by simp [A.re, C.re]) (hf1 _) (by simp [Ob.re, C.re]) ?_
        simp -implicitDefEqProofs [hf0, go_sem, -List.set_cons_succ, -List.set_cons_zero]
        exact done (.mk 3 0 s []) p2 (by omega) (by omega) (.mk (small_i64 (by omega) (by omega)) (small_i64 (by omega) (by omega)) (by omega) (by simp) (by simp)) (hP3 s hsm [] (by simp) (by simp)) _ (by simp [row_mk])
    · refine call_drawE (pick_draws 3 (by omega)) hc (by omega) (by omega) hi (by simp [Ob.re, C.re]) (fun r => IntIn.re) (hf0 _) ?_
      rintro _ p1 ⟨k2, rfl, k3, k4⟩ h5 h6
      have hsub : inR .i64 ((d : Int) - 1) := small_i64 (by omega) (by omega)
      simp -implicitDefEqProofs [hf0, hsub, go_sem, -List.set_cons_succ, -List.set_cons_zero]
      refine ⟨fun _ => ?_, fun _ => ?_⟩
      · refine call_drawE (ih (by omega)) hc (by omega) (by omega) hi (by simp [Ob.re, C.re]) (fun r => TmP.re) (hf0 _) ?_
        rintro _ p2 ⟨a, rfl, ha, haQ⟩ h7 h8
        refine ⟨LocSame.refl _, ?_⟩
        simp -implicitDefEqProofs [hf0, hsub, row_len, take_row, go_sem, -List.set_cons_succ, -List.set_cons_zero]
        refine call_drawE (ih (by omega)) hc (by omega) (by omega) hi (by simp [Ob.re, C.re]) (fun r => TmP.re) (hf0 _) ?_
        rintro _ p3 ⟨b, rfl, hb, hbQ⟩ h9 h10
        refine ⟨LocSame.refl _, ?_⟩
        simp -implicitDefEqProofs [hf0, hsub, row_len, take_row, toDs_map, go_sem, -List.set_cons_succ, -List.set_cons_zero]
        have hs := struct_calls [46] [a, b] (by simp)
        simp only [List.map_cons, List.map_nil] at hs
        refine call_same (r := .agg ((Tm.mk 3 0 [46] [a, b]).row.map .d)) (hs _) (by simp [Ob.re, C.re]) (by simp [A.re, re_d]) (hf1 _) ?_
        simp -implicitDefEqProofs [hf0, row_mk, go_sem, -List.set_cons_succ, -List.set_cons_zero]
        exact done (.mk 3 0 [46] [a, b]) p3 (by omega) (by omega) (.mk (small_i64 (by omega) (by omega)) (small_i64 (by omega) (by omega)) (by simp) (by simp) (by simp [ha, hb])) (hP3 [46] (by decide) [a, b] (by simp) (by simp [haQ, hbQ])) _ (by simp [row_mk])
      · refine call_drawE (of_draws [[102], [103], [115], [43], [61], [105, 115], [102, 111, 111]] (by decide)) hc (by omega) (by omega) hi (by simp [Ob.re, C.re]) (fun r ⟨n, _, hn⟩ => by subst hn; rfl) (hf0 _) ?_
        rintro _ p2 ⟨s, hs, rfl⟩ h7 h8
        have hsm : s ∈ drawNames := draw_names hs
        have hs : s.length ≤ 3 := by simp at hs; rcases hs with rfl | rfl | rfl | rfl | rfl | rfl | rfl <;> decide
        simp -implicitDefEqProofs [hf0, go_sem, -List.set_cons_succ, -List.set_cons_zero]
        refine call_new (struct_full s) (by simp [Ob.re, C.re]) (by simp [A.re, C.re]) (hf1 _) (by simp [Ob.re, C.re]) ?_
        simp -implicitDefEqProofs [hf0, go_sem, -List.set_cons_succ, -List.set_cons_zero]
        refine call_drawE (num_draws [2, 1, 3, 2] (by decide)) hc (by omega) (by omega) hi (by simp [Ob.re, C.re]) (fun r ⟨n, _, hn⟩ => by subst hn; rfl) (hf0 _) ?_
        rintro _ p3 ⟨n, hn, rfl⟩ h9 h10
        have hn : 0 ≤ n ∧ n ≤ 3 := by simp at hn; omega
        have hnM : n * M ≤ 3 * M := Int.mul_le_mul_of_nonneg_right hn.2 hM
        simp -implicitDefEqProofs [hf0, go_sem, -List.set_cons_succ, -List.set_cons_zero]
        refine loop_enter (St.le_tokenC 2 3 4 rfl rfl) ?_
        refine loop_set (σ := Int × List Tm × Int) (fun x => [(6, .c (.d (.int .i64 x.1)))]) (fun x => H.set i (Rd c x.2.2)) (fun x => [.cells [.d (.int .i64 0), .d (.int .i64 0), .d (.str []), .full []], .cells [.d (.int .i64 3), .d (.int .i64 0), .d (.str s), .full []], .cells [.d (.int .i64 3), .d (.int .i64 0), .d (.str s), .own (.l 3) x.2.1.length (x.2.1.map Tm.row)], .grow x.2.1.length 4])
          (fun x => 0 ≤ x.1 ∧ x.1 + x.2.1.length ≤ 3 ∧ p ≤ x.2.2 ∧ x.2.2 + x.1 * M ≤ p + N ∧ (∀ t ∈ x.2.1, t.fits) ∧ ∀ t ∈ x.2.1, Q t) (fun x => x.1.toNat) (n, [], p3) rfl ⟨hn.1, by simp; omega, by simp; omega, by simp; omega, by simp, by simp⟩ ?_
        rintro ⟨m, l, q⟩ ⟨i0, i1, i2, i3, i4, i5⟩
        simp only at i0 i1 i2 i3 i4 i5
        have hmM : 0 ≤ m * M := Int.mul_nonneg i0 hM
        simp -implicitDefEqProofs [setAll, hf0, hsub, go_sem, -List.set_cons_succ, -List.set_cons_zero]
        refine ⟨fun hlt => ?_, fun hge => ?_⟩
        · have hm1 : (m - 1) * M = m * M - M := by rw [Int.sub_mul, Int.one_mul]
          have hm2 : 0 ≤ (m - 1) * M := Int.mul_nonneg (by omega) hM
          have hsubm : inR .i64 (m - 1) := small_i64 (by omega) (by omega)
          refine call_drawE (ih (by omega)) hc (by omega) (by omega) hi (by simp [Ob.re, C.re]) (fun r => TmP.re) (hf0 _) ?_
          rintro _ q2 ⟨a, rfl, ha, haQ⟩ h11 h12
          refine ⟨LocSame.refl _, ?_⟩
          simp -implicitDefEqProofs [hf0, hsubm, row_len, take_row, toDs_map, go_sem, -List.set_cons_succ, -List.set_cons_zero]
          refine ⟨allLen_map row_len, by unfold maxApp; omega, ?_⟩
          refine loop_back (m - 1, l ++ [a], q2) (by simp [setAll]) ⟨by simp; omega, by simp; omega, by simp; omega, by simp; omega, fun t ht => ?_, fun t ht => ?_⟩ (by show (m - 1).toNat < m.toNat; omega)
          · rcases List.mem_append.1 ht with ht | ht
            · exact i4 t ht
            · simp at ht; subst ht; exact ha
          · rcases List.mem_append.1 ht with ht | ht
            · exact i5 t ht
            · simp at ht; subst ht; exact haQ
        · exact done (.mk 3 0 s l) q i2 (by omega) (.mk (small_i64 (by omega) (by omega)) (small_i64 (by omega) (by omega)) (by omega) (by omega) i4) (hP3 s hsm l (by omega) i5) _ (by simp [row_mk])
  · skip
    refine call_drawE (pick_draws 4 (by omega)) hc (by omega) (by omega) hi (by simp [Ob.re, C.re]) (fun r => IntIn.re) (hf0 _) ?_
    rintro _ p1 ⟨k, rfl, k0, k1⟩ h3 h4
    simp -implicitDefEqProofs [hf0, go_sem, -List.set_cons_succ, -List.set_cons_zero]
    refine ⟨fun _ => ?_, fun _ => ⟨fun _ => ?_, fun _ => ?_⟩⟩
    · refine call_drawE (pick_draws 4 (by omega)) hc (by omega) (by omega) hi (by simp [Ob.re, C.re]) (fun r => IntIn.re) (hf0 _) ?_
      rintro _ p2 ⟨n, rfl, n0, n1⟩ h5 h6
      simp -implicitDefEqProofs [hf0, go_sem, -List.set_cons_succ, -List.set_cons_zero]
      refine qcall_pure (var_calls n) (hf1 _) (by simp [A.re, re_d]) ?_
      simp -implicitDefEqProofs [hf0, row_mk, go_sem, -List.set_cons_succ, -List.set_cons_zero]
      exact done (.mk 1 n [] []) p2 (by omega) (by omega) (.mk (small_i64 (by omega) (by omega)) (small_i64 (by omega) (by omega)) (by simp) (by simp) (by simp)) (hP1 n (by omega) (by omega)) _ (by simp [row_mk])
    · refine call_drawE (num_draws [0, 1, 7, -3, 999, -999] (by decide)) hc (by omega) (by omega) hi (by simp [Ob.re, C.re]) (fun r ⟨n, _, hn⟩ => by subst hn; rfl) (hf0 _) ?_
      rintro _ p2 ⟨n, hn, rfl⟩ h5 h6
      have hn : -999 ≤ n ∧ n ≤ 999 := by simp at hn; omega
      simp -implicitDefEqProofs [hf0, go_sem, -List.set_cons_succ, -List.set_cons_zero]
      refine qcall_pure (int_calls n) (hf1 _) (by simp [A.re, re_d]) ?_
      simp -implicitDefEqProofs [hf0, row_mk, go_sem, -List.set_cons_succ, -List.set_cons_zero]
      exact done (.mk 2 n [] []) p2 (by omega) (by omega) (.mk (small_i64 (by omega) (by omega)) (small_i64 (by omega) (by omega)) (by simp) (by simp) (by simp)) (hP2 n (by omega) (by omega)) _ (by simp [row_mk])
    · refine call_drawE (of_draws [[97], [98], [110, 105, 108], [91, 93], [102, 111, 111], [43]] (by decide)) hc (by omega) (by omega) hi (by simp [Ob.re, C.re]) (fun r ⟨n, _, hn⟩ => by subst hn; rfl) (hf0 _) ?_
      rintro _ p2 ⟨s, hs, rfl⟩ h5 h6
      have hsm : s ∈ drawNames := draw_names hs
      have hs : s.length ≤ 3 := by simp at hs; rcases hs with rfl | rfl | rfl | rfl | rfl | rfl <;> decide
      simp -implicitDefEqProofs [hf0, go_sem, -List.set_cons_succ, -List.set_cons_zero]
      refine call_new (struct_full s) (by simp [Ob.re, C.re]) (by simp [A.re, C.re]) (hf1 _) (by simp [Ob.re, C.re]) ?_
      simp -implicitDefEqProofs [hf0, go_sem, -List.set_cons_succ, -List.set_cons_zero]
      exact done (.mk 3 0 s []) p2 (by omega) (by omega) (.mk (small_i64 (by omega) (by omega)) (small_i64 (by omega) (by omega)) (by omega) (by simp) (by simp)) (hP3 s hsm [] (by simp) (by simp)) _ (by simp [row_mk])
end Go.Proofs.YtgfmlifkhpjplaaGreatDoor

/-
  Terms that are drawn: copies that are changed.
  Conditions: none.
-/
open Go Go.AM Go.Proofs
namespace Go.Proofs.YtgfmlifkhpjplaaGreatDoor
open Go.ChangeShapes Go.WideShapes Go.ChangeAt Go.RowKit
set_option linter.unusedVariables false
set_option linter.unusedSimpArgs false
set_option maxRecDepth 100000
-- 75 loop.example/prologserver/spec.l1Some params 1 ntmps 8
theorem Draws.mono {f : FuncId} {xs : List A} {N N' : Int} {R : A → Prop} (h : Draws f xs N R) (hN : N ≤ N') : Draws f xs N' R := fun c p H i hc hp hp1 hi =>
  (h c p H i hc hp (by omega) hi).mono fun r H' ⟨h1, p', h2, h3, h4⟩ => ⟨h1, p', h2, by omega, h4⟩
end Go.Proofs.YtgfmlifkhpjplaaGreatDoor

/-
  Terms with operators, drawn.
  Conditions: none.
-/
open Go Go.AM Go.Proofs
namespace Go.Proofs.YtgfmlifkhpjplaaGreatDoor
open Go.ChangeShapes Go.WideShapes Go.ChangeAt Go.RowKit
set_option linter.unusedVariables false
set_option linter.unusedSimpArgs false
set_option maxRecDepth 100000
-- 36 loop.example/prologserver/spec.l2Draw params 2 ntmps 28
def ac36 : Cd := .seq (.region [⟨(some 4),.alloc [(.d (.int .i64 0)),(.d (.int .i64 0)),(.d (.str [])),(.full [])],none⟩] [])
 (.seq (.seq (.region [⟨(some 5),.mv (.t 1),none⟩,
 ⟨(some 6),.bin .lss (.t 5) (.k (.c (.d (.int .i64 2)))),none⟩] [5])
 (.cond (.t 6)
 (.seq (.region [⟨(some 7),.mv (.t 0),none⟩,
 ⟨(some 8),.call false 56 [(.t 7),(.k (.c (.d (.int .i64 1))))],none⟩,
 ⟨none,.store 4 (.t 4) (.t 8),none⟩] [0,1,6,7,8])
 (.ret))
 (.skip)))
 (.seq (.seq (.region [⟨(some 9),.mv (.t 0),none⟩,
 ⟨(some 10),.call false 53 [(.t 9),(.k (.c (.d (.int .i64 3))))],none⟩,
 ⟨(some 11),.bin .eql (.t 10) (.k (.c (.d (.int .i64 0)))),none⟩] [6,9,10])
 (.cond (.t 11)
 (.seq (.region [⟨(some 12),.mv (.t 0),none⟩,
 ⟨(some 13),.mv (.t 1),none⟩,
 ⟨(some 14),.call false 56 [(.t 12),(.t 13)],none⟩,
 ⟨none,.store 4 (.t 4) (.t 14),none⟩] [0,1,11,12,13,14])
 (.ret))
 (.skip)))
 (.seq (.region [⟨(some 15),.mv (.t 0),none⟩,
 ⟨(some 16),.buildSlice 1 8 [(.str [])] [(0,(.k (.c (.d (.str [43]))))),(1,(.k (.c (.d (.str [45]))))),(2,(.k (.c (.d (.str [42]))))),(3,(.k (.c (.d (.str [105,115]))))),(4,(.k (.c (.d (.str [109,111,100]))))),(5,(.k (.c (.d (.str [61]))))),(6,(.k (.c (.d (.str [47,47]))))),(7,(.k (.c (.d (.str [61,60])))))],none⟩,
 ⟨(some 17),.call false 54 [(.t 15),(.t 16)],none⟩,
 ⟨(some 18),.mv (.t 0),none⟩,
 ⟨(some 19),.mv (.t 1),none⟩,
 ⟨(some 20),.bin .sub (.t 19) (.k (.c (.d (.int .i64 1)))),none⟩,
 ⟨(some 21),.call false 36 [(.t 18),(.t 20)],none⟩,
 ⟨(some 22),.mv (.t 0),none⟩,
 ⟨(some 23),.mv (.t 1),none⟩,
 ⟨(some 24),.bin .sub (.t 23) (.k (.c (.d (.int .i64 1)))),none⟩,
 ⟨(some 25),.call false 36 [(.t 22),(.t 24)],none⟩,
 ⟨(some 26),.buildSlice 4 2 [(.int .i64 0),(.int .i64 0),(.str []),(.sl [])] [(0,(.t 21)),(1,(.t 25))],none⟩,
 ⟨(some 27),.qcall 48 [(.t 17),(.t 26)],none⟩,
 ⟨none,.store 4 (.t 4) (.t 27),none⟩] [0,1,11,15,16,17,18,19,20,21,22,23,24,25,26,27])
 (.ret))))
theorem ac36_ok : cFunc Tryz.prog [1000048] [(0,[],[]),(1,[5],[]),(2,[0,1,6,7,8],[]),(3,[6,9,10],[]),(4,[0,1,11,12,13,14],[]),(5,[0,1,11,15,16,17,18,19,20,21,22,23,24,25,26,27],[])] Tryz.f36 = some (ac36,[.cell 4 (some 4)],28) := by kernel_rfl
-- 14 loop.example/prologserver/spec.DrawWriteTerm params 1 ntmps 13
def nD (d : Nat) : Int := ((6 * 4 ^ d + 20 : Nat) : Int)
theorem nD_le {d : Nat} (h : d ≤ 5) : 0 ≤ nD d ∧ nD d ≤ 10000 := by
  have : 4 ^ d ≤ 4 ^ 5 := Nat.pow_le_pow_right (by omega) h
  unfold nD; omega
end Go.Proofs.YtgfmlifkhpjplaaGreatDoor

/-
  Drawn terms are small and have names.
  Conditions: none.
-/
open Go Go.AM Go.Proofs
namespace Go.Proofs.YtgfmlifkhpjplaaGreatDoor
open Go.ChangeShapes Go.WideShapes Go.ChangeAt Go.RowKit
set_option linter.unusedVariables false
set_option linter.unusedSimpArgs false
set_option maxRecDepth 100000
theorem names_ok : ∀ s ∈ drawNames, nameB s = true := by decide
theorem shapes_of {d : Nat} : ∀ {l : List Tm}, (∀ t ∈ l, t.shape d = true) → shapes d l = true := fun h => by
  rw [shapes_all, List.all_eq_true]
  exact h
theorem sizes_of {n : Nat} : ∀ {l : List Tm}, (∀ t ∈ l, t.size ≤ n) → sizes l ≤ l.length * n
  | [], _ => by simp [sizes]
  | t :: l, h => by
    have h1 := h t (by simp)
    have h2 := sizes_of (l := l) fun u hu => h u (by simp [hu])
    simp only [sizes, List.length_cons, Nat.add_mul, Nat.one_mul]
    omega
theorem struct_shape {d : Nat} {s : List UInt8} {l : List Tm} (hs : nameB s = true) (hl : l.length ≤ 4) (h : ∀ t ∈ l, t.shape d = true) : (Tm.mk 3 0 s l).shape (d + 1) = true := by
  simp [Tm.shape, Tm.ownB, hs, hl, shapes_of h]
def sz3 : Nat → Nat
  | 0 => 1
  | d + 1 => 3 * sz3 d + 1
theorem sz3_pos (d : Nat) : 1 ≤ sz3 d := by cases d <;> simp [sz3]
def VW (d : Nat) (t : Tm) : Prop := t.shape (d + 1) = true ∧ t.size ≤ sz3 d
end Go.Proofs.YtgfmlifkhpjplaaGreatDoor

/-
  How long a numeral is.
  Conditions: none.
-/
open Go Go.AM Go.Proofs
namespace Go.Proofs.YtgfmlifkhpjplaaGreatDoor
set_option linter.unusedVariables false
set_option linter.unusedSimpArgs false
set_option maxRecDepth 100000
theorem itoa_len (n : Int) (h0 : -9223372036854775808 ≤ n) (h1 : n ≤ 9223372036854775807) : (Lib.itoa n).length ≤ 1000000 := by
  have key : ∀ k u : Nat, u < 10 ^ k → 0 < k → (Lib.decDigits u).length ≤ k := by
    intro k
    induction k with
    | zero => omega
    | succ k ih =>
      intro u hu _
      rw [Lib.decDigits]
      split
      · simp
      · rename_i hge
        have hk : 0 < k := by
          rcases Nat.eq_zero_or_pos k with e | e
          · subst e; simp at hu; omega
          · exact e
        have := ih (u / 10) (by rw [Nat.pow_succ] at hu; omega) hk
        simp
        omega
  unfold Lib.itoa
  split
  · have := key 30 n.natAbs (by omega) (by omega)
    simp
    omega
  · have := key 30 n.toNat (by omega) (by omega)
    omega
end Go.Proofs.YtgfmlifkhpjplaaGreatDoor

/-
  Numerals of the reference.
  Conditions: none.
-/
open Go Go.AM Go.Proofs
namespace Go.Proofs.YtgfmlifkhpjplaaGreatDoor
open Go.ChangeShapes Go.WideShapes Go.ChangeAt Go.RowKit
set_option linter.unusedVariables false
set_option linter.unusedSimpArgs false
set_option maxRecDepth 100000
-- 125 loop.example/prologserver/spec.l18Dec params 1 ntmps 31
-- loop head live: [0,3]
def ac125 : Cd := .seq (.region [⟨(some 2),.mv (.k (.c (.d (.str [])))),none⟩] [2])
 (.seq (.seq (.region [⟨(some 4),.mv (.t 0),none⟩,
 ⟨(some 5),.bin .lss (.t 4) (.k (.c (.d (.int .i64 (-9223372036854775807))))),none⟩] [4])
 (.cond (.t 5)
 (.seq (.region [⟨(some 2),.mv (.k (.c (.d (.str [45,57,50,50,51,51,55,50,48,51,54,56,53,52,55,55,53,56,48,56])))),none⟩] [0,5])
 (.ret))
 (.skip)))
 (.seq (.seq (.region [⟨(some 6),.mv (.t 0),none⟩,
 ⟨(some 7),.bin .lss (.t 6) (.k (.c (.d (.int .i64 0)))),none⟩] [2,5,6])
 (.cond (.t 7)
 (.seq (.region [⟨(some 8),.mv (.t 0),none⟩,
 ⟨(some 9),.un .neg (.t 8),none⟩,
 ⟨(some 10),.qcall 125 [(.t 9)],none⟩,
 ⟨(some 11),.bin .add (.k (.c (.d (.str [45])))) (.t 10),none⟩,
 ⟨(some 2),.mv (.t 11),none⟩] [0,7,8,9,10,11])
 (.ret))
 (.skip)))
 (.seq (.region [⟨(some 3),.mv (.k (.c (.d (.str [])))),none⟩] [2,7])
 (.seq (.block 0 (.loop (.seq (.seq (.region [⟨(some 12),.mv (.t 0),none⟩,
 ⟨(some 13),.bin .gtr (.t 12) (.k (.c (.d (.int .i64 9)))),none⟩] [12])
 (.cond (.t 13)
 (.skip)
 (.exit 0)))
 (.block 1 (.seq (.region [⟨(some 14),.mv (.t 0),none⟩,
 ⟨(some 15),.bin .rem (.t 14) (.k (.c (.d (.int .i64 10)))),none⟩,
 ⟨(some 16),.bin .add (.k (.c (.d (.int .i64 48)))) (.t 15),none⟩,
 ⟨(some 17),.cvInt .u8 (.t 16),none⟩,
 ⟨(some 18),.buildSlice 1 1 [(.int .u8 0)] [(0,(.t 17))],none⟩,
 ⟨(some 19),.cvB2S (.t 18),none⟩,
 ⟨(some 20),.mv (.t 3),none⟩,
 ⟨(some 21),.bin .add (.t 19) (.t 20),none⟩,
 ⟨(some 3),.mv (.t 21),none⟩] [13,14,15,16,17,18,19,20,21])
 (.region [⟨(some 22),.mv (.t 0),none⟩,
 ⟨(some 23),.bin .quo (.t 22) (.k (.c (.d (.int .i64 10)))),none⟩,
 ⟨(some 0),.mv (.t 23),none⟩] [22,23]))))))
 (.seq (.region [⟨(some 24),.mv (.t 0),none⟩,
 ⟨(some 25),.bin .add (.k (.c (.d (.int .i64 48)))) (.t 24),none⟩,
 ⟨(some 26),.cvInt .u8 (.t 25),none⟩,
 ⟨(some 27),.buildSlice 1 1 [(.int .u8 0)] [(0,(.t 26))],none⟩,
 ⟨(some 28),.cvB2S (.t 27),none⟩,
 ⟨(some 29),.mv (.t 3),none⟩,
 ⟨(some 30),.bin .add (.t 28) (.t 29),none⟩,
 ⟨(some 2),.mv (.t 30),none⟩] [0,3,24,25,26,27,28,29,30])
 (.ret))))))
theorem ac125_ok : cFunc Tryz.prog [1000125] [(0,[2],[]),(1,[4],[]),(2,[0,5],[]),(3,[2,5,6],[]),(4,[0,7,8,9,10,11],[]),(5,[2,7],[]),(6,[12],[]),(7,[13,14,15,16,17,18,19,20,21],[]),(8,[22,23],[]),(9,[0,3,24,25,26,27,28,29,30],[])] Tryz.f125 = some (ac125,[.tmp 2],31) := by kernel_rfl
-- 100 loop.example/prologserver/spec.l1Dec params 1 ntmps 11
def ac100 : Cd := .seq (.region [⟨(some 2),.mv (.k (.c (.d (.str [])))),none⟩] [2])
 (.seq (.seq (.region [⟨(some 3),.mv (.t 0),none⟩,
 ⟨(some 4),.bin .lss (.t 3) (.k (.c (.d (.int .i64 0)))),none⟩] [3])
 (.cond (.t 4)
 (.seq (.region [⟨(some 5),.mv (.t 0),none⟩,
 ⟨(some 6),.un .neg (.t 5),none⟩,
 ⟨(some 7),.qcall 125 [(.t 6)],none⟩,
 ⟨(some 8),.bin .add (.k (.c (.d (.str [45])))) (.t 7),none⟩,
 ⟨(some 2),.mv (.t 8),none⟩] [0,4,5,6,7,8])
 (.ret))
 (.skip)))
 (.seq (.region [⟨(some 9),.mv (.t 0),none⟩,
 ⟨(some 10),.qcall 125 [(.t 9)],none⟩,
 ⟨(some 2),.mv (.t 10),none⟩] [0,4,9,10])
 (.ret)))
theorem ac100_ok : cFunc Tryz.prog [1000125] [(0,[2],[]),(1,[3],[]),(2,[0,4,5,6,7,8],[]),(3,[0,4,9,10],[])] Tryz.f100 = some (ac100,[.tmp 2],11) := by kernel_rfl
theorem dd_small {n : Nat} (h : n < 10) : Lib.decDigits n = [UInt8.ofNat (48 + n)] := by rw [Lib.decDigits, dif_pos h]
theorem dd_big {n : Nat} (h : 10 ≤ n) : Lib.decDigits n = Lib.decDigits (n / 10) ++ [UInt8.ofNat (48 + n % 10)] := by rw [Lib.decDigits, dif_neg (by omega)]
theorem b2s_one {m : Nat} {K : A → St → Prop} {st : St} (h : m < 10) (hk : K (.c (.d (.str [UInt8.ofNat (48 + m)]))) st) : B2SK true [[.int .u8 (IntKind.wrap .u8 (48 + (m : Int)))]] K st := by
  refine ⟨[UInt8.ofNat (48 + m)], fun _ => ?_, hk⟩
  have : m = 0 ∨ m = 1 ∨ m = 2 ∨ m = 3 ∨ m = 4 ∨ m = 5 ∨ m = 6 ∨ m = 7 ∨ m = 8 ∨ m = 9 := by omega
  rcases this with rfl | rfl | rfl | rfl | rfl | rfl | rfl | rfl | rfl | rfl <;> rfl
theorem dec_pos (n : Nat) (hn : (n : Int) ≤ 9223372036854775807) (H : Heap) : ACalls Tryz.prog 125 [.c (.d (.int .i64 n))] H (fun r H' => H' = H ∧ r = .c (.d (.str (Lib.itoa n)))) := by
  refine acalls Tryz.func125 (by kernel_rfl) ac125_ok fun hf => ?_
  have h0 : ¬ ((n : Int) < -9223372036854775807) := by omega
  have h1 : ¬ ((n : Int) < 0) := by omega
  simp -implicitDefEqProofs [ac125, h0, h1, go_sem, -List.set_cons_succ, -List.set_cons_zero]
  have hlen : (Lib.decDigits n).length ≤ 1000000 := by
    have := itoa_len n (by omega) (by omega)
    rwa [Lib.itoa_nonneg] at this
  rw [Lib.itoa_nonneg]
  refine loop_set (σ := Nat × List UInt8) (fun x => [(0, .c (.d (.int .i64 x.1))), (3, .c (.d (.str x.2)))]) (fun _ => H) (fun _ => []) (fun x => x.1 ≤ n ∧ Lib.decDigits n = Lib.decDigits x.1 ++ x.2) (fun x => x.1) (n, []) rfl ⟨Nat.le_refl _, by simp⟩ ?_
  rintro ⟨m, out⟩ ⟨hm, hd⟩
  have hm1 : inR .i64 ((m : Int)) := i64_def.2 (by simp at hm; omega)
  have hol : out.length ≤ 1000000 := by rw [hd] at hlen; simp at hlen; omega
  simp only at hm hd
  simp -implicitDefEqProofs [setAll, go_sem, -List.set_cons_succ, -List.set_cons_zero]
  have hmod : (m : Int).tmod 10 = ((m % 10 : Nat) : Int) := by rw [Int.tmod_eq_emod_of_nonneg (by omega)]; omega
  have hquo : (m : Int).tdiv 10 = ((m / 10 : Nat) : Int) := by rw [Int.tdiv_eq_ediv_of_nonneg (by omega)]; omega
  have hq : inR .i64 ((m / 10 : Nat) : Int) := i64_def.2 (by omega)
  refine ⟨fun hgt => ?_, fun hle => ?_⟩
  · rw [hmod]
    refine ⟨small_i64 (by omega) (by omega), b2s_one (by omega) ?_⟩
    simp -implicitDefEqProofs [setAll, hquo, hq, maxStr, go_sem, -List.set_cons_succ, -List.set_cons_zero]
    refine ⟨by omega, ?_⟩
    refine ⟨by simpa using hq, ?_⟩
    refine loop_back (m / 10, UInt8.ofNat (48 + m % 10) :: out) (by simp [setAll]) ⟨by simp only; omega, ?_⟩ (by show m / 10 < m; omega)
    rw [hd, dd_big (n := m) (by omega)]
    simp
  · refine ⟨small_i64 (by omega) (by omega), b2s_one (by omega) ?_⟩
    simp -implicitDefEqProofs [setAll, maxStr, go_sem, -List.set_cons_succ, -List.set_cons_zero]
    rw [hd, dd_small (n := m) (by omega)]
    simp
    omega
theorem dec_calls (n : Int) (hn : inR .i64 n) (H : Heap) : ACalls Tryz.prog 125 [.c (.d (.int .i64 n))] H (fun r H' => H' = H ∧ r = .c (.d (.str (Lib.itoa n)))) := by
  obtain ⟨hn1, hn2⟩ := i64_def.1 hn
  rcases Int.lt_or_le n 0 with hneg | hpos
  · refine acalls Tryz.func125 (by kernel_rfl) ac125_ok fun hf => ?_
    simp -implicitDefEqProofs [ac125, go_sem, -List.set_cons_succ, -List.set_cons_zero]
    refine ⟨fun h => ?_, fun h => ?_⟩
    · have : n = -9223372036854775808 := by omega
      subst this
      decide +kernel
    · refine ⟨fun _ => ?_, fun h => by omega⟩
      have hi : inR .i64 (-n) := i64_def.2 (by omega)
      have h2 := dec_pos n.natAbs (by omega)
      have e : ((n.natAbs : Nat) : Int) = -n := by omega
      have e2 : Lib.itoa n = 45 :: Lib.itoa (-n) := by
        rw [← e, Lib.itoa_nonneg]
        unfold Lib.itoa
        rw [if_pos hneg]
      rw [e] at h2
      have h3 := itoa_len (-n) (by omega) (by omega)
      refine ⟨hi, qcall_pure h2 hf rfl ?_⟩
      simp -implicitDefEqProofs [e2, maxStr, go_sem, -List.set_cons_succ, -List.set_cons_zero]
      omega
  · have := dec_pos n.toNat (by omega) H
    rwa [Int.toNat_of_nonneg hpos] at this
theorem dec1_calls (n : Int) (hn1 : -9223372036854775807 ≤ n) (hn2 : n ≤ 9223372036854775807) (H : Heap) : ACalls Tryz.prog 100 [.c (.d (.int .i64 n))] H (fun r H' => H' = H ∧ r = .c (.d (.str (Lib.itoa n)))) := by
  refine acalls Tryz.func100 (by kernel_rfl) ac100_ok fun hf => ?_
  simp -implicitDefEqProofs [ac100, go_sem, -List.set_cons_succ, -List.set_cons_zero]
  refine ⟨fun hneg => ?_, fun hpos => ?_⟩
  · have e2 : Lib.itoa n = 45 :: Lib.itoa (-n) := by
      have e : ((n.natAbs : Nat) : Int) = -n := by omega
      rw [← e, Lib.itoa_nonneg]
      unfold Lib.itoa
      rw [if_pos hneg]
    have h3 := itoa_len (-n) (by omega) (by omega)
    refine ⟨i64_def.2 (by omega), qcall_pure (dec_calls (-n) (i64_def.2 (by omega))) hf rfl ?_⟩
    simp -implicitDefEqProofs [e2, maxStr, go_sem, -List.set_cons_succ, -List.set_cons_zero]
    omega
  · refine qcall_pure (dec_calls n (i64_def.2 (by omega))) hf rfl ?_
    simp -implicitDefEqProofs [go_sem, -List.set_cons_succ, -List.set_cons_zero]
end Go.Proofs.YtgfmlifkhpjplaaGreatDoor

/-
  The codes of two readers of bytes.
  Conditions: none.
-/
open Go Go.AM Go.Proofs
namespace Go.Proofs.YtgfmlifkhpjplaaGreatDoor
-- 80 loop.example/prologserver/spec.l1Digit params 2 ntmps 25
def ac80 : Cd := .seq (.region [⟨(some 4),.mv (.k (.c (.d (.bool false)))),none⟩] [4])
 (.seq (.region [⟨(some 5),.mv (.t 1),none⟩,
 ⟨(some 6),.bin .geq (.t 5) (.k (.c (.d (.int .i64 0)))),none⟩,
 ⟨(some 7),.mv (.t 6),none⟩,
 ⟨(some 8),.mv (.t 1),some (7,true)⟩,
 ⟨(some 9),.mv (.t 0),some (7,true)⟩,
 ⟨(some 10),.len 0 (.t 9),some (7,true)⟩,
 ⟨(some 11),.bin .lss (.t 8) (.t 10),some (7,true)⟩,
 ⟨(some 12),.pick (.t 7) (.t 11) (.k (.c (.d (.bool false)))),none⟩,
 ⟨(some 13),.mv (.t 12),none⟩,
 ⟨(some 14),.mv (.t 0),some (13,true)⟩,
 ⟨(some 15),.mv (.t 1),some (13,true)⟩,
 ⟨(some 16),.index (.t 14) (.t 15),some (13,true)⟩,
 ⟨(some 17),.bin .geq (.t 16) (.k (.c (.d (.int .u8 48)))),some (13,true)⟩,
 ⟨(some 18),.pick (.t 13) (.t 17) (.k (.c (.d (.bool false)))),none⟩,
 ⟨(some 19),.mv (.t 18),none⟩,
 ⟨(some 20),.mv (.t 0),some (19,true)⟩,
 ⟨(some 21),.mv (.t 1),some (19,true)⟩,
 ⟨(some 22),.index (.t 20) (.t 21),some (19,true)⟩,
 ⟨(some 23),.bin .leq (.t 22) (.k (.c (.d (.int .u8 57)))),some (19,true)⟩,
 ⟨(some 24),.pick (.t 19) (.t 23) (.k (.c (.d (.bool false)))),none⟩,
 ⟨(some 4),.mv (.t 24),none⟩] [0,1,5,6,7,8,9,10,11,12,13,14,15,16,17,18,19,20,21,22,23,24])
 (.ret))
theorem ac80_ok : cFunc Tryz.prog [] [(0,[4],[]),(1,[0,1,5,6,7,8,9,10,11,12,13,14,15,16,17,18,19,20,21,22,23,24],[])] Tryz.f80 = some (ac80,[.tmp 4],25) := by kernel_rfl
-- 107 loop.example/prologserver/spec.l1Small params 2 ntmps 25
def ac107 : Cd := .seq (.region [⟨(some 4),.mv (.k (.c (.d (.bool false)))),none⟩] [4])
 (.seq (.region [⟨(some 5),.mv (.t 1),none⟩,
 ⟨(some 6),.bin .geq (.t 5) (.k (.c (.d (.int .i64 0)))),none⟩,
 ⟨(some 7),.mv (.t 6),none⟩,
 ⟨(some 8),.mv (.t 1),some (7,true)⟩,
 ⟨(some 9),.mv (.t 0),some (7,true)⟩,
 ⟨(some 10),.len 0 (.t 9),some (7,true)⟩,
 ⟨(some 11),.bin .lss (.t 8) (.t 10),some (7,true)⟩,
 ⟨(some 12),.pick (.t 7) (.t 11) (.k (.c (.d (.bool false)))),none⟩,
 ⟨(some 13),.mv (.t 12),none⟩,
 ⟨(some 14),.mv (.t 0),some (13,true)⟩,
 ⟨(some 15),.mv (.t 1),some (13,true)⟩,
 ⟨(some 16),.index (.t 14) (.t 15),some (13,true)⟩,
 ⟨(some 17),.bin .geq (.t 16) (.k (.c (.d (.int .u8 97)))),some (13,true)⟩,
 ⟨(some 18),.pick (.t 13) (.t 17) (.k (.c (.d (.bool false)))),none⟩,
 ⟨(some 19),.mv (.t 18),none⟩,
 ⟨(some 20),.mv (.t 0),some (19,true)⟩,
 ⟨(some 21),.mv (.t 1),some (19,true)⟩,
 ⟨(some 22),.index (.t 20) (.t 21),some (19,true)⟩,
 ⟨(some 23),.bin .leq (.t 22) (.k (.c (.d (.int .u8 122)))),some (19,true)⟩,
 ⟨(some 24),.pick (.t 19) (.t 23) (.k (.c (.d (.bool false)))),none⟩,
 ⟨(some 4),.mv (.t 24),none⟩] [0,1,5,6,7,8,9,10,11,12,13,14,15,16,17,18,19,20,21,22,23,24])
 (.ret))
theorem ac107_ok : cFunc Tryz.prog [] [(0,[4],[]),(1,[0,1,5,6,7,8,9,10,11,12,13,14,15,16,17,18,19,20,21,22,23,24],[])] Tryz.f107 = some (ac107,[.tmp 4],25) := by kernel_rfl
end Go.Proofs.YtgfmlifkhpjplaaGreatDoor

/-
  Terms as the reference writes them.
  Conditions: none.
-/
open Go Go.AM Go.Proofs
namespace Go.Proofs.YtgfmlifkhpjplaaGreatDoor
open Go.ChangeShapes Go.WideShapes Go.ChangeAt Go.RowKit
set_option linter.unusedVariables false
set_option linter.unusedSimpArgs false
set_option maxRecDepth 100000
-- 99 loop.example/prologserver/spec.l1Letter params 1 ntmps 8
def ac99 : Cd := .seq (.region [⟨(some 2),.mv (.k (.c (.d (.str [])))),none⟩] [2])
 (.seq (.region [⟨(some 3),.mv (.t 0),none⟩,
 ⟨(some 4),.cvInt .u8 (.t 3),none⟩,
 ⟨(some 5),.bin .add (.k (.c (.d (.int .u8 65)))) (.t 4),none⟩,
 ⟨(some 6),.buildSlice 1 1 [(.int .u8 0)] [(0,(.t 5))],none⟩,
 ⟨(some 7),.cvB2S (.t 6),none⟩,
 ⟨(some 2),.mv (.t 7),none⟩] [0,3,4,5,6,7])
 (.ret))
theorem ac99_ok : cFunc Tryz.prog [] [(0,[2],[]),(1,[0,3,4,5,6,7],[])] Tryz.f99 = some (ac99,[.tmp 2],8) := by kernel_rfl
-- 70 loop.example/prologserver/spec.l1Text params 1 ntmps 51
-- loop head live: [1,3,4]
def ac70 : Cd := .seq (.region [⟨(some 1),.box (.t 0),none⟩,
 ⟨(some 2),.mv (.k (.c (.d (.str [])))),none⟩] [0,2])
 (.seq (.seq (.region [⟨(some 5),.fieldAddr 0 (.t 1),none⟩,
 ⟨(some 6),.load none (.t 5),none⟩] [5])
 (.block 0 (.seq (.region [⟨(some 8),.bin .eql (.t 6) (.k (.c (.d (.int .i64 1)))),none⟩,
 ⟨(some 7),.mv (.t 8),none⟩] [8])
 (.cond (.t 7)
 (.seq (.region [⟨(some 9),.fieldAddr 1 (.t 1),none⟩,
 ⟨(some 10),.load none (.t 9),none⟩,
 ⟨(some 11),.qcall 99 [(.t 10)],none⟩,
 ⟨(some 2),.mv (.t 11),none⟩] [1,6,7,9,10,11])
 (.ret))
 (.seq (.region [⟨(some 13),.bin .eql (.t 6) (.k (.c (.d (.int .i64 2)))),none⟩,
 ⟨(some 12),.mv (.t 13),none⟩] [6,7,13])
 (.cond (.t 12)
 (.seq (.region [⟨(some 14),.fieldAddr 1 (.t 1),none⟩,
 ⟨(some 15),.load none (.t 14),none⟩,
 ⟨(some 16),.qcall 100 [(.t 15)],none⟩,
 ⟨(some 2),.mv (.t 16),none⟩] [1,12,14,15,16])
 (.ret))
 (.skip)))))))
 (.seq (.seq (.region [⟨(some 17),.load (some 4) (.t 1),none⟩,
 ⟨(some 18),.qcall 63 [(.t 17)],none⟩] [2,12,17])
 (.cond (.t 18)
 (.seq (.region [⟨(some 19),.load (some 4) (.t 1),none⟩,
 ⟨(some 20),.qcall 101 [(.t 19)],none⟩,
 ⟨(some 2),.mv (.t 20),none⟩] [1,18,19,20])
 (.ret))
 (.skip)))
 (.seq (.region [⟨(some 21),.fieldAddr 2 (.t 1),none⟩,
 ⟨(some 22),.load none (.t 21),none⟩,
 ⟨(some 3),.mv (.t 22),none⟩] [2,18,21,22])
 (.seq (.seq (.region [⟨(some 4),.mv (.k (.c (.d (.int .i64 0)))),none⟩] [])
 (.block 1 (.loop (.seq (.seq (.region [⟨(some 23),.mv (.t 4),none⟩,
 ⟨(some 24),.fieldAddr 3 (.t 1),none⟩,
 ⟨(some 25),.load none (.t 24),none⟩,
 ⟨(some 26),.len 1 (.t 25),none⟩,
 ⟨(some 27),.bin .lss (.t 23) (.t 26),none⟩] [23,24,25,26])
 (.cond (.t 27)
 (.skip)
 (.exit 1)))
 (.seq (.block 2 (.seq (.seq (.region [⟨(some 30),.mv (.t 4),none⟩,
 ⟨(some 31),.bin .eql (.t 30) (.k (.c (.d (.int .i64 0)))),none⟩] [27,30])
 (.cond (.t 31)
 (.region [⟨(some 32),.mv (.t 3),none⟩,
 ⟨(some 33),.bin .add (.t 32) (.k (.c (.d (.str [40])))),none⟩,
 ⟨(some 3),.mv (.t 33),none⟩] [31,32,33])
 (.region [⟨(some 34),.mv (.t 3),none⟩,
 ⟨(some 35),.bin .add (.t 34) (.k (.c (.d (.str [44])))),none⟩,
 ⟨(some 3),.mv (.t 35),none⟩] [31,34,35])))
 (.region [⟨(some 36),.mv (.t 3),none⟩,
 ⟨(some 37),.fieldAddr 3 (.t 1),none⟩,
 ⟨(some 38),.load none (.t 37),none⟩,
 ⟨(some 39),.mv (.t 4),none⟩,
 ⟨(some 40),.indexAddr 4 (.t 38) (.t 39),none⟩,
 ⟨(some 41),.load (some 4) (.t 40),none⟩,
 ⟨(some 42),.qcall 70 [(.t 41)],none⟩,
 ⟨(some 43),.bin .add (.t 36) (.t 42),none⟩,
 ⟨(some 3),.mv (.t 43),none⟩] [36,37,38,39,40,41,42,43])))
 (.region [⟨(some 28),.mv (.t 4),none⟩,
 ⟨(some 29),.bin .add (.t 28) (.k (.c (.d (.int .i64 1)))),none⟩,
 ⟨(some 4),.mv (.t 29),none⟩] [28,29]))))))
 (.seq (.seq (.region [⟨(some 44),.fieldAddr 3 (.t 1),none⟩,
 ⟨(some 45),.load none (.t 44),none⟩,
 ⟨(some 46),.len 1 (.t 45),none⟩,
 ⟨(some 47),.bin .gtr (.t 46) (.k (.c (.d (.int .i64 0)))),none⟩] [1,44,45,46])
 (.cond (.t 47)
 (.region [⟨(some 48),.mv (.t 3),none⟩,
 ⟨(some 49),.bin .add (.t 48) (.k (.c (.d (.str [41])))),none⟩,
 ⟨(some 3),.mv (.t 49),none⟩] [47,48,49])
 (.skip)))
 (.seq (.region [⟨(some 50),.mv (.t 3),none⟩,
 ⟨(some 2),.mv (.t 50),none⟩] [3,47,50])
 (.ret)))))))
theorem ac70_ok : cFunc Tryz.prog [1000063,1000070,1000099,1000100,1000101] [(0,[0,2],[]),(1,[5],[]),(2,[8],[]),(3,[1,6,7,9,10,11],[]),(4,[6,7,13],[]),(5,[1,12,14,15,16],[]),(6,[2,12,17],[]),(7,[1,18,19,20],[]),(8,[2,18,21,22],[]),(9,[],[]),(10,[23,24,25,26],[]),(12,[27,30],[]),(13,[31,32,33],[]),(14,[31,34,35],[]),(15,[36,37,38,39,40,41,42,43],[]),(11,[28,29],[]),(16,[1,44,45,46],[]),(17,[47,48,49],[]),(18,[3,47,50],[])] Tryz.f70 = some (ac70,[.tmp 2],51) := by kernel_rfl
-- 65 loop.example/prologserver/spec.l2Infix params 1 ntmps 18
def ac65 : Cd := .seq (.region [⟨(some 1),.box (.t 0),none⟩,
 ⟨(some 2),.mv (.k (.c (.d (.bool false)))),none⟩] [0,2])
 (.seq (.region [⟨(some 3),.fieldAddr 0 (.t 1),none⟩,
 ⟨(some 4),.load none (.t 3),none⟩,
 ⟨(some 5),.bin .eql (.t 4) (.k (.c (.d (.int .i64 3)))),none⟩,
 ⟨(some 6),.mv (.t 5),none⟩,
 ⟨(some 7),.fieldAddr 3 (.t 1),some (6,true)⟩,
 ⟨(some 8),.load none (.t 7),some (6,true)⟩,
 ⟨(some 9),.len 1 (.t 8),some (6,true)⟩,
 ⟨(some 10),.bin .eql (.t 9) (.k (.c (.d (.int .i64 2)))),some (6,true)⟩,
 ⟨(some 11),.pick (.t 6) (.t 10) (.k (.c (.d (.bool false)))),none⟩,
 ⟨(some 12),.mv (.t 11),none⟩,
 ⟨(some 13),.fieldAddr 2 (.t 1),some (12,true)⟩,
 ⟨(some 14),.load none (.t 13),some (12,true)⟩,
 ⟨(some 15),.qcall 47 [(.t 14)],some (12,true)⟩,
 ⟨(some 16),.bin .gtr (.t 15) (.k (.c (.d (.int .i64 0)))),some (12,true)⟩,
 ⟨(some 17),.pick (.t 12) (.t 16) (.k (.c (.d (.bool false)))),none⟩,
 ⟨(some 2),.mv (.t 17),none⟩] [1,3,4,5,6,7,8,9,10,11,12,13,14,15,16,17])
 (.ret))
theorem ac65_ok : cFunc Tryz.prog [1000047] [(0,[0,2],[]),(1,[1,3,4,5,6,7,8,9,10,11,12,13,14,15,16,17],[])] Tryz.f65 = some (ac65,[.tmp 2],18) := by kernel_rfl
-- 67 loop.example/prologserver/spec.l2Spaced params 1 ntmps 13
def ac67 : Cd := .seq (.region [⟨(some 2),.mv (.k (.c (.d (.str [])))),none⟩] [2])
 (.seq (.seq (.region [⟨(some 3),.mv (.t 0),none⟩,
 ⟨(some 4),.bin .eql (.t 3) (.k (.c (.d (.str [105,115])))),none⟩,
 ⟨(some 5),.mv (.t 4),none⟩,
 ⟨(some 6),.mv (.t 0),some (5,false)⟩,
 ⟨(some 7),.bin .eql (.t 6) (.k (.c (.d (.str [109,111,100])))),some (5,false)⟩,
 ⟨(some 8),.pick (.t 5) (.k (.c (.d (.bool true)))) (.t 7),none⟩] [3,4,5,6,7])
 (.cond (.t 8)
 (.seq (.region [⟨(some 9),.mv (.t 0),none⟩,
 ⟨(some 10),.bin .add (.k (.c (.d (.str [32])))) (.t 9),none⟩,
 ⟨(some 11),.bin .add (.t 10) (.k (.c (.d (.str [32])))),none⟩,
 ⟨(some 2),.mv (.t 11),none⟩] [0,8,9,10,11])
 (.ret))
 (.skip)))
 (.seq (.region [⟨(some 12),.mv (.t 0),none⟩,
 ⟨(some 2),.mv (.t 12),none⟩] [0,8,12])
 (.ret)))
theorem ac67_ok : cFunc Tryz.prog [] [(0,[2],[]),(1,[3,4,5,6,7],[]),(2,[0,8,9,10,11],[]),(3,[0,8,12],[])] Tryz.f67 = some (ac67,[.tmp 2],13) := by kernel_rfl
-- 97 loop.example/prologserver/spec.l2Bracket params 2 ntmps 20
def ac97 : Cd := .seq (.region [⟨(some 2),.box (.t 0),none⟩,
 ⟨(some 4),.mv (.k (.c (.d (.str [])))),none⟩] [0,4])
 (.seq (.seq (.region [⟨(some 5),.load (some 4) (.t 2),none⟩,
 ⟨(some 6),.qcall 65 [(.t 5)],none⟩,
 ⟨(some 7),.mv (.t 6),none⟩,
 ⟨(some 8),.fieldAddr 2 (.t 2),some (7,true)⟩,
 ⟨(some 9),.load none (.t 8),some (7,true)⟩,
 ⟨(some 10),.qcall 47 [(.t 9)],some (7,true)⟩,
 ⟨(some 11),.mv (.t 1),some (7,true)⟩,
 ⟨(some 12),.bin .gtr (.t 10) (.t 11),some (7,true)⟩,
 ⟨(some 13),.pick (.t 7) (.t 12) (.k (.c (.d (.bool false)))),none⟩] [1,5,6,7,8,9,10,11,12])
 (.cond (.t 13)
 (.seq (.region [⟨(some 14),.load (some 4) (.t 2),none⟩,
 ⟨(some 15),.qcall 39 [(.t 14)],none⟩,
 ⟨(some 16),.bin .add (.k (.c (.d (.str [40])))) (.t 15),none⟩,
 ⟨(some 17),.bin .add (.t 16) (.k (.c (.d (.str [41])))),none⟩,
 ⟨(some 4),.mv (.t 17),none⟩] [2,13,14,15,16,17])
 (.ret))
 (.skip)))
 (.seq (.region [⟨(some 18),.load (some 4) (.t 2),none⟩,
 ⟨(some 19),.qcall 39 [(.t 18)],none⟩,
 ⟨(some 4),.mv (.t 19),none⟩] [2,13,18,19])
 (.ret)))
theorem ac97_ok : cFunc Tryz.prog [1000039,1000047,1000065] [(0,[0,4],[]),(1,[1,5,6,7,8,9,10,11,12],[]),(2,[2,13,14,15,16,17],[]),(3,[2,13,18,19],[])] Tryz.f97 = some (ac97,[.tmp 4],20) := by kernel_rfl
-- 69 loop.example/prologserver/spec.l2Args params 1 ntmps 23
-- loop head live: [0,3,4]
def ac69 : Cd := .seq (.region [⟨(some 2),.mv (.k (.c (.d (.str [])))),none⟩] [2])
 (.seq (.region [⟨(some 3),.mv (.k (.c (.d (.str [])))),none⟩] [])
 (.seq (.seq (.region [⟨(some 4),.mv (.k (.c (.d (.int .i64 0)))),none⟩] [])
 (.block 0 (.loop (.seq (.seq (.region [⟨(some 5),.mv (.t 4),none⟩,
 ⟨(some 6),.mv (.t 0),none⟩,
 ⟨(some 7),.len 1 (.t 6),none⟩,
 ⟨(some 8),.bin .lss (.t 5) (.t 7),none⟩] [5,6,7])
 (.cond (.t 8)
 (.skip)
 (.exit 0)))
 (.seq (.block 1 (.seq (.seq (.region [⟨(some 11),.mv (.t 4),none⟩,
 ⟨(some 12),.bin .gtr (.t 11) (.k (.c (.d (.int .i64 0)))),none⟩] [8,11])
 (.cond (.t 12)
 (.region [⟨(some 13),.mv (.t 3),none⟩,
 ⟨(some 14),.bin .add (.t 13) (.k (.c (.d (.str [44])))),none⟩,
 ⟨(some 3),.mv (.t 14),none⟩] [12,13,14])
 (.skip)))
 (.region [⟨(some 15),.mv (.t 3),none⟩,
 ⟨(some 16),.mv (.t 0),none⟩,
 ⟨(some 17),.mv (.t 4),none⟩,
 ⟨(some 18),.indexAddr 4 (.t 16) (.t 17),none⟩,
 ⟨(some 19),.load (some 4) (.t 18),none⟩,
 ⟨(some 20),.qcall 39 [(.t 19)],none⟩,
 ⟨(some 21),.bin .add (.t 15) (.t 20),none⟩,
 ⟨(some 3),.mv (.t 21),none⟩] [12,15,16,17,18,19,20,21])))
 (.region [⟨(some 9),.mv (.t 4),none⟩,
 ⟨(some 10),.bin .add (.t 9) (.k (.c (.d (.int .i64 1)))),none⟩,
 ⟨(some 4),.mv (.t 10),none⟩] [9,10]))))))
 (.seq (.region [⟨(some 22),.mv (.t 3),none⟩,
 ⟨(some 2),.mv (.t 22),none⟩] [3,22])
 (.ret))))
theorem ac69_ok : cFunc Tryz.prog [1000039] [(0,[2],[]),(1,[],[]),(2,[],[]),(3,[5,6,7],[]),(5,[8,11],[]),(6,[12,13,14],[]),(7,[12,15,16,17,18,19,20,21],[]),(4,[9,10],[]),(8,[3,22],[])] Tryz.f69 = some (ac69,[.tmp 2],23) := by kernel_rfl
-- 64 loop.example/prologserver/spec.l2List params 1 ntmps 32
-- loop head live: [1,3]
def ac64 : Cd := .seq (.region [⟨(some 1),.box (.t 0),none⟩,
 ⟨(some 2),.mv (.k (.c (.d (.str [])))),none⟩] [0,2])
 (.seq (.region [⟨(some 4),.buildSlice 4 0 [(.int .i64 0),(.int .i64 0),(.str []),(.sl [])] [],none⟩,
 ⟨(some 3),.mv (.t 4),none⟩] [4])
 (.seq (.block 0 (.loop (.seq (.seq (.region [⟨(some 5),.load (some 4) (.t 1),none⟩,
 ⟨(some 6),.qcall 63 [(.t 5)],none⟩] [5])
 (.cond (.t 6)
 (.skip)
 (.exit 0)))
 (.block 1 (.seq (.region [⟨(some 7),.mv (.t 3),none⟩,
 ⟨(some 8),.fieldAddr 3 (.t 1),none⟩,
 ⟨(some 9),.load none (.t 8),none⟩,
 ⟨(some 10),.indexAddr 4 (.t 9) (.k (.c (.d (.int .i64 0)))),none⟩,
 ⟨(some 11),.load (some 4) (.t 10),none⟩,
 ⟨(some 12),.buildSlice 4 1 [(.int .i64 0),(.int .i64 0),(.str []),(.sl [])] [(0,(.t 11))],none⟩,
 ⟨(some 13),.append false 4 (.t 7) (.t 12),none⟩,
 ⟨(some 3),.mv (.t 13),none⟩] [6,7,8,9,10,11,12,13])
 (.region [⟨(some 14),.fieldAddr 3 (.t 1),none⟩,
 ⟨(some 15),.load none (.t 14),none⟩,
 ⟨(some 16),.indexAddr 4 (.t 15) (.k (.c (.d (.int .i64 1)))),none⟩,
 ⟨(some 17),.load (some 4) (.t 16),none⟩,
 ⟨none,.store 4 (.t 1) (.t 17),none⟩] [14,15,16,17]))))))
 (.seq (.seq (.region [⟨(some 18),.load (some 4) (.t 1),none⟩,
 ⟨(some 19),.qcall 95 [(.t 18)],none⟩] [18])
 (.cond (.t 19)
 (.seq (.region [⟨(some 20),.mv (.t 3),none⟩,
 ⟨(some 21),.qcall 69 [(.t 20)],none⟩,
 ⟨(some 22),.bin .add (.k (.c (.d (.str [91])))) (.t 21),none⟩,
 ⟨(some 23),.bin .add (.t 22) (.k (.c (.d (.str [93])))),none⟩,
 ⟨(some 2),.mv (.t 23),none⟩] [1,3,19,20,21,22,23])
 (.ret))
 (.skip)))
 (.seq (.region [⟨(some 24),.mv (.t 3),none⟩,
 ⟨(some 25),.qcall 69 [(.t 24)],none⟩,
 ⟨(some 26),.bin .add (.k (.c (.d (.str [91])))) (.t 25),none⟩,
 ⟨(some 27),.bin .add (.t 26) (.k (.c (.d (.str [124])))),none⟩,
 ⟨(some 28),.load (some 4) (.t 1),none⟩,
 ⟨(some 29),.qcall 39 [(.t 28)],none⟩,
 ⟨(some 30),.bin .add (.t 27) (.t 29),none⟩,
 ⟨(some 31),.bin .add (.t 30) (.k (.c (.d (.str [93])))),none⟩,
 ⟨(some 2),.mv (.t 31),none⟩] [1,3,19,24,25,26,27,28,29,30,31])
 (.ret)))))
theorem ac64_ok : cFunc Tryz.prog [1000039,1000063,1000069,1000095] [(0,[0,2],[]),(1,[4],[]),(2,[5],[]),(3,[6,7,8,9,10,11,12,13],[]),(4,[14,15,16,17],[]),(5,[18],[]),(6,[1,3,19,20,21,22,23],[]),(7,[1,3,19,24,25,26,27,28,29,30,31],[0,1,2,3,4,5,6,7,8])] Tryz.f64 = some (ac64,[.tmp 2],32) := by kernel_rfl
-- 96 loop.example/prologserver/spec.l2Sole params 1 ntmps 18
def ac96 : Cd := .seq (.region [⟨(some 1),.box (.t 0),none⟩,
 ⟨(some 2),.mv (.k (.c (.d (.bool false)))),none⟩] [0,2])
 (.seq (.region [⟨(some 3),.fieldAddr 0 (.t 1),none⟩,
 ⟨(some 4),.load none (.t 3),none⟩,
 ⟨(some 5),.bin .eql (.t 4) (.k (.c (.d (.int .i64 3)))),none⟩,
 ⟨(some 6),.mv (.t 5),none⟩,
 ⟨(some 7),.fieldAddr 3 (.t 1),some (6,true)⟩,
 ⟨(some 8),.load none (.t 7),some (6,true)⟩,
 ⟨(some 9),.len 1 (.t 8),some (6,true)⟩,
 ⟨(some 10),.bin .eql (.t 9) (.k (.c (.d (.int .i64 0)))),some (6,true)⟩,
 ⟨(some 11),.pick (.t 6) (.t 10) (.k (.c (.d (.bool false)))),none⟩,
 ⟨(some 12),.mv (.t 11),none⟩,
 ⟨(some 13),.fieldAddr 2 (.t 1),some (12,true)⟩,
 ⟨(some 14),.load none (.t 13),some (12,true)⟩,
 ⟨(some 15),.qcall 47 [(.t 14)],some (12,true)⟩,
 ⟨(some 16),.bin .gtr (.t 15) (.k (.c (.d (.int .i64 0)))),some (12,true)⟩,
 ⟨(some 17),.pick (.t 12) (.t 16) (.k (.c (.d (.bool false)))),none⟩,
 ⟨(some 2),.mv (.t 17),none⟩] [1,3,4,5,6,7,8,9,10,11,12,13,14,15,16,17])
 (.ret))
theorem ac96_ok : cFunc Tryz.prog [1000047] [(0,[0,2],[]),(1,[1,3,4,5,6,7,8,9,10,11,12,13,14,15,16,17],[])] Tryz.f96 = some (ac96,[.tmp 2],18) := by kernel_rfl
-- 98 loop.example/prologserver/spec.l2Plain params 1 ntmps 29
def ac98 : Cd := .seq (.region [⟨(some 2),.mv (.k (.c (.d (.bool false)))),none⟩] [2])
 (.seq (.region [⟨(some 3),.mv (.t 0),none⟩,
 ⟨(some 4),.qcall 107 [(.t 3),(.k (.c (.d (.int .i64 0))))],none⟩,
 ⟨(some 5),.mv (.t 4),none⟩,
 ⟨(some 6),.mv (.t 0),some (5,false)⟩,
 ⟨(some 7),.qcall 80 [(.t 6),(.k (.c (.d (.int .i64 0))))],some (5,false)⟩,
 ⟨(some 8),.pick (.t 5) (.k (.c (.d (.bool true)))) (.t 7),none⟩,
 ⟨(some 9),.mv (.t 8),none⟩,
 ⟨(some 10),.mv (.t 0),some (9,false)⟩,
 ⟨(some 11),.index (.t 10) (.k (.c (.d (.int .i64 0)))),some (9,false)⟩,
 ⟨(some 12),.bin .geq (.t 11) (.k (.c (.d (.int .u8 65)))),some (9,false)⟩,
 ⟨(some 13),.mv (.t 12),some (9,false)⟩,
 ⟨(some 14),.mv (.t 0),some (13,true)⟩,
 ⟨(some 15),.index (.t 14) (.k (.c (.d (.int .i64 0)))),some (13,true)⟩,
 ⟨(some 16),.bin .leq (.t 15) (.k (.c (.d (.int .u8 90)))),some (13,true)⟩,
 ⟨(some 17),.pick (.t 13) (.t 16) (.k (.c (.d (.bool false)))),some (9,false)⟩,
 ⟨(some 18),.pick (.t 9) (.k (.c (.d (.bool true)))) (.t 17),none⟩,
 ⟨(some 19),.mv (.t 18),none⟩,
 ⟨(some 20),.mv (.t 0),some (19,false)⟩,
 ⟨(some 21),.index (.t 20) (.k (.c (.d (.int .i64 0)))),some (19,false)⟩,
 ⟨(some 22),.bin .eql (.t 21) (.k (.c (.d (.int .u8 91)))),some (19,false)⟩,
 ⟨(some 23),.pick (.t 19) (.k (.c (.d (.bool true)))) (.t 22),none⟩,
 ⟨(some 24),.mv (.t 23),none⟩,
 ⟨(some 25),.mv (.t 0),some (24,false)⟩,
 ⟨(some 26),.index (.t 25) (.k (.c (.d (.int .i64 0)))),some (24,false)⟩,
 ⟨(some 27),.bin .eql (.t 26) (.k (.c (.d (.int .u8 40)))),some (24,false)⟩,
 ⟨(some 28),.pick (.t 24) (.k (.c (.d (.bool true)))) (.t 27),none⟩,
 ⟨(some 2),.mv (.t 28),none⟩] [0,3,4,5,6,7,8,9,10,11,12,13,14,15,16,17,18,19,20,21,22,23,24,25,26,27,28])
 (.ret))
theorem ac98_ok : cFunc Tryz.prog [1000080,1000107] [(0,[2],[]),(1,[0,3,4,5,6,7,8,9,10,11,12,13,14,15,16,17,18,19,20,21,22,23,24,25,26,27,28],[])] Tryz.f98 = some (ac98,[.tmp 2],29) := by kernel_rfl
-- 66 loop.example/prologserver/spec.l2Left params 2 ntmps 14
def ac66 : Cd := .seq (.region [⟨(some 2),.box (.t 0),none⟩,
 ⟨(some 4),.mv (.k (.c (.d (.str [])))),none⟩] [0,4])
 (.seq (.seq (.region [⟨(some 5),.load (some 4) (.t 2),none⟩,
 ⟨(some 6),.qcall 96 [(.t 5)],none⟩] [5])
 (.cond (.t 6)
 (.seq (.region [⟨(some 7),.load (some 4) (.t 2),none⟩,
 ⟨(some 8),.qcall 39 [(.t 7)],none⟩,
 ⟨(some 9),.bin .add (.k (.c (.d (.str [40])))) (.t 8),none⟩,
 ⟨(some 10),.bin .add (.t 9) (.k (.c (.d (.str [41])))),none⟩,
 ⟨(some 4),.mv (.t 10),none⟩] [1,2,6,7,8,9,10])
 (.ret))
 (.skip)))
 (.seq (.region [⟨(some 11),.load (some 4) (.t 2),none⟩,
 ⟨(some 12),.mv (.t 1),none⟩,
 ⟨(some 13),.qcall 97 [(.t 11),(.t 12)],none⟩,
 ⟨(some 4),.mv (.t 13),none⟩] [1,2,6,11,12,13])
 (.ret)))
theorem ac66_ok : cFunc Tryz.prog [1000039,1000096,1000097] [(0,[0,4],[]),(1,[5],[]),(2,[1,2,6,7,8,9,10],[]),(3,[1,2,6,11,12,13],[])] Tryz.f66 = some (ac66,[.tmp 4],14) := by kernel_rfl
-- 68 loop.example/prologserver/spec.l2Right params 2 ntmps 20
def ac68 : Cd := .seq (.region [⟨(some 2),.box (.t 0),none⟩,
 ⟨(some 4),.mv (.k (.c (.d (.str [])))),none⟩] [0,4])
 (.seq (.region [⟨(some 6),.load (some 4) (.t 2),none⟩,
 ⟨(some 7),.mv (.t 1),none⟩,
 ⟨(some 8),.qcall 97 [(.t 6),(.t 7)],none⟩,
 ⟨(some 5),.mv (.t 8),none⟩] [1,6,7,8])
 (.seq (.seq (.region [⟨(some 9),.load (some 4) (.t 2),none⟩,
 ⟨(some 10),.qcall 96 [(.t 9)],none⟩,
 ⟨(some 11),.mv (.t 10),none⟩,
 ⟨(some 12),.mv (.t 5),some (11,false)⟩,
 ⟨(some 13),.qcall 98 [(.t 12)],some (11,false)⟩,
 ⟨(some 14),.un .not (.t 13),some (11,false)⟩,
 ⟨(some 15),.pick (.t 11) (.k (.c (.d (.bool true)))) (.t 14),none⟩] [2,9,10,11,12,13,14])
 (.cond (.t 15)
 (.seq (.region [⟨(some 16),.mv (.t 5),none⟩,
 ⟨(some 17),.bin .add (.k (.c (.d (.str [40])))) (.t 16),none⟩,
 ⟨(some 18),.bin .add (.t 17) (.k (.c (.d (.str [41])))),none⟩,
 ⟨(some 4),.mv (.t 18),none⟩] [5,15,16,17,18])
 (.ret))
 (.skip)))
 (.seq (.region [⟨(some 19),.mv (.t 5),none⟩,
 ⟨(some 4),.mv (.t 19),none⟩] [5,15,19])
 (.ret))))
theorem ac68_ok : cFunc Tryz.prog [1000096,1000097,1000098] [(0,[0,4],[]),(1,[1,6,7,8],[]),(2,[2,9,10,11,12,13,14],[]),(3,[5,15,16,17,18],[]),(4,[5,15,19],[])] Tryz.f68 = some (ac68,[.tmp 4],20) := by kernel_rfl
-- 39 loop.example/prologserver/spec.l2Text params 1 ntmps 57
def ac39 : Cd := .seq (.region [⟨(some 1),.box (.t 0),none⟩,
 ⟨(some 2),.mv (.k (.c (.d (.str [])))),none⟩] [0,2])
 (.seq (.block 0 (.seq (.region [⟨(some 6),.load (some 4) (.t 1),none⟩,
 ⟨(some 7),.qcall 63 [(.t 6)],none⟩,
 ⟨(some 5),.mv (.t 7),none⟩] [6,7])
 (.cond (.t 5)
 (.seq (.region [⟨(some 8),.load (some 4) (.t 1),none⟩,
 ⟨(some 9),.qcall 64 [(.t 8)],none⟩,
 ⟨(some 2),.mv (.t 9),none⟩] [1,5,8,9])
 (.ret))
 (.seq (.region [⟨(some 11),.load (some 4) (.t 1),none⟩,
 ⟨(some 12),.qcall 65 [(.t 11)],none⟩,
 ⟨(some 10),.mv (.t 12),none⟩] [5,11,12])
 (.cond (.t 10)
 (.seq (.region [⟨(some 13),.fieldAddr 2 (.t 1),none⟩,
 ⟨(some 14),.load none (.t 13),none⟩,
 ⟨(some 15),.qcall 47 [(.t 14)],none⟩,
 ⟨(some 3),.mv (.t 15),none⟩] [10,13,14,15])
 (.seq (.region [⟨(some 16),.mv (.t 3),none⟩,
 ⟨(some 4),.mv (.t 16),none⟩] [16])
 (.seq (.seq (.region [⟨(some 17),.mv (.t 3),none⟩,
 ⟨(some 18),.bin .eql (.t 17) (.k (.c (.d (.int .i64 3)))),none⟩] [17])
 (.cond (.t 18)
 (.region [⟨(some 4),.mv (.k (.c (.d (.int .i64 2)))),none⟩] [18])
 (.skip)))
 (.seq (.region [⟨(some 19),.fieldAddr 3 (.t 1),none⟩,
 ⟨(some 23),.mv (.t 4),none⟩,
 ⟨(some 25),.fieldAddr 2 (.t 1),none⟩,
 ⟨(some 29),.fieldAddr 3 (.t 1),none⟩,
 ⟨(some 33),.mv (.t 3),none⟩,
 ⟨(some 34),.bin .sub (.t 33) (.k (.c (.d (.int .i64 1)))),none⟩,
 ⟨(some 20),.load none (.t 19),none⟩,
 ⟨(some 21),.indexAddr 4 (.t 20) (.k (.c (.d (.int .i64 0)))),none⟩,
 ⟨(some 22),.load (some 4) (.t 21),none⟩,
 ⟨(some 24),.qcall 66 [(.t 22),(.t 23)],none⟩,
 ⟨(some 26),.load none (.t 25),none⟩,
 ⟨(some 27),.qcall 67 [(.t 26)],none⟩,
 ⟨(some 28),.bin .add (.t 24) (.t 27),none⟩,
 ⟨(some 30),.load none (.t 29),none⟩,
 ⟨(some 31),.indexAddr 4 (.t 30) (.k (.c (.d (.int .i64 1)))),none⟩,
 ⟨(some 32),.load (some 4) (.t 31),none⟩,
 ⟨(some 35),.qcall 68 [(.t 32),(.t 34)],none⟩,
 ⟨(some 36),.bin .add (.t 28) (.t 35),none⟩,
 ⟨(some 2),.mv (.t 36),none⟩] [1,3,4,18,19,20,21,22,23,24,25,26,27,28,29,30,31,32,33,34,35,36])
 (.ret)))))
 (.seq (.region [⟨(some 38),.fieldAddr 0 (.t 1),none⟩,
 ⟨(some 39),.load none (.t 38),none⟩,
 ⟨(some 40),.bin .eql (.t 39) (.k (.c (.d (.int .i64 3)))),none⟩,
 ⟨(some 41),.mv (.t 40),none⟩,
 ⟨(some 42),.fieldAddr 3 (.t 1),some (41,true)⟩,
 ⟨(some 43),.load none (.t 42),some (41,true)⟩,
 ⟨(some 44),.len 1 (.t 43),some (41,true)⟩,
 ⟨(some 45),.bin .gtr (.t 44) (.k (.c (.d (.int .i64 0)))),some (41,true)⟩,
 ⟨(some 46),.pick (.t 41) (.t 45) (.k (.c (.d (.bool false)))),none⟩,
 ⟨(some 37),.mv (.t 46),none⟩] [10,38,39,40,41,42,43,44,45,46])
 (.cond (.t 37)
 (.seq (.region [⟨(some 47),.fieldAddr 2 (.t 1),none⟩,
 ⟨(some 50),.fieldAddr 3 (.t 1),none⟩,
 ⟨(some 48),.load none (.t 47),none⟩,
 ⟨(some 49),.bin .add (.t 48) (.k (.c (.d (.str [40])))),none⟩,
 ⟨(some 51),.load none (.t 50),none⟩,
 ⟨(some 52),.qcall 69 [(.t 51)],none⟩,
 ⟨(some 53),.bin .add (.t 49) (.t 52),none⟩,
 ⟨(some 54),.bin .add (.t 53) (.k (.c (.d (.str [41])))),none⟩,
 ⟨(some 2),.mv (.t 54),none⟩] [1,37,47,48,49,50,51,52,53,54])
 (.ret))
 (.skip))))))))
 (.seq (.region [⟨(some 55),.load (some 4) (.t 1),none⟩,
 ⟨(some 56),.qcall 70 [(.t 55)],none⟩,
 ⟨(some 2),.mv (.t 56),none⟩] [1,37,55,56])
 (.ret)))
theorem ac39_ok : cFunc Tryz.prog [1000047,1000063,1000064,1000065,1000066,1000067,1000068,1000069,1000070] [(0,[0,2],[]),(1,[6,7],[]),(2,[1,5,8,9],[]),(3,[5,11,12],[]),(4,[10,13,14,15],[]),(5,[16],[]),(6,[17],[]),(7,[18],[]),(8,[1,3,4,18,19,20,21,22,23,24,25,26,27,28,29,30,31,32,33,34,35,36],[0,4,6,10,14,15,1,2,3,5,7,8,9,11,12,13,16,17,18]),(9,[10,38,39,40,41,42,43,44,45,46],[]),(10,[1,37,47,48,49,50,51,52,53,54],[0,3,1,2,4,5,6,7,8]),(11,[1,37,55,56],[])] Tryz.f39 = some (ac39,[.tmp 2],57) := by kernel_rfl
theorem u8_nat {m : Nat} (h : m < 256) : ((UInt8.ofNat m).toNat : Int) = m := by simp; omega
theorem b2s_byte {m : Nat} {K : A → St → Prop} {st : St} (h : m < 256) (hk : K (.c (.d (.str [UInt8.ofNat m]))) st) : B2SK true [[.int .u8 (m : Int)]] K st :=
  ⟨[UInt8.ofNat m], fun _ => by simp only [bytesRows, List.map_cons, List.map_nil, u8_nat h], hk⟩
theorem letter_calls (n : Nat) (h : n ≤ 25) (H : Heap) : ACalls Tryz.prog 99 [.c (.d (.int .i64 n))] H (fun r H' => H' = H ∧ r = .c (.d (.str [UInt8.ofNat (65 + n)]))) := by
  refine acalls Tryz.func99 (by kernel_rfl) ac99_ok fun hf => ?_
  have hw : IntKind.wrap .u8 (n : Int) = n := by simp [IntKind.wrap, IntKind.bits, IntKind.signed]; omega
  have hi : inR .u8 (65 + (n : Int)) := by simp [inR, IntKind.min, IntKind.max, IntKind.signed, IntKind.bits]; omega
  simp -implicitDefEqProofs [ac99, hw, hi, go_sem, -List.set_cons_succ, -List.set_cons_zero]
  have e : 65 + (n : Int) = ((65 + n : Nat) : Int) := by omega
  simp only [e]
  refine b2s_byte (by omega) ?_
  simp -implicitDefEqProofs [go_sem, -List.set_cons_succ, -List.set_cons_zero]
def infixB (t : Tm) : Bool := (decide (t.k = 3) && decide ((t.kids.length : Int) = 2)) && decide (0 < levelN t.s)
def soleB (t : Tm) : Bool := (decide (t.k = 3) && decide ((t.kids.length : Int) = 0)) && decide (0 < levelN t.s)
theorem infix_calls (t : Tm) (ht : t.fits) (H : Heap) : ACalls Tryz.prog 65 [.agg (t.row.map .d)] H (fun r H' => H' = H ∧ r = .c (.d (.bool (infixB t)))) := by
  obtain ⟨k, n, s, l⟩ := t
  obtain ⟨_, _, hs, hl, _⟩ := ht
  refine acalls Tryz.func65 (by kernel_rfl) ac65_ok fun hf => ?_
  have hli : inR .i64 (l.length : Int) := small_i64 (by omega) (by omega)
  by_cases hk : k = 3
  · by_cases h2 : l.length = 2
    · match l, h2 with
      | [a, b], _ =>
        have h22 : inR .i64 2 := small_i64 (by omega) (by omega)
        simp -implicitDefEqProofs [ac65, row_mk, hk, h22, go_sem, -List.set_cons_succ, -List.set_cons_zero]
        refine qcall_pure (level_calls s) hf rfl ?_
        simp -implicitDefEqProofs [infixB, Tm.k, Tm.kids, Tm.s, go_sem, -List.set_cons_succ, -List.set_cons_zero]
        exact decide_eq_decide.2 Iff.rfl
    · have h3 : ((l.length : Int) == 2) = false := by simpa using fun h => h2 (by omega)
      have h4 : ¬ (l.length : Int) = 2 := fun h => h2 (by omega)
      simp -implicitDefEqProofs [ac65, row_mk, hk, hli, h3, h4, infixB, Tm.k, Tm.kids, Tm.s, go_sem, -List.set_cons_succ, -List.set_cons_zero]
  · simp -implicitDefEqProofs [ac65, row_mk, hk, hli, infixB, Tm.k, Tm.kids, Tm.s, go_sem, -List.set_cons_succ, -List.set_cons_zero]
theorem sole_calls (t : Tm) (ht : t.fits) (H : Heap) : ACalls Tryz.prog 96 [.agg (t.row.map .d)] H (fun r H' => H' = H ∧ r = .c (.d (.bool (soleB t)))) := by
  obtain ⟨k, n, s, l⟩ := t
  obtain ⟨_, _, hs, hl, _⟩ := ht
  refine acalls Tryz.func96 (by kernel_rfl) ac96_ok fun hf => ?_
  have hli : inR .i64 (l.length : Int) := small_i64 (by omega) (by omega)
  by_cases hk : k = 3
  · cases l with
    | nil =>
      have h00 : inR .i64 0 := small_i64 (by omega) (by omega)
      simp -implicitDefEqProofs [ac96, row_mk, hk, h00, go_sem, -List.set_cons_succ, -List.set_cons_zero]
      refine qcall_pure (level_calls s) hf rfl ?_
      simp -implicitDefEqProofs [soleB, Tm.k, Tm.kids, Tm.s, go_sem, -List.set_cons_succ, -List.set_cons_zero]
      exact decide_eq_decide.2 Iff.rfl
    | cons a l =>
      have h3 : (((l.length : Int) + 1) == 0) = false := by simp; omega
      have h4 : ¬ (l.length : Int) + 1 = 0 := by omega
      have hl2 : inR .i64 ((l.length : Int) + 1) := by simpa using hli
      simp -implicitDefEqProofs [ac96, row_mk, hk, hl2, h3, h4, soleB, Tm.k, Tm.kids, Tm.s, go_sem, -List.set_cons_succ, -List.set_cons_zero]
  · simp -implicitDefEqProofs [ac96, row_mk, hk, hli, soleB, Tm.k, Tm.kids, Tm.s, go_sem, -List.set_cons_succ, -List.set_cons_zero]
theorem spaced_calls (s : List UInt8) (hl : 0 < levelN s) (H : Heap) : ACalls Tryz.prog 67 [.c (.d (.str s))] H (fun r H' => H' = H ∧ r = .c (.d (.str (opSp s)))) := by
  have hm : s ∈ [[61], [92, 61], [61, 61], [60], [62], [61, 60], [62, 61], [61, 58, 61], [105, 115], [43], [45], [42], [47, 47], [109, 111, 100]] := by
    unfold levelN at hl
    split at hl
    · rename_i h; simp [ops3] at h; rcases h with rfl | rfl | rfl | rfl | rfl | rfl | rfl | rfl | rfl <;> simp
    · split at hl
      · rename_i h; simp at h; rcases h with rfl | rfl <;> simp
      · split at hl
        · rename_i h; simp at h; rcases h with rfl | rfl | rfl <;> simp
        · omega
  refine acalls Tryz.func67 (by kernel_rfl) ac67_ok fun hf => ?_
  simp at hm
  rcases hm with rfl | rfl | rfl | rfl | rfl | rfl | rfl | rfl | rfl | rfl | rfl | rfl | rfl | rfl <;> simp -implicitDefEqProofs [ac67, opSp, lettersB, lowB, maxStr, go_sem, -List.set_cons_succ, -List.set_cons_zero]
/-- the text of a term is as it is said -/
def TxS (t : Tm) : Prop := ∀ H, ACalls Tryz.prog 39 [.agg (t.row.map .d)] H (fun r H' => H' = H ∧ r = .c (.d (.str t.wr)))
/-- a text, in brackets if its operator's level is above another one -/
def brk (t : Tm) (m : Int) : List UInt8 := if infixB t && decide (m < levelN t.s) then 40 :: t.wr ++ [41] else t.wr
theorem brk_len (t : Tm) (m : Int) : (brk t m).length ≤ t.wr.length + 2 := by
  unfold brk
  split <;> simp
theorem bracket_calls (t : Tm) (ht : t.fits) (hT : TxS t) (hw : t.wr.length ≤ 1000000) (m : Int) (H : Heap) : ACalls Tryz.prog 97 [.agg (t.row.map .d), .c (.d (.int .i64 m))] H (fun r H' => H' = H ∧ r = .c (.d (.str (brk t m)))) := by
  have c1 := infix_calls t ht
  unfold TxS at hT
  rw [row_eq] at c1 hT ⊢
  simp only [List.map_cons, List.map_nil] at c1 hT ⊢
  refine acalls Tryz.func97 (by kernel_rfl) ac97_ok fun hf => ?_
  simp -implicitDefEqProofs [ac97, go_sem, -List.set_cons_succ, -List.set_cons_zero]
  refine qcall_pure c1 hf rfl ?_
  cases hi : infixB t with
  | false =>
    simp -implicitDefEqProofs [go_sem, -List.set_cons_succ, -List.set_cons_zero]
    refine qcall_pure hT hf rfl ?_
    simp -implicitDefEqProofs [brk, hi, go_sem, -List.set_cons_succ, -List.set_cons_zero]
  | true =>
    simp -implicitDefEqProofs [go_sem, -List.set_cons_succ, -List.set_cons_zero]
    refine qcall_pure (level_calls t.s) hf rfl ?_
    simp -implicitDefEqProofs [go_sem, -List.set_cons_succ, -List.set_cons_zero]
    refine ⟨fun h => qcall_pure hT hf rfl ?_, fun h => qcall_pure hT hf rfl ?_⟩
    · simp -implicitDefEqProofs [brk, hi, h, maxStr, go_sem, -List.set_cons_succ, -List.set_cons_zero]
      omega
    · simp -implicitDefEqProofs [brk, hi, Int.not_lt.2 h, go_sem, -List.set_cons_succ, -List.set_cons_zero]
theorem left_calls (t : Tm) (ht : t.fits) (hT : TxS t) (hw : t.wr.length ≤ 1000000) (m : Int) (H : Heap) : ACalls Tryz.prog 66 [.agg (t.row.map .d), .c (.d (.int .i64 m))] H
    (fun r H' => H' = H ∧ r = .c (.d (.str (if soleB t then 40 :: t.wr ++ [41] else brk t m)))) := by
  have c1 := sole_calls t ht
  have c2 := bracket_calls t ht hT hw m
  unfold TxS at hT
  rw [row_eq] at c1 c2 hT ⊢
  simp only [List.map_cons, List.map_nil] at c1 c2 hT ⊢
  refine acalls Tryz.func66 (by kernel_rfl) ac66_ok fun hf => ?_
  simp -implicitDefEqProofs [ac66, go_sem, -List.set_cons_succ, -List.set_cons_zero]
  refine qcall_pure c1 hf rfl ?_
  cases hi : soleB t with
  | false =>
    simp -implicitDefEqProofs [go_sem, -List.set_cons_succ, -List.set_cons_zero]
    refine qcall_pure c2 hf rfl ?_
    simp -implicitDefEqProofs [go_sem, -List.set_cons_succ, -List.set_cons_zero]
  | true =>
    simp -implicitDefEqProofs [go_sem, -List.set_cons_succ, -List.set_cons_zero]
    refine qcall_pure hT hf rfl ?_
    simp -implicitDefEqProofs [maxStr, go_sem, -List.set_cons_succ, -List.set_cons_zero]
    omega
theorem byte_off {s : List UInt8} {i : Int} (b : UInt8) {K : A → St → Prop} {st : St} (hk : K (.c (.d (.int .u8 b.toNat))) st) : ByteK false s i K st := ⟨b, fun h => (by cases h), hk⟩
theorem small_at (b : UInt8) (r : List UInt8) (hl : r.length ≤ 4000000) (H : Heap) : ACalls Tryz.prog 107 [.c (.d (.str (b :: r))), .c (.d (.int .i64 0))] H (fun r H' => H' = H ∧ r = .c (.d (.bool (decide (97 ≤ b.toNat ∧ b.toNat ≤ 122))))) := by
  refine acalls Tryz.func107 (by kernel_rfl) ac107_ok fun hf => ?_
  have hli : inR .i64 ((r.length : Int) + 1) := small_i64 (by omega) (by omega)
  have hp : (0 : Int) < (r.length : Int) + 1 := by omega
  simp -implicitDefEqProofs [ac107, hli, hp, go_sem, -List.set_cons_succ, -List.set_cons_zero]
  refine byte_int b (by omega) (by simp) ?_
  by_cases h1 : (97 : Int) ≤ b.toNat
  · have h1' : 97 ≤ b.toNat := by omega
    simp -implicitDefEqProofs [h1, h1', go_sem, -List.set_cons_succ, -List.set_cons_zero]
    refine byte_int b (by omega) (by simp) ?_
    simp -implicitDefEqProofs [h1', go_sem, -List.set_cons_succ, -List.set_cons_zero]
    omega
  · have h1' : ¬ 97 ≤ b.toNat := by omega
    simp -implicitDefEqProofs [h1, h1', go_sem, -List.set_cons_succ, -List.set_cons_zero]
    refine byte_off b ?_
    simp -implicitDefEqProofs [h1', go_sem, -List.set_cons_succ, -List.set_cons_zero]
theorem digit_at (b : UInt8) (r : List UInt8) (hl : r.length ≤ 4000000) (H : Heap) : ACalls Tryz.prog 80 [.c (.d (.str (b :: r))), .c (.d (.int .i64 0))] H (fun r H' => H' = H ∧ r = .c (.d (.bool (decide (48 ≤ b.toNat ∧ b.toNat ≤ 57))))) := by
  refine acalls Tryz.func80 (by kernel_rfl) ac80_ok fun hf => ?_
  have hli : inR .i64 ((r.length : Int) + 1) := small_i64 (by omega) (by omega)
  have hp : (0 : Int) < (r.length : Int) + 1 := by omega
  simp -implicitDefEqProofs [ac80, hli, hp, go_sem, -List.set_cons_succ, -List.set_cons_zero]
  refine byte_int b (by omega) (by simp) ?_
  by_cases h1 : (48 : Int) ≤ b.toNat
  · have h1' : 48 ≤ b.toNat := by omega
    simp -implicitDefEqProofs [h1, h1', go_sem, -List.set_cons_succ, -List.set_cons_zero]
    refine byte_int b (by omega) (by simp) ?_
    simp -implicitDefEqProofs [h1', go_sem, -List.set_cons_succ, -List.set_cons_zero]
    omega
  · have h1' : ¬ 48 ≤ b.toNat := by omega
    simp -implicitDefEqProofs [h1, h1', go_sem, -List.set_cons_succ, -List.set_cons_zero]
    refine byte_off b ?_
    simp -implicitDefEqProofs [h1', go_sem, -List.set_cons_succ, -List.set_cons_zero]
theorem plain_calls (b : UInt8) (r : List UInt8) (hl : r.length ≤ 4000000) (H : Heap) : ACalls Tryz.prog 98 [.c (.d (.str (b :: r)))] H (fun r' H' => H' = H ∧ r' = .c (.d (.bool (plainC b)))) := by
  refine acalls Tryz.func98 (by kernel_rfl) ac98_ok fun hf => ?_
  simp -implicitDefEqProofs [ac98, go_sem, -List.set_cons_succ, -List.set_cons_zero]
  refine qcall_pure (small_at b r hl) hf rfl ?_
  have on : ∀ {K : A → St → Prop} {st : St}, K (.c (.d (.int .u8 b.toNat))) st → ByteK true (b :: r) 0 K st := fun hk => byte_int b (by omega) (by simp) hk
  by_cases h1 : 97 ≤ b.toNat ∧ b.toNat ≤ 122
  · have hp : plainC b = true := by simp [plainC, h1]
    simp -implicitDefEqProofs [h1, hp, go_sem, -List.set_cons_succ, -List.set_cons_zero]
    refine byte_off b ?_
    simp -implicitDefEqProofs [go_sem, -List.set_cons_succ, -List.set_cons_zero]
    refine byte_off b ?_
    simp -implicitDefEqProofs [go_sem, -List.set_cons_succ, -List.set_cons_zero]
    refine byte_off b ?_
    simp -implicitDefEqProofs [go_sem, -List.set_cons_succ, -List.set_cons_zero]
    refine byte_off b ?_
    simp -implicitDefEqProofs [go_sem, -List.set_cons_succ, -List.set_cons_zero]
  · simp -implicitDefEqProofs [h1, go_sem, -List.set_cons_succ, -List.set_cons_zero]
    refine qcall_pure (digit_at b r hl) hf rfl ?_
    by_cases h2 : 48 ≤ b.toNat ∧ b.toNat ≤ 57
    · have hp : plainC b = true := by simp [plainC, h2]
      simp -implicitDefEqProofs [h2, hp, go_sem, -List.set_cons_succ, -List.set_cons_zero]
      refine byte_off b ?_
      simp -implicitDefEqProofs [go_sem, -List.set_cons_succ, -List.set_cons_zero]
      refine byte_off b ?_
      simp -implicitDefEqProofs [go_sem, -List.set_cons_succ, -List.set_cons_zero]
      refine byte_off b ?_
      simp -implicitDefEqProofs [go_sem, -List.set_cons_succ, -List.set_cons_zero]
      refine byte_off b ?_
      simp -implicitDefEqProofs [go_sem, -List.set_cons_succ, -List.set_cons_zero]
    · simp -implicitDefEqProofs [h2, go_sem, -List.set_cons_succ, -List.set_cons_zero]
      refine on ?_
      by_cases h3 : (65 : Int) ≤ b.toNat
      · simp -implicitDefEqProofs [h3, go_sem, -List.set_cons_succ, -List.set_cons_zero]
        refine on ?_
        by_cases h4 : (b.toNat : Int) ≤ 90
        · have hp : plainC b = true := by
            have : 65 ≤ b.toNat ∧ b.toNat ≤ 90 := by omega
            simp [plainC, this]
          simp -implicitDefEqProofs [h4, hp, go_sem, -List.set_cons_succ, -List.set_cons_zero]
          refine byte_off b ?_
          simp -implicitDefEqProofs [go_sem, -List.set_cons_succ, -List.set_cons_zero]
          refine byte_off b ?_
          simp -implicitDefEqProofs [go_sem, -List.set_cons_succ, -List.set_cons_zero]
        · simp -implicitDefEqProofs [h4, go_sem, -List.set_cons_succ, -List.set_cons_zero]
          refine on ?_
          by_cases h5 : (b.toNat : Int) = 91
          · have h6 : b = 91 := UInt8.toNat_inj.1 (by simp; omega)
            have hp : plainC b = true := by simp [plainC, h6]
            simp -implicitDefEqProofs [h5, hp, go_sem, -List.set_cons_succ, -List.set_cons_zero]
            refine byte_off b ?_
            simp -implicitDefEqProofs [go_sem, -List.set_cons_succ, -List.set_cons_zero]
          · have h6 : b ≠ 91 := fun h => h5 (by rw [h]; rfl)
            have hp : plainC b = decide ((b.toNat : Int) = 40) := by
              have h7 : ¬ (65 ≤ b.toNat ∧ b.toNat ≤ 90) := by omega
              have h8 : (b = 40) ↔ ((b.toNat : Int) = 40) := ⟨fun h => by rw [h]; rfl, fun h => UInt8.toNat_inj.1 (by simp; omega)⟩
              simp [plainC, h1, h2, h6, h7, beq_dec, h8]
            have h9 : ((b.toNat : Int) == 91) = false := by simpa using h5
            simp -implicitDefEqProofs [h5, h9, hp, go_sem, -List.set_cons_succ, -List.set_cons_zero]
            refine on ?_
            simp -implicitDefEqProofs [go_sem, -List.set_cons_succ, -List.set_cons_zero]
            try (simp [beq_dec]; done)
      · simp -implicitDefEqProofs [h3, go_sem, -List.set_cons_succ, -List.set_cons_zero]
        refine byte_off b ?_
        simp -implicitDefEqProofs [go_sem, -List.set_cons_succ, -List.set_cons_zero]
        refine on ?_
        by_cases h5 : (b.toNat : Int) = 91
        · have h6 : b = 91 := UInt8.toNat_inj.1 (by simp; omega)
          have hp : plainC b = true := by simp [plainC, h6]
          simp -implicitDefEqProofs [h5, hp, go_sem, -List.set_cons_succ, -List.set_cons_zero]
          refine byte_off b ?_
          simp -implicitDefEqProofs [go_sem, -List.set_cons_succ, -List.set_cons_zero]
        · have h6 : b ≠ 91 := fun h => h5 (by rw [h]; rfl)
          have hp : plainC b = decide ((b.toNat : Int) = 40) := by
            have h7 : ¬ (65 ≤ b.toNat ∧ b.toNat ≤ 90) := by omega
            have h8 : (b = 40) ↔ ((b.toNat : Int) = 40) := ⟨fun h => by rw [h]; rfl, fun h => UInt8.toNat_inj.1 (by simp; omega)⟩
            simp [plainC, h1, h2, h6, h7, beq_dec, h8]
          have h9 : ((b.toNat : Int) == 91) = false := by simpa using h5
          simp -implicitDefEqProofs [h5, h9, hp, go_sem, -List.set_cons_succ, -List.set_cons_zero]
          refine on ?_
          simp -implicitDefEqProofs [go_sem, -List.set_cons_succ, -List.set_cons_zero]
          try (simp [beq_dec]; done)
theorem right_calls (t : Tm) (ht : t.fits) (hT : TxS t) (hne : t.wr ≠ []) (hw : t.wr.length ≤ 1000000) (m : Int) (H : Heap) : ACalls Tryz.prog 68 [.agg (t.row.map .d), .c (.d (.int .i64 m))] H
    (fun r H' => H' = H ∧ r = .c (.d (.str (if soleB t || !plainC ((brk t m).headD 0) then 40 :: brk t m ++ [41] else brk t m)))) := by
  have c1 := sole_calls t ht
  have c2 := bracket_calls t ht hT hw m
  have hl := brk_len t m
  have hbne : brk t m ≠ [] := by
    unfold brk
    split
    · simp
    · exact hne
  rw [row_eq] at c1 c2 ⊢
  simp only [List.map_cons, List.map_nil] at c1 c2 ⊢
  refine acalls Tryz.func68 (by kernel_rfl) ac68_ok fun hf => ?_
  simp -implicitDefEqProofs [ac68, go_sem, -List.set_cons_succ, -List.set_cons_zero]
  refine qcall_pure c2 hf rfl ?_
  generalize brk t m = w at hl hbne ⊢
  obtain ⟨b, r, rfl⟩ : ∃ b r, w = b :: r := by
    cases w with
    | nil => exact absurd rfl hbne
    | cons b r => exact ⟨b, r, rfl⟩
  simp at hl
  simp -implicitDefEqProofs [go_sem, -List.set_cons_succ, -List.set_cons_zero]
  refine qcall_pure c1 hf rfl ?_
  cases hi : soleB t with
  | true =>
    simp -implicitDefEqProofs [maxStr, go_sem, -List.set_cons_succ, -List.set_cons_zero]
    omega
  | false =>
    simp -implicitDefEqProofs [go_sem, -List.set_cons_succ, -List.set_cons_zero]
    refine qcall_pure (plain_calls b r (by omega)) hf rfl ?_
    cases hp : plainC b <;> simp -implicitDefEqProofs [maxStr, go_sem, -List.set_cons_succ, -List.set_cons_zero]
    omega
theorem joinS_take (l : List Tm) (h : ∀ t ∈ l, t.wr.length ≤ 1000000) {i : Nat} (hi : i ≤ l.length) : (joinS 44 ((l.map Tm.wr).take i)).length ≤ 1000001 * i := by
  refine Nat.le_trans (joinS_len 44 _) ?_
  rw [← List.map_take]
  have : ∀ q : List Tm, (∀ t ∈ q, t.wr.length ≤ 1000000) → ((q.map Tm.wr).map fun x => x.length + 1).sum ≤ 1000001 * q.length := by
    intro q
    induction q with
    | nil => intro _; simp
    | cons a q ih =>
      intro h
      have h1 := h a (by simp)
      have h2 := ih fun t ht => h t (by simp [ht])
      simp at h2 ⊢
      omega
  have h3 := this (l.take i) fun t ht => h t (List.mem_of_mem_take ht)
  simpa [Nat.min_eq_left hi] using h3
theorem wargs_calls (l : List Tm) (hl : l.length ≤ 1048576) (hT : ∀ t ∈ l, TxS t ∧ t.wr.length ≤ 1000000) (H : Heap) : ACalls Tryz.prog 69 [.c (.d (.sl (l.map Tm.row)))] H (fun r H' => H' = H ∧ r = .c (.d (.str (joinS 44 (l.map Tm.wr))))) := by
  refine acalls Tryz.func69 (by kernel_rfl) ac69_ok fun hf => ?_
  have hli : inR .i64 (l.length : Int) := small_i64 (by omega) (by omega)
  simp -implicitDefEqProofs [ac69, hli, go_sem, -List.set_cons_succ, -List.set_cons_zero]
  refine loop_set (σ := Nat) (fun i => [(4, .c (.d (.int .i64 i))), (3, .c (.d (.str (joinS 44 ((l.map Tm.wr).take i)))))]) (fun _ => H) (fun _ => []) (fun i => i ≤ l.length) (fun i => l.length - i) 0 rfl (Nat.zero_le _) ?_
  intro i hi
  have hb : (joinS 44 ((l.map Tm.wr).take i)).length ≤ 1000001 * i := joinS_take l (fun t ht => (hT t ht).2) hi
  simp -implicitDefEqProofs [setAll, hli, go_sem, -List.set_cons_succ, -List.set_cons_zero]
  refine ⟨fun hlt => ?_, fun hge => by rw [List.take_of_length_le (by simpa using hge)]⟩
  have hadd : inR .i64 ((i : Int) + 1) := small_i64 (by omega) (by omega)
  have hnext : joinS 44 ((l.map Tm.wr).take (i + 1)) = if (l.map Tm.wr).take i = [] then l[i].wr else joinS 44 ((l.map Tm.wr).take i) ++ 44 :: l[i].wr := by
    rw [List.take_succ_eq_append_getElem (by simpa using hlt), joinS_snoc]
    simp
  have hwi := (hT l[i] (List.getElem_mem hlt)).2
  have hTi := (hT l[i] (List.getElem_mem hlt)).1
  refine ⟨fun hp => ⟨by unfold maxStr; omega, row_of hlt (row_len _) ?_⟩, fun h0 => row_of hlt (row_len _) ?_⟩
  · have hne : ¬ (l.map Tm.wr).take i = [] := by
      intro h
      have := congrArg List.length h
      rw [List.length_take, List.length_map] at this
      simp only [List.length_nil] at this
      omega
    rw [if_neg hne] at hnext
    simp -implicitDefEqProofs [row_len, take_row, pure_d, re_d, go_sem, -List.set_cons_succ, -List.set_cons_zero]
    refine qcall_pure hTi hf rfl ?_
    simp -implicitDefEqProofs [hadd, maxStr, go_sem, -List.set_cons_succ, -List.set_cons_zero]
    refine ⟨by omega, ?_⟩
    exact loop_back (i + 1) (by simp [setAll, hnext]) hlt (by show l.length - (i + 1) < l.length - i; omega)
  · subst h0
    simp at hnext
    simp -implicitDefEqProofs [row_len, take_row, pure_d, re_d, go_sem, -List.set_cons_succ, -List.set_cons_zero]
    refine qcall_pure hTi hf rfl ?_
    simp -implicitDefEqProofs [hadd, maxStr, joinS, go_sem, -List.set_cons_succ, -List.set_cons_zero]
    refine ⟨by omega, by simpa using hadd, ?_⟩
    exact loop_back 1 (by simp [setAll, hnext]) hlt (by show l.length - 1 < l.length - 0; omega)
theorem leaf_calls (t : Tm) (ht : t.fits) (hg : t.good) (hk : t.kids = []) (H : Heap) : ACalls Tryz.prog 70 [.agg (t.row.map .d)] H (fun r H' => H' = H ∧ r = .c (.d (.str t.wr))) := by
  obtain ⟨k, n, s, l⟩ := t
  obtain rfl : l = [] := hk
  obtain ⟨ho, _⟩ := hg
  have hpair := pairSpec_calls _ ht
  obtain ⟨hk1, hn1, hs, hl, _⟩ := ht
  refine acalls Tryz.func70 (by kernel_rfl) ac70_ok fun hf => ?_
  have h00 : inR .i64 0 := small_i64 (by omega) (by omega)
  rcases own_cases ho with ⟨rfl, n0, n1, rfl, _⟩ | ⟨rfl, n0, n1, rfl, _⟩ | ⟨rfl, rfl, hs2, _⟩
  · obtain ⟨m, rfl⟩ := Int.eq_ofNat_of_zero_le n0
    simp -implicitDefEqProofs [ac70, row_mk, go_sem, -List.set_cons_succ, -List.set_cons_zero]
    refine qcall_pure (letter_calls m (by omega)) hf rfl ?_
    simp -implicitDefEqProofs [Tm.wr, wrNode, go_sem, -List.set_cons_succ, -List.set_cons_zero]
  · simp -implicitDefEqProofs [ac70, row_mk, go_sem, -List.set_cons_succ, -List.set_cons_zero]
    refine qcall_pure (dec1_calls n (by omega) (by omega)) hf rfl ?_
    simp -implicitDefEqProofs [Tm.wr, wrNode, go_sem, -List.set_cons_succ, -List.set_cons_zero]
  · simp [row_mk] at hpair
    simp -implicitDefEqProofs [ac70, row_mk, go_sem, -List.set_cons_succ, -List.set_cons_zero]
    refine qcall_pure hpair hf rfl ?_
    have hpb : (Tm.mk 3 0 s []).pairB = false := by simp [Tm.pairB, Tm.kids]
    simp -implicitDefEqProofs [hpb, go_sem, -List.set_cons_succ, -List.set_cons_zero]
    refine loop_set (σ := Unit) (fun _ => []) (fun _ => H) (fun _ => [_]) (fun _ => True) (fun _ => 0) () rfl trivial ?_
    rintro ⟨⟩ _
    simp -implicitDefEqProofs [setAll, h00, go_sem, -List.set_cons_succ, -List.set_cons_zero]
    simp [Tm.wr, wrNode]
end Go.Proofs.YtgfmlifkhpjplaaGreatDoor

/-
  Lists and terms as the reference writes them.
  Conditions: none.
-/
open Go Go.AM Go.Proofs
namespace Go.Proofs.YtgfmlifkhpjplaaGreatDoor
open Go.ChangeShapes Go.WideShapes Go.ChangeAt Go.RowKit
set_option linter.unusedVariables false
set_option linter.unusedSimpArgs false
set_option maxRecDepth 100000
theorem pair_inv {t : Tm} (h : t.pairB = true) : ∃ n a b, t = .mk 3 n [46] [a, b] := by
  obtain ⟨k, n, s, l⟩ := t
  simp only [Tm.pairB, Tm.k, Tm.s, Tm.kids, Bool.and_eq_true, decide_eq_true_eq, beq_iff_eq] at h
  obtain ⟨⟨hk, rfl⟩, hl⟩ := h
  obtain rfl : k = 3 := of_decide_eq_true hk
  have hl : (l.length : Int) = 2 := of_decide_eq_true hl
  match l, show l.length = 2 by omega with
  | [a, b], _ => exact ⟨n, a, b, rfl⟩
theorem pair_wrt (n : Int) (a b : Tm) : (Tm.mk 3 n [46] [a, b]).wrt = 44 :: a.wr ++ b.wrt := by
  rw [Tm.wrt, wrs_map, wrts_map]
  simp
theorem pair_wr (n : Int) (a b : Tm) : (Tm.mk 3 n [46] [a, b]).wr = 91 :: (a.wr ++ b.wrt) ++ [93] := by
  rw [Tm.wr, wrs_map, wrts_map]
  simp [wrNode]
theorem end_wrt {t : Tm} (h : t.pairB = false) : t.wrt = if t.nilB then [] else 124 :: t.wr := by
  obtain ⟨k, n, s, l⟩ := t
  rw [Tm.wrt, Tm.wr]
  have h1 : ¬ (k = 3 ∧ s = [46] ∧ l.length = 2) := by
    rintro ⟨rfl, rfl, h2⟩
    have h3 : (l.length : Int) = 2 := by omega
    simp [Tm.pairB, Tm.k, Tm.s, Tm.kids, h3] at h
  rw [if_neg h1]
  by_cases h2 : k = 3 ∧ s = [91, 93] ∧ l = []
  · obtain ⟨rfl, rfl, rfl⟩ := h2
    simp [Tm.nilB, Tm.k, Tm.kids, Tm.s]
  · have h3 : (Tm.mk k n s l).nilB = false := by
      cases hb : (Tm.mk k n s l).nilB with
      | false => rfl
      | true =>
        simp only [Tm.nilB, Tm.k, Tm.kids, Tm.s, Bool.and_eq_true, decide_eq_true_eq, beq_iff_eq, List.isEmpty_iff] at hb
        exact absurd ⟨of_decide_eq_true hb.1.1, hb.2, hb.1.2⟩ h2
    rw [if_neg h2, h3]
    rfl
/-- a term that the writers meet -/
structure Tm.ok (t : Tm) : Prop where
  fits : t.fits
  good : t.good
  size : t.size ≤ 300
theorem Tm.ok.len {t : Tm} (h : t.ok) : t.wr.length ≤ 6000 ∧ t.wrt.length ≤ 6001 ∧ t.wr ≠ [] := by
  have := wr_len t h.good
  have := h.size
  exact ⟨by omega, by omega, (wr_len t h.good).2⟩
theorem Tm.ok.kid {k n : Int} {s : List UInt8} {l : List Tm} (h : (Tm.mk k n s l).ok) {u : Tm} (hu : u ∈ l) : u.ok ∧ u.size < (Tm.mk k n s l).size := by
  obtain ⟨h1, h2, h3⟩ := h
  have h4 := sizes_mem hu
  rw [Tm.size] at h3 ⊢
  cases h1 with
  | mk _ _ _ _ hk => cases h2 with
    | mk _ hg => exact ⟨⟨hk u hu, hg u hu, by omega⟩, by omega⟩
theorem list_calls (t : Tm) (ht : t.ok) (hp : t.pairB = true) (hT : ∀ u : Tm, u.ok → u.size < t.size → TxS u) (H : Heap) : ACalls Tryz.prog 64 [.agg (t.row.map .d)] H (fun r H' => H' = H ∧ r = .c (.d (.str t.wr))) := by
  refine acalls Tryz.func64 (by kernel_rfl) ac64_ok fun hf => ?_
  simp -implicitDefEqProofs [ac64, row_len, take_row, go_sem, -List.set_cons_succ, -List.set_cons_zero]
  refine loop_enter (St.le_token 3 4 rfl) ?_
  refine loop_set (σ := List Tm × Tm) (fun x => [(3, .c (.own (.l 1) x.1.length (x.1.map Tm.row)))]) (fun _ => H) (fun x => [.cells (x.2.row.map .d), .grow x.1.length 4])
    (fun x => x.2.ok ∧ x.1.length + x.2.size ≤ t.size ∧ (∀ u ∈ x.1, u.ok ∧ u.size < t.size) ∧ ((x.1 = [] ∧ x.2 = t) ∨ (x.1 ≠ [] ∧ t.wr = 91 :: (joinS 44 (x.1.map Tm.wr) ++ x.2.wrt) ++ [93]))) (fun x => x.2.size) ([], t) rfl ⟨ht, by simp, by simp, .inl ⟨rfl, rfl⟩⟩ ?_
  rintro ⟨l, c⟩ ⟨hc, hsz, hl, hw⟩
  simp only at hc hsz hl hw
  have hts := ht.size
  simp -implicitDefEqProofs [setAll, row_len, take_row, pure_d, re_d, go_sem, -List.set_cons_succ, -List.set_cons_zero]
  refine qcall_pure (pairSpec_calls c hc.fits) hf rfl ?_
  cases hcp : c.pairB with
  | true =>
    obtain ⟨n, a, b, rfl⟩ := pair_inv hcp
    simp -implicitDefEqProofs [row_mk, go_sem, -List.set_cons_succ, -List.set_cons_zero]
    have ha := hc.kid (u := a) (by simp)
    have hb := hc.kid (u := b) (by simp)
    have hct : (Tm.mk 3 n [46] [a, b]).size ≤ t.size := by omega
    have hcs : (Tm.mk 3 n [46] [a, b]).size = 1 + a.size + b.size := by simp [Tm.size, sizes]; omega
    refine row_int a.row (by omega) rfl (row_len _) ?_
    simp -implicitDefEqProofs [row_len, take_row, pure_d, re_d, toDs_map, hf, go_sem, -List.set_cons_succ, -List.set_cons_zero]
    refine ⟨allLen_map row_len, by unfold maxApp; omega, row_int b.row (by omega) rfl (row_len _) ?_⟩
    simp -implicitDefEqProofs [row_len, take_row, pure_d, re_d, toDs_map, hf, go_sem, -List.set_cons_succ, -List.set_cons_zero]
    refine loop_back (l ++ [a], b) (by simp [setAll]) ⟨hb.1, by simp; omega, fun u hu => ?_, .inr ⟨by simp, ?_⟩⟩ (by show b.size < (Tm.mk 3 n [46] [a, b]).size; omega)
    · rcases List.mem_append.1 hu with hu | hu
      · exact hl u hu
      · rw [List.mem_singleton.1 hu]
        exact ⟨ha.1, by omega⟩
    · simp only [List.map_append, List.map_cons, List.map_nil]
      rw [joinS_snoc]
      rcases hw with ⟨rfl, rfl⟩ | ⟨hne, hw⟩
      · rw [pair_wr]
        simp
      · rw [hw, pair_wrt, if_neg (by simpa using hne)]
        simp
  | false =>
    have hlen : (joinS 44 (l.map Tm.wr)).length ≤ 1000001 * l.length := by
      have := joinS_take l (fun u hu => by have := (hl u hu).1.len; omega) (Nat.le_refl _)
      rwa [List.take_of_length_le (by simp)] at this
    have hne : l ≠ [] := by
      rintro rfl
      rcases hw with ⟨_, rfl⟩ | ⟨h, _⟩
      · rw [hp] at hcp; cases hcp
      · exact h rfl
    obtain ⟨_, hw⟩ : l ≠ [] ∧ t.wr = 91 :: (joinS 44 (l.map Tm.wr) ++ c.wrt) ++ [93] := by
      rcases hw with ⟨h, _⟩ | h
      · exact absurd h hne
      · exact h
    have hlt : c.size < t.size := by
      have : 0 < l.length := List.length_pos_iff.2 hne
      omega
    have hargs := wargs_calls l (by omega) (fun u hu => ⟨hT u (hl u hu).1 (hl u hu).2, by have := (hl u hu).1.len; omega⟩)
    rw [end_wrt hcp] at hw
    have hcl := hc.len
    simp -implicitDefEqProofs [row_len, take_row, pure_d, re_d, go_sem, -List.set_cons_succ, -List.set_cons_zero]
    refine qcall_pure (nilSpec_calls c hc.fits) hf rfl ?_
    cases hn : c.nilB with
    | true =>
      rw [hn] at hw
      simp -implicitDefEqProofs [go_sem, -List.set_cons_succ, -List.set_cons_zero]
      refine qcall_pure hargs hf rfl ?_
      simp -implicitDefEqProofs [hw, maxStr, go_sem, -List.set_cons_succ, -List.set_cons_zero]
      omega
    | false =>
      rw [hn] at hw
      simp -implicitDefEqProofs [go_sem, -List.set_cons_succ, -List.set_cons_zero]
      refine qcall_pure hargs hf rfl ?_
      simp -implicitDefEqProofs [maxStr, row_len, take_row, pure_d, re_d, go_sem, -List.set_cons_succ, -List.set_cons_zero]
      refine ⟨by omega, by omega, qcall_pure (hT c hc hlt) hf rfl ?_⟩
      simp -implicitDefEqProofs [hw, maxStr, go_sem, -List.set_cons_succ, -List.set_cons_zero]
      omega
theorem sole_eq (t : Tm) : soleB t = (t.atomB && decide (0 < levelN t.s)) := by
  have : decide ((t.kids.length : Int) = 0) = t.kids.isEmpty := by cases t.kids <;> simp; omega
  simp only [soleB, Tm.atomB, this]
theorem infix_lv (t : Tm) {m : Int} (hm : 0 ≤ m) (hk : t.kids.length = 2 → t.k = 3) : (infixB t && decide (m < levelN t.s)) = decide (m < t.lv) := by
  unfold infixB Tm.lv
  by_cases h2 : t.kids.length = 2
  · have h3 := hk h2
    have h4 : (t.kids.length : Int) = 2 := by omega
    rw [if_pos h2, Bool.eq_iff_iff]
    simp only [Bool.and_eq_true, decide_eq_true_iff]
    exact ⟨fun h => h.2, fun h => ⟨⟨⟨h3, h4⟩, by omega⟩, h⟩⟩
  · have h4 : ¬ (t.kids.length : Int) = 2 := by omega
    rw [if_neg h2, Bool.eq_iff_iff]
    simp only [Bool.and_eq_true, decide_eq_true_iff]
    exact ⟨fun h => absurd h.1.1.2 h4, fun h => by omega⟩
theorem brk_opnd_left (t : Tm) {m : Int} (hm : 0 ≤ m) (hk : t.kids.length = 2 → t.k = 3) : (if soleB t then 40 :: t.wr ++ [41] else brk t m) = opnd t t.wr m false := by
  unfold brk opnd
  rw [infix_lv t hm hk, sole_eq]
  cases (t.atomB && decide (0 < levelN t.s)) <;> cases decide (m < t.lv) <;> rfl
theorem plain_40 : plainC 40 = true := by decide
theorem sole_not_infix {t : Tm} (h : soleB t = true) : infixB t = false := by
  cases hi : infixB t with
  | false => rfl
  | true =>
    simp only [soleB, infixB, Bool.and_eq_true, decide_eq_true_iff] at h hi
    omega
theorem brk_opnd_right (t : Tm) {m : Int} (hm : 0 ≤ m) (hk : t.kids.length = 2 → t.k = 3) : (if soleB t || !plainC ((brk t m).headD 0) then 40 :: brk t m ++ [41] else brk t m) = opnd t t.wr m true := by
  have h1 : brk t m = if decide (m < t.lv) then 40 :: t.wr ++ [41] else t.wr := by
    unfold brk
    rw [infix_lv t hm hk]
  have h2 : soleB t = true → decide (m < t.lv) = false := fun h => by
    rw [← infix_lv t hm hk, sole_not_infix h]
    rfl
  unfold opnd
  rw [← sole_eq, h1]
  cases hs : soleB t with
  | true =>
    rw [h2 hs]
    rfl
  | false =>
    cases decide (m < t.lv) with
    | true => simp [plain_40]
    | false => simp
theorem lv_range {s : List UInt8} (h : 0 < levelN s) : (levelN s = 1 ∨ levelN s = 2 ∨ levelN s = 3) ∧ (levelN s = 3 → leftMost s = 2) ∧ (levelN s ≠ 3 → leftMost s = levelN s) := by
  have h1 : levelN s = 1 ∨ levelN s = 2 ∨ levelN s = 3 := by
    unfold levelN at h ⊢
    split
    · simp
    · split
      · simp
      · split
        · simp
        · rename_i a b c; rw [if_neg a, if_neg b, if_neg c] at h; omega
  refine ⟨h1, fun h3 => ?_, fun h3 => ?_⟩
  · simp [leftMost, leftB, h3]
  · rcases h1 with h1 | h1 | h1
    · simp [leftMost, leftB, h1]
    · simp [leftMost, leftB, h1]
    · exact absurd h1 h3
theorem text_calls : ∀ (N : Nat) (t : Tm), t.size ≤ N → t.ok → TxS t := by
  intro N
  induction N with
  | zero =>
    intro t h
    obtain ⟨k, n, s, l⟩ := t
    rw [Tm.size] at h
    omega
  | succ N ih =>
    intro t hN ht H
    have hT : ∀ u : Tm, u.ok → u.size < t.size → TxS u := fun u hu h => ih u (by omega) hu
    have c1 := pairSpec_calls t ht.fits
    have c2 := infix_calls t ht.fits
    refine acalls Tryz.func39 (by kernel_rfl) ac39_ok fun hf => ?_
    simp -implicitDefEqProofs [ac39, row_len, take_row, pure_d, re_d, go_sem, -List.set_cons_succ, -List.set_cons_zero]
    refine qcall_pure c1 hf rfl ?_
    cases hp : t.pairB with
    | true =>
      simp -implicitDefEqProofs [row_len, take_row, pure_d, re_d, go_sem, -List.set_cons_succ, -List.set_cons_zero]
      refine qcall_pure (list_calls t ht hp hT) hf rfl ?_
      simp -implicitDefEqProofs [go_sem, -List.set_cons_succ, -List.set_cons_zero]
    | false =>
      simp -implicitDefEqProofs [row_len, take_row, pure_d, re_d, go_sem, -List.set_cons_succ, -List.set_cons_zero]
      refine qcall_pure c2 hf rfl ?_
      cases hi : infixB t with
      | true =>
        obtain ⟨k, n, s, l⟩ := t
        have hi2 := hi
        simp only [infixB, Tm.k, Tm.kids, Tm.s, Bool.and_eq_true, decide_eq_true_iff] at hi2
        obtain ⟨⟨hk3, hl2⟩, hlv⟩ := hi2
        obtain rfl : k = 3 := of_decide_eq_true hk3
        have hl2 : (l.length : Int) = 2 := of_decide_eq_true hl2
        have hlp : 0 < levelN s := of_decide_eq_true hlv
        clear hlv
        match l, show l.length = 2 by omega, ht, hT, hp with
        | [a, b], _, ht, hT, hp =>
          have ha := ht.kid (u := a) (by simp)
          have hb := ht.kid (u := b) (by simp)
          have hal := ha.1.len
          have hbl := hb.1.len
          obtain ⟨hr1, hr2, hr3⟩ := lv_range hlp
          have hsl : s.length ≤ 1048576 := by
            cases ht.fits with
            | mk _ _ h3 _ _ => exact h3
          have hsub : inR .i64 (levelN s - 1) := small_i64 (by omega) (by omega)
          simp -implicitDefEqProofs [row_mk, go_sem, -List.set_cons_succ, -List.set_cons_zero]
          refine qcall_pure (level_calls s) hf rfl ?_
          have hk2 : ∀ u : Tm, u.ok → u.kids.length = 2 → u.k = 3 := fun u hu h => by
            obtain ⟨k, n, s, l⟩ := u
            have hg := hu.good
            cases hg with
            | mk ho _ =>
              rcases own_cases ho with ⟨_, _, _, _, rfl⟩ | ⟨_, _, _, _, rfl⟩ | ⟨h3, _⟩
              · simp [Tm.kids] at h
              · simp [Tm.kids] at h
              · exact h3
          have hm0 : 0 ≤ leftMost s := by
            by_cases h3 : levelN s = 3
            · rw [hr2 h3]; omega
            · rw [hr3 h3]; omega
          have cl := left_calls a ha.1.fits (hT a ha.1 ha.2) (by omega) (leftMost s)
          have cr := right_calls b hb.1.fits (hT b hb.1 hb.2) hbl.2.2 (by omega) (levelN s - 1)
          rw [brk_opnd_left a hm0 (hk2 a ha.1)] at cl
          rw [brk_opnd_right b (by omega) (hk2 b hb.1)] at cr
          have hol := opnd_len a a.wr (leftMost s) false
          have hor := opnd_len b b.wr (levelN s - 1) true
          have hos := opSp_len s
          have hwr : (Tm.mk 3 n s [a, b]).wr = opnd a a.wr (leftMost s) false ++ opSp s ++ opnd b b.wr (levelN s - 1) true := by
            have hne : s ≠ [46] := by rintro rfl; simp [levelN, ops3] at hlp
            rw [Tm.wr, wrs_map, wrts_map]
            simp [wrNode, hne, hlp]
          rw [hwr]
          by_cases h3 : levelN s = 3
          · rw [hr2 h3] at cl hol
            rw [h3, show (3 : Int) - 1 = 2 from rfl] at cr hor hsub
            rw [h3, show (3 : Int) - 1 = 2 from rfl]
            have h22 : inR .i64 2 := small_i64 (by omega) (by omega)
            simp only [hr2 h3]
            simp -implicitDefEqProofs [h3, hsub, h22, go_sem, -List.set_cons_succ, -List.set_cons_zero]
            refine row_int (i := 0) a.row (by omega) rfl (row_len _) ?_
            simp -implicitDefEqProofs [row_len, take_row, pure_d, re_d, go_sem, -List.set_cons_succ, -List.set_cons_zero]
            refine qcall_pure cl hf rfl ?_
            simp -implicitDefEqProofs [go_sem, -List.set_cons_succ, -List.set_cons_zero]
            refine qcall_pure (spaced_calls s hlp) hf rfl ?_
            simp -implicitDefEqProofs [maxStr, go_sem, -List.set_cons_succ, -List.set_cons_zero]
            refine ⟨by omega, row_int (i := 1) b.row (by omega) rfl (row_len _) ?_⟩
            simp -implicitDefEqProofs [row_len, take_row, pure_d, re_d, go_sem, -List.set_cons_succ, -List.set_cons_zero]
            refine qcall_pure cr hf rfl ?_
            simp -implicitDefEqProofs [maxStr, go_sem, -List.set_cons_succ, -List.set_cons_zero]
            omega
          · rw [hr3 h3] at cl hol
            have h4 : (levelN s == 3) = false := by simpa using h3
            simp only [hr3 h3]
            simp -implicitDefEqProofs [h3, h4, hsub, go_sem, -List.set_cons_succ, -List.set_cons_zero]
            refine row_int (i := 0) a.row (by omega) rfl (row_len _) ?_
            simp -implicitDefEqProofs [row_len, take_row, pure_d, re_d, go_sem, -List.set_cons_succ, -List.set_cons_zero]
            refine qcall_pure cl hf rfl ?_
            simp -implicitDefEqProofs [go_sem, -List.set_cons_succ, -List.set_cons_zero]
            refine qcall_pure (spaced_calls s hlp) hf rfl ?_
            simp -implicitDefEqProofs [maxStr, go_sem, -List.set_cons_succ, -List.set_cons_zero]
            refine ⟨by omega, row_int (i := 1) b.row (by omega) rfl (row_len _) ?_⟩
            simp -implicitDefEqProofs [row_len, take_row, pure_d, re_d, go_sem, -List.set_cons_succ, -List.set_cons_zero]
            refine qcall_pure cr hf rfl ?_
            simp -implicitDefEqProofs [maxStr, go_sem, -List.set_cons_succ, -List.set_cons_zero]
            omega
      | false =>
        have hli : inR .i64 (t.kids.length : Int) := by
          cases ht.fits with
          | mk _ _ _ h _ => exact small_i64 (by simp only [Tm.kids]; omega) (by simp only [Tm.kids]; omega)
        by_cases hks : t.kids = []
        · have hlf := leaf_calls t ht.fits ht.good hks
          obtain ⟨k, n, s, l⟩ := t
          obtain rfl : l = [] := hks
          have h00 : inR .i64 0 := small_i64 (by omega) (by omega)
          simp [row_mk] at hlf
          by_cases hk : k = 3
          · simp -implicitDefEqProofs [row_mk, hk, h00, go_sem, -List.set_cons_succ, -List.set_cons_zero]
            subst hk
            refine qcall_pure hlf hf rfl ?_
            simp -implicitDefEqProofs [go_sem, -List.set_cons_succ, -List.set_cons_zero]
          · simp -implicitDefEqProofs [row_mk, hk, h00, go_sem, -List.set_cons_succ, -List.set_cons_zero]
            refine qcall_pure hlf hf rfl ?_
            simp -implicitDefEqProofs [go_sem, -List.set_cons_succ, -List.set_cons_zero]
        · obtain ⟨k, n, s, l⟩ := t
          have hkl : l ≠ [] := hks
          clear hks
          have hkids := fun u hu => ht.kid (k := k) (n := n) (s := s) (l := l) (u := u) hu
          obtain rfl : k = 3 := by
            cases ht.good with
            | mk ho _ =>
              rcases own_cases ho with ⟨_, _, _, _, h⟩ | ⟨_, _, _, _, h⟩ | ⟨h3, _⟩
              · exact absurd h hkl
              · exact absurd h hkl
              · exact h3
          simp only [Tm.kids] at hli
          have hsl : s.length ≤ 1048576 ∧ l.length ≤ 1048576 := by
            cases ht.fits with
            | mk _ _ h3 h4 _ => exact ⟨h3, h4⟩
          have hps : 0 < l.length := List.length_pos_iff.2 hkl
          have hpos : (0 : Int) < l.length := by omega
          have hargs := wargs_calls l hsl.2 (fun u hu => ⟨hT u (hkids u hu).1 (hkids u hu).2, by have := (hkids u hu).1.len; omega⟩)
          have hjl := joinS_take l (fun u hu => by have := (hkids u hu).1.len; omega) (Nat.le_refl _)
          rw [List.take_of_length_le (by simp)] at hjl
          have hwr : (Tm.mk 3 n s l).wr = s ++ 40 :: joinS 44 (l.map Tm.wr) ++ [41] := by
            rw [Tm.wr, wrs_map, wrts_map]
            have h1 : ¬ (s = [46] ∧ l.length = 2) := by
              rintro ⟨rfl, h⟩
              have h' : (l.length : Int) = 2 := by omega
              simp [Tm.pairB, Tm.k, Tm.s, Tm.kids, h'] at hp
            have h2 : ¬ (l.length = 2 ∧ 0 < levelN s) := by
              rintro ⟨h, h'⟩
              have h'' : (l.length : Int) = 2 := by omega
              simp [infixB, Tm.k, Tm.s, Tm.kids, h'', h'] at hi
            simp [wrNode, h1, h2, hkl]
          rw [hwr]
          simp -implicitDefEqProofs [row_mk, hli, hpos, hps, hkl, go_sem, -List.set_cons_succ, -List.set_cons_zero]
          refine ⟨by unfold maxStr; omega, qcall_pure hargs hf rfl ?_⟩
          simp -implicitDefEqProofs [maxStr, go_sem, -List.set_cons_succ, -List.set_cons_zero]
          omega
end Go.Proofs.YtgfmlifkhpjplaaGreatDoor

/-
  Texts of terms with operators, drawn.
  Conditions: none.
-/
open Go Go.AM Go.Proofs
namespace Go.Proofs.YtgfmlifkhpjplaaGreatDoor
open Go.ChangeShapes Go.WideShapes Go.ChangeAt Go.RowKit
set_option linter.unusedVariables false
set_option linter.unusedSimpArgs false
set_option maxRecDepth 100000
-- 42 loop.example/prologserver/spec.l1Bend params 3 ntmps 35
def ac42 : Cd := .seq (.region [⟨(some 6),.mv (.k (.c (.d (.str [])))),none⟩] [6])
 (.seq (.seq (.region [⟨(some 8),.mv (.t 1),none⟩,
 ⟨(some 9),.len 0 (.t 8),none⟩,
 ⟨(some 10),.bin .eql (.t 9) (.k (.c (.d (.int .i64 0)))),none⟩,
 ⟨(some 11),.mv (.t 10),none⟩,
 ⟨(some 12),.mv (.t 0),some (11,false)⟩,
 ⟨(some 13),.call false 53 [(.t 12),(.k (.c (.d (.int .i64 2))))],some (11,false)⟩,
 ⟨(some 14),.bin .eql (.t 13) (.k (.c (.d (.int .i64 0)))),some (11,false)⟩,
 ⟨(some 15),.pick (.t 11) (.k (.c (.d (.bool true)))) (.t 14),none⟩] [8,9,10,11,12,13,14])
 (.cond (.t 15)
 (.seq (.region [⟨(some 16),.mv (.t 1),none⟩,
 ⟨(some 6),.mv (.t 16),none⟩] [0,1,2,15,16])
 (.ret))
 (.skip)))
 (.seq (.region [⟨(some 17),.mv (.t 0),none⟩,
 ⟨(some 18),.mv (.t 1),none⟩,
 ⟨(some 19),.len 0 (.t 18),none⟩,
 ⟨(some 20),.call false 53 [(.t 17),(.t 19)],none⟩,
 ⟨(some 7),.mv (.t 20),none⟩] [6,15,17,18,19,20])
 (.seq (.region [⟨(some 21),.mv (.t 1),none⟩,
 ⟨(some 22),.mv (.t 7),none⟩,
 ⟨(some 23),.slice 0 (.t 21) none (some (.t 22)) none,none⟩,
 ⟨(some 24),.mv (.t 0),none⟩,
 ⟨(some 25),.mv (.t 2),none⟩,
 ⟨(some 28),.mv (.t 1),none⟩,
 ⟨(some 29),.mv (.t 7),none⟩,
 ⟨(some 30),.mv (.t 0),none⟩,
 ⟨(some 26),.call false 54 [(.t 24),(.t 25)],none⟩,
 ⟨(some 27),.bin .add (.t 23) (.t 26),none⟩,
 ⟨(some 31),.call false 53 [(.t 30),(.k (.c (.d (.int .i64 2))))],none⟩,
 ⟨(some 32),.bin .add (.t 29) (.t 31),none⟩,
 ⟨(some 33),.slice 0 (.t 28) (some (.t 32)) none none,none⟩,
 ⟨(some 34),.bin .add (.t 27) (.t 33),none⟩,
 ⟨(some 6),.mv (.t 34),none⟩] [0,1,2,7,21,22,23,24,25,26,27,28,29,30,31,32,33,34])
 (.ret))))
theorem ac42_ok : cFunc Tryz.prog [] [(0,[6],[]),(1,[8,9,10,11,12,13,14],[]),(2,[0,1,2,15,16],[]),(3,[6,15,17,18,19,20],[]),(4,[0,1,2,7,21,22,23,24,25,26,27,28,29,30,31,32,33,34],[0,1,2,3,4,7,8,9,5,6,10,11,12,13,14])] Tryz.f42 = some (ac42,[.tmp 6],35) := by kernel_rfl
-- 19 loop.example/prologserver/spec.DrawReadTerm params 1 ntmps 15
def ac19 : Cd := .seq (.region [⟨(some 2),.mv (.k (.c (.d (.str [])))),none⟩] [2])
 (.seq (.region [⟨(some 4),.mv (.t 0),none⟩,
 ⟨(some 5),.call false 34 [(.t 4)],none⟩,
 ⟨(some 3),.mv (.t 5),none⟩] [0,4,5])
 (.seq (.region [⟨(some 6),.mv (.t 3),none⟩,
 ⟨(some 7),.mv (.t 3),none⟩,
 ⟨(some 8),.mv (.t 3),none⟩,
 ⟨(some 9),.buildSlice 1 4 [(.int .i64 0)] [(0,(.k (.c (.d (.int .i64 3))))),(1,(.k (.c (.d (.int .i64 2))))),(2,(.k (.c (.d (.int .i64 4))))),(3,(.k (.c (.d (.int .i64 1)))))],none⟩,
 ⟨(some 10),.call false 37 [(.t 8),(.t 9)],none⟩,
 ⟨(some 11),.call false 36 [(.t 7),(.t 10)],none⟩,
 ⟨(some 12),.qcall 39 [(.t 11)],none⟩,
 ⟨(some 13),.buildSlice 1 9 [(.str [])] [(0,(.k (.c (.d (.str []))))),(1,(.k (.c (.d (.str [40]))))),(2,(.k (.c (.d (.str [41]))))),(3,(.k (.c (.d (.str [43]))))),(4,(.k (.c (.d (.str [65]))))),(5,(.k (.c (.d (.str [49]))))),(6,(.k (.c (.d (.str [32]))))),(7,(.k (.c (.d (.str [45]))))),(8,(.k (.c (.d (.str [105,115])))))],none⟩,
 ⟨(some 14),.call false 42 [(.t 6),(.t 12),(.t 13)],none⟩,
 ⟨(some 2),.mv (.t 14),none⟩] [3,6,7,8,9,10,11,12,13,14])
 (.ret)))
theorem ac19_ok : cFunc Tryz.prog [1000039] [(0,[2],[]),(1,[0,4,5],[]),(2,[3,6,7,8,9,10,11,12,13,14],[])] Tryz.f19 = some (ac19,[.tmp 2],15) := by kernel_rfl
/-- a text that is drawn -/
def StrR (n : Nat) (r : A) : Prop := ∃ s : List UInt8, r = .c (.d (.str s)) ∧ s.length ≤ n
theorem StrR.re {n m : Nat} {r : A} (h : StrR n r) : A.re m r = r := by obtain ⟨s, rfl, _⟩ := h; simp [A.re, C.re]
theorem VW.up {d e : Nat} {t : Tm} (h : VW d t) (hde : d ≤ e) : VW e t := by
  refine ⟨shp_mono t _ _ (by omega) h.1, Nat.le_trans h.2 ?_⟩
  clear h
  induction hde with
  | refl => exact Nat.le_refl _
  | step _ ih => simp only [sz3]; omega
theorem Draws.imp {f : FuncId} {xs : List A} {N : Int} {R R' : A → Prop} (h : Draws f xs N R) (hR : ∀ r, R r → R' r) : Draws f xs N R' := fun c p H i hc hp hp1 hi =>
  (h c p H i hc hp hp1 hi).mono fun r H' ⟨h1, p', h2, h3, h4⟩ => ⟨hR r h1, p', h2, h3, h4⟩
theorem TmP.imp {P Q : Tm → Prop} {r : A} (h : ∀ t, P t → Q t) : TmP P r → TmP Q r := fun ⟨t, h1, h2, h3⟩ => ⟨t, h1, h2, h t h3⟩
end Go.Proofs.YtgfmlifkhpjplaaGreatDoor

/-
  Texts that are drawn and bent in one place: few of their brackets are open at once.
  Conditions: none.
-/
open Go Go.AM Go.Proofs
namespace Go.Proofs.YtgfmlifkhpjplaaGreatDoor
open Go.ChangeShapes Go.WideShapes Go.ChangeAt Go.RowKit
set_option linter.unusedVariables false
set_option linter.unusedSimpArgs false
set_option maxRecDepth 100000
theorem pot_app (a b : List Nat) : pot (a ++ b) = pot a + pot b := by
  induction a with
  | nil => simp [pot]
  | cons c r ih => simp only [List.cons_append, pot, ih]; omega
/-- a text that closes its brackets: at most L open at once, P with their commas; j commas beside them -/
def Sq (L P j : Nat) (w : List UInt8) : Prop := ∀ c r, (∃ i, i ≤ j ∧ bkR (c :: r) w = (c + i) :: r) ∧ ∀ k, ∃ T i, i ≤ j ∧ bkR (c :: r) (w.take k) = T ++ (c + i) :: r ∧ T.length ≤ L ∧ pot T ≤ P ∧ ∀ x ∈ T, x ≤ 2
theorem Sq.mono {L P j L' P' j' : Nat} {w : List UInt8} (h : Sq L P j w) (h1 : L ≤ L') (h2 : P ≤ P') (h3 : j ≤ j') : Sq L' P' j' w := fun c r => by
  obtain ⟨⟨i, g1, g2⟩, g3⟩ := h c r
  refine ⟨⟨i, by omega, g2⟩, fun k => ?_⟩
  obtain ⟨T, i, q1, q2, q3, q4, q5⟩ := g3 k
  exact ⟨T, i, by omega, q2, by omega, by omega, q5⟩
theorem sq_app {L P i j : Nat} {a b : List UInt8} (h1 : Sq L P i a) (h2 : Sq L P j b) : Sq L P (i + j) (a ++ b) := fun c r => by
  obtain ⟨⟨x, x1, x2⟩, x3⟩ := h1 c r
  obtain ⟨⟨y, y1, y2⟩, y3⟩ := h2 (c + x) r
  refine ⟨⟨x + y, by omega, by rw [bkR_app, x2, y2, Nat.add_assoc]⟩, fun k => ?_⟩
  by_cases hk : k ≤ a.length
  · rw [List.take_append_of_le_length hk]
    obtain ⟨T, i', q1, q2, q3⟩ := x3 k
    exact ⟨T, i', by omega, q2, q3⟩
  · obtain ⟨T, i', q1, q2, q3⟩ := y3 (k - a.length)
    refine ⟨T, x + i', by omega, ?_, q3⟩
    rw [List.take_append, List.take_of_length_le (by omega), bkR_app, x2, q2, Nat.add_assoc]
theorem sq_pln {w : List UInt8} (h : w.all plnB = true) : Sq 0 0 0 w := fun c r => by
  refine ⟨⟨0, Nat.le_refl _, bkR_pln w _ h⟩, fun k => ⟨[], 0, Nat.le_refl _, ?_, by simp, by simp [pot], by simp⟩⟩
  refine bkR_pln _ _ ?_
  rw [List.all_eq_true] at h ⊢
  exact fun b hb => h b (List.mem_of_mem_take hb)
theorem sq_comma : Sq 0 0 1 [44] := fun c r => by
  refine ⟨⟨1, Nat.le_refl _, rfl⟩, fun k => ?_⟩
  cases k with
  | zero => exact ⟨[], 0, by omega, rfl, by simp, by simp [pot], by simp⟩
  | succ k => exact ⟨[], 1, by omega, by simp [bkR, bkS], by simp, by simp [pot], by simp⟩
theorem sq_nil : Sq 1 1 0 [91, 93] := fun c r => by
  refine ⟨⟨0, Nat.le_refl _, rfl⟩, fun k => ?_⟩
  match k with
  | 0 => exact ⟨[], 0, by omega, rfl, by simp, by simp [pot], by simp⟩
  | 1 => exact ⟨[0], 0, by omega, rfl, by simp, by simp [pot], by simp⟩
  | k + 2 => exact ⟨[], 0, by omega, by simp [bkR, bkS], by simp, by simp [pot], by simp⟩
theorem sq_wrap {L P j : Nat} {w : List UInt8} (h : Sq L P j w) (hj : j ≤ 2) {o e : UInt8} (ho : o = 40 ∨ o = 91) (he : e = 41 ∨ e = 93) : Sq (L + 1) (P + 3) 0 (o :: w ++ [e]) := fun c r => by
  obtain ⟨⟨x, x1, x2⟩, x3⟩ := h 0 (c :: r)
  have hop : ∀ v, bkR (c :: r) (o :: v) = bkR (0 :: c :: r) v := fun v => by
    show bkR (bkS (c :: r) o) v = _
    unfold bkS
    rw [if_pos ho]
  have hcl : ∀ y, bkR (y :: c :: r) [e] = c :: r := fun y => by rcases he with rfl | rfl <;> rfl
  have hall : bkR (c :: r) (o :: w ++ [e]) = c :: r := by
    rw [List.cons_append, hop, bkR_app, x2, hcl]
  refine ⟨⟨0, by omega, hall⟩, fun k => ?_⟩
  cases k with
  | zero => exact ⟨[], 0, by omega, rfl, by simp, by simp [pot], by simp⟩
  | succ k =>
    by_cases hk : k ≤ w.length
    · obtain ⟨T, i, q1, q2, q3, q4, q5⟩ := x3 k
      refine ⟨T ++ [0 + i], 0, by omega, ?_, by simp; omega, by rw [pot_app]; simp only [pot]; omega, fun y hy => ?_⟩
      · rw [List.cons_append, List.take_succ_cons, hop, List.take_append_of_le_length hk, q2]
        simp
      · rcases List.mem_append.1 hy with hy | hy
        · exact q5 y hy
        · rw [List.mem_singleton.1 hy]; omega
    · refine ⟨[], 0, by omega, ?_, by simp, by simp [pot], by simp⟩
      rw [List.take_of_length_le (by simp; omega), hall]; rfl
/-- names of drawn terms -/
def txtN : List (List UInt8) := drawNames ++ [[43], [45], [42], [105, 115], [109, 111, 100], [61], [47, 47], [61, 60]]
theorem txt_bk : ∀ s ∈ txtN, s.all plnB = true ∨ s = [91, 93] := by decide
theorem txt_op : ∀ s ∈ txtN, (0 < levelN s) → (opSp s).all plnB = true := by decide
theorem txt_sq {s : List UInt8} (h : s ∈ txtN) : Sq 1 1 0 s := by
  rcases txt_bk s h with h | rfl
  · exact (sq_pln h).mono (by omega) (by omega) (by omega)
  · exact sq_nil
def LfD (t : Tm) : Prop := (∃ n : Int, 0 ≤ n ∧ n ≤ 25 ∧ t = .mk 1 n [] []) ∨ (∃ n : Int, -999 ≤ n ∧ n ≤ 999 ∧ t = .mk 2 n [] []) ∨ ∃ s ∈ txtN, t = .mk 3 0 s []
/-- drawn terms, n levels above the leaves -/
def Dn : Nat → Tm → Prop
  | 0, t => LfD t
  | n + 1, t => LfD t ∨ ∃ s ∈ txtN, ∃ l : List Tm, t = .mk 3 0 s l ∧ l.length ≤ 3 ∧ ∀ u ∈ l, Dn n u
theorem Dn.leaf {t : Tm} (h : LfD t) : ∀ n, Dn n t
  | 0 => h
  | n + 1 => .inl h
theorem Dn.up1 : ∀ (n : Nat) (t : Tm), Dn n t → Dn (n + 1) t
  | 0, t, h => .inl h
  | n + 1, t, h => by
    rcases h with h | ⟨s, hs, l, rfl, hl, hk⟩
    · exact .inl h
    · exact .inr ⟨s, hs, l, rfl, hl, fun u hu => Dn.up1 n u (hk u hu)⟩
theorem Dn.up {n m : Nat} {t : Tm} (h : Dn n t) (hnm : n ≤ m) : Dn m t := by
  induction hnm with
  | refl => exact h
  | step _ ih => exact Dn.up1 _ _ ih
theorem pln_var : ∀ k < 26, plnB (UInt8.ofNat (65 + k)) = true := by decide
theorem pln_dec : ∀ u < 1000, (dec3 u).all plnB = true := by
  have : ((List.range 1000).all fun u => (dec3 u).all plnB) = true := by kernel_rfl
  intro u hu
  rw [List.all_eq_true] at this
  exact this u (List.mem_range.2 hu)
theorem itoa_sq {n : Int} (h0 : -999 ≤ n) (h1 : n ≤ 999) : Sq 0 0 0 (Lib.itoa n) := by
  rw [← itoa3_eq h0 h1]
  refine sq_pln ?_
  unfold itoa3
  split
  · rw [List.all_cons, pln_dec _ (by omega)]; decide
  · exact pln_dec _ (by omega)
theorem leaf_node {t : Tm} (h : LfD t) : Sq 1 1 0 t.wr ∧ Sq 1 1 0 t.wrt := by
  have key : ∀ (k n : Int) (s : List UInt8), Sq 1 1 0 (wrNode k n s [] [] []) → Sq 1 1 0 (Tm.mk k n s []).wr ∧ Sq 1 1 0 (Tm.mk k n s []).wrt := fun k n s hw => by
    have h1 : (Tm.mk k n s []).wr = wrNode k n s [] [] [] := by rw [Tm.wr, wrs, wrts]
    rw [h1, Tm.wrt, wrs, wrts]
    refine ⟨hw, ?_⟩
    rw [if_neg (by simp)]
    split
    · exact (sq_pln (w := []) rfl).mono (by omega) (by omega) (by omega)
    · exact sq_app (a := [124]) ((sq_pln (by decide)).mono (by omega) (by omega) (Nat.le_refl 0)) hw
  rcases h with ⟨n, h0, h1, rfl⟩ | ⟨n, h0, h1, rfl⟩ | ⟨s, hs, rfl⟩
  · refine key 1 n [] ?_
    have : plnB (UInt8.ofNat (65 + n.toNat)) = true := pln_var _ (by omega)
    refine (sq_pln ?_).mono (Nat.zero_le _) (Nat.zero_le _) (Nat.le_refl 0)
    have e : wrNode 1 n [] [] [] [] = [UInt8.ofNat (65 + n.toNat)] := by unfold wrNode; rw [if_pos rfl]
    rw [e, List.all_cons, this]; rfl
  · refine key 2 n [] ?_
    have : wrNode 2 n [] [] [] [] = Lib.itoa n := by simp [wrNode]
    rw [this]
    exact (itoa_sq h0 h1).mono (Nat.zero_le _) (Nat.zero_le _) (Nat.le_refl 0)
  · refine key 3 0 s ?_
    have : wrNode 3 0 s [] [] [] = s := by simp [wrNode]
    rw [this]
    exact txt_sq hs
theorem join_sq {L P : Nat} : ∀ (l : List (List UInt8)), l.length ≤ 3 → (∀ w ∈ l, Sq L P 0 w) → Sq L P 2 (joinS 44 l)
  | [], _, h => (sq_pln (w := []) rfl).mono (by omega) (by omega) (by omega)
  | [a], _, h => (h a (by simp)).mono (by omega) (by omega) (by omega)
  | [a, b], _, h => by
    have h1 := sq_app (h a (by simp)) (sq_app (sq_comma.mono (Nat.zero_le L) (Nat.zero_le P) (Nat.le_refl 1)) (h b (by simp)))
    exact h1.mono (by omega) (by omega) (by omega)
  | [a, b, c], _, h => by
    have h2 := sq_app (h b (by simp)) (sq_app (sq_comma.mono (Nat.zero_le L) (Nat.zero_le P) (Nat.le_refl 1)) (h c (by simp)))
    have h1 := sq_app (h a (by simp)) (sq_app (sq_comma.mono (Nat.zero_le L) (Nat.zero_le P) (Nat.le_refl 1)) h2)
    exact h1.mono (by omega) (by omega) (by omega)
  | a :: b :: c :: d :: l, hl, _ => by simp at hl
theorem opnd_sq {L P : Nat} {t : Tm} {w : List UInt8} {m : Int} {rt : Bool} (h : Sq L P 0 w) : Sq (L + 1) (P + 3) 0 (opnd t w m rt) := by
  unfold opnd
  split
  · exact sq_wrap h (by omega) (.inl rfl) (.inl rfl)
  · exact h.mono (by omega) (by omega) (by omega)
theorem wr_sq : ∀ (n : Nat), n ≤ 3 → ∀ t, Dn n t → Sq (n + 1) (3 * n + 1) 0 t.wr ∧ Sq (n + 1) (3 * n + 1) n t.wrt
  | 0, _, t, h => leaf_node h
  | n + 1, hn, t, h => by
    rcases h with h | ⟨s, hs, l, rfl, hl, hk⟩
    · obtain ⟨h1, h2⟩ := leaf_node h
      exact ⟨h1.mono (by omega) (by omega) (by omega), h2.mono (by omega) (by omega) (by omega)⟩
    · have ih := fun u hu => wr_sq n (by omega) u (hk u hu)
      have hws : ∀ w ∈ l.map Tm.wr, Sq (n + 1) (3 * n + 1) 0 w := fun w hw => by
        obtain ⟨u, hu, rfl⟩ := List.mem_map.1 hw
        exact (ih u hu).1
      have hnode : Sq (n + 2) (3 * n + 4) 0 (wrNode 3 0 s l (l.map Tm.wr) (l.map Tm.wrt)) := by
        unfold wrNode
        simp only [show ¬ (3 : Int) = 1 by decide, show ¬ (3 : Int) = 2 by decide, if_false]
        split
        · rename_i hp
          match l, hp.2, ih with
          | [a, b], _, ih =>
            have ha := (ih a (by simp)).1
            have hb := (ih b (by simp)).2
            exact sq_wrap (w := a.wr ++ b.wrt) (sq_app ha hb) (by omega) (.inr rfl) (.inr rfl)
        · split
          · rename_i hp hq
            match l, hq.1, ih with
            | [a, b], _, ih =>
              have ha := (ih a (by simp)).1
              have hb := (ih b (by simp)).1
              have ho : Sq (n + 2) (3 * n + 4) 0 (opSp s) := (sq_pln (txt_op s hs hq.2)).mono (Nat.zero_le _) (Nat.zero_le _) (Nat.le_refl 0)
              exact sq_app (sq_app (opnd_sq ha) ho) (opnd_sq hb)
          · split
            · exact (txt_sq hs).mono (by omega) (by omega) (by omega)
            · have h1 := sq_wrap (o := 40) (e := 41) (join_sq (l.map Tm.wr) (by simpa using hl) hws) (by omega) (.inl rfl) (.inl rfl)
              have h2 : Sq (n + 2) (3 * n + 4) 0 s := (txt_sq hs).mono (by omega) (by omega) (by omega)
              have h3 := sq_app h2 h1
              simpa using h3
      rw [Tm.wrt, Tm.wr, wrs_map, wrts_map]
      refine ⟨hnode.mono (by omega) (by omega) (by omega), ?_⟩
      split
      · rename_i hp
        match l, hp.2.2, ih with
        | [a, b], _, ih =>
          have ha := (ih a (by simp)).1
          have hb := (ih b (by simp)).2
          have h1 := sq_app (sq_app (sq_comma.mono (Nat.zero_le (n + 1)) (Nat.zero_le (3 * n + 1)) (Nat.le_refl 1)) ha) hb
          exact Sq.mono (w := 44 :: a.wr ++ b.wrt) (by simpa using h1) (by omega) (by omega) (by omega)
      · split
        · exact (sq_pln (w := []) rfl).mono (by omega) (by omega) (by omega)
        · exact (sq_app (a := [124]) ((sq_pln (by decide)).mono (by omega) (by omega) (Nat.le_refl 0)) hnode).mono (by omega) (by omega) (by omega)
/-! ## a text that is bent -/
/-- two lists of open brackets that differ a little -/
def Rl (O E : List Nat) : Prop := O ≠ [] ∧ E ≠ [] ∧ E.length ≤ O.length + 2 ∧ ∀ (i e : Nat), E[i]? = some e → e ≤ 2 + O.getD i 0
theorem Rl.step {O E : List Nat} (h : Rl O E) (b : UInt8) : Rl (bkS O b) (bkS E b) := by
  obtain ⟨h1, h2, h3, h4⟩ := h
  refine ⟨bkS_ne b h1, bkS_ne b h2, ?_⟩
  match O, E, h1, h2 with
  | c :: r, e :: q, _, _ =>
    simp only [List.length_cons] at h3
    unfold bkS
    split
    · refine ⟨by simp; omega, fun i x hx => ?_⟩
      cases i with
      | zero => simp at hx; omega
      | succ i => simpa using h4 i x (by simpa using hx)
    · split
      · match r, q with
        | [], [] => exact ⟨by simp, fun i x hx => by cases i with
            | zero => simp at hx; omega
            | succ i => simp at hx⟩
        | [], f :: q => exact ⟨by simp at h3 ⊢; omega, fun i x hx => by
            have := h4 (i + 1) x (by simpa using hx)
            simp at this
            omega⟩
        | d :: r, [] => exact ⟨by simp, fun i x hx => by cases i with
            | zero => simp at hx; omega
            | succ i => simp at hx⟩
        | d :: r, f :: q => exact ⟨by simp at h3 ⊢; omega, fun i x hx => by
            have := h4 (i + 1) x (by simpa using hx)
            simpa using this⟩
      · split
        · refine ⟨by simpa using h3, fun i x hx => ?_⟩
          cases i with
          | zero => have := h4 0 e (by simp); simp at hx this ⊢; omega
          | succ i => simpa using h4 (i + 1) x (by simpa using hx)
        · exact ⟨by simpa using h3, h4⟩
theorem Rl.run : ∀ (w : List UInt8) {O E : List Nat}, Rl O E → Rl (bkR O w) (bkR E w)
  | [], _, _, h => h
  | b :: w, _, _, h => Rl.run w (h.step b)
theorem pot_rl : ∀ (O E : List Nat) (m : Nat), E.length ≤ O.length + m → (∀ (i e : Nat), E[i]? = some e → e ≤ 2 + O.getD i 0) → pot E ≤ pot O + 2 * O.length + 3 * m
  | O, [], m, _, _ => by simp only [pot]; omega
  | [], e :: q, m, h, h4 => by
    have := pot_rl [] q (m - 1) (by simp at h ⊢; omega) fun i x hx => by have := h4 (i + 1) x (by simpa using hx); simpa using this
    have h0 := h4 0 e (by simp)
    simp at h h0
    simp only [pot, List.length_nil] at this ⊢
    omega
  | c :: r, e :: q, m, h, h4 => by
    have := pot_rl r q m (by simp at h; omega) fun i x hx => by have := h4 (i + 1) x (by simpa using hx); simpa using this
    have h0 := h4 0 e (by simp)
    simp at h0
    simp only [pot, List.length_cons] at this ⊢
    omega
def bits9 : List (List UInt8) := [[], [40], [41], [43], [65], [49], [32], [45], [105, 115]]
/-- bent in one place -/
def BentR (w : List UInt8) (l : List (List UInt8)) (u : List UInt8) : Prop := u = w ∨ ∃ (k j : Nat) (b : List UInt8), k < w.length ∧ j ≤ 1 ∧ b ∈ l ∧ u = w.take k ++ b ++ w.drop (k + j)
theorem bits_cases : ∀ b ∈ bits9, b.all plnB = true ∨ b = [40] ∨ b = [41] := by decide
theorem bit_run {b : List UInt8} (hb : b ∈ bits9) (O : List Nat) (n : Nat) : bkR O (b.take n) = O ∨ bkR O (b.take n) = 0 :: O ∨ bkR O (b.take n) = bkS O 41 := by
  rcases bits_cases b hb with h | rfl | rfl
  · refine .inl (bkR_pln _ _ ?_)
    rw [List.all_eq_true] at h ⊢
    exact fun x hx => h x (List.mem_of_mem_take hx)
  · cases n with
    | zero => exact .inl rfl
    | succ n => refine .inr (.inl ?_); simp [bkR, bkS]
  · cases n with
    | zero => exact .inl rfl
    | succ n => refine .inr (.inr ?_); simp [bkR]
/-- what is open: few, with few commas -/
def Few (O : List Nat) : Prop := O ≠ [] ∧ O.length ≤ 5 ∧ pot O ≤ 11 ∧ ∀ x ∈ O, x ≤ 2
theorem sq_few {w : List UInt8} (h : Sq 4 10 0 w) (k : Nat) : Few (bkR [0] (w.take k)) := by
  obtain ⟨T, i, h1, h2, h3, h4, h5⟩ := (h 0 []).2 k
  obtain rfl : i = 0 := by omega
  rw [h2]
  refine ⟨by simp, by simp; omega, by rw [pot_app]; simp only [pot]; omega, fun x hx => ?_⟩
  rcases List.mem_append.1 hx with hx | hx
  · exact h5 x hx
  · simp at hx; omega
theorem few_close {O : List Nat} (h : Few O) : (bkS O 41).length ≤ O.length ∧ pot (bkS O 41) ≤ 11 ∧ ∀ x ∈ bkS O 41, x ≤ 2 := by
  obtain ⟨h1, h2, h3, h4⟩ := h
  match O, h1 with
  | [c], _ => exact ⟨by simp [bkS], by simp [bkS, pot], by simp [bkS]⟩
  | c :: d :: r, _ =>
    have e : bkS (c :: d :: r) 41 = d :: r := rfl
    rw [e]
    refine ⟨by simp, ?_, fun x hx => h4 x (List.mem_cons_of_mem _ hx)⟩
    simp only [pot] at h3 ⊢
    omega
theorem few_bit {O Y : List Nat} (h : Few O) (hy : Y = O ∨ Y = 0 :: O ∨ Y = bkS O 41) : Y ≠ [] ∧ Y.length ≤ O.length + 1 ∧ pot Y ≤ 12 ∧ ∀ x ∈ Y, x ≤ 2 := by
  obtain ⟨c1, c2, c3⟩ := few_close h
  have hne := bkS_ne 41 h.1
  obtain ⟨h1, h2, h3, h4⟩ := h
  rcases hy with rfl | rfl | rfl
  · exact ⟨h1, by omega, by omega, h4⟩
  · refine ⟨by simp, by simp, by simp only [pot]; omega, fun x hx => ?_⟩
    rcases List.mem_cons.1 hx with rfl | hx
    · omega
    · exact h4 x hx
  · exact ⟨hne, by omega, by omega, c3⟩
theorem bkS_long (O : List Nat) (b : UInt8) : O.length ≤ (bkS O b).length + 1 := by
  unfold bkS
  split
  · simp only [List.length_cons]; omega
  · split
    · match O with
      | [] => simp
      | [c] => simp
      | c :: d :: r => simp
    · split
      · match O with
        | [] => simp
        | c :: r => simp
      · omega
theorem bent_pot {w u : List UInt8} (h : Sq 4 10 0 w) (hu : BentR w bits9 u) (i : Nat) : pot (stk u i) ≤ 30 := by
  unfold stk
  rcases hu with rfl | ⟨k, j, b, hk, hj, hb, rfl⟩
  · have := (sq_few h i).2.2.1; omega
  · have hO := sq_few h k
    have hlen : (w.take k).length = k := by simp; omega
    by_cases h1 : i ≤ k
    · rw [List.append_assoc, List.take_append_of_le_length (by omega), List.take_take]
      have := (sq_few h (min i k)).2.2.1; omega
    · by_cases h2 : i ≤ k + b.length
      · rw [List.take_append_of_le_length (by simp; omega), List.take_append, hlen, List.take_of_length_le (by omega), bkR_app]
        have := (few_bit hO (bit_run hb _ (i - k))).2.2.1; omega
      · have hY := few_bit hO (bit_run hb _ b.length)
        rw [List.take_length] at hY
        have hX : bkR [0] (w.take (k + j)) ≠ [] ∧ (bkR [0] (w.take k)).length ≤ (bkR [0] (w.take (k + j))).length + 1 := by
          refine ⟨bkR_ne _ (by simp), ?_⟩
          rcases (show j = 0 ∨ j = 1 by omega) with rfl | rfl
          · simp
          · have : stk w (k + 1) = bkS (stk w k) w[k] := stk_byte (by simp [hk])
            unfold stk at this
            rw [this]
            exact bkS_long _ _
        have hR : Rl (bkR [0] (w.take (k + j))) (bkR (bkR [0] (w.take k)) b) := by
          refine ⟨hX.1, hY.1, by have := hY.2.1; omega, fun i e he => ?_⟩
          have := hY.2.2.2 e (List.mem_of_getElem? he)
          omega
        rw [List.take_append, List.take_of_length_le (by simp; omega), bkR_app, bkR_app]
        have hF := Rl.run ((w.drop (k + j)).take (i - (w.take k ++ b).length)) hR
        have hW := sq_few h (k + j + (i - (w.take k ++ b).length))
        rw [List.take_add, bkR_app] at hW
        have := pot_rl _ _ 2 hF.2.2.1 hF.2.2.2
        have g1 := hW.2.1
        have g2 := hW.2.2.1
        omega
/-! ## draws -/
def StrN (n : Nat) (Q : List UInt8 → Prop) (r : A) : Prop := ∃ s : List UInt8, r = .c (.d (.str s)) ∧ s.length ≤ n ∧ Q s
theorem StrN.re {n m : Nat} {Q : List UInt8 → Prop} {r : A} (h : StrN n Q r) : A.re m r = r := by obtain ⟨s, rfl, _⟩ := h; simp [A.re, C.re]
theorem bend2_draws (s : List UInt8) (hs : s.length ≤ 100000) (l : List (List UInt8)) (hl : (1 ≤ l.length ∧ l.length ≤ 1000) ∧ ∀ x ∈ l, x.length ≤ 10) : Draws 42 [.c (.d (.str s)), .c (.d (.sl (l.map fun s => [.str s])))] 4 (StrN (s.length + 10) (BentR s l)) := fun c p H i hc hp hp1 hi => by
  refine acalls Tryz.func42 (by kernel_rfl) ac42_ok fun hf => ?_
  simp only [List.length_set] at hf
  have hf0 : ∀ q, Obs.fits H.length 0 (H.set i (Rd c q)) := fun q => fits_reset (b := Rd c q) hf ⟨trivial, trivial, trivial⟩
  have hli : inR .i64 (s.length : Int) := small_i64 (by omega) (by omega)
  have fin : ∀ (t : List UInt8) (q : Int), t.length ≤ s.length + 10 → BentR s l t → p ≤ q → q ≤ p + 4 → Drew (StrN (s.length + 10) (BentR s l)) 4 c p H i (.c (.d (.str t))) (H.set i (Rd c q)) := fun t q h hb a1 a2 => ⟨⟨t, rfl, h, hb⟩, q, a1, a2, rfl⟩
  cases hse : s with
  | nil =>
    subst hse
    simp -implicitDefEqProofs [ac42, hf0, go_sem, -List.set_cons_succ, -List.set_cons_zero]
    exact ⟨small_i64 (by omega) (by omega), fin [] p (by simp) (.inl rfl) (by omega) (by omega)⟩
  | cons b w =>
    rw [← hse]
    have hpos : 0 < s.length := by rw [hse]; simp
    have hz : ¬ ((s.length : Int) = 0) := by omega
    have hz2 : ¬ s = [] := by rw [hse]; simp
    simp -implicitDefEqProofs [ac42, hf0, hli, hz, hz2, go_sem, -List.set_cons_succ, -List.set_cons_zero]
    refine call_drawE (pick_draws 2 (by omega)) hc (by omega) (by omega) hi (by simp [Ob.re, C.re]) (fun r => IntIn.re) (hf0 _) ?_
    rintro _ p1 ⟨k, rfl, k1, k2⟩ h1 h2
    simp -implicitDefEqProofs [hf0, hli, hz, go_sem, -List.set_cons_succ, -List.set_cons_zero]
    refine ⟨fun _ => fin s p1 (by omega) (.inl rfl) (by omega) (by omega), fun _ => ?_⟩
    refine call_drawE (pick_draws s.length (by omega)) hc (by omega) (by omega) hi (by simp [Ob.re, C.re]) (fun r => IntIn.re) (hf0 _) ?_
    rintro _ p2 ⟨m, rfl, m1, m2⟩ h3 h4
    simp -implicitDefEqProofs [hf0, hli, go_sem, -List.set_cons_succ, -List.set_cons_zero]
    refine ⟨⟨m1, by omega⟩, ?_⟩
    refine call_drawE (of_draws l hl.1) hc (by omega) (by omega) hi (by simp [Ob.re, C.re]) (fun r ⟨n, _, hn⟩ => by subst hn; rfl) (hf0 _) ?_
    rintro _ p3 ⟨x, hx, rfl⟩ h5 h6
    have hxl := hl.2 x hx
    simp -implicitDefEqProofs [hf0, hli, go_sem, -List.set_cons_succ, -List.set_cons_zero]
    refine ⟨by unfold maxStr; omega, ?_⟩
    refine call_drawE (pick_draws 2 (by omega)) hc (by omega) (by omega) hi (by simp [Ob.re, C.re]) (fun r => IntIn.re) (hf0 _) ?_
    rintro _ p4 ⟨j, rfl, j1, j2⟩ h7 h8
    have hmj : inR .i64 (m + j) := small_i64 (by omega) (by omega)
    simp -implicitDefEqProofs [hf0, hli, hmj, go_sem, -List.set_cons_succ, -List.set_cons_zero]
    refine ⟨by omega, ?_⟩
    have e1 : (m + j).toNat = m.toNat + j.toNat := by omega
    have e2 : m.toNat ≤ s.length := by omega
    refine ⟨by unfold maxStr; omega, fin _ p4 ?_ ?_ (by omega) (by omega)⟩
    · simp
      omega
    · exact .inr ⟨m.toNat, j.toNat, x, by omega, by omega, hx, by simp [e1]⟩
def PQ (d : Nat) (t : Tm) : Prop := VW d t ∧ Dn (d - 1) t
theorem PQ.up {d e : Nat} {t : Tm} (h : PQ d t) (hde : d ≤ e) : PQ e t := ⟨h.1.up hde, h.2.up (by omega)⟩
theorem names_txt : ∀ s ∈ drawNames, s ∈ txtN := by decide
theorem l1DrawQ : ∀ d : Nat, 1 ≤ d → d ≤ 6 → Draws 56 [.c (.d (.int .i64 d))] ((5 * 4 ^ d : Nat) : Int) (TmP (PQ d))
  | 0, h, _ => absurd h (by omega)
  | 1, _, h => draw_of (P := PQ 1) (Q := fun _ => False)
      (fun n h0 h1 => ⟨⟨by simp [Tm.shape, Tm.ownB, shapes, h0, h1], by simp [Tm.size, sizes, sz3]⟩, .inl ⟨n, h0, h1, rfl⟩⟩)
      (fun n h0 h1 => ⟨⟨by simp [Tm.shape, Tm.ownB, shapes, h0, h1], by simp [Tm.size, sizes, sz3]⟩, .inr (.inl ⟨n, h0, h1, rfl⟩)⟩)
      (fun s hs l hl hq => by
        cases l with
        | nil => exact ⟨⟨struct_shape (names_ok s hs) (by simp) (by simp), by simp [Tm.size, sizes, sz3]⟩, .inr (.inr ⟨s, names_txt s hs, rfl⟩)⟩
        | cons a l => exact (hq a (by simp)).elim) 1 h 0 _ (by omega) (by decide) (fun h => absurd h (by omega))
  | d + 2, _, h => by
    refine draw_of (P := PQ (d + 2)) (Q := PQ (d + 1))
      (fun n h0 h1 => ⟨⟨by simp [Tm.shape, Tm.ownB, shapes, h0, h1], by have := sz3_pos (d + 2); simp [Tm.size, sizes]; omega⟩, Dn.leaf (.inl ⟨n, h0, h1, rfl⟩) _⟩)
      (fun n h0 h1 => ⟨⟨by simp [Tm.shape, Tm.ownB, shapes, h0, h1], by have := sz3_pos (d + 2); simp [Tm.size, sizes]; omega⟩, Dn.leaf (.inr (.inl ⟨n, h0, h1, rfl⟩)) _⟩)
      (fun s hs l hl hq => ⟨⟨struct_shape (names_ok s hs) (by omega) fun t ht => (hq t ht).1.1, by
        have h1 := sizes_of (l := l) fun t ht => (hq t ht).1.2
        have h2 : l.length * sz3 (d + 1) ≤ 3 * sz3 (d + 1) := Nat.mul_le_mul_right _ hl
        rw [Tm.size, sz3]
        omega⟩, .inr ⟨s, names_txt s hs, l, rfl, hl, fun t ht => (hq t ht).2⟩⟩)
      (d + 2) h ((5 * 4 ^ (d + 1) : Nat) : Int) _ (by omega) ?_ fun _ => ?_
    · have : 0 < 4 ^ (d + 1) := Nat.pos_of_ne_zero (by simp)
      have e : 4 ^ (d + 2) = 4 * 4 ^ (d + 1) := by rw [Nat.pow_succ (n := 4) (m := d + 1)]; omega
      omega
    · have := l1DrawQ (d + 1) (by omega) (by omega)
      rw [show (((d + 2 : Nat) : Int) - 1) = ((d + 1 : Nat) : Int) by omega]
      exact this
theorem ops_txt : ∀ s ∈ ([[43], [45], [42], [105, 115], [109, 111, 100], [61], [47, 47], [61, 60]] : List (List UInt8)), s ∈ txtN := by decide
def VQ2 (d : Nat) : Tm → Prop := PQ (max d 1)
theorem l2DrawP : ∀ d : Nat, d ≤ 5 → Draws 36 [.c (.d (.int .i64 d))] (nD d) (TmP (VQ2 d))
  | 0, hd => fun c p H i hc hp hp1 hi => by
    have hn := nD_le hd
    refine acalls Tryz.func36 (by kernel_rfl) ac36_ok fun hf => ?_
    simp only [List.length_set] at hf
    have hf0 : ∀ q, Obs.fits H.length 0 (H.set i (Rd c q)) := fun q => fits_reset (b := Rd c q) hf ⟨trivial, trivial, trivial⟩
    simp -implicitDefEqProofs [ac36, hf0, go_sem, -List.set_cons_succ, -List.set_cons_zero]
    have e : nD 0 = 26 := by unfold nD; rfl
    rw [e] at hp1 ⊢
    refine call_drawE (((l1DrawQ 1 (by omega) (by omega)).imp (R' := TmP (VQ2 0)) fun r => TmP.imp fun t h => h).mono (N' := 26) (by decide)) hc (by omega) (by omega) hi (by simp [Ob.re, C.re]) (fun r => TmP.re) (hf0 _) ?_
    rintro _ p1 ⟨t, rfl, ht, hV⟩ h1 h2
    simp -implicitDefEqProofs [hf0, row_len, take_row, pure_d, re_d, thaw_d, fits_map, go_sem, -List.set_cons_succ, -List.set_cons_zero]
    exact ⟨⟨t, rfl, ht, hV⟩, p1, by omega, by omega, rfl⟩
  | d + 1, hd => fun c p H i hc hp hp1 hi => by
    have ih := l2DrawP d (by omega)
    have hn := nD_le hd
    have h4 : 0 < 4 ^ d := Nat.pos_of_ne_zero (by simp)
    have hpow : 4 ^ (d + 1) = 4 * 4 ^ d := by rw [Nat.pow_succ]; omega
    refine acalls Tryz.func36 (by kernel_rfl) ac36_ok fun hf => ?_
    simp only [List.length_set] at hf
    have hf0 : ∀ q, Obs.fits H.length 0 (H.set i (Rd c q)) := fun q => fits_reset (b := Rd c q) hf ⟨trivial, trivial, trivial⟩
    have hf1 : ∀ q, Obs.fits (H.set i (Rd c q)).length 0 (H.set i (Rd c q)) := fun q => by simpa using hf0 q
    have fin : ∀ (t : Tm) (q : Int), t.fits → VQ2 (d + 1) t → p ≤ q → q ≤ p + nD (d + 1) → Drew (TmP (VQ2 (d + 1))) (nD (d + 1)) c p H i (.agg (t.row.map .d)) (H.set i (Rd c q)) := fun t q ht hV a1 a2 => ⟨⟨t, rfl, ht, hV⟩, q, a1, a2, rfl⟩
    have m1 : Draws 56 [.c (.d (.int .i64 1))] (nD (d + 1)) (TmP (VQ2 (d + 1))) := ((l1DrawQ 1 (by omega) (by omega)).imp fun r => TmP.imp fun t h => h.up (by omega)).mono (by unfold nD; omega)
    have e1 : ((d + 1 : Nat) : Int) = (d : Int) + 1 := by omega
    have m2 : Draws 56 [.c (.d (.int .i64 ((d : Int) + 1)))] (nD (d + 1) - 1) (TmP (VQ2 (d + 1))) := by
      have := (l1DrawQ (d + 1) (by omega) (by omega)).imp (R' := TmP (VQ2 (d + 1))) fun r => TmP.imp fun t h => h.up (by omega)
      rw [e1] at this
      exact this.mono (by unfold nD; omega)
    have hVst : ∀ {u w : Tm}, VQ2 d u → VQ2 d w → ∀ s, s ∈ txtN → nameB s = true → d ≠ 0 → VQ2 (d + 1) (.mk 3 0 s [u, w]) := fun {u w} h1 h2 s hst hs h0 => by
      unfold VQ2 at h1 h2 ⊢
      rw [Nat.max_eq_left (by omega)] at h1 h2 ⊢
      have hp := sz3_pos d
      refine ⟨⟨struct_shape hs (by simp) (by simp [h1.1.1, h2.1.1]), ?_⟩, ?_⟩
      · have g1 := h1.1.2
        have g2 := h2.1.2
        simp only [Tm.size, sizes, sz3]
        omega
      · have : d + 1 - 1 = (d - 1) + 1 := by omega
        rw [this]
        exact .inr ⟨s, hst, [u, w], rfl, by simp, by simp [h1.2, h2.2]⟩
    rw [e1]
    by_cases hd2 : d = 0
    · subst hd2
      simp -implicitDefEqProofs [ac36, hf0, go_sem, -List.set_cons_succ, -List.set_cons_zero]
      refine call_drawE m1 hc (by omega) (by omega) hi (by simp [Ob.re, C.re]) (fun r => TmP.re) (hf0 _) ?_
      rintro _ p1 ⟨t, rfl, ht, hV⟩ h1 h2
      simp -implicitDefEqProofs [hf0, row_len, take_row, pure_d, re_d, thaw_d, fits_map, go_sem, -List.set_cons_succ, -List.set_cons_zero]
      exact fin t p1 ht hV (by omega) (by omega)
    · have hge : ¬ ((d : Int) + 1 < 2) := by omega
      have hsub : inR .i64 ((d : Int) + 1 - 1) := small_i64 (by omega) (by omega)
      have esub : (d : Int) + 1 - 1 = d := by omega
      have hdi : inR .i64 (d : Int) := small_i64 (by omega) (by omega)
      have hNN : nD (d + 1) = 6 * 4 * (4 ^ d : Nat) + 20 ∧ nD d = 6 * (4 ^ d : Nat) + 20 ∧ (4 : Int) ≤ (4 ^ d : Nat) := by
        have : 4 ^ 1 ≤ 4 ^ d := Nat.pow_le_pow_right (by omega) (by omega)
        unfold nD
        rw [hpow]
        omega
      simp -implicitDefEqProofs [ac36, hge, hf0, go_sem, -List.set_cons_succ, -List.set_cons_zero]
      refine call_drawE (pick_draws 3 (by omega)) hc (by omega) (by omega) hi (by simp [Ob.re, C.re]) (fun r => IntIn.re) (hf0 _) ?_
      rintro _ p1 ⟨k, rfl, k1, k2⟩ h1 h2
      simp -implicitDefEqProofs [hf0, hsub, esub, hdi, go_sem, -List.set_cons_succ, -List.set_cons_zero]
      refine ⟨fun _ => ?_, fun _ => ?_⟩
      · refine call_drawE m2 hc (by omega) (by omega) hi (by simp [Ob.re, C.re]) (fun r => TmP.re) (hf0 _) ?_
        rintro _ p2 ⟨t, rfl, ht, hV⟩ h3 h5
        simp -implicitDefEqProofs [hf0, row_len, take_row, pure_d, re_d, thaw_d, fits_map, go_sem, -List.set_cons_succ, -List.set_cons_zero]
        exact fin t p2 ht hV (by omega) (by omega)
      · refine call_drawE (of_draws [[43], [45], [42], [105, 115], [109, 111, 100], [61], [47, 47], [61, 60]] (by decide)) hc (by omega) (by omega) hi (by simp [Ob.re, C.re]) (fun r ⟨n, _, hn⟩ => by subst hn; rfl) (hf0 _) ?_
        rintro _ p2 ⟨s, hs, rfl⟩ h3 h5
        have hs0 := hs
        have hsn : nameB s = true := by simp at hs; rcases hs with rfl | rfl | rfl | rfl | rfl | rfl | rfl | rfl <;> decide
        have hsl : s.length ≤ 3 := by simp at hs; rcases hs with rfl | rfl | rfl | rfl | rfl | rfl | rfl | rfl <;> decide
        simp -implicitDefEqProofs [hf0, hsub, esub, hdi, go_sem, -List.set_cons_succ, -List.set_cons_zero]
        refine call_drawE ih hc (by omega) (by omega) hi (by simp [Ob.re, C.re]) (fun r => TmP.re) (hf0 _) ?_
        rintro _ p3 ⟨u, rfl, hu, huV⟩ h6 h7
        simp -implicitDefEqProofs [hf0, hsub, esub, hdi, row_len, take_row, pure_d, re_d, go_sem, -List.set_cons_succ, -List.set_cons_zero]
        refine call_drawE ih hc (by omega) (by omega) hi (by simp [Ob.re, C.re]) (fun r => TmP.re) (hf0 _) ?_
        rintro _ p4 ⟨w, rfl, hw, hwV⟩ h8 h9
        have hst := struct_calls s [u, w] (by simp)
        simp only [List.map_cons, List.map_nil] at hst
        simp -implicitDefEqProofs [hf0, row_len, take_row, pure_d, re_d, toDs_map, go_sem, -List.set_cons_succ, -List.set_cons_zero]
        refine qcall_pure hst (hf1 _) (by simp [A.re, re_d]) ?_
        simp -implicitDefEqProofs [hf0, row_len, take_row, pure_d, re_d, thaw_d, fits_map, go_sem, -List.set_cons_succ, -List.set_cons_zero]
        exact fin (.mk 3 0 s [u, w]) p4 (.mk (by decide) (by decide) (by omega) (by simp) (by simp [hu, hw])) (hVst huV hwV s (ops_txt s hs0) hsn hd2) (by omega) (by omega)
/-- a drawn text -/
theorem drawRt2_calls (c : List UInt8) (hc : c.length ≤ 1048576) (H : Heap) : ACalls Tryz.prog 19 [.c (.d (.sl (bytesRows c)))] H (fun r H' => H' = H ∧ StrN 100010 (fun u => ∃ w, Sq 4 10 0 w ∧ BentR w bits9 u) r) := by
  refine acalls Tryz.func19 (by kernel_rfl) ac19_ok fun hf => ?_
  simp -implicitDefEqProofs [ac19, go_sem, -List.set_cons_succ, -List.set_cons_zero]
  refine (open_calls c hc _).mono fun r H' ⟨h1, c', hc', h2⟩ => ⟨H, [Rd c' 0], .c (.ptr (.l 0) 0), by rw [h2]; simp [Rd, Ob.re, C.re], rfl, by simp, hf, by rw [h1]; simp [A.re, C.re, Ref.re], ?_⟩
  simp -implicitDefEqProofs [go_sem, -List.set_cons_succ, -List.set_cons_zero]
  refine call_drawL (j := 0) (num_draws [3, 2, 4, 1] (by decide)) hc' (by omega) (by omega) rfl (by simp [Rd, Ob.re, C.re]) (fun r ⟨n, _, hn⟩ => by subst hn; rfl) hf ?_
  rintro _ p1 ⟨n, hn, rfl⟩ h1 h2
  obtain ⟨d, rfl, hd⟩ : ∃ d : Nat, n = (d : Int) ∧ d ≤ 4 := ⟨n.toNat, by simp at hn; omega, by simp at hn; omega⟩
  have hnd := nD_le (d := d) (by omega)
  simp -implicitDefEqProofs [go_sem, -List.set_cons_succ, -List.set_cons_zero]
  refine call_drawL (j := 0) (l2DrawP d (by omega)) hc' (by omega) (by omega) rfl (by simp [Rd, Ob.re, C.re]) (fun r => TmP.re) hf ?_
  rintro _ p2 ⟨t, rfl, ht, hV⟩ h3 h4
  have hV5 : PQ 4 t := PQ.up hV (by omega)
  have hV4 : VW 4 t := hV5.1
  have hs121 : t.size ≤ 121 := hV4.2
  have hok : t.ok := ⟨ht, shape_good t 5 hV4.1, by omega⟩
  have hwl := hok.len.1
  simp -implicitDefEqProofs [row_len, take_row, pure_d, re_d, go_sem, -List.set_cons_succ, -List.set_cons_zero]
  refine qcall_pure (text_calls t.size t (Nat.le_refl _) hok) hf rfl ?_
  simp -implicitDefEqProofs [go_sem, -List.set_cons_succ, -List.set_cons_zero]
  refine call_drawL (j := 0) (bend2_draws t.wr (by omega) bits9 (by decide)) hc' (by omega) (by omega) rfl (by simp [Rd, Ob.re, C.re]) (fun r => StrN.re) hf ?_
  rintro _ p3 ⟨u, rfl, hu, hbe⟩ h5 h6
  simp -implicitDefEqProofs [hf, go_sem, -List.set_cons_succ, -List.set_cons_zero]
  exact ⟨u, rfl, by omega, t.wr, (wr_sq 3 (by omega) t hV5.2).1, hbe⟩
end Go.Proofs.YtgfmlifkhpjplaaGreatDoor

/-
  strconv.Itoa as a call of the abstract machine, where the table that it reads is told.
  Conditions: none.
-/
open Go Go.AM Go.Proofs
namespace Go.Proofs
open Go.Shelf
def Tryz.laysM171_ren : Go.Shelf.Ren := ⟨fun | 171 => 91 | 243 => 121 | 246 => 133 | 283 => 139 | 284 => 140 | 285 => 141 | 286 => 142 | 129 => 151 | 317 => 150 | 318 => 152 | 319 => 153 | 320 => 154 | 337 => 158 | 338 => 159 | n => n, fun | 3 => 3 | 9 => 9 | 2 => 2 | 4 => 4 | 171 => 113 | 0 => 0 | 53 => 114 | 37 => 30 | 5 => 5 | 173 => 117 | 212 => 129 | 51 => 130 | 20 => 20 | 213 => 131 | 46 => 133 | 232 => 145 | 233 => 146 | n => n, fun | 17 => 0 | 18 => 4 | 19 => 5 | n => n⟩
theorem Tryz.laysM171 : Go.Proofs.LaysM.n171 Tryz.prog Tryz.laysM171_ren := {
  mixed := by kernel_rfl
  f129 := Tryz.func151.trans (congrArg some (by kernel_rfl))
  f171 := Tryz.func91.trans (congrArg some (by kernel_rfl))
  f243 := Tryz.func121.trans (congrArg some (by kernel_rfl))
  f246 := Tryz.func133.trans (congrArg some (by kernel_rfl))
  f283 := Tryz.func139.trans (congrArg some (by kernel_rfl))
  f284 := Tryz.func140.trans (congrArg some (by kernel_rfl))
  f285 := Tryz.func141.trans (congrArg some (by kernel_rfl))
  f286 := Tryz.func142.trans (congrArg some (by kernel_rfl))
  f317 := Tryz.func150.trans (congrArg some (by kernel_rfl))
  f318 := Tryz.func152.trans (congrArg some (by kernel_rfl))
  f319 := Tryz.func153.trans (congrArg some (by kernel_rfl))
  f320 := Tryz.func154.trans (congrArg some (by kernel_rfl))
  f337 := Tryz.func158.trans (congrArg some (by kernel_rfl))
  f338 := Tryz.func159.trans (congrArg some (by kernel_rfl))
  t0 := Tryz.underlying0
  a0 := Tryz.isAgg0
  z0 := Tryz.sizeOf0
  v0 := Tryz.zeroValue0
  t2 := Tryz.underlying2
  a2 := Tryz.isAgg2
  z2 := Tryz.sizeOf2
  v2 := Tryz.zeroValue2
  t3 := Tryz.underlying3
  a3 := Tryz.isAgg3
  z3 := Tryz.sizeOf3
  v3 := Tryz.zeroValue3
  t4 := Tryz.underlying4
  a4 := Tryz.isAgg4
  z4 := Tryz.sizeOf4
  v4 := Tryz.zeroValue4
  t5 := Tryz.underlying5
  a5 := Tryz.isAgg5
  z5 := Tryz.sizeOf5
  v5 := Tryz.zeroValue5
  t9 := Tryz.underlying9
  a9 := Tryz.isAgg9
  z9 := Tryz.sizeOf9
  v9 := Tryz.zeroValue9
  t20 := Tryz.underlying20
  a20 := Tryz.isAgg20
  z20 := Tryz.sizeOf20
  v20 := Tryz.zeroValue20
  t37 := Tryz.underlying30
  a37 := Tryz.isAgg30
  z37 := Tryz.sizeOf30
  v37 := Tryz.zeroValue30
  t46 := Tryz.underlying133
  a46 := Tryz.isAgg133
  z46 := Tryz.sizeOf133
  v46 := Tryz.zeroValue133
  t51 := Tryz.underlying130
  a51 := Tryz.isAgg130
  z51 := Tryz.sizeOf130
  v51 := Tryz.zeroValue130
  t53 := Tryz.underlying114
  a53 := Tryz.isAgg114
  z53 := Tryz.sizeOf114
  v53 := Tryz.zeroValue114
  t171 := Tryz.underlying113
  a171 := Tryz.isAgg113
  z171 := Tryz.sizeOf113
  v171 := Tryz.zeroValue113
  t173 := Tryz.underlying117
  a173 := Tryz.isAgg117
  z173 := Tryz.sizeOf117
  v173 := Tryz.zeroValue117
  t212 := Tryz.underlying129
  a212 := Tryz.isAgg129
  z212 := Tryz.sizeOf129
  v212 := Tryz.zeroValue129
  t213 := Tryz.underlying131
  a213 := Tryz.isAgg131
  z213 := Tryz.sizeOf131
  t232 := Tryz.underlying145
  a232 := Tryz.isAgg145
  z232 := Tryz.sizeOf145
  v232 := Tryz.zeroValue145
  t233 := Tryz.underlying146
  a233 := Tryz.isAgg146
  z233 := Tryz.sizeOf146
  v233 := Tryz.zeroValue146
  g17 := by kernel_rfl
  g18 := by kernel_rfl
  g19 := by kernel_rfl
  i0 := by kernel_rfl
  i2 := by kernel_rfl
  i3 := by kernel_rfl
  i4 := by kernel_rfl
  i5 := by kernel_rfl
  i9 := by kernel_rfl
  i20 := by kernel_rfl
  i37 := by kernel_rfl
  i46 := by kernel_rfl
  i51 := by kernel_rfl
  i53 := by kernel_rfl
  i171 := by kernel_rfl
  i173 := by kernel_rfl
  i212 := by kernel_rfl
  i232 := by kernel_rfl
  i233 := by kernel_rfl
  m17 := by kernel_rfl
  m18 := by kernel_rfl
  m19 := by kernel_rfl }
end Go.Proofs
namespace Go.Proofs.YtgfmlifkhpjplaaGreatDoor
open Go.Lib
set_option linter.unusedVariables false
set_option linter.unusedSimpArgs false
set_option maxRecDepth 100000
/-- block g holds the table -/
def Tab (g : Nat) (o : Obj) : Prop := ∀ (w : World), w.heap[g]? = some o → ∀ n : Int, -9223372036854775808 ≤ n → n ≤ 9223372036854775807 →
  Calls Tryz.prog 91 #[.int .i64 n] w fun e w' => e = .returned (.string ⟨(Lib.itoa n).toArray⟩) ∧ ∃ k os, w' = Sort.grow (w.drewN k) os
/-- what the law's rows list -/
def laid : List (String × DataW Unit) := Rows.fnExactReadTermRow.laid
theorem itoa_call {g : Nat} {o : Obj} (hT : Tab g o) (n : Int) (hn : inR .i64 n) (H : Heap) (hH : H[0]? = some (.tab g o)) : ACalls Tryz.prog 91 [.c (.d (.int .i64 n))] H (fun r H' => H' = H ∧ r = .c (.d (.str (Lib.itoa n)))) := by
  have hb := i64_def.1 hn
  refine acalls_tab_str hH ⟨_, Tryz.func91, by kernel_rfl, by decide⟩ (by have := itoa_len n hb.1 hb.2; unfold maxStr; omega) ?_
  intro w ι k cargs hw hl ha
  obtain ⟨v, rfl⟩ : ∃ v, cargs = [v] := by
    match cargs, hl with
    | [v], _ => exact ⟨v, rfl⟩
  have h1 := ha 0 _ _ rfl rfl
  cases h1 with
  | c h => cases h with
    | d h => cases h with
      | int => exact hT w hw n hb.1 hb.2
end Go.Proofs.YtgfmlifkhpjplaaGreatDoor

/-
  strconv.Atoi as a call of the abstract machine, where the variable that it reads is told.
  Conditions: none.
-/
open Go Go.AM Go.Proofs
namespace Go.Proofs
open Go.Shelf
def Tryz.laysC172_ren : Go.Shelf.Ren := ⟨fun | 172 => 129 | 244 => 136 | 245 => 137 | 247 => 145 | 279 => 146 | 280 => 147 | 281 => 148 | 282 => 149 | 287 => 155 | 316 => 156 | 171 => 91 | 205 => 157 | 321 => 160 | 322 => 161 | 243 => 121 | 246 => 133 | 283 => 139 | 284 => 140 | 285 => 141 | 286 => 142 | 129 => 151 | 317 => 150 | 318 => 152 | 319 => 153 | 320 => 154 | 337 => 158 | 338 => 159 | n => n, fun | 9 => 9 | 3 => 3 | 75 => 105 | 76 => 106 | 4 => 4 | 5 => 5 | 167 => 122 | 37 => 30 | 0 => 0 | 85 => 123 | 2 => 2 | 168 => 125 | 53 => 114 | 175 => 135 | 46 => 133 | 210 => 138 | 127 => 110 | 145 => 144 | 143 => 142 | 21 => 21 | 171 => 113 | 173 => 117 | 212 => 129 | 51 => 130 | 20 => 20 | 213 => 131 | 232 => 145 | 233 => 146 | 80 => 87 | n => n, fun | 15 => 2 | 16 => 3 | 17 => 0 | 18 => 4 | 19 => 5 | n => n⟩
theorem Tryz.laysC172 : Go.Proofs.LaysC.n172 Tryz.prog Tryz.laysC172_ren := {
  mixed := by kernel_rfl
  f129 := Tryz.func151.trans (congrArg some (by kernel_rfl))
  f171 := Tryz.func91.trans (congrArg some (by kernel_rfl))
  f172 := Tryz.func129.trans (congrArg some (by kernel_rfl))
  f205 := Tryz.func157.trans (congrArg some (by kernel_rfl))
  f243 := Tryz.func121.trans (congrArg some (by kernel_rfl))
  f244 := Tryz.func136.trans (congrArg some (by kernel_rfl))
  f245 := Tryz.func137.trans (congrArg some (by kernel_rfl))
  f246 := Tryz.func133.trans (congrArg some (by kernel_rfl))
  f247 := Tryz.func145.trans (congrArg some (by kernel_rfl))
  f279 := Tryz.func146.trans (congrArg some (by kernel_rfl))
  f280 := Tryz.func147.trans (congrArg some (by kernel_rfl))
  f281 := Tryz.func148.trans (congrArg some (by kernel_rfl))
  f282 := Tryz.func149.trans (congrArg some (by kernel_rfl))
  f283 := Tryz.func139.trans (congrArg some (by kernel_rfl))
  f284 := Tryz.func140.trans (congrArg some (by kernel_rfl))
  f285 := Tryz.func141.trans (congrArg some (by kernel_rfl))
  f286 := Tryz.func142.trans (congrArg some (by kernel_rfl))
  f287 := Tryz.func155.trans (congrArg some (by kernel_rfl))
  f316 := Tryz.func156.trans (congrArg some (by kernel_rfl))
  f317 := Tryz.func150.trans (congrArg some (by kernel_rfl))
  f318 := Tryz.func152.trans (congrArg some (by kernel_rfl))
  f319 := Tryz.func153.trans (congrArg some (by kernel_rfl))
  f320 := Tryz.func154.trans (congrArg some (by kernel_rfl))
  f321 := Tryz.func160.trans (congrArg some (by kernel_rfl))
  f322 := Tryz.func161.trans (congrArg some (by kernel_rfl))
  f337 := Tryz.func158.trans (congrArg some (by kernel_rfl))
  f338 := Tryz.func159.trans (congrArg some (by kernel_rfl))
  t0 := Tryz.underlying0
  a0 := Tryz.isAgg0
  z0 := Tryz.sizeOf0
  v0 := Tryz.zeroValue0
  t2 := Tryz.underlying2
  a2 := Tryz.isAgg2
  z2 := Tryz.sizeOf2
  v2 := Tryz.zeroValue2
  t3 := Tryz.underlying3
  a3 := Tryz.isAgg3
  z3 := Tryz.sizeOf3
  v3 := Tryz.zeroValue3
  t4 := Tryz.underlying4
  a4 := Tryz.isAgg4
  z4 := Tryz.sizeOf4
  v4 := Tryz.zeroValue4
  t5 := Tryz.underlying5
  a5 := Tryz.isAgg5
  z5 := Tryz.sizeOf5
  v5 := Tryz.zeroValue5
  t9 := Tryz.underlying9
  a9 := Tryz.isAgg9
  z9 := Tryz.sizeOf9
  v9 := Tryz.zeroValue9
  t20 := Tryz.underlying20
  a20 := Tryz.isAgg20
  z20 := Tryz.sizeOf20
  v20 := Tryz.zeroValue20
  t21 := Tryz.underlying21
  a21 := Tryz.isAgg21
  z21 := Tryz.sizeOf21
  v21 := Tryz.zeroValue21
  t37 := Tryz.underlying30
  a37 := Tryz.isAgg30
  z37 := Tryz.sizeOf30
  v37 := Tryz.zeroValue30
  t46 := Tryz.underlying133
  a46 := Tryz.isAgg133
  z46 := Tryz.sizeOf133
  v46 := Tryz.zeroValue133
  t51 := Tryz.underlying130
  a51 := Tryz.isAgg130
  z51 := Tryz.sizeOf130
  v51 := Tryz.zeroValue130
  t53 := Tryz.underlying114
  a53 := Tryz.isAgg114
  z53 := Tryz.sizeOf114
  v53 := Tryz.zeroValue114
  t75 := Tryz.underlying105
  a75 := Tryz.isAgg105
  z75 := Tryz.sizeOf105
  v75 := Tryz.zeroValue105
  t76 := Tryz.underlying106
  a76 := Tryz.isAgg106
  z76 := Tryz.sizeOf106
  v76 := Tryz.zeroValue106
  t85 := Tryz.underlying123
  a85 := Tryz.isAgg123
  z85 := Tryz.sizeOf123
  v85 := Tryz.zeroValue123
  t127 := Tryz.underlying110
  a127 := Tryz.isAgg110
  z127 := Tryz.sizeOf110
  v127 := Tryz.zeroValue110
  t143 := Tryz.underlying142
  a143 := Tryz.isAgg142
  z143 := Tryz.sizeOf142
  v143 := Tryz.zeroValue142
  t145 := Tryz.underlying144
  a145 := Tryz.isAgg144
  z145 := Tryz.sizeOf144
  v145 := Tryz.zeroValue144
  t167 := Tryz.underlying122
  a167 := Tryz.isAgg122
  z167 := Tryz.sizeOf122
  v167 := Tryz.zeroValue122
  t168 := Tryz.underlying125
  a168 := Tryz.isAgg125
  z168 := Tryz.sizeOf125
  v168 := Tryz.zeroValue125
  t171 := Tryz.underlying113
  a171 := Tryz.isAgg113
  z171 := Tryz.sizeOf113
  v171 := Tryz.zeroValue113
  t173 := Tryz.underlying117
  a173 := Tryz.isAgg117
  z173 := Tryz.sizeOf117
  v173 := Tryz.zeroValue117
  t175 := Tryz.underlying135
  a175 := Tryz.isAgg135
  z175 := Tryz.sizeOf135
  v175 := Tryz.zeroValue135
  t210 := Tryz.underlying138
  a210 := Tryz.isAgg138
  z210 := Tryz.sizeOf138
  v210 := Tryz.zeroValue138
  t212 := Tryz.underlying129
  a212 := Tryz.isAgg129
  z212 := Tryz.sizeOf129
  v212 := Tryz.zeroValue129
  t213 := Tryz.underlying131
  a213 := Tryz.isAgg131
  z213 := Tryz.sizeOf131
  t232 := Tryz.underlying145
  a232 := Tryz.isAgg145
  z232 := Tryz.sizeOf145
  v232 := Tryz.zeroValue145
  t233 := Tryz.underlying146
  a233 := Tryz.isAgg146
  z233 := Tryz.sizeOf146
  v233 := Tryz.zeroValue146
  g15 := by kernel_rfl
  g16 := by kernel_rfl
  g17 := by kernel_rfl
  g18 := by kernel_rfl
  g19 := by kernel_rfl
  t80 := Tryz.underlying87
  a80 := Tryz.isAgg87
  z80 := Tryz.sizeOf87
  v80 := Tryz.zeroValue87
  i0 := by kernel_rfl
  i2 := by kernel_rfl
  i3 := by kernel_rfl
  i4 := by kernel_rfl
  i5 := by kernel_rfl
  i9 := by kernel_rfl
  i20 := by kernel_rfl
  i21 := by kernel_rfl
  i37 := by kernel_rfl
  i46 := by kernel_rfl
  i51 := by kernel_rfl
  i53 := by kernel_rfl
  i75 := by kernel_rfl
  i76 := by kernel_rfl
  i80 := by kernel_rfl
  i85 := by kernel_rfl
  i127 := by kernel_rfl
  i143 := by kernel_rfl
  i145 := by kernel_rfl
  i167 := by kernel_rfl
  i168 := by kernel_rfl
  i171 := by kernel_rfl
  i173 := by kernel_rfl
  i175 := by kernel_rfl
  i210 := by kernel_rfl
  i212 := by kernel_rfl
  i232 := by kernel_rfl
  i233 := by kernel_rfl
  m15 := by kernel_rfl
  m16 := by kernel_rfl
  m17 := by kernel_rfl
  m18 := by kernel_rfl
  m19 := by kernel_rfl
  c0 := by kernel_rfl
  c2 := by kernel_rfl
  c3 := by kernel_rfl
  c4 := by kernel_rfl
  c5 := by kernel_rfl
  c9 := by kernel_rfl
  c20 := by kernel_rfl
  c21 := by kernel_rfl
  c37 := by kernel_rfl
  c46 := by kernel_rfl
  c51 := by kernel_rfl
  c53 := by kernel_rfl
  c75 := by kernel_rfl
  c76 := by kernel_rfl
  c80 := by kernel_rfl
  c85 := by kernel_rfl
  c127 := by kernel_rfl
  c143 := by kernel_rfl
  c145 := by kernel_rfl
  c167 := by kernel_rfl
  c168 := by kernel_rfl
  c171 := by kernel_rfl
  c173 := by kernel_rfl
  c175 := by kernel_rfl
  c210 := by kernel_rfl
  c212 := by kernel_rfl
  c213 := by kernel_rfl
  c232 := by kernel_rfl
  c233 := by kernel_rfl }
end Go.Proofs
namespace Go.Proofs.YtgfmlifkhpjplaaGreatDoor
open Go.Lib Go.RowKit
set_option linter.unusedVariables false
set_option linter.unusedSimpArgs false
set_option maxRecDepth 100000
/-- the variable that is read when a number is too large holds an error -/
def ERg (o : Obj) : Prop := ∀ w : World, w.heap[3]? = some o → ∃ u v, w.cell? ⟨3, 0, none⟩ = some (.iface u v)
/-- what the calls of the library read -/
def Lib2 (ts : List (Nat × Obj)) : Prop := ∃ o o2, ts = [(0, o), (3, o2)] ∧ Tab 0 o ∧ ERg o2
/-- what strconv.Atoi gives -/
def AtoiR (s : List UInt8) (r : A) : Prop := ∃ n e, inR .i64 n ∧ r = .tup [.c (.d (.int .i64 n)), .c (.d (.v e))] ∧ ((e = .nilIface ∧ atoiAll s = .ok n) ∨ ∃ p q, e = .iface p q ∧ atoiAll s = .range)
/-- neither a number nor one that is too large: no -/
def endOk {α : Type} : NumEnd α → Bool
  | .ok _ => true
  | .range => true
  | _ => false
theorem atoi_call {o : Obj} (hT : ERg o) (s : List UInt8) (hs : s.length ≤ 2000000) (hsy : endOk (atoiAll s) = true) (H : Heap) (hH : H[1]? = some (.tab 3 o)) : ACalls Tryz.prog 129 [.c (.d (.str s))] H (fun r H' => H' = H ∧ AtoiR s r) := by
  refine acalls_tab_any hH ⟨_, Tryz.func129, by kernel_rfl, by decide⟩ ?_
  intro w ι k cargs hw hl ha
  obtain ⟨v, rfl⟩ : ∃ v, cargs = [v] := by
    match cargs, hl with
    | [v], _ => exact ⟨v, rfl⟩
  have h1 := ha 0 _ _ rfl rfl
  obtain ⟨t, rfl, ht⟩ : ∃ t : ByteArray, v = .string t ∧ t.data.toList = s := by
    cases h1 with
    | c h => cases h with
      | d h => cases h with
        | str t ht => exact ⟨t, rfl, rfl⟩
  have hsz : t.size = s.length := by rw [← ht]; rfl
  obtain ⟨u, v, hc⟩ := hT w hw
  rw [← ht] at hsy
  cases hr : atoiAll t.data.toList with
  | ok n =>
    obtain ⟨b0, b1⟩ := atoiAll_bounds hr
    refine (Any.strconv_Atoi_ok Tryz.laysC172 t (by omega) n hr w).mono ?_
    rintro e w' ⟨rfl, hw'⟩
    refine ⟨_, .tup [.c (.d (.int .i64 n)), .c (.d (.v .nilIface))], rfl, ⟨n, .nilIface, i64_def.2 ⟨b0, by omega⟩, rfl, .inl ⟨rfl, by rw [← ht]; exact hr⟩⟩, fun w ι m => ?_, ?_⟩
    · exact RA.tup (vs := [.int .i64 n, .nilIface]) rfl fun i a v h1 h2 => by
        match i with
        | 0 => cases h1; cases h2; exact .mkInt (i64_def.2 ⟨b0, by omega⟩)
        | 1 => cases h1; cases h2; exact .c (.d (.v _ rfl))
    · rcases hw' with rfl | ⟨q, rfl⟩
      · exact .refl _ _
      · exact bytesWorld_below _ _ _
  | range =>
    obtain ⟨b0, b1⟩ := atoiSat_bounds t.data.toList
    refine (Any.strconv_Atoi_range Tryz.laysC172 t (by omega) hr _ w hc (.inr ⟨_, _, rfl⟩)).mono ?_
    rintro e w' ⟨N, rfl, _, _, hb⟩
    have key : ∀ e : Value, e.oneCell' = true → (∃ p q, e = .iface p q) → ∃ v r, (Ending.returned (.tuple #[.int .i64 (atoiSat t.data.toList), e])) = .returned v ∧ AtoiR s r ∧ (∀ (w : World) (ι : List K) (n : Nat), RA w ι n r v) ∧ Below w.heap.size w w' := fun e he hpq => by
      obtain ⟨p, q, rfl⟩ := hpq
      refine ⟨_, .tup [.c (.d (.int .i64 (atoiSat t.data.toList))), .c (.d (.v (.iface p q)))], rfl, ⟨atoiSat t.data.toList, .iface p q, i64_def.2 ⟨by omega, by omega⟩, rfl, .inr ⟨p, q, rfl, by rw [← ht]; exact hr⟩⟩, fun w ι m => ?_, hb⟩
      exact RA.tup (vs := [.int .i64 _, .iface _ _]) rfl fun i a v h1 h2 => by
        match i with
        | 0 => cases h1; cases h2; exact .mkInt (i64_def.2 ⟨by omega, by omega⟩)
        | 1 => cases h1; cases h2; exact .c (.d (.v _ rfl))
    exact key _ rfl ⟨_, _, rfl⟩
  | _ => rw [hr] at hsy; cases hsy
end Go.Proofs.YtgfmlifkhpjplaaGreatDoor

/-
  The program's reader: the object that it works on, and its smallest steps.
  Conditions: none.
-/
open Go Go.AM Go.Proofs
namespace Go.Proofs.YtgfmlifkhpjplaaGreatDoor
open Go.ChangeShapes Go.WideShapes Go.ChangeAt Go.RowKit
set_option linter.unusedVariables false
set_option linter.unusedSimpArgs false
set_option maxRecDepth 100000
-- 110 (*loop.example/prologserver/impl.reader).stop params 2 ntmps 15
def ac110 : Cd := .seq (.region [⟨(some 4),.alloc [(.d (.int .i64 0)),(.d (.int .i64 0)),(.d (.str [])),(.full [])],none⟩] [])
 (.seq (.seq (.region [⟨(some 5),.mv (.t 0),none⟩,
 ⟨(some 6),.nilCheck (.t 5),none⟩,
 ⟨(some 7),.fieldAddr 2 (.t 6),none⟩,
 ⟨(some 8),.load none (.t 7),none⟩,
 ⟨(some 9),.bin .lss (.t 8) (.k (.c (.d (.int .i64 0)))),none⟩] [5,6,7,8])
 (.cond (.t 9)
 (.region [⟨(some 10),.mv (.t 0),none⟩,
 ⟨(some 11),.mv (.t 1),none⟩,
 ⟨(some 12),.nilCheck (.t 10),none⟩,
 ⟨(some 13),.fieldAddr 2 (.t 12),none⟩,
 ⟨none,.store 1 (.t 13) (.t 11),none⟩] [0,1,9,10,11,12,13])
 (.skip)))
 (.seq (.region [⟨(some 14),.build [(.d (.int .i64 0)),(.d (.int .i64 0)),(.d (.str [])),(.full [])] [],none⟩,
 ⟨none,.store 4 (.t 4) (.t 14),none⟩] [0,1,9,14])
 (.ret)))
theorem ac110_ok : cFunc Tryz.prog [] [(0,[],[]),(1,[5,6,7,8],[]),(2,[0,1,9,10,11,12,13],[]),(3,[0,1,9,14],[])] Tryz.f110 = some (ac110,[.cell 4 (some 4)],15) := by kernel_rfl
-- 111 (*loop.example/prologserver/impl.reader).next params 1 ntmps 29
def ac111 : Cd := .seq (.region [⟨(some 2),.mv (.k (.c (.d (.int .u8 0)))),none⟩] [2])
 (.seq (.seq (.region [⟨(some 3),.mv (.t 0),none⟩,
 ⟨(some 4),.nilCheck (.t 3),none⟩,
 ⟨(some 5),.fieldAddr 2 (.t 4),none⟩,
 ⟨(some 6),.load none (.t 5),none⟩,
 ⟨(some 7),.bin .geq (.t 6) (.k (.c (.d (.int .i64 0)))),none⟩,
 ⟨(some 8),.mv (.t 7),none⟩,
 ⟨(some 9),.mv (.t 0),some (8,false)⟩,
 ⟨(some 10),.nilCheck (.t 9),some (8,false)⟩,
 ⟨(some 11),.fieldAddr 1 (.t 10),some (8,false)⟩,
 ⟨(some 13),.mv (.t 0),some (8,false)⟩,
 ⟨(some 14),.nilCheck (.t 13),some (8,false)⟩,
 ⟨(some 15),.fieldAddr 0 (.t 14),some (8,false)⟩,
 ⟨(some 12),.load none (.t 11),some (8,false)⟩,
 ⟨(some 16),.load none (.t 15),some (8,false)⟩,
 ⟨(some 17),.len 0 (.t 16),some (8,false)⟩,
 ⟨(some 18),.bin .geq (.t 12) (.t 17),some (8,false)⟩,
 ⟨(some 19),.pick (.t 8) (.k (.c (.d (.bool true)))) (.t 18),none⟩] [3,4,5,6,7,8,9,10,11,12,13,14,15,16,17,18])
 (.cond (.t 19)
 (.seq (.region [⟨(some 2),.mv (.k (.c (.d (.int .u8 0)))),none⟩] [0,19])
 (.ret))
 (.skip)))
 (.seq (.region [⟨(some 20),.mv (.t 0),none⟩,
 ⟨(some 21),.nilCheck (.t 20),none⟩,
 ⟨(some 22),.fieldAddr 0 (.t 21),none⟩,
 ⟨(some 24),.mv (.t 0),none⟩,
 ⟨(some 25),.nilCheck (.t 24),none⟩,
 ⟨(some 26),.fieldAddr 1 (.t 25),none⟩,
 ⟨(some 23),.load none (.t 22),none⟩,
 ⟨(some 27),.load none (.t 26),none⟩,
 ⟨(some 28),.index (.t 23) (.t 27),none⟩,
 ⟨(some 2),.mv (.t 28),none⟩] [0,19,20,21,22,23,24,25,26,27,28])
 (.ret)))
theorem ac111_ok : cFunc Tryz.prog [] [(0,[2],[]),(1,[3,4,5,6,7,8,9,10,11,12,13,14,15,16,17,18],[0,1,2,3,4,5,6,7,8,10,11,12,9,13,14,15,16]),(2,[0,19],[]),(3,[0,19,20,21,22,23,24,25,26,27,28],[0,1,2,4,5,6,3,7,8,9])] Tryz.f111 = some (ac111,[.tmp 2],29) := by kernel_rfl
def rdO (s : List UInt8) (a : Nat) (b : Int) : Ob := .cells [.d (.str s), .d (.int .i64 a), .d (.int .i64 b), .d (.bool true)]
/-- the reader in the heap -/
def ro (H : Heap) (i : Nat) (s : List UInt8) (a : Nat) (b : Int) : Heap := H.set i (rdO s a b)
/-- what the library's calls read is told -/
def Hp (H : Heap) : Prop := ∃ o o2, H[0]? = some (.tab 0 o) ∧ H[1]? = some (.tab 3 o2) ∧ Tab 0 o ∧ ERg o2
theorem ro_len (H : Heap) (i : Nat) (s : List UInt8) (a : Nat) (b : Int) : (ro H i s a b).length = H.length := by simp [ro]
theorem ro_get {H : Heap} {i : Nat} (h : i < H.length) (s : List UInt8) (a : Nat) (b : Int) : (ro H i s a b)[i]? = some (.cells [.d (.str s), .d (.int .i64 a), .d (.int .i64 b), .d (.bool true)]) := by simp [ro, rdO, h]
theorem ro_other {H : Heap} {i j : Nat} (h : j ≠ i) (s : List UInt8) (a : Nat) (b : Int) : (ro H i s a b)[j]? = H[j]? := by
  simp only [ro, List.getElem?_set]
  rw [if_neg (fun e => h e.symm)]
theorem ro_set (H : Heap) (i : Nat) (s : List UInt8) (a : Nat) (b : Int) (a' : Nat) (b' : Int) : (ro H i s a b).set i (.cells [.d (.str s), .d (.int .i64 a'), .d (.int .i64 b'), .d (.bool true)]) = ro H i s a' b' := by simp [ro, rdO]
theorem ro_set1 (H : Heap) (i : Nat) (s : List UInt8) (a : Nat) (b : Int) (k : Nat) : (ro H i s a b).set i (.cells [.d (.str s), .d (.int .i64 ((a : Int) + (k : Int))), .d (.int .i64 b), .d (.bool true)]) = ro H i s (a + k) b := by simp [ro, rdO]
theorem ro_up (H : Heap) (i : Nat) (s : List UInt8) (a : Nat) (b : Int) : (ro H i s a b).set i (.cells [.d (.str s), .d (.int .i64 ((a : Int) + 1)), .d (.int .i64 b), .d (.bool true)]) = ro H i s (a + 1) b := by simp [ro, rdO]
theorem ro_append {H L : Heap} {i : Nat} (h : i < H.length) (s : List UInt8) (a : Nat) (b : Int) : ro H i s a b ++ L = ro (H ++ L) i s a b := by
  simp only [ro]
  rw [List.set_append_left _ _ h]
theorem ro_fits {H : Heap} {i : Nat} {s s' : List UInt8} {a a' : Nat} {b b' : Int} (h : Obs.fits H.length 0 (ro H i s a b)) : Obs.fits H.length 0 (ro H i s' a' b') := by
  have e : ro H i s' a' b' = (ro H i s a b).set i (rdO s' a' b') := by simp [ro]
  rw [e]
  exact Obs_fits_set h ⟨trivial, trivial, trivial, trivial, trivial⟩
theorem hp_append {H : Heap} (hp : Hp H) (L : Heap) : Hp (H ++ L) := by
  obtain ⟨o, o2, h1, h2, h3⟩ := hp
  have l1 := (List.getElem?_eq_some_iff.1 h1).1
  have l2 := (List.getElem?_eq_some_iff.1 h2).1
  exact ⟨o, o2, by rw [List.getElem?_append_left l1]; exact h1, by rw [List.getElem?_append_left l2]; exact h2, h3⟩
/-- what a step of the reader does -/
def Mv (f : FuncId) (xs : List A) (s : List UInt8) (a : Nat) (b : Int) (r : A) (a' : Nat) (b' : Int) : Prop := ∀ (H : Heap) (i : Nat), Hp H → 2 ≤ i → i < H.length →
  ACalls Tryz.prog f (.c (.ptr (.e i) 0) :: xs) (ro H i s a b) (fun r' H' => r' = r ∧ H' = ro H i s a' b')
theorem call_mv {f : FuncId} {xs : List A} {s : List UInt8} {a a' : Nat} {b b' : Int} {r : A} (hd : Mv f xs s a b r a' b') {H : Heap} {i : Nat} {sl : List A} {loc H₂ : Heap} {K : A → St → Prop} (hp : Hp H) (h2 : 2 ≤ i) (hi : i < H.length)
    (hH : H₂ = ro H i s a b ++ loc.map (Ob.re H.length)) (hr : A.re H.length r = r) (hf : Obs.fits H.length 0 (ro H i s a b)) (hk : K r ⟨sl, ro H i s a' b', loc⟩) :
    ACalls Tryz.prog f (.c (.ptr (.e i) 0) :: xs) H₂ (CallK K ⟨sl, ro H i s a b, loc⟩) := by
  subst hH
  have h := hd (H ++ loc.map (Ob.re H.length)) i (hp_append hp _) h2 (by simp; omega)
  rw [ro_append hi]
  refine h.mono fun r' H' ⟨h1, h2⟩ => ?_
  rw [← ro_append hi] at h2
  exact ⟨ro H i s a' b', loc, r, by simpa [ro_len] using h2, by simp [ro_len], Nat.le_refl _, by simpa [ro_len] using ro_fits hf, by rw [h1]; simpa [ro_len] using hr.symm, hk⟩
def zeroA : A := .agg ((Tm.mk 0 0 [] []).row.map .d)
theorem zeroA_re (n : Nat) : A.re n zeroA = zeroA := by simp [zeroA, A.re, re_d]
theorem stop_mv (s : List UInt8) (a : Nat) (b : Int) (x : Nat) : Mv 110 [.c (.d (.int .i64 x))] s a b zeroA a (if b < 0 then (x : Int) else b) := fun H i hp h2 hi => by
  refine acalls Tryz.func110 (by kernel_rfl) ac110_ok fun hf => ?_
  rw [ro_len] at hf
  have hf1 := fun a' b' => ro_fits (s' := s) (a' := a') (b' := b') hf
  by_cases hb : b < 0
  · simp -implicitDefEqProofs [ac110, ro_get hi, ro_len, ro_set, hb, Ref.re, hf1, zeroA, row_mk, go_sem, -List.set_cons_succ, -List.set_cons_zero]
  · simp -implicitDefEqProofs [ac110, ro_get hi, ro_len, ro_set, hb, Ref.re, hf1, zeroA, row_mk, go_sem, -List.set_cons_succ, -List.set_cons_zero]
/-- the byte that stands there -/
def nxt (s : List UInt8) (a : Nat) (b : Int) : UInt8 := if 0 ≤ b then 0 else match s[a]? with
  | some c => c
  | none => 0
theorem next_mv (s : List UInt8) (hs : s.length ≤ 1000000) (a : Nat) (b : Int) (ha : a ≤ 1000000) : Mv 111 [] s a b (.c (.d (.int .u8 (nxt s a b).toNat))) a b := fun H i hp h2 hi => by
  refine acalls Tryz.func111 (by kernel_rfl) ac111_ok fun hf => ?_
  rw [ro_len] at hf
  have hli : inR .i64 (s.length : Int) := small_i64 (by omega) (by omega)
  by_cases hb : 0 ≤ b
  · simp -implicitDefEqProofs [ac111, ro_get hi, ro_len, ro_set, hb, hli, Ref.re, nxt, go_sem, -List.set_cons_succ, -List.set_cons_zero]
  · by_cases hlt : a < s.length
    · have hlt2 : ¬ (s.length : Int) ≤ a := by omega
      simp -implicitDefEqProofs [ac111, ro_get hi, ro_len, ro_set, hb, hli, hlt2, Ref.re, go_sem, -List.set_cons_succ, -List.set_cons_zero]
      refine byte_nat hlt ?_
      simp -implicitDefEqProofs [nxt, hb, hlt, go_sem, -List.set_cons_succ, -List.set_cons_zero]
    · have hlt2 : (s.length : Int) ≤ a := by omega
      simp -implicitDefEqProofs [ac111, ro_get hi, ro_len, ro_set, hb, hli, hlt2, Ref.re, nxt, hlt, go_sem, -List.set_cons_succ, -List.set_cons_zero]
end Go.Proofs.YtgfmlifkhpjplaaGreatDoor

/-
  What is written is read back: terms.
  Conditions: none.
-/
open Go Go.AM Go.Proofs
namespace Go.Proofs.YtgfmlifkhpjplaaGreatDoor
set_option linter.unusedVariables false
set_option linter.unusedSimpArgs false
set_option maxRecDepth 100000
/-! ### numbers -/
def dec3Ok (u : Nat) : Bool := canB (dec3 u) && decide (numV (dec3 u) = u) && decide ((dec3 u).length ≤ 3) && decide (1 ≤ (dec3 u).length)
theorem dec3_all : ((List.range 1000).all dec3Ok) = true := by kernel_rfl
theorem dec3_ok {u : Nat} (h : u ≤ 999) : canB (dec3 u) = true ∧ numV (dec3 u) = u ∧ (dec3 u).length ≤ 3 ∧ 1 ≤ (dec3 u).length := by
  have := List.all_eq_true.1 dec3_all u (by simp; omega)
  simp only [dec3Ok, Bool.and_eq_true, decide_eq_true_eq] at this
  exact ⟨this.1.1.1, this.1.1.2, this.1.2, this.2⟩
theorem can_digs {l : List UInt8} (h : canB l = true) : l.all digB = true := by simp only [canB, Bool.and_eq_true] at h; exact h.2
section
variable {s : List UInt8} {i : Nat} {r : List UInt8}
theorem numR_dr {n : Int} (h0 : -999 ≤ n) (h1 : n ≤ 999) (h : s.drop i = itoa3 n ++ r) (hr : ∀ c r', r = c :: r' → digB c = false) : numR s i = some (n, i + (itoa3 n).length) := by
  by_cases hneg : n < 0
  · have hi3 : itoa3 n = 45 :: dec3 n.natAbs := by unfold itoa3; rw [if_pos hneg]
    obtain ⟨d1, d2, d3, d4⟩ := dec3_ok (u := n.natAbs) (by omega)
    rw [hi3] at h ⊢
    have hs : sgn s i 45 = true := by rw [sgn_dr (c := 45) (r := dec3 n.natAbs ++ r) (by simpa using h)]; rfl
    have hd : s.drop (i + 1) = dec3 n.natAbs ++ r := by
      have := dr_add (w := [45]) (r := dec3 n.natAbs ++ r) (s := s) (i := i) (by simpa using h)
      simpa using this
    have hrun := run_dr digAt_def hd (can_digs d1) hr (n := 4) (by omega)
    have hcut := cut_dr hd
    unfold numR
    simp only [hs, if_true, hrun, hcut, d1, d2]
    have e1 : ¬ (n.natAbs = 0) := by omega
    have e2 : ¬ 999 < n.natAbs := by omega
    simp [e1, e2]
    omega
  · have hi3 : itoa3 n = dec3 n.toNat := by unfold itoa3; rw [if_neg hneg]
    obtain ⟨d1, d2, d3, d4⟩ := dec3_ok (u := n.toNat) (by omega)
    rw [hi3] at h ⊢
    have hs : sgn s i 45 = false := by
      cases hq : dec3 n.toNat with
      | nil => rw [hq] at d4; simp at d4
      | cons c y =>
        rw [hq] at h
        rw [sgn_dr (c := c) (r := y ++ r) (by simpa using h)]
        have := List.all_eq_true.1 (can_digs d1) c (by rw [hq]; simp)
        cases hc : (c == 45) with
        | false => rfl
        | true => simp at hc; subst hc; simp [digB] at this
    have hrun := run_dr digAt_def h (can_digs d1) hr (n := 4) (by omega)
    have hcut := cut_dr h
    unfold numR
    simp only [hs, Bool.false_eq_true, if_false, hrun, hcut, d1, d2]
    have e2 : ¬ 999 < n.toNat := by omega
    simp [e2]
    omega
end
/-! ### heads -/
end Go.Proofs.YtgfmlifkhpjplaaGreatDoor
