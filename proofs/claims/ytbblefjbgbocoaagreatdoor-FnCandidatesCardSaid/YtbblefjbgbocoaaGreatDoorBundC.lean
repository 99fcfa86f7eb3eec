/-
  Contracts of functions that the law reaches, and plain lemmas: several texts in one.
  Conditions: none.
-/
import Derived.Test.YtbblefjbgbocoaaGreatDoorBundB
import Derived.Lib.ItoaNum
import Derived.Lib.ItoaMem
import Derived.Test.YtbblefjbgbocoaaGreatDoorBundA
import Derived.Test.YtbblefjbgbocoaaGreatDoorAbsN
open Go Go.AM Go.Proofs
attribute [local go_sem] kw ew sw tw a_ b_ c_ A.ok A.val d_ e_ f_ g_ h_ i_ j_ k_ l_ m_ unA unD n_ AOp.total o_ p_ q_ r_ s_ t_ u_ v_ A.thaw C.thaw A.fits As.fits C.fits evs oks w_ A.pure C.pure A.re C.re x_ y_ cut A.cells C.rows? z_ A_ B_ C_ a0_ b0_ D_ Ob.re Cs.fits E_ F_ G_ H_ I_ J_ K_ L_ M_ N_ O_ C.toD P_ Q_ R_ S_ T_ Obs.fits U_ eqD V_ W_ X_ Y_ Z_
/-
  The reference's parser does what it is said to do: the whole.
  Conditions: none.
-/
open Go Go.AM Go.Proofs
namespace Go.Proofs.YtbblefjbgbocoaaGreatDoor
open Go.ChangeShapes Go.WideShapes Go.ChangeAt Go.RowKit
set_option linter.unusedVariables false
set_option linter.unusedSimpArgs false
set_option maxRecDepth 100000
def Rs.app (out : List Tm) : Rs → Rs
  | .ok us k => .ok (out ++ us) k
  | .bad e => .bad e
theorem opR_lv {s : List UInt8} {i j : Nat} {n : List UInt8} (h : opR s i = some (n, j)) : ¬ levelN n = 0 := by
  unfold opR at h
  generalize (if sgn s i 32 then i + 1 else i) = p at h
  split at h
  · cases h
  · cases hn : nameR s p with
    | none => rw [hn] at h; cases h
    | some q =>
      obtain ⟨m, k⟩ := q
      rw [hn] at h
      simp only at h
      split at h
      · cases h
      · rename_i hl
        split at h
        · cases h
        · simp only [Option.some.injEq, Prod.mk.injEq] at h
          rw [← h.1]; exact hl
section
variable {s : List UInt8} (hs : s.length ≤ 1000000) {f : Nat} (h : ∀ g, g ≤ f → Par s g)
include hs h
theorem terms_step (i d : Nat) (e o : UInt8) (r : Rs) (hi : i ≤ s.length) (hd : d ≤ 1000) (hr : rd s (f + 1) (.terms i d e o) = some r) (H : Heap) :
    ACalls Tryz.prog 203 [.c (.d (.str s)), .c (.d (.int .i64 i)), .c (.d (.int .i64 d)), .c (.d (.int .u8 e.toNat)), .c (.d (.int .u8 o.toNat))] H (fun r' H' => H' = H ∧ r' = termsA r) := by
  refine acalls Tryz.func203 (by kernel_rfl) ac203_ok fun hf => ?_
  simp -implicitDefEqProofs [ac203, go_sem, -List.set_cons_succ, -List.set_cons_zero]
  refine loop_enter (St.le_token 12 4 rfl) ?_
  refine loop_set (σ := Nat × List Tm × Nat × Rs) (fun x => [(1, .c (.d (.int .i64 x.1))), (12, .c (.own (.l 0) x.2.1.length (x.2.1.map Tm.row)))]) (fun _ => H) (fun x => [.grow x.2.1.length 4])
    (fun x => x.1 ≤ s.length ∧ x.2.1.length ≤ x.1 ∧ x.2.2.1 ≤ f + 1 ∧ rd s x.2.2.1 (.terms x.1 d e o) = some x.2.2.2 ∧ x.2.2.2.app x.2.1 = r) (fun x => x.2.2.1) (i, [], f + 1, r) (by simp [setAll]) ⟨hi, by simp, Nat.le_refl _, hr, by cases r <;> rfl⟩ ?_
  rintro ⟨p, out, g, q⟩ ⟨hp, hol, hg, hq, happ⟩
  simp only at hp hol hg hq happ
  cases g with
  | zero => cases hq
  | succ g =>
    have hq : step s (rd s g) (.terms p d e o) = some q := hq
    simp only [step] at hq
    have hpar := h g (by omega)
    simp -implicitDefEqProofs [setAll, hf, go_sem, -List.set_cons_succ, -List.set_cons_zero]
    cases hx : rd s g (.read p d 3) with
    | none => rw [hx] at hq; cases hq
    | some v =>
      rw [hx] at hq
      have c1 := hpar.read p d 3 v hp hd (by omega) hx
      have p1 := rd_post hs (j := .read p d 3) ⟨hp, by omega⟩ hx
      refine qcall_pure c1 hf (readA_re _ _) ?_
      cases v with
      | bad x =>
        cases hq
        have hx2 : x ≤ s.length := p1
        have hneg : (-1 - (x : Int)) < 0 := by omega
        subst happ
        simp -implicitDefEqProofs [readA, termsA, Rs.app, hneg, row_mk, hf, go_sem, -List.set_cons_succ, -List.set_cons_zero]
      | ok ts j =>
        obtain ⟨g1, g2, t, rfl, g3⟩ := p1
        simp only at hq
        have hj0 : ¬ (j : Int) < 0 := by omega
        have hj1 : inR .i64 ((j : Int) + 1) := small_i64 (by omega) (by omega)
        have hjm : inR .i64 (-1 - (j : Int)) := small_i64 (by omega) (by omega)
        simp -implicitDefEqProofs [readA, Rs.tm, hj0, row_len, take_row, pure_d, re_d, toDs_map, hf, go_sem, -List.set_cons_succ, -List.set_cons_zero]
        refine ⟨allLen_map row_len, by unfold maxApp; omega, ?_⟩
        refine qcall_pure (sign_calls s hs j (by omega) e) hf rfl ?_
        refine (fun (key1 : some (Rs.ok [t] j) = some q → (?done : Prop)) (key2 : (if sgn s j 44 then match rd s g (.terms (j + 1) d e o) with
        | none => none
        | some (.bad x) => some (.bad x)
        | some (.ok us k) => some (.ok (t :: us) k)
      else some (.bad j)) = some q → (?more : Prop)) => ?main) ?rest1 ?rest2
        case main =>
          cases he : sgn s j e with
          | true =>
            rw [he] at hq
            simp only [Bool.true_or, if_true] at hq
            simp -implicitDefEqProofs [hf, go_sem, -List.set_cons_succ, -List.set_cons_zero]
            exact key1 hq
          | false =>
            rw [he] at hq
            simp only [Bool.false_or] at hq
            simp -implicitDefEqProofs [hf, go_sem, -List.set_cons_succ, -List.set_cons_zero]
            refine qcall_pure (sign_calls s hs j (by omega) o) hf rfl ?_
            cases ho : sgn s j o with
            | true =>
              rw [ho] at hq
              simp only [if_true] at hq
              simp -implicitDefEqProofs [hf, go_sem, -List.set_cons_succ, -List.set_cons_zero]
              exact key1 hq
            | false =>
              rw [ho] at hq
              simp only [Bool.false_eq_true, if_false] at hq
              simp -implicitDefEqProofs [hf, go_sem, -List.set_cons_succ, -List.set_cons_zero]
              exact key2 hq
        case rest1 =>
          intro hq
          cases hq
          subst happ
          simp [termsA, Rs.app]
        case rest2 =>
          intro hq
          refine qcall_pure (sign_calls s hs j (by omega) 44) hf rfl ?_
          cases hsg : sgn s j 44 with
          | false =>
            rw [hsg] at hq
            simp only [Bool.false_eq_true, if_false] at hq
            cases hq
            subst happ
            simp -implicitDefEqProofs [hjm, termsA, Rs.app, hf, go_sem, -List.set_cons_succ, -List.set_cons_zero]
          | true =>
            rw [hsg] at hq
            simp only [if_true] at hq
            have hjl := sgn_lt hsg
            simp -implicitDefEqProofs [hj1, hf, go_sem, -List.set_cons_succ, -List.set_cons_zero]
            have hq2 : ∃ w, rd s g (.terms (j + 1) d e o) = some w ∧ w.app (out ++ [t]) = r := by
              cases hy : rd s g (.terms (j + 1) d e o) with
              | none => rw [hy] at hq; cases hq
              | some w =>
                rw [hy] at hq
                refine ⟨w, rfl, ?_⟩
                cases w with
                | bad x => cases hq; exact happ
                | ok us k => cases hq; rw [← happ]; simp [Rs.app]
            obtain ⟨w, hw, hwa⟩ := hq2
            refine loop_less (j + 1, out ++ [t], g, w) (St.le_cut [_] ?_ (by simp [Sl.le, A.le_refl_iff, A.le_u_iff, As.lo, A.lo, C.lo, Ref.lo, Cs.lo, Obs.lo, Ob.lo, setAll, and_true, true_and, List.length_nil, List.length_cons]) (by simp; rfl) (by simp [Sl.le, A.le_refl_iff, A.le_u_iff, As.lo, A.lo, C.lo, Ref.lo, Cs.lo, Obs.lo, Ob.lo, setAll, and_true, true_and, List.length_nil, List.length_cons])) ⟨by dsimp only; omega, by simp; omega, by dsimp only; omega, hw, hwa⟩ (by show g < g + 1; omega)
            simp [setAll, Sl.le, A.le_refl_iff, A.le_u_iff, As.lo, A.lo, C.lo, Ref.lo, Cs.lo, Obs.lo, Ob.lo, setAll, and_true, true_and, List.length_nil, List.length_cons]
theorem read_step (i d l : Nat) (r : Rs) (hi : i ≤ s.length) (hd : d ≤ 1000) (hl : l ≤ 3) (hr : rd s (f + 1) (.read i d l) = some r) (H : Heap) :
    ACalls Tryz.prog 108 [.c (.d (.str s)), .c (.d (.int .i64 i)), .c (.d (.int .i64 d)), .c (.d (.int .i64 l))] H (fun r' H' => H' = H ∧ r' = readA r) := by
  refine acalls Tryz.func108 (by kernel_rfl) ac108_ok fun hf => ?_
  have hpar := h f (Nat.le_refl _)
  have hr : step s (rd s f) (.read i d l) = some r := hr
  cases l with
  | zero =>
    have c1 := hpar.prime i d r hi hd hr
    simp -implicitDefEqProofs [ac108, go_sem, -List.set_cons_succ, -List.set_cons_zero]
    refine qcall_pure c1 hf (readA_re _ _) ?_
    cases r with
    | bad e => simp -implicitDefEqProofs [readA, row_mk, hf, go_sem, -List.set_cons_succ, -List.set_cons_zero]
    | ok ts j => simp -implicitDefEqProofs [readA, row_len, take_row, pure_d, re_d, thaw_d, fits_map, hf, go_sem, -List.set_cons_succ, -List.set_cons_zero]
  | succ l =>
    simp only [step] at hr
    have hl1 : ¬ ((l : Int) + 1 = 0) := by omega
    have hl2 : ((l : Int) + 1 == 0) = false := by simp; omega
    have hl3 : inR .i64 ((l : Int) + 1 - 1) := small_i64 (by omega) (by omega)
    have hl4 : (l : Int) + 1 - 1 = l := by omega
    cases hx : rd s f (.read i d l) with
    | none => rw [hx] at hr; cases hr
    | some v =>
      rw [hx] at hr
      have c1 := hpar.read i d l v hi hd (by omega) hx
      have p1 := rd_post hs (j := .read i d l) ⟨hi, by omega⟩ hx
      have hli : inR .i64 (l : Int) := small_i64 (by omega) (by omega)
      simp -implicitDefEqProofs [ac108, hl1, hl2, hl3, hl4, hli, go_sem, -List.set_cons_succ, -List.set_cons_zero]
      refine qcall_pure c1 hf (readA_re _ _) ?_
      cases v with
      | bad e =>
        cases hr
        have he : e ≤ s.length := p1
        have hneg : ¬ (0 : Int) ≤ -1 - (e : Int) := by omega
        simp -implicitDefEqProofs [readA, row_mk, hf, go_sem, -List.set_cons_succ, -List.set_cons_zero]
        refine loop_set (σ := Unit) (fun _ => []) (fun _ => H) (fun _ => [.cells [.d (.int .i64 0), .d (.int .i64 0), .d (.str []), .full []], .cells [.d (.int .i64 0), .d (.int .i64 0), .d (.str []), .d (.sl [])]]) (fun _ => True) (fun _ => 0) () rfl trivial ?_
        intro _ _
        simp -implicitDefEqProofs [setAll, hneg, row_mk, hf, go_sem, -List.set_cons_succ, -List.set_cons_zero]
        intro he2
        omega
      | ok ts j =>
        obtain ⟨g1, g2, t0, rfl, g3⟩ := p1
        simp only at hr
        simp -implicitDefEqProofs [readA, Rs.tm, row_len, take_row, pure_d, re_d, hf, go_sem, -List.set_cons_succ, -List.set_cons_zero]
        refine loop_set (σ := Nat × Tm × Nat) (fun x => [(11, .c (.d (.int .i64 x.1)))]) (fun _ => H) (fun x => [.cells [.d (.int .i64 0), .d (.int .i64 0), .d (.str []), .full []], .cells (x.2.1.row.map .d)])
          (fun x => x.1 ≤ s.length ∧ x.2.1.fits ∧ x.2.2 ≤ f ∧ rd s x.2.2 (.ops x.2.1 x.1 d (l + 1)) = some r) (fun x => x.2.2) (j, t0, f) (by simp [setAll]) ⟨g2, g3, Nat.le_refl _, hr⟩ ?_
        rintro ⟨p, t, g⟩ ⟨hp, htf, hg, hq⟩
        simp only at hp htf hg hq
        cases g with
        | zero => cases hq
        | succ g =>
          have hq : step s (rd s g) (.ops t p d (l + 1)) = some r := hq
          simp only [step] at hq
          have hp0 : (0 : Int) ≤ (p : Int) := by omega
          have co := op_calls s hs p hp
          simp -implicitDefEqProofs [setAll, hp0, hf, go_sem, -List.set_cons_succ, -List.set_cons_zero]
          cases ho : opR s p with
          | none =>
            rw [ho] at hq co
            cases hq
            refine qcall_pure co hf (by simp [opA, A.re, A.res, C.re]) ?_
            simp -implicitDefEqProofs [opA, readA, Rs.tm, row_len, take_row, pure_d, re_d, thaw_d, fits_map, hf, go_sem, -List.set_cons_succ, -List.set_cons_zero]
          | some q =>
            obtain ⟨n, k⟩ := q
            rw [ho] at hq co
            have hlv := opR_lv ho
            have hok := opR_ok hp ho
            have hne : n ≠ [] := fun e => hlv (by rw [e]; rfl)
            have hne2 : (n == []) = false := by simp [hne]
            simp only at hq
            refine qcall_pure co hf (by simp [opA, A.re, A.res, C.re]) ?_
            simp -implicitDefEqProofs [opA, hne, hne2, hf, go_sem, -List.set_cons_succ, -List.set_cons_zero]
            refine qcall_pure (level_calls n) hf rfl ?_
            by_cases hll : levelN n = (l + 1 : Nat)
            · rw [if_pos hll] at hq
              have hll1 : levelN n = (l : Int) + 1 := by rw [hll]; simp
              simp only [Nat.add_sub_cancel] at hq
              simp -implicitDefEqProofs [hll1, hl3, hl4, hli, hf, go_sem, -List.set_cons_succ, -List.set_cons_zero]
              cases hy : rd s g (.read k d l) with
              | none => rw [hy] at hq; cases hq
              | some w =>
                rw [hy] at hq
                have hpg := h g (by omega)
                have c2 := hpg.read k d l w hok.2.1 hd (by omega) hy
                have p2 := rd_post hs (j := .read k d l) ⟨hok.2.1, by omega⟩ hy
                refine qcall_pure c2 hf (readA_re _ _) ?_
                cases w with
                | bad e =>
                  cases hq
                  have he : e ≤ s.length := p2
                  have hneg : (-1 - (e : Int)) < 0 := by omega
                  simp -implicitDefEqProofs [readA, hneg, row_mk, hf, go_sem, -List.set_cons_succ, -List.set_cons_zero]
                | ok us m =>
                  obtain ⟨q1, q2, u, rfl, q3⟩ := p2
                  simp only at hq
                  have hm0 : ¬ (m : Int) < 0 := by omega
                  have hst := struct_calls n [t, u] (by simp)
                  simp only [List.map_cons, List.map_nil] at hst
                  simp -implicitDefEqProofs [readA, Rs.tm, hm0, row_len, take_row, pure_d, re_d, toDs_map, hf, go_sem, -List.set_cons_succ, -List.set_cons_zero]
                  refine qcall_pure hst hf (by simp [A.re, re_d]) ?_
                  simp -implicitDefEqProofs [row_len, take_row, pure_d, re_d, hf, go_sem, -List.set_cons_succ, -List.set_cons_zero]
                  by_cases h3 : l + 1 = 3
                  · have h3' : (l : Int) + 1 = 3 := by omega
                    rw [if_pos h3] at hq
                    cases hq
                    simp -implicitDefEqProofs [h3', readA, Rs.tm, row_len, take_row, pure_d, re_d, thaw_d, fits_map, hf, go_sem, -List.set_cons_succ, -List.set_cons_zero]
                  · have h3' : ¬ (l : Int) + 1 = 3 := by omega
                    have h3'' : ((l : Int) + 1 == 3) = false := by simp; omega
                    rw [if_neg h3] at hq
                    simp -implicitDefEqProofs [h3', h3'', row_len, take_row, pure_d, re_d, hf, go_sem, -List.set_cons_succ, -List.set_cons_zero]
                    refine loop_less (m, .mk 3 0 n [t, u], g) (St.le_cut [_] ?_ (by simp [Sl.le, A.le_refl_iff, A.le_u_iff, As.lo, A.lo, C.lo, Ref.lo, Cs.lo, Obs.lo, Ob.lo, setAll, and_true, true_and, List.length_nil, List.length_cons]) (by simp [row_len]; rfl) (by simp [row_mk, Sl.le, A.le_refl_iff, A.le_u_iff, As.lo, A.lo, C.lo, Ref.lo, Cs.lo, Obs.lo, Ob.lo, setAll, and_true, true_and, List.length_nil, List.length_cons])) ⟨q2, fits_st hok.2.2 (by simp) (by simp [htf, q3]), by dsimp only; omega, hq⟩ (by show g < g + 1; omega)
                    simp [setAll, Sl.le, A.le_refl_iff, A.le_u_iff, As.lo, A.lo, C.lo, Ref.lo, Cs.lo, Obs.lo, Ob.lo, setAll, and_true, true_and, List.length_nil, List.length_cons]
            · rw [if_neg hll] at hq
              cases hq
              have hll1 : ¬ levelN n = (l : Int) + 1 := fun e => hll (by rw [e]; simp)
              have hll2 : (levelN n != (l : Int) + 1) = true := by simpa using hll1
              simp -implicitDefEqProofs [hll1, hll2, readA, Rs.tm, row_len, take_row, pure_d, re_d, thaw_d, fits_map, hf, go_sem, -List.set_cons_succ, -List.set_cons_zero]
end
/-- the parser does what it is said to do -/
theorem par (s : List UInt8) (hs : s.length ≤ 1000000) : ∀ f, Par s f := by
  intro f
  induction f using Nat.strongRecOn with
  | ind f ih =>
    cases f with
    | zero => exact ⟨fun _ _ _ _ _ _ _ h => (by cases h), fun _ _ _ _ _ h => (by cases h), fun _ _ _ _ _ _ _ h => (by cases h)⟩
    | succ f =>
      have h : ∀ g, g ≤ f → Par s g := fun g hg => ih g (by omega)
      exact ⟨fun i d l r hi hd hl hr H => read_step hs h i d l r hi hd hl hr H, fun i d r hi hd hr H => prime_step hs (h f (Nat.le_refl _)) i d hi hd r hr H, fun i d e o r hi hd hr H => terms_step hs h i d e o r hi hd hr H⟩
end Go.Proofs.YtbblefjbgbocoaaGreatDoor

/-
  Terms as they are written: the plain text, its length, its first byte.
  Conditions: none.
-/
open Go Go.AM Go.Proofs
namespace Go.Proofs.YtbblefjbgbocoaaGreatDoor
open Go.ChangeShapes Go.WideShapes Go.ChangeAt Go.RowKit
set_option linter.unusedVariables false
set_option linter.unusedSimpArgs false
set_option maxRecDepth 100000
/-- texts, with a byte between them -/
def joinS (c : UInt8) : List (List UInt8) → List UInt8
  | [] => []
  | [a] => a
  | a :: b :: l => a ++ c :: joinS c (b :: l)
def Tm.atomB (t : Tm) : Bool := decide (t.k = 3) && t.kids.isEmpty
def Tm.lv (t : Tm) : Int := if t.kids.length = 2 then levelN t.s else 0
def plainC (b : UInt8) : Bool := decide (97 ≤ b.toNat ∧ b.toNat ≤ 122) || decide (65 ≤ b.toNat ∧ b.toNat ≤ 90) || decide (48 ≤ b.toNat ∧ b.toNat ≤ 57) || b == 91 || b == 40
def opnd (t : Tm) (w : List UInt8) (most : Int) (right : Bool) : List UInt8 :=
  if decide (most < t.lv) || (t.atomB && decide (0 < levelN t.s)) || (right && !plainC (w.headD 0)) then 40 :: w ++ [41] else w
def opSp (s : List UInt8) : List UInt8 := if lettersB s then 32 :: s ++ [32] else s
def leftMost (s : List UInt8) : Int := if leftB s then levelN s else levelN s - 1
def leafT : Tm := .mk 3 0 [91, 93] []
def wrNode (k n : Int) (s : List UInt8) (l : List Tm) (ws ts : List (List UInt8)) : List UInt8 :=
  if k = 1 then [UInt8.ofNat (65 + n.toNat)]
  else if k = 2 then Lib.itoa n
  else if s = [46] ∧ l.length = 2 then 91 :: ws.headD [] ++ ts.getD 1 [] ++ [93]
  else if l.length = 2 ∧ 0 < levelN s then opnd (l.getD 0 leafT) (ws.getD 0 []) (leftMost s) false ++ opSp s ++ opnd (l.getD 1 leafT) (ws.getD 1 []) (levelN s - 1) true
  else if l = [] then s else s ++ 40 :: joinS 44 ws ++ [41]
mutual
def Tm.wr : Tm → List UInt8
  | .mk k n s l => wrNode k n s l (wrs l) (wrts l)
/-- the rest of a list -/
def Tm.wrt : Tm → List UInt8
  | .mk k n s l => if k = 3 ∧ s = [46] ∧ l.length = 2 then 44 :: (wrs l).headD [] ++ (wrts l).getD 1 []
    else if k = 3 ∧ s = [91, 93] ∧ l = [] then [] else 124 :: wrNode k n s l (wrs l) (wrts l)
def wrs : List Tm → List (List UInt8)
  | [] => []
  | t :: l => t.wr :: wrs l
def wrts : List Tm → List (List UInt8)
  | [] => []
  | t :: l => t.wrt :: wrts l
end
theorem wrs_map : ∀ l : List Tm, wrs l = l.map Tm.wr
  | [] => by rw [wrs]; rfl
  | t :: l => by rw [wrs, wrs_map l]; rfl
theorem wrts_map : ∀ l : List Tm, wrts l = l.map Tm.wrt
  | [] => by rw [wrts]; rfl
  | t :: l => by rw [wrts, wrts_map l]; rfl
theorem joinS_snoc (c : UInt8) : ∀ (l : List (List UInt8)) (x : List UInt8), joinS c (l ++ [x]) = if l = [] then x else joinS c l ++ c :: x
  | [], x => rfl
  | [a], x => rfl
  | a :: b :: l, x => by
    have ih := joinS_snoc c (b :: l) x
    simp at ih
    simp [joinS, ih]
theorem joinS_len (c : UInt8) : ∀ (l : List (List UInt8)), (joinS c l).length ≤ (l.map fun x => x.length + 1).sum
  | [] => by simp [joinS]
  | [a] => by simp [joinS]
  | a :: b :: l => by
    have ih := joinS_len c (b :: l)
    simp [joinS] at ih ⊢
    omega
theorem itoa_short {n : Int} (h0 : -999 ≤ n) (h1 : n ≤ 999) : 1 ≤ (Lib.itoa n).length ∧ (Lib.itoa n).length ≤ 5 := by
  have key : ∀ u : Nat, u ≤ 999 → 1 ≤ (Lib.decDigits u).length ∧ (Lib.decDigits u).length ≤ 4 := by
    intro u hu
    rw [Lib.decDigits]
    split
    · simp
    · rw [Lib.decDigits]
      split
      · simp
      · rw [Lib.decDigits]
        split
        · simp
        · rw [Lib.decDigits, dif_pos (by omega)]
          simp
  unfold Lib.itoa
  split
  · have := key n.natAbs (by omega)
    simp
    omega
  · have := key n.toNat (by omega)
    omega
theorem opnd_len (t : Tm) (w : List UInt8) (m : Int) (r : Bool) : (opnd t w m r).length ≤ w.length + 2 := by
  unfold opnd
  split <;> simp
theorem opnd_ne {t : Tm} {w : List UInt8} {m : Int} {r : Bool} (h : w ≠ []) : opnd t w m r ≠ [] := by
  unfold opnd
  split
  · simp
  · exact h
theorem opSp_len (s : List UInt8) : (opSp s).length ≤ s.length + 2 := by
  unfold opSp
  split <;> simp
theorem sizes_mem {t : Tm} : ∀ {l : List Tm}, t ∈ l → t.size ≤ sizes l
  | a :: l, h => by
    simp only [sizes]
    rcases List.mem_cons.1 h with rfl | h
    · omega
    · have := sizes_mem h; omega
theorem sum_wr : ∀ l : List Tm, (∀ t ∈ l, t.wr.length ≤ 20 * t.size) → ((l.map Tm.wr).map fun x => x.length + 1).sum ≤ 20 * sizes l + l.length
  | [], _ => by simp [sizes]
  | a :: l, h => by
    have ha := h a (by simp)
    have := sum_wr l fun t ht => h t (by simp [ht])
    simp [sizes] at this ⊢
    omega
/-- how long a text is -/
theorem wr_len : ∀ t : Tm, t.good → (t.wr.length ≤ 20 * t.size ∧ t.wrt.length ≤ 20 * t.size + 1) ∧ t.wr ≠ [] := by
  refine Tm.ind fun k n s l ih hg => ?_
  obtain ⟨ho, hk⟩ := hg
  have ih2 := fun t ht => ih t ht (hk t ht)
  have hnode : (wrNode k n s l (wrs l) (wrts l)).length ≤ 20 * (Tm.mk k n s l).size ∧ wrNode k n s l (wrs l) (wrts l) ≠ [] := by
    unfold wrNode
    rw [wrs_map, wrts_map, Tm.size]
    rcases own_cases ho with ⟨rfl, _, _, rfl, rfl⟩ | ⟨rfl, n0, n1, rfl, rfl⟩ | ⟨rfl, rfl, hs, hl⟩
    · simp; omega
    · have := itoa_short n0 n1
      simp
      refine ⟨by omega, fun h => ?_⟩
      rw [h] at this
      simp at this
    · obtain ⟨s1, s6⟩ := name_len hs
      have hsne : s ≠ [] := by intro h; subst h; simp at s1
      simp only [show ¬ (3 : Int) = 1 by decide, show ¬ (3 : Int) = 2 by decide, if_false]
      split
      · rename_i hp
        match l, hp.2, ih2 with
        | [a, b], _, ih2 =>
          have ha := ih2 a (by simp)
          have hb := ih2 b (by simp)
          simp [sizes]
          omega
      · split
        · rename_i hp hq
          match l, hq.1, ih2 with
          | [a, b], _, ih2 =>
            have ha := ih2 a (by simp)
            have hb := ih2 b (by simp)
            have h1 := opnd_len a a.wr (leftMost s) false
            have h2 := opnd_len b b.wr (levelN s - 1) true
            have h3 := opSp_len s
            simp [sizes, opnd_ne ha.2]
            omega
        · split
          · simp [hsne]; omega
          · refine ⟨?_, by simp⟩
            have hj := joinS_len 44 (l.map Tm.wr)
            have hsum := sum_wr l (fun t ht => (ih2 t ht).1.1)
            simp
            omega
  refine ⟨⟨by rw [Tm.wr]; exact hnode.1, ?_⟩, by rw [Tm.wr]; exact hnode.2⟩
  rw [Tm.wrt]
  split
  · rename_i hp
    rw [wrs_map, wrts_map, Tm.size]
    match l, hp.2.2, ih2 with
    | [a, b], _, ih2 =>
      have ha := ih2 a (by simp)
      have hb := ih2 b (by simp)
      simp [sizes]
      omega
  · split
    · simp
    · simp
      exact hnode.1
end Go.Proofs.YtbblefjbgbocoaaGreatDoor

/-
  Small numbers in decimal.
  Conditions: none.
-/
open Go Go.AM Go.Proofs
namespace Go.Proofs.YtbblefjbgbocoaaGreatDoor
set_option linter.unusedVariables false
set_option linter.unusedSimpArgs false
set_option maxRecDepth 100000
/-- small numbers in decimal -/
def dec3 (u : Nat) : List UInt8 := if u < 10 then [UInt8.ofNat (48 + u)] else if u < 100 then [UInt8.ofNat (48 + u / 10), UInt8.ofNat (48 + u % 10)] else [UInt8.ofNat (48 + u / 100), UInt8.ofNat (48 + u / 10 % 10), UInt8.ofNat (48 + u % 10)]
def itoa3 (n : Int) : List UInt8 := if n < 0 then 45 :: dec3 n.natAbs else dec3 n.toNat
theorem dd_lt {u : Nat} (h : u < 10) : Lib.decDigits u = [UInt8.ofNat (48 + u)] := by rw [Lib.decDigits, dif_pos h]
theorem dd_ge {u : Nat} (h : ¬ u < 10) : Lib.decDigits u = Lib.decDigits (u / 10) ++ [UInt8.ofNat (48 + u % 10)] := by rw [Lib.decDigits, dif_neg h]
theorem dec3_eq {u : Nat} (h : u ≤ 999) : dec3 u = Lib.decDigits u := by
  unfold dec3
  by_cases h1 : u < 10
  · rw [if_pos h1, dd_lt h1]
  · rw [if_neg h1, dd_ge h1]
    by_cases h2 : u < 100
    · rw [if_pos h2, dd_lt (by omega)]; rfl
    · rw [if_neg h2, dd_ge (u := u / 10) (by omega), dd_lt (u := u / 10 / 10) (by omega)]
      have : u / 10 / 10 = u / 100 := by omega
      rw [this]; rfl
theorem itoa3_eq {n : Int} (h0 : -999 ≤ n) (h1 : n ≤ 999) : itoa3 n = Lib.itoa n := by
  unfold itoa3 Lib.itoa
  split
  · rw [dec3_eq (by omega)]
  · rw [dec3_eq (by omega)]
end Go.Proofs.YtbblefjbgbocoaaGreatDoor

/-
  Texts, cut at a byte.
  Conditions: none.
-/
open Go Go.AM Go.Proofs
namespace Go.Proofs.YtbblefjbgbocoaaGreatDoor
open Go.ChangeShapes Go.WideShapes Go.ChangeAt Go.RowKit
set_option linter.unusedVariables false
set_option linter.unusedSimpArgs false
set_option maxRecDepth 100000
-- 56 loop.example/prologserver/spec.l18Cut params 2 ntmps 36
-- loop head live: [0,1,5,6,7]
def ac56 : Cd := .seq (.region [⟨(some 4),.mv (.k (.c (.full []))),none⟩] [4])
 (.seq (.region [⟨(some 8),.buildSlice 1 0 [(.str [])] [],none⟩,
 ⟨(some 5),.mv (.t 8),none⟩] [8])
 (.seq (.region [⟨(some 6),.mv (.k (.c (.d (.int .i64 0)))),none⟩] [])
 (.seq (.seq (.region [⟨(some 7),.mv (.k (.c (.d (.int .i64 0)))),none⟩] [])
 (.block 0 (.loop (.seq (.seq (.region [⟨(some 9),.mv (.t 7),none⟩,
 ⟨(some 10),.mv (.t 0),none⟩,
 ⟨(some 11),.len 0 (.t 10),none⟩,
 ⟨(some 12),.bin .leq (.t 9) (.t 11),none⟩] [9,10,11])
 (.cond (.t 12)
 (.skip)
 (.exit 0)))
 (.seq (.block 1 (.seq (.region [⟨(some 15),.mv (.t 7),none⟩,
 ⟨(some 16),.mv (.t 0),none⟩,
 ⟨(some 17),.len 0 (.t 16),none⟩,
 ⟨(some 18),.bin .eql (.t 15) (.t 17),none⟩,
 ⟨(some 19),.mv (.t 18),none⟩,
 ⟨(some 20),.mv (.t 0),some (19,false)⟩,
 ⟨(some 21),.mv (.t 7),some (19,false)⟩,
 ⟨(some 22),.index (.t 20) (.t 21),some (19,false)⟩,
 ⟨(some 23),.mv (.t 1),some (19,false)⟩,
 ⟨(some 24),.bin .eql (.t 22) (.t 23),some (19,false)⟩,
 ⟨(some 25),.pick (.t 19) (.k (.c (.d (.bool true)))) (.t 24),none⟩] [12,15,16,17,18,19,20,21,22,23,24])
 (.cond (.t 25)
 (.seq (.region [⟨(some 26),.mv (.t 5),none⟩,
 ⟨(some 27),.mv (.t 0),none⟩,
 ⟨(some 28),.mv (.t 6),none⟩,
 ⟨(some 29),.mv (.t 7),none⟩,
 ⟨(some 30),.slice 0 (.t 27) (some (.t 28)) (some (.t 29)) none,none⟩,
 ⟨(some 31),.buildSlice 1 1 [(.str [])] [(0,(.t 30))],none⟩,
 ⟨(some 32),.append false 1 (.t 26) (.t 31),none⟩,
 ⟨(some 5),.mv (.t 32),none⟩] [6,25,26,27,28,29,30,31,32])
 (.region [⟨(some 33),.mv (.t 7),none⟩,
 ⟨(some 34),.bin .add (.t 33) (.k (.c (.d (.int .i64 1)))),none⟩,
 ⟨(some 6),.mv (.t 34),none⟩] [33,34]))
 (.skip))))
 (.region [⟨(some 13),.mv (.t 7),none⟩,
 ⟨(some 14),.bin .add (.t 13) (.k (.c (.d (.int .i64 1)))),none⟩,
 ⟨(some 7),.mv (.t 14),none⟩] [13,14,25]))))))
 (.seq (.region [⟨(some 35),.mv (.t 5),none⟩,
 ⟨(some 4),.mv (.t 35),none⟩] [5,35])
 (.ret)))))
theorem ac56_ok : cFunc Tryz.prog [] [(0,[4],[]),(1,[8],[]),(2,[],[]),(3,[],[]),(4,[9,10,11],[]),(6,[12,15,16,17,18,19,20,21,22,23,24],[]),(7,[6,25,26,27,28,29,30,31,32],[]),(8,[33,34],[]),(5,[13,14,25],[]),(9,[5,35],[])] Tryz.f56 = some (ac56,[.tmp 4],36) := by kernel_rfl
/-- a text, cut at each of a byte -/
def cutAt (c : UInt8) : List UInt8 → List (List UInt8)
  | [] => [[]]
  | b :: s => if b = c then [] :: cutAt c s else match cutAt c s with
    | l :: r => (b :: l) :: r
    | [] => [[b]]
def glue (p : List UInt8) : List (List UInt8) → List (List UInt8)
  | l :: r => (p ++ l) :: r
  | [] => [p]
theorem cutAt_ne (c : UInt8) : ∀ s : List UInt8, cutAt c s ≠ []
  | [] => by simp [cutAt]
  | b :: s => by
    unfold cutAt
    split
    · simp
    · split <;> simp
theorem glue_nil (l : List (List UInt8)) (h : l ≠ []) : glue [] l = l := by
  cases l with
  | nil => exact absurd rfl h
  | cons a l => rfl
theorem glue_cut (c b : UInt8) (p s : List UInt8) : glue p (cutAt c (b :: s)) = if b = c then p :: cutAt c s else glue (p ++ [b]) (cutAt c s) := by
  rw [cutAt]
  by_cases h : b = c
  · simp [h, glue]
  · simp only [if_neg h]
    cases hc : cutAt c s with
    | nil => exact absurd hc (cutAt_ne c s)
    | cons l r => simp [glue]
theorem byte_off2 {g : Bool} {s : List UInt8} {i : Int} (b : UInt8) {K : A → St → Prop} {st : St} (hg : g = false) (hk : K (.c (.d (.int .u8 b.toNat))) st) : ByteK g s i K st := ⟨b, fun h => absurd (hg ▸ h) (by simp), hk⟩
theorem byte_nat2 {g : Bool} {s : List UInt8} {i : Nat} {K : A → St → Prop} {st : St} (h : i < s.length) (hg : g = true) (hk : K (.c (.d (.int .u8 s[i].toNat))) st) : ByteK g s i K st := by
  subst hg
  exact byte_nat h hk
set_option maxHeartbeats 3200000 in
theorem cut_calls (s : List UInt8) (hs : s.length ≤ 2000000) (c : UInt8) (H : Heap) : ACalls Tryz.prog 56 [.c (.d (.str s)), .c (.d (.int .u8 c.toNat))] H (fun r H' => H' = H ∧ r = .c (.d (.sl ((cutAt c s).map strRow)))) := by
  refine acalls Tryz.func56 (by kernel_rfl) ac56_ok fun hf => ?_
  have hli : inR .i64 (s.length : Int) := small_i64 (by omega) (by omega)
  simp -implicitDefEqProofs [ac56, go_sem, -List.set_cons_succ, -List.set_cons_zero]
  refine loop_enter (St.le_token 5 1 rfl) ?_
  refine loop_set (σ := Nat × Nat × List (List UInt8)) (fun x => [(7, .c (.d (.int .i64 x.1))), (6, .c (.d (.int .i64 x.2.1))), (5, .c (.own (.l 0) x.2.2.length (x.2.2.map strRow)))]) (fun _ => H) (fun x => [.grow x.2.2.length 1])
    (fun x => x.2.2.length ≤ x.1 ∧ ((x.1 ≤ s.length ∧ x.2.1 ≤ x.1 ∧ x.2.2 ++ glue ((s.take x.1).drop x.2.1) (cutAt c (s.drop x.1)) = cutAt c s) ∨ (x.1 = s.length + 1 ∧ x.2.2 = cutAt c s))) (fun x => s.length + 1 - x.1) (0, 0, []) (by simp [setAll]) ⟨Nat.zero_le _, .inl ⟨Nat.zero_le _, Nat.zero_le _, by simp [glue_nil _ (cutAt_ne c s)]⟩⟩ ?_
  rintro ⟨i, fr, out⟩ ⟨hol, hI⟩
  simp only at hol hI
  simp -implicitDefEqProofs [setAll, hli, go_sem, -List.set_cons_succ, -List.set_cons_zero]
  refine ⟨fun hle => ?_, fun hgt => ?_⟩
  · obtain ⟨_, hfr, hcut⟩ := hI.resolve_right (by omega)
    have hadd : inR .i64 ((i : Int) + 1) := small_i64 (by omega) (by omega)
    by_cases he : i = s.length
    · subst he
      refine byte_off2 0 (by simp) ?_
      simp -implicitDefEqProofs [hadd, go_sem, -List.set_cons_succ, -List.set_cons_zero]
      refine ⟨hfr, fun r hr => ?_, by unfold maxApp; omega, ?_⟩
      · obtain ⟨y, _, rfl⟩ := List.mem_map.1 hr; rfl
      refine loop_back (s.length + 1, s.length + 1, out ++ [s.drop fr]) (by simp [setAll, strRow]) ⟨by simp; omega, .inr ⟨rfl, ?_⟩⟩ (by show s.length + 1 - (s.length + 1) < _; omega)
      rw [← hcut]
      simp [cutAt, glue]
    · have he2 : ¬ (i : Int) = s.length := by omega
      have hlt : i < s.length := by omega
      refine byte_nat2 hlt (by simp [he2]) ?_
      simp -implicitDefEqProofs [he, he2, hadd, go_sem, -List.set_cons_succ, -List.set_cons_zero]
      have hdr : s.drop i = s[i] :: s.drop (i + 1) := List.drop_eq_getElem_cons hlt
      rw [hdr, glue_cut] at hcut
      refine ⟨fun hb => ⟨⟨hfr, by omega⟩, fun r hr => ?_, by unfold maxApp; omega, ?_⟩, fun hb => ?_⟩
      · obtain ⟨y, _, rfl⟩ := List.mem_map.1 hr; rfl
      · have hb2 : s[i] = c := UInt8.toNat_inj.1 (by omega)
        rw [if_pos hb2] at hcut
        refine loop_back (i + 1, i + 1, out ++ [(s.take i).drop fr]) (by simp [setAll, strRow]) ⟨by simp; omega, .inl ⟨hlt, Nat.le_refl _, ?_⟩⟩ (by show s.length + 1 - (i + 1) < s.length + 1 - i; omega)
        rw [← hcut]
        simp [glue_nil _ (cutAt_ne c _)]
      · have hb2 : ¬ s[i] = c := fun h => hb (by rw [h])
        rw [if_neg hb2] at hcut
        refine loop_back (i + 1, fr, out) (by simp [setAll]) ⟨by dsimp only; omega, .inl ⟨hlt, by dsimp only; omega, ?_⟩⟩ (by show s.length + 1 - (i + 1) < s.length + 1 - i; omega)
        rw [← hcut]
        simp only
        rw [List.take_succ_eq_append_getElem hlt, List.drop_append_of_le_length (by simp; omega)]
  · obtain ⟨_, hcut⟩ := hI.resolve_left (by omega)
    simp -implicitDefEqProofs [hcut, hf, go_sem, -List.set_cons_succ, -List.set_cons_zero]
end Go.Proofs.YtbblefjbgbocoaaGreatDoor

/-
  Clauses and programs as they are read, in plain Lean.
  Conditions: none.
-/
open Go Go.AM Go.Proofs
namespace Go.Proofs.YtbblefjbgbocoaaGreatDoor
set_option linter.unusedVariables false
set_option linter.unusedSimpArgs false
set_option maxRecDepth 100000
/-- goals, separated by commas -/
def goalsR (s : List UInt8) : Nat → Nat → Option (List Tm × Nat)
  | 0, _ => none
  | n + 1, i => match rdF s (.read i 30 3) with
    | some (.ok ts j) => if sgn s j 44 then match goalsR s n (j + 1) with
        | some (us, k) => some (Rs.tm ts :: us, k)
        | none => none
      else some ([Rs.tm ts], j)
    | _ => none
/-- the text of a clause -/
def goalsW (W : Tm → List UInt8) (first : Bool) : List Tm → List UInt8
  | [] => []
  | t :: l => (if first then [58, 45] else [44]) ++ W t ++ goalsW W false l
def clW (W : Tm → List UInt8) (c : Cl) : List UInt8 := W c.head ++ goalsW W true c.body ++ [46]
def clauseB (W : Tm → List UInt8) (s : List UInt8) (c : Cl) (j : Nat) : Option Cl :=
  if decide (j + 1 = s.length) && sgn s j 46 && c.validB && clW W c == s then some c else none
def clauseR (W : Tm → List UInt8) (s : List UInt8) : Option Cl :=
  if 1000 < s.length then none
  else match rdF s (.read 0 30 3) with
    | some (.ok ts j) => if sgn s j 58 && sgn s (j + 1) 45 then match goalsR s 7 (j + 2) with
        | some (b, k) => clauseB W s ⟨Rs.tm ts, b⟩ k
        | none => none
      else clauseB W s ⟨Rs.tm ts, []⟩ j
    | _ => none
def linesR (W : Tm → List UInt8) : List (List UInt8) → Option (List Cl)
  | [] => some []
  | [l] => some []
  | l :: r => match clauseR W l, linesR W r with
    | some c, some p => some (c :: p)
    | _, _ => none
def progR (W : Tm → List UInt8) (s : List UInt8) : List Cl × Bool :=
  if decide (21 < (cutAt 10 s).length) || !((cutAt 10 s).getLastD []).isEmpty then ([], false)
  else match linesR W (cutAt 10 s) with
    | some p => (p, true)
    | none => ([], false)
def wrNode3 (k n : Int) (s : List UInt8) (l : List Tm) (ws ts : List (List UInt8)) : List UInt8 :=
  if k = 1 then [UInt8.ofNat (65 + n.toNat)]
  else if k = 2 then itoa3 n
  else if s = [46] ∧ l.length = 2 then 91 :: ws.headD [] ++ ts.getD 1 [] ++ [93]
  else if l.length = 2 ∧ 0 < levelN s then opnd (l.getD 0 leafT) (ws.getD 0 []) (leftMost s) false ++ opSp s ++ opnd (l.getD 1 leafT) (ws.getD 1 []) (levelN s - 1) true
  else if l.isEmpty then s else s ++ 40 :: joinS 44 ws ++ [41]
mutual
def Tm.wr3 : Tm → List UInt8
  | .mk k n s l => wrNode3 k n s l (wrs3 l) (wrts3 l)
def Tm.wrt3 : Tm → List UInt8
  | .mk k n s l => if k = 3 ∧ s = [46] ∧ l.length = 2 then 44 :: (wrs3 l).headD [] ++ (wrts3 l).getD 1 []
    else if (decide (k = 3) && decide (s = [91, 93]) && l.isEmpty) = true then [] else 124 :: wrNode3 k n s l (wrs3 l) (wrts3 l)
def wrs3 : List Tm → List (List UInt8)
  | [] => []
  | t :: l => t.wr3 :: wrs3 l
def wrts3 : List Tm → List (List UInt8)
  | [] => []
  | t :: l => t.wrt3 :: wrts3 l
end
theorem wr3_eq : ∀ t : Tm, t.good → t.wr3 = t.wr ∧ t.wrt3 = t.wrt := by
  refine Tm.ind fun k n s l ih hg => ?_
  obtain ⟨ho, hk⟩ := hg
  have hl : ∀ l : List Tm, (∀ t ∈ l, t.wr3 = t.wr ∧ t.wrt3 = t.wrt) → wrs3 l = wrs l ∧ wrts3 l = wrts l := by
    intro l
    induction l with
    | nil => intro _; exact ⟨by rw [wrs3, wrs], by rw [wrts3, wrts]⟩
    | cons a l ih2 =>
      intro h
      obtain ⟨h1, h2⟩ := ih2 fun t ht => h t (by simp [ht])
      obtain ⟨h3, h4⟩ := h a (by simp)
      exact ⟨by rw [wrs3, wrs, h1, h3], by rw [wrts3, wrts, h2, h4]⟩
  obtain ⟨e1, e2⟩ := hl l fun t ht => ih t ht (hk t ht)
  have hnode : wrNode3 k n s l (wrs3 l) (wrts3 l) = wrNode k n s l (wrs l) (wrts l) := by
    rw [e1, e2]
    unfold wrNode3 wrNode
    rcases own_cases ho with ⟨rfl, _, _, rfl, rfl⟩ | ⟨rfl, n0, n1, rfl, rfl⟩ | ⟨rfl, rfl, hs, hl⟩
    · rfl
    · rw [itoa3_eq n0 n1]; rfl
    · cases l <;> rfl
  refine ⟨by rw [Tm.wr3, Tm.wr, hnode], ?_⟩
  rw [Tm.wrt3, Tm.wrt, hnode, e1, e2]
  cases l <;> simp
theorem goalsW_eq : ∀ (b : Bool) (l : List Tm), (∀ t ∈ l, t.good) → goalsW Tm.wr3 b l = goalsW Tm.wr b l
  | _, [], _ => rfl
  | b, t :: l, h => by
    simp only [goalsW]
    rw [(wr3_eq t (h t (by simp))).1, goalsW_eq false l fun t ht => h t (by simp [ht])]
theorem clW_eq {c : Cl} (hv : c.validB = true) : clW Tm.wr3 c = clW Tm.wr c := by
  simp only [Cl.validB, Bool.and_eq_true, goalsB, List.all_eq_true, decide_eq_true_eq] at hv
  unfold clW
  rw [(wr3_eq c.head (valid_good hv.1.1)).1, goalsW_eq true c.body fun t ht => ?_]
  have := hv.2.2 t ht
  simp only [Tm.goal, Bool.and_eq_true] at this
  exact valid_good this.1
theorem clauseB_eq (s : List UInt8) (c : Cl) (j : Nat) : clauseB Tm.wr3 s c j = clauseB Tm.wr s c j := by
  unfold clauseB
  cases hv : c.validB with
  | false => simp
  | true => rw [clW_eq hv]
theorem clauseR_eq (s : List UInt8) : clauseR Tm.wr3 s = clauseR Tm.wr s := by
  simp only [clauseR, clauseB_eq]
theorem linesR_eq : ∀ l : List (List UInt8), linesR Tm.wr3 l = linesR Tm.wr l
  | [] => rfl
  | [_] => rfl
  | a :: b :: l => by
    have ih := linesR_eq (b :: l)
    show (match clauseR Tm.wr3 a, linesR Tm.wr3 (b :: l) with | some c, some p => some (c :: p) | _, _ => none) = (match clauseR Tm.wr a, linesR Tm.wr (b :: l) with | some c, some p => some (c :: p) | _, _ => none)
    rw [ih, clauseR_eq]
theorem progR_eq (s : List UInt8) : progR Tm.wr3 s = progR Tm.wr s := by
  simp only [progR, linesR_eq]
end Go.Proofs.YtbblefjbgbocoaaGreatDoor

/-
  QueryValid of the program and of the reference.
  Conditions: none.
-/
open Go Go.AM Go.Proofs
namespace Go.Proofs.YtbblefjbgbocoaaGreatDoor
open Go.ChangeShapes Go.WideShapes Go.ChangeAt Go.RowKit
set_option linter.unusedVariables false
set_option linter.unusedSimpArgs false
set_option maxRecDepth 100000
-- 25 loop.example/prologserver/impl.QueryValid params 1 ntmps 5
end Go.Proofs.YtbblefjbgbocoaaGreatDoor

/-
  TermSame of the program.
  Conditions: none.
-/
open Go Go.AM Go.Proofs
namespace Go.Proofs.YtbblefjbgbocoaaGreatDoor
open Go.ChangeShapes Go.WideShapes Go.ChangeAt Go.RowKit
set_option linter.unusedVariables false
set_option linter.unusedSimpArgs false
set_option maxRecDepth 100000
-- 66 loop.example/prologserver/impl.TermSame params 2 ntmps 31
end Go.Proofs.YtbblefjbgbocoaaGreatDoor

/-
  TermSame of the reference.
  Conditions: none.
-/
open Go Go.AM Go.Proofs
namespace Go.Proofs.YtbblefjbgbocoaaGreatDoor
open Go.ChangeShapes Go.WideShapes Go.ChangeAt Go.RowKit
set_option linter.unusedVariables false
set_option linter.unusedSimpArgs false
set_option maxRecDepth 100000
end Go.Proofs.YtbblefjbgbocoaaGreatDoor

/-
  Queries as the reference reads them.
  Conditions: none.
-/
open Go Go.AM Go.Proofs
namespace Go.Proofs.YtbblefjbgbocoaaGreatDoor
open Go.ChangeShapes Go.WideShapes Go.ChangeAt Go.RowKit
set_option linter.unusedVariables false
set_option linter.unusedSimpArgs false
set_option maxRecDepth 100000
-- 58 loop.example/prologserver/spec.l4Goals params 2 ntmps 33
-- loop head live: [0,1,6]
def ac58 : Cd := .seq (.region [⟨(some 4),.mv (.k (.c (.full []))),none⟩,
 ⟨(some 5),.mv (.k (.c (.d (.int .i64 0)))),none⟩] [4,5])
 (.seq (.region [⟨(some 9),.buildSlice 4 0 [(.int .i64 0),(.int .i64 0),(.str []),(.sl [])] [],none⟩,
 ⟨(some 6),.mv (.t 9),none⟩] [9])
 (.seq (.block 0 (.loop (.seq (.seq (.region [⟨(some 10),.mv (.t 6),none⟩,
 ⟨(some 11),.len 1 (.t 10),none⟩,
 ⟨(some 12),.bin .leq (.t 11) (.k (.c (.d (.int .i64 6)))),none⟩] [10,11])
 (.cond (.t 12)
 (.skip)
 (.exit 0)))
 (.block 1 (.seq (.region [⟨(some 14),.mv (.t 0),none⟩,
 ⟨(some 15),.mv (.t 1),none⟩,
 ⟨(some 16),.qcall 108 [(.t 14),(.t 15),(.k (.c (.d (.int .i64 30)))),(.k (.c (.d (.int .i64 3))))],none⟩,
 ⟨(some 13),.mv (.t 16),none⟩,
 ⟨(some 17),.extract 0 (.t 13),none⟩,
 ⟨(some 18),.extract 1 (.t 13),none⟩,
 ⟨(some 7),.alloc [(.d (.int .i64 0)),(.d (.int .i64 0)),(.d (.str [])),(.full [])],none⟩,
 ⟨none,.store 4 (.t 7) (.t 17),none⟩,
 ⟨(some 8),.mv (.t 18),none⟩] [1,12,13,14,15,16,17,18])
 (.seq (.seq (.region [⟨(some 19),.mv (.t 8),none⟩,
 ⟨(some 20),.bin .lss (.t 19) (.k (.c (.d (.int .i64 0)))),none⟩] [19])
 (.cond (.t 20)
 (.seq (.region [⟨(some 4),.mv (.k (.c (.full []))),none⟩,
 ⟨(some 5),.mv (.k (.c (.d (.int .i64 (-1))))),none⟩] [0,6,7,8,20])
 (.ret))
 (.skip)))
 (.seq (.region [⟨(some 21),.mv (.t 6),none⟩,
 ⟨(some 22),.load (some 4) (.t 7),none⟩,
 ⟨(some 23),.buildSlice 4 1 [(.int .i64 0),(.int .i64 0),(.str []),(.sl [])] [(0,(.t 22))],none⟩,
 ⟨(some 24),.append false 4 (.t 21) (.t 23),none⟩,
 ⟨(some 6),.mv (.t 24),none⟩] [4,5,7,20,21,22,23,24])
 (.seq (.seq (.region [⟨(some 25),.mv (.t 0),none⟩,
 ⟨(some 26),.mv (.t 8),none⟩,
 ⟨(some 27),.qcall 106 [(.t 25),(.t 26),(.k (.c (.d (.int .u8 44))))],none⟩,
 ⟨(some 28),.un .not (.t 27),none⟩] [25,26,27])
 (.cond (.t 28)
 (.seq (.region [⟨(some 29),.mv (.t 6),none⟩,
 ⟨(some 30),.mv (.t 8),none⟩,
 ⟨(some 4),.mv (.t 29),none⟩,
 ⟨(some 5),.mv (.t 30),none⟩] [0,6,8,28,29,30])
 (.ret))
 (.skip)))
 (.region [⟨(some 31),.mv (.t 8),none⟩,
 ⟨(some 32),.bin .add (.t 31) (.k (.c (.d (.int .i64 1)))),none⟩,
 ⟨(some 1),.mv (.t 32),none⟩] [4,5,8,28,31,32])))))))))
 (.seq (.region [⟨(some 4),.mv (.k (.c (.full []))),none⟩,
 ⟨(some 5),.mv (.k (.c (.d (.int .i64 (-1))))),none⟩] [])
 (.ret))))
theorem ac58_ok : cFunc Tryz.prog [1000106,1000108] [(0,[4,5],[]),(1,[9],[]),(2,[10,11],[]),(3,[1,12,13,14,15,16,17,18],[]),(4,[19],[]),(5,[0,6,7,8,20],[]),(6,[4,5,7,20,21,22,23,24],[]),(7,[25,26,27],[]),(8,[0,6,8,28,29,30],[]),(9,[4,5,8,28,31,32],[]),(10,[],[])] Tryz.f58 = some (ac58,[.tmp 4,.tmp 5],33) := by kernel_rfl
-- 14 loop.example/prologserver/spec.ParseQuery params 1 ntmps 43
-- loop head live: [4,6,7]
def goalsA : Option (List Tm × Nat) → A
  | some (ts, k) => .tup [.c (.d (.sl (ts.map Tm.row))), .c (.d (.int .i64 k))]
  | none => .tup [.c (.d (.sl [])), .c (.d (.int .i64 (-1)))]
def appG (out : List Tm) : Option (List Tm × Nat) → Option (List Tm × Nat)
  | some (us, k) => some (out ++ us, k)
  | none => none
theorem rdF_ok (s : List UInt8) (hs : s.length ≤ 1000000) (i d : Nat) (hi : i ≤ s.length) : ∃ r, rdF s (.read i d 3) = some r ∧ (Job.read i d 3).post s r :=
  rd_total s hs _ (.read i d 3) (by simp only [Job.m]; omega) ⟨hi, by omega⟩
theorem l4Goals_calls (s : List UInt8) (hs : s.length ≤ 1000000) (i : Nat) (hi : i ≤ s.length) (H : Heap) : ACalls Tryz.prog 58 [.c (.d (.str s)), .c (.d (.int .i64 i))] H (fun r H' => H' = H ∧ r = goalsA (goalsR s 7 i)) := by
  refine acalls Tryz.func58 (by kernel_rfl) ac58_ok fun hf => ?_
  simp -implicitDefEqProofs [ac58, go_sem, -List.set_cons_succ, -List.set_cons_zero]
  refine loop_enter (St.le_token 6 4 rfl) ?_
  obtain ⟨G, hG⟩ : ∃ G, G = goalsR s 7 i := ⟨_, rfl⟩
  rw [← hG]
  refine loop_set (σ := Nat × List Tm × Nat) (fun x => [(1, .c (.d (.int .i64 x.1))), (6, .c (.own (.l 0) x.2.1.length (x.2.1.map Tm.row)))]) (fun _ => H) (fun x => [.grow x.2.1.length 4])
    (fun x => x.1 ≤ s.length ∧ x.2.1.length + x.2.2 = 7 ∧ appG x.2.1 (goalsR s x.2.2 x.1) = G) (fun x => x.2.2) (i, [], 7) (by simp [setAll]) ⟨hi, by simp, by rw [hG]; cases goalsR s 7 i <;> simp [appG]⟩ ?_
  rintro ⟨p, out, n⟩ ⟨hp, hn, h1⟩
  simp only at hp hn h1
  have hol : inR .i64 (out.length : Int) := small_i64 (by omega) (by omega)
  simp -implicitDefEqProofs [setAll, hol, go_sem, -List.set_cons_succ, -List.set_cons_zero]
  cases n with
  | zero =>
    have h6 : ¬ (out.length : Int) ≤ 6 := by omega
    have h7 : (6 : Int) < (out.length : Int) := by omega
    rw [goalsR] at h1
    subst h1
    simp -implicitDefEqProofs [h6, h7, appG, goalsA, hf, go_sem, -List.set_cons_succ, -List.set_cons_zero]
  | succ n =>
    have h6 : (out.length : Int) ≤ 6 := by omega
    have h7 : ¬ (6 : Int) < (out.length : Int) := by omega
    obtain ⟨r, hr, hpost⟩ := rdF_ok s hs p 30 hp
    rw [goalsR, hr] at h1
    have c1 := (par s hs _).read p 30 3 r hp (by omega) (by omega) hr
    simp only [Int.cast_ofNat_Int] at c1
    simp -implicitDefEqProofs [h6, h7, hf, go_sem, -List.set_cons_succ, -List.set_cons_zero]
    refine qcall_pure c1 hf (readA_re _ _) ?_
    cases r with
    | bad e =>
      have he : e ≤ s.length := hpost
      have hneg : (-1 - (e : Int)) < 0 := by omega
      subst h1
      simp -implicitDefEqProofs [readA, hneg, appG, goalsA, row_mk, hf, go_sem, -List.set_cons_succ, -List.set_cons_zero]
    | ok ts j =>
      obtain ⟨g1, g2, t, rfl, g3⟩ := hpost
      simp only [Rs.tm] at h1
      have hj0 : ¬ (j : Int) < 0 := by omega
      have hj1 : inR .i64 ((j : Int) + 1) := small_i64 (by omega) (by omega)
      simp -implicitDefEqProofs [readA, Rs.tm, hj0, row_len, take_row, pure_d, re_d, toDs_map, hf, go_sem, -List.set_cons_succ, -List.set_cons_zero]
      refine ⟨allLen_map row_len, by unfold maxApp; omega, ?_⟩
      refine qcall_pure (sign_calls s hs j (by omega) 44) hf rfl ?_
      cases hsg : sgn s j 44 with
      | false =>
        rw [hsg] at h1
        simp only [Bool.false_eq_true, if_false] at h1
        subst h1
        simp -implicitDefEqProofs [appG, goalsA, hf, go_sem, -List.set_cons_succ, -List.set_cons_zero]
      | true =>
        rw [hsg] at h1
        simp only [if_true] at h1
        have hjl := sgn_lt hsg
        simp -implicitDefEqProofs [hj1, hf, go_sem, -List.set_cons_succ, -List.set_cons_zero]
        refine loop_less (j + 1, out ++ [t], n) (St.le_cut [_] ?_ (by simp [Sl.le, A.le_refl_iff, A.le_u_iff, As.lo, A.lo, C.lo, Ref.lo, Cs.lo, Obs.lo, Ob.lo, setAll, and_true, true_and, List.length_nil, List.length_cons]) (by simp; rfl) (by simp [Sl.le, A.le_refl_iff, A.le_u_iff, As.lo, A.lo, C.lo, Ref.lo, Cs.lo, Obs.lo, Ob.lo, setAll, and_true, true_and, List.length_nil, List.length_cons])) ⟨by dsimp only; omega, by simp; omega, ?_⟩ (by show n < n + 1; omega)
        · simp [setAll, Sl.le, A.le_refl_iff, A.le_u_iff, As.lo, A.lo, C.lo, Ref.lo, Cs.lo, Obs.lo, Ob.lo, setAll, and_true, true_and, List.length_nil, List.length_cons]
        · rw [← h1]
          show appG (out ++ [t]) (goalsR s n (j + 1)) = _
          cases goalsR s n (j + 1) with
          | none => rfl
          | some q => obtain ⟨us, k⟩ := q; simp [appG]
theorem goalsR_ok (s : List UInt8) (hs : s.length ≤ 1000000) : ∀ (n i : Nat) (ts : List Tm) (k : Nat), i ≤ s.length → goalsR s n i = some (ts, k) → k ≤ s.length ∧ ts.length ≤ n ∧ (∀ t ∈ ts, t.fits) ∧ 1 ≤ ts.length
  | 0, i, ts, k, _, h => by cases h
  | n + 1, i, ts, k, hi, h => by
    obtain ⟨r, hr, hpost⟩ := rdF_ok s hs i 30 hi
    rw [goalsR, hr] at h
    cases r with
    | bad e => cases h
    | ok us j =>
      obtain ⟨g1, g2, t, rfl, g3⟩ := hpost
      simp only [Rs.tm] at h
      split at h
      · rename_i hc
        have hjl := sgn_lt hc
        cases hg : goalsR s n (j + 1) with
        | none => rw [hg] at h; cases h
        | some q =>
          obtain ⟨vs, m⟩ := q
          rw [hg] at h
          cases h
          obtain ⟨q1, q2, q3, q4⟩ := goalsR_ok s hs n (j + 1) _ _ (by omega) hg
          exact ⟨q1, by simp; omega, fun u hu => by
            rcases List.mem_cons.1 hu with rfl | hu
            · exact g3
            · exact q3 u hu, by simp⟩
      · cases h
        exact ⟨g2, by simp, by simpa using g3, by simp⟩
end Go.Proofs.YtbblefjbgbocoaaGreatDoor

/-
  Terms as the reference writes them.
  Conditions: none.
-/
open Go Go.AM Go.Proofs
namespace Go.Proofs.YtbblefjbgbocoaaGreatDoor
open Go.ChangeShapes Go.WideShapes Go.ChangeAt Go.RowKit
set_option linter.unusedVariables false
set_option linter.unusedSimpArgs false
set_option maxRecDepth 100000
-- 255 loop.example/prologserver/spec.l1Letter params 1 ntmps 8
def ac255 : Cd := .seq (.region [⟨(some 2),.mv (.k (.c (.d (.str [])))),none⟩] [2])
 (.seq (.region [⟨(some 3),.mv (.t 0),none⟩,
 ⟨(some 4),.cvInt .u8 (.t 3),none⟩,
 ⟨(some 5),.bin .add (.k (.c (.d (.int .u8 65)))) (.t 4),none⟩,
 ⟨(some 6),.buildSlice 1 1 [(.int .u8 0)] [(0,(.t 5))],none⟩,
 ⟨(some 7),.cvB2S (.t 6),none⟩,
 ⟨(some 2),.mv (.t 7),none⟩] [0,3,4,5,6,7])
 (.ret))
theorem ac255_ok : cFunc Tryz.prog [] [(0,[2],[]),(1,[0,3,4,5,6,7],[])] Tryz.f255 = some (ac255,[.tmp 2],8) := by kernel_rfl
-- 250 loop.example/prologserver/spec.l1Text params 1 ntmps 51
-- loop head live: [1,3,4]
def ac250 : Cd := .seq (.region [⟨(some 1),.box (.t 0),none⟩,
 ⟨(some 2),.mv (.k (.c (.d (.str [])))),none⟩] [0,2])
 (.seq (.seq (.region [⟨(some 5),.fieldAddr 0 (.t 1),none⟩,
 ⟨(some 6),.load none (.t 5),none⟩] [5])
 (.block 0 (.seq (.region [⟨(some 8),.bin .eql (.t 6) (.k (.c (.d (.int .i64 1)))),none⟩,
 ⟨(some 7),.mv (.t 8),none⟩] [8])
 (.cond (.t 7)
 (.seq (.region [⟨(some 9),.fieldAddr 1 (.t 1),none⟩,
 ⟨(some 10),.load none (.t 9),none⟩,
 ⟨(some 11),.qcall 255 [(.t 10)],none⟩,
 ⟨(some 2),.mv (.t 11),none⟩] [1,6,7,9,10,11])
 (.ret))
 (.seq (.region [⟨(some 13),.bin .eql (.t 6) (.k (.c (.d (.int .i64 2)))),none⟩,
 ⟨(some 12),.mv (.t 13),none⟩] [6,7,13])
 (.cond (.t 12)
 (.seq (.region [⟨(some 14),.fieldAddr 1 (.t 1),none⟩,
 ⟨(some 15),.load none (.t 14),none⟩,
 ⟨(some 16),.qcall 54 [(.t 15)],none⟩,
 ⟨(some 2),.mv (.t 16),none⟩] [1,12,14,15,16])
 (.ret))
 (.skip)))))))
 (.seq (.seq (.region [⟨(some 17),.load (some 4) (.t 1),none⟩,
 ⟨(some 18),.qcall 243 [(.t 17)],none⟩] [2,12,17])
 (.cond (.t 18)
 (.seq (.region [⟨(some 19),.load (some 4) (.t 1),none⟩,
 ⟨(some 20),.qcall 256 [(.t 19)],none⟩,
 ⟨(some 2),.mv (.t 20),none⟩] [1,18,19,20])
 (.ret))
 (.skip)))
 (.seq (.region [⟨(some 21),.fieldAddr 2 (.t 1),none⟩,
 ⟨(some 22),.load none (.t 21),none⟩,
 ⟨(some 3),.mv (.t 22),none⟩] [2,18,21,22])
 (.seq (.seq (.region [⟨(some 4),.mv (.k (.c (.d (.int .i64 0)))),none⟩] [])
 (.block 1 (.loop (.seq (.seq (.region [⟨(some 23),.mv (.t 4),none⟩,
 ⟨(some 24),.fieldAddr 3 (.t 1),none⟩,
 ⟨(some 25),.load none (.t 24),none⟩,
 ⟨(some 26),.len 1 (.t 25),none⟩,
 ⟨(some 27),.bin .lss (.t 23) (.t 26),none⟩] [23,24,25,26])
 (.cond (.t 27)
 (.skip)
 (.exit 1)))
 (.seq (.block 2 (.seq (.seq (.region [⟨(some 30),.mv (.t 4),none⟩,
 ⟨(some 31),.bin .eql (.t 30) (.k (.c (.d (.int .i64 0)))),none⟩] [27,30])
 (.cond (.t 31)
 (.region [⟨(some 32),.mv (.t 3),none⟩,
 ⟨(some 33),.bin .add (.t 32) (.k (.c (.d (.str [40])))),none⟩,
 ⟨(some 3),.mv (.t 33),none⟩] [31,32,33])
 (.region [⟨(some 34),.mv (.t 3),none⟩,
 ⟨(some 35),.bin .add (.t 34) (.k (.c (.d (.str [44])))),none⟩,
 ⟨(some 3),.mv (.t 35),none⟩] [31,34,35])))
 (.region [⟨(some 36),.mv (.t 3),none⟩,
 ⟨(some 37),.fieldAddr 3 (.t 1),none⟩,
 ⟨(some 38),.load none (.t 37),none⟩,
 ⟨(some 39),.mv (.t 4),none⟩,
 ⟨(some 40),.indexAddr 4 (.t 38) (.t 39),none⟩,
 ⟨(some 41),.load (some 4) (.t 40),none⟩,
 ⟨(some 42),.qcall 250 [(.t 41)],none⟩,
 ⟨(some 43),.bin .add (.t 36) (.t 42),none⟩,
 ⟨(some 3),.mv (.t 43),none⟩] [36,37,38,39,40,41,42,43])))
 (.region [⟨(some 28),.mv (.t 4),none⟩,
 ⟨(some 29),.bin .add (.t 28) (.k (.c (.d (.int .i64 1)))),none⟩,
 ⟨(some 4),.mv (.t 29),none⟩] [28,29]))))))
 (.seq (.seq (.region [⟨(some 44),.fieldAddr 3 (.t 1),none⟩,
 ⟨(some 45),.load none (.t 44),none⟩,
 ⟨(some 46),.len 1 (.t 45),none⟩,
 ⟨(some 47),.bin .gtr (.t 46) (.k (.c (.d (.int .i64 0)))),none⟩] [1,44,45,46])
 (.cond (.t 47)
 (.region [⟨(some 48),.mv (.t 3),none⟩,
 ⟨(some 49),.bin .add (.t 48) (.k (.c (.d (.str [41])))),none⟩,
 ⟨(some 3),.mv (.t 49),none⟩] [47,48,49])
 (.skip)))
 (.seq (.region [⟨(some 50),.mv (.t 3),none⟩,
 ⟨(some 2),.mv (.t 50),none⟩] [3,47,50])
 (.ret)))))))
theorem ac250_ok : cFunc Tryz.prog [1000054,1000243,1000250,1000255,1000256] [(0,[0,2],[]),(1,[5],[]),(2,[8],[]),(3,[1,6,7,9,10,11],[]),(4,[6,7,13],[]),(5,[1,12,14,15,16],[]),(6,[2,12,17],[]),(7,[1,18,19,20],[]),(8,[2,18,21,22],[]),(9,[],[]),(10,[23,24,25,26],[]),(12,[27,30],[]),(13,[31,32,33],[]),(14,[31,34,35],[]),(15,[36,37,38,39,40,41,42,43],[]),(11,[28,29],[]),(16,[1,44,45,46],[]),(17,[47,48,49],[]),(18,[3,47,50],[])] Tryz.f250 = some (ac250,[.tmp 2],51) := by kernel_rfl
-- 245 loop.example/prologserver/spec.l2Infix params 1 ntmps 18
def ac245 : Cd := .seq (.region [⟨(some 1),.box (.t 0),none⟩,
 ⟨(some 2),.mv (.k (.c (.d (.bool false)))),none⟩] [0,2])
 (.seq (.region [⟨(some 3),.fieldAddr 0 (.t 1),none⟩,
 ⟨(some 4),.load none (.t 3),none⟩,
 ⟨(some 5),.bin .eql (.t 4) (.k (.c (.d (.int .i64 3)))),none⟩,
 ⟨(some 6),.mv (.t 5),none⟩,
 ⟨(some 7),.fieldAddr 3 (.t 1),some (6,true)⟩,
 ⟨(some 8),.load none (.t 7),some (6,true)⟩,
 ⟨(some 9),.len 1 (.t 8),some (6,true)⟩,
 ⟨(some 10),.bin .eql (.t 9) (.k (.c (.d (.int .i64 2)))),some (6,true)⟩,
 ⟨(some 11),.pick (.t 6) (.t 10) (.k (.c (.d (.bool false)))),none⟩,
 ⟨(some 12),.mv (.t 11),none⟩,
 ⟨(some 13),.fieldAddr 2 (.t 1),some (12,true)⟩,
 ⟨(some 14),.load none (.t 13),some (12,true)⟩,
 ⟨(some 15),.qcall 139 [(.t 14)],some (12,true)⟩,
 ⟨(some 16),.bin .gtr (.t 15) (.k (.c (.d (.int .i64 0)))),some (12,true)⟩,
 ⟨(some 17),.pick (.t 12) (.t 16) (.k (.c (.d (.bool false)))),none⟩,
 ⟨(some 2),.mv (.t 17),none⟩] [1,3,4,5,6,7,8,9,10,11,12,13,14,15,16,17])
 (.ret))
theorem ac245_ok : cFunc Tryz.prog [1000139] [(0,[0,2],[]),(1,[1,3,4,5,6,7,8,9,10,11,12,13,14,15,16,17],[])] Tryz.f245 = some (ac245,[.tmp 2],18) := by kernel_rfl
-- 247 loop.example/prologserver/spec.l2Spaced params 1 ntmps 13
def ac247 : Cd := .seq (.region [⟨(some 2),.mv (.k (.c (.d (.str [])))),none⟩] [2])
 (.seq (.seq (.region [⟨(some 3),.mv (.t 0),none⟩,
 ⟨(some 4),.bin .eql (.t 3) (.k (.c (.d (.str [105,115])))),none⟩,
 ⟨(some 5),.mv (.t 4),none⟩,
 ⟨(some 6),.mv (.t 0),some (5,false)⟩,
 ⟨(some 7),.bin .eql (.t 6) (.k (.c (.d (.str [109,111,100])))),some (5,false)⟩,
 ⟨(some 8),.pick (.t 5) (.k (.c (.d (.bool true)))) (.t 7),none⟩] [3,4,5,6,7])
 (.cond (.t 8)
 (.seq (.region [⟨(some 9),.mv (.t 0),none⟩,
 ⟨(some 10),.bin .add (.k (.c (.d (.str [32])))) (.t 9),none⟩,
 ⟨(some 11),.bin .add (.t 10) (.k (.c (.d (.str [32])))),none⟩,
 ⟨(some 2),.mv (.t 11),none⟩] [0,8,9,10,11])
 (.ret))
 (.skip)))
 (.seq (.region [⟨(some 12),.mv (.t 0),none⟩,
 ⟨(some 2),.mv (.t 12),none⟩] [0,8,12])
 (.ret)))
theorem ac247_ok : cFunc Tryz.prog [] [(0,[2],[]),(1,[3,4,5,6,7],[]),(2,[0,8,9,10,11],[]),(3,[0,8,12],[])] Tryz.f247 = some (ac247,[.tmp 2],13) := by kernel_rfl
-- 253 loop.example/prologserver/spec.l2Bracket params 2 ntmps 20
def ac253 : Cd := .seq (.region [⟨(some 2),.box (.t 0),none⟩,
 ⟨(some 4),.mv (.k (.c (.d (.str [])))),none⟩] [0,4])
 (.seq (.seq (.region [⟨(some 5),.load (some 4) (.t 2),none⟩,
 ⟨(some 6),.qcall 245 [(.t 5)],none⟩,
 ⟨(some 7),.mv (.t 6),none⟩,
 ⟨(some 8),.fieldAddr 2 (.t 2),some (7,true)⟩,
 ⟨(some 9),.load none (.t 8),some (7,true)⟩,
 ⟨(some 10),.qcall 139 [(.t 9)],some (7,true)⟩,
 ⟨(some 11),.mv (.t 1),some (7,true)⟩,
 ⟨(some 12),.bin .gtr (.t 10) (.t 11),some (7,true)⟩,
 ⟨(some 13),.pick (.t 7) (.t 12) (.k (.c (.d (.bool false)))),none⟩] [1,5,6,7,8,9,10,11,12])
 (.cond (.t 13)
 (.seq (.region [⟨(some 14),.load (some 4) (.t 2),none⟩,
 ⟨(some 15),.qcall 242 [(.t 14)],none⟩,
 ⟨(some 16),.bin .add (.k (.c (.d (.str [40])))) (.t 15),none⟩,
 ⟨(some 17),.bin .add (.t 16) (.k (.c (.d (.str [41])))),none⟩,
 ⟨(some 4),.mv (.t 17),none⟩] [2,13,14,15,16,17])
 (.ret))
 (.skip)))
 (.seq (.region [⟨(some 18),.load (some 4) (.t 2),none⟩,
 ⟨(some 19),.qcall 242 [(.t 18)],none⟩,
 ⟨(some 4),.mv (.t 19),none⟩] [2,13,18,19])
 (.ret)))
theorem ac253_ok : cFunc Tryz.prog [1000139,1000242,1000245] [(0,[0,4],[]),(1,[1,5,6,7,8,9,10,11,12],[]),(2,[2,13,14,15,16,17],[]),(3,[2,13,18,19],[])] Tryz.f253 = some (ac253,[.tmp 4],20) := by kernel_rfl
-- 249 loop.example/prologserver/spec.l2Args params 1 ntmps 23
-- loop head live: [0,3,4]
def ac249 : Cd := .seq (.region [⟨(some 2),.mv (.k (.c (.d (.str [])))),none⟩] [2])
 (.seq (.region [⟨(some 3),.mv (.k (.c (.d (.str [])))),none⟩] [])
 (.seq (.seq (.region [⟨(some 4),.mv (.k (.c (.d (.int .i64 0)))),none⟩] [])
 (.block 0 (.loop (.seq (.seq (.region [⟨(some 5),.mv (.t 4),none⟩,
 ⟨(some 6),.mv (.t 0),none⟩,
 ⟨(some 7),.len 1 (.t 6),none⟩,
 ⟨(some 8),.bin .lss (.t 5) (.t 7),none⟩] [5,6,7])
 (.cond (.t 8)
 (.skip)
 (.exit 0)))
 (.seq (.block 1 (.seq (.seq (.region [⟨(some 11),.mv (.t 4),none⟩,
 ⟨(some 12),.bin .gtr (.t 11) (.k (.c (.d (.int .i64 0)))),none⟩] [8,11])
 (.cond (.t 12)
 (.region [⟨(some 13),.mv (.t 3),none⟩,
 ⟨(some 14),.bin .add (.t 13) (.k (.c (.d (.str [44])))),none⟩,
 ⟨(some 3),.mv (.t 14),none⟩] [12,13,14])
 (.skip)))
 (.region [⟨(some 15),.mv (.t 3),none⟩,
 ⟨(some 16),.mv (.t 0),none⟩,
 ⟨(some 17),.mv (.t 4),none⟩,
 ⟨(some 18),.indexAddr 4 (.t 16) (.t 17),none⟩,
 ⟨(some 19),.load (some 4) (.t 18),none⟩,
 ⟨(some 20),.qcall 242 [(.t 19)],none⟩,
 ⟨(some 21),.bin .add (.t 15) (.t 20),none⟩,
 ⟨(some 3),.mv (.t 21),none⟩] [12,15,16,17,18,19,20,21])))
 (.region [⟨(some 9),.mv (.t 4),none⟩,
 ⟨(some 10),.bin .add (.t 9) (.k (.c (.d (.int .i64 1)))),none⟩,
 ⟨(some 4),.mv (.t 10),none⟩] [9,10]))))))
 (.seq (.region [⟨(some 22),.mv (.t 3),none⟩,
 ⟨(some 2),.mv (.t 22),none⟩] [3,22])
 (.ret))))
theorem ac249_ok : cFunc Tryz.prog [1000242] [(0,[2],[]),(1,[],[]),(2,[],[]),(3,[5,6,7],[]),(5,[8,11],[]),(6,[12,13,14],[]),(7,[12,15,16,17,18,19,20,21],[]),(4,[9,10],[]),(8,[3,22],[])] Tryz.f249 = some (ac249,[.tmp 2],23) := by kernel_rfl
-- 244 loop.example/prologserver/spec.l2List params 1 ntmps 32
-- loop head live: [1,3]
def ac244 : Cd := .seq (.region [⟨(some 1),.box (.t 0),none⟩,
 ⟨(some 2),.mv (.k (.c (.d (.str [])))),none⟩] [0,2])
 (.seq (.region [⟨(some 4),.buildSlice 4 0 [(.int .i64 0),(.int .i64 0),(.str []),(.sl [])] [],none⟩,
 ⟨(some 3),.mv (.t 4),none⟩] [4])
 (.seq (.block 0 (.loop (.seq (.seq (.region [⟨(some 5),.load (some 4) (.t 1),none⟩,
 ⟨(some 6),.qcall 243 [(.t 5)],none⟩] [5])
 (.cond (.t 6)
 (.skip)
 (.exit 0)))
 (.block 1 (.seq (.region [⟨(some 7),.mv (.t 3),none⟩,
 ⟨(some 8),.fieldAddr 3 (.t 1),none⟩,
 ⟨(some 9),.load none (.t 8),none⟩,
 ⟨(some 10),.indexAddr 4 (.t 9) (.k (.c (.d (.int .i64 0)))),none⟩,
 ⟨(some 11),.load (some 4) (.t 10),none⟩,
 ⟨(some 12),.buildSlice 4 1 [(.int .i64 0),(.int .i64 0),(.str []),(.sl [])] [(0,(.t 11))],none⟩,
 ⟨(some 13),.append false 4 (.t 7) (.t 12),none⟩,
 ⟨(some 3),.mv (.t 13),none⟩] [6,7,8,9,10,11,12,13])
 (.region [⟨(some 14),.fieldAddr 3 (.t 1),none⟩,
 ⟨(some 15),.load none (.t 14),none⟩,
 ⟨(some 16),.indexAddr 4 (.t 15) (.k (.c (.d (.int .i64 1)))),none⟩,
 ⟨(some 17),.load (some 4) (.t 16),none⟩,
 ⟨none,.store 4 (.t 1) (.t 17),none⟩] [14,15,16,17]))))))
 (.seq (.seq (.region [⟨(some 18),.load (some 4) (.t 1),none⟩,
 ⟨(some 19),.qcall 251 [(.t 18)],none⟩] [18])
 (.cond (.t 19)
 (.seq (.region [⟨(some 20),.mv (.t 3),none⟩,
 ⟨(some 21),.qcall 249 [(.t 20)],none⟩,
 ⟨(some 22),.bin .add (.k (.c (.d (.str [91])))) (.t 21),none⟩,
 ⟨(some 23),.bin .add (.t 22) (.k (.c (.d (.str [93])))),none⟩,
 ⟨(some 2),.mv (.t 23),none⟩] [1,3,19,20,21,22,23])
 (.ret))
 (.skip)))
 (.seq (.region [⟨(some 24),.mv (.t 3),none⟩,
 ⟨(some 25),.qcall 249 [(.t 24)],none⟩,
 ⟨(some 26),.bin .add (.k (.c (.d (.str [91])))) (.t 25),none⟩,
 ⟨(some 27),.bin .add (.t 26) (.k (.c (.d (.str [124])))),none⟩,
 ⟨(some 28),.load (some 4) (.t 1),none⟩,
 ⟨(some 29),.qcall 242 [(.t 28)],none⟩,
 ⟨(some 30),.bin .add (.t 27) (.t 29),none⟩,
 ⟨(some 31),.bin .add (.t 30) (.k (.c (.d (.str [93])))),none⟩,
 ⟨(some 2),.mv (.t 31),none⟩] [1,3,19,24,25,26,27,28,29,30,31])
 (.ret)))))
theorem ac244_ok : cFunc Tryz.prog [1000242,1000243,1000249,1000251] [(0,[0,2],[]),(1,[4],[]),(2,[5],[]),(3,[6,7,8,9,10,11,12,13],[]),(4,[14,15,16,17],[]),(5,[18],[]),(6,[1,3,19,20,21,22,23],[]),(7,[1,3,19,24,25,26,27,28,29,30,31],[0,1,2,3,4,5,6,7,8])] Tryz.f244 = some (ac244,[.tmp 2],32) := by kernel_rfl
-- 252 loop.example/prologserver/spec.l2Sole params 1 ntmps 18
def ac252 : Cd := .seq (.region [⟨(some 1),.box (.t 0),none⟩,
 ⟨(some 2),.mv (.k (.c (.d (.bool false)))),none⟩] [0,2])
 (.seq (.region [⟨(some 3),.fieldAddr 0 (.t 1),none⟩,
 ⟨(some 4),.load none (.t 3),none⟩,
 ⟨(some 5),.bin .eql (.t 4) (.k (.c (.d (.int .i64 3)))),none⟩,
 ⟨(some 6),.mv (.t 5),none⟩,
 ⟨(some 7),.fieldAddr 3 (.t 1),some (6,true)⟩,
 ⟨(some 8),.load none (.t 7),some (6,true)⟩,
 ⟨(some 9),.len 1 (.t 8),some (6,true)⟩,
 ⟨(some 10),.bin .eql (.t 9) (.k (.c (.d (.int .i64 0)))),some (6,true)⟩,
 ⟨(some 11),.pick (.t 6) (.t 10) (.k (.c (.d (.bool false)))),none⟩,
 ⟨(some 12),.mv (.t 11),none⟩,
 ⟨(some 13),.fieldAddr 2 (.t 1),some (12,true)⟩,
 ⟨(some 14),.load none (.t 13),some (12,true)⟩,
 ⟨(some 15),.qcall 139 [(.t 14)],some (12,true)⟩,
 ⟨(some 16),.bin .gtr (.t 15) (.k (.c (.d (.int .i64 0)))),some (12,true)⟩,
 ⟨(some 17),.pick (.t 12) (.t 16) (.k (.c (.d (.bool false)))),none⟩,
 ⟨(some 2),.mv (.t 17),none⟩] [1,3,4,5,6,7,8,9,10,11,12,13,14,15,16,17])
 (.ret))
theorem ac252_ok : cFunc Tryz.prog [1000139] [(0,[0,2],[]),(1,[1,3,4,5,6,7,8,9,10,11,12,13,14,15,16,17],[])] Tryz.f252 = some (ac252,[.tmp 2],18) := by kernel_rfl
-- 254 loop.example/prologserver/spec.l2Plain params 1 ntmps 29
def ac254 : Cd := .seq (.region [⟨(some 2),.mv (.k (.c (.d (.bool false)))),none⟩] [2])
 (.seq (.region [⟨(some 3),.mv (.t 0),none⟩,
 ⟨(some 4),.qcall 231 [(.t 3),(.k (.c (.d (.int .i64 0))))],none⟩,
 ⟨(some 5),.mv (.t 4),none⟩,
 ⟨(some 6),.mv (.t 0),some (5,false)⟩,
 ⟨(some 7),.qcall 200 [(.t 6),(.k (.c (.d (.int .i64 0))))],some (5,false)⟩,
 ⟨(some 8),.pick (.t 5) (.k (.c (.d (.bool true)))) (.t 7),none⟩,
 ⟨(some 9),.mv (.t 8),none⟩,
 ⟨(some 10),.mv (.t 0),some (9,false)⟩,
 ⟨(some 11),.index (.t 10) (.k (.c (.d (.int .i64 0)))),some (9,false)⟩,
 ⟨(some 12),.bin .geq (.t 11) (.k (.c (.d (.int .u8 65)))),some (9,false)⟩,
 ⟨(some 13),.mv (.t 12),some (9,false)⟩,
 ⟨(some 14),.mv (.t 0),some (13,true)⟩,
 ⟨(some 15),.index (.t 14) (.k (.c (.d (.int .i64 0)))),some (13,true)⟩,
 ⟨(some 16),.bin .leq (.t 15) (.k (.c (.d (.int .u8 90)))),some (13,true)⟩,
 ⟨(some 17),.pick (.t 13) (.t 16) (.k (.c (.d (.bool false)))),some (9,false)⟩,
 ⟨(some 18),.pick (.t 9) (.k (.c (.d (.bool true)))) (.t 17),none⟩,
 ⟨(some 19),.mv (.t 18),none⟩,
 ⟨(some 20),.mv (.t 0),some (19,false)⟩,
 ⟨(some 21),.index (.t 20) (.k (.c (.d (.int .i64 0)))),some (19,false)⟩,
 ⟨(some 22),.bin .eql (.t 21) (.k (.c (.d (.int .u8 91)))),some (19,false)⟩,
 ⟨(some 23),.pick (.t 19) (.k (.c (.d (.bool true)))) (.t 22),none⟩,
 ⟨(some 24),.mv (.t 23),none⟩,
 ⟨(some 25),.mv (.t 0),some (24,false)⟩,
 ⟨(some 26),.index (.t 25) (.k (.c (.d (.int .i64 0)))),some (24,false)⟩,
 ⟨(some 27),.bin .eql (.t 26) (.k (.c (.d (.int .u8 40)))),some (24,false)⟩,
 ⟨(some 28),.pick (.t 24) (.k (.c (.d (.bool true)))) (.t 27),none⟩,
 ⟨(some 2),.mv (.t 28),none⟩] [0,3,4,5,6,7,8,9,10,11,12,13,14,15,16,17,18,19,20,21,22,23,24,25,26,27,28])
 (.ret))
theorem ac254_ok : cFunc Tryz.prog [1000200,1000231] [(0,[2],[]),(1,[0,3,4,5,6,7,8,9,10,11,12,13,14,15,16,17,18,19,20,21,22,23,24,25,26,27,28],[])] Tryz.f254 = some (ac254,[.tmp 2],29) := by kernel_rfl
-- 246 loop.example/prologserver/spec.l2Left params 2 ntmps 14
def ac246 : Cd := .seq (.region [⟨(some 2),.box (.t 0),none⟩,
 ⟨(some 4),.mv (.k (.c (.d (.str [])))),none⟩] [0,4])
 (.seq (.seq (.region [⟨(some 5),.load (some 4) (.t 2),none⟩,
 ⟨(some 6),.qcall 252 [(.t 5)],none⟩] [5])
 (.cond (.t 6)
 (.seq (.region [⟨(some 7),.load (some 4) (.t 2),none⟩,
 ⟨(some 8),.qcall 242 [(.t 7)],none⟩,
 ⟨(some 9),.bin .add (.k (.c (.d (.str [40])))) (.t 8),none⟩,
 ⟨(some 10),.bin .add (.t 9) (.k (.c (.d (.str [41])))),none⟩,
 ⟨(some 4),.mv (.t 10),none⟩] [1,2,6,7,8,9,10])
 (.ret))
 (.skip)))
 (.seq (.region [⟨(some 11),.load (some 4) (.t 2),none⟩,
 ⟨(some 12),.mv (.t 1),none⟩,
 ⟨(some 13),.qcall 253 [(.t 11),(.t 12)],none⟩,
 ⟨(some 4),.mv (.t 13),none⟩] [1,2,6,11,12,13])
 (.ret)))
theorem ac246_ok : cFunc Tryz.prog [1000242,1000252,1000253] [(0,[0,4],[]),(1,[5],[]),(2,[1,2,6,7,8,9,10],[]),(3,[1,2,6,11,12,13],[])] Tryz.f246 = some (ac246,[.tmp 4],14) := by kernel_rfl
-- 248 loop.example/prologserver/spec.l2Right params 2 ntmps 20
def ac248 : Cd := .seq (.region [⟨(some 2),.box (.t 0),none⟩,
 ⟨(some 4),.mv (.k (.c (.d (.str [])))),none⟩] [0,4])
 (.seq (.region [⟨(some 6),.load (some 4) (.t 2),none⟩,
 ⟨(some 7),.mv (.t 1),none⟩,
 ⟨(some 8),.qcall 253 [(.t 6),(.t 7)],none⟩,
 ⟨(some 5),.mv (.t 8),none⟩] [1,6,7,8])
 (.seq (.seq (.region [⟨(some 9),.load (some 4) (.t 2),none⟩,
 ⟨(some 10),.qcall 252 [(.t 9)],none⟩,
 ⟨(some 11),.mv (.t 10),none⟩,
 ⟨(some 12),.mv (.t 5),some (11,false)⟩,
 ⟨(some 13),.qcall 254 [(.t 12)],some (11,false)⟩,
 ⟨(some 14),.un .not (.t 13),some (11,false)⟩,
 ⟨(some 15),.pick (.t 11) (.k (.c (.d (.bool true)))) (.t 14),none⟩] [2,9,10,11,12,13,14])
 (.cond (.t 15)
 (.seq (.region [⟨(some 16),.mv (.t 5),none⟩,
 ⟨(some 17),.bin .add (.k (.c (.d (.str [40])))) (.t 16),none⟩,
 ⟨(some 18),.bin .add (.t 17) (.k (.c (.d (.str [41])))),none⟩,
 ⟨(some 4),.mv (.t 18),none⟩] [5,15,16,17,18])
 (.ret))
 (.skip)))
 (.seq (.region [⟨(some 19),.mv (.t 5),none⟩,
 ⟨(some 4),.mv (.t 19),none⟩] [5,15,19])
 (.ret))))
theorem ac248_ok : cFunc Tryz.prog [1000252,1000253,1000254] [(0,[0,4],[]),(1,[1,6,7,8],[]),(2,[2,9,10,11,12,13,14],[]),(3,[5,15,16,17,18],[]),(4,[5,15,19],[])] Tryz.f248 = some (ac248,[.tmp 4],20) := by kernel_rfl
-- 242 loop.example/prologserver/spec.l2Text params 1 ntmps 57
def ac242 : Cd := .seq (.region [⟨(some 1),.box (.t 0),none⟩,
 ⟨(some 2),.mv (.k (.c (.d (.str [])))),none⟩] [0,2])
 (.seq (.block 0 (.seq (.region [⟨(some 6),.load (some 4) (.t 1),none⟩,
 ⟨(some 7),.qcall 243 [(.t 6)],none⟩,
 ⟨(some 5),.mv (.t 7),none⟩] [6,7])
 (.cond (.t 5)
 (.seq (.region [⟨(some 8),.load (some 4) (.t 1),none⟩,
 ⟨(some 9),.qcall 244 [(.t 8)],none⟩,
 ⟨(some 2),.mv (.t 9),none⟩] [1,5,8,9])
 (.ret))
 (.seq (.region [⟨(some 11),.load (some 4) (.t 1),none⟩,
 ⟨(some 12),.qcall 245 [(.t 11)],none⟩,
 ⟨(some 10),.mv (.t 12),none⟩] [5,11,12])
 (.cond (.t 10)
 (.seq (.region [⟨(some 13),.fieldAddr 2 (.t 1),none⟩,
 ⟨(some 14),.load none (.t 13),none⟩,
 ⟨(some 15),.qcall 139 [(.t 14)],none⟩,
 ⟨(some 3),.mv (.t 15),none⟩] [10,13,14,15])
 (.seq (.region [⟨(some 16),.mv (.t 3),none⟩,
 ⟨(some 4),.mv (.t 16),none⟩] [16])
 (.seq (.seq (.region [⟨(some 17),.mv (.t 3),none⟩,
 ⟨(some 18),.bin .eql (.t 17) (.k (.c (.d (.int .i64 3)))),none⟩] [17])
 (.cond (.t 18)
 (.region [⟨(some 4),.mv (.k (.c (.d (.int .i64 2)))),none⟩] [18])
 (.skip)))
 (.seq (.region [⟨(some 19),.fieldAddr 3 (.t 1),none⟩,
 ⟨(some 23),.mv (.t 4),none⟩,
 ⟨(some 25),.fieldAddr 2 (.t 1),none⟩,
 ⟨(some 29),.fieldAddr 3 (.t 1),none⟩,
 ⟨(some 33),.mv (.t 3),none⟩,
 ⟨(some 34),.bin .sub (.t 33) (.k (.c (.d (.int .i64 1)))),none⟩,
 ⟨(some 20),.load none (.t 19),none⟩,
 ⟨(some 21),.indexAddr 4 (.t 20) (.k (.c (.d (.int .i64 0)))),none⟩,
 ⟨(some 22),.load (some 4) (.t 21),none⟩,
 ⟨(some 24),.qcall 246 [(.t 22),(.t 23)],none⟩,
 ⟨(some 26),.load none (.t 25),none⟩,
 ⟨(some 27),.qcall 247 [(.t 26)],none⟩,
 ⟨(some 28),.bin .add (.t 24) (.t 27),none⟩,
 ⟨(some 30),.load none (.t 29),none⟩,
 ⟨(some 31),.indexAddr 4 (.t 30) (.k (.c (.d (.int .i64 1)))),none⟩,
 ⟨(some 32),.load (some 4) (.t 31),none⟩,
 ⟨(some 35),.qcall 248 [(.t 32),(.t 34)],none⟩,
 ⟨(some 36),.bin .add (.t 28) (.t 35),none⟩,
 ⟨(some 2),.mv (.t 36),none⟩] [1,3,4,18,19,20,21,22,23,24,25,26,27,28,29,30,31,32,33,34,35,36])
 (.ret)))))
 (.seq (.region [⟨(some 38),.fieldAddr 0 (.t 1),none⟩,
 ⟨(some 39),.load none (.t 38),none⟩,
 ⟨(some 40),.bin .eql (.t 39) (.k (.c (.d (.int .i64 3)))),none⟩,
 ⟨(some 41),.mv (.t 40),none⟩,
 ⟨(some 42),.fieldAddr 3 (.t 1),some (41,true)⟩,
 ⟨(some 43),.load none (.t 42),some (41,true)⟩,
 ⟨(some 44),.len 1 (.t 43),some (41,true)⟩,
 ⟨(some 45),.bin .gtr (.t 44) (.k (.c (.d (.int .i64 0)))),some (41,true)⟩,
 ⟨(some 46),.pick (.t 41) (.t 45) (.k (.c (.d (.bool false)))),none⟩,
 ⟨(some 37),.mv (.t 46),none⟩] [10,38,39,40,41,42,43,44,45,46])
 (.cond (.t 37)
 (.seq (.region [⟨(some 47),.fieldAddr 2 (.t 1),none⟩,
 ⟨(some 50),.fieldAddr 3 (.t 1),none⟩,
 ⟨(some 48),.load none (.t 47),none⟩,
 ⟨(some 49),.bin .add (.t 48) (.k (.c (.d (.str [40])))),none⟩,
 ⟨(some 51),.load none (.t 50),none⟩,
 ⟨(some 52),.qcall 249 [(.t 51)],none⟩,
 ⟨(some 53),.bin .add (.t 49) (.t 52),none⟩,
 ⟨(some 54),.bin .add (.t 53) (.k (.c (.d (.str [41])))),none⟩,
 ⟨(some 2),.mv (.t 54),none⟩] [1,37,47,48,49,50,51,52,53,54])
 (.ret))
 (.skip))))))))
 (.seq (.region [⟨(some 55),.load (some 4) (.t 1),none⟩,
 ⟨(some 56),.qcall 250 [(.t 55)],none⟩,
 ⟨(some 2),.mv (.t 56),none⟩] [1,37,55,56])
 (.ret)))
theorem ac242_ok : cFunc Tryz.prog [1000139,1000243,1000244,1000245,1000246,1000247,1000248,1000249,1000250] [(0,[0,2],[]),(1,[6,7],[]),(2,[1,5,8,9],[]),(3,[5,11,12],[]),(4,[10,13,14,15],[]),(5,[16],[]),(6,[17],[]),(7,[18],[]),(8,[1,3,4,18,19,20,21,22,23,24,25,26,27,28,29,30,31,32,33,34,35,36],[0,4,6,10,14,15,1,2,3,5,7,8,9,11,12,13,16,17,18]),(9,[10,38,39,40,41,42,43,44,45,46],[]),(10,[1,37,47,48,49,50,51,52,53,54],[0,3,1,2,4,5,6,7,8]),(11,[1,37,55,56],[])] Tryz.f242 = some (ac242,[.tmp 2],57) := by kernel_rfl
theorem u8_nat {m : Nat} (h : m < 256) : ((UInt8.ofNat m).toNat : Int) = m := by simp; omega
theorem b2s_byte {m : Nat} {K : A → St → Prop} {st : St} (h : m < 256) (hk : K (.c (.d (.str [UInt8.ofNat m]))) st) : B2SK true [[.int .u8 (m : Int)]] K st :=
  ⟨[UInt8.ofNat m], fun _ => by simp only [bytesRows, List.map_cons, List.map_nil, u8_nat h], hk⟩
theorem letter_calls (n : Nat) (h : n ≤ 25) (H : Heap) : ACalls Tryz.prog 255 [.c (.d (.int .i64 n))] H (fun r H' => H' = H ∧ r = .c (.d (.str [UInt8.ofNat (65 + n)]))) := by
  refine acalls Tryz.func255 (by kernel_rfl) ac255_ok fun hf => ?_
  have hw : IntKind.wrap .u8 (n : Int) = n := by simp [IntKind.wrap, IntKind.bits, IntKind.signed]; omega
  have hi : inR .u8 (65 + (n : Int)) := by simp [inR, IntKind.min, IntKind.max, IntKind.signed, IntKind.bits]; omega
  simp -implicitDefEqProofs [ac255, hw, hi, go_sem, -List.set_cons_succ, -List.set_cons_zero]
  have e : 65 + (n : Int) = ((65 + n : Nat) : Int) := by omega
  simp only [e]
  refine b2s_byte (by omega) ?_
  simp -implicitDefEqProofs [go_sem, -List.set_cons_succ, -List.set_cons_zero]
def infixB (t : Tm) : Bool := (decide (t.k = 3) && decide ((t.kids.length : Int) = 2)) && decide (0 < levelN t.s)
def soleB (t : Tm) : Bool := (decide (t.k = 3) && decide ((t.kids.length : Int) = 0)) && decide (0 < levelN t.s)
theorem infix_calls (t : Tm) (ht : t.fits) (H : Heap) : ACalls Tryz.prog 245 [.agg (t.row.map .d)] H (fun r H' => H' = H ∧ r = .c (.d (.bool (infixB t)))) := by
  obtain ⟨k, n, s, l⟩ := t
  obtain ⟨_, _, hs, hl, _⟩ := ht
  refine acalls Tryz.func245 (by kernel_rfl) ac245_ok fun hf => ?_
  have hli : inR .i64 (l.length : Int) := small_i64 (by omega) (by omega)
  by_cases hk : k = 3
  · by_cases h2 : l.length = 2
    · match l, h2 with
      | [a, b], _ =>
        have h22 : inR .i64 2 := small_i64 (by omega) (by omega)
        simp -implicitDefEqProofs [ac245, row_mk, hk, h22, go_sem, -List.set_cons_succ, -List.set_cons_zero]
        refine qcall_pure (level_calls s) hf rfl ?_
        simp -implicitDefEqProofs [infixB, Tm.k, Tm.kids, Tm.s, go_sem, -List.set_cons_succ, -List.set_cons_zero]
        exact decide_eq_decide.2 Iff.rfl
    · have h3 : ((l.length : Int) == 2) = false := by simpa using fun h => h2 (by omega)
      have h4 : ¬ (l.length : Int) = 2 := fun h => h2 (by omega)
      simp -implicitDefEqProofs [ac245, row_mk, hk, hli, h3, h4, infixB, Tm.k, Tm.kids, Tm.s, go_sem, -List.set_cons_succ, -List.set_cons_zero]
  · simp -implicitDefEqProofs [ac245, row_mk, hk, hli, infixB, Tm.k, Tm.kids, Tm.s, go_sem, -List.set_cons_succ, -List.set_cons_zero]
theorem sole_calls (t : Tm) (ht : t.fits) (H : Heap) : ACalls Tryz.prog 252 [.agg (t.row.map .d)] H (fun r H' => H' = H ∧ r = .c (.d (.bool (soleB t)))) := by
  obtain ⟨k, n, s, l⟩ := t
  obtain ⟨_, _, hs, hl, _⟩ := ht
  refine acalls Tryz.func252 (by kernel_rfl) ac252_ok fun hf => ?_
  have hli : inR .i64 (l.length : Int) := small_i64 (by omega) (by omega)
  by_cases hk : k = 3
  · cases l with
    | nil =>
      have h00 : inR .i64 0 := small_i64 (by omega) (by omega)
      simp -implicitDefEqProofs [ac252, row_mk, hk, h00, go_sem, -List.set_cons_succ, -List.set_cons_zero]
      refine qcall_pure (level_calls s) hf rfl ?_
      simp -implicitDefEqProofs [soleB, Tm.k, Tm.kids, Tm.s, go_sem, -List.set_cons_succ, -List.set_cons_zero]
      exact decide_eq_decide.2 Iff.rfl
    | cons a l =>
      have h3 : (((l.length : Int) + 1) == 0) = false := by simp; omega
      have h4 : ¬ (l.length : Int) + 1 = 0 := by omega
      have hl2 : inR .i64 ((l.length : Int) + 1) := by simpa using hli
      simp -implicitDefEqProofs [ac252, row_mk, hk, hl2, h3, h4, soleB, Tm.k, Tm.kids, Tm.s, go_sem, -List.set_cons_succ, -List.set_cons_zero]
  · simp -implicitDefEqProofs [ac252, row_mk, hk, hli, soleB, Tm.k, Tm.kids, Tm.s, go_sem, -List.set_cons_succ, -List.set_cons_zero]
theorem spaced_calls (s : List UInt8) (hl : 0 < levelN s) (H : Heap) : ACalls Tryz.prog 247 [.c (.d (.str s))] H (fun r H' => H' = H ∧ r = .c (.d (.str (opSp s)))) := by
  have hm : s ∈ [[61], [92, 61], [61, 61], [60], [62], [61, 60], [62, 61], [61, 58, 61], [105, 115], [43], [45], [42], [47, 47], [109, 111, 100]] := by
    unfold levelN at hl
    split at hl
    · rename_i h; simp [ops3] at h; rcases h with rfl | rfl | rfl | rfl | rfl | rfl | rfl | rfl | rfl <;> simp
    · split at hl
      · rename_i h; simp at h; rcases h with rfl | rfl <;> simp
      · split at hl
        · rename_i h; simp at h; rcases h with rfl | rfl | rfl <;> simp
        · omega
  refine acalls Tryz.func247 (by kernel_rfl) ac247_ok fun hf => ?_
  simp at hm
  rcases hm with rfl | rfl | rfl | rfl | rfl | rfl | rfl | rfl | rfl | rfl | rfl | rfl | rfl | rfl <;> simp -implicitDefEqProofs [ac247, opSp, lettersB, lowB, maxStr, go_sem, -List.set_cons_succ, -List.set_cons_zero]
/-- the text of a term is as it is said -/
def TxS (t : Tm) : Prop := ∀ H, ACalls Tryz.prog 242 [.agg (t.row.map .d)] H (fun r H' => H' = H ∧ r = .c (.d (.str t.wr)))
/-- a text, in brackets if its operator's level is above another one -/
def brk (t : Tm) (m : Int) : List UInt8 := if infixB t && decide (m < levelN t.s) then 40 :: t.wr ++ [41] else t.wr
theorem brk_len (t : Tm) (m : Int) : (brk t m).length ≤ t.wr.length + 2 := by
  unfold brk
  split <;> simp
theorem bracket_calls (t : Tm) (ht : t.fits) (hT : TxS t) (hw : t.wr.length ≤ 1000000) (m : Int) (H : Heap) : ACalls Tryz.prog 253 [.agg (t.row.map .d), .c (.d (.int .i64 m))] H (fun r H' => H' = H ∧ r = .c (.d (.str (brk t m)))) := by
  have c1 := infix_calls t ht
  unfold TxS at hT
  rw [row_eq] at c1 hT ⊢
  simp only [List.map_cons, List.map_nil] at c1 hT ⊢
  refine acalls Tryz.func253 (by kernel_rfl) ac253_ok fun hf => ?_
  simp -implicitDefEqProofs [ac253, go_sem, -List.set_cons_succ, -List.set_cons_zero]
  refine qcall_pure c1 hf rfl ?_
  cases hi : infixB t with
  | false =>
    simp -implicitDefEqProofs [go_sem, -List.set_cons_succ, -List.set_cons_zero]
    refine qcall_pure hT hf rfl ?_
    simp -implicitDefEqProofs [brk, hi, go_sem, -List.set_cons_succ, -List.set_cons_zero]
  | true =>
    simp -implicitDefEqProofs [go_sem, -List.set_cons_succ, -List.set_cons_zero]
    refine qcall_pure (level_calls t.s) hf rfl ?_
    simp -implicitDefEqProofs [go_sem, -List.set_cons_succ, -List.set_cons_zero]
    refine ⟨fun h => qcall_pure hT hf rfl ?_, fun h => qcall_pure hT hf rfl ?_⟩
    · simp -implicitDefEqProofs [brk, hi, h, maxStr, go_sem, -List.set_cons_succ, -List.set_cons_zero]
      omega
    · simp -implicitDefEqProofs [brk, hi, Int.not_lt.2 h, go_sem, -List.set_cons_succ, -List.set_cons_zero]
theorem left_calls (t : Tm) (ht : t.fits) (hT : TxS t) (hw : t.wr.length ≤ 1000000) (m : Int) (H : Heap) : ACalls Tryz.prog 246 [.agg (t.row.map .d), .c (.d (.int .i64 m))] H
    (fun r H' => H' = H ∧ r = .c (.d (.str (if soleB t then 40 :: t.wr ++ [41] else brk t m)))) := by
  have c1 := sole_calls t ht
  have c2 := bracket_calls t ht hT hw m
  unfold TxS at hT
  rw [row_eq] at c1 c2 hT ⊢
  simp only [List.map_cons, List.map_nil] at c1 c2 hT ⊢
  refine acalls Tryz.func246 (by kernel_rfl) ac246_ok fun hf => ?_
  simp -implicitDefEqProofs [ac246, go_sem, -List.set_cons_succ, -List.set_cons_zero]
  refine qcall_pure c1 hf rfl ?_
  cases hi : soleB t with
  | false =>
    simp -implicitDefEqProofs [go_sem, -List.set_cons_succ, -List.set_cons_zero]
    refine qcall_pure c2 hf rfl ?_
    simp -implicitDefEqProofs [go_sem, -List.set_cons_succ, -List.set_cons_zero]
  | true =>
    simp -implicitDefEqProofs [go_sem, -List.set_cons_succ, -List.set_cons_zero]
    refine qcall_pure hT hf rfl ?_
    simp -implicitDefEqProofs [maxStr, go_sem, -List.set_cons_succ, -List.set_cons_zero]
    omega
theorem byte_off {s : List UInt8} {i : Int} (b : UInt8) {K : A → St → Prop} {st : St} (hk : K (.c (.d (.int .u8 b.toNat))) st) : ByteK false s i K st := ⟨b, fun h => (by cases h), hk⟩
theorem small_at (b : UInt8) (r : List UInt8) (hl : r.length ≤ 4000000) (H : Heap) : ACalls Tryz.prog 231 [.c (.d (.str (b :: r))), .c (.d (.int .i64 0))] H (fun r H' => H' = H ∧ r = .c (.d (.bool (decide (97 ≤ b.toNat ∧ b.toNat ≤ 122))))) := by
  refine acalls Tryz.func231 (by kernel_rfl) ac231_ok fun hf => ?_
  have hli : inR .i64 ((r.length : Int) + 1) := small_i64 (by omega) (by omega)
  have hp : (0 : Int) < (r.length : Int) + 1 := by omega
  simp -implicitDefEqProofs [ac231, hli, hp, go_sem, -List.set_cons_succ, -List.set_cons_zero]
  refine byte_int b (by omega) (by simp) ?_
  by_cases h1 : (97 : Int) ≤ b.toNat
  · have h1' : 97 ≤ b.toNat := by omega
    simp -implicitDefEqProofs [h1, h1', go_sem, -List.set_cons_succ, -List.set_cons_zero]
    refine byte_int b (by omega) (by simp) ?_
    simp -implicitDefEqProofs [h1', go_sem, -List.set_cons_succ, -List.set_cons_zero]
    omega
  · have h1' : ¬ 97 ≤ b.toNat := by omega
    simp -implicitDefEqProofs [h1, h1', go_sem, -List.set_cons_succ, -List.set_cons_zero]
    refine byte_off b ?_
    simp -implicitDefEqProofs [h1', go_sem, -List.set_cons_succ, -List.set_cons_zero]
theorem digit_at (b : UInt8) (r : List UInt8) (hl : r.length ≤ 4000000) (H : Heap) : ACalls Tryz.prog 200 [.c (.d (.str (b :: r))), .c (.d (.int .i64 0))] H (fun r H' => H' = H ∧ r = .c (.d (.bool (decide (48 ≤ b.toNat ∧ b.toNat ≤ 57))))) := by
  refine acalls Tryz.func200 (by kernel_rfl) ac200_ok fun hf => ?_
  have hli : inR .i64 ((r.length : Int) + 1) := small_i64 (by omega) (by omega)
  have hp : (0 : Int) < (r.length : Int) + 1 := by omega
  simp -implicitDefEqProofs [ac200, hli, hp, go_sem, -List.set_cons_succ, -List.set_cons_zero]
  refine byte_int b (by omega) (by simp) ?_
  by_cases h1 : (48 : Int) ≤ b.toNat
  · have h1' : 48 ≤ b.toNat := by omega
    simp -implicitDefEqProofs [h1, h1', go_sem, -List.set_cons_succ, -List.set_cons_zero]
    refine byte_int b (by omega) (by simp) ?_
    simp -implicitDefEqProofs [h1', go_sem, -List.set_cons_succ, -List.set_cons_zero]
    omega
  · have h1' : ¬ 48 ≤ b.toNat := by omega
    simp -implicitDefEqProofs [h1, h1', go_sem, -List.set_cons_succ, -List.set_cons_zero]
    refine byte_off b ?_
    simp -implicitDefEqProofs [h1', go_sem, -List.set_cons_succ, -List.set_cons_zero]
theorem plain_calls (b : UInt8) (r : List UInt8) (hl : r.length ≤ 4000000) (H : Heap) : ACalls Tryz.prog 254 [.c (.d (.str (b :: r)))] H (fun r' H' => H' = H ∧ r' = .c (.d (.bool (plainC b)))) := by
  refine acalls Tryz.func254 (by kernel_rfl) ac254_ok fun hf => ?_
  simp -implicitDefEqProofs [ac254, go_sem, -List.set_cons_succ, -List.set_cons_zero]
  refine qcall_pure (small_at b r hl) hf rfl ?_
  have on : ∀ {K : A → St → Prop} {st : St}, K (.c (.d (.int .u8 b.toNat))) st → ByteK true (b :: r) 0 K st := fun hk => byte_int b (by omega) (by simp) hk
  by_cases h1 : 97 ≤ b.toNat ∧ b.toNat ≤ 122
  · have hp : plainC b = true := by simp [plainC, h1]
    simp -implicitDefEqProofs [h1, hp, go_sem, -List.set_cons_succ, -List.set_cons_zero]
    refine byte_off b ?_
    simp -implicitDefEqProofs [go_sem, -List.set_cons_succ, -List.set_cons_zero]
    refine byte_off b ?_
    simp -implicitDefEqProofs [go_sem, -List.set_cons_succ, -List.set_cons_zero]
    refine byte_off b ?_
    simp -implicitDefEqProofs [go_sem, -List.set_cons_succ, -List.set_cons_zero]
    refine byte_off b ?_
    simp -implicitDefEqProofs [go_sem, -List.set_cons_succ, -List.set_cons_zero]
  · simp -implicitDefEqProofs [h1, go_sem, -List.set_cons_succ, -List.set_cons_zero]
    refine qcall_pure (digit_at b r hl) hf rfl ?_
    by_cases h2 : 48 ≤ b.toNat ∧ b.toNat ≤ 57
    · have hp : plainC b = true := by simp [plainC, h2]
      simp -implicitDefEqProofs [h2, hp, go_sem, -List.set_cons_succ, -List.set_cons_zero]
      refine byte_off b ?_
      simp -implicitDefEqProofs [go_sem, -List.set_cons_succ, -List.set_cons_zero]
      refine byte_off b ?_
      simp -implicitDefEqProofs [go_sem, -List.set_cons_succ, -List.set_cons_zero]
      refine byte_off b ?_
      simp -implicitDefEqProofs [go_sem, -List.set_cons_succ, -List.set_cons_zero]
      refine byte_off b ?_
      simp -implicitDefEqProofs [go_sem, -List.set_cons_succ, -List.set_cons_zero]
    · simp -implicitDefEqProofs [h2, go_sem, -List.set_cons_succ, -List.set_cons_zero]
      refine on ?_
      by_cases h3 : (65 : Int) ≤ b.toNat
      · simp -implicitDefEqProofs [h3, go_sem, -List.set_cons_succ, -List.set_cons_zero]
        refine on ?_
        by_cases h4 : (b.toNat : Int) ≤ 90
        · have hp : plainC b = true := by
            have : 65 ≤ b.toNat ∧ b.toNat ≤ 90 := by omega
            simp [plainC, this]
          simp -implicitDefEqProofs [h4, hp, go_sem, -List.set_cons_succ, -List.set_cons_zero]
          refine byte_off b ?_
          simp -implicitDefEqProofs [go_sem, -List.set_cons_succ, -List.set_cons_zero]
          refine byte_off b ?_
          simp -implicitDefEqProofs [go_sem, -List.set_cons_succ, -List.set_cons_zero]
        · simp -implicitDefEqProofs [h4, go_sem, -List.set_cons_succ, -List.set_cons_zero]
          refine on ?_
          by_cases h5 : (b.toNat : Int) = 91
          · have h6 : b = 91 := UInt8.toNat_inj.1 (by simp; omega)
            have hp : plainC b = true := by simp [plainC, h6]
            simp -implicitDefEqProofs [h5, hp, go_sem, -List.set_cons_succ, -List.set_cons_zero]
            refine byte_off b ?_
            simp -implicitDefEqProofs [go_sem, -List.set_cons_succ, -List.set_cons_zero]
          · have h6 : b ≠ 91 := fun h => h5 (by rw [h]; rfl)
            have hp : plainC b = decide ((b.toNat : Int) = 40) := by
              have h7 : ¬ (65 ≤ b.toNat ∧ b.toNat ≤ 90) := by omega
              have h8 : (b = 40) ↔ ((b.toNat : Int) = 40) := ⟨fun h => by rw [h]; rfl, fun h => UInt8.toNat_inj.1 (by simp; omega)⟩
              simp [plainC, h1, h2, h6, h7, beq_dec, h8]
            have h9 : ((b.toNat : Int) == 91) = false := by simpa using h5
            simp -implicitDefEqProofs [h5, h9, hp, go_sem, -List.set_cons_succ, -List.set_cons_zero]
            refine on ?_
            simp -implicitDefEqProofs [go_sem, -List.set_cons_succ, -List.set_cons_zero]
            try (simp [beq_dec]; done)
      · simp -implicitDefEqProofs [h3, go_sem, -List.set_cons_succ, -List.set_cons_zero]
        refine byte_off b ?_
        simp -implicitDefEqProofs [go_sem, -List.set_cons_succ, -List.set_cons_zero]
        refine on ?_
        by_cases h5 : (b.toNat : Int) = 91
        · have h6 : b = 91 := UInt8.toNat_inj.1 (by simp; omega)
          have hp : plainC b = true := by simp [plainC, h6]
          simp -implicitDefEqProofs [h5, hp, go_sem, -List.set_cons_succ, -List.set_cons_zero]
          refine byte_off b ?_
          simp -implicitDefEqProofs [go_sem, -List.set_cons_succ, -List.set_cons_zero]
        · have h6 : b ≠ 91 := fun h => h5 (by rw [h]; rfl)
          have hp : plainC b = decide ((b.toNat : Int) = 40) := by
            have h7 : ¬ (65 ≤ b.toNat ∧ b.toNat ≤ 90) := by omega
            have h8 : (b = 40) ↔ ((b.toNat : Int) = 40) := ⟨fun h => by rw [h]; rfl, fun h => UInt8.toNat_inj.1 (by simp; omega)⟩
            simp [plainC, h1, h2, h6, h7, beq_dec, h8]
          have h9 : ((b.toNat : Int) == 91) = false := by simpa using h5
          simp -implicitDefEqProofs [h5, h9, hp, go_sem, -List.set_cons_succ, -List.set_cons_zero]
          refine on ?_
          simp -implicitDefEqProofs [go_sem, -List.set_cons_succ, -List.set_cons_zero]
          try (simp [beq_dec]; done)
theorem right_calls (t : Tm) (ht : t.fits) (hT : TxS t) (hne : t.wr ≠ []) (hw : t.wr.length ≤ 1000000) (m : Int) (H : Heap) : ACalls Tryz.prog 248 [.agg (t.row.map .d), .c (.d (.int .i64 m))] H
    (fun r H' => H' = H ∧ r = .c (.d (.str (if soleB t || !plainC ((brk t m).headD 0) then 40 :: brk t m ++ [41] else brk t m)))) := by
  have c1 := sole_calls t ht
  have c2 := bracket_calls t ht hT hw m
  have hl := brk_len t m
  have hbne : brk t m ≠ [] := by
    unfold brk
    split
    · simp
    · exact hne
  rw [row_eq] at c1 c2 ⊢
  simp only [List.map_cons, List.map_nil] at c1 c2 ⊢
  refine acalls Tryz.func248 (by kernel_rfl) ac248_ok fun hf => ?_
  simp -implicitDefEqProofs [ac248, go_sem, -List.set_cons_succ, -List.set_cons_zero]
  refine qcall_pure c2 hf rfl ?_
  generalize brk t m = w at hl hbne ⊢
  obtain ⟨b, r, rfl⟩ : ∃ b r, w = b :: r := by
    cases w with
    | nil => exact absurd rfl hbne
    | cons b r => exact ⟨b, r, rfl⟩
  simp at hl
  simp -implicitDefEqProofs [go_sem, -List.set_cons_succ, -List.set_cons_zero]
  refine qcall_pure c1 hf rfl ?_
  cases hi : soleB t with
  | true =>
    simp -implicitDefEqProofs [maxStr, go_sem, -List.set_cons_succ, -List.set_cons_zero]
    omega
  | false =>
    simp -implicitDefEqProofs [go_sem, -List.set_cons_succ, -List.set_cons_zero]
    refine qcall_pure (plain_calls b r (by omega)) hf rfl ?_
    cases hp : plainC b <;> simp -implicitDefEqProofs [maxStr, go_sem, -List.set_cons_succ, -List.set_cons_zero]
    omega
theorem joinS_take (l : List Tm) (h : ∀ t ∈ l, t.wr.length ≤ 1000000) {i : Nat} (hi : i ≤ l.length) : (joinS 44 ((l.map Tm.wr).take i)).length ≤ 1000001 * i := by
  refine Nat.le_trans (joinS_len 44 _) ?_
  rw [← List.map_take]
  have : ∀ q : List Tm, (∀ t ∈ q, t.wr.length ≤ 1000000) → ((q.map Tm.wr).map fun x => x.length + 1).sum ≤ 1000001 * q.length := by
    intro q
    induction q with
    | nil => intro _; simp
    | cons a q ih =>
      intro h
      have h1 := h a (by simp)
      have h2 := ih fun t ht => h t (by simp [ht])
      simp at h2 ⊢
      omega
  have h3 := this (l.take i) fun t ht => h t (List.mem_of_mem_take ht)
  simpa [Nat.min_eq_left hi] using h3
theorem wargs_calls (l : List Tm) (hl : l.length ≤ 1048576) (hT : ∀ t ∈ l, TxS t ∧ t.wr.length ≤ 1000000) (H : Heap) : ACalls Tryz.prog 249 [.c (.d (.sl (l.map Tm.row)))] H (fun r H' => H' = H ∧ r = .c (.d (.str (joinS 44 (l.map Tm.wr))))) := by
  refine acalls Tryz.func249 (by kernel_rfl) ac249_ok fun hf => ?_
  have hli : inR .i64 (l.length : Int) := small_i64 (by omega) (by omega)
  simp -implicitDefEqProofs [ac249, hli, go_sem, -List.set_cons_succ, -List.set_cons_zero]
  refine loop_set (σ := Nat) (fun i => [(4, .c (.d (.int .i64 i))), (3, .c (.d (.str (joinS 44 ((l.map Tm.wr).take i)))))]) (fun _ => H) (fun _ => []) (fun i => i ≤ l.length) (fun i => l.length - i) 0 rfl (Nat.zero_le _) ?_
  intro i hi
  have hb : (joinS 44 ((l.map Tm.wr).take i)).length ≤ 1000001 * i := joinS_take l (fun t ht => (hT t ht).2) hi
  simp -implicitDefEqProofs [setAll, hli, go_sem, -List.set_cons_succ, -List.set_cons_zero]
  refine ⟨fun hlt => ?_, fun hge => by rw [List.take_of_length_le (by simpa using hge)]⟩
  have hadd : inR .i64 ((i : Int) + 1) := small_i64 (by omega) (by omega)
  have hnext : joinS 44 ((l.map Tm.wr).take (i + 1)) = if (l.map Tm.wr).take i = [] then l[i].wr else joinS 44 ((l.map Tm.wr).take i) ++ 44 :: l[i].wr := by
    rw [List.take_succ_eq_append_getElem (by simpa using hlt), joinS_snoc]
    simp
  have hwi := (hT l[i] (List.getElem_mem hlt)).2
  have hTi := (hT l[i] (List.getElem_mem hlt)).1
  refine ⟨fun hp => ⟨by unfold maxStr; omega, row_of hlt (row_len _) ?_⟩, fun h0 => row_of hlt (row_len _) ?_⟩
  · have hne : ¬ (l.map Tm.wr).take i = [] := by
      intro h
      have := congrArg List.length h
      rw [List.length_take, List.length_map] at this
      simp only [List.length_nil] at this
      omega
    rw [if_neg hne] at hnext
    simp -implicitDefEqProofs [row_len, take_row, pure_d, re_d, go_sem, -List.set_cons_succ, -List.set_cons_zero]
    refine qcall_pure hTi hf rfl ?_
    simp -implicitDefEqProofs [hadd, maxStr, go_sem, -List.set_cons_succ, -List.set_cons_zero]
    refine ⟨by omega, ?_⟩
    exact loop_back (i + 1) (by simp [setAll, hnext]) hlt (by show l.length - (i + 1) < l.length - i; omega)
  · subst h0
    simp at hnext
    simp -implicitDefEqProofs [row_len, take_row, pure_d, re_d, go_sem, -List.set_cons_succ, -List.set_cons_zero]
    refine qcall_pure hTi hf rfl ?_
    simp -implicitDefEqProofs [hadd, maxStr, joinS, go_sem, -List.set_cons_succ, -List.set_cons_zero]
    refine ⟨by omega, by simpa using hadd, ?_⟩
    exact loop_back 1 (by simp [setAll, hnext]) hlt (by show l.length - 1 < l.length - 0; omega)
theorem leaf_calls (t : Tm) (ht : t.fits) (hg : t.good) (hk : t.kids = []) (H : Heap) : ACalls Tryz.prog 250 [.agg (t.row.map .d)] H (fun r H' => H' = H ∧ r = .c (.d (.str t.wr))) := by
  obtain ⟨k, n, s, l⟩ := t
  obtain rfl : l = [] := hk
  obtain ⟨ho, _⟩ := hg
  have hpair := pairSpec_calls _ ht
  obtain ⟨hk1, hn1, hs, hl, _⟩ := ht
  refine acalls Tryz.func250 (by kernel_rfl) ac250_ok fun hf => ?_
  have h00 : inR .i64 0 := small_i64 (by omega) (by omega)
  rcases own_cases ho with ⟨rfl, n0, n1, rfl, _⟩ | ⟨rfl, n0, n1, rfl, _⟩ | ⟨rfl, rfl, hs2, _⟩
  · obtain ⟨m, rfl⟩ := Int.eq_ofNat_of_zero_le n0
    simp -implicitDefEqProofs [ac250, row_mk, go_sem, -List.set_cons_succ, -List.set_cons_zero]
    refine qcall_pure (letter_calls m (by omega)) hf rfl ?_
    simp -implicitDefEqProofs [Tm.wr, wrNode, go_sem, -List.set_cons_succ, -List.set_cons_zero]
  · simp -implicitDefEqProofs [ac250, row_mk, go_sem, -List.set_cons_succ, -List.set_cons_zero]
    refine qcall_pure (dec1_calls n (by omega) (by omega)) hf rfl ?_
    simp -implicitDefEqProofs [Tm.wr, wrNode, go_sem, -List.set_cons_succ, -List.set_cons_zero]
  · simp [row_mk] at hpair
    simp -implicitDefEqProofs [ac250, row_mk, go_sem, -List.set_cons_succ, -List.set_cons_zero]
    refine qcall_pure hpair hf rfl ?_
    have hpb : (Tm.mk 3 0 s []).pairB = false := by simp [Tm.pairB, Tm.kids]
    simp -implicitDefEqProofs [hpb, go_sem, -List.set_cons_succ, -List.set_cons_zero]
    refine loop_set (σ := Unit) (fun _ => []) (fun _ => H) (fun _ => [_]) (fun _ => True) (fun _ => 0) () rfl trivial ?_
    rintro ⟨⟩ _
    simp -implicitDefEqProofs [setAll, h00, go_sem, -List.set_cons_succ, -List.set_cons_zero]
    simp [Tm.wr, wrNode]
end Go.Proofs.YtbblefjbgbocoaaGreatDoor

/-
  Lists and terms as the reference writes them.
  Conditions: none.
-/
open Go Go.AM Go.Proofs
namespace Go.Proofs.YtbblefjbgbocoaaGreatDoor
open Go.ChangeShapes Go.WideShapes Go.ChangeAt Go.RowKit
set_option linter.unusedVariables false
set_option linter.unusedSimpArgs false
set_option maxRecDepth 100000
theorem pair_inv {t : Tm} (h : t.pairB = true) : ∃ n a b, t = .mk 3 n [46] [a, b] := by
  obtain ⟨k, n, s, l⟩ := t
  simp only [Tm.pairB, Tm.k, Tm.s, Tm.kids, Bool.and_eq_true, decide_eq_true_eq, beq_iff_eq] at h
  obtain ⟨⟨hk, rfl⟩, hl⟩ := h
  obtain rfl : k = 3 := of_decide_eq_true hk
  have hl : (l.length : Int) = 2 := of_decide_eq_true hl
  match l, show l.length = 2 by omega with
  | [a, b], _ => exact ⟨n, a, b, rfl⟩
theorem pair_wrt (n : Int) (a b : Tm) : (Tm.mk 3 n [46] [a, b]).wrt = 44 :: a.wr ++ b.wrt := by
  rw [Tm.wrt, wrs_map, wrts_map]
  simp
theorem pair_wr (n : Int) (a b : Tm) : (Tm.mk 3 n [46] [a, b]).wr = 91 :: (a.wr ++ b.wrt) ++ [93] := by
  rw [Tm.wr, wrs_map, wrts_map]
  simp [wrNode]
theorem end_wrt {t : Tm} (h : t.pairB = false) : t.wrt = if t.nilB then [] else 124 :: t.wr := by
  obtain ⟨k, n, s, l⟩ := t
  rw [Tm.wrt, Tm.wr]
  have h1 : ¬ (k = 3 ∧ s = [46] ∧ l.length = 2) := by
    rintro ⟨rfl, rfl, h2⟩
    have h3 : (l.length : Int) = 2 := by omega
    simp [Tm.pairB, Tm.k, Tm.s, Tm.kids, h3] at h
  rw [if_neg h1]
  by_cases h2 : k = 3 ∧ s = [91, 93] ∧ l = []
  · obtain ⟨rfl, rfl, rfl⟩ := h2
    simp [Tm.nilB, Tm.k, Tm.kids, Tm.s]
  · have h3 : (Tm.mk k n s l).nilB = false := by
      cases hb : (Tm.mk k n s l).nilB with
      | false => rfl
      | true =>
        simp only [Tm.nilB, Tm.k, Tm.kids, Tm.s, Bool.and_eq_true, decide_eq_true_eq, beq_iff_eq, List.isEmpty_iff] at hb
        exact absurd ⟨of_decide_eq_true hb.1.1, hb.2, hb.1.2⟩ h2
    rw [if_neg h2, h3]
    rfl
/-- a term that the writers meet -/
structure Tm.ok (t : Tm) : Prop where
  fits : t.fits
  good : t.good
  size : t.size ≤ 300
theorem Tm.ok.len {t : Tm} (h : t.ok) : t.wr.length ≤ 6000 ∧ t.wrt.length ≤ 6001 ∧ t.wr ≠ [] := by
  have := wr_len t h.good
  have := h.size
  exact ⟨by omega, by omega, (wr_len t h.good).2⟩
theorem Tm.ok.kid {k n : Int} {s : List UInt8} {l : List Tm} (h : (Tm.mk k n s l).ok) {u : Tm} (hu : u ∈ l) : u.ok ∧ u.size < (Tm.mk k n s l).size := by
  obtain ⟨h1, h2, h3⟩ := h
  have h4 := sizes_mem hu
  rw [Tm.size] at h3 ⊢
  cases h1 with
  | mk _ _ _ _ hk => cases h2 with
    | mk _ hg => exact ⟨⟨hk u hu, hg u hu, by omega⟩, by omega⟩
theorem list_calls (t : Tm) (ht : t.ok) (hp : t.pairB = true) (hT : ∀ u : Tm, u.ok → u.size < t.size → TxS u) (H : Heap) : ACalls Tryz.prog 244 [.agg (t.row.map .d)] H (fun r H' => H' = H ∧ r = .c (.d (.str t.wr))) := by
  refine acalls Tryz.func244 (by kernel_rfl) ac244_ok fun hf => ?_
  simp -implicitDefEqProofs [ac244, row_len, take_row, go_sem, -List.set_cons_succ, -List.set_cons_zero]
  refine loop_enter (St.le_token 3 4 rfl) ?_
  refine loop_set (σ := List Tm × Tm) (fun x => [(3, .c (.own (.l 1) x.1.length (x.1.map Tm.row)))]) (fun _ => H) (fun x => [.cells (x.2.row.map .d), .grow x.1.length 4])
    (fun x => x.2.ok ∧ x.1.length + x.2.size ≤ t.size ∧ (∀ u ∈ x.1, u.ok ∧ u.size < t.size) ∧ ((x.1 = [] ∧ x.2 = t) ∨ (x.1 ≠ [] ∧ t.wr = 91 :: (joinS 44 (x.1.map Tm.wr) ++ x.2.wrt) ++ [93]))) (fun x => x.2.size) ([], t) rfl ⟨ht, by simp, by simp, .inl ⟨rfl, rfl⟩⟩ ?_
  rintro ⟨l, c⟩ ⟨hc, hsz, hl, hw⟩
  simp only at hc hsz hl hw
  have hts := ht.size
  simp -implicitDefEqProofs [setAll, row_len, take_row, pure_d, re_d, go_sem, -List.set_cons_succ, -List.set_cons_zero]
  refine qcall_pure (pairSpec_calls c hc.fits) hf rfl ?_
  cases hcp : c.pairB with
  | true =>
    obtain ⟨n, a, b, rfl⟩ := pair_inv hcp
    simp -implicitDefEqProofs [row_mk, go_sem, -List.set_cons_succ, -List.set_cons_zero]
    have ha := hc.kid (u := a) (by simp)
    have hb := hc.kid (u := b) (by simp)
    have hct : (Tm.mk 3 n [46] [a, b]).size ≤ t.size := by omega
    have hcs : (Tm.mk 3 n [46] [a, b]).size = 1 + a.size + b.size := by simp [Tm.size, sizes]; omega
    refine row_int a.row (by omega) rfl (row_len _) ?_
    simp -implicitDefEqProofs [row_len, take_row, pure_d, re_d, toDs_map, hf, go_sem, -List.set_cons_succ, -List.set_cons_zero]
    refine ⟨allLen_map row_len, by unfold maxApp; omega, row_int b.row (by omega) rfl (row_len _) ?_⟩
    simp -implicitDefEqProofs [row_len, take_row, pure_d, re_d, toDs_map, hf, go_sem, -List.set_cons_succ, -List.set_cons_zero]
    refine loop_back (l ++ [a], b) (by simp [setAll]) ⟨hb.1, by simp; omega, fun u hu => ?_, .inr ⟨by simp, ?_⟩⟩ (by show b.size < (Tm.mk 3 n [46] [a, b]).size; omega)
    · rcases List.mem_append.1 hu with hu | hu
      · exact hl u hu
      · rw [List.mem_singleton.1 hu]
        exact ⟨ha.1, by omega⟩
    · simp only [List.map_append, List.map_cons, List.map_nil]
      rw [joinS_snoc]
      rcases hw with ⟨rfl, rfl⟩ | ⟨hne, hw⟩
      · rw [pair_wr]
        simp
      · rw [hw, pair_wrt, if_neg (by simpa using hne)]
        simp
  | false =>
    have hlen : (joinS 44 (l.map Tm.wr)).length ≤ 1000001 * l.length := by
      have := joinS_take l (fun u hu => by have := (hl u hu).1.len; omega) (Nat.le_refl _)
      rwa [List.take_of_length_le (by simp)] at this
    have hne : l ≠ [] := by
      rintro rfl
      rcases hw with ⟨_, rfl⟩ | ⟨h, _⟩
      · rw [hp] at hcp; cases hcp
      · exact h rfl
    obtain ⟨_, hw⟩ : l ≠ [] ∧ t.wr = 91 :: (joinS 44 (l.map Tm.wr) ++ c.wrt) ++ [93] := by
      rcases hw with ⟨h, _⟩ | h
      · exact absurd h hne
      · exact h
    have hlt : c.size < t.size := by
      have : 0 < l.length := List.length_pos_iff.2 hne
      omega
    have hargs := wargs_calls l (by omega) (fun u hu => ⟨hT u (hl u hu).1 (hl u hu).2, by have := (hl u hu).1.len; omega⟩)
    rw [end_wrt hcp] at hw
    have hcl := hc.len
    simp -implicitDefEqProofs [row_len, take_row, pure_d, re_d, go_sem, -List.set_cons_succ, -List.set_cons_zero]
    refine qcall_pure (nilSpec_calls c hc.fits) hf rfl ?_
    cases hn : c.nilB with
    | true =>
      rw [hn] at hw
      simp -implicitDefEqProofs [go_sem, -List.set_cons_succ, -List.set_cons_zero]
      refine qcall_pure hargs hf rfl ?_
      simp -implicitDefEqProofs [hw, maxStr, go_sem, -List.set_cons_succ, -List.set_cons_zero]
      omega
    | false =>
      rw [hn] at hw
      simp -implicitDefEqProofs [go_sem, -List.set_cons_succ, -List.set_cons_zero]
      refine qcall_pure hargs hf rfl ?_
      simp -implicitDefEqProofs [maxStr, row_len, take_row, pure_d, re_d, go_sem, -List.set_cons_succ, -List.set_cons_zero]
      refine ⟨by omega, by omega, qcall_pure (hT c hc hlt) hf rfl ?_⟩
      simp -implicitDefEqProofs [hw, maxStr, go_sem, -List.set_cons_succ, -List.set_cons_zero]
      omega
theorem sole_eq (t : Tm) : soleB t = (t.atomB && decide (0 < levelN t.s)) := by
  have : decide ((t.kids.length : Int) = 0) = t.kids.isEmpty := by cases t.kids <;> simp; omega
  simp only [soleB, Tm.atomB, this]
theorem infix_lv (t : Tm) {m : Int} (hm : 0 ≤ m) (hk : t.kids.length = 2 → t.k = 3) : (infixB t && decide (m < levelN t.s)) = decide (m < t.lv) := by
  unfold infixB Tm.lv
  by_cases h2 : t.kids.length = 2
  · have h3 := hk h2
    have h4 : (t.kids.length : Int) = 2 := by omega
    rw [if_pos h2, Bool.eq_iff_iff]
    simp only [Bool.and_eq_true, decide_eq_true_iff]
    exact ⟨fun h => h.2, fun h => ⟨⟨⟨h3, h4⟩, by omega⟩, h⟩⟩
  · have h4 : ¬ (t.kids.length : Int) = 2 := by omega
    rw [if_neg h2, Bool.eq_iff_iff]
    simp only [Bool.and_eq_true, decide_eq_true_iff]
    exact ⟨fun h => absurd h.1.1.2 h4, fun h => by omega⟩
theorem brk_opnd_left (t : Tm) {m : Int} (hm : 0 ≤ m) (hk : t.kids.length = 2 → t.k = 3) : (if soleB t then 40 :: t.wr ++ [41] else brk t m) = opnd t t.wr m false := by
  unfold brk opnd
  rw [infix_lv t hm hk, sole_eq]
  cases (t.atomB && decide (0 < levelN t.s)) <;> cases decide (m < t.lv) <;> rfl
theorem plain_40 : plainC 40 = true := by decide
theorem sole_not_infix {t : Tm} (h : soleB t = true) : infixB t = false := by
  cases hi : infixB t with
  | false => rfl
  | true =>
    simp only [soleB, infixB, Bool.and_eq_true, decide_eq_true_iff] at h hi
    omega
theorem brk_opnd_right (t : Tm) {m : Int} (hm : 0 ≤ m) (hk : t.kids.length = 2 → t.k = 3) : (if soleB t || !plainC ((brk t m).headD 0) then 40 :: brk t m ++ [41] else brk t m) = opnd t t.wr m true := by
  have h1 : brk t m = if decide (m < t.lv) then 40 :: t.wr ++ [41] else t.wr := by
    unfold brk
    rw [infix_lv t hm hk]
  have h2 : soleB t = true → decide (m < t.lv) = false := fun h => by
    rw [← infix_lv t hm hk, sole_not_infix h]
    rfl
  unfold opnd
  rw [← sole_eq, h1]
  cases hs : soleB t with
  | true =>
    rw [h2 hs]
    rfl
  | false =>
    cases decide (m < t.lv) with
    | true => simp [plain_40]
    | false => simp
theorem lv_range {s : List UInt8} (h : 0 < levelN s) : (levelN s = 1 ∨ levelN s = 2 ∨ levelN s = 3) ∧ (levelN s = 3 → leftMost s = 2) ∧ (levelN s ≠ 3 → leftMost s = levelN s) := by
  have h1 : levelN s = 1 ∨ levelN s = 2 ∨ levelN s = 3 := by
    unfold levelN at h ⊢
    split
    · simp
    · split
      · simp
      · split
        · simp
        · rename_i a b c; rw [if_neg a, if_neg b, if_neg c] at h; omega
  refine ⟨h1, fun h3 => ?_, fun h3 => ?_⟩
  · simp [leftMost, leftB, h3]
  · rcases h1 with h1 | h1 | h1
    · simp [leftMost, leftB, h1]
    · simp [leftMost, leftB, h1]
    · exact absurd h1 h3
theorem text_calls : ∀ (N : Nat) (t : Tm), t.size ≤ N → t.ok → TxS t := by
  intro N
  induction N with
  | zero =>
    intro t h
    obtain ⟨k, n, s, l⟩ := t
    rw [Tm.size] at h
    omega
  | succ N ih =>
    intro t hN ht H
    have hT : ∀ u : Tm, u.ok → u.size < t.size → TxS u := fun u hu h => ih u (by omega) hu
    have c1 := pairSpec_calls t ht.fits
    have c2 := infix_calls t ht.fits
    refine acalls Tryz.func242 (by kernel_rfl) ac242_ok fun hf => ?_
    simp -implicitDefEqProofs [ac242, row_len, take_row, pure_d, re_d, go_sem, -List.set_cons_succ, -List.set_cons_zero]
    refine qcall_pure c1 hf rfl ?_
    cases hp : t.pairB with
    | true =>
      simp -implicitDefEqProofs [row_len, take_row, pure_d, re_d, go_sem, -List.set_cons_succ, -List.set_cons_zero]
      refine qcall_pure (list_calls t ht hp hT) hf rfl ?_
      simp -implicitDefEqProofs [go_sem, -List.set_cons_succ, -List.set_cons_zero]
    | false =>
      simp -implicitDefEqProofs [row_len, take_row, pure_d, re_d, go_sem, -List.set_cons_succ, -List.set_cons_zero]
      refine qcall_pure c2 hf rfl ?_
      cases hi : infixB t with
      | true =>
        obtain ⟨k, n, s, l⟩ := t
        have hi2 := hi
        simp only [infixB, Tm.k, Tm.kids, Tm.s, Bool.and_eq_true, decide_eq_true_iff] at hi2
        obtain ⟨⟨hk3, hl2⟩, hlv⟩ := hi2
        obtain rfl : k = 3 := of_decide_eq_true hk3
        have hl2 : (l.length : Int) = 2 := of_decide_eq_true hl2
        have hlp : 0 < levelN s := of_decide_eq_true hlv
        clear hlv
        match l, show l.length = 2 by omega, ht, hT, hp with
        | [a, b], _, ht, hT, hp =>
          have ha := ht.kid (u := a) (by simp)
          have hb := ht.kid (u := b) (by simp)
          have hal := ha.1.len
          have hbl := hb.1.len
          obtain ⟨hr1, hr2, hr3⟩ := lv_range hlp
          have hsl : s.length ≤ 1048576 := by
            cases ht.fits with
            | mk _ _ h3 _ _ => exact h3
          have hsub : inR .i64 (levelN s - 1) := small_i64 (by omega) (by omega)
          simp -implicitDefEqProofs [row_mk, go_sem, -List.set_cons_succ, -List.set_cons_zero]
          refine qcall_pure (level_calls s) hf rfl ?_
          have hk2 : ∀ u : Tm, u.ok → u.kids.length = 2 → u.k = 3 := fun u hu h => by
            obtain ⟨k, n, s, l⟩ := u
            have hg := hu.good
            cases hg with
            | mk ho _ =>
              rcases own_cases ho with ⟨_, _, _, _, rfl⟩ | ⟨_, _, _, _, rfl⟩ | ⟨h3, _⟩
              · simp [Tm.kids] at h
              · simp [Tm.kids] at h
              · exact h3
          have hm0 : 0 ≤ leftMost s := by
            by_cases h3 : levelN s = 3
            · rw [hr2 h3]; omega
            · rw [hr3 h3]; omega
          have cl := left_calls a ha.1.fits (hT a ha.1 ha.2) (by omega) (leftMost s)
          have cr := right_calls b hb.1.fits (hT b hb.1 hb.2) hbl.2.2 (by omega) (levelN s - 1)
          rw [brk_opnd_left a hm0 (hk2 a ha.1)] at cl
          rw [brk_opnd_right b (by omega) (hk2 b hb.1)] at cr
          have hol := opnd_len a a.wr (leftMost s) false
          have hor := opnd_len b b.wr (levelN s - 1) true
          have hos := opSp_len s
          have hwr : (Tm.mk 3 n s [a, b]).wr = opnd a a.wr (leftMost s) false ++ opSp s ++ opnd b b.wr (levelN s - 1) true := by
            have hne : s ≠ [46] := by rintro rfl; simp [levelN, ops3] at hlp
            rw [Tm.wr, wrs_map, wrts_map]
            simp [wrNode, hne, hlp]
          rw [hwr]
          by_cases h3 : levelN s = 3
          · rw [hr2 h3] at cl hol
            rw [h3, show (3 : Int) - 1 = 2 from rfl] at cr hor hsub
            rw [h3, show (3 : Int) - 1 = 2 from rfl]
            have h22 : inR .i64 2 := small_i64 (by omega) (by omega)
            simp only [hr2 h3]
            simp -implicitDefEqProofs [h3, hsub, h22, go_sem, -List.set_cons_succ, -List.set_cons_zero]
            refine row_int (i := 0) a.row (by omega) rfl (row_len _) ?_
            simp -implicitDefEqProofs [row_len, take_row, pure_d, re_d, go_sem, -List.set_cons_succ, -List.set_cons_zero]
            refine qcall_pure cl hf rfl ?_
            simp -implicitDefEqProofs [go_sem, -List.set_cons_succ, -List.set_cons_zero]
            refine qcall_pure (spaced_calls s hlp) hf rfl ?_
            simp -implicitDefEqProofs [maxStr, go_sem, -List.set_cons_succ, -List.set_cons_zero]
            refine ⟨by omega, row_int (i := 1) b.row (by omega) rfl (row_len _) ?_⟩
            simp -implicitDefEqProofs [row_len, take_row, pure_d, re_d, go_sem, -List.set_cons_succ, -List.set_cons_zero]
            refine qcall_pure cr hf rfl ?_
            simp -implicitDefEqProofs [maxStr, go_sem, -List.set_cons_succ, -List.set_cons_zero]
            omega
          · rw [hr3 h3] at cl hol
            have h4 : (levelN s == 3) = false := by simpa using h3
            simp only [hr3 h3]
            simp -implicitDefEqProofs [h3, h4, hsub, go_sem, -List.set_cons_succ, -List.set_cons_zero]
            refine row_int (i := 0) a.row (by omega) rfl (row_len _) ?_
            simp -implicitDefEqProofs [row_len, take_row, pure_d, re_d, go_sem, -List.set_cons_succ, -List.set_cons_zero]
            refine qcall_pure cl hf rfl ?_
            simp -implicitDefEqProofs [go_sem, -List.set_cons_succ, -List.set_cons_zero]
            refine qcall_pure (spaced_calls s hlp) hf rfl ?_
            simp -implicitDefEqProofs [maxStr, go_sem, -List.set_cons_succ, -List.set_cons_zero]
            refine ⟨by omega, row_int (i := 1) b.row (by omega) rfl (row_len _) ?_⟩
            simp -implicitDefEqProofs [row_len, take_row, pure_d, re_d, go_sem, -List.set_cons_succ, -List.set_cons_zero]
            refine qcall_pure cr hf rfl ?_
            simp -implicitDefEqProofs [maxStr, go_sem, -List.set_cons_succ, -List.set_cons_zero]
            omega
      | false =>
        have hli : inR .i64 (t.kids.length : Int) := by
          cases ht.fits with
          | mk _ _ _ h _ => exact small_i64 (by simp only [Tm.kids]; omega) (by simp only [Tm.kids]; omega)
        by_cases hks : t.kids = []
        · have hlf := leaf_calls t ht.fits ht.good hks
          obtain ⟨k, n, s, l⟩ := t
          obtain rfl : l = [] := hks
          have h00 : inR .i64 0 := small_i64 (by omega) (by omega)
          simp [row_mk] at hlf
          by_cases hk : k = 3
          · simp -implicitDefEqProofs [row_mk, hk, h00, go_sem, -List.set_cons_succ, -List.set_cons_zero]
            subst hk
            refine qcall_pure hlf hf rfl ?_
            simp -implicitDefEqProofs [go_sem, -List.set_cons_succ, -List.set_cons_zero]
          · simp -implicitDefEqProofs [row_mk, hk, h00, go_sem, -List.set_cons_succ, -List.set_cons_zero]
            refine qcall_pure hlf hf rfl ?_
            simp -implicitDefEqProofs [go_sem, -List.set_cons_succ, -List.set_cons_zero]
        · obtain ⟨k, n, s, l⟩ := t
          have hkl : l ≠ [] := hks
          clear hks
          have hkids := fun u hu => ht.kid (k := k) (n := n) (s := s) (l := l) (u := u) hu
          obtain rfl : k = 3 := by
            cases ht.good with
            | mk ho _ =>
              rcases own_cases ho with ⟨_, _, _, _, h⟩ | ⟨_, _, _, _, h⟩ | ⟨h3, _⟩
              · exact absurd h hkl
              · exact absurd h hkl
              · exact h3
          simp only [Tm.kids] at hli
          have hsl : s.length ≤ 1048576 ∧ l.length ≤ 1048576 := by
            cases ht.fits with
            | mk _ _ h3 h4 _ => exact ⟨h3, h4⟩
          have hps : 0 < l.length := List.length_pos_iff.2 hkl
          have hpos : (0 : Int) < l.length := by omega
          have hargs := wargs_calls l hsl.2 (fun u hu => ⟨hT u (hkids u hu).1 (hkids u hu).2, by have := (hkids u hu).1.len; omega⟩)
          have hjl := joinS_take l (fun u hu => by have := (hkids u hu).1.len; omega) (Nat.le_refl _)
          rw [List.take_of_length_le (by simp)] at hjl
          have hwr : (Tm.mk 3 n s l).wr = s ++ 40 :: joinS 44 (l.map Tm.wr) ++ [41] := by
            rw [Tm.wr, wrs_map, wrts_map]
            have h1 : ¬ (s = [46] ∧ l.length = 2) := by
              rintro ⟨rfl, h⟩
              have h' : (l.length : Int) = 2 := by omega
              simp [Tm.pairB, Tm.k, Tm.s, Tm.kids, h'] at hp
            have h2 : ¬ (l.length = 2 ∧ 0 < levelN s) := by
              rintro ⟨h, h'⟩
              have h'' : (l.length : Int) = 2 := by omega
              simp [infixB, Tm.k, Tm.s, Tm.kids, h'', h'] at hi
            simp [wrNode, h1, h2, hkl]
          rw [hwr]
          simp -implicitDefEqProofs [row_mk, hli, hpos, hps, hkl, go_sem, -List.set_cons_succ, -List.set_cons_zero]
          refine ⟨by unfold maxStr; omega, qcall_pure hargs hf rfl ?_⟩
          simp -implicitDefEqProofs [maxStr, go_sem, -List.set_cons_succ, -List.set_cons_zero]
          omega
end Go.Proofs.YtbblefjbgbocoaaGreatDoor

/-
  Clauses and programs as the reference reads them.
  Conditions: none.
-/
open Go Go.AM Go.Proofs
namespace Go.Proofs.YtbblefjbgbocoaaGreatDoor
open Go.ChangeShapes Go.WideShapes Go.ChangeAt Go.RowKit
set_option linter.unusedVariables false
set_option linter.unusedSimpArgs false
set_option maxRecDepth 100000
-- 236 loop.example/prologserver/spec.l4Text params 1 ntmps 31
-- loop head live: [1,3,4]
def ac236 : Cd := .seq (.region [⟨(some 1),.box (.t 0),none⟩,
 ⟨(some 2),.mv (.k (.c (.d (.str [])))),none⟩] [0,2])
 (.seq (.region [⟨(some 5),.fieldAddr 0 (.t 1),none⟩,
 ⟨(some 6),.load (some 4) (.t 5),none⟩,
 ⟨(some 7),.qcall 242 [(.t 6)],none⟩,
 ⟨(some 3),.mv (.t 7),none⟩] [5,6,7])
 (.seq (.seq (.region [⟨(some 4),.mv (.k (.c (.d (.int .i64 0)))),none⟩] [])
 (.block 0 (.loop (.seq (.seq (.region [⟨(some 8),.mv (.t 4),none⟩,
 ⟨(some 9),.fieldAddr 4 (.t 1),none⟩,
 ⟨(some 10),.load none (.t 9),none⟩,
 ⟨(some 11),.len 1 (.t 10),none⟩,
 ⟨(some 12),.bin .lss (.t 8) (.t 11),none⟩] [8,9,10,11])
 (.cond (.t 12)
 (.skip)
 (.exit 0)))
 (.seq (.block 1 (.seq (.seq (.region [⟨(some 15),.mv (.t 4),none⟩,
 ⟨(some 16),.bin .eql (.t 15) (.k (.c (.d (.int .i64 0)))),none⟩] [12,15])
 (.cond (.t 16)
 (.region [⟨(some 17),.mv (.t 3),none⟩,
 ⟨(some 18),.bin .add (.t 17) (.k (.c (.d (.str [58,45])))),none⟩,
 ⟨(some 3),.mv (.t 18),none⟩] [16,17,18])
 (.region [⟨(some 19),.mv (.t 3),none⟩,
 ⟨(some 20),.bin .add (.t 19) (.k (.c (.d (.str [44])))),none⟩,
 ⟨(some 3),.mv (.t 20),none⟩] [16,19,20])))
 (.region [⟨(some 21),.mv (.t 3),none⟩,
 ⟨(some 22),.fieldAddr 4 (.t 1),none⟩,
 ⟨(some 23),.load none (.t 22),none⟩,
 ⟨(some 24),.mv (.t 4),none⟩,
 ⟨(some 25),.indexAddr 4 (.t 23) (.t 24),none⟩,
 ⟨(some 26),.load (some 4) (.t 25),none⟩,
 ⟨(some 27),.qcall 242 [(.t 26)],none⟩,
 ⟨(some 28),.bin .add (.t 21) (.t 27),none⟩,
 ⟨(some 3),.mv (.t 28),none⟩] [21,22,23,24,25,26,27,28])))
 (.region [⟨(some 13),.mv (.t 4),none⟩,
 ⟨(some 14),.bin .add (.t 13) (.k (.c (.d (.int .i64 1)))),none⟩,
 ⟨(some 4),.mv (.t 14),none⟩] [13,14]))))))
 (.seq (.region [⟨(some 29),.mv (.t 3),none⟩,
 ⟨(some 30),.bin .add (.t 29) (.k (.c (.d (.str [46])))),none⟩,
 ⟨(some 2),.mv (.t 30),none⟩] [3,29,30])
 (.ret))))
theorem ac236_ok : cFunc Tryz.prog [1000242] [(0,[0,2],[]),(1,[5,6,7],[]),(2,[],[]),(3,[8,9,10,11],[]),(5,[12,15],[]),(6,[16,17,18],[]),(7,[16,19,20],[]),(8,[21,22,23,24,25,26,27,28],[]),(4,[13,14],[]),(9,[3,29,30],[])] Tryz.f236 = some (ac236,[.tmp 2],31) := by kernel_rfl
-- 217 loop.example/prologserver/spec.FormatClause params 1 ntmps 8
def ac217 : Cd := .seq (.region [⟨(some 1),.box (.t 0),none⟩,
 ⟨(some 2),.mv (.k (.c (.d (.str [])))),none⟩] [0,2])
 (.seq (.seq (.region [⟨(some 3),.load (some 5) (.t 1),none⟩,
 ⟨(some 4),.qcall 134 [(.t 3)],none⟩,
 ⟨(some 5),.un .not (.t 4),none⟩] [3,4])
 (.cond (.t 5)
 (.seq (.region [⟨(some 2),.mv (.k (.c (.d (.str [])))),none⟩] [1,5])
 (.ret))
 (.skip)))
 (.seq (.region [⟨(some 6),.load (some 5) (.t 1),none⟩,
 ⟨(some 7),.qcall 236 [(.t 6)],none⟩,
 ⟨(some 2),.mv (.t 7),none⟩] [1,5,6,7])
 (.ret)))
theorem ac217_ok : cFunc Tryz.prog [1000134,1000236] [(0,[0,2],[]),(1,[3,4],[]),(2,[1,5],[]),(3,[1,5,6,7],[])] Tryz.f217 = some (ac217,[.tmp 2],8) := by kernel_rfl
-- 215 loop.example/prologserver/spec.l4Copy params 1 ntmps 28
-- loop head live: [1,2,3,4]
def ac215 : Cd := .seq (.region [⟨(some 1),.box (.t 0),none⟩,
 ⟨(some 2),.alloc [(.d (.int .i64 0)),(.d (.int .i64 0)),(.d (.str [])),(.full []),(.full [])],none⟩] [0])
 (.seq (.region [⟨(some 5),.fieldAddr 0 (.t 1),none⟩,
 ⟨(some 6),.load (some 4) (.t 5),none⟩,
 ⟨(some 7),.qcall 59 [(.t 6)],none⟩,
 ⟨(some 8),.build [(.d (.int .i64 0)),(.d (.int .i64 0)),(.d (.str [])),(.full []),(.full [])] [(0,4,(.t 7))],none⟩,
 ⟨(some 3),.alloc [(.d (.int .i64 0)),(.d (.int .i64 0)),(.d (.str [])),(.full []),(.full [])],none⟩,
 ⟨none,.store 5 (.t 3) (.t 8),none⟩] [5,6,7,8])
 (.seq (.seq (.region [⟨(some 4),.mv (.k (.c (.d (.int .i64 0)))),none⟩] [])
 (.block 0 (.loop (.seq (.seq (.region [⟨(some 9),.mv (.t 4),none⟩,
 ⟨(some 10),.fieldAddr 4 (.t 1),none⟩,
 ⟨(some 11),.load none (.t 10),none⟩,
 ⟨(some 12),.len 1 (.t 11),none⟩,
 ⟨(some 13),.bin .lss (.t 9) (.t 12),none⟩] [9,10,11,12])
 (.cond (.t 13)
 (.skip)
 (.exit 0)))
 (.seq (.block 1 (.region [⟨(some 16),.fieldAddr 4 (.t 3),none⟩,
 ⟨(some 18),.fieldAddr 4 (.t 1),none⟩,
 ⟨(some 20),.mv (.t 4),none⟩,
 ⟨(some 17),.load none (.t 16),none⟩,
 ⟨(some 19),.load none (.t 18),none⟩,
 ⟨(some 21),.indexAddr 4 (.t 19) (.t 20),none⟩,
 ⟨(some 22),.load (some 4) (.t 21),none⟩,
 ⟨(some 23),.qcall 59 [(.t 22)],none⟩,
 ⟨(some 24),.buildSlice 4 1 [(.int .i64 0),(.int .i64 0),(.str []),(.sl [])] [(0,(.t 23))],none⟩,
 ⟨(some 25),.append false 4 (.t 17) (.t 24),none⟩,
 ⟨(some 26),.fieldAddr 4 (.t 3),none⟩,
 ⟨none,.store 1 (.t 26) (.t 25),none⟩] [13,16,17,18,19,20,21,22,23,24,25,26]))
 (.region [⟨(some 14),.mv (.t 4),none⟩,
 ⟨(some 15),.bin .add (.t 14) (.k (.c (.d (.int .i64 1)))),none⟩,
 ⟨(some 4),.mv (.t 15),none⟩] [14,15]))))))
 (.seq (.region [⟨(some 27),.load (some 5) (.t 3),none⟩,
 ⟨none,.store 5 (.t 2) (.t 27),none⟩] [3,27])
 (.ret))))
theorem ac215_ok : cFunc Tryz.prog [1000059] [(0,[0],[]),(1,[5,6,7,8],[]),(2,[],[]),(3,[9,10,11,12],[]),(5,[13,16,17,18,19,20,21,22,23,24,25,26],[0,2,4,1,3,5,6,7,8,9,10,11]),(4,[14,15],[]),(6,[3,27],[])] Tryz.f215 = some (ac215,[.cell 2 (some 5)],28) := by kernel_rfl
theorem valid_tok {t : Tm} (ht : t.fits) (h : t.valid = true) : t.ok := by
  refine ⟨ht, valid_good h, ?_⟩
  simp only [Tm.valid, Bool.and_eq_true, decide_eq_true_eq] at h
  have := h.2
  omega
theorem valid_text {t : Tm} (ht : t.fits) (h : t.valid = true) : TxS t ∧ t.wr.length ≤ 2400 ∧ t.wr ≠ [] := by
  have hk := valid_tok ht h
  exact ⟨text_calls _ t (Nat.le_refl _) hk, by
    have h1 := (wr_len t hk.good).1.1
    simp only [Tm.valid, Bool.and_eq_true, decide_eq_true_eq] at h
    have h2 := h.2
    omega, hk.len.2.2⟩
theorem goalsW_snoc (W : Tm → List UInt8) : ∀ (f : Bool) (l : List Tm) (t : Tm), goalsW W f (l ++ [t]) = goalsW W f l ++ ((if (f && l.isEmpty) = true then [58, 45] else [44]) ++ W t)
  | f, [], t => by cases f <;> simp [goalsW]
  | f, a :: l, t => by simp [goalsW, goalsW_snoc W false l t]
theorem goalsW_len (W : Tm → List UInt8) : ∀ (f : Bool) (l : List Tm), (∀ t ∈ l, (W t).length ≤ 2400) → (goalsW W f l).length ≤ 2402 * l.length
  | f, [], _ => by simp [goalsW]
  | f, a :: l, h => by
    have h1 := goalsW_len W false l fun t ht => h t (by simp [ht])
    have h2 := h a (by simp)
    cases f <;> simp [goalsW] <;> omega
theorem Cl.validB.parts {c : Cl} (hv : c.validB = true) : c.head.valid = true ∧ c.body.length ≤ 6 ∧ ∀ t ∈ c.body, t.valid = true := by
  simp only [Cl.validB, Bool.and_eq_true, goalsB, List.all_eq_true, decide_eq_true_eq] at hv
  refine ⟨hv.1.1, hv.2.1, fun t ht => ?_⟩
  have := hv.2.2 t ht
  simp only [Tm.goal, Bool.and_eq_true] at this
  exact this.1
theorem l4Text_calls (c : Cl) (hc : c.fits) (hv : c.validB = true) (H : Heap) : ACalls Tryz.prog 236 [.agg (c.row.map .d)] H (fun r H' => H' = H ∧ r = .c (.d (.str (clW Tm.wr c)))) := by
  obtain ⟨h, b⟩ := c
  obtain ⟨hh, hl, hb⟩ := hc
  obtain ⟨v1, v2, v3⟩ := Cl.validB.parts hv
  simp only at hh hl hb v1 v2 v3
  obtain ⟨c1, n1, _⟩ := valid_text hh v1
  unfold TxS at c1
  rw [row_eq] at c1
  simp only [List.map_cons, List.map_nil] at c1
  have hbl : inR .i64 (b.length : Int) := small_i64 (by omega) (by omega)
  refine acalls Tryz.func236 (by kernel_rfl) ac236_ok fun hf => ?_
  simp -implicitDefEqProofs [ac236, Cl.row, go_sem, -List.set_cons_succ, -List.set_cons_zero]
  refine qcall_pure c1 hf rfl ?_
  simp -implicitDefEqProofs [go_sem, -List.set_cons_succ, -List.set_cons_zero]
  refine loop_set (σ := Nat) (fun i => [(3, .c (.d (.str (h.wr ++ goalsW Tm.wr true (b.take i))))), (4, .c (.d (.int .i64 i)))]) (fun _ => H) (fun _ => [.cells [.d (.int .i64 h.k), .d (.int .i64 h.n), .d (.str h.s), .d (.sl (h.kids.map Tm.row)), .d (.sl (b.map Tm.row))]])
    (fun i => i ≤ b.length) (fun i => b.length - i) 0 (by simp [setAll, goalsW]) (Nat.zero_le _) ?_
  intro i hi
  have hgl := goalsW_len Tm.wr true (b.take i) fun t ht => (valid_text (hb t (List.mem_of_mem_take ht)) (v3 t (List.mem_of_mem_take ht))).2.1
  have htl : (b.take i).length ≤ 6 := by simp; omega
  simp -implicitDefEqProofs [setAll, hbl, go_sem, -List.set_cons_succ, -List.set_cons_zero]
  refine ⟨fun hlt => ?_, fun hge => ?_⟩
  · have hadd : inR .i64 ((i : Int) + 1) := small_i64 (by omega) (by omega)
    obtain ⟨c2, n2, _⟩ := valid_text (hb _ (List.getElem_mem hlt)) (v3 _ (List.getElem_mem hlt))
    have hw : goalsW Tm.wr true (b.take (i + 1)) = goalsW Tm.wr true (b.take i) ++ ((if i = 0 then [58, 45] else [44]) ++ b[i].wr) := by
      rw [List.take_succ_eq_append_getElem hlt, goalsW_snoc]
      congr 2
      by_cases h0 : i = 0
      · subst h0; simp
      · have : (b.take i).isEmpty = false := by
          cases hx : b.take i with
          | nil => have := congrArg List.length hx; rw [List.length_take, List.length_nil] at this; omega
          | cons _ _ => rfl
        simp [this, h0]
    simp -implicitDefEqProofs [maxStr, go_sem, -List.set_cons_succ, -List.set_cons_zero]
    refine ⟨fun h0 => ⟨by omega, ?_⟩, fun h0 => ⟨by omega, ?_⟩⟩
    all_goals
      refine row_of hlt (row_len _) ?_
      simp -implicitDefEqProofs [row_len, take_row, pure_d, re_d, hf, go_sem, -List.set_cons_succ, -List.set_cons_zero]
      refine qcall_pure c2 hf rfl ?_
      simp -implicitDefEqProofs [maxStr, hadd, go_sem, -List.set_cons_succ, -List.set_cons_zero]
      refine ⟨by omega, ?_⟩
      refine loop_back (i + 1) ?_ hlt (by show b.length - (i + 1) < b.length - i; omega)
      simp [setAll]
      rw [hw]
      simp [h0]
  · obtain rfl : i = b.length := by omega
    simp at hgl
    simp -implicitDefEqProofs [maxStr, clW, go_sem, -List.set_cons_succ, -List.set_cons_zero]
    omega
theorem fmtC_calls (c : Cl) (hc : c.fits) (H : Heap) : ACalls Tryz.prog 217 [.agg (c.row.map .d)] H (fun r H' => H' = H ∧ r = .c (.d (.str (if c.validB = true then clW Tm.wr c else [])))) := by
  have c1 := cvSpec_calls c hc
  have c2 := l4Text_calls c hc
  obtain ⟨h, b⟩ := c
  simp only [Cl.row, List.map_cons, List.map_nil] at c1 c2
  refine acalls Tryz.func217 (by kernel_rfl) ac217_ok fun hf => ?_
  simp -implicitDefEqProofs [ac217, Cl.row, go_sem, -List.set_cons_succ, -List.set_cons_zero]
  refine qcall_pure c1 hf rfl ?_
  cases hv : Cl.validB ⟨h, b⟩ with
  | false => simp -implicitDefEqProofs [go_sem, -List.set_cons_succ, -List.set_cons_zero]
  | true =>
    simp -implicitDefEqProofs [go_sem, -List.set_cons_succ, -List.set_cons_zero]
    refine qcall_pure (c2 hv) hf rfl ?_
    simp -implicitDefEqProofs [go_sem, -List.set_cons_succ, -List.set_cons_zero]
theorem clCopy_calls (c : Cl) (hc : c.fits) (H : Heap) : ACalls Tryz.prog 215 [.agg (c.row.map .d)] H (fun r H' => H' = H ∧ r = .agg (c.row.map .d)) := by
  obtain ⟨h, b⟩ := c
  obtain ⟨hh, hl, hb⟩ := hc
  simp only at hh hl hb
  have c1 := copy_calls h hh
  rw [row_eq] at c1
  simp only [List.map_cons, List.map_nil] at c1
  have hbl : inR .i64 (b.length : Int) := small_i64 (by omega) (by omega)
  refine acalls Tryz.func215 (by kernel_rfl) ac215_ok fun hf => ?_
  simp -implicitDefEqProofs [ac215, Cl.row, hf, go_sem, -List.set_cons_succ, -List.set_cons_zero]
  refine qcall_pure c1 hf (by simp [A.re, C.re]) ?_
  simp -implicitDefEqProofs [hf, go_sem, -List.set_cons_succ, -List.set_cons_zero]
  refine loop_enter (St.le_tokenC 2 4 4 rfl rfl) ?_
  refine loop_set (σ := Nat) (fun i => [(4, .c (.d (.int .i64 i)))]) (fun _ => H) (fun i => [.cells [.d (.int .i64 h.k), .d (.int .i64 h.n), .d (.str h.s), .d (.sl (h.kids.map Tm.row)), .d (.sl (b.map Tm.row))], .cells [.d (.int .i64 0), .d (.int .i64 0), .d (.str []), .full [], .full []], .cells [.d (.int .i64 h.k), .d (.int .i64 h.n), .d (.str h.s), .d (.sl (h.kids.map Tm.row)), .own (.l 3) i ((b.map Tm.row).take i)], .grow i 4])
    (fun i => i ≤ b.length) (fun i => b.length - i) 0 rfl (Nat.zero_le _) ?_
  intro i hi
  simp -implicitDefEqProofs [setAll, hbl, go_sem, -List.set_cons_succ, -List.set_cons_zero]
  refine ⟨fun hlt => ?_, fun hge => ?_⟩
  · have hadd : inR .i64 ((i : Int) + 1) := small_i64 (by omega) (by omega)
    refine row_of hlt (row_len _) ?_
    simp -implicitDefEqProofs [row_len, take_row, pure_d, re_d, hf, go_sem, -List.set_cons_succ, -List.set_cons_zero]
    refine qcall_pure (copy_calls b[i] (hb _ (List.getElem_mem hlt))) hf (by simp [A.re, re_d]) ?_
    simp -implicitDefEqProofs [row_len, toDs_map, hadd, hf, Nat.min_eq_left hi, go_sem, -List.set_cons_succ, -List.set_cons_zero]
    refine ⟨fun r hr => allLen_map row_len r (List.mem_of_mem_take hr), by unfold maxApp; omega, ?_⟩
    refine loop_back (i + 1) ?_ hlt (by show b.length - (i + 1) < b.length - i; omega)
    simp [setAll, take_map_succ hlt]
  · have hil : i = b.length := by omega
    subst hil
    rw [show (b.map Tm.row).take b.length = b.map Tm.row from List.take_of_length_le (by simp)]
    simp -implicitDefEqProofs [hf, go_sem, -List.set_cons_succ, -List.set_cons_zero]
end Go.Proofs.YtbblefjbgbocoaaGreatDoor

/-
  Clauses as the reference reads them.
  Conditions: none.
-/
open Go Go.AM Go.Proofs
namespace Go.Proofs.YtbblefjbgbocoaaGreatDoor
open Go.ChangeShapes Go.WideShapes Go.ChangeAt Go.RowKit
set_option linter.unusedVariables false
set_option linter.unusedSimpArgs false
set_option maxRecDepth 100000
-- 186 loop.example/prologserver/spec.ParseClause params 1 ntmps 58
def ac186 : Cd := .seq (.region [⟨(some 2),.alloc [(.d (.int .i64 0)),(.d (.int .i64 0)),(.d (.str [])),(.full []),(.full [])],none⟩,
 ⟨(some 3),.mv (.k (.c (.d (.bool false)))),none⟩] [3])
 (.seq (.seq (.region [⟨(some 7),.mv (.t 0),none⟩,
 ⟨(some 8),.len 0 (.t 7),none⟩,
 ⟨(some 9),.bin .gtr (.t 8) (.k (.c (.d (.int .i64 1000)))),none⟩] [7,8])
 (.cond (.t 9)
 (.seq (.region [⟨(some 10),.build [(.d (.int .i64 0)),(.d (.int .i64 0)),(.d (.str [])),(.full []),(.full [])] [],none⟩,
 ⟨none,.store 5 (.t 2) (.t 10),none⟩,
 ⟨(some 3),.mv (.k (.c (.d (.bool false)))),none⟩] [0,9,10])
 (.ret))
 (.skip)))
 (.seq (.region [⟨(some 12),.mv (.t 0),none⟩,
 ⟨(some 13),.qcall 108 [(.t 12),(.k (.c (.d (.int .i64 0)))),(.k (.c (.d (.int .i64 30)))),(.k (.c (.d (.int .i64 3))))],none⟩,
 ⟨(some 11),.mv (.t 13),none⟩,
 ⟨(some 14),.extract 0 (.t 11),none⟩,
 ⟨(some 15),.extract 1 (.t 11),none⟩,
 ⟨(some 4),.alloc [(.d (.int .i64 0)),(.d (.int .i64 0)),(.d (.str [])),(.full [])],none⟩,
 ⟨none,.store 4 (.t 4) (.t 14),none⟩,
 ⟨(some 5),.mv (.t 15),none⟩] [3,9,11,12,13,14,15])
 (.seq (.seq (.region [⟨(some 16),.mv (.t 5),none⟩,
 ⟨(some 17),.bin .lss (.t 16) (.k (.c (.d (.int .i64 0)))),none⟩] [16])
 (.cond (.t 17)
 (.seq (.region [⟨(some 18),.build [(.d (.int .i64 0)),(.d (.int .i64 0)),(.d (.str [])),(.full []),(.full [])] [],none⟩,
 ⟨none,.store 5 (.t 2) (.t 18),none⟩,
 ⟨(some 3),.mv (.k (.c (.d (.bool false)))),none⟩] [0,4,5,17,18])
 (.ret))
 (.skip)))
 (.seq (.region [⟨(some 19),.load (some 4) (.t 4),none⟩,
 ⟨(some 20),.build [(.d (.int .i64 0)),(.d (.int .i64 0)),(.d (.str [])),(.full []),(.full [])] [(0,4,(.t 19))],none⟩,
 ⟨(some 6),.alloc [(.d (.int .i64 0)),(.d (.int .i64 0)),(.d (.str [])),(.full []),(.full [])],none⟩,
 ⟨none,.store 5 (.t 6) (.t 20),none⟩] [3,4,17,19,20])
 (.seq (.seq (.region [⟨(some 21),.mv (.t 0),none⟩,
 ⟨(some 22),.mv (.t 5),none⟩,
 ⟨(some 23),.qcall 106 [(.t 21),(.t 22),(.k (.c (.d (.int .u8 58))))],none⟩,
 ⟨(some 24),.mv (.t 23),none⟩,
 ⟨(some 25),.mv (.t 0),some (24,true)⟩,
 ⟨(some 26),.mv (.t 5),some (24,true)⟩,
 ⟨(some 27),.bin .add (.t 26) (.k (.c (.d (.int .i64 1)))),some (24,true)⟩,
 ⟨(some 28),.qcall 106 [(.t 25),(.t 27),(.k (.c (.d (.int .u8 45))))],some (24,true)⟩,
 ⟨(some 29),.pick (.t 24) (.t 28) (.k (.c (.d (.bool false)))),none⟩] [21,22,23,24,25,26,27,28])
 (.cond (.t 29)
 (.region [⟨(some 31),.mv (.t 0),none⟩,
 ⟨(some 32),.mv (.t 5),none⟩,
 ⟨(some 33),.bin .add (.t 32) (.k (.c (.d (.int .i64 2)))),none⟩,
 ⟨(some 34),.qcall 58 [(.t 31),(.t 33)],none⟩,
 ⟨(some 30),.mv (.t 34),none⟩,
 ⟨(some 35),.extract 0 (.t 30),none⟩,
 ⟨(some 36),.extract 1 (.t 30),none⟩,
 ⟨(some 37),.fieldAddr 4 (.t 6),none⟩,
 ⟨none,.store 1 (.t 37) (.t 35),none⟩,
 ⟨(some 5),.mv (.t 36),none⟩] [29,30,31,32,33,34,35,36,37])
 (.skip)))
 (.seq (.seq (.region [⟨(some 38),.mv (.t 5),none⟩,
 ⟨(some 39),.mv (.t 0),none⟩,
 ⟨(some 40),.len 0 (.t 39),none⟩,
 ⟨(some 41),.bin .sub (.t 40) (.k (.c (.d (.int .i64 1)))),none⟩,
 ⟨(some 42),.bin .neq (.t 38) (.t 41),none⟩,
 ⟨(some 43),.mv (.t 42),none⟩,
 ⟨(some 44),.mv (.t 0),some (43,false)⟩,
 ⟨(some 45),.mv (.t 5),some (43,false)⟩,
 ⟨(some 46),.qcall 106 [(.t 44),(.t 45),(.k (.c (.d (.int .u8 46))))],some (43,false)⟩,
 ⟨(some 47),.un .not (.t 46),some (43,false)⟩,
 ⟨(some 48),.pick (.t 43) (.k (.c (.d (.bool true)))) (.t 47),none⟩,
 ⟨(some 49),.mv (.t 48),none⟩,
 ⟨(some 50),.load (some 5) (.t 6),some (49,false)⟩,
 ⟨(some 51),.qcall 217 [(.t 50)],some (49,false)⟩,
 ⟨(some 52),.mv (.t 0),some (49,false)⟩,
 ⟨(some 53),.bin .neq (.t 51) (.t 52),some (49,false)⟩,
 ⟨(some 54),.pick (.t 49) (.k (.c (.d (.bool true)))) (.t 53),none⟩] [0,5,29,38,39,40,41,42,43,44,45,46,47,48,49,50,51,52,53])
 (.cond (.t 54)
 (.seq (.region [⟨(some 55),.build [(.d (.int .i64 0)),(.d (.int .i64 0)),(.d (.str [])),(.full []),(.full [])] [],none⟩,
 ⟨none,.store 5 (.t 2) (.t 55),none⟩,
 ⟨(some 3),.mv (.k (.c (.d (.bool false)))),none⟩] [6,54,55])
 (.ret))
 (.skip)))
 (.seq (.region [⟨(some 56),.load (some 5) (.t 6),none⟩,
 ⟨(some 57),.qcall 215 [(.t 56)],none⟩,
 ⟨none,.store 5 (.t 2) (.t 57),none⟩,
 ⟨(some 3),.mv (.k (.c (.d (.bool true)))),none⟩] [6,54,56,57])
 (.ret))))))))
theorem ac186_ok : cFunc Tryz.prog [1000058,1000106,1000108,1000215,1000217] [(0,[3],[]),(1,[7,8],[]),(2,[0,9,10],[]),(3,[3,9,11,12,13,14,15],[]),(4,[16],[]),(5,[0,4,5,17,18],[]),(6,[3,4,17,19,20],[]),(7,[21,22,23,24,25,26,27,28],[]),(8,[29,30,31,32,33,34,35,36,37],[]),(9,[0,5,29,38,39,40,41,42,43,44,45,46,47,48,49,50,51,52,53],[]),(10,[6,54,55],[]),(11,[6,54,56,57],[])] Tryz.f186 = some (ac186,[.cell 2 (some 5),.tmp 3],58) := by kernel_rfl
def zCl : Cl := ⟨.mk 0 0 [] [], []⟩
def clA : Option Cl → A
  | some c => .tup [.agg (c.row.map .d), .c (.d (.bool true))]
  | none => .tup [.agg (zCl.row.map .d), .c (.d (.bool false))]
theorem goalsR_ok2 (s : List UInt8) (hs : s.length ≤ 1000000) (i : Nat) (hi : i ≤ s.length) {ts : List Tm} {k : Nat} (h : goalsR s 7 i = some (ts, k)) : k ≤ s.length ∧ ts.length ≤ 7 ∧ (∀ t ∈ ts, t.fits) :=
  let ⟨a, b, c, _⟩ := goalsR_ok s hs 7 i ts k hi h
  ⟨a, b, c⟩
theorem clauseR_fits (s : List UInt8) (hs : s.length ≤ 1000000) {c : Cl} (h : clauseR Tm.wr s = some c) : c.fits ∧ c.validB = true := by
  unfold clauseR at h
  have key : ∀ (c0 : Cl) (j : Nat), c0.fits → clauseB Tm.wr s c0 j = some c → c.fits ∧ c.validB = true := by
    intro c0 j h0 h1
    unfold clauseB at h1
    split at h1
    · rename_i hc
      simp only [Bool.and_eq_true] at hc
      cases h1
      exact ⟨h0, hc.1.2⟩
    · cases h1
  split at h
  · cases h
  · obtain ⟨r, hr, hpost⟩ := rdF_ok s hs 0 30 (by omega)
    rw [hr] at h
    cases r with
    | bad e => cases h
    | ok us j =>
      obtain ⟨g1, g2, t, rfl, g3⟩ := hpost
      simp only [Rs.tm] at h
      split at h
      · rename_i hsg
        have hj : j + 1 < s.length := by
          simp only [Bool.and_eq_true] at hsg
          exact sgn_lt hsg.2
        split at h
        · rename_i b k hg
          obtain ⟨q1, q2, q3⟩ := goalsR_ok2 s hs (j + 2) (by omega) hg
          exact key ⟨t, b⟩ k ⟨g3, by show b.length ≤ 1048576; omega, q3⟩ h
        · cases h
      · exact key ⟨t, []⟩ j ⟨g3, by simp, by simp⟩ h
theorem pcSpec_calls (s : List UInt8) (hs : s.length ≤ 1000000) (H : Heap) : ACalls Tryz.prog 186 [.c (.d (.str s))] H (fun r H' => H' = H ∧ r = clA (clauseR Tm.wr s)) := by
  refine acalls Tryz.func186 (by kernel_rfl) ac186_ok fun hf => ?_
  have hli : inR .i64 (s.length : Int) := small_i64 (by omega) (by omega)
  have hl1 : inR .i64 ((s.length : Int) - 1) := small_i64 (by omega) (by omega)
  unfold clauseR
  by_cases h1000 : 1000 < s.length
  · have h1 : (1000 : Int) < s.length := by omega
    simp -implicitDefEqProofs [ac186, hli, h1, h1000, hf, clA, zCl, Cl.row, Tm.k, Tm.n, Tm.s, Tm.kids, go_sem, -List.set_cons_succ, -List.set_cons_zero]
  · have h1 : ¬ (1000 : Int) < s.length := by omega
    rw [if_neg h1000]
    obtain ⟨r, hr, hpost⟩ := rdF_ok s hs 0 30 (by omega)
    have c1 := (par s hs _).read 0 30 3 r (by omega) (by omega) (by omega) hr
    simp only [Int.cast_ofNat_Int] at c1
    rw [hr]
    simp -implicitDefEqProofs [ac186, hli, h1, go_sem, -List.set_cons_succ, -List.set_cons_zero]
    refine qcall_pure c1 hf (readA_re _ _) ?_
    cases r with
    | bad e =>
      have he : e ≤ s.length := hpost
      have hneg : (-1 - (e : Int)) < 0 := by omega
      simp -implicitDefEqProofs [readA, hneg, row_mk, clA, zCl, Cl.row, Tm.k, Tm.n, Tm.s, Tm.kids, hf, go_sem, -List.set_cons_succ, -List.set_cons_zero]
    | ok us j =>
      obtain ⟨g1, g2, t, rfl, g3⟩ := hpost
      obtain ⟨k, n, nm, l⟩ := t
      have hj0 : ¬ (j : Int) < 0 := by omega
      have hj1 : inR .i64 ((j : Int) + 1) := small_i64 (by omega) (by omega)
      have hj2 : inR .i64 ((j : Int) + 2) := small_i64 (by omega) (by omega)
      simp -implicitDefEqProofs [readA, Rs.tm, hj0, row_mk, hf, go_sem, -List.set_cons_succ, -List.set_cons_zero]
      refine qcall_pure (sign_calls s hs j (by omega) 58) hf rfl ?_
      have cd2 := sign_calls s hs (j + 1) (by omega) 45
      simp only [Int.natCast_add, Int.cast_ofNat_Int] at cd2
      cases hsg : sgn s j 58 with
      | false =>
        simp -implicitDefEqProofs [hj1, hf, hl1, hli, go_sem, -List.set_cons_succ, -List.set_cons_zero]
        have hft : (⟨.mk k n nm l, []⟩ : Cl).fits := ⟨g3, by simp, by simp⟩
        have cf := fmtC_calls _ hft
        have cc := clCopy_calls _ hft
        simp only [Cl.row, Tm.k, Tm.n, Tm.s, Tm.kids, List.map_cons, List.map_nil] at cf cc
        refine ⟨fun he => ⟨he, ?_⟩, fun he => ?_⟩
        · have he2 : j + 1 = s.length := by omega
          refine qcall_pure (sign_calls s hs j (by omega) 46) hf rfl ?_
          cases hs4 : sgn s j 46 with
          | false => simp -implicitDefEqProofs [clauseB, hs4, clA, zCl, Cl.row, Tm.k, Tm.n, Tm.s, Tm.kids, hf, go_sem, -List.set_cons_succ, -List.set_cons_zero]
          | true =>
            simp -implicitDefEqProofs [hf, go_sem, -List.set_cons_succ, -List.set_cons_zero]
            refine qcall_pure cf hf rfl ?_
            cases hv : Cl.validB ⟨.mk k n nm l, []⟩ with
            | false =>
              have hne : ¬ ([] : List UInt8) = s := fun h => by
                rw [← h] at he2
                simp at he2
              have hne2 : ¬ s = ([] : List UInt8) := fun h => hne h.symm
              simp -implicitDefEqProofs [clauseB, hs4, hv, hne, hne2, clA, zCl, Cl.row, Tm.k, Tm.n, Tm.s, Tm.kids, hf, go_sem, -List.set_cons_succ, -List.set_cons_zero]
            | true =>
              simp -implicitDefEqProofs [hf, go_sem, -List.set_cons_succ, -List.set_cons_zero]
              refine ⟨fun hw => ?_, fun hw => ?_⟩
              · simp -implicitDefEqProofs [clauseB, hs4, hv, hw, he2, clA, zCl, Cl.row, Tm.k, Tm.n, Tm.s, Tm.kids, hf, go_sem, -List.set_cons_succ, -List.set_cons_zero]
              · refine qcall_pure cc hf (by simp [A.re, C.re]) ?_
                simp -implicitDefEqProofs [clauseB, hs4, hv, hw, he2, clA, zCl, Cl.row, Tm.k, Tm.n, Tm.s, Tm.kids, hf, go_sem, -List.set_cons_succ, -List.set_cons_zero]
        · have he2 : ¬ j + 1 = s.length := by omega
          simp [clauseB, he2, clA, zCl, Cl.row, Tm.k, Tm.n, Tm.s, Tm.kids]
      | true =>
        simp -implicitDefEqProofs [hj1, hf, go_sem, -List.set_cons_succ, -List.set_cons_zero]
        refine qcall_pure cd2 hf rfl ?_
        cases hsg2 : sgn s (j + 1) 45 with
        | false =>
          simp -implicitDefEqProofs [hf, hl1, hli, go_sem, -List.set_cons_succ, -List.set_cons_zero]
          have hft : (⟨.mk k n nm l, []⟩ : Cl).fits := ⟨g3, by simp, by simp⟩
          have cf := fmtC_calls _ hft
          have cc := clCopy_calls _ hft
          simp only [Cl.row, Tm.k, Tm.n, Tm.s, Tm.kids, List.map_cons, List.map_nil] at cf cc
          refine ⟨fun he => ⟨he, ?_⟩, fun he => ?_⟩
          · have he2 : j + 1 = s.length := by omega
            refine qcall_pure (sign_calls s hs j (by omega) 46) hf rfl ?_
            cases hs4 : sgn s j 46 with
            | false => simp -implicitDefEqProofs [clauseB, hs4, clA, zCl, Cl.row, Tm.k, Tm.n, Tm.s, Tm.kids, hf, go_sem, -List.set_cons_succ, -List.set_cons_zero]
            | true =>
              simp -implicitDefEqProofs [hf, go_sem, -List.set_cons_succ, -List.set_cons_zero]
              refine qcall_pure cf hf rfl ?_
              cases hv : Cl.validB ⟨.mk k n nm l, []⟩ with
              | false =>
                have hne : ¬ ([] : List UInt8) = s := fun h => by
                  rw [← h] at he2
                  simp at he2
                have hne2 : ¬ s = ([] : List UInt8) := fun h => hne h.symm
                simp -implicitDefEqProofs [clauseB, hs4, hv, hne, hne2, clA, zCl, Cl.row, Tm.k, Tm.n, Tm.s, Tm.kids, hf, go_sem, -List.set_cons_succ, -List.set_cons_zero]
              | true =>
                simp -implicitDefEqProofs [hf, go_sem, -List.set_cons_succ, -List.set_cons_zero]
                refine ⟨fun hw => ?_, fun hw => ?_⟩
                · simp -implicitDefEqProofs [clauseB, hs4, hv, hw, he2, clA, zCl, Cl.row, Tm.k, Tm.n, Tm.s, Tm.kids, hf, go_sem, -List.set_cons_succ, -List.set_cons_zero]
                · refine qcall_pure cc hf (by simp [A.re, C.re]) ?_
                  simp -implicitDefEqProofs [clauseB, hs4, hv, hw, he2, clA, zCl, Cl.row, Tm.k, Tm.n, Tm.s, Tm.kids, hf, go_sem, -List.set_cons_succ, -List.set_cons_zero]
          · have he2 : ¬ j + 1 = s.length := by omega
            simp [clauseB, he2, clA, zCl, Cl.row, Tm.k, Tm.n, Tm.s, Tm.kids]
        | true =>
          have hjl := sgn_lt hsg2
          have cg := l4Goals_calls s hs (j + 2) (by omega)
          simp only [Int.natCast_add, Int.cast_ofNat_Int] at cg
          simp -implicitDefEqProofs [hj2, hf, go_sem, -List.set_cons_succ, -List.set_cons_zero]
          cases hg : goalsR s 7 (j + 2) with
          | none =>
            rw [hg] at cg
            refine qcall_pure cg hf (by simp [goalsA, A.re, A.res, C.re]) ?_
            have hm : ¬ (-1 : Int) = (s.length : Int) - 1 := by omega
            simp -implicitDefEqProofs [goalsA, hf, hl1, hli, hm, clA, zCl, Cl.row, Tm.k, Tm.n, Tm.s, Tm.kids, go_sem, -List.set_cons_succ, -List.set_cons_zero]
          | some q =>
            obtain ⟨b, e⟩ := q
            rw [hg] at cg
            obtain ⟨q1, q2, q3⟩ := goalsR_ok2 s hs (j + 2) (by omega) hg
            refine qcall_pure cg hf (by simp [goalsA, A.re, A.res, C.re]) ?_
            simp -implicitDefEqProofs [goalsA, hf, hl1, hli, go_sem, -List.set_cons_succ, -List.set_cons_zero]
            have hft : (⟨.mk k n nm l, b⟩ : Cl).fits := ⟨g3, by show b.length ≤ 1048576; omega, q3⟩
            have cf := fmtC_calls _ hft
            have cc := clCopy_calls _ hft
            simp only [Cl.row, Tm.k, Tm.n, Tm.s, Tm.kids, List.map_cons, List.map_nil] at cf cc
            refine ⟨fun he => ⟨he, ?_⟩, fun he => ?_⟩
            · have he2 : e + 1 = s.length := by omega
              refine qcall_pure (sign_calls s hs e (by omega) 46) hf rfl ?_
              cases hs4 : sgn s e 46 with
              | false => simp -implicitDefEqProofs [clauseB, hs4, clA, zCl, Cl.row, Tm.k, Tm.n, Tm.s, Tm.kids, hf, go_sem, -List.set_cons_succ, -List.set_cons_zero]
              | true =>
                simp -implicitDefEqProofs [hf, go_sem, -List.set_cons_succ, -List.set_cons_zero]
                refine qcall_pure cf hf rfl ?_
                cases hv : Cl.validB ⟨.mk k n nm l, b⟩ with
                | false =>
                  have hne : ¬ ([] : List UInt8) = s := fun h => by
                    rw [← h] at he2
                    simp at he2
                  have hne2 : ¬ s = ([] : List UInt8) := fun h => hne h.symm
                  simp -implicitDefEqProofs [clauseB, hs4, hv, hne, hne2, clA, zCl, Cl.row, Tm.k, Tm.n, Tm.s, Tm.kids, hf, go_sem, -List.set_cons_succ, -List.set_cons_zero]
                | true =>
                  simp -implicitDefEqProofs [hf, go_sem, -List.set_cons_succ, -List.set_cons_zero]
                  refine ⟨fun hw => ?_, fun hw => ?_⟩
                  · simp -implicitDefEqProofs [clauseB, hs4, hv, hw, he2, clA, zCl, Cl.row, Tm.k, Tm.n, Tm.s, Tm.kids, hf, go_sem, -List.set_cons_succ, -List.set_cons_zero]
                  · refine qcall_pure cc hf (by simp [A.re, C.re]) ?_
                    simp -implicitDefEqProofs [clauseB, hs4, hv, hw, he2, clA, zCl, Cl.row, Tm.k, Tm.n, Tm.s, Tm.kids, hf, go_sem, -List.set_cons_succ, -List.set_cons_zero]
            · have he2 : ¬ e + 1 = s.length := by omega
              simp [clauseB, he2, clA, zCl, Cl.row, Tm.k, Tm.n, Tm.s, Tm.kids]
end Go.Proofs.YtbblefjbgbocoaaGreatDoor

/-
  Programs as the reference reads them.
  Conditions: none.
-/
open Go Go.AM Go.Proofs
namespace Go.Proofs.YtbblefjbgbocoaaGreatDoor
open Go.ChangeShapes Go.WideShapes Go.ChangeAt Go.RowKit
set_option linter.unusedVariables false
set_option linter.unusedSimpArgs false
set_option maxRecDepth 100000
-- 153 loop.example/prologserver/spec.ParseProgram params 1 ntmps 48
-- loop head live: [4,5,6]
def ac153 : Cd := .seq (.region [⟨(some 2),.mv (.k (.c (.full []))),none⟩,
 ⟨(some 3),.mv (.k (.c (.d (.bool false)))),none⟩] [2,3])
 (.seq (.region [⟨(some 9),.buildSlice 5 0 [(.int .i64 0),(.int .i64 0),(.str []),(.sl []),(.sl [])] [],none⟩,
 ⟨(some 4),.mv (.t 9),none⟩] [9])
 (.seq (.region [⟨(some 10),.mv (.t 0),none⟩,
 ⟨(some 11),.qcall 56 [(.t 10),(.k (.c (.d (.int .u8 10))))],none⟩,
 ⟨(some 5),.mv (.t 11),none⟩] [0,10,11])
 (.seq (.seq (.region [⟨(some 12),.mv (.t 5),none⟩,
 ⟨(some 13),.len 1 (.t 12),none⟩,
 ⟨(some 14),.bin .gtr (.t 13) (.k (.c (.d (.int .i64 21)))),none⟩,
 ⟨(some 15),.mv (.t 14),none⟩,
 ⟨(some 16),.mv (.t 5),some (15,false)⟩,
 ⟨(some 17),.mv (.t 5),some (15,false)⟩,
 ⟨(some 18),.len 1 (.t 17),some (15,false)⟩,
 ⟨(some 19),.bin .sub (.t 18) (.k (.c (.d (.int .i64 1)))),some (15,false)⟩,
 ⟨(some 20),.indexAddr 1 (.t 16) (.t 19),some (15,false)⟩,
 ⟨(some 21),.load none (.t 20),some (15,false)⟩,
 ⟨(some 22),.bin .neq (.t 21) (.k (.c (.d (.str [])))),some (15,false)⟩,
 ⟨(some 23),.pick (.t 15) (.k (.c (.d (.bool true)))) (.t 22),none⟩] [12,13,14,15,16,17,18,19,20,21,22])
 (.cond (.t 23)
 (.seq (.region [⟨(some 24),.mv (.t 4),none⟩,
 ⟨(some 2),.mv (.t 24),none⟩,
 ⟨(some 3),.mv (.k (.c (.d (.bool false)))),none⟩] [4,5,23,24])
 (.ret))
 (.skip)))
 (.seq (.seq (.region [⟨(some 6),.mv (.k (.c (.d (.int .i64 0)))),none⟩] [2,3,23])
 (.block 0 (.loop (.seq (.seq (.region [⟨(some 25),.mv (.t 6),none⟩,
 ⟨(some 26),.bin .add (.t 25) (.k (.c (.d (.int .i64 1)))),none⟩,
 ⟨(some 27),.mv (.t 5),none⟩,
 ⟨(some 28),.len 1 (.t 27),none⟩,
 ⟨(some 29),.bin .lss (.t 26) (.t 28),none⟩] [25,26,27,28])
 (.cond (.t 29)
 (.skip)
 (.exit 0)))
 (.seq (.block 1 (.seq (.region [⟨(some 33),.mv (.t 5),none⟩,
 ⟨(some 34),.mv (.t 6),none⟩,
 ⟨(some 35),.indexAddr 1 (.t 33) (.t 34),none⟩,
 ⟨(some 36),.load none (.t 35),none⟩,
 ⟨(some 37),.qcall 186 [(.t 36)],none⟩,
 ⟨(some 32),.mv (.t 37),none⟩,
 ⟨(some 38),.extract 0 (.t 32),none⟩,
 ⟨(some 39),.extract 1 (.t 32),none⟩,
 ⟨(some 7),.alloc [(.d (.int .i64 0)),(.d (.int .i64 0)),(.d (.str [])),(.full []),(.full [])],none⟩,
 ⟨none,.store 5 (.t 7) (.t 38),none⟩,
 ⟨(some 8),.mv (.t 39),none⟩] [29,32,33,34,35,36,37,38,39])
 (.seq (.seq (.region [⟨(some 40),.mv (.t 8),none⟩,
 ⟨(some 41),.un .not (.t 40),none⟩] [8,40])
 (.cond (.t 41)
 (.seq (.region [⟨(some 42),.buildSlice 5 0 [(.int .i64 0),(.int .i64 0),(.str []),(.sl []),(.sl [])] [],none⟩,
 ⟨(some 2),.mv (.t 42),none⟩,
 ⟨(some 3),.mv (.k (.c (.d (.bool false)))),none⟩] [4,5,6,7,41,42])
 (.ret))
 (.skip)))
 (.region [⟨(some 43),.mv (.t 4),none⟩,
 ⟨(some 44),.load (some 5) (.t 7),none⟩,
 ⟨(some 45),.buildSlice 5 1 [(.int .i64 0),(.int .i64 0),(.str []),(.sl []),(.sl [])] [(0,(.t 44))],none⟩,
 ⟨(some 46),.append false 5 (.t 43) (.t 45),none⟩,
 ⟨(some 4),.mv (.t 46),none⟩] [2,3,7,41,43,44,45,46]))))
 (.region [⟨(some 30),.mv (.t 6),none⟩,
 ⟨(some 31),.bin .add (.t 30) (.k (.c (.d (.int .i64 1)))),none⟩,
 ⟨(some 6),.mv (.t 31),none⟩] [30,31]))))))
 (.seq (.region [⟨(some 47),.mv (.t 4),none⟩,
 ⟨(some 2),.mv (.t 47),none⟩,
 ⟨(some 3),.mv (.k (.c (.d (.bool true)))),none⟩] [4,47])
 (.ret))))))
theorem ac153_ok : cFunc Tryz.prog [1000056,1000186] [(0,[2,3],[]),(1,[9],[]),(2,[0,10,11],[]),(3,[12,13,14,15,16,17,18,19,20,21,22],[]),(4,[4,5,23,24],[]),(5,[2,3,23],[]),(6,[25,26,27,28],[]),(8,[29,32,33,34,35,36,37,38,39],[]),(9,[8,40],[]),(10,[4,5,6,7,41,42],[]),(11,[2,3,7,41,43,44,45,46],[]),(7,[30,31],[]),(12,[4,47],[])] Tryz.f153 = some (ac153,[.tmp 2,.tmp 3],48) := by kernel_rfl
theorem linesR_cons (W : Tm → List UInt8) (a b : List UInt8) (l : List (List UInt8)) : linesR W (a :: b :: l) = match clauseR W a, linesR W (b :: l) with | some c, some p => some (c :: p) | _, _ => none := rfl
def progA (x : List Cl × Bool) : A := .tup [.c (.d (.sl (x.1.map Cl.row))), .c (.d (.bool x.2))]
def pre (out : List Cl) : Option (List Cl) → List Cl × Bool
  | some p => (out ++ p, true)
  | none => ([], false)
theorem cut_mem (c : UInt8) : ∀ s : List UInt8, ∀ l ∈ cutAt c s, l.length ≤ s.length
  | [], l, h => by
    simp [cutAt] at h
    subst h
    simp
  | b :: s, l, h => by
    have ih := cut_mem c s
    rw [cutAt] at h
    split at h
    · rcases List.mem_cons.1 h with rfl | h
      · simp
      · have := ih l h; simp; omega
    · cases hc : cutAt c s with
      | nil => exact absurd hc (cutAt_ne c s)
      | cons x r =>
        rw [hc] at h ih
        rcases List.mem_cons.1 h with rfl | h
        · have := ih x (by simp); simp; omega
        · have := ih l (by simp [h]); simp; omega
theorem cutAt_len (c : UInt8) : ∀ s : List UInt8, (cutAt c s).length ≤ s.length + 1
  | [] => by simp [cutAt]
  | b :: s => by
    have ih := cutAt_len c s
    rw [cutAt]
    split
    · simp; omega
    · cases hc : cutAt c s with
      | nil => simp
      | cons x r => rw [hc] at ih; simp at ih ⊢; omega
set_option maxHeartbeats 1600000 in
theorem ppSpec_calls (s : List UInt8) (hs : s.length ≤ 1000000) (H : Heap) : ACalls Tryz.prog 153 [.c (.d (.str s))] H (fun r H' => H' = H ∧ r = progA (progR Tm.wr s)) := by
  refine acalls Tryz.func153 (by kernel_rfl) ac153_ok fun hf => ?_
  have c1 := cut_calls s (by omega) 10
  have e10 : ((10 : UInt8).toNat : Int) = 10 := rfl
  rw [e10] at c1
  have hmem := cut_mem 10 s
  have hlen := cutAt_len 10 s
  have hne := cutAt_ne 10 s
  unfold progR
  generalize cutAt 10 s = L at *
  have hll : inR .i64 (L.length : Int) := small_i64 (by omega) (by omega)
  have hl1 : inR .i64 ((L.length : Int) - 1) := small_i64 (by omega) (by omega)
  have hlp : 1 ≤ L.length := by cases L with
    | nil => exact absurd rfl hne
    | cons a l => simp
  simp -implicitDefEqProofs [ac153, go_sem, -List.set_cons_succ, -List.set_cons_zero]
  refine qcall_pure c1 hf rfl ?_
  by_cases h21 : 21 < L.length
  · have h21' : (21 : Int) < L.length := by omega
    simp -implicitDefEqProofs [hll, hl1, h21, h21', progA, hf, go_sem, -List.set_cons_succ, -List.set_cons_zero]
    refine row_off [.str []] ?_
    simp -implicitDefEqProofs [hf, go_sem, -List.set_cons_succ, -List.set_cons_zero]
  · have h21' : ¬ (21 : Int) < L.length := by omega
    simp -implicitDefEqProofs [hll, hl1, h21, h21', hf, go_sem, -List.set_cons_succ, -List.set_cons_zero]
    have hlast : L[L.length - 1]? = some (L.getLastD []) := by
      cases L with
      | nil => exact absurd rfl hne
      | cons a l => rw [← List.getLast?_eq_getElem?]; simp [List.getLastD_eq_getLast?, List.getLast?_cons]
    refine row_int [.str (L.getLastD [])] (by omega) (by rw [show ((L.length : Int) - 1).toNat = L.length - 1 by omega, List.getElem?_map, hlast]; rfl) rfl ?_
    cases hlx : L.getLastD [] with
    | cons y ys =>
      have hlx2 : ¬ L.getLast?.getD [] = [] := by rw [List.getLastD_eq_getLast?] at hlx; rw [hlx]; simp
      simp -implicitDefEqProofs [progA, hlx, hlx2, hf, go_sem, -List.set_cons_succ, -List.set_cons_zero]
    | nil =>
      have hlx2 : L.getLast?.getD [] = [] := by rw [List.getLastD_eq_getLast?] at hlx; exact hlx
      simp -implicitDefEqProofs [hlx2, hf, go_sem, -List.set_cons_succ, -List.set_cons_zero]
      refine loop_enter (St.le_token 4 5 rfl) ?_
      have hres : linesR Tm.wr L = linesR Tm.wr (L.drop 0) := rfl
      refine loop_set (σ := Nat × List Cl) (fun x => [(6, .c (.d (.int .i64 x.1))), (4, .c (.own (.l 0) x.2.length (x.2.map Cl.row)))]) (fun _ => H) (fun x => [.grow x.2.length 5])
        (fun x => x.1 + 1 ≤ L.length ∧ x.2.length = x.1 ∧ pre x.2 (linesR Tm.wr (L.drop x.1)) = pre [] (linesR Tm.wr L)) (fun x => L.length - x.1) (0, []) (by simp [setAll]) ⟨hlp, rfl, rfl⟩ ?_
      rintro ⟨i, out⟩ ⟨hi, hol, hpre⟩
      simp only at hi hol hpre
      have hadd : inR .i64 ((i : Int) + 1) := small_i64 (by omega) (by omega)
      have hgoal : (match linesR Tm.wr L with | some p => (p, true) | none => ([], false)) = pre [] (linesR Tm.wr L) := by
        cases linesR Tm.wr L <;> rfl
      have hg2 : ∀ r, r = progA (pre [] (linesR Tm.wr L)) → r = progA (match linesR Tm.wr L with | some p => (p, true) | none => ([], false)) := fun r h => by rw [hgoal]; exact h
      simp -implicitDefEqProofs [setAll, hll, hadd, go_sem, -List.set_cons_succ, -List.set_cons_zero]
      refine ⟨fun hlt => ?_, fun hge => ?_⟩
      · have hlt2 : i < L.length := by omega
        have hdr : L.drop i = L[i] :: L[i + 1] :: L.drop (i + 2) := by
          rw [List.drop_eq_getElem_cons hlt2, List.drop_eq_getElem_cons (by omega : i + 1 < L.length)]
        have hdr2 : L.drop (i + 1) = L[i + 1] :: L.drop (i + 2) := List.drop_eq_getElem_cons (by omega)
        rw [hdr, linesR_cons, ← hdr2] at hpre
        have hll2 : (L[i]).length ≤ 1000000 := by
          have := hmem _ (List.getElem_mem hlt2)
          omega
        refine row_of hlt2 rfl ?_
        simp -implicitDefEqProofs [strRow, hf, go_sem, -List.set_cons_succ, -List.set_cons_zero]
        refine qcall_pure (pcSpec_calls L[i] hll2) hf (by cases clauseR Tm.wr L[i] <;> simp [clA, A.re, A.res, C.re, re_d]) ?_
        cases hc : clauseR Tm.wr L[i] with
        | none =>
          simp -implicitDefEqProofs [clA, zCl, Cl.row, Tm.k, Tm.n, Tm.s, Tm.kids, hf, go_sem, -List.set_cons_succ, -List.set_cons_zero]
          refine hg2 _ ?_
          rw [← hpre, hc]
          cases linesR Tm.wr (L.drop (i + 1)) <;> rfl
        | some c =>
          rw [hc] at hpre
          simp -implicitDefEqProofs [clA, crow_len, take_crow, toDs_map, hadd, hf, go_sem, -List.set_cons_succ, -List.set_cons_zero]
          refine ⟨allLen_map crow_len, by unfold maxApp; omega, ?_⟩
          refine loop_less (i + 1, out ++ [c]) (St.le_cut [_] ?_ (by simp [Sl.le, A.le_refl_iff, A.le_u_iff, As.lo, A.lo, C.lo, Ref.lo, Cs.lo, Obs.lo, Ob.lo, setAll, and_true, true_and, List.length_nil, List.length_cons]) (by simp; rfl) (by simp [Sl.le, A.le_refl_iff, A.le_u_iff, As.lo, A.lo, C.lo, Ref.lo, Cs.lo, Obs.lo, Ob.lo, setAll, and_true, true_and, List.length_nil, List.length_cons])) ⟨by dsimp only; omega, by simp; omega, ?_⟩ (by show L.length - (i + 1) < L.length - i; omega)
          · simp [setAll, Sl.le, A.le_refl_iff, A.le_u_iff, As.lo, A.lo, C.lo, Ref.lo, Cs.lo, Obs.lo, Ob.lo, setAll, and_true, true_and, List.length_nil, List.length_cons]
          · rw [← hpre]
            simp only
            cases linesR Tm.wr (L.drop (i + 1)) with
            | none => rfl
            | some p => simp [pre]
      · refine hg2 _ ?_
        obtain rfl : i = L.length - 1 := by omega
        have hd1 : L.drop (L.length - 1) = [L.getLastD []] := by
          rw [List.drop_eq_getElem_cons (by omega)]
          have := hlast
          rw [List.getElem?_eq_getElem (by omega)] at this
          rw [Option.some.inj this, List.drop_eq_nil_of_le (by omega)]
        rw [← hpre, hd1]
        simp [linesR, pre, progA]
end Go.Proofs.YtbblefjbgbocoaaGreatDoor

/-
  Terms that are drawn: copies that are changed.
  Conditions: none.
-/
open Go Go.AM Go.Proofs
namespace Go.Proofs.YtbblefjbgbocoaaGreatDoor
open Go.ChangeShapes Go.WideShapes Go.ChangeAt Go.RowKit
set_option linter.unusedVariables false
set_option linter.unusedSimpArgs false
set_option maxRecDepth 100000
-- 123 loop.example/prologserver/spec.l1Some params 1 ntmps 8
def ac123 : Cd := .seq (.region [⟨(some 2),.alloc [(.d (.int .i64 0)),(.d (.int .i64 0)),(.d (.str [])),(.full [])],none⟩] [])
 (.seq (.region [⟨(some 3),.mv (.t 0),none⟩,
 ⟨(some 4),.mv (.t 0),none⟩,
 ⟨(some 5),.buildSlice 1 4 [(.int .i64 0)] [(0,(.k (.c (.d (.int .i64 3))))),(1,(.k (.c (.d (.int .i64 2))))),(2,(.k (.c (.d (.int .i64 4))))),(3,(.k (.c (.d (.int .i64 1)))))],none⟩,
 ⟨(some 6),.call false 90 [(.t 4),(.t 5)],none⟩,
 ⟨(some 7),.call false 73 [(.t 3),(.t 6)],none⟩,
 ⟨none,.store 4 (.t 2) (.t 7),none⟩] [0,3,4,5,6,7])
 (.ret))
theorem ac123_ok : cFunc Tryz.prog [] [(0,[],[]),(1,[0,3,4,5,6,7],[])] Tryz.f123 = some (ac123,[.cell 2 (some 4)],8) := by kernel_rfl
-- 122 loop.example/prologserver/spec.l1Mutate params 2 ntmps 51
-- loop head live: [4,5]
-- loop head live: [4,5,6]
def ac122 : Cd := .seq (.region [⟨(some 3),.box (.t 1),none⟩,
 ⟨(some 4),.alloc [(.d (.int .i64 0)),(.d (.int .i64 0)),(.d (.str [])),(.full [])],none⟩] [1])
 (.seq (.region [⟨(some 7),.load (some 4) (.t 3),none⟩,
 ⟨(some 8),.call false 59 [(.t 7)],none⟩,
 ⟨(some 5),.alloc [(.d (.int .i64 0)),(.d (.int .i64 0)),(.d (.str [])),(.full [])],none⟩,
 ⟨none,.store 4 (.t 5) (.t 8),none⟩] [3,7,8])
 (.seq (.seq (.region [⟨(some 9),.mv (.t 0),none⟩,
 ⟨(some 10),.call false 43 [(.t 9),(.k (.c (.d (.int .i64 50))))],none⟩] [9])
 (.block 0 (.seq (.region [⟨(some 12),.bin .eql (.t 10) (.k (.c (.d (.int .i64 0)))),none⟩,
 ⟨(some 11),.mv (.t 12),none⟩] [12])
 (.cond (.t 11)
 (.region [⟨(some 13),.mv (.t 0),none⟩,
 ⟨(some 14),.buildSlice 1 5 [(.int .i64 0)] [(0,(.k (.c (.d (.int .i64 0))))),(1,(.k (.c (.d (.int .i64 4))))),(2,(.k (.c (.d (.int .i64 1))))),(3,(.k (.c (.d (.int .i64 2))))),(4,(.k (.c (.d (.int .i64 3)))))],none⟩,
 ⟨(some 15),.call false 90 [(.t 13),(.t 14)],none⟩,
 ⟨(some 16),.fieldAddr 0 (.t 5),none⟩,
 ⟨none,.store 1 (.t 16) (.t 15),none⟩] [0,10,11,13,14,15,16])
 (.seq (.region [⟨(some 18),.bin .eql (.t 10) (.k (.c (.d (.int .i64 1)))),none⟩,
 ⟨(some 17),.mv (.t 18),none⟩] [11,18])
 (.cond (.t 17)
 (.region [⟨(some 19),.mv (.t 0),none⟩,
 ⟨(some 20),.buildSlice 1 5 [(.int .i64 0)] [(0,(.k (.c (.d (.int .i64 26))))),(1,(.k (.c (.d (.int .i64 1000))))),(2,(.k (.c (.d (.int .i64 (-1000)))))),(3,(.k (.c (.d (.int .i64 (-1)))))),(4,(.k (.c (.d (.int .i64 1)))))],none⟩,
 ⟨(some 21),.call false 90 [(.t 19),(.t 20)],none⟩,
 ⟨(some 22),.fieldAddr 1 (.t 5),none⟩,
 ⟨none,.store 1 (.t 22) (.t 21),none⟩] [0,10,17,19,20,21,22])
 (.seq (.region [⟨(some 24),.bin .eql (.t 10) (.k (.c (.d (.int .i64 2)))),none⟩,
 ⟨(some 23),.mv (.t 24),none⟩] [17,24])
 (.cond (.t 23)
 (.region [⟨(some 25),.mv (.t 0),none⟩,
 ⟨(some 26),.buildSlice 1 5 [(.str [])] [(0,(.k (.c (.d (.str []))))),(1,(.k (.c (.d (.str [88]))))),(2,(.k (.c (.d (.str [116,111,111,108,111,110,103]))))),(3,(.k (.c (.d (.str [195,169]))))),(4,(.k (.c (.d (.str [97])))))],none⟩,
 ⟨(some 27),.call false 91 [(.t 25),(.t 26)],none⟩,
 ⟨(some 28),.fieldAddr 2 (.t 5),none⟩,
 ⟨none,.store 1 (.t 28) (.t 27),none⟩] [0,10,23,25,26,27,28])
 (.seq (.region [⟨(some 30),.bin .eql (.t 10) (.k (.c (.d (.int .i64 3)))),none⟩,
 ⟨(some 29),.mv (.t 30),none⟩] [0,23,30])
 (.cond (.t 29)
 (.block 1 (.loop (.seq (.seq (.region [⟨(some 31),.fieldAddr 3 (.t 5),none⟩,
 ⟨(some 32),.load none (.t 31),none⟩,
 ⟨(some 33),.len 1 (.t 32),none⟩,
 ⟨(some 34),.bin .leq (.t 33) (.k (.c (.d (.int .i64 4)))),none⟩] [31,32,33])
 (.cond (.t 34)
 (.skip)
 (.exit 1)))
 (.block 2 (.region [⟨(some 35),.fieldAddr 3 (.t 5),none⟩,
 ⟨(some 36),.load none (.t 35),none⟩,
 ⟨(some 37),.qcall 125 [(.k (.c (.d (.int .i64 1))))],none⟩,
 ⟨(some 38),.buildSlice 4 1 [(.int .i64 0),(.int .i64 0),(.str []),(.sl [])] [(0,(.t 37))],none⟩,
 ⟨(some 39),.append false 4 (.t 36) (.t 38),none⟩,
 ⟨(some 40),.fieldAddr 3 (.t 5),none⟩,
 ⟨none,.store 1 (.t 40) (.t 39),none⟩] [34,35,36,37,38,39,40])))))
 (.seq (.region [⟨(some 42),.bin .eql (.t 10) (.k (.c (.d (.int .i64 4)))),none⟩,
 ⟨(some 41),.mv (.t 42),none⟩] [10,29,42])
 (.cond (.t 41)
 (.seq (.region [⟨(some 6),.mv (.k (.c (.d (.int .i64 0)))),none⟩] [41])
 (.block 3 (.loop (.seq (.seq (.region [⟨(some 43),.mv (.t 6),none⟩,
 ⟨(some 44),.bin .lss (.t 43) (.k (.c (.d (.int .i64 30)))),none⟩] [43])
 (.cond (.t 44)
 (.skip)
 (.exit 3)))
 (.seq (.block 4 (.region [⟨(some 47),.load (some 4) (.t 5),none⟩,
 ⟨(some 48),.buildSlice 4 1 [(.int .i64 0),(.int .i64 0),(.str []),(.sl [])] [(0,(.t 47))],none⟩,
 ⟨(some 49),.qcall 96 [(.k (.c (.d (.str [115])))),(.t 48)],none⟩,
 ⟨none,.store 4 (.t 5) (.t 49),none⟩] [44,47,48,49]))
 (.region [⟨(some 45),.mv (.t 6),none⟩,
 ⟨(some 46),.bin .add (.t 45) (.k (.c (.d (.int .i64 1)))),none⟩,
 ⟨(some 6),.mv (.t 46),none⟩] [45,46]))))))
 (.skip)))))))))))))
 (.seq (.region [⟨(some 50),.load (some 4) (.t 5),none⟩,
 ⟨none,.store 4 (.t 4) (.t 50),none⟩] [5,41,50])
 (.ret))))
theorem ac122_ok : cFunc Tryz.prog [1000096,1000125] [(0,[1],[]),(1,[3,7,8],[]),(2,[9],[]),(3,[12],[]),(4,[0,10,11,13,14,15,16],[]),(5,[11,18],[]),(6,[0,10,17,19,20,21,22],[]),(7,[17,24],[]),(8,[0,10,23,25,26,27,28],[]),(9,[0,23,30],[]),(10,[31,32,33],[]),(11,[34,35,36,37,38,39,40],[0,1,2,3,4,5,6]),(12,[10,29,42],[]),(13,[41],[]),(14,[43],[]),(16,[44,47,48,49],[]),(15,[45,46],[]),(17,[5,41,50],[])] Tryz.f122 = some (ac122,[.cell 4 (some 4)],51) := by kernel_rfl
theorem Draws.mono {f : FuncId} {xs : List A} {N N' : Int} {R : A → Prop} (h : Draws f xs N R) (hN : N ≤ N') : Draws f xs N' R := fun c p H i hc hp hp1 hi =>
  (h c p H i hc hp (by omega) hi).mono fun r H' ⟨h1, p', h2, h3, h4⟩ => ⟨h1, p', h2, by omega, h4⟩
theorem l1Some_draws : Draws 123 [] 1281 TmR := fun c p H i hc hp hp1 hi => by
  refine acalls Tryz.func123 (by kernel_rfl) ac123_ok fun hf => ?_
  simp only [List.length_set] at hf
  have hf0 : ∀ q, Obs.fits H.length 0 (H.set i (Rd c q)) := fun q => fits_reset (b := Rd c q) hf ⟨trivial, trivial, trivial⟩
  simp -implicitDefEqProofs [ac123, hf0, go_sem, -List.set_cons_succ, -List.set_cons_zero]
  refine call_drawE (num_draws [3, 2, 4, 1] (by decide)) hc (by omega) (by omega) hi (by simp [Ob.re, C.re]) (fun r ⟨n, _, hn⟩ => by subst hn; rfl) (hf0 _) ?_
  rintro _ p1 ⟨n, hn, rfl⟩ h1 h2
  obtain ⟨d, rfl, hd⟩ : ∃ d : Nat, n = (d : Int) ∧ d ≤ 4 := ⟨n.toNat, by simp at hn; omega, by simp at hn; omega⟩
  have hdr : Draws 73 [.c (.d (.int .i64 d))] 1280 TmR := (l1Draw_draws d (by omega)).mono (by
    have : 4 ^ d ≤ 4 ^ 4 := Nat.pow_le_pow_right (by omega) hd
    omega)
  simp -implicitDefEqProofs [hf0, go_sem, -List.set_cons_succ, -List.set_cons_zero]
  refine call_drawE hdr hc (by omega) (by omega) hi (by simp [Ob.re, C.re]) (fun r => TmR.re) (hf0 _) ?_
  rintro _ p2 ⟨t, rfl, ht⟩ h3 h4
  rw [row_eq]
  simp -implicitDefEqProofs [hf0, go_sem, -List.set_cons_succ, -List.set_cons_zero]
  exact ⟨⟨t, by rw [row_eq]; rfl, ht⟩, p2, by omega, by omega, rfl⟩
theorem copy_own (k n : Int) (s : List UInt8) (l : List Tm) (hfits : (Tm.mk k n s l).fits) (H : Heap) : ACalls Tryz.prog 59 [.agg ((Tm.mk k n s l).row.map .d)] H (fun r H' =>
    H' = H ++ [.cells [.d (.int .i64 k), .d (.int .i64 n), .d (.str s), .d (.sl (l.map Tm.row))], .cells [.d (.int .i64 k), .d (.int .i64 n), .d (.str s), .own (.e (H.length + 3)) l.length (l.map Tm.row)], .cells [.d (.int .i64 k), .d (.int .i64 n), .d (.str s), .own (.e (H.length + 3)) l.length (l.map Tm.row)], .grow l.length 4] ∧
    r = .agg [.d (.int .i64 k), .d (.int .i64 n), .d (.str s), .own (.e (H.length + 3)) l.length (l.map Tm.row)]) := by
  obtain ⟨hk, hn, hs, hl, hkids⟩ := hfits
  refine acallsK Tryz.func59 (by kernel_rfl) ac59_ok fun hf => ?_
  have hli : inR .i64 (l.length : Int) := small_i64 (by omega) (by omega)
  simp -implicitDefEqProofs [ac59, row_mk, hf, hli, go_sem, -List.set_cons_succ, -List.set_cons_zero]
  refine loop_enter (St.le_tokenC 2 3 4 rfl rfl) ?_
  refine loop_set (σ := Nat) (fun i => [(4, .c (.d (.int .i64 i)))]) (fun _ => H) (fun i => [.cells [.d (.int .i64 k), .d (.int .i64 n), .d (.str s), .d (.sl (l.map Tm.row))], .cells [.d (.int .i64 0), .d (.int .i64 0), .d (.str []), .full []], .cells [.d (.int .i64 k), .d (.int .i64 n), .d (.str s), .own (.l 3) i ((l.map Tm.row).take i)], .grow i 4])
    (fun i => i ≤ l.length) (fun i => l.length - i) 0 rfl (Nat.zero_le _) ?_
  intro i hi
  simp -implicitDefEqProofs [setAll, hli, go_sem, -List.set_cons_succ, -List.set_cons_zero]
  refine ⟨fun hlt => ?_, fun hge => ?_⟩
  · have hadd : inR .i64 ((i : Int) + 1) := small_i64 (by omega) (by omega)
    refine row_of hlt (row_len _) ?_
    simp -implicitDefEqProofs [row_len, take_row, pure_d, re_d, go_sem, -List.set_cons_succ, -List.set_cons_zero]
    refine qcall_pure (copy_calls l[i] (hkids _ (List.getElem_mem hlt))) hf (by simp [A.re, re_d]) ?_
    simp -implicitDefEqProofs [row_len, toDs_map, hadd, hf, Nat.min_eq_left hi, go_sem, -List.set_cons_succ, -List.set_cons_zero]
    refine ⟨fun r hr => allLen_map row_len r (List.mem_of_mem_take hr), by unfold maxApp; omega, ?_⟩
    refine loop_back (i + 1) ?_ hlt (by show l.length - (i + 1) < l.length - i; omega)
    simp [setAll, take_map_succ hlt]
  · have hil : i = l.length := by omega
    subst hil
    rw [show (l.map Tm.row).take l.length = l.map Tm.row from List.take_of_length_le (by simp)]
    simp -implicitDefEqProofs [hf, go_sem, -List.set_cons_succ, -List.set_cons_zero]
    refine finK_ret _ ⟨trivial, trivial⟩ rfl ?_
    simp [Ob.re, C.re, A.re, Ref.re]
theorem l1Mutate_draws (t : Tm) (ht : t.fits) : Draws 122 [.agg (t.row.map .d)] 2 TmR := fun c p H i hc hp hp1 hi => by
  obtain ⟨k, n, s, l⟩ := t
  refine acalls Tryz.func122 (by kernel_rfl) ac122_ok fun hf => ?_
  simp only [List.length_set] at hf
  have hf0 : ∀ q, Obs.fits H.length 0 (H.set i (Rd c q)) := fun q => fits_reset (b := Rd c q) hf ⟨trivial, trivial, trivial⟩
  have hf1 : ∀ q, Obs.fits (H.set i (Rd c q)).length 0 (H.set i (Rd c q)) := fun q => by simpa using hf0 q
  have hcopy := copy_own k n s l ht
  obtain ⟨hk, hn, hs, hl, hkids⟩ := ht
  rw [row_mk] at hcopy ⊢
  simp -implicitDefEqProofs [ac122, hf0, go_sem, -List.set_cons_succ, -List.set_cons_zero]
  have done : ∀ (t : Tm) (q : Int), p ≤ q → q ≤ p + 2 → t.fits → ∀ r, r = .agg (t.row.map .d) → Drew TmR 2 c p H i r (H.set i (Rd c q)) := fun t q a1 a2 a3 r hr => ⟨⟨t, hr, a3⟩, q, a1, a2, rfl⟩
  refine (hcopy _).mono fun r H' ⟨g1, g2⟩ => ⟨H.set i (Rd c p), [.cells [.d (.int .i64 k), .d (.int .i64 n), .d (.str s), .d (.sl (l.map Tm.row))], .cells [.d (.int .i64 0), .d (.int .i64 0), .d (.str []), .full []], .cells [.d (.int .i64 k), .d (.int .i64 n), .d (.str s), .d (.sl (l.map Tm.row))], .cells [.d (.int .i64 k), .d (.int .i64 n), .d (.str s), .own (.l 5) l.length (l.map Tm.row)], .cells [.d (.int .i64 k), .d (.int .i64 n), .d (.str s), .own (.l 5) l.length (l.map Tm.row)], .grow l.length 4],
    .agg [.d (.int .i64 k), .d (.int .i64 n), .d (.str s), .own (.l 5) l.length (l.map Tm.row)], by rw [g1]; simp [Ob.re, C.re, Ref.re], by simp, by simp, by simpa using hf0 p, by rw [g2]; simp [A.re, C.re, Ref.re], ?_⟩
  clear hcopy
  simp -implicitDefEqProofs [hf0, go_sem, -List.set_cons_succ, -List.set_cons_zero]
  refine call_drawE (pick_draws 50 (by omega)) hc (by omega) (by omega) hi (by simp [Ob.re, C.re, Ref.re]) (fun r => IntIn.re) (hf0 _) ?_
  rintro _ p1 ⟨m, rfl, m0, m1⟩ h1 h2
  simp -implicitDefEqProofs [hf0, go_sem, -List.set_cons_succ, -List.set_cons_zero]
  refine ⟨fun _ => ?_, fun _ => ⟨fun _ => ?_, fun _ => ⟨fun _ => ?_, fun _ => ⟨fun _ => ?_, fun _ => ⟨fun _ => ?_, fun _ => ?_⟩⟩⟩⟩⟩
  · refine call_drawE (num_draws [0, 4, 1, 2, 3] (by decide)) hc (by omega) (by omega) hi (by simp [Ob.re, C.re]) (fun r ⟨n, _, hn⟩ => by subst hn; rfl) (hf0 _) ?_
    rintro _ p2 ⟨x, hx, rfl⟩ h3 h4
    have hx : -1000 ≤ x ∧ x ≤ 1000 := by simp at hx; omega
    simp -implicitDefEqProofs [hf0, go_sem, -List.set_cons_succ, -List.set_cons_zero]
    exact done (.mk x n s l) p2 (by omega) (by omega) (.mk (small_i64 (by omega) (by omega)) hn hs hl hkids) _ (by simp [row_mk])
  · refine call_drawE (num_draws [26, 1000, -1000, -1, 1] (by decide)) hc (by omega) (by omega) hi (by simp [Ob.re, C.re]) (fun r ⟨n, _, hn⟩ => by subst hn; rfl) (hf0 _) ?_
    rintro _ p2 ⟨x, hx, rfl⟩ h3 h4
    have hx : -1000 ≤ x ∧ x ≤ 1000 := by simp at hx; omega
    simp -implicitDefEqProofs [hf0, go_sem, -List.set_cons_succ, -List.set_cons_zero]
    exact done (.mk k x s l) p2 (by omega) (by omega) (.mk hk (small_i64 (by omega) (by omega)) hs hl hkids) _ (by simp [row_mk])
  · refine call_drawE (of_draws [[], [88], [116, 111, 111, 108, 111, 110, 103], [195, 169], [97]] (by decide)) hc (by omega) (by omega) hi (by simp [Ob.re, C.re]) (fun r ⟨n, _, hn⟩ => by subst hn; rfl) (hf0 _) ?_
    rintro _ p2 ⟨x, hx, rfl⟩ h3 h4
    have hx : x.length ≤ 1000 := by simp at hx; rcases hx with rfl | rfl | rfl | rfl | rfl <;> decide
    simp -implicitDefEqProofs [hf0, go_sem, -List.set_cons_succ, -List.set_cons_zero]
    exact done (.mk k n x l) p2 (by omega) (by omega) (.mk hk hn (by omega) hl hkids) _ (by simp [row_mk])
  · refine loop_set (σ := List Tm) (fun _ => []) (fun _ => H.set i (Rd c p1)) (fun y => [.cells [.d (.int .i64 k), .d (.int .i64 n), .d (.str s), .d (.sl (l.map Tm.row))], .cells [.d (.int .i64 0), .d (.int .i64 0), .d (.str []), .full []], .cells [.d (.int .i64 k), .d (.int .i64 n), .d (.str s), .d (.sl (l.map Tm.row))], .cells [.d (.int .i64 k), .d (.int .i64 n), .d (.str s), .own (.l 5) l.length (l.map Tm.row)], .cells [.d (.int .i64 k), .d (.int .i64 n), .d (.str s), .own (.l 5) l.length (l.map Tm.row)], .grow y.length 4, .cells [.d (.int .i64 k), .d (.int .i64 n), .d (.str s), .own (.l 5) y.length (y.map Tm.row)]])
      (fun y => y.length ≤ 1048576 ∧ ∀ t ∈ y, t.fits) (fun y => 5 - y.length) l rfl ⟨hl, hkids⟩ ?_
    rintro y ⟨hy, hyf⟩
    have hly : inR .i64 (y.length : Int) := small_i64 (by omega) (by omega)
    simp -implicitDefEqProofs [setAll, hf0, hly, go_sem, -List.set_cons_succ, -List.set_cons_zero]
    refine ⟨fun hlt => ?_, fun hge => ?_⟩
    · refine qcall_pure (int_calls 1) (hf1 _) (by simp [A.re, re_d]) ?_
      simp -implicitDefEqProofs [hf0, row_mk, go_sem, -List.set_cons_succ, -List.set_cons_zero]
      refine ⟨allLen_map row_len, by unfold maxApp; omega, ?_⟩
      refine loop_back (y ++ [Tm.mk 2 1 [] []]) (by simp [setAll, row_mk]) ⟨by simp; omega, fun t ht => ?_⟩ (by show 5 - (y ++ [Tm.mk 2 1 [] []]).length < 5 - y.length; simp; omega)
      rcases List.mem_append.1 ht with ht | ht
      · exact hyf t ht
      · simp at ht; subst ht; exact .mk (small_i64 (by omega) (by omega)) (small_i64 (by omega) (by omega)) (by simp) (by simp) (by simp)
    · exact done (.mk k n s y) p1 (by omega) (by omega) (.mk hk hn hs hy hyf) _ (by simp [row_mk])
  · refine loop_set (σ := Nat × Tm) (fun x => [(6, .c (.d (.int .i64 x.1)))]) (fun _ => H.set i (Rd c p1)) (fun x => [.cells [.d (.int .i64 k), .d (.int .i64 n), .d (.str s), .d (.sl (l.map Tm.row))], .cells [.d (.int .i64 0), .d (.int .i64 0), .d (.str []), .full []], .cells [.d (.int .i64 k), .d (.int .i64 n), .d (.str s), .d (.sl (l.map Tm.row))], .cells [.d (.int .i64 k), .d (.int .i64 n), .d (.str s), .own (.l 5) l.length (l.map Tm.row)], .cells [.d (.int .i64 k), .d (.int .i64 n), .d (.str s), .own (.l 5) l.length (l.map Tm.row)], .grow l.length 4, .cells (if x.1 = 0 then [.d (.int .i64 k), .d (.int .i64 n), .d (.str s), .own (.l 5) l.length (l.map Tm.row)] else x.2.row.map .d)])
      (fun x => x.1 ≤ 30 ∧ x.2.fits ∧ (x.1 = 0 → x.2 = .mk k n s l)) (fun x => 30 - x.1) (0, Tm.mk k n s l) rfl ⟨by omega, .mk hk hn hs hl hkids, fun _ => rfl⟩ ?_
    rintro ⟨j, u⟩ ⟨hj, hu, hj0⟩
    simp only at hj hu hj0
    have hadd : inR .i64 ((j : Int) + 1) := small_i64 (by omega) (by omega)
    have hone : (Tm.mk 3 0 [115] [u]).fits := .mk (small_i64 (by omega) (by omega)) (small_i64 (by omega) (by omega)) (by simp) (by simp) (by simpa using hu)
    have hst := struct_calls [115] [u] (by simp)
    simp only [List.map_cons, List.map_nil] at hst
    by_cases hz : j = 0
    · subst hz
      have hu := hj0 rfl
      subst hu
      have h1 : inR .i64 1 := small_i64 (by omega) (by omega)
      simp -implicitDefEqProofs [setAll, hf0, go_sem, -List.set_cons_succ, -List.set_cons_zero]
      rw [row_mk] at hst
      refine qcall_pure hst (hf1 _) (by simp [A.re, re_d]) ?_
      simp -implicitDefEqProofs [hf0, h1, row_len, take_row, go_sem, -List.set_cons_succ, -List.set_cons_zero]
      exact loop_back (1, Tm.mk 3 0 [115] [Tm.mk k n s l]) (by simp [setAll]) ⟨by simp, hone, fun h => by simp at h⟩ (by show 30 - 1 < 30 - 0; omega)
    · simp -implicitDefEqProofs [setAll, hf0, hz, hadd, row_len, take_row, toDs_map, go_sem, -List.set_cons_succ, -List.set_cons_zero]
      refine ⟨fun hlt => ?_, fun hge => ?_⟩
      · refine qcall_pure hst (hf1 _) (by simp [A.re, re_d, row_len]) ?_
        simp -implicitDefEqProofs [hf0, hadd, row_len, take_row, go_sem, -List.set_cons_succ, -List.set_cons_zero]
        exact loop_back (j + 1, Tm.mk 3 0 [115] [u]) (by simp [setAll, row_len]) ⟨by show j + 1 ≤ 30; omega, hone, fun h => by simp at h⟩ (by show 30 - (j + 1) < 30 - j; omega)
      · simp [thaw_d, fits_map]
        exact done u p1 (by omega) (by omega) hu _ rfl
  · exact done (.mk k n s l) p1 (by omega) (by omega) (.mk hk hn hs hl hkids) _ (by simp [row_mk])
end Go.Proofs.YtbblefjbgbocoaaGreatDoor

/-
  Programs and clauses that are drawn.
  Conditions: none.
-/
open Go Go.AM Go.Proofs
namespace Go.Proofs.YtbblefjbgbocoaaGreatDoor
open Go.ChangeShapes Go.WideShapes Go.ChangeAt Go.RowKit
set_option linter.unusedVariables false
set_option linter.unusedSimpArgs false
set_option maxRecDepth 100000
-- 152 loop.example/prologserver/spec.l4Texts params 0 ntmps 2
def ac152 : Cd := .seq (.region [⟨(some 0),.mv (.k (.c (.full []))),none⟩] [0])
 (.seq (.region [⟨(some 1),.buildSlice 1 11 [(.str [])] [(0,(.k (.c (.d (.str [97,112,112,40,91,93,44,65,44,65,41,46,10,97,112,112,40,91,65,124,66,93,44,67,44,91,65,124,68,93,41,58,45,97,112,112,40,66,44,67,44,68,41,46,10]))))),(1,(.k (.c (.d (.str [109,101,109,40,65,44,91,65,124,66,93,41,46,10,109,101,109,40,65,44,91,66,124,67,93,41,58,45,109,101,109,40,65,44,67,41,46,10]))))),(2,(.k (.c (.d (.str [112,40,49,41,46,10,112,40,50,41,46,10,112,40,51,41,46,10,113,40,65,41,58,45,112,40,65,41,44,65,62,49,44,33,46,10,114,40,65,44,66,41,58,45,112,40,65,41,44,112,40,66,41,46,10]))))),(3,(.k (.c (.d (.str [108,101,110,40,91,93,44,48,41,46,10,108,101,110,40,91,65,124,66,93,44,67,41,58,45,108,101,110,40,66,44,68,41,44,67,32,105,115,32,68,43,49,46,10]))))),(4,(.k (.c (.d (.str [109,97,120,40,65,44,66,44,65,41,58,45,65,62,61,66,44,33,46,10,109,97,120,40,65,44,66,44,66,41,46,10]))))),(5,(.k (.c (.d (.str [101,40,97,44,98,41,46,10,101,40,98,44,99,41,46,10,101,40,99,44,100,41,46,10,116,40,65,44,66,41,58,45,101,40,65,44,66,41,46,10,116,40,65,44,66,41,58,45,101,40,65,44,67,41,44,116,40,67,44,66,41,46,10]))))),(6,(.k (.c (.d (.str [108,111,111,112,58,45,108,111,111,112,46,10,111,107,46,10]))))),(7,(.k (.c (.d (.str [102,97,99,40,48,44,49,41,58,45,33,46,10,102,97,99,40,65,44,66,41,58,45,65,62,48,44,67,32,105,115,32,65,45,49,44,102,97,99,40,67,44,68,41,44,66,32,105,115,32,65,42,68,46,10]))))),(8,(.k (.c (.d (.str [115,40,65,41,58,45,65,61,102,40,66,41,44,97,114,103,40,49,44,65,44,66,41,44,66,61,49,46,10,115,40,65,41,58,45,118,97,114,40,65,41,44,65,61,110,111,110,101,46,10]))))),(9,(.k (.c (.d (.str [114,101,118,40,91,93,44,65,44,65,41,46,10,114,101,118,40,91,65,124,66,93,44,67,44,68,41,58,45,114,101,118,40,66,44,91,65,124,67,93,44,68,41,46,10]))))),(10,(.k (.c (.d (.str [98,97,100,40,65,41,58,45,66,32,105,115,32,65,43,102,111,111,44,67,61,66,46,10,98,105,103,40,65,41,58,45,65,32,105,115,32,57,57,57,43,49,46,10,117,110,40,65,41,58,45,110,111,115,117,99,104,40,65,41,46,10])))))],none⟩,
 ⟨(some 0),.mv (.t 1),none⟩] [1])
 (.ret))
theorem ac152_ok : cFunc Tryz.prog [] [(0,[0],[]),(1,[1],[])] Tryz.f152 = some (ac152,[.tmp 0],2) := by kernel_rfl
-- 95 loop.example/prologserver/spec.l4Program params 1 ntmps 19
def ac95 : Cd := .seq (.region [⟨(some 2),.mv (.k (.c (.full []))),none⟩] [2])
 (.seq (.region [⟨(some 6),.qcall 152 [],none⟩,
 ⟨(some 3),.mv (.t 6),none⟩] [6])
 (.seq (.region [⟨(some 8),.mv (.t 3),none⟩,
 ⟨(some 9),.mv (.t 0),none⟩,
 ⟨(some 10),.mv (.t 3),none⟩,
 ⟨(some 11),.len 1 (.t 10),none⟩,
 ⟨(some 12),.call false 43 [(.t 9),(.t 11)],none⟩,
 ⟨(some 13),.indexAddr 1 (.t 8) (.t 12),none⟩,
 ⟨(some 14),.load none (.t 13),none⟩,
 ⟨(some 15),.qcall 153 [(.t 14)],none⟩,
 ⟨(some 7),.mv (.t 15),none⟩,
 ⟨(some 16),.extract 0 (.t 7),none⟩,
 ⟨(some 17),.extract 1 (.t 7),none⟩,
 ⟨(some 4),.mv (.t 16),none⟩,
 ⟨(some 5),.mv (.t 17),none⟩] [0,3,5,7,8,9,10,11,12,13,14,15,16,17])
 (.seq (.region [⟨(some 18),.mv (.t 4),none⟩,
 ⟨(some 2),.mv (.t 18),none⟩] [4,18])
 (.ret))))
theorem ac95_ok : cFunc Tryz.prog [1000152,1000153] [(0,[2],[]),(1,[6],[]),(2,[0,3,5,7,8,9,10,11,12,13,14,15,16,17],[]),(3,[4,18],[])] Tryz.f95 = some (ac95,[.tmp 2],19) := by kernel_rfl
-- 42 loop.example/prologserver/spec.l4Clause params 1 ntmps 47
-- loop head live: [0,2,4,5]
def ac177 : Cd := .seq (.region [⟨(some 3),.box (.t 1),none⟩,
 ⟨(some 4),.alloc [(.d (.int .i64 0)),(.d (.int .i64 0)),(.d (.str [])),(.full []),(.full [])],none⟩] [1])
 (.seq (.region [⟨(some 6),.load (some 5) (.t 3),none⟩,
 ⟨(some 7),.call false 215 [(.t 6)],none⟩,
 ⟨(some 5),.alloc [(.d (.int .i64 0)),(.d (.int .i64 0)),(.d (.str [])),(.full []),(.full [])],none⟩,
 ⟨none,.store 5 (.t 5) (.t 7),none⟩] [3,6,7])
 (.seq (.seq (.region [⟨(some 8),.mv (.t 0),none⟩,
 ⟨(some 9),.call false 43 [(.t 8),(.k (.c (.d (.int .i64 40))))],none⟩] [8])
 (.block 0 (.seq (.region [⟨(some 11),.bin .eql (.t 9) (.k (.c (.d (.int .i64 0)))),none⟩,
 ⟨(some 10),.mv (.t 11),none⟩] [11])
 (.cond (.t 10)
 (.region [⟨(some 12),.mv (.t 0),none⟩,
 ⟨(some 13),.mv (.t 0),none⟩,
 ⟨(some 14),.callL false false 123 [(.t 13)],none⟩,
 ⟨(some 15),.callL false false 122 [(.t 12),(.t 14)],none⟩,
 ⟨(some 16),.fieldAddr 0 (.t 5),none⟩,
 ⟨none,.store 4 (.t 16) (.t 15),none⟩] [0,9,10,12,13,14,15,16])
 (.seq (.region [⟨(some 18),.bin .eql (.t 9) (.k (.c (.d (.int .i64 1)))),none⟩,
 ⟨(some 17),.mv (.t 18),none⟩] [10,18])
 (.cond (.t 17)
 (.region [⟨(some 19),.fieldAddr 4 (.t 5),none⟩,
 ⟨(some 21),.mv (.t 0),none⟩,
 ⟨(some 22),.mv (.t 0),none⟩,
 ⟨(some 20),.loadL false none (.t 19),none⟩,
 ⟨(some 23),.callL false false 123 [(.t 22)],none⟩,
 ⟨(some 24),.callL false false 122 [(.t 21),(.t 23)],none⟩,
 ⟨(some 25),.buildSlice 4 1 [(.int .i64 0),(.int .i64 0),(.str []),(.sl [])] [(0,(.t 24))],none⟩,
 ⟨(some 26),.append false 4 (.t 20) (.t 25),none⟩,
 ⟨(some 27),.fieldAddr 4 (.t 5),none⟩,
 ⟨none,.store 1 (.t 27) (.t 26),none⟩] [0,9,17,19,20,21,22,23,24,25,26,27])
 (.seq (.region [⟨(some 29),.bin .eql (.t 9) (.k (.c (.d (.int .i64 2)))),none⟩,
 ⟨(some 28),.mv (.t 29),none⟩] [17,29])
 (.cond (.t 28)
 (.block 1 (.loop (.seq (.seq (.region [⟨(some 30),.fieldAddr 4 (.t 5),none⟩,
 ⟨(some 31),.load none (.t 30),none⟩,
 ⟨(some 32),.len 1 (.t 31),none⟩,
 ⟨(some 33),.bin .leq (.t 32) (.k (.c (.d (.int .i64 6)))),none⟩] [30,31,32])
 (.cond (.t 33)
 (.skip)
 (.exit 1)))
 (.block 2 (.region [⟨(some 34),.fieldAddr 4 (.t 5),none⟩,
 ⟨(some 35),.load none (.t 34),none⟩,
 ⟨(some 36),.qcall 96 [(.k (.c (.d (.str [116,114,117,101])))),(.k (.c (.full [])))],none⟩,
 ⟨(some 37),.buildSlice 4 1 [(.int .i64 0),(.int .i64 0),(.str []),(.sl [])] [(0,(.t 36))],none⟩,
 ⟨(some 38),.append false 4 (.t 35) (.t 37),none⟩,
 ⟨(some 39),.fieldAddr 4 (.t 5),none⟩,
 ⟨none,.store 1 (.t 39) (.t 38),none⟩] [33,34,35,36,37,38,39])))))
 (.seq (.region [⟨(some 41),.bin .eql (.t 9) (.k (.c (.d (.int .i64 3)))),none⟩,
 ⟨(some 40),.mv (.t 41),none⟩] [9,28,41])
 (.cond (.t 40)
 (.region [⟨(some 42),.mv (.t 0),none⟩,
 ⟨(some 43),.buildSlice 1 5 [(.str [])] [(0,(.k (.c (.d (.str [116,114,117,101]))))),(1,(.k (.c (.d (.str [105,115]))))),(2,(.k (.c (.d (.str [61]))))),(3,(.k (.c (.d (.str [109,111,100]))))),(4,(.k (.c (.d (.str [113])))))],none⟩,
 ⟨(some 44),.call false 91 [(.t 42),(.t 43)],none⟩,
 ⟨(some 45),.fieldAddr 0 (.t 5),none⟩,
 ⟨(some 46),.fieldAddr 2 (.t 45),none⟩,
 ⟨none,.store 1 (.t 46) (.t 44),none⟩] [0,40,42,43,44,45,46])
 (.skip)))))))))))
 (.seq (.region [⟨(some 47),.load (some 5) (.t 5),none⟩,
 ⟨none,.store 5 (.t 4) (.t 47),none⟩] [0,5,40,47])
 (.ret))))
theorem ac177_ok : cFunc Tryz.prog [1000096,5000019,6000123,6000122] [(0,[1],[]),(1,[3,6,7],[]),(2,[8],[]),(3,[11],[]),(4,[0,9,10,12,13,14,15,16],[]),(5,[10,18],[]),(6,[0,9,17,19,20,21,22,23,24,25,26,27],[0,2,3,1,4,5,6,7,8,9]),(7,[17,29],[]),(8,[30,31,32],[]),(9,[33,34,35,36,37,38,39],[0,1,2,3,4,5,6]),(10,[9,28,41],[]),(11,[0,40,42,43,44,45,46],[]),(12,[0,5,40,47],[])] Tryz.f177 = some (ac177,[.cell 4 (some 5)],48) := by kernel_rfl
def progTexts : List (List UInt8) := [[97, 112, 112, 40, 91, 93, 44, 65, 44, 65, 41, 46, 10, 97, 112, 112, 40, 91, 65, 124, 66, 93, 44, 67, 44, 91, 65, 124, 68, 93, 41, 58, 45, 97, 112, 112, 40, 66, 44, 67, 44, 68, 41, 46, 10], [109, 101, 109, 40, 65, 44, 91, 65, 124, 66, 93, 41, 46, 10, 109, 101, 109, 40, 65, 44, 91, 66, 124, 67, 93, 41, 58, 45, 109, 101, 109, 40, 65, 44, 67, 41, 46, 10], [112, 40, 49, 41, 46, 10, 112, 40, 50, 41, 46, 10, 112, 40, 51, 41, 46, 10, 113, 40, 65, 41, 58, 45, 112, 40, 65, 41, 44, 65, 62, 49, 44, 33, 46, 10, 114, 40, 65, 44, 66, 41, 58, 45, 112, 40, 65, 41, 44, 112, 40, 66, 41, 46, 10], [108, 101, 110, 40, 91, 93, 44, 48, 41, 46, 10, 108, 101, 110, 40, 91, 65, 124, 66, 93, 44, 67, 41, 58, 45, 108, 101, 110, 40, 66, 44, 68, 41, 44, 67, 32, 105, 115, 32, 68, 43, 49, 46, 10], [109, 97, 120, 40, 65, 44, 66, 44, 65, 41, 58, 45, 65, 62, 61, 66, 44, 33, 46, 10, 109, 97, 120, 40, 65, 44, 66, 44, 66, 41, 46, 10], [101, 40, 97, 44, 98, 41, 46, 10, 101, 40, 98, 44, 99, 41, 46, 10, 101, 40, 99, 44, 100, 41, 46, 10, 116, 40, 65, 44, 66, 41, 58, 45, 101, 40, 65, 44, 66, 41, 46, 10, 116, 40, 65, 44, 66, 41, 58, 45, 101, 40, 65, 44, 67, 41, 44, 116, 40, 67, 44, 66, 41, 46, 10], [108, 111, 111, 112, 58, 45, 108, 111, 111, 112, 46, 10, 111, 107, 46, 10], [102, 97, 99, 40, 48, 44, 49, 41, 58, 45, 33, 46, 10, 102, 97, 99, 40, 65, 44, 66, 41, 58, 45, 65, 62, 48, 44, 67, 32, 105, 115, 32, 65, 45, 49, 44, 102, 97, 99, 40, 67, 44, 68, 41, 44, 66, 32, 105, 115, 32, 65, 42, 68, 46, 10], [115, 40, 65, 41, 58, 45, 65, 61, 102, 40, 66, 41, 44, 97, 114, 103, 40, 49, 44, 65, 44, 66, 41, 44, 66, 61, 49, 46, 10, 115, 40, 65, 41, 58, 45, 118, 97, 114, 40, 65, 41, 44, 65, 61, 110, 111, 110, 101, 46, 10], [114, 101, 118, 40, 91, 93, 44, 65, 44, 65, 41, 46, 10, 114, 101, 118, 40, 91, 65, 124, 66, 93, 44, 67, 44, 68, 41, 58, 45, 114, 101, 118, 40, 66, 44, 91, 65, 124, 67, 93, 44, 68, 41, 46, 10], [98, 97, 100, 40, 65, 41, 58, 45, 66, 32, 105, 115, 32, 65, 43, 102, 111, 111, 44, 67, 61, 66, 46, 10, 98, 105, 103, 40, 65, 41, 58, 45, 65, 32, 105, 115, 32, 57, 57, 57, 43, 49, 46, 10, 117, 110, 40, 65, 41, 58, 45, 110, 111, 115, 117, 99, 104, 40, 65, 41, 46, 10]]
theorem texts_calls (H : Heap) : ACalls Tryz.prog 152 [] H (fun r H' => H' = H ∧ r = .c (.d (.sl (progTexts.map strRow)))) := by
  refine acalls Tryz.func152 (by kernel_rfl) ac152_ok fun hf => ?_
  simp -implicitDefEqProofs [ac152, progTexts, strRow, go_sem, -List.set_cons_succ, -List.set_cons_zero]
theorem linesR_fits : ∀ (L : List (List UInt8)), (∀ l ∈ L, l.length ≤ 1000000) → ∀ p, linesR Tm.wr L = some p → ∀ c ∈ p, c.fits ∧ c.validB = true
  | [], _, p, h => by cases h; simp
  | [a], _, p, h => by cases h; simp
  | a :: b :: L, hl, p, h => by
    rw [linesR_cons] at h
    cases hc : clauseR Tm.wr a with
    | none => rw [hc] at h; cases h
    | some c =>
      cases hr : linesR Tm.wr (b :: L) with
      | none => rw [hc, hr] at h; cases h
      | some q =>
        rw [hc, hr] at h
        cases h
        intro d hd
        rcases List.mem_cons.1 hd with rfl | hd
        · exact clauseR_fits a (hl a (by simp)) hc
        · exact linesR_fits (b :: L) (fun l hm => hl l (by simp [List.mem_cons.1 hm])) q hr d hd
theorem progR_fits (s : List UInt8) (hs : s.length ≤ 1000000) : ∀ c ∈ (progR Tm.wr s).1, c.fits ∧ c.validB = true := by
  unfold progR
  split
  · simp
  · cases hr : linesR Tm.wr (cutAt 10 s) with
    | none => simp
    | some p =>
      exact linesR_fits _ (fun l hl => by have := cut_mem 10 s l hl; omega) p hr
theorem progs_len : (progTexts.map fun t => (progR Tm.wr3 t).1.length) = [2, 2, 5, 2, 2, 5, 2, 2, 2, 2, 3] := by kernel_rfl
theorem prog_len {m : Nat} (h : m < progTexts.length) : 1 ≤ (progR Tm.wr progTexts[m]).1.length ∧ (progR Tm.wr progTexts[m]).1.length ≤ 5 := by
  rw [← progR_eq]
  have h1 : ((progTexts.map fun t => (progR Tm.wr3 t).1.length)[m]?) = some (progR Tm.wr3 progTexts[m]).1.length := by simp [h]
  rw [progs_len] at h1
  have h2 := List.mem_of_getElem? h1
  have key : ∀ x ∈ [2, 2, 5, 2, 2, 5, 2, 2, 2, 2, 3], 1 ≤ x ∧ x ≤ 5 := by decide
  exact key _ h2
/-- a clause, somewhere -/
def ClR (n : Nat) (r : A) : Prop := ∃ c : Cl, r = .agg (c.row.map .d) ∧ c.fits ∧ c.body.length ≤ n
theorem ClR.re {m n : Nat} {r : A} (h : ClR m r) : A.re n r = r := by
  obtain ⟨c, rfl, _⟩ := h
  simp [A.re, re_d]
def PgR (r : A) : Prop := ∃ p : List Cl, r = .c (.d (.sl (p.map Cl.row))) ∧ 1 ≤ p.length ∧ p.length ≤ 5 ∧ ∀ c ∈ p, c.fits ∧ c.validB = true
theorem PgR.re {n : Nat} {r : A} (h : PgR r) : A.re n r = r := by
  obtain ⟨l, rfl, _⟩ := h
  rfl
theorem program_draws : Draws 95 [] 1 PgR := fun c p H i hc hp hp1 hi => by
  refine acalls Tryz.func95 (by kernel_rfl) ac95_ok fun hf => ?_
  simp only [List.length_set] at hf
  have hf0 : ∀ q, Obs.fits H.length 0 (H.set i (Rd c q)) := fun q => fits_reset (b := Rd c q) hf ⟨trivial, trivial, trivial⟩
  have hf1 : ∀ q, Obs.fits (H.set i (Rd c q)).length 0 (H.set i (Rd c q)) := fun q => by simpa using hf0 q
  have hql : progTexts.length = 11 := rfl
  have h11 : inR .i64 (11 : Int) := small_i64 (by omega) (by omega)
  simp -implicitDefEqProofs [ac95, hf0, go_sem, -List.set_cons_succ, -List.set_cons_zero]
  refine qcall_pure texts_calls (hf1 _) rfl ?_
  simp -implicitDefEqProofs [hql, h11, hf0, go_sem, -List.set_cons_succ, -List.set_cons_zero]
  refine call_drawE (pick_draws 11 (by omega)) hc (by omega) (by omega) hi (by simp [Ob.re, C.re]) (fun r => IntIn.re) (hf0 _) ?_
  rintro _ p1 ⟨m, rfl, m0, m1⟩ h1 h2
  have hmlt : m.toNat < progTexts.length := by rw [hql]; omega
  have hql2 : (progTexts[m.toNat]).length ≤ 1000000 := by
    have : ∀ q ∈ progTexts, q.length ≤ 1000 := by decide
    have := this _ (List.getElem_mem hmlt)
    omega
  obtain ⟨g1, g2⟩ := prog_len hmlt
  have g3 := progR_fits _ hql2
  simp -implicitDefEqProofs [hf0, go_sem, -List.set_cons_succ, -List.set_cons_zero]
  refine row_int [.str progTexts[m.toNat]] m0 (by simp [hmlt, strRow]) rfl ?_
  simp -implicitDefEqProofs [hf0, go_sem, -List.set_cons_succ, -List.set_cons_zero]
  refine qcall_pure (ppSpec_calls progTexts[m.toNat] hql2) (hf1 _) (by simp [progA, A.re, A.res, C.re]) ?_
  simp -implicitDefEqProofs [progA, hf0, go_sem, -List.set_cons_succ, -List.set_cons_zero]
  exact ⟨⟨_, rfl, g1, g2, g3⟩, p1, h1, h2, rfl⟩
theorem clCopy_own (c : Cl) (hc : c.fits) (H : Heap) : ACalls Tryz.prog 215 [.agg (c.row.map .d)] H (fun r H' =>
    H' = H ++ [.cells (c.row.map .d), .cells [.d (.int .i64 c.head.k), .d (.int .i64 c.head.n), .d (.str c.head.s), .d (.sl (c.head.kids.map Tm.row)), .own (.e (H.length + 3)) c.body.length (c.body.map Tm.row)], .cells [.d (.int .i64 c.head.k), .d (.int .i64 c.head.n), .d (.str c.head.s), .d (.sl (c.head.kids.map Tm.row)), .own (.e (H.length + 3)) c.body.length (c.body.map Tm.row)], .grow c.body.length 4] ∧
    r = .agg [.d (.int .i64 c.head.k), .d (.int .i64 c.head.n), .d (.str c.head.s), .d (.sl (c.head.kids.map Tm.row)), .own (.e (H.length + 3)) c.body.length (c.body.map Tm.row)]) := by
  obtain ⟨h, b⟩ := c
  obtain ⟨hh, hl, hb⟩ := hc
  simp only at hh hl hb
  have c1 := copy_calls h hh
  rw [row_eq] at c1
  simp only [List.map_cons, List.map_nil] at c1
  have hbl : inR .i64 (b.length : Int) := small_i64 (by omega) (by omega)
  refine acallsK Tryz.func215 (by kernel_rfl) ac215_ok fun hf => ?_
  simp -implicitDefEqProofs [ac215, Cl.row, hf, go_sem, -List.set_cons_succ, -List.set_cons_zero]
  refine qcall_pure c1 hf (by simp [A.re, C.re]) ?_
  simp -implicitDefEqProofs [hf, go_sem, -List.set_cons_succ, -List.set_cons_zero]
  refine loop_enter (St.le_tokenC 2 4 4 rfl rfl) ?_
  refine loop_set (σ := Nat) (fun i => [(4, .c (.d (.int .i64 i)))]) (fun _ => H) (fun i => [.cells [.d (.int .i64 h.k), .d (.int .i64 h.n), .d (.str h.s), .d (.sl (h.kids.map Tm.row)), .d (.sl (b.map Tm.row))], .cells [.d (.int .i64 0), .d (.int .i64 0), .d (.str []), .full [], .full []], .cells [.d (.int .i64 h.k), .d (.int .i64 h.n), .d (.str h.s), .d (.sl (h.kids.map Tm.row)), .own (.l 3) i ((b.map Tm.row).take i)], .grow i 4])
    (fun i => i ≤ b.length) (fun i => b.length - i) 0 rfl (Nat.zero_le _) ?_
  intro i hi
  simp -implicitDefEqProofs [setAll, hbl, go_sem, -List.set_cons_succ, -List.set_cons_zero]
  refine ⟨fun hlt => ?_, fun hge => ?_⟩
  · have hadd : inR .i64 ((i : Int) + 1) := small_i64 (by omega) (by omega)
    refine row_of hlt (row_len _) ?_
    simp -implicitDefEqProofs [row_len, take_row, pure_d, re_d, hf, go_sem, -List.set_cons_succ, -List.set_cons_zero]
    refine qcall_pure (copy_calls b[i] (hb _ (List.getElem_mem hlt))) hf (by simp [A.re, re_d]) ?_
    simp -implicitDefEqProofs [row_len, toDs_map, hadd, hf, Nat.min_eq_left hi, go_sem, -List.set_cons_succ, -List.set_cons_zero]
    refine ⟨fun r hr => allLen_map row_len r (List.mem_of_mem_take hr), by unfold maxApp; omega, ?_⟩
    refine loop_back (i + 1) ?_ hlt (by show b.length - (i + 1) < b.length - i; omega)
    simp [setAll, take_map_succ hlt]
  · have hil : i = b.length := by omega
    subst hil
    rw [show (b.map Tm.row).take b.length = b.map Tm.row from List.take_of_length_le (by simp)]
    simp -implicitDefEqProofs [hf, go_sem, -List.set_cons_succ, -List.set_cons_zero]
    refine finK_ret _ ⟨trivial, trivial⟩ rfl ?_
    simp [Ob.re, C.re, A.re, Ref.re]
/-- a clause that is drawn -/
theorem mutC_draws (c0 : Cl) (h0 : c0.fits) (hb7 : c0.body.length ≤ 900) : Draws 177 [.agg (c0.row.map .d)] 1284 (ClR 1000) := fun c p H i hc hp hp1 hi => by
  obtain ⟨⟨k, n, s, l⟩, b⟩ := c0
  refine acalls Tryz.func177 (by kernel_rfl) ac177_ok fun hf => ?_
  simp only [List.length_set] at hf
  have hf0 : ∀ q, Obs.fits H.length 0 (H.set i (Rd c q)) := fun q => fits_reset (b := Rd c q) hf ⟨trivial, trivial, trivial⟩
  have hf1 : ∀ q, Obs.fits (H.set i (Rd c q)).length 0 (H.set i (Rd c q)) := fun q => by simpa using hf0 q
  have hcopy := clCopy_own _ h0
  obtain ⟨hh, hbl, hbf⟩ := h0
  simp only at hh hbl hbf hb7
  have hhf := hh
  obtain ⟨hk, hn, hs, hl, hkids⟩ := hh
  simp only [Cl.row, Tm.k, Tm.n, Tm.s, Tm.kids, List.map_cons, List.map_nil] at hcopy ⊢
  simp -implicitDefEqProofs [ac177, hf0, go_sem, -List.set_cons_succ, -List.set_cons_zero]
  have done : ∀ (d : Cl) (q : Int), p ≤ q → q ≤ p + 1284 → d.fits → d.body.length ≤ 1000 → ∀ r, r = .agg (d.row.map .d) → Drew (ClR 1000) 1284 c p H i r (H.set i (Rd c q)) := fun d q a1 a2 a3 a4 r hr => ⟨⟨d, hr, a3, a4⟩, q, a1, a2, rfl⟩
  refine (hcopy _).mono fun r H' ⟨g1, g2⟩ => ⟨H.set i (Rd c p), [.cells [.d (.int .i64 k), .d (.int .i64 n), .d (.str s), .d (.sl (l.map Tm.row)), .d (.sl (b.map Tm.row))], .cells [.d (.int .i64 0), .d (.int .i64 0), .d (.str []), .full [], .full []], .cells [.d (.int .i64 k), .d (.int .i64 n), .d (.str s), .d (.sl (l.map Tm.row)), .d (.sl (b.map Tm.row))], .cells [.d (.int .i64 k), .d (.int .i64 n), .d (.str s), .d (.sl (l.map Tm.row)), .own (.l 5) b.length (b.map Tm.row)], .cells [.d (.int .i64 k), .d (.int .i64 n), .d (.str s), .d (.sl (l.map Tm.row)), .own (.l 5) b.length (b.map Tm.row)], .grow b.length 4],
    .agg [.d (.int .i64 k), .d (.int .i64 n), .d (.str s), .d (.sl (l.map Tm.row)), .own (.l 5) b.length (b.map Tm.row)], by rw [g1]; simp [Ob.re, C.re, Ref.re], by simp, by simp, by simpa using hf0 p, by rw [g2]; simp [A.re, C.re, Ref.re], ?_⟩
  clear hcopy
  simp -implicitDefEqProofs [hf0, go_sem, -List.set_cons_succ, -List.set_cons_zero]
  refine call_drawE (pick_draws 40 (by omega)) hc (by omega) (by omega) hi (by simp [Ob.re, C.re, Ref.re]) (fun r => IntIn.re) (hf0 _) ?_
  rintro _ p1 ⟨m, rfl, m0, m1⟩ h1 h2
  simp -implicitDefEqProofs [hf0, go_sem, -List.set_cons_succ, -List.set_cons_zero]
  refine ⟨fun _ => ?_, fun _ => ⟨fun _ => ?_, fun _ => ⟨fun _ => ?_, fun _ => ⟨fun _ => ?_, fun _ => ?_⟩⟩⟩⟩
  · refine call_drawE l1Some_draws hc (by omega) (by omega) hi (by simp [Ob.re, C.re]) (fun r => TmR.re) (hf0 _) ?_
    rintro _ p2 ⟨t, rfl, ht⟩ h3 h4
    refine ⟨LocSame.refl _, ?_⟩
    simp -implicitDefEqProofs [pure_d, re_d, hf0, go_sem, -List.set_cons_succ, -List.set_cons_zero]
    refine call_drawE (l1Mutate_draws t ht) hc (by omega) (by omega) hi (by simp [Ob.re, C.re, Ref.re]) (fun r => TmR.re) (hf0 _) ?_
    rintro _ p3 ⟨u, rfl, hu⟩ h5 h6
    refine ⟨LocSame.refl _, ?_⟩
    obtain ⟨k2, n2, s2, l2⟩ := u
    simp -implicitDefEqProofs [row_mk, hf0, go_sem, -List.set_cons_succ, -List.set_cons_zero]
    exact done ⟨.mk k2 n2 s2 l2, b⟩ p3 (by omega) (by omega) ⟨hu, hbl, hbf⟩ (by show b.length ≤ 1000; omega) _ (by simp [Cl.row, Tm.k, Tm.n, Tm.s, Tm.kids])
  · refine call_drawE l1Some_draws hc (by omega) (by omega) hi (by simp [Ob.re, C.re]) (fun r => TmR.re) (hf0 _) ?_
    rintro _ p2 ⟨t, rfl, ht⟩ h3 h4
    refine ⟨LocSame.refl _, ?_⟩
    simp -implicitDefEqProofs [pure_d, re_d, hf0, go_sem, -List.set_cons_succ, -List.set_cons_zero]
    refine call_drawE (l1Mutate_draws t ht) hc (by omega) (by omega) hi (by simp [Ob.re, C.re, Ref.re]) (fun r => TmR.re) (hf0 _) ?_
    rintro _ p3 ⟨u, rfl, hu⟩ h5 h6
    refine ⟨LocSame.refl _, ?_⟩
    simp -implicitDefEqProofs [row_len, take_row, toDs_map, hf0, go_sem, -List.set_cons_succ, -List.set_cons_zero]
    refine ⟨allLen_map row_len, by unfold maxApp; omega, ?_⟩
    exact done ⟨.mk k n s l, b ++ [u]⟩ p3 (by omega) (by omega) ⟨hhf, by show (b ++ [u]).length ≤ 1048576; simp; omega, fun x hx => by
      rcases List.mem_append.1 hx with hx | hx
      · exact hbf x hx
      · simp at hx; subst hx; exact hu⟩ (by show (b ++ [u]).length ≤ 1000; simp; omega) _ (by simp [Cl.row, Tm.k, Tm.n, Tm.s, Tm.kids])
  · refine loop_set (σ := List Tm) (fun _ => []) (fun _ => H.set i (Rd c p1)) (fun y => [.cells [.d (.int .i64 k), .d (.int .i64 n), .d (.str s), .d (.sl (l.map Tm.row)), .d (.sl (b.map Tm.row))], .cells [.d (.int .i64 0), .d (.int .i64 0), .d (.str []), .full [], .full []], .cells [.d (.int .i64 k), .d (.int .i64 n), .d (.str s), .d (.sl (l.map Tm.row)), .d (.sl (b.map Tm.row))], .cells [.d (.int .i64 k), .d (.int .i64 n), .d (.str s), .d (.sl (l.map Tm.row)), .own (.l 5) b.length (b.map Tm.row)], .cells [.d (.int .i64 k), .d (.int .i64 n), .d (.str s), .d (.sl (l.map Tm.row)), .own (.l 5) b.length (b.map Tm.row)], .grow y.length 4, .cells [.d (.int .i64 k), .d (.int .i64 n), .d (.str s), .d (.sl (l.map Tm.row)), .own (.l 5) y.length (y.map Tm.row)]])
      (fun y => y.length ≤ 900 ∧ ∀ t ∈ y, t.fits) (fun y => 7 - y.length) b rfl ⟨hb7, hbf⟩ ?_
    rintro y ⟨hy, hyf⟩
    have hly : inR .i64 (y.length : Int) := small_i64 (by omega) (by omega)
    simp -implicitDefEqProofs [setAll, hf0, hly, go_sem, -List.set_cons_succ, -List.set_cons_zero]
    refine ⟨fun hlt => ?_, fun hge => ?_⟩
    · have hst := struct_calls [116, 114, 117, 101] [] (by simp)
      simp only [List.map_nil] at hst
      refine qcall_pure hst (hf1 _) (by simp [A.re, re_d]) ?_
      simp -implicitDefEqProofs [hf0, row_len, take_row, toDs_map, go_sem, -List.set_cons_succ, -List.set_cons_zero]
      refine ⟨allLen_map row_len, by unfold maxApp; omega, ?_⟩
      refine loop_back (y ++ [Tm.mk 3 0 [116, 114, 117, 101] []]) (by first | rfl | simp [setAll]) ⟨by simp; omega, fun t ht => ?_⟩ (by show 7 - (y ++ [Tm.mk 3 0 [116, 114, 117, 101] []]).length < 7 - y.length; simp; omega)
      rcases List.mem_append.1 ht with ht | ht
      · exact hyf t ht
      · simp at ht; subst ht; exact fits_st (by simp) (by simp) (by simp)
    · exact done ⟨.mk k n s l, y⟩ p1 (by omega) (by omega) ⟨hhf, by show y.length ≤ 1048576; omega, hyf⟩ (by show y.length ≤ 1000; omega) _ (by simp [Cl.row, Tm.k, Tm.n, Tm.s, Tm.kids])
  · refine call_drawE (of_draws [[116, 114, 117, 101], [105, 115], [61], [109, 111, 100], [113]] (by decide)) hc (by omega) (by omega) hi (by simp [Ob.re, C.re]) (fun r ⟨n, _, hn⟩ => by subst hn; rfl) (hf0 _) ?_
    rintro _ p2 ⟨x, hx, rfl⟩ h3 h4
    have hx : x.length ≤ 1000 := by simp at hx; rcases hx with rfl | rfl | rfl | rfl | rfl <;> decide
    simp -implicitDefEqProofs [hf0, go_sem, -List.set_cons_succ, -List.set_cons_zero]
    exact done ⟨.mk k n x l, b⟩ p2 (by omega) (by omega) ⟨.mk hk hn (by omega) hl hkids, hbl, hbf⟩ (by show b.length ≤ 1000; omega) _ (by simp [Cl.row, Tm.k, Tm.n, Tm.s, Tm.kids])
  · exact done ⟨.mk k n s l, b⟩ p1 (by omega) (by omega) ⟨hhf, hbl, hbf⟩ (by show b.length ≤ 1000; omega) _ (by simp [Cl.row, Tm.k, Tm.n, Tm.s, Tm.kids])
theorem shape_mono : ∀ t : Tm, ∀ d e : Nat, d ≤ e → t.shape d = true → t.shape e = true := by
  refine Tm.ind fun k n s l ih d e hde h => ?_
  simp only [Tm.shape, Bool.and_eq_true, decide_eq_true_eq] at h ⊢
  obtain ⟨h1, h2, h3⟩ := h
  refine ⟨by omega, h2, ?_⟩
  rw [shapes_all, List.all_eq_true] at h3 ⊢
  exact fun t ht => ih t ht (d - 1) (e - 1) (by omega) (h3 t ht)
theorem VP.valid {s : List UInt8} {l : List Tm} (hs : nameB s = true) (hl : l.length ≤ 4) (h : ∀ t ∈ l, VP 2 t) : (Tm.mk 3 0 s l).valid = true := by
  have h1 := sizes_of (l := l) fun t ht => (h t ht).2
  have h2 : l.length * 4 ^ 2 ≤ 4 * 4 ^ 2 := Nat.mul_le_mul_right _ hl
  have h3 : (Tm.mk 3 0 s l).shape 30 = true := shape_mono _ 4 30 (by omega) (struct_shape hs hl fun t ht => (h t ht).1)
  show ((Tm.mk 3 0 s l).shape 30 && decide ((Tm.mk 3 0 s l).size ≤ 120)) = true
  rw [h3, Bool.true_and, decide_eq_true_eq, Tm.size]
  omega
/-- a valid clause, somewhere -/
def ClT (r : A) : Prop := ∃ c : Cl, r = .agg (c.row.map .d) ∧ c.fits ∧ c.body.length ≤ 6 ∧ c.validB = true
theorem ClT.re {n : Nat} {r : A} (h : ClT r) : A.re n r = r := by
  obtain ⟨c, rfl, _⟩ := h
  simp [A.re, re_d]
end Go.Proofs.YtbblefjbgbocoaaGreatDoor

/-
  Terms: how many there are.
  Conditions: none.
-/
open Go Go.AM Go.Proofs
namespace Go.Proofs.YtbblefjbgbocoaaGreatDoor
open Go.ChangeShapes Go.WideShapes Go.ChangeAt Go.RowKit
set_option linter.unusedVariables false
set_option linter.unusedSimpArgs false
set_option maxRecDepth 100000
mutual
/-- what a law's size takes off for a term -/
def Tm.wt : Tm → Nat
  | .mk _ _ s l => s.length + Tm.wts l
def Tm.wts : List Tm → Nat
  | [] => 0
  | t :: l => 1 + t.wt + Tm.wts l
end
mutual
/-- the terms below a term -/
def Tm.sub : Tm → Nat
  | .mk _ _ _ l => Tm.cnt l
def Tm.cnt : List Tm → Nat
  | [] => 0
  | t :: l => 1 + t.sub + Tm.cnt l
end
/-- what is left, where enough is -/
def LeftW (m : Int) (p : Prop) (w : Nat) (r : A) : Prop := ∃ q : Int, r = .c (.d (.int .i64 q)) ∧ -1 ≤ q ∧ q ≤ m ∧ (0 ≤ q → p ∧ q + w ≤ m)
theorem LeftW.re {n : Nat} {m : Int} {p : Prop} {w : Nat} {r : A} (h : LeftW m p w r) : A.re n r = r := by
  obtain ⟨q, rfl, _⟩ := h
  rfl
theorem LeftW.left {m : Int} {p : Prop} {w : Nat} {r : A} (h : LeftW m p w r) : Left m p r := by
  obtain ⟨q, h1, h2, h3, h4⟩ := h
  exact ⟨q, h1, h2, h3, fun h => (h4 h).1⟩
end Go.Proofs.YtbblefjbgbocoaaGreatDoor

/-
  Rows that are marked one after the other.
  Conditions: none.
-/
open Go Go.AM Go.Proofs
namespace Go.Proofs.YtbblefjbgbocoaaGreatDoor
set_option linter.unusedVariables false
set_option linter.unusedSimpArgs false
/-- the first i rows are new ones -/
def mixed {α : Type} (f : Nat → α) (rows : List α) (i : Nat) : List α := (List.range i).map f ++ rows.drop i
end Go.Proofs.YtbblefjbgbocoaaGreatDoor

/-
  The law's text for a mark.
  Conditions: none.
-/
open Go Go.AM Go.Proofs
namespace Go.Proofs.YtbblefjbgbocoaaGreatDoor
open Go.ChangeShapes Go.WideShapes Go.ChangeAt Go.RowKit
set_option linter.unusedVariables false
set_option linter.unusedSimpArgs false
set_option maxRecDepth 100000
-- 62 loop.example/prologserver/laws.markText params 1 ntmps 20
-- loop head live: [0,3]
end Go.Proofs.YtbblefjbgbocoaaGreatDoor

/-
  Terms are marked, and looked at again.
  Conditions: none.
-/
open Go Go.AM Go.Proofs
namespace Go.Proofs.YtbblefjbgbocoaaGreatDoor
open Go.ChangeShapes Go.WideShapes Go.ChangeAt Go.RowKit
set_option linter.unusedVariables false
set_option linter.unusedSimpArgs false
set_option maxRecDepth 100000
/-- a term's cells, its kids cut off -/
def srow (t : Tm) (v : Value) : List D := [.int .i64 t.k, .int .i64 t.n, .str t.s, .v v]
def ktree (t : Tm) (v : Value) : Ob := .tree v (t.kids.map Tm.row)
theorem strip_terms : ∀ (l : List Tm) (vs : List Value), vs.length = l.length → Strip (l.map Tm.row).flatten (List.zipWith srow l vs).flatten (List.zipWith ktree l vs)
  | [], [], _ => ⟨rfl, rfl⟩
  | [], _ :: _, h => by simp at h
  | _ :: _, [], h => by simp at h
  | t :: l, v :: vs, h => by
    simp only [List.map_cons, List.flatten_cons, List.zipWith_cons_cons, row_eq, srow, List.cons_append, List.nil_append]
    exact ⟨_, rfl, _, rfl, _, rfl, _, _, _, rfl, rfl, strip_terms l vs (by simpa using h)⟩
theorem zip_lens {l : List Tm} {vs : List Value} (h : vs.length = l.length) : (List.zipWith srow l vs).map List.length = (l.map Tm.row).map List.length := by
  refine List.ext_getElem? fun i => ?_
  rcases Nat.lt_or_ge i l.length with hi | hi
  · simp [List.getElem?_zipWith, hi, h, row_len, srow]
  · rw [List.getElem?_eq_none (by simp [h]; omega), List.getElem?_eq_none (by simp; omega)]
end Go.Proofs.YtbblefjbgbocoaaGreatDoor

/-
  Copies of terms that stand in arrays of their own.
  Conditions: none.
-/
open Go Go.AM Go.Proofs
namespace Go.Proofs.YtbblefjbgbocoaaGreatDoor
open Go.ChangeShapes Go.WideShapes Go.ChangeAt Go.RowKit
set_option linter.unusedVariables false
set_option linter.unusedSimpArgs false
set_option maxRecDepth 100000
namespace Own
end Own
/-- what is handed out: rows in an array of their own -/
def HandsRows (rows : List (List D)) (r : A) (H : Heap) : Prop := ∃ v : Value, r = .c (.d (.v v)) ∧ H = [.tree v rows]
theorem HandsRows.handed {rows : List (List D)} {r : A} {H : Heap} (h : HandsRows rows r H) : Handed r H := by
  obtain ⟨v, rfl, rfl⟩ := h
  exact ⟨rfl, rfl⟩
/-- .. a term -/
def HandsTm (t : Tm) (r : A) (H : Heap) : Prop := ∃ v : Value, r = .agg [.d (.int .i64 t.k), .d (.int .i64 t.n), .d (.str t.s), .d (.v v)] ∧ H = [.tree v (t.kids.map Tm.row)]
theorem HandsTm.handed {t : Tm} {r : A} {H : Heap} (h : HandsTm t r H) : Handed r H := by
  obtain ⟨v, rfl, rfl⟩ := h
  exact ⟨rfl, rfl⟩
theorem zip_snoc {α β γ : Type} (f : α → β → γ) (l : List α) (vs : List β) (v : β) (h : vs.length < l.length) : List.zipWith f l (vs ++ [v]) = List.zipWith f l vs ++ [f l[vs.length] v] := by
  induction vs generalizing l with
  | nil => cases l with
    | nil => simp at h
    | cons x l => simp
  | cons w vs ih => cases l with
    | nil => simp at h
    | cons x l => simp only [List.cons_append, List.zipWith_cons_cons, List.length_cons, List.getElem_cons_succ]; rw [ih l (by simpa using h)]
end Go.Proofs.YtbblefjbgbocoaaGreatDoor

/-
  The program's copies of terms stand in arrays of their own.
  Conditions: none.
-/
open Go Go.AM Go.Proofs
namespace Go.Proofs.YtbblefjbgbocoaaGreatDoor
open Go.ChangeShapes Go.WideShapes Go.ChangeAt Go.RowKit
set_option linter.unusedVariables false
set_option linter.unusedSimpArgs false
set_option maxRecDepth 100000
namespace Own
end Own
theorem allLen_zip (l : List Tm) (vs : List Value) : allLen 4 (List.zipWith srow l vs) := by
  induction l generalizing vs with
  | nil => intro r hr; simp at hr
  | cons t l ih =>
    cases vs with
    | nil => intro r hr; simp at hr
    | cons v vs =>
      intro r hr
      rw [List.zipWith_cons_cons] at hr
      rcases List.mem_cons.1 hr with rfl | hr
      · rfl
      · exact ih vs r hr
end Go.Proofs.YtbblefjbgbocoaaGreatDoor

/-
  Copies of terms of the reference that stand in arrays of their own.
  Conditions: none.
-/
open Go Go.AM Go.Proofs
namespace Go.Proofs.YtbblefjbgbocoaaGreatDoor
open Go.ChangeShapes Go.WideShapes Go.ChangeAt Go.RowKit
set_option linter.unusedVariables false
set_option linter.unusedSimpArgs false
set_option maxRecDepth 100000
namespace OwnC
-- 59 loop.example/prologserver/spec.l1Copy params 1 ntmps 31
-- loop head live: [1,2,3,4]
def ac59 : Cd := .seq (.region [⟨(some 1),.box (.t 0),none⟩,
 ⟨(some 2),.alloc [(.d (.int .i64 0)),(.d (.int .i64 0)),(.d (.str [])),(.full [])],none⟩] [0])
 (.seq (.region [⟨(some 5),.fieldAddr 0 (.t 1),none⟩,
 ⟨(some 6),.load none (.t 5),none⟩,
 ⟨(some 7),.fieldAddr 1 (.t 1),none⟩,
 ⟨(some 8),.load none (.t 7),none⟩,
 ⟨(some 9),.fieldAddr 2 (.t 1),none⟩,
 ⟨(some 10),.load none (.t 9),none⟩,
 ⟨(some 11),.build [(.d (.int .i64 0)),(.d (.int .i64 0)),(.d (.str [])),(.full [])] [(0,1,(.t 6)),(1,1,(.t 8)),(2,1,(.t 10))],none⟩,
 ⟨(some 3),.alloc [(.d (.int .i64 0)),(.d (.int .i64 0)),(.d (.str [])),(.full [])],none⟩,
 ⟨none,.store 4 (.t 3) (.t 11),none⟩] [5,6,7,8,9,10,11])
 (.seq (.seq (.region [⟨(some 4),.mv (.k (.c (.d (.int .i64 0)))),none⟩] [])
 (.block 0 (.loop (.seq (.seq (.region [⟨(some 12),.mv (.t 4),none⟩,
 ⟨(some 13),.fieldAddr 3 (.t 1),none⟩,
 ⟨(some 14),.load none (.t 13),none⟩,
 ⟨(some 15),.len 1 (.t 14),none⟩,
 ⟨(some 16),.bin .lss (.t 12) (.t 15),none⟩] [12,13,14,15])
 (.cond (.t 16)
 (.skip)
 (.exit 0)))
 (.seq (.block 1 (.region [⟨(some 19),.fieldAddr 3 (.t 3),none⟩,
 ⟨(some 21),.fieldAddr 3 (.t 1),none⟩,
 ⟨(some 23),.mv (.t 4),none⟩,
 ⟨(some 20),.loadL false none (.t 19),none⟩,
 ⟨(some 22),.load none (.t 21),none⟩,
 ⟨(some 24),.indexAddr 4 (.t 22) (.t 23),none⟩,
 ⟨(some 25),.load (some 4) (.t 24),none⟩,
 ⟨(some 26),.callL false false 59 [(.t 25)],none⟩,
 ⟨(some 27),.buildSlice 4 1 [(.int .i64 0),(.int .i64 0),(.str []),(.sl [])] [(0,(.t 26))],none⟩,
 ⟨(some 28),.append false 4 (.t 20) (.t 27),none⟩,
 ⟨(some 29),.fieldAddr 3 (.t 3),none⟩,
 ⟨none,.store 1 (.t 29) (.t 28),none⟩] [16,19,20,21,22,23,24,25,26,27,28,29]))
 (.region [⟨(some 17),.mv (.t 4),none⟩,
 ⟨(some 18),.bin .add (.t 17) (.k (.c (.d (.int .i64 1)))),none⟩,
 ⟨(some 4),.mv (.t 18),none⟩] [17,18]))))))
 (.seq (.region [⟨(some 30),.load (some 4) (.t 3),none⟩,
 ⟨none,.store 4 (.t 2) (.t 30),none⟩] [3,30])
 (.ret))))
theorem ac59_ok : cFunc Tryz.prog [5000019,6000059] [(0,[0],[]),(1,[5,6,7,8,9,10,11],[]),(2,[],[]),(3,[12,13,14,15],[]),(5,[16,19,20,21,22,23,24,25,26,27,28,29],[0,2,4,1,3,5,6,7,8,9,10,11]),(4,[17,18],[]),(6,[3,30],[])] Tryz.f59 = some (ac59,[.cell 2 (some 4)],31) := by kernel_rfl
end OwnC
def CopyOk (t : Tm) : Prop := ACalls Tryz.prog 59 [.agg (t.row.map .d)] [] (HandsTm t)
theorem copyO_calls : ∀ t : Tm, t.fits → CopyOk t := by
  refine Tm.ind fun k n s l ih hfits => ?_
  obtain ⟨hk, hn, hs, hl, hkids⟩ := hfits
  refine acallsT Tryz.func59 (by kernel_rfl) OwnC.ac59_ok ?_
  have hli : inR .i64 (l.length : Int) := small_i64 (by omega) (by omega)
  simp -implicitDefEqProofs [OwnC.ac59, row_mk, hli, go_sem, -List.set_cons_succ, -List.set_cons_zero]
  refine loop_enter (St.le_tokenC 2 3 4 rfl rfl) ?_
  refine loop_set (σ := List Value) (fun vs => [(4, .c (.d (.int .i64 vs.length)))]) (fun _ => []) (fun vs => [.cells [.d (.int .i64 k), .d (.int .i64 n), .d (.str s), .d (.sl (l.map Tm.row))], .cells [.d (.int .i64 0), .d (.int .i64 0), .d (.str []), .full []], .cells [.d (.int .i64 k), .d (.int .i64 n), .d (.str s), .own (.l 3) vs.length (List.zipWith srow l vs)], .grow vs.length 4] ++ List.zipWith ktree l vs)
    (fun vs => vs.length ≤ l.length) (fun vs => l.length - vs.length) [] (by simp [setAll]) (Nat.zero_le _) ?_
  intro vs hi
  simp -implicitDefEqProofs [setAll, hli, go_sem, -List.set_cons_succ, -List.set_cons_zero]
  refine ⟨fun hlt => ?_, fun hge => ?_⟩
  · have hadd : inR .i64 ((vs.length : Int) + 1) := small_i64 (by omega) (by omega)
    refine row_of hlt (row_len _) ?_
    simp -implicitDefEqProofs [row_len, take_row, pure_d, re_d, go_sem, -List.set_cons_succ, -List.set_cons_zero]
    refine call_loc (J := []) (ih l[vs.length] (List.getElem_mem hlt) (hkids _ (List.getElem_mem hlt))) (fun r H' h => h.handed) (by simp [ktree, Ob.re, C.re, Ref.re, List.map_zipWith]) (.cons (.agg (fzCs_id _)) .nil) List.nodup_nil rfl rfl ?_
    rintro _ _ ⟨v, rfl, rfl⟩ _
    refine ⟨LocSame.push _ _, ?_⟩
    simp -implicitDefEqProofs [putAll, hadd, go_sem, -List.set_cons_succ, -List.set_cons_zero]
    refine ⟨allLen_zip l vs, by unfold maxApp; omega, ?_⟩
    have hs1 := zip_snoc srow l vs v hlt
    rw [srow] at hs1
    rw [← hs1]
    refine loop_back (vs ++ [v]) ?_ (by simp; omega) (by show l.length - (vs ++ [v]).length < l.length - vs.length; simp; omega)
    simp [setAll, zip_snoc ktree l vs v hlt]
    rfl
  · have hvl : vs.length = l.length := by omega
    have hn : (3 :: List.range' 4 vs.length).Nodup := List.nodup_cons.2 ⟨by simp, List.nodup_range'⟩
    refine finT_ret (.agg [.d (.int .i64 k), .d (.int .i64 n), .d (.str s), .own (.l 3) vs.length (List.zipWith srow l vs)]) ⟨trivial, trivial⟩ rfl fun kv => ⟨_, _, _, .one (.agg (.cons (.leaf rfl) (.cons (.leaf rfl) (.cons (.leaf rfl) (.cons (.own (js := List.range' 4 vs.length) rfl (by simp [hvl]) (strip_terms l vs hvl) (by rw [zip_lens hvl]) (fun m hm => ?_)) .nil))))), by simpa using hn, _, rfl, rfl⟩
    have hm' : m < vs.length := by simp at hm; omega
    exact ⟨4 + m, by simp [hm'], by rw [Nat.add_comm]; simp⟩
theorem map_row_ne {l : List Tm} (h : l ≠ []) : l.map Tm.row ≠ [] := fun e => h (by simpa using e)
/-- a copy whose arguments are an own row -/
theorem copyF_calls (k n : Int) (s : List UInt8) (l : List Tm) (hfits : (Tm.mk k n s l).fits) (hne : l ≠ []) (H : Heap) : ACalls Tryz.prog 59 [.agg ((Tm.mk k n s l).row.map .d)] H (fun r H' =>
    H' = H ++ [.rows (l.map Tm.row)] ∧ r = .agg [.d (.int .i64 k), .d (.int .i64 n), .d (.str s), .fsl (.e H.length) l.length 4]) := by
  have h1 := acalls_frame (H := H) (J := []) (H₀ := []) List.nodup_nil rfl (by simp) (.cons (.agg (fzCs_id _)) .nil) (copyO_calls _ hfits) (fun r H' h => ⟨A.port_of h.handed.1, fun o ho => Ob.isTree_of (List.all_eq_true.1 h.handed.2 o ho)⟩)
  have h2 := acalls_melt (pre := [.d (.int .i64 k), .d (.int .i64 n), .d (.str s)]) (post := []) (rows := l.map Tm.row) 4 (map_row_ne hne) (fun r hr => by obtain ⟨t, _, rfl⟩ := List.mem_map.1 hr; exact row_len t)
    (h1.mono fun r H' ⟨H₁, ⟨v, e1, e2⟩, _, e3⟩ => ⟨v, by rw [e3, e2]; rfl, by rw [e1]; rfl⟩)
  simpa using h2
end Go.Proofs.YtbblefjbgbocoaaGreatDoor

/-
  Programs and goals that are drawn for the laws of candidates.
  Conditions: none.
-/
open Go Go.AM Go.Proofs
namespace Go.Proofs.YtbblefjbgbocoaaGreatDoor
open Go.ChangeShapes Go.WideShapes Go.ChangeAt Go.RowKit
set_option linter.unusedVariables false
set_option linter.unusedSimpArgs false
set_option maxRecDepth 100000
-- 121 loop.example/prologserver/spec.l4MutateAll params 2 ntmps 40
-- loop head live: [0,1,5,6]
-- loop head live: [5]
def ac121 : Cd := .seq (.region [⟨(some 4),.mv (.k (.c (.full []))),none⟩] [4])
 (.seq (.region [⟨(some 7),.buildSlice 5 0 [(.int .i64 0),(.int .i64 0),(.str []),(.sl []),(.sl [])] [],none⟩,
 ⟨(some 5),.mv (.t 7),none⟩] [7])
 (.seq (.seq (.region [⟨(some 6),.mv (.k (.c (.d (.int .i64 0)))),none⟩] [])
 (.block 0 (.loop (.seq (.seq (.region [⟨(some 8),.mv (.t 6),none⟩,
 ⟨(some 9),.mv (.t 1),none⟩,
 ⟨(some 10),.len 1 (.t 9),none⟩,
 ⟨(some 11),.bin .lss (.t 8) (.t 10),none⟩] [8,9,10])
 (.cond (.t 11)
 (.skip)
 (.exit 0)))
 (.seq (.block 1 (.region [⟨(some 14),.mv (.t 5),none⟩,
 ⟨(some 15),.mv (.t 0),none⟩,
 ⟨(some 16),.mv (.t 1),none⟩,
 ⟨(some 17),.mv (.t 6),none⟩,
 ⟨(some 18),.indexAddr 5 (.t 16) (.t 17),none⟩,
 ⟨(some 19),.load (some 5) (.t 18),none⟩,
 ⟨(some 20),.call false 177 [(.t 15),(.t 19)],none⟩,
 ⟨(some 21),.buildSlice 5 1 [(.int .i64 0),(.int .i64 0),(.str []),(.sl []),(.sl [])] [(0,(.t 20))],none⟩,
 ⟨(some 22),.append false 5 (.t 14) (.t 21),none⟩,
 ⟨(some 5),.mv (.t 22),none⟩] [11,14,15,16,17,18,19,20,21,22]))
 (.region [⟨(some 12),.mv (.t 6),none⟩,
 ⟨(some 13),.bin .add (.t 12) (.k (.c (.d (.int .i64 1)))),none⟩,
 ⟨(some 6),.mv (.t 13),none⟩] [12,13]))))))
 (.seq (.seq (.region [⟨(some 23),.mv (.t 0),none⟩,
 ⟨(some 24),.call false 43 [(.t 23),(.k (.c (.d (.int .i64 30))))],none⟩] [0,23])
 (.block 2 (.seq (.region [⟨(some 26),.bin .eql (.t 24) (.k (.c (.d (.int .i64 0)))),none⟩,
 ⟨(some 25),.mv (.t 26),none⟩] [26])
 (.cond (.t 25)
 (.block 3 (.loop (.seq (.seq (.region [⟨(some 27),.mv (.t 5),none⟩,
 ⟨(some 28),.len 1 (.t 27),none⟩,
 ⟨(some 29),.bin .leq (.t 28) (.k (.c (.d (.int .i64 20)))),none⟩] [27,28])
 (.cond (.t 29)
 (.skip)
 (.exit 3)))
 (.block 4 (.region [⟨(some 30),.mv (.t 5),none⟩,
 ⟨(some 31),.qcall 96 [(.k (.c (.d (.str [122])))),(.k (.c (.full [])))],none⟩,
 ⟨(some 32),.build [(.d (.int .i64 0)),(.d (.int .i64 0)),(.d (.str [])),(.full []),(.full [])] [(0,4,(.t 31))],none⟩,
 ⟨(some 33),.buildSlice 5 1 [(.int .i64 0),(.int .i64 0),(.str []),(.sl []),(.sl [])] [(0,(.t 32))],none⟩,
 ⟨(some 34),.append false 5 (.t 30) (.t 33),none⟩,
 ⟨(some 5),.mv (.t 34),none⟩] [29,30,31,32,33,34])))))
 (.seq (.region [⟨(some 36),.bin .eql (.t 24) (.k (.c (.d (.int .i64 1)))),none⟩,
 ⟨(some 35),.mv (.t 36),none⟩] [24,25,36])
 (.cond (.t 35)
 (.region [⟨(some 37),.mv (.t 5),none⟩,
 ⟨(some 38),.slice 5 (.t 37) (some (.k (.c (.d (.int .i64 1))))) none none,none⟩,
 ⟨(some 5),.mv (.t 38),none⟩] [35,37,38])
 (.skip)))))))
 (.seq (.region [⟨(some 39),.mv (.t 5),none⟩,
 ⟨(some 4),.mv (.t 39),none⟩] [5,35,39])
 (.ret)))))
theorem ac121_ok : cFunc Tryz.prog [1000096] [(0,[4],[]),(1,[7],[]),(2,[],[]),(3,[8,9,10],[]),(5,[11,14,15,16,17,18,19,20,21,22],[]),(4,[12,13],[]),(6,[0,23],[]),(7,[26],[]),(8,[27,28],[]),(9,[29,30,31,32,33,34],[]),(10,[24,25,36],[]),(11,[35,37,38],[]),(12,[5,35,39],[])] Tryz.f121 = some (ac121,[.tmp 4],40) := by kernel_rfl
-- 72 loop.example/prologserver/spec.DrawClausesFor params 1 ntmps 36
def ac72 : Cd := .seq (.region [⟨(some 2),.mv (.k (.c (.full []))),none⟩,
 ⟨(some 3),.alloc [(.d (.int .i64 0)),(.d (.int .i64 0)),(.d (.str [])),(.full [])],none⟩] [2])
 (.seq (.region [⟨(some 6),.mv (.t 0),none⟩,
 ⟨(some 7),.call false 39 [(.t 6)],none⟩,
 ⟨(some 4),.mv (.t 7),none⟩] [0,6,7])
 (.seq (.region [⟨(some 8),.mv (.t 4),none⟩,
 ⟨(some 9),.mv (.t 4),none⟩,
 ⟨(some 10),.call false 95 [(.t 9)],none⟩,
 ⟨(some 11),.call false 121 [(.t 8),(.t 10)],none⟩,
 ⟨(some 5),.mv (.t 11),none⟩] [8,9,10,11])
 (.seq (.seq (.region [⟨(some 12),.mv (.t 5),none⟩,
 ⟨(some 13),.len 1 (.t 12),none⟩,
 ⟨(some 14),.bin .eql (.t 13) (.k (.c (.d (.int .i64 0)))),none⟩,
 ⟨(some 15),.mv (.t 14),none⟩,
 ⟨(some 16),.mv (.t 4),some (15,false)⟩,
 ⟨(some 17),.call false 43 [(.t 16),(.k (.c (.d (.int .i64 4))))],some (15,false)⟩,
 ⟨(some 18),.bin .eql (.t 17) (.k (.c (.d (.int .i64 0)))),some (15,false)⟩,
 ⟨(some 19),.pick (.t 15) (.k (.c (.d (.bool true)))) (.t 18),none⟩] [12,13,14,15,16,17,18])
 (.cond (.t 19)
 (.seq (.region [⟨(some 20),.mv (.t 5),none⟩,
 ⟨(some 21),.mv (.t 4),none⟩,
 ⟨(some 22),.mv (.t 4),none⟩,
 ⟨(some 23),.call false 123 [(.t 22)],none⟩,
 ⟨(some 24),.call false 122 [(.t 21),(.t 23)],none⟩,
 ⟨(some 2),.mv (.t 20),none⟩,
 ⟨none,.store 4 (.t 3) (.t 24),none⟩] [4,5,19,20,21,22,23,24])
 (.ret))
 (.skip)))
 (.seq (.region [⟨(some 25),.mv (.t 5),none⟩,
 ⟨(some 26),.mv (.t 4),none⟩,
 ⟨(some 27),.mv (.t 5),none⟩,
 ⟨(some 28),.mv (.t 4),none⟩,
 ⟨(some 29),.mv (.t 5),none⟩,
 ⟨(some 30),.len 1 (.t 29),none⟩,
 ⟨(some 31),.call false 43 [(.t 28),(.t 30)],none⟩,
 ⟨(some 32),.indexAddr 5 (.t 27) (.t 31),none⟩,
 ⟨(some 33),.fieldAddr 0 (.t 32),none⟩,
 ⟨(some 34),.load (some 4) (.t 33),none⟩,
 ⟨(some 35),.call false 122 [(.t 26),(.t 34)],none⟩,
 ⟨(some 2),.mv (.t 25),none⟩,
 ⟨none,.store 4 (.t 3) (.t 35),none⟩] [4,5,19,25,26,27,28,29,30,31,32,33,34,35])
 (.ret)))))
theorem ac72_ok : cFunc Tryz.prog [] [(0,[2],[]),(1,[0,6,7],[]),(2,[8,9,10,11],[]),(3,[12,13,14,15,16,17,18],[]),(4,[4,5,19,20,21,22,23,24],[]),(5,[4,5,19,25,26,27,28,29,30,31,32,33,34,35],[])] Tryz.f72 = some (ac72,[.tmp 2,.cell 3 (some 4)],36) := by kernel_rfl
def ClsR (n : Nat) (r : A) : Prop := ∃ p : List Cl, r = .c (.d (.sl (p.map Cl.row))) ∧ p.length ≤ n ∧ ∀ c ∈ p, c.fits
theorem ClsR.re {m n : Nat} {r : A} (h : ClsR m r) : A.re n r = r := by
  obtain ⟨l, rfl, _⟩ := h
  rfl
def clZ : Cl := ⟨.mk 3 0 [122] [], []⟩
theorem clZ_fits : clZ.fits := ⟨fits_st (by decide) (by simp) (by simp), by simp [clZ], by simp [clZ]⟩
theorem mutAllC_draws (l : List Cl) (hl : 1 ≤ l.length ∧ l.length ≤ 20) (hft : ∀ c ∈ l, c.fits ∧ c.body.length ≤ 900) : Draws 121 [.c (.d (.sl (l.map Cl.row)))] 26000 (ClsR 21) := fun c p H i hc hp hp1 hi => by
  refine acalls Tryz.func121 (by kernel_rfl) ac121_ok fun hf => ?_
  simp only [List.length_set] at hf
  have hf0 : ∀ q, Obs.fits H.length 0 (H.set i (Rd c q)) := fun q => fits_reset (b := Rd c q) hf ⟨trivial, trivial, trivial⟩
  have hf1 : ∀ q, Obs.fits (H.set i (Rd c q)).length 0 (H.set i (Rd c q)) := fun q => by simpa using hf0 q
  have hli : inR .i64 (l.length : Int) := small_i64 (by omega) (by omega)
  simp -implicitDefEqProofs [ac121, hf0, go_sem, -List.set_cons_succ, -List.set_cons_zero]
  refine loop_enter (St.le_token 5 5 rfl) ?_
  refine loop_set (σ := Nat × List Cl × Int) (fun x => [(6, .c (.d (.int .i64 x.1))), (5, .c (.own (.l 0) x.2.1.length (x.2.1.map Cl.row)))]) (fun x => H.set i (Rd c x.2.2)) (fun x => [.grow x.2.1.length 5])
    (fun x => x.1 ≤ l.length ∧ x.2.1.length = x.1 ∧ p ≤ x.2.2 ∧ x.2.2 ≤ p + 1284 * x.1 ∧ ∀ t ∈ x.2.1, t.fits) (fun x => l.length - x.1) (0, [], p) (by simp [setAll]) ⟨Nat.zero_le _, rfl, Int.le_refl _, by simp, by simp⟩ ?_
  rintro ⟨k, out, q⟩ ⟨hk, hol, hq1, hq2, hout⟩
  simp only at hk hol hq1 hq2 hout
  simp -implicitDefEqProofs [setAll, hli, hf0, go_sem, -List.set_cons_succ, -List.set_cons_zero]
  refine ⟨fun hlt => ?_, fun hge => ?_⟩
  · have hadd : inR .i64 ((k : Int) + 1) := small_i64 (by omega) (by omega)
    obtain ⟨hcf, hcb⟩ := hft _ (List.getElem_mem hlt)
    refine row_of hlt rfl ?_
    simp -implicitDefEqProofs [crow_len, hf0, go_sem, -List.set_cons_succ, -List.set_cons_zero]
    rw [show (l[k].row.map C.d).take 5 = l[k].row.map C.d from rfl]
    refine call_drawE (mutC_draws l[k] hcf hcb) hc (by omega) (by omega) hi (by simp [Ob.re, C.re]) (fun r => ClR.re) (hf0 _) ?_
    rintro _ q2 ⟨t, rfl, ht, _⟩ h5 h6
    simp -implicitDefEqProofs [hadd, crow_len, toDs_map, hf0, go_sem, -List.set_cons_succ, -List.set_cons_zero]
    refine ⟨allLen_map crow_len, by unfold maxApp; omega, ?_⟩
    refine loop_back (k + 1, out ++ [t], q2) (by simp [setAll]) ⟨hlt, by simp; omega, by dsimp only; omega, by dsimp only; omega, fun x hx => ?_⟩ (by show l.length - (k + 1) < l.length - k; omega)
    rcases List.mem_append.1 hx with hx | hx
    · exact hout x hx
    · simp at hx; subst hx; exact ht
  · refine call_drawE (pick_draws 30 (by omega)) hc (by omega) (by omega) hi (by simp [Ob.re, C.re]) (fun r => IntIn.re) (hf0 _) ?_
    rintro _ q2 ⟨m, rfl, m0, m1⟩ h5 h6
    have done : ∀ (out : List Cl), out.length ≤ 21 → (∀ t ∈ out, t.fits) → ∀ r, r = .c (.d (.sl (out.map Cl.row))) → Drew (ClsR 21) 26000 c p H i r (H.set i (Rd c q2)) := fun out a1 a2 r hr => ⟨⟨out, hr, a1, a2⟩, q2, by omega, by omega, rfl⟩
    simp -implicitDefEqProofs [hf0, go_sem, -List.set_cons_succ, -List.set_cons_zero]
    refine ⟨fun h0 => ?_, fun h0 => ⟨fun h1 => ⟨allLen_map crow_len, by omega, ?_⟩, fun h1 => done out (by omega) hout _ rfl⟩⟩
    · refine loop_set (σ := List Cl) (fun x => [(5, .c (.own (.l 0) x.length (x.map Cl.row)))]) (fun x => H.set i (Rd c q2)) (fun x => [.grow x.length 5]) (fun x => x.length ≤ 21 ∧ ∀ t ∈ x, t.fits) (fun x => 21 - x.length) out (by simp [setAll]) ⟨by omega, hout⟩ ?_
      rintro x ⟨hx, hxf⟩
      have hxl : inR .i64 (x.length : Int) := small_i64 (by omega) (by omega)
      simp -implicitDefEqProofs [setAll, hxl, hf0, go_sem, -List.set_cons_succ, -List.set_cons_zero]
      have hst := struct_calls [122] [] (by simp)
      simp only [List.map_nil] at hst
      refine ⟨fun hlt => ?_, fun hge => ?_⟩
      · refine qcall_pure hst (hf1 _) (by simp [A.re, re_d]) ?_
        simp -implicitDefEqProofs [row_mk, hf0, go_sem, -List.set_cons_succ, -List.set_cons_zero]
        refine ⟨allLen_map crow_len, by unfold maxApp; omega, ?_⟩
        refine loop_back (x ++ [clZ]) (by simp [setAll, clZ, Cl.row, Tm.k, Tm.n, Tm.s, Tm.kids]) ⟨by simp; omega, fun t ht => ?_⟩ (by show 21 - (x ++ [clZ]).length < 21 - x.length; simp; omega)
        rcases List.mem_append.1 ht with ht | ht
        · exact hxf t ht
        · simp at ht; subst ht; exact clZ_fits
      · exact done x hx hxf _ rfl
    · refine done out.tail (by simp; omega) (fun t ht => hout t (List.mem_of_mem_tail ht)) _ (by rw [List.map_tail])
/-- a program and a goal -/
def PgGoalR (r : A) : Prop := ∃ (p : List Cl) (t : Tm), r = .tup [.c (.d (.sl (p.map Cl.row))), .agg (t.row.map .d)] ∧ (p.length ≤ 21 ∧ ∀ c ∈ p, c.fits) ∧ t.fits
theorem PgGoalR.re {n : Nat} {r : A} (h : PgGoalR r) : A.re n r = r := by
  obtain ⟨p, t, rfl, _⟩ := h
  simp [A.re, A.res, C.re, re_d]
theorem valid_body {c : Cl} (h : c.validB = true) : c.body.length ≤ 900 := by
  simp only [Cl.validB, Bool.and_eq_true, goalsB, decide_eq_true_eq] at h
  omega
theorem drawCf_calls (c : List UInt8) (hc : c.length ≤ 1048576) (H : Heap) : ACalls Tryz.prog 72 [.c (.d (.sl (bytesRows c)))] H (fun r H' => H' = H ∧ PgGoalR r) := by
  refine acalls Tryz.func72 (by kernel_rfl) ac72_ok fun hf => ?_
  simp -implicitDefEqProofs [ac72, hf, go_sem, -List.set_cons_succ, -List.set_cons_zero]
  refine (open_calls c hc _).mono fun r H' ⟨h1, c', hc', h2⟩ => ⟨H, [.cells [.d (.int .i64 0), .d (.int .i64 0), .d (.str []), .full []], Rd c' 0], .c (.ptr (.l 1) 0), by rw [h2]; simp [Rd, Ob.re, C.re], rfl, by simp, hf, by rw [h1]; simp [A.re, C.re, Ref.re], ?_⟩
  simp -implicitDefEqProofs [hf, go_sem, -List.set_cons_succ, -List.set_cons_zero]
  refine call_drawL (j := 1) program_draws hc' (by omega) (by omega) rfl (by simp [Rd, Ob.re, C.re]) (fun r => PgR.re) hf ?_
  rintro _ p1 ⟨l, rfl, hl1, hl5, hft⟩ h3 h4
  simp -implicitDefEqProofs [hf, go_sem, -List.set_cons_succ, -List.set_cons_zero]
  refine call_drawL (j := 1) (mutAllC_draws l ⟨hl1, by omega⟩ fun c hcm => ⟨(hft c hcm).1, valid_body (hft c hcm).2⟩) hc' (by omega) (by omega) rfl (by simp [Rd, Ob.re, C.re]) (fun r => ClsR.re) hf ?_
  rintro _ p2 ⟨q, rfl, hq, hqf⟩ h5 h6
  have hqi : inR .i64 (q.length : Int) := small_i64 (by omega) (by omega)
  simp -implicitDefEqProofs [hf, hqi, go_sem, -List.set_cons_succ, -List.set_cons_zero]
  refine ⟨fun hne => ⟨hne, ?_⟩, fun he => ?_⟩
  · refine call_drawL (j := 1) (pick_draws 4 (by omega)) hc' (by omega) (by omega) rfl (by simp [Rd, Ob.re, C.re]) (fun r => IntIn.re) hf ?_
    rintro _ p3 ⟨m, rfl, m0, m1⟩ g1 g2
    have hql : 1 ≤ q.length := by cases q with | nil => exact absurd rfl hne | cons a l => simp
    have hne0 : ((q.length : Int) == 0) = false := by simp; omega
    simp -implicitDefEqProofs [hf, hqi, hne, hne0, go_sem, -List.set_cons_succ, -List.set_cons_zero]
    refine ⟨fun hm0 => ?_, fun hm0 => ?_⟩
    · refine call_drawL (j := 1) l1Some_draws hc' (by omega) (by omega) rfl (by simp [Rd, Ob.re, C.re]) (fun r => TmR.re) hf ?_
      rintro _ p4 ⟨t, rfl, ht⟩ g3 g4
      simp -implicitDefEqProofs [row_len, take_row, pure_d, re_d, hf, go_sem, -List.set_cons_succ, -List.set_cons_zero]
      refine call_drawL (j := 1) (l1Mutate_draws t ht) hc' (by omega) (by omega) rfl (by simp [Rd, Ob.re, C.re]) (fun r => TmR.re) hf ?_
      rintro _ p5 ⟨t2, rfl, ht2⟩ g5 g6
      simp -implicitDefEqProofs [row_len, take_row, pure_d, re_d, thaw_d, fits_map, hf, splice_all, cut_all, go_sem, -List.set_cons_succ, -List.set_cons_zero]
      exact ⟨q, t2, rfl, ⟨hq, hqf⟩, ht2⟩
    · refine call_drawL (j := 1) (pick_draws q.length (by omega)) hc' (by omega) (by omega) rfl (by simp [Rd, Ob.re, C.re]) (fun r => IntIn.re) hf ?_
      rintro _ p4 ⟨k, rfl, k0, k1⟩ g3 g4
      have hkl : k.toNat < q.length := by omega
      simp -implicitDefEqProofs [hf, go_sem, -List.set_cons_succ, -List.set_cons_zero]
      refine row_int q[k.toNat].row k0 (by simp [hkl]) rfl ?_
      simp -implicitDefEqProofs [Cl.row, hf, go_sem, -List.set_cons_succ, -List.set_cons_zero]
      have hd := l1Mutate_draws q[k.toNat].head (hqf _ (List.getElem_mem hkl)).head
      rw [row_eq] at hd
      simp only [List.map_cons, List.map_nil] at hd
      refine call_drawL (j := 1) hd hc' (by omega) (by omega) rfl (by simp [Rd, Ob.re, C.re]) (fun r => TmR.re) hf ?_
      rintro _ p5 ⟨t2, rfl, ht2⟩ g5 g6
      simp -implicitDefEqProofs [row_len, take_row, pure_d, re_d, thaw_d, fits_map, hf, splice_all, cut_all, go_sem, -List.set_cons_succ, -List.set_cons_zero]
      exact ⟨q, t2, rfl, ⟨hq, hqf⟩, ht2⟩
  · refine call_drawL (j := 1) l1Some_draws hc' (by omega) (by omega) rfl (by simp [Rd, Ob.re, C.re]) (fun r => TmR.re) hf ?_
    rintro _ p4 ⟨t, rfl, ht⟩ g3 g4
    simp -implicitDefEqProofs [row_len, take_row, pure_d, re_d, hf, go_sem, -List.set_cons_succ, -List.set_cons_zero]
    refine call_drawL (j := 1) (l1Mutate_draws t ht) hc' (by omega) (by omega) rfl (by simp [Rd, Ob.re, C.re]) (fun r => TmR.re) hf ?_
    rintro _ p5 ⟨t2, rfl, ht2⟩ g5 g6
    simp -implicitDefEqProofs [row_len, take_row, pure_d, re_d, thaw_d, fits_map, hf, splice_all, cut_all, go_sem, -List.set_cons_succ, -List.set_cons_zero]
    exact ⟨q, t2, rfl, ⟨hq, hqf⟩, ht2⟩
end Go.Proofs.YtbblefjbgbocoaaGreatDoor
