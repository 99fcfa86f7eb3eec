/-
  Contracts of functions that the law reaches, and plain lemmas: several texts in one.
  Conditions: none.
-/
import Derived.Test.YtbblefjbgbocoaaGreatDoorBundC
import Derived.Test.YtbblefjbgbocoaaGreatDoorBundA
import Derived.Test.YtbblefjbgbocoaaGreatDoorBundB
import Derived.Test.YtbblefjbgbocoaaGreatDoorAbsN
open Go Go.AM Go.Proofs
attribute [local go_sem] kw ew sw tw a_ b_ c_ A.ok A.val d_ e_ f_ g_ h_ i_ j_ k_ l_ m_ unA unD n_ AOp.total o_ p_ q_ r_ s_ t_ u_ v_ A.thaw C.thaw A.fits As.fits C.fits evs oks w_ A.pure C.pure A.re C.re x_ y_ cut A.cells C.rows? z_ A_ B_ C_ a0_ b0_ D_ Ob.re Cs.fits E_ F_ G_ H_ I_ J_ K_ L_ M_ N_ O_ C.toD P_ Q_ R_ S_ T_ Obs.fits U_ eqD V_ W_ X_ Y_ Z_
/-
  What is drawn for the laws of candidates.
  Conditions: none.
-/
open Go Go.AM Go.Proofs
namespace Go.Proofs.YtbblefjbgbocoaaGreatDoor
open Go.ChangeShapes Go.WideShapes Go.ChangeAt Go.RowKit
set_option linter.unusedVariables false
set_option linter.unusedSimpArgs false
set_option maxRecDepth 100000
-- 29 loop.example/prologserver/spec.DrawCandidates params 1 ntmps 32
def ac29 : Cd := .seq (.region [⟨(some 2),.mv (.k (.c (.full []))),none⟩,
 ⟨(some 3),.alloc [(.d (.int .i64 0)),(.d (.int .i64 0)),(.d (.str [])),(.full [])],none⟩] [2])
 (.seq (.region [⟨(some 8),.mv (.t 0),none⟩,
 ⟨(some 9),.call false 72 [(.t 8)],none⟩,
 ⟨(some 7),.mv (.t 9),none⟩,
 ⟨(some 10),.extract 0 (.t 7),none⟩,
 ⟨(some 11),.extract 1 (.t 7),none⟩,
 ⟨(some 5),.alloc [(.d (.int .i64 0)),(.d (.int .i64 0)),(.d (.str [])),(.full [])],none⟩,
 ⟨(some 4),.mv (.t 10),none⟩,
 ⟨none,.store 4 (.t 5) (.t 11),none⟩] [7,8,9,10,11])
 (.seq (.region [⟨(some 12),.mv (.t 0),none⟩,
 ⟨(some 13),.call false 39 [(.t 12)],none⟩,
 ⟨(some 6),.mv (.t 13),none⟩] [0,12,13])
 (.seq (.seq (.region [⟨(some 14),.fieldAddr 3 (.t 5),none⟩,
 ⟨(some 15),.load none (.t 14),none⟩,
 ⟨(some 16),.len 1 (.t 15),none⟩,
 ⟨(some 17),.bin .gtr (.t 16) (.k (.c (.d (.int .i64 0)))),none⟩,
 ⟨(some 18),.mv (.t 17),none⟩,
 ⟨(some 19),.mv (.t 6),some (18,true)⟩,
 ⟨(some 20),.call false 43 [(.t 19),(.k (.c (.d (.int .i64 2))))],some (18,true)⟩,
 ⟨(some 21),.bin .eql (.t 20) (.k (.c (.d (.int .i64 0)))),some (18,true)⟩,
 ⟨(some 22),.pick (.t 18) (.t 21) (.k (.c (.d (.bool false)))),none⟩] [14,15,16,17,18,19,20,21])
 (.cond (.t 22)
 (.seq (.region [⟨(some 23),.load (some 4) (.t 5),none⟩,
 ⟨(some 24),.call false 59 [(.t 23)],none⟩,
 ⟨none,.store 4 (.t 5) (.t 24),none⟩] [22,23,24])
 (.region [⟨(some 25),.fieldAddr 3 (.t 5),none⟩,
 ⟨(some 27),.mv (.t 6),none⟩,
 ⟨(some 26),.loadL false none (.t 25),none⟩,
 ⟨(some 28),.callL false false 73 [(.t 27),(.k (.c (.d (.int .i64 2))))],none⟩,
 ⟨(some 29),.indexAddr 4 (.t 26) (.k (.c (.d (.int .i64 0)))),none⟩,
 ⟨none,.store 4 (.t 29) (.t 28),none⟩] [6,25,26,27,28,29]))
 (.skip)))
 (.seq (.region [⟨(some 30),.mv (.t 4),none⟩,
 ⟨(some 2),.mv (.t 30),none⟩,
 ⟨(some 31),.load (some 4) (.t 5),none⟩,
 ⟨none,.store 4 (.t 3) (.t 31),none⟩] [4,5,6,22,30,31])
 (.ret)))))
theorem ac29_ok : cFunc Tryz.prog [5000025,6000073] [(0,[2],[]),(1,[7,8,9,10,11],[]),(2,[0,12,13],[]),(3,[14,15,16,17,18,19,20,21],[]),(4,[22,23,24],[]),(5,[6,25,26,27,28,29],[0,2,1,3,4,5]),(6,[4,5,6,22,30,31],[0,2,1,3])] Tryz.f29 = some (ac29,[.tmp 2,.cell 3 (some 4)],32) := by kernel_rfl
theorem drawCa_calls (c : List UInt8) (hc : c.length ≤ 1048576) (H : Heap) : ACalls Tryz.prog 29 [.c (.d (.sl (bytesRows c)))] H (fun r H' => H' = H ∧ PgGoalR r) := by
  refine acalls Tryz.func29 (by kernel_rfl) ac29_ok fun hf => ?_
  simp -implicitDefEqProofs [ac29, hf, go_sem, -List.set_cons_succ, -List.set_cons_zero]
  refine call_some (drawCf_calls c hc _) (by simp [Ob.re, C.re]) (fun r => PgGoalR.re) hf ?_
  rintro _ ⟨p, ⟨k, n, s, l⟩, rfl, hp, ht⟩
  have hfits := ht
  obtain ⟨hk, hn, hs, hl, hkids⟩ := ht
  have hli : inR .i64 (l.length : Int) := small_i64 (by omega) (by omega)
  simp -implicitDefEqProofs [row_mk, hf, splice_all, cut_all, go_sem, -List.set_cons_succ, -List.set_cons_zero]
  refine (open_calls c hc _).mono fun r H' ⟨h1, c', hc', h2⟩ => ⟨H, [.cells [.d (.int .i64 0), .d (.int .i64 0), .d (.str []), .full []], .cells [.d (.int .i64 k), .d (.int .i64 n), .d (.str s), .d (.sl (l.map Tm.row))], Rd c' 0], .c (.ptr (.l 2) 0), by rw [h2]; simp [Rd, Ob.re, C.re], rfl, by simp, hf, by rw [h1]; simp [A.re, C.re, Ref.re], ?_⟩
  simp -implicitDefEqProofs [hf, hli, go_sem, -List.set_cons_succ, -List.set_cons_zero]
  have plain : ∀ t : Tm, t.fits → PgGoalR (.tup [.c (.d (.sl (p.map Cl.row))), .agg (t.row.map .d)]) := fun t ht => ⟨p, t, rfl, hp, ht⟩
  refine ⟨fun hl0 => ⟨hl0, ?_⟩, fun _ => by have := plain _ hfits; simpa [row_mk] using this⟩
  have hne : l ≠ [] := fun e => by subst e; simp at hl0
  refine call_drawL (j := 2) (pick_draws 2 (by omega)) hc' (by omega) (by omega) rfl (by simp [Rd, Ob.re, C.re]) (fun r => IntIn.re) hf ?_
  rintro _ p1 ⟨m, rfl, m0, m1⟩ g1 g2
  have hd1 : decide (0 < l.length) = true := by simpa using hl0
  simp -implicitDefEqProofs [hf, hli, hl0, hd1, hne, go_sem, -List.set_cons_succ, -List.set_cons_zero]
  refine ⟨fun hm => ?_, fun hm => by have := plain _ hfits; simpa [row_mk] using this⟩
  have hcp := copyF_calls k n s l hfits hne
  simp only [row_mk, List.map_cons, List.map_nil] at hcp
  refine (hcp _).mono fun r H' ⟨h1, h2⟩ => ⟨H, [.cells [.d (.int .i64 0), .d (.int .i64 0), .d (.str []), .full []], .cells [.d (.int .i64 k), .d (.int .i64 n), .d (.str s), .d (.sl (l.map Tm.row))], Rd c' p1, .rows (l.map Tm.row)], .agg [.d (.int .i64 k), .d (.int .i64 n), .d (.str s), .fsl (.l 3) l.length 4], by rw [h1]; simp [Rd, Ob.re, C.re], rfl, by simp, hf, by rw [h2]; simp [A.re, C.re, Ref.re], ?_⟩
  simp -implicitDefEqProofs [hf, hli, splice_all, cut_all, go_sem, -List.set_cons_succ, -List.set_cons_zero]
  refine call_drawL (j := 2) (l1Draw_draws 2 (by omega)) hc' (by omega) (by omega) rfl (by simp [Rd, Ob.re, C.re]) (fun r => TmR.re) hf ?_
  rintro _ p2 ⟨t, rfl, ht⟩ g3 g4
  refine ⟨LocSame.set (j := 2) rfl (by simp [b0_, Rd]), ?_⟩
  obtain ⟨l0, hl1⟩ : ∃ x, l[0]? = some x := ⟨l[0], by simp [hl0]⟩
  have hrow : (l.map Tm.row)[0]? = some l0.row := by simp [hl1]
  simp -implicitDefEqProofs [hl0, hrow, row_len, take_row, toDs_map, pure_d, re_d, thaw_d, fits_map, hf, spliceD_all, splice_all, cut_all, go_sem, -List.set_cons_succ, -List.set_cons_zero]
  have hft : (Tm.mk k n s (l.set 0 t)).fits := .mk hk hn hs (by simpa using hl) fun x hx => by
    rcases List.mem_or_eq_of_mem_set hx with h | rfl
    · exact hkids x h
    · exact ht
  have hd4 : List.drop 4 l[0].row = [] := List.drop_of_length_le (by rw [row_len]; exact Nat.le_refl _)
  have := plain _ hft
  simpa [row_mk, hd4, List.map_set] using this
/-- a program, a name, and a number of arguments -/
def PgDetR (r : A) : Prop := ∃ (p : List Cl) (s : List UInt8) (n : Int), r = .tup [.c (.d (.sl (p.map Cl.row))), .c (.d (.str s)), .c (.d (.int .i64 n))] ∧ (p.length ≤ 21 ∧ ∀ c ∈ p, c.fits) ∧ s.length ≤ 1048576 ∧ -1 ≤ n ∧ n ≤ 1048576
theorem PgDetR.re {n : Nat} {r : A} (h : PgDetR r) : A.re n r = r := by
  obtain ⟨p, s, m, rfl, _⟩ := h
  simp [A.re, A.res, C.re]
end Go.Proofs.YtbblefjbgbocoaaGreatDoor

/-
  impl.FirstKey, as a value.
  Conditions: none.
-/
open Go Go.AM Go.Proofs
namespace Go.Proofs.YtbblefjbgbocoaaGreatDoor
set_option linter.unusedVariables false
set_option linter.unusedSimpArgs false
set_option maxRecDepth 100000
/-- the first key of a term -/
def Tm.fkey (t : Tm) : List UInt8 := if t.valid then t.key else []
theorem fky_calls {g : Nat} {o : Obj} (hT : Tab g o) (t : Tm) (ht : t.fits) (H : Heap) (hH : H[0]? = some (.tab g o)) : ACalls Tryz.prog 35 [.agg (t.row.map .d)] H (fun r H' => H' = H ∧ r = .c (.d (.str t.fkey))) := by
  refine acalls Tryz.func35 (by kernel_rfl) ac35_ok fun hf => ?_
  simp -implicitDefEqProofs [ac35, row_len, take_row, pure_d, re_d, go_sem, -List.set_cons_succ, -List.set_cons_zero]
  refine qcall_pure (tvImpl_calls t ht) hf rfl ?_
  cases h : t.valid with
  | false => simp -implicitDefEqProofs [h, Tm.fkey, row_len, take_row, go_sem, -List.set_cons_succ, -List.set_cons_zero]
  | true =>
    simp -implicitDefEqProofs [h, Tm.fkey, row_len, take_row, pure_d, re_d, go_sem, -List.set_cons_succ, -List.set_cons_zero]
    refine qcall_tab (key_calls hT t ht) hf hH rfl ?_
    simp -implicitDefEqProofs [go_sem, -List.set_cons_succ, -List.set_cons_zero]
end Go.Proofs.YtbblefjbgbocoaaGreatDoor

/-
  Unification, in plain Lean: what variables stand for, and that it ends.
  Conditions: none.
-/
open Go Go.AM Go.Proofs
namespace Go.Proofs.YtbblefjbgbocoaaGreatDoor
set_option linter.unusedVariables false
set_option linter.unusedSimpArgs false
set_option maxRecDepth 100000
theorem good_fits : ∀ t : Tm, t.good → t.fits := by
  refine Tm.ind fun k n s l ih h => ?_
  cases h with
  | mk ho hk =>
    rcases own_cases ho with ⟨rfl, h1, h2, rfl, rfl⟩ | ⟨rfl, h1, h2, rfl, rfl⟩ | ⟨rfl, rfl, h1, h2⟩
    · exact .mk (small_i64 (by omega) (by omega)) (small_i64 (by omega) (by omega)) (by simp) (by simp) (by simp)
    · exact .mk (small_i64 (by omega) (by omega)) (small_i64 (by omega) (by omega)) (by simp) (by simp) (by simp)
    · have := name_len h1
      exact .mk (small_i64 (by omega) (by omega)) (small_i64 (by omega) (by omega)) (by omega) (by omega) fun t ht => ih t ht (hk t ht)
theorem good_kids {t : Tm} (h : t.good) : ∀ x ∈ t.kids, x.good := by
  cases h with
  | mk ho hk => exact hk
theorem good_var {t : Tm} (h : t.good) (hk : t.k = 1) : 0 ≤ t.n ∧ t.n ≤ 25 ∧ t.kids = [] ∧ t = .mk 1 t.n [] [] := by
  cases h with
  | mk ho _ =>
    rcases own_cases ho with ⟨rfl, h1, h2, rfl, rfl⟩ | ⟨rfl, h1, h2, rfl, rfl⟩ | ⟨rfl, rfl, h1, h2⟩
    · exact ⟨h1, h2, rfl, rfl⟩
    · cases hk
    · cases hk
/-! ### what variables stand for -/
abbrev Sto := List (Int × Tm)
def look : Sto → Int → Option Tm
  | [], _ => none
  | (k, t) :: l, n => if k = n then some t else look l n
theorem look_snoc : ∀ (σ : Sto) (n : Int) (t : Tm) (m : Int), look (σ ++ [(n, t)]) m = match look σ m with | some u => some u | none => if n = m then some t else none
  | [], n, t, m => by simp [look]
  | (k, u) :: σ, n, t, m => by
    simp only [List.cons_append, look]
    by_cases h : k = m
    · simp [h]
    · simp [h, look_snoc σ n t m]
theorem look_mem : ∀ {σ : Sto} {n : Int} {t : Tm}, look σ n = some t → (n, t) ∈ σ
  | (k, u) :: σ, n, t, h => by
    simp only [look] at h
    split at h
    · rename_i e; subst e; cases h; simp
    · exact List.mem_cons_of_mem _ (look_mem h)
/-! ### weights -/
mutual
def Tm.tw (W : Int → Nat) : Tm → Nat
  | .mk k n s l => if k = 1 then W n else 1 + twL W l
def twL (W : Int → Nat) : List Tm → Nat
  | [] => 0
  | t :: l => t.tw W + twL W l
end
theorem tw_mk (W : Int → Nat) (k n : Int) (s : List UInt8) (l : List Tm) : (Tm.mk k n s l).tw W = if k = 1 then W n else 1 + twL W l := by rw [Tm.tw]
theorem tw_var {W : Int → Nat} {t : Tm} (h : t.k = 1) : t.tw W = W t.n := by
  obtain ⟨k, n, s, l⟩ := t
  exact (tw_mk W k n s l).trans (if_pos h)
theorem tw_kids {W : Int → Nat} {t : Tm} (h : t.k ≠ 1) : t.tw W = 1 + twL W t.kids := by
  obtain ⟨k, n, s, l⟩ := t
  exact (tw_mk W k n s l).trans (if_neg h)
theorem twL_mem {W : Int → Nat} : ∀ {l : List Tm} {x : Tm}, x ∈ l → x.tw W ≤ twL W l
  | t :: l, x, h => by
    rw [twL]
    rcases List.mem_cons.1 h with rfl | h
    · omega
    · have := twL_mem (W := W) h; omega
theorem tw_kid {W : Int → Nat} {t x : Tm} (h : t.k ≠ 1) (hx : x ∈ t.kids) : x.tw W < t.tw W := by
  rw [tw_kids h]
  have := twL_mem (W := W) hx
  omega
/-! variables of a term -/
mutual
def Tm.vin (v : Int) : Tm → Prop
  | .mk k n s l => if k = 1 then n = v else vinL v l
def vinL (v : Int) : List Tm → Prop
  | [] => False
  | t :: l => t.vin v ∨ vinL v l
end
theorem vinL_iff {v : Int} : ∀ {l : List Tm}, vinL v l ↔ ∃ x ∈ l, x.vin v
  | [] => by simp [vinL]
  | t :: l => by rw [vinL, vinL_iff]; simp
theorem vin_var {v : Int} {t : Tm} (h : t.k = 1) : t.vin v ↔ t.n = v := by
  obtain ⟨k, n, s, l⟩ := t
  rw [Tm.vin]
  exact iff_of_eq (if_pos h)
theorem vin_kids {v : Int} {t : Tm} (h : t.k ≠ 1) : t.vin v ↔ ∃ x ∈ t.kids, x.vin v := by
  obtain ⟨k, n, s, l⟩ := t
  rw [Tm.vin]
  exact (iff_of_eq (if_neg h)).trans vinL_iff
theorem tw_congr {W W' : Int → Nat} : ∀ t : Tm, (∀ v, t.vin v → W v = W' v) → t.tw W = t.tw W' := by
  refine Tm.ind fun k n s l ih h => ?_
  rw [tw_mk, tw_mk]
  split
  · rename_i hk
    exact h n ((vin_var (t := .mk k n s l) hk).2 rfl)
  · rename_i hk
    have h2 : ∀ x ∈ l, ∀ v, x.vin v → W v = W' v := fun x hx v hv => h v ((vin_kids (t := .mk k n s l) hk).2 ⟨x, hx, hv⟩)
    clear h
    congr 1
    induction l with
    | nil => rfl
    | cons t l ih2 =>
      rw [twL, twL, ih t (by simp) (h2 t (by simp)), ih2 (fun x hx => ih x (by simp [hx])) (fun x hx => h2 x (by simp [hx]))]
theorem tw_mul {W W' : Int → Nat} {C : Nat} (hC : 1 ≤ C) (h : ∀ v, W' v ≤ C * W v) : ∀ t : Tm, t.tw W' ≤ C * t.tw W := by
  refine Tm.ind fun k n s l ih => ?_
  rw [tw_mk, tw_mk]
  split
  · exact h n
  · have : twL W' l ≤ C * twL W l := by
      induction l with
      | nil => simp [twL]
      | cons t l ih2 =>
        have h1 := ih t (by simp)
        have h2 := ih2 fun x hx => ih x (by simp [hx])
        rw [twL, twL, Nat.mul_add]
        omega
    rw [Nat.mul_add]
    omega
theorem vin_tw {W : Int → Nat} {v : Int} : ∀ t : Tm, t.vin v → W v ≤ t.tw W := by
  refine Tm.ind fun k n s l ih h => ?_
  by_cases hk : k = 1
  · rw [vin_var (t := .mk k n s l) hk] at h
    rw [tw_mk, if_pos hk, ← h]
    exact Nat.le_refl _
  · obtain ⟨x, hx, hv⟩ := (vin_kids (t := .mk k n s l) hk).1 h
    have h1 := ih x hx hv
    have h2 := tw_kid (W := W) (t := .mk k n s l) hk hx
    omega
/-- weights under which what a variable stands for is lighter than the variable -/
structure Wt (σ : Sto) (W : Int → Nat) : Prop where
  pos : ∀ n, 1 ≤ W n
  lt : ∀ n u, look σ n = some u → u.tw W < W n
/-! ### walks -/
def wkF : Nat → Sto → Tm → Tm
  | 0, _, t => t
  | f + 1, σ, t => if t.k = 1 then match look σ t.n with | some u => wkF f σ u | none => t else t
theorem wkF_eq {σ : Sto} {W : Int → Nat} (hW : Wt σ W) : ∀ (f g : Nat) (t : Tm), t.tw W ≤ f → t.tw W ≤ g → wkF f σ t = wkF g σ t := by
  intro f
  induction f with
  | zero =>
    intro g t hf hg
    by_cases hk : t.k = 1
    · rw [tw_var hk] at hf
      have := hW.pos t.n
      omega
    · cases g with
      | zero => rfl
      | succ g => simp [wkF, hk]
  | succ f ih =>
    intro g t hf hg
    cases g with
    | zero =>
      by_cases hk : t.k = 1
      · rw [tw_var hk] at hg
        have := hW.pos t.n
        omega
      · simp [wkF, hk]
    | succ g =>
      by_cases hk : t.k = 1
      · simp only [wkF, hk, if_true]
        cases hl : look σ t.n with
        | none => rfl
        | some u =>
          have := hW.lt _ _ hl
          rw [tw_var hk] at hf hg
          exact ih g u (by omega) (by omega)
      · simp [wkF, hk]
open Classical in
/-- a term, or what it stands for -/
noncomputable def wk (σ : Sto) (t : Tm) : Tm := if h : ∃ W, Wt σ W then wkF (t.tw h.choose) σ t else t
theorem wk_some {σ : Sto} (h : ∃ W, Wt σ W) {t u : Tm} (hk : t.k = 1) (hl : look σ t.n = some u) : wk σ t = wk σ u := by
  have hW := h.choose_spec
  unfold wk
  rw [dif_pos h, dif_pos h]
  have h1 := hW.lt _ _ hl
  have h2 := tw_var (W := h.choose) hk
  obtain ⟨m, hm⟩ : ∃ m, t.tw h.choose = m + 1 := ⟨t.tw h.choose - 1, by have := hW.pos t.n; omega⟩
  rw [hm]
  simp only [wkF, hk, if_true, hl]
  exact wkF_eq hW _ _ u (by omega) (Nat.le_refl _)
theorem wk_none {σ : Sto} {t : Tm} (hl : look σ t.n = none) : wk σ t = t := by
  unfold wk
  split
  · rename_i h
    generalize t.tw h.choose = f
    cases f with
    | zero => rfl
    | succ f => simp [wkF, hl]
  · rfl
theorem wk_nonvar {σ : Sto} {t : Tm} (hk : t.k ≠ 1) : wk σ t = t := by
  unfold wk
  split
  · rename_i h
    generalize t.tw h.choose = f
    cases f with
    | zero => rfl
    | succ f => simp [wkF, hk]
  · rfl
theorem wk_ind {σ : Sto} {W : Int → Nat} (hW : Wt σ W) {M : Tm → Tm → Prop} (h1 : ∀ t, t.k ≠ 1 → M t t) (h2 : ∀ t, t.k = 1 → look σ t.n = none → M t t) (h3 : ∀ t u, t.k = 1 → look σ t.n = some u → M u (wk σ u) → M t (wk σ u)) : ∀ t, M t (wk σ t) := by
  have key : ∀ (f : Nat) t, t.tw W ≤ f → M t (wk σ t) := by
    intro f
    induction f with
    | zero =>
      intro t hf
      by_cases hk : t.k = 1
      · rw [tw_var hk] at hf
        have := hW.pos t.n
        omega
      · rw [wk_nonvar hk]; exact h1 t hk
    | succ f ih =>
      intro t hf
      by_cases hk : t.k = 1
      · cases hl : look σ t.n with
        | none => rw [wk_none hl]; exact h2 t hk hl
        | some u =>
          rw [wk_some ⟨W, hW⟩ hk hl]
          have := hW.lt _ _ hl
          rw [tw_var hk] at hf
          exact h3 t u hk hl (ih u (by omega))
      · rw [wk_nonvar hk]; exact h1 t hk
  exact fun t => key _ t (Nat.le_refl _)
theorem wk_tw {σ : Sto} {W : Int → Nat} (hW : Wt σ W) (t : Tm) : (wk σ t).tw W ≤ t.tw W :=
  wk_ind hW (M := fun t u => u.tw W ≤ t.tw W) (fun t _ => Nat.le_refl _) (fun t _ _ => Nat.le_refl _) (fun t u hk hl h => by have := hW.lt _ _ hl; rw [tw_var hk]; omega) t
theorem wk_end {σ : Sto} {W : Int → Nat} (hW : Wt σ W) (t : Tm) : (wk σ t).k = 1 → look σ (wk σ t).n = none :=
  wk_ind hW (M := fun t u => u.k = 1 → look σ u.n = none) (fun t h h' => absurd h' h) (fun t _ h _ => h) (fun t u _ _ h => h) t
theorem wk_good {σ : Sto} {W : Int → Nat} (hW : Wt σ W) (hg : ∀ x ∈ σ, x.2.good) (t : Tm) (ht : t.good) : (wk σ t).good :=
  wk_ind hW (M := fun t u => t.good → u.good) (fun t _ h => h) (fun t _ _ h => h) (fun t u _ hl h _ => h (hg _ (look_mem hl))) t ht
end Go.Proofs.YtbblefjbgbocoaaGreatDoor

/-
  Unification, in plain Lean: it ends, and what it tells of keys.
  Conditions: none.
-/
open Go Go.AM Go.Proofs
namespace Go.Proofs.YtbblefjbgbocoaaGreatDoor
set_option linter.unusedVariables false
set_option linter.unusedSimpArgs false
set_option maxRecDepth 100000
/-! ### a variable in a term -/
noncomputable def occF : Nat → Sto → Int → Tm → List Int → Bool × List Int
  | 0, _, _, _, M => (false, M)
  | f + 1, σ, n, t, M =>
    if t.k = 1 then
      if t.n ∈ M then (false, M)
      else if (wk σ t).k = 1 then (decide ((wk σ t).n = n), M ++ [t.n])
      else occF f σ n (wk σ t) (M ++ [t.n])
    else anyS (fun M x => occF f σ n x M) t.kids M
theorem wk_lt {σ : Sto} {W : Int → Nat} (hW : Wt σ W) {t : Tm} (hk : t.k = 1) (hu : (wk σ t).k ≠ 1) : (wk σ t).tw W < t.tw W := by
  cases hl : look σ t.n with
  | none => rw [wk_none hl] at hu; exact absurd hk hu
  | some u =>
    rw [wk_some ⟨W, hW⟩ hk hl]
    have h1 := wk_tw hW u
    have h2 := hW.lt _ _ hl
    rw [tw_var hk]
    omega
def varT (v : Int) : Tm := .mk 1 v [] []
/-- what is known of a variable that has been met -/
def Pw (σ : Sto) (n : Int) (M : List Int) (v : Int) : Prop := ((wk σ (varT v)).k = 1 → (wk σ (varT v)).n ≠ n) ∧ ((wk σ (varT v)).k ≠ 1 → ∀ y, (wk σ (varT v)).vin y → y ∈ M)
theorem Pw.mono {σ : Sto} {n : Int} {M M' : List Int} {v : Int} (h : Pw σ n M v) (hM : ∀ y ∈ M, y ∈ M') : Pw σ n M' v := ⟨h.1, fun hk y hy => hM y (h.2 hk y hy)⟩
def OccS (σ : Sto) (n : Int) (V : Int → Prop) (M M' : List Int) : Prop := (∀ y ∈ M, y ∈ M') ∧ (∀ y, V y → y ∈ M') ∧ ∀ v ∈ M', v ∈ M ∨ Pw σ n M' v
theorem occL_spec {σ : Sto} {n : Int} (step : List Int → Tm → Bool × List Int) : ∀ (l : List Tm) (M : List Int), (∀ x ∈ l, ∀ M, (step M x).1 = false → OccS σ n (fun y => x.vin y) M (step M x).2) → (anyS step l M).1 = false → OccS σ n (fun y => ∃ x ∈ l, x.vin y) M (anyS step l M).2
  | [], M, _, _ => ⟨fun y h => h, fun y ⟨x, hx, _⟩ => by simp at hx, fun v hv => .inl hv⟩
  | t :: l, M, h, hb => by
    simp only [anyS] at hb ⊢
    cases h1 : (step M t).1 with
    | true => rw [h1] at hb; simp at hb
    | false =>
      rw [h1] at hb
      simp only [Bool.false_eq_true, if_false] at hb ⊢
      obtain ⟨a1, a2, a3⟩ := h t (by simp) M h1
      obtain ⟨b1, b2, b3⟩ := occL_spec step l (step M t).2 (fun x hx => h x (by simp [hx])) hb
      refine ⟨fun y hy => b1 y (a1 y hy), fun y ⟨x, hx, hv⟩ => ?_, fun v hv => ?_⟩
      · rcases List.mem_cons.1 hx with rfl | hx
        · exact b1 y (a2 y hv)
        · exact b2 y ⟨x, hx, hv⟩
      · rcases b3 v hv with h2 | h2
        · rcases a3 v h2 with h3 | h3
          · exact .inl h3
          · exact .inr (h3.mono b1)
        · exact .inr h2
theorem occF_spec {σ : Sto} {W : Int → Nat} (hW : Wt σ W) (hg : ∀ x ∈ σ, x.2.good) (n : Int) : ∀ (f : Nat) (t : Tm) (M : List Int), t.good → t.tw W < f → (occF f σ n t M).1 = false → OccS σ n (fun y => t.vin y) M (occF f σ n t M).2 := by
  intro f
  induction f with
  | zero => intro t M _ h; omega
  | succ f ih =>
    intro t M ht hf hb
    by_cases hk : t.k = 1
    · have hv := (good_var ht hk).2.2.2
      have hvt : wk σ (varT t.n) = wk σ t := by
        show wk σ (.mk 1 t.n [] []) = _
        rw [← hv]
      simp only [occF, hk, if_true] at hb ⊢
      by_cases hm : t.n ∈ M
      · rw [if_pos hm] at hb ⊢
        exact ⟨fun y h => h, fun y h => by rw [← (vin_var hk).1 h]; exact hm, fun v hv => .inl hv⟩
      · rw [if_neg hm] at hb ⊢
        by_cases hu : (wk σ t).k = 1
        · rw [if_pos hu] at hb ⊢
          refine ⟨fun y h => by simp [h], fun y h => by rw [← (vin_var hk).1 h]; simp, fun v hv => ?_⟩
          rcases List.mem_append.1 hv with h | h
          · exact .inl h
          · rw [List.mem_singleton.1 h]
            refine .inr ⟨fun _ => ?_, fun h => ?_⟩
            · rw [hvt]; simpa using hb
            · rw [hvt] at h; exact absurd hu h
        · rw [if_neg hu] at hb ⊢
          obtain ⟨a1, a2, a3⟩ := ih (wk σ t) (M ++ [t.n]) (wk_good hW hg t ht) (by have := wk_lt hW hk hu; omega) hb
          refine ⟨fun y h => a1 y (by simp [h]), fun y h => by rw [← (vin_var hk).1 h]; exact a1 _ (by simp), fun v hv => ?_⟩
          rcases a3 v hv with h | h
          · rcases List.mem_append.1 h with h | h
            · exact .inl h
            · rw [List.mem_singleton.1 h]
              refine .inr ⟨fun h => ?_, fun _ y hy => ?_⟩
              · rw [hvt] at h; exact absurd h hu
              · rw [hvt] at hy; exact a2 y hy
          · exact .inr h
    · simp only [occF, hk, if_false] at hb ⊢
      obtain ⟨a1, a2, a3⟩ := occL_spec (fun M x => occF f σ n x M) t.kids M (fun x hx M h => ih x M (good_kids ht x hx) (by have := tw_kid (W := W) hk hx; omega) h) hb
      exact ⟨a1, fun y hy => a2 y ((vin_kids hk).1 hy), a3⟩
inductive Rch (σ : Sto) (n : Int) : Int → Prop
  | refl : Rch σ n n
  | step {v : Int} {u : Tm} {y : Int} : look σ v = some u → u.vin y → Rch σ n y → Rch σ n v
theorem not_rch {σ : Sto} {W : Int → Nat} (hW : Wt σ W) (hg : ∀ x ∈ σ, x.2.good) {n : Int} (hn : look σ n = none) {M : List Int} (hM : ∀ v ∈ M, Pw σ n M v) : ∀ (f : Nat) (v : Int), W v ≤ f → Pw σ n M v → ¬ Rch σ n v := by
  intro f
  induction f with
  | zero => intro v h; have := hW.pos v; omega
  | succ f ih =>
    intro v hf hp hr
    cases hr with
    | refl =>
      have e : wk σ (varT n) = varT n := wk_none hn
      have := hp.1 (by rw [e]; rfl)
      rw [e] at this
      exact this rfl
    | @step _ u y hl hy hr =>
      have e : wk σ (varT v) = wk σ u := wk_some ⟨W, hW⟩ rfl hl
      have hlt := hW.lt _ _ hl
      have h1 := vin_tw (W := W) u hy
      by_cases hk : u.k = 1
      · have hv := (good_var (hg _ (look_mem hl)) hk).2.2.2
        rw [vin_var hk] at hy
        subst hy
        have e2 : wk σ (varT u.n) = wk σ u := by
          show wk σ (.mk 1 u.n [] []) = _
          rw [← hv]
        refine ih u.n (by omega) ?_ hr
        unfold Pw
        rw [e2, ← e]
        exact hp
      · refine ih y (by omega) (hM y (hp.2 ?_ y ?_)) hr
        · rw [e, wk_nonvar hk]; exact hk
        · rw [e, wk_nonvar hk]; exact hy
open Classical in
/-- does a variable occur in a term? -/
noncomputable def occ (σ : Sto) (n : Int) (t : Tm) : Bool := if h : ∃ W, Wt σ W then (occF (t.tw h.choose + 1) σ n t []).1 else false
open Classical in
theorem bind_wt {σ : Sto} (hw : ∃ W, Wt σ W) (hg : ∀ x ∈ σ, x.2.good) {n : Int} {t : Tm} (hn : look σ n = none) (ht : t.good) (ho : occ σ n t = false) : ∃ W, Wt (σ ++ [(n, t)]) W := by
  unfold occ at ho
  rw [dif_pos hw] at ho
  have hW := hw.choose_spec
  generalize hw.choose = W at hW ho
  obtain ⟨a1, a2, a3⟩ := occF_spec hW hg n (t.tw W + 1) t [] ht (by omega) ho
  generalize (occF (t.tw W + 1) σ n t []).2 = M at a1 a2 a3
  have hM : ∀ v ∈ M, Pw σ n M v := fun v hv => (a3 v hv).resolve_left (by simp)
  have hno : ∀ y, t.vin y → ¬ Rch σ n y := fun y hy => not_rch hW hg hn hM (W y) y (Nat.le_refl _) (hM y (a2 y hy))
  refine ⟨fun v => if Rch σ n v then (t.tw W + 1) * W v else W v, fun v => ?_, fun m u hl => ?_⟩
  · have h1 := hW.pos v
    show 1 ≤ if Rch σ n v then _ else _
    split
    · exact Nat.le_trans h1 (Nat.le_mul_of_pos_left _ (by omega))
    · exact h1
  · rw [look_snoc] at hl
    cases hlm : look σ m with
    | some u' =>
      rw [hlm] at hl
      obtain rfl := Option.some.inj hl
      have hlt := hW.lt _ _ hlm
      show u'.tw _ < if Rch σ n m then _ else _
      split
      · refine Nat.lt_of_le_of_lt (tw_mul (C := t.tw W + 1) (W := W) (by omega) (fun v => ?_) u') (Nat.mul_lt_mul_of_pos_left hlt (by omega))
        show (if Rch σ n v then _ else _) ≤ _
        split
        · exact Nat.le_refl _
        · exact Nat.le_mul_of_pos_left _ (by omega)
      · rename_i hr
        rw [← tw_congr (W := W) u' fun v hv => ?_]
        · exact hlt
        · show W v = if Rch σ n v then _ else _
          rw [if_neg fun h => hr (.step hlm hv h)]
    | none =>
      rw [hlm] at hl
      simp only at hl
      split at hl
      · rename_i e
        subst e
        obtain rfl := Option.some.inj hl
        show t.tw _ < if Rch σ n n then _ else _
        rw [if_pos .refl, ← tw_congr (W := W) t fun v hv => ?_]
        · have := hW.pos n
          exact Nat.lt_of_lt_of_le (Nat.lt_succ_self _) (Nat.le_mul_of_pos_right _ this)
        · show W v = if Rch σ n v then _ else _
          rw [if_neg (hno v hv)]
      · cases hl
/-! ### how many variables stand for nothing -/
def free (σ : Sto) : Nat := (List.range 26).countP fun i : Nat => (look σ (i : Int)).isNone
theorem countP_lt {p q : Nat → Bool} : ∀ {l : List Nat}, (∀ x ∈ l, q x = true → p x = true) → (∃ x ∈ l, p x = true ∧ q x = false) → l.countP q < l.countP p
  | [], _, ⟨x, hx, _⟩ => by simp at hx
  | a :: l, h, ⟨x, hx, h1, h2⟩ => by
    have hle : l.countP q ≤ l.countP p := List.countP_mono_left fun x hx => h x (by simp [hx])
    rw [List.countP_cons, List.countP_cons]
    rcases List.mem_cons.1 hx with rfl | hx
    · rw [h1, h2]; simp; omega
    · have := countP_lt (l := l) (fun x hx => h x (by simp [hx])) ⟨x, hx, h1, h2⟩
      have h3 := h a (by simp)
      cases ha : q a with
      | true => rw [h3 ha]; simp; omega
      | false => simp; omega
theorem free_bind {σ : Sto} {n : Int} {t : Tm} (hn : look σ n = none) (h0 : 0 ≤ n) (h1 : n ≤ 25) : free (σ ++ [(n, t)]) < free σ := by
  refine countP_lt (fun x _ h => ?_) ⟨n.toNat, by simp; omega, ?_, ?_⟩
  · rw [look_snoc] at h
    cases hx : look σ (x : Int) with
    | none => rfl
    | some u => rw [hx] at h; cases h
  · rw [Int.toNat_of_nonneg h0, hn]; rfl
  · rw [Int.toNat_of_nonneg h0, look_snoc, hn]; simp
structure Sok (σ : Sto) : Prop where
  wt : ∃ W, Wt σ W
  good : ∀ x ∈ σ, x.2.good
  cnt : σ.length + free σ ≤ 26
theorem sok_nil : Sok [] := ⟨⟨fun _ => 1, fun _ => Nat.le_refl _, fun n u h => by cases h⟩, fun x h => by simp at h, by
  have h : free [] ≤ (List.range 26).length := List.countP_le_length
  simpa using h⟩
def Nx (σ σ' : Sto) : Prop := Sok σ' ∧ (σ' = σ ∨ free σ' < free σ)
theorem Nx.refl {σ : Sto} (h : Sok σ) : Nx σ σ := ⟨h, .inl rfl⟩
theorem Nx.trans {a b c : Sto} (h : Nx a b) (h' : Nx b c) : Nx a c := by
  refine ⟨h'.1, ?_⟩
  rcases h.2 with rfl | h1
  · exact h'.2
  · rcases h'.2 with rfl | h2
    · exact .inr h1
    · exact .inr (by omega)
theorem bind_nx {σ : Sto} (hs : Sok σ) {n : Int} {t : Tm} (hn : look σ n = none) (h0 : 0 ≤ n) (h1 : n ≤ 25) (ht : t.good) (ho : occ σ n t = false) : Nx σ (σ ++ [(n, t)]) := by
  have hf := free_bind (t := t) hn h0 h1
  refine ⟨⟨bind_wt hs.wt hs.good hn ht ho, fun x hx => ?_, by have := hs.cnt; simp; omega⟩, .inr hf⟩
  rcases List.mem_append.1 hx with h | h
  · exact hs.good x h
  · rw [List.mem_singleton.1 h]; exact ht
/-! ### unification -/
inductive UJ where
  | tm (a b : Tm)
  | ls (xs ys : List Tm)
def same3 (a b : Tm) : Prop := a.k = b.k ∧ a.n = b.n ∧ a.s = b.s ∧ a.kids.length = b.kids.length
inductive Uni : Sto → UJ → Bool → Sto → Prop
  | same {σ : Sto} {a b : Tm} : (wk σ a).k = 1 → (wk σ b).k = 1 → (wk σ a).n = (wk σ b).n → Uni σ (.tm a b) true σ
  | lno {σ : Sto} {a b : Tm} : (wk σ a).k = 1 → ¬ ((wk σ b).k = 1 ∧ (wk σ a).n = (wk σ b).n) → occ σ (wk σ a).n (wk σ b) = true → Uni σ (.tm a b) false σ
  | lyes {σ : Sto} {a b : Tm} : (wk σ a).k = 1 → ¬ ((wk σ b).k = 1 ∧ (wk σ a).n = (wk σ b).n) → occ σ (wk σ a).n (wk σ b) = false → Uni σ (.tm a b) true (σ ++ [((wk σ a).n, wk σ b)])
  | rno {σ : Sto} {a b : Tm} : (wk σ a).k ≠ 1 → (wk σ b).k = 1 → occ σ (wk σ b).n (wk σ a) = true → Uni σ (.tm a b) false σ
  | ryes {σ : Sto} {a b : Tm} : (wk σ a).k ≠ 1 → (wk σ b).k = 1 → occ σ (wk σ b).n (wk σ a) = false → Uni σ (.tm a b) true (σ ++ [((wk σ b).n, wk σ a)])
  | clash {σ : Sto} {a b : Tm} : (wk σ a).k ≠ 1 → (wk σ b).k ≠ 1 → ¬ same3 (wk σ a) (wk σ b) → Uni σ (.tm a b) false σ
  | kids {σ σ' : Sto} {a b : Tm} {r : Bool} : (wk σ a).k ≠ 1 → (wk σ b).k ≠ 1 → same3 (wk σ a) (wk σ b) → Uni σ (.ls (wk σ a).kids (wk σ b).kids) r σ' → Uni σ (.tm a b) r σ'
  | nil {σ : Sto} : Uni σ (.ls [] []) true σ
  | stop {σ σ' : Sto} {x y : Tm} {xs ys : List Tm} : Uni σ (.tm x y) false σ' → Uni σ (.ls (x :: xs) (y :: ys)) false σ'
  | go {σ σ₁ σ' : Sto} {x y : Tm} {xs ys : List Tm} {r : Bool} : Uni σ (.tm x y) true σ₁ → Uni σ₁ (.ls xs ys) r σ' → Uni σ (.ls (x :: xs) (y :: ys)) r σ'
theorem uni_list {σ : Sto} {P : Tm → Prop} (h : ∀ σ₁, Nx σ σ₁ → ∀ (x y : Tm) , x.good → y.good → (σ₁ = σ → P x) → ∃ r σ', Uni σ₁ (.tm x y) r σ' ∧ Nx σ₁ σ') :
    ∀ (xs ys : List Tm) σ₁, Nx σ σ₁ → xs.length = ys.length → (∀ x ∈ xs, x.good ∧ P x) → (∀ y ∈ ys, y.good) → ∃ r σ', Uni σ₁ (.ls xs ys) r σ' ∧ Nx σ₁ σ'
  | [], [], σ₁, hn, _, _, _ => ⟨true, σ₁, .nil, .refl hn.1⟩
  | [], _ :: _, _, _, hl, _, _ => by simp at hl
  | _ :: _, [], _, _, hl, _, _ => by simp at hl
  | x :: xs, y :: ys, σ₁, hn, hl, hx, hy => by
    obtain ⟨r, σ₂, h1, h2⟩ := h σ₁ hn x y (hx x (by simp)).1 (hy y (by simp)) fun _ => (hx x (by simp)).2
    cases r with
    | false => exact ⟨false, σ₂, .stop h1, h2⟩
    | true =>
      obtain ⟨r, σ₃, h3, h4⟩ := uni_list h xs ys σ₂ (hn.trans h2) (by simpa using hl) (fun x hx' => hx x (by simp [hx'])) (fun y hy' => hy y (by simp [hy']))
      exact ⟨r, σ₃, .go h1 h3, h2.trans h4⟩
/-- unification ends -/
theorem uni_ends : ∀ (u : Nat) (σ : Sto), free σ ≤ u → Sok σ → ∀ (W : Int → Nat), Wt σ W → ∀ (w : Nat) (a b : Tm), a.good → b.good → a.tw W ≤ w → ∃ r σ', Uni σ (.tm a b) r σ' ∧ Nx σ σ' := by
  intro u
  induction u with
  | zero => ?_
  | succ u ihu => ?_
  all_goals
    intro σ hu hs W hW w
    induction w with
    | zero => ?_
    | succ w ihw => ?_
    all_goals
      intro a b ha hb hw
      have hwa := wk_good hW hs.good a ha
      have hwb := wk_good hW hs.good b hb
      by_cases ka : (wk σ a).k = 1
      · by_cases hsm : (wk σ b).k = 1 ∧ (wk σ a).n = (wk σ b).n
        · exact ⟨_, _, .same ka hsm.1 hsm.2, .refl hs⟩
        · cases ho : occ σ (wk σ a).n (wk σ b) with
          | true => exact ⟨_, _, .lno ka hsm ho, .refl hs⟩
          | false =>
            have hv := good_var hwa ka
            exact ⟨_, _, .lyes ka hsm ho, bind_nx hs (wk_end hW a ka) hv.1 hv.2.1 hwb ho⟩
      · by_cases kb : (wk σ b).k = 1
        · cases ho : occ σ (wk σ b).n (wk σ a) with
          | true => exact ⟨_, _, .rno ka kb ho, .refl hs⟩
          | false =>
            have hv := good_var hwb kb
            exact ⟨_, _, .ryes ka kb ho, bind_nx hs (wk_end hW b kb) hv.1 hv.2.1 hwa ho⟩
        · by_cases hsm : same3 (wk σ a) (wk σ b)
          · have hwk := wk_tw hW a
            have htk := tw_kids (W := W) ka
            first
            | omega
            | (obtain ⟨r, σ', h1, h2⟩ := uni_list (σ := σ) (P := fun x => x.tw W ≤ w) (fun σ₁ hn x y hx hy hP => by
                  rcases hn.2 with rfl | hlt
                  · exact ihw x y hx hy (hP rfl)
                  · obtain ⟨W₁, hW₁⟩ := hn.1.wt
                    first
                    | exact ihu σ₁ (by omega) hn.1 W₁ hW₁ _ x y hx hy (Nat.le_refl _)
                    | omega) (wk σ a).kids (wk σ b).kids σ (.refl hs) hsm.2.2.2 (fun x hx => ⟨good_kids hwa x hx, by have := tw_kid (W := W) ka hx; omega⟩) (good_kids hwb)
               exact ⟨r, σ', .kids ka kb hsm h1, h2⟩)
          · exact ⟨_, _, .clash ka kb hsm, .refl hs⟩
theorem wk_nil (t : Tm) : wk [] t = t := wk_none rfl
theorem uni_top {a b : Tm} {σ' : Sto} (h : Uni [] (.tm a b) true σ') (ka : a.k ≠ 1) (kb : b.k ≠ 1) : same3 a b ∧ Uni [] (.ls a.kids b.kids) true σ' := by
  cases h with
  | same h => rw [wk_nil] at h; exact absurd h ka
  | lyes h => rw [wk_nil] at h; exact absurd h ka
  | ryes _ h => rw [wk_nil] at h; exact absurd h kb
  | kids _ _ h1 h2 => rw [wk_nil, wk_nil] at h1 h2; exact ⟨h1, h2⟩
theorem uni_first {a b x y : Tm} {xs ys : List Tm} {σ' : Sto} (h : Uni [] (.tm a b) true σ') (ka : a.k ≠ 1) (kb : b.k ≠ 1) (hx : a.kids = x :: xs) (hy : b.kids = y :: ys) (kx : x.k ≠ 1) (ky : y.k ≠ 1) : same3 x y := by
  have h2 := (uni_top h ka kb).2
  rw [hx, hy] at h2
  cases h2 with
  | go h3 _ => exact (uni_top h3 kx ky).1
end Go.Proofs.YtbblefjbgbocoaaGreatDoor

/-
  Unification, of the program: what variables stand for, and walks.
  Conditions: none.
-/
open Go Go.AM Go.Proofs
namespace Go.Proofs.YtbblefjbgbocoaaGreatDoor
open Go.ChangeShapes Go.WideShapes Go.ChangeAt Go.RowKit
set_option linter.unusedVariables false
set_option linter.unusedSimpArgs false
set_option maxRecDepth 100000
-- 142 (*loop.example/prologserver/impl.store).walk params 2 ntmps 24
-- loop head live: [0,3,4]
def ac142 : Cd := .seq (.region [⟨(some 3),.box (.t 1),none⟩,
 ⟨(some 4),.alloc [(.d (.int .i64 0)),(.d (.int .i64 0)),(.d (.str [])),(.full [])],none⟩] [1])
 (.seq (.block 0 (.loop (.seq (.seq (.region [⟨(some 7),.fieldAddr 0 (.t 3),none⟩,
 ⟨(some 8),.load none (.t 7),none⟩,
 ⟨(some 9),.bin .eql (.t 8) (.k (.c (.d (.int .i64 1)))),none⟩] [7,8])
 (.cond (.t 9)
 (.skip)
 (.exit 0)))
 (.block 1 (.seq (.region [⟨(some 11),.mv (.t 0),none⟩,
 ⟨(some 12),.nilCheck (.t 11),none⟩,
 ⟨(some 13),.fieldAddr 0 (.t 12),none⟩,
 ⟨(some 15),.fieldAddr 1 (.t 3),none⟩,
 ⟨(some 14),.load none (.t 13),none⟩,
 ⟨(some 16),.load none (.t 15),none⟩,
 ⟨(some 17),.mapGet (some 4) [(.int .i64 0),(.int .i64 0),(.str []),(.sl [])] true (.t 14) (.t 16),none⟩,
 ⟨(some 10),.mv (.t 17),none⟩,
 ⟨(some 18),.extract 0 (.t 10),none⟩,
 ⟨(some 19),.extract 1 (.t 10),none⟩,
 ⟨(some 5),.alloc [(.d (.int .i64 0)),(.d (.int .i64 0)),(.d (.str [])),(.full [])],none⟩,
 ⟨none,.store 4 (.t 5) (.t 18),none⟩,
 ⟨(some 6),.mv (.t 19),none⟩] [9,10,11,12,13,14,15,16,17,18,19])
 (.seq (.seq (.region [⟨(some 20),.mv (.t 6),none⟩,
 ⟨(some 21),.un .not (.t 20),none⟩] [6,20])
 (.cond (.t 21)
 (.exit 0)
 (.skip)))
 (.region [⟨(some 22),.load (some 4) (.t 5),none⟩,
 ⟨none,.store 4 (.t 3) (.t 22),none⟩] [5,21,22])))))))
 (.seq (.region [⟨(some 23),.load (some 4) (.t 3),none⟩,
 ⟨none,.store 4 (.t 4) (.t 23),none⟩] [3,23])
 (.ret)))
theorem ac142_ok : cFunc Tryz.prog [] [(0,[1],[]),(1,[7,8],[]),(2,[9,10,11,12,13,14,15,16,17,18,19],[0,1,2,4,3,5,6,7,8,9,10,11,12]),(3,[6,20],[]),(4,[5,21,22],[]),(5,[3,23],[])] Tryz.f142 = some (ac142,[.cell 4 (some 4)],24) := by kernel_rfl
def stoM (σ : Sto) : List (Int × List D) := σ.map fun x => (x.1, x.2.row)
theorem stoM_row : ∀ (σ : Sto) (n : Int), V_ (stoM σ) n = (look σ n).map Tm.row
  | [], n => rfl
  | (k, t) :: σ, n => by
    show V_ ((k, t.row) :: stoM σ) n = _
    simp only [V_, look]
    split
    · rfl
    · exact stoM_row σ n
theorem stoM_put : ∀ (σ : Sto) (n : Int) (t : Tm), look σ n = none → W_ (stoM σ) n t.row = stoM (σ ++ [(n, t)])
  | [], n, t, _ => rfl
  | (k, u) :: σ, n, t, h => by
    show W_ ((k, u.row) :: stoM σ) n t.row = _
    simp only [look] at h
    simp only [W_]
    split at h
    · cases h
    · rename_i hk
      rw [if_neg hk, stoM_put σ n t h]
      rfl
def trR (σ : Sto) : List (List D) := intRows (σ.map Prod.fst)
theorem trR_len (σ : Sto) : (trR σ).length = σ.length := by simp [trR, intRows]
theorem trR_snoc (σ : Sto) (n : Int) (t : Tm) : trR (σ ++ [(n, t)]) = trR σ ++ [[.int .i64 n]] := by simp [trR, intRows]
def sdM (σ : Sto) : Ob := .map (stoM σ)
def sdC (i : Nat) (σ : Sto) : Ob := .cells [.map (.e i), .own (.e (i + 2)) σ.length (trR σ)]
def sdG (σ : Sto) : Ob := .grow σ.length 1
/-- the store in the heap: the map, the record, the trail's array -/
def sd (H : Heap) (i : Nat) (σ : Sto) : Heap := ((H.set i (sdM σ)).set (i + 1) (sdC i σ)).set (i + 2) (sdG σ)
theorem sd_len (H : Heap) (i : Nat) (σ : Sto) : (sd H i σ).length = H.length := by simp [sd]
theorem sd_0 {H : Heap} {i : Nat} (σ : Sto) (h : i + 2 < H.length) : (sd H i σ)[i]? = some (.map (stoM σ)) := by
  simp [sd, sdM, List.getElem?_set]; omega
theorem sd_1 {H : Heap} {i : Nat} (σ : Sto) (h : i + 2 < H.length) : (sd H i σ)[i + 1]? = some (.cells [.map (.e i), .own (.e (i + 2)) σ.length (trR σ)]) := by
  simp [sd, sdC, List.getElem?_set]; omega
theorem sd_2 {H : Heap} {i : Nat} (σ : Sto) (h : i + 2 < H.length) : (sd H i σ)[i + 2]? = some (.grow σ.length 1) := by
  simp [sd, sdG, List.getElem?_set]; omega
theorem sd_bind (H : Heap) (i : Nat) (σ σ' : Sto) : (((sd H i σ).set i (.map (stoM σ'))).set (i + 2) (.grow σ'.length 1)).set (i + 1) (.cells [.map (.e i), .own (.e (i + 2)) σ'.length (trR σ')]) = sd H i σ' := by
  refine List.ext_getElem? fun j => ?_
  simp only [sd, sdM, sdC, sdG, List.getElem?_set, List.length_set]
  by_cases e0 : i = j <;> by_cases e1 : i + 1 = j <;> by_cases e2 : i + 2 = j <;> simp [e0, e1, e2] <;> omega
theorem sd_append {H L : Heap} {i : Nat} (σ : Sto) (h : i + 2 < H.length) : sd H i σ ++ L = sd (H ++ L) i σ := by
  simp only [sd]
  rw [List.set_append_left _ _ (by omega), List.set_append_left _ _ (by simp; omega), List.set_append_left _ _ (by simp; omega)]
theorem sd_fits {H : Heap} {i : Nat} {σ σ' : Sto} (h : Obs.fits H.length 0 (sd H i σ)) (hi : i + 2 < H.length) : Obs.fits H.length 0 (sd H i σ') := by
  have e : sd H i σ' = ((((sd H i σ).set i (sdM σ')).set (i + 1) (sdC i σ')).set (i + 2) (sdG σ')) := by
    refine List.ext_getElem? fun j => ?_
    simp only [sd, List.getElem?_set, List.length_set]
    by_cases e0 : i = j <;> by_cases e1 : i + 1 = j <;> by_cases e2 : i + 2 = j <;> simp [e0, e1, e2]
  rw [e]
  refine Obs_fits_set (Obs_fits_set (Obs_fits_set h ?_) ?_) ?_
  · exact trivial
  · exact ⟨by show i < H.length + 0; omega, by show i + 2 < H.length + 0; omega, trivial⟩
  · exact trivial
theorem grown_at {ext loc ext' loc' : Heap} {i : Nat} {o : Ob} (hg : Grown ext loc ext' loc') (h : ext[i]? = some o) (h1 : o ≠ .dead) (h2 : ∀ p s, o ≠ .grow p s) : (ext' ++ loc'.map (Ob.re ext.length))[i]? = some o := by
  have hi := (List.getElem?_eq_some_iff.1 h).1
  have := hg.2.2 [] [] (.e i) o (by simp [z_, List.getD, h]) h1 h2
  simp only [z_, List.getD] at this
  rw [List.getElem?_append_left (by rw [hg.1]; exact hi)]
  rw [List.getElem?_eq_getElem (by rw [hg.1]; exact hi)] at this ⊢
  simpa using this
/-- a quiet call that reads two told objects -/
theorem qcall_two {P : Program} {f : FuncId} {xs : List A} {K : A → St → Prop} {st : St} {r : A} {a b : Nat} {x y : Ob} (hc : ∀ H : Heap, H[a]? = some x → H[b]? = some y → ACalls P f xs H (fun r' H' => H' = H ∧ r' = r))
    (hf : Obs.fits st.ext.length 0 st.ext) (ha : st.ext[a]? = some x) (hb : st.ext[b]? = some y) (hx : x ≠ .dead ∧ ∀ p s, x ≠ .grow p s) (hy : y ≠ .dead ∧ ∀ p s, y ≠ .grow p s) (hr : A.re st.ext.length r = r) (hk : K r st) : QCallK P f xs st K :=
  ⟨hf, r, hr, fun st' hg => hc _ (grown_at hg ha hx.1 hx.2) (grown_at hg hb hy.1 hy.2), hk⟩
theorem sl_keep : ∀ l : List A, Sl.le l l
  | [] => trivial
  | a :: l => ⟨.refl a, sl_keep l⟩
def zeroO : Ob := .cells [.d (.int .i64 0), .d (.int .i64 0), .d (.str []), .full []]
theorem walk_calls {σ : Sto} {W : Int → Nat} (hW : Wt σ W) (hg : ∀ x ∈ σ, x.2.good) (t : Tm) (ht : t.good) (H : Heap) (a b : Nat) (c2 : C) (ha : H[a]? = some (.map (stoM σ))) (hb : H[b]? = some (.cells [.map (.e a), c2])) :
    ACalls Tryz.prog 142 [.c (.ptr (.e b) 0), .agg (t.row.map .d)] H (fun r H' => H' = H ∧ r = .agg ((wk σ t).row.map .d)) := by
  have hga : H[a]?.getD .dead = .map (stoM σ) := by simp [ha]
  have hgb : H[b]?.getD .dead = .cells [.map (.e a), c2] := by simp [hb]
  have hbl := (List.getElem?_eq_some_iff.1 hb).1
  refine acalls Tryz.func142 (by kernel_rfl) ac142_ok fun hf => ?_
  simp -implicitDefEqProofs [ac142, row_len, take_row, pure_d, re_d, hf, go_sem, -List.set_cons_succ, -List.set_cons_zero]
  refine loop_set (σ := Tm) (fun _ => []) (fun _ => H) (fun u => [.cells (u.row.map .d), zeroO]) (fun u => u.good ∧ wk σ u = wk σ t) (fun u => u.tw W) t rfl ⟨ht, rfl⟩ ?_
  rintro u ⟨hu, hwu⟩
  obtain ⟨k, n, s, l⟩ := u
  by_cases hk : k = 1
  · subst hk
    cases hl : look σ n with
    | none =>
      have e1 : wk σ (.mk 1 n s l) = .mk 1 n s l := wk_none hl
      simp -implicitDefEqProofs [setAll, row_mk, hf, zeroO, ha, hga, hb, hgb, stoM_row, hl, go_sem, -List.set_cons_succ, -List.set_cons_zero]
      rw [← hwu, e1]
      simp -implicitDefEqProofs [row_mk, hf, go_sem, -List.set_cons_succ, -List.set_cons_zero]
    | some u =>
      have hlt := hW.lt _ _ hl
      have e1 : wk σ (.mk 1 n s l) = wk σ u := wk_some ⟨W, hW⟩ rfl hl
      simp -implicitDefEqProofs [setAll, row_mk, hf, zeroO, ha, hga, hb, hgb, stoM_row, hl, row_len, take_row, pure_d, re_d, toDs_map, go_sem, -List.set_cons_succ, -List.set_cons_zero]
      exact loop_less u (St.le_cut [_] (sl_keep _) (by simp [hbl, Sl.le, A.le_refl_iff, A.le_u_iff, As.lo, A.lo, C.lo, Ref.lo, Cs.lo, Obs.lo, Ob.lo, setAll, and_true, true_and, List.length_nil, List.length_cons]) rfl (by simp [lo_map, zeroO, Sl.le, A.le_refl_iff, A.le_u_iff, As.lo, A.lo, C.lo, Ref.lo, Cs.lo, Obs.lo, Ob.lo, setAll, and_true, true_and, List.length_nil, List.length_cons])) ⟨hg _ (look_mem hl), by rw [← hwu, e1]⟩ (by rw [tw_mk, if_pos rfl]; exact hlt)
  · have e1 : wk σ (.mk k n s l) = .mk k n s l := wk_nonvar hk
    simp -implicitDefEqProofs [setAll, row_mk, hk, hf, zeroO, ha, hga, hb, hgb, go_sem, -List.set_cons_succ, -List.set_cons_zero]
    rw [← hwu, e1]
    simp -implicitDefEqProofs [row_mk, hf, go_sem, -List.set_cons_succ, -List.set_cons_zero]
end Go.Proofs.YtbblefjbgbocoaaGreatDoor

/-
  Unification, of the program: does a variable occur in a term?
  Conditions: none.
-/
open Go Go.AM Go.Proofs
namespace Go.Proofs.YtbblefjbgbocoaaGreatDoor
open Go.ChangeShapes Go.WideShapes Go.ChangeAt Go.RowKit
set_option linter.unusedVariables false
set_option linter.unusedSimpArgs false
set_option maxRecDepth 100000
-- 182 (*loop.example/prologserver/impl.store).occurs params 4 ntmps 39
def ac182 : Cd := .seq (.region [⟨(some 4),.box (.t 0),none⟩,
 ⟨(some 5),.box (.t 1),none⟩,
 ⟨(some 6),.box (.t 2),none⟩,
 ⟨(some 7),.box (.t 3),none⟩,
 ⟨(some 8),.mv (.k (.c (.d (.bool false)))),none⟩] [0,1,2,3,8])
 (.seq (.seq (.region [⟨(some 10),.fieldAddr 0 (.t 6),none⟩,
 ⟨(some 11),.load none (.t 10),none⟩,
 ⟨(some 12),.bin .eql (.t 11) (.k (.c (.d (.int .i64 1)))),none⟩] [10,11])
 (.cond (.t 12)
 (.seq (.seq (.region [⟨(some 13),.load none (.t 7),none⟩,
 ⟨(some 14),.fieldAddr 1 (.t 6),none⟩,
 ⟨(some 15),.load none (.t 14),none⟩,
 ⟨(some 16),.mapGet none [(.bool false)] false (.t 13) (.t 15),none⟩] [12,13,14,15])
 (.cond (.t 16)
 (.seq (.region [⟨(some 8),.mv (.k (.c (.d (.bool false)))),none⟩] [4,5,6,7,16])
 (.ret))
 (.skip)))
 (.seq (.region [⟨(some 17),.load none (.t 7),none⟩,
 ⟨(some 18),.fieldAddr 1 (.t 6),none⟩,
 ⟨(some 19),.load none (.t 18),none⟩,
 ⟨none,.mapSet (.t 17) (.t 19) (.k (.c (.d (.bool true)))),none⟩] [8,16,17,18,19])
 (.seq (.region [⟨(some 20),.load none (.t 4),none⟩,
 ⟨(some 21),.load (some 4) (.t 6),none⟩,
 ⟨(some 22),.qcall 142 [(.t 20),(.t 21)],none⟩,
 ⟨(some 9),.alloc [(.d (.int .i64 0)),(.d (.int .i64 0)),(.d (.str [])),(.full [])],none⟩,
 ⟨none,.store 4 (.t 9) (.t 22),none⟩] [6,20,21,22])
 (.seq (.seq (.region [⟨(some 23),.fieldAddr 0 (.t 9),none⟩,
 ⟨(some 24),.load none (.t 23),none⟩,
 ⟨(some 25),.bin .eql (.t 24) (.k (.c (.d (.int .i64 1)))),none⟩] [23,24])
 (.cond (.t 25)
 (.seq (.region [⟨(some 26),.fieldAddr 1 (.t 9),none⟩,
 ⟨(some 27),.load none (.t 26),none⟩,
 ⟨(some 28),.load none (.t 5),none⟩,
 ⟨(some 29),.bin .eql (.t 27) (.t 28),none⟩,
 ⟨(some 8),.mv (.t 29),none⟩] [4,5,7,9,25,26,27,28,29])
 (.ret))
 (.skip)))
 (.seq (.region [⟨(some 30),.load none (.t 4),none⟩,
 ⟨(some 31),.load none (.t 5),none⟩,
 ⟨(some 32),.load (some 4) (.t 9),none⟩,
 ⟨(some 33),.load none (.t 7),none⟩,
 ⟨(some 34),.call false 182 [(.t 30),(.t 31),(.t 32),(.t 33)],none⟩,
 ⟨(some 8),.mv (.t 34),none⟩] [4,5,7,9,25,30,31,32,33,34])
 (.ret))))))
 (.skip)))
 (.seq (.region [⟨(some 35),.fieldAddr 3 (.t 6),none⟩,
 ⟨(some 36),.load none (.t 35),none⟩,
 ⟨(some 37),.mkFunc 216 [(.t 4),(.t 5),(.t 7)],none⟩,
 ⟨(some 38),.call false 115 [(.t 36),(.t 37)],none⟩,
 ⟨(some 8),.mv (.t 38),none⟩] [4,5,6,7,12,35,36,37,38])
 (.ret)))
theorem ac182_ok : cFunc Tryz.prog [1000142] [(0,[0,1,2,3,8],[]),(1,[10,11],[]),(2,[12,13,14,15],[]),(3,[4,5,6,7,16],[]),(4,[8,16,17,18,19],[]),(5,[6,20,21,22],[]),(6,[23,24],[]),(7,[4,5,7,9,25,26,27,28,29],[]),(8,[4,5,7,9,25,30,31,32,33,34],[]),(9,[4,5,6,7,12,35,36,37,38],[])] Tryz.f182 = some (ac182,[.tmp 8],39) := by kernel_rfl
-- 216 (*loop.example/prologserver/impl.store).occurs$1 params 1 ntmps 11
def ac216 : Cd := .seq (.region [⟨(some 4),.box (.t 0),none⟩,
 ⟨(some 5),.mv (.k (.c (.d (.bool false)))),none⟩] [0,5])
 (.seq (.region [⟨(some 6),.load none (.t 1),none⟩,
 ⟨(some 7),.load none (.t 2),none⟩,
 ⟨(some 8),.load (some 4) (.t 4),none⟩,
 ⟨(some 9),.load none (.t 3),none⟩,
 ⟨(some 10),.call false 182 [(.t 6),(.t 7),(.t 8),(.t 9)],none⟩,
 ⟨(some 5),.mv (.t 10),none⟩] [4,6,7,8,9,10])
 (.ret))
theorem ac216_ok : cFunc Tryz.prog [] [(0,[0,5],[]),(1,[4,6,7,8,9,10],[])] Tryz.f216 = some (ac216,[.tmp 5],11) := by kernel_rfl
def metM (M : List Int) : List (Int × List D) := M.map fun n => (n, [.bool true])
theorem metM_row : ∀ (M : List Int) (n : Int), V_ (metM M) n = if n ∈ M then some [.bool true] else none
  | [], n => rfl
  | m :: M, n => by
    show V_ ((m, [.bool true]) :: metM M) n = _
    simp only [V_]
    by_cases h : m = n
    · simp [h]
    · rw [if_neg h, metM_row M n]
      have : (n ∈ m :: M) ↔ n ∈ M := by simp [Ne.symm h]
      simp only [this]
theorem metM_put : ∀ (M : List Int) (n : Int), n ∉ M → W_ (metM M) n [.bool true] = metM (M ++ [n])
  | [], n, _ => rfl
  | m :: M, n, h => by
    show W_ ((m, [.bool true]) :: metM M) n [.bool true] = _
    simp only [List.mem_cons, not_or] at h
    simp only [W_]
    rw [if_neg (Ne.symm h.1), metM_put M n h.2]
    rfl
/-- a store among the objects -/
structure At (H : Heap) (a b : Nat) (σ : Sto) (c2 : C) : Prop where
  m : H[a]? = some (.map (stoM σ))
  r : H[b]? = some (.cells [.map (.e a), c2])
theorem At.append {H : Heap} {a b : Nat} {σ : Sto} {c2 : C} (h : At H a b σ c2) (L : Heap) : At (H ++ L) a b σ c2 :=
  ⟨by rw [List.getElem?_append_left (List.getElem?_eq_some_iff.1 h.m).1]; exact h.m, by rw [List.getElem?_append_left (List.getElem?_eq_some_iff.1 h.r).1]; exact h.r⟩
theorem At.set {H : Heap} {a b j : Nat} {σ : Sto} {c2 : C} (h : At H a b σ c2) (ha : j ≠ a) (hb : j ≠ b) (o : Ob) : At (H.set j o) a b σ c2 :=
  ⟨by rw [List.getElem?_set_ne ha]; exact h.m, by rw [List.getElem?_set_ne hb]; exact h.r⟩
def OccOk (σ : Sto) (n : Int) (f : Nat) (t : Tm) : Prop := ∀ (M : List Int) (H : Heap) (a b j : Nat) (c2 : C), At H a b σ c2 → j < H.length → j ≠ a → j ≠ b →
  ACalls Tryz.prog 182 [.c (.ptr (.e b) 0), .c (.d (.int .i64 n)), .agg (t.row.map .d), .c (.map (.e j))] (H.set j (.map (metM M)))
    (fun r H' => r = .c (.d (.bool (occF f σ n t M).1)) ∧ H' = H.set j (.map (metM (occF f σ n t M).2)))
theorem call_occ {σ : Sto} {n : Int} {f : Nat} {t : Tm} (hd : OccOk σ n f t) {M : List Int} {H : Heap} {a b j : Nat} {c2 : C} {sl : List A} {loc H₂ : Heap} {K : A → St → Prop} (hat : At H a b σ c2) (hj : j < H.length) (ha : j ≠ a) (hb : j ≠ b)
    (hH : H₂ = H.set j (.map (metM M)) ++ loc.map (Ob.re H.length)) (hf : Obs.fits H.length 0 (H.set j (.map (metM M)))) (hk : K (.c (.d (.bool (occF f σ n t M).1))) ⟨sl, H.set j (.map (metM (occF f σ n t M).2)), loc⟩) :
    ACalls Tryz.prog 182 [.c (.ptr (.e b) 0), .c (.d (.int .i64 n)), .agg (t.row.map .d), .c (.map (.e j))] H₂ (CallK K ⟨sl, H.set j (.map (metM M)), loc⟩) := by
  subst hH
  have h := hd M (H ++ loc.map (Ob.re H.length)) a b j c2 (hat.append _) (by simp; omega) ha hb
  rw [List.set_append_left _ _ hj] at h
  refine h.mono fun r H' ⟨h1, h2⟩ => ?_
  rw [List.set_append_left _ _ hj] at h2
  exact ⟨H.set j (.map (metM (occF f σ n t M).2)), loc, r, by simpa using h2, by simp, Nat.le_refl _, by simpa using fits_reset (b := .map (metM (occF f σ n t M).2)) hf trivial, by rw [h1]; rfl, by rw [h1]; exact hk⟩
def occHeap (H : Heap) (j : Nat) (L : Heap) (M : List Int) : Heap := H.set j (.map (metM M)) ++ L
theorem occHeap_len (H : Heap) (j : Nat) (L : Heap) (M : List Int) : (occHeap H j L M).length = H.length + L.length := by simp [occHeap]
theorem occHeap_get (H : Heap) (j : Nat) (L : Heap) (M : List Int) (i : Nat) : (occHeap H j L M)[H.length + i]? = L[i]? := by
  rw [occHeap, List.getElem?_append_right (by simp)]; simp
theorem occ1_calls {σ : Sto} {n : Int} {f : Nat} {t : Tm} (h : OccOk σ n f t) (M : List Int) (H : Heap) (a b j : Nat) (c2 : C) (x : Ob) (hat : At H a b σ c2) (hj : j < H.length) (hja : j ≠ a) (hjb : j ≠ b)
    (hfit : ∀ M, Obs.fits (H.length + 4) 0 (occHeap H j [.cells [.ptr (.e b) 0], .cells [.d (.int .i64 n)], x, .cells [.map (.e j)]] M)) :
    ACalls Tryz.prog 216 [.agg (t.row.map .d), .c (.ptr (.e H.length) 0), .c (.ptr (.e (H.length + 1)) 0), .c (.ptr (.e (H.length + 3)) 0)] (occHeap H j [.cells [.ptr (.e b) 0], .cells [.d (.int .i64 n)], x, .cells [.map (.e j)]] M)
      (fun r H' => r = .c (.d (.bool (occF f σ n t M).1)) ∧ H' = occHeap H j [.cells [.ptr (.e b) 0], .cells [.d (.int .i64 n)], x, .cells [.map (.e j)]] (occF f σ n t M).2) := by
  refine acalls Tryz.func216 (by kernel_rfl) ac216_ok fun hf => ?_
  have g0 : (occHeap H j [.cells [.ptr (.e b) 0], .cells [.d (.int .i64 n)], x, .cells [.map (.e j)]] M)[H.length]? = some (.cells [.ptr (.e b) 0]) := occHeap_get H j _ M 0
  have g1 : (occHeap H j [.cells [.ptr (.e b) 0], .cells [.d (.int .i64 n)], x, .cells [.map (.e j)]] M)[H.length + 1]? = some (.cells [.d (.int .i64 n)]) := occHeap_get H j _ M 1
  have g3 : (occHeap H j [.cells [.ptr (.e b) 0], .cells [.d (.int .i64 n)], x, .cells [.map (.e j)]] M)[H.length + 3]? = some (.cells [.map (.e j)]) := occHeap_get H j _ M 3
  have q0 := congrArg (·.getD .dead) g0
  have q1 := congrArg (·.getD .dead) g1
  have q3 := congrArg (·.getD .dead) g3
  simp only [Option.getD_some] at q0 q1 q3
  simp -implicitDefEqProofs [ac216, g0, g1, g3, q0, q1, q3, row_len, take_row, pure_d, re_d, Ref.re, go_sem, -List.set_cons_succ, -List.set_cons_zero]
  have hset : ∀ M, (H ++ ([.cells [.ptr (.e b) 0], .cells [.d (.int .i64 n)], x, .cells [.map (.e j)]] ++ [Ob.cells (t.row.map C.d)])).set j (.map (metM M)) = occHeap H j [.cells [.ptr (.e b) 0], .cells [.d (.int .i64 n)], x, .cells [.map (.e j)]] M ++ [Ob.cells (t.row.map C.d)] := fun M => by
    rw [List.set_append_left _ _ hj, occHeap, List.append_assoc]
  have h2 := h M (H ++ ([.cells [.ptr (.e b) 0], .cells [.d (.int .i64 n)], x, .cells [.map (.e j)]] ++ [Ob.cells (t.row.map C.d)])) a b j c2 (hat.append _) (by simp; omega) hja hjb
  rw [hset, hset] at h2
  refine h2.mono fun r H' ⟨h3, h4⟩ => ⟨occHeap H j [.cells [.ptr (.e b) 0], .cells [.d (.int .i64 n)], x, .cells [.map (.e j)]] (occF f σ n t M).2, [Ob.cells (t.row.map C.d)], .c (.d (.bool (occF f σ n t M).1)), ?_, ?_, Nat.le_refl _, ?_, h3, ?_⟩
  · rw [h4]; simp [Ob.re, re_d]
  · simp [occHeap_len]
  · have := hfit (occF f σ n t M).2
    simpa [occHeap_len] using this
  · simp -implicitDefEqProofs [go_sem, -List.set_cons_succ, -List.set_cons_zero]
theorem occ_calls {σ : Sto} {W : Int → Nat} (hW : Wt σ W) (hg : ∀ x ∈ σ, x.2.good) (n : Int) : ∀ (f : Nat) (t : Tm), t.good → t.tw W < f → OccOk σ n f t := by
  intro f
  induction f with
  | zero => intro t _ h; omega
  | succ f ih =>
    intro t ht hlt M H a b j c2 hat hj hja hjb
    have hbl := (List.getElem?_eq_some_iff.1 hat.r).1
    refine acalls Tryz.func182 (by kernel_rfl) ac182_ok fun hf => ?_
    simp only [List.length_set] at hf
    have hf1 : ∀ M, Obs.fits H.length 0 (H.set j (.map (metM M))) := fun M => fits_reset (b := .map (metM M)) hf trivial
    obtain ⟨k, v, s, l⟩ := t
    by_cases hk : k = 1
    · subst hk
      have hq : occF (f + 1) σ n (.mk 1 v s l) M = if v ∈ M then (false, M) else if (wk σ (.mk 1 v s l)).k = 1 then (decide ((wk σ (.mk 1 v s l)).n = n), M ++ [v]) else occF f σ n (wk σ (.mk 1 v s l)) (M ++ [v]) := rfl
      rw [hq]
      by_cases hm : v ∈ M
      · simp -implicitDefEqProofs [ac182, row_mk, hj, hf, hf1, metM_row, hm, List.getElem?_set, go_sem, -List.set_cons_succ, -List.set_cons_zero]
      · have hat1 := hat.set hja hjb (.map (metM (M ++ [v])))
        have hwg := wk_good hW hg _ ht
        have hwk := fun H' h1 h2 => walk_calls hW hg (.mk 1 v s l) ht H' a b c2 h1 h2
        simp only [row_mk, List.map_cons, List.map_nil] at hwk
        simp -implicitDefEqProofs [ac182, row_mk, hj, hf, hf1, metM_row, metM_put M v hm, hm, List.getElem?_set, Ref.re, go_sem, -List.set_cons_succ, -List.set_cons_zero]
        have hlt2 := fun h => wk_lt hW (t := .mk 1 v s l) rfl h
        generalize wk σ (.mk 1 v s l) = u at hwk hwg hlt2
        refine qcall_two (a := a) (b := b) hwk (by simpa using hf1 _) hat1.m hat1.r ⟨by simp, by simp⟩ ⟨by simp, by simp⟩ (by simp [A.re, re_d]) ?_
        obtain ⟨uk, un, us, ul⟩ := u
        by_cases huk : uk = 1
        · subst huk
          simp -implicitDefEqProofs [row_mk, hj, hf, hf1, List.getElem?_set, Ref.re, Tm.k, Tm.n, go_sem, -List.set_cons_succ, -List.set_cons_zero]
          rfl
        · have c1 := ih (.mk uk un us ul) hwg (by have := hlt2 huk; omega)
          simp -implicitDefEqProofs [row_mk, hj, hf, hf1, huk, List.getElem?_set, Ref.re, Tm.k, Tm.n, go_sem, -List.set_cons_succ, -List.set_cons_zero]
          have c3 := fun (sl : List A) (loc H₂ : Heap) (K : A → St → Prop) hH hk => call_occ (sl := sl) (loc := loc) (H₂ := H₂) (K := K) c1 (M := M ++ [v]) hat hj hja hjb hH (hf1 _) hk
          simp only [row_mk, List.map_cons, List.map_nil] at c3
          refine c3 _ _ _ _ rfl ?_
          simp -implicitDefEqProofs [row_mk, hj, hf, hf1, huk, List.getElem?_set, Ref.re, Tm.k, Tm.n, go_sem, -List.set_cons_succ, -List.set_cons_zero]
    · have hq : occF (f + 1) σ n (.mk k v s l) M = anyS (fun M x => occF f σ n x M) l M := by simp [occF, Tm.k, hk, Tm.kids]
      rw [hq]
      have hll : l.length ≤ 1048576 := by
        cases ht with
        | mk ho _ =>
          rcases own_cases ho with ⟨_, _, _, _, rfl⟩ | ⟨_, _, _, _, rfl⟩ | ⟨_, _, _, h⟩
          · simp
          · simp
          · omega
      have hfit : ∀ M, Obs.fits (H.length + 4) 0 (occHeap H j [.cells [.ptr (.e b) 0], .cells [.d (.int .i64 n)], .cells [.d (.int .i64 k), .d (.int .i64 v), .d (.str s), .d (.sl (l.map Tm.row))], .cells [.map (.e j)]] M) := fun M =>
        fits_append (fits_mono (by omega) (hf1 M)) ⟨⟨by show b < H.length + 4 + 0; omega, trivial⟩, ⟨trivial, trivial⟩, ⟨trivial, trivial, trivial, trivial, trivial⟩, ⟨by show j < H.length + 4 + 0; omega, trivial⟩, trivial⟩
      have con := tmF_con (fun M => occHeap H j [.cells [.ptr (.e b) 0], .cells [.d (.int .i64 n)], .cells [.d (.int .i64 k), .d (.int .i64 v), .d (.str s), .d (.sl (l.map Tm.row))], .cells [.map (.e j)]] M) (H.length + 4) (fun M => by simp [occHeap]) hfit 216 [(H.length, 0), (H.length + 1, 0), (H.length + 3, 0)]
        (fun M x => occF f σ n x M) (fun _ => True) l hll (fun M _ x hx => occ1_calls (ih x (good_kids ht x hx) (by have := tw_kid (W := W) (t := .mk k v s l) hk hx; omega)) M H a b j c2 _ hat hj hja hjb hfit) (fun _ _ _ _ _ => trivial) M trivial
      simp -implicitDefEqProofs [ac182, row_mk, hj, hf, hf1, hk, List.getElem?_set, Ref.re, go_sem, -List.set_cons_succ, -List.set_cons_zero]
      refine con.mono fun r H' ⟨h5, h6⟩ => ⟨H.set j (.map (metM (anyS (fun M x => occF f σ n x M) l M).2)), [.cells [.ptr (.e b) 0], .cells [.d (.int .i64 n)], .cells [.d (.int .i64 k), .d (.int .i64 v), .d (.str s), .d (.sl (l.map Tm.row))], .cells [.map (.e j)]], .c (.d (.bool (anyS (fun M x => occF f σ n x M) l M).1)), by rw [h6]; rfl, by simp, Nat.le_refl _, by simpa using hf1 _, h5, ?_⟩
      simp -implicitDefEqProofs [go_sem, -List.set_cons_succ, -List.set_cons_zero]
end Go.Proofs.YtbblefjbgbocoaaGreatDoor

/-
  Unification, of the program: a variable is bound; terms are unified.
  Conditions: none.
-/
open Go Go.AM Go.Proofs
namespace Go.Proofs.YtbblefjbgbocoaaGreatDoor
open Go.ChangeShapes Go.WideShapes Go.ChangeAt Go.RowKit
set_option linter.unusedVariables false
set_option linter.unusedSimpArgs false
set_option maxRecDepth 100000
-- 143 (*loop.example/prologserver/impl.store).bind params 3 ntmps 28
def ac143 : Cd := .seq (.region [⟨(some 5),.box (.t 2),none⟩,
 ⟨(some 6),.mv (.k (.c (.d (.bool false)))),none⟩] [2,6])
 (.seq (.seq (.region [⟨(some 7),.mv (.t 0),none⟩,
 ⟨(some 8),.mv (.t 1),none⟩,
 ⟨(some 9),.load (some 4) (.t 5),none⟩,
 ⟨(some 10),.mkMap,none⟩,
 ⟨(some 11),.call false 182 [(.t 7),(.t 8),(.t 9),(.t 10)],none⟩] [7,8,9,10])
 (.cond (.t 11)
 (.seq (.region [⟨(some 6),.mv (.k (.c (.d (.bool false)))),none⟩] [0,1,5,11])
 (.ret))
 (.skip)))
 (.seq (.region [⟨(some 12),.mv (.t 0),none⟩,
 ⟨(some 13),.nilCheck (.t 12),none⟩,
 ⟨(some 14),.fieldAddr 0 (.t 13),none⟩,
 ⟨(some 16),.mv (.t 1),none⟩,
 ⟨(some 15),.load none (.t 14),none⟩,
 ⟨(some 17),.load (some 4) (.t 5),none⟩,
 ⟨none,.mapSet (.t 15) (.t 16) (.t 17),none⟩] [5,6,11,12,13,14,15,16,17])
 (.seq (.region [⟨(some 18),.mv (.t 0),none⟩,
 ⟨(some 19),.mv (.t 0),none⟩,
 ⟨(some 20),.nilCheck (.t 19),none⟩,
 ⟨(some 21),.fieldAddr 1 (.t 20),none⟩,
 ⟨(some 22),.load none (.t 21),none⟩,
 ⟨(some 23),.mv (.t 1),none⟩,
 ⟨(some 24),.buildSlice 1 1 [(.int .i64 0)] [(0,(.t 23))],none⟩,
 ⟨(some 25),.append false 1 (.t 22) (.t 24),none⟩,
 ⟨(some 26),.nilCheck (.t 18),none⟩,
 ⟨(some 27),.fieldAddr 1 (.t 26),none⟩,
 ⟨none,.store 1 (.t 27) (.t 25),none⟩] [0,1,18,19,20,21,22,23,24,25,26,27])
 (.seq (.region [⟨(some 6),.mv (.k (.c (.d (.bool true)))),none⟩] [])
 (.ret)))))
theorem ac143_ok : cFunc Tryz.prog [] [(0,[2,6],[]),(1,[7,8,9,10],[]),(2,[0,1,5,11],[]),(3,[5,6,11,12,13,14,15,16,17],[0,1,2,4,3,5,6]),(4,[0,1,18,19,20,21,22,23,24,25,26,27],[]),(5,[],[])] Tryz.f143 = some (ac143,[.tmp 6],28) := by kernel_rfl
-- 84 (*loop.example/prologserver/impl.store).unify params 3 ntmps 97
-- loop head live: [0,4,5,79,80]
def ac84 : Cd := .seq (.region [⟨(some 4),.box (.t 1),none⟩,
 ⟨(some 5),.box (.t 2),none⟩,
 ⟨(some 6),.mv (.k (.c (.d (.bool false)))),none⟩] [1,2,6])
 (.seq (.region [⟨(some 8),.mv (.t 0),none⟩,
 ⟨(some 11),.mv (.t 0),none⟩,
 ⟨(some 9),.load (some 4) (.t 4),none⟩,
 ⟨(some 10),.qcall 142 [(.t 8),(.t 9)],none⟩,
 ⟨(some 12),.load (some 4) (.t 5),none⟩,
 ⟨(some 13),.qcall 142 [(.t 11),(.t 12)],none⟩,
 ⟨none,.store 4 (.t 4) (.t 10),none⟩,
 ⟨none,.store 4 (.t 5) (.t 13),none⟩] [8,9,10,11,12,13])
 (.seq (.block 0 (.seq (.region [⟨(some 15),.fieldAddr 0 (.t 4),none⟩,
 ⟨(some 16),.load none (.t 15),none⟩,
 ⟨(some 17),.bin .eql (.t 16) (.k (.c (.d (.int .i64 1)))),none⟩,
 ⟨(some 18),.mv (.t 17),none⟩,
 ⟨(some 19),.fieldAddr 0 (.t 5),some (18,true)⟩,
 ⟨(some 20),.load none (.t 19),some (18,true)⟩,
 ⟨(some 21),.bin .eql (.t 20) (.k (.c (.d (.int .i64 1)))),some (18,true)⟩,
 ⟨(some 22),.pick (.t 18) (.t 21) (.k (.c (.d (.bool false)))),none⟩,
 ⟨(some 23),.mv (.t 22),none⟩,
 ⟨(some 24),.fieldAddr 1 (.t 4),some (23,true)⟩,
 ⟨(some 25),.load none (.t 24),some (23,true)⟩,
 ⟨(some 26),.fieldAddr 1 (.t 5),some (23,true)⟩,
 ⟨(some 27),.load none (.t 26),some (23,true)⟩,
 ⟨(some 28),.bin .eql (.t 25) (.t 27),some (23,true)⟩,
 ⟨(some 29),.pick (.t 23) (.t 28) (.k (.c (.d (.bool false)))),none⟩,
 ⟨(some 14),.mv (.t 29),none⟩] [15,16,17,18,19,20,21,22,23,24,25,26,27,28,29])
 (.cond (.t 14)
 (.seq (.region [⟨(some 6),.mv (.k (.c (.d (.bool true)))),none⟩] [0,4,5,14])
 (.ret))
 (.seq (.region [⟨(some 31),.fieldAddr 0 (.t 4),none⟩,
 ⟨(some 32),.load none (.t 31),none⟩,
 ⟨(some 33),.bin .eql (.t 32) (.k (.c (.d (.int .i64 1)))),none⟩,
 ⟨(some 30),.mv (.t 33),none⟩] [14,31,32,33])
 (.cond (.t 30)
 (.seq (.region [⟨(some 34),.mv (.t 0),none⟩,
 ⟨(some 35),.fieldAddr 1 (.t 4),none⟩,
 ⟨(some 36),.load none (.t 35),none⟩,
 ⟨(some 37),.load (some 4) (.t 5),none⟩,
 ⟨(some 38),.call false 143 [(.t 34),(.t 36),(.t 37)],none⟩,
 ⟨(some 6),.mv (.t 38),none⟩] [0,4,5,30,34,35,36,37,38])
 (.ret))
 (.seq (.region [⟨(some 40),.fieldAddr 0 (.t 5),none⟩,
 ⟨(some 41),.load none (.t 40),none⟩,
 ⟨(some 42),.bin .eql (.t 41) (.k (.c (.d (.int .i64 1)))),none⟩,
 ⟨(some 39),.mv (.t 42),none⟩] [30,40,41,42])
 (.cond (.t 39)
 (.seq (.region [⟨(some 43),.mv (.t 0),none⟩,
 ⟨(some 44),.fieldAddr 1 (.t 5),none⟩,
 ⟨(some 45),.load none (.t 44),none⟩,
 ⟨(some 46),.load (some 4) (.t 4),none⟩,
 ⟨(some 47),.call false 143 [(.t 43),(.t 45),(.t 46)],none⟩,
 ⟨(some 6),.mv (.t 47),none⟩] [0,4,5,39,43,44,45,46,47])
 (.ret))
 (.seq (.region [⟨(some 49),.fieldAddr 0 (.t 4),none⟩,
 ⟨(some 50),.load none (.t 49),none⟩,
 ⟨(some 51),.fieldAddr 0 (.t 5),none⟩,
 ⟨(some 52),.load none (.t 51),none⟩,
 ⟨(some 53),.bin .neq (.t 50) (.t 52),none⟩,
 ⟨(some 54),.mv (.t 53),none⟩,
 ⟨(some 55),.fieldAddr 1 (.t 4),some (54,false)⟩,
 ⟨(some 56),.load none (.t 55),some (54,false)⟩,
 ⟨(some 57),.fieldAddr 1 (.t 5),some (54,false)⟩,
 ⟨(some 58),.load none (.t 57),some (54,false)⟩,
 ⟨(some 59),.bin .neq (.t 56) (.t 58),some (54,false)⟩,
 ⟨(some 60),.pick (.t 54) (.k (.c (.d (.bool true)))) (.t 59),none⟩,
 ⟨(some 61),.mv (.t 60),none⟩,
 ⟨(some 62),.fieldAddr 2 (.t 4),some (61,false)⟩,
 ⟨(some 63),.load none (.t 62),some (61,false)⟩,
 ⟨(some 64),.fieldAddr 2 (.t 5),some (61,false)⟩,
 ⟨(some 65),.load none (.t 64),some (61,false)⟩,
 ⟨(some 66),.bin .neq (.t 63) (.t 65),some (61,false)⟩,
 ⟨(some 67),.pick (.t 61) (.k (.c (.d (.bool true)))) (.t 66),none⟩,
 ⟨(some 68),.mv (.t 67),none⟩,
 ⟨(some 69),.fieldAddr 3 (.t 4),some (68,false)⟩,
 ⟨(some 70),.load none (.t 69),some (68,false)⟩,
 ⟨(some 71),.len 1 (.t 70),some (68,false)⟩,
 ⟨(some 72),.fieldAddr 3 (.t 5),some (68,false)⟩,
 ⟨(some 73),.load none (.t 72),some (68,false)⟩,
 ⟨(some 74),.len 1 (.t 73),some (68,false)⟩,
 ⟨(some 75),.bin .neq (.t 71) (.t 74),some (68,false)⟩,
 ⟨(some 76),.pick (.t 68) (.k (.c (.d (.bool true)))) (.t 75),none⟩,
 ⟨(some 48),.mv (.t 76),none⟩] [39,49,50,51,52,53,54,55,56,57,58,59,60,61,62,63,64,65,66,67,68,69,70,71,72,73,74,75,76])
 (.cond (.t 48)
 (.seq (.region [⟨(some 6),.mv (.k (.c (.d (.bool false)))),none⟩] [0,4,5,48])
 (.ret))
 (.skip))))))))))
 (.seq (.seq (.region [⟨(some 77),.fieldAddr 3 (.t 4),none⟩,
 ⟨(some 78),.load none (.t 77),none⟩,
 ⟨(some 79),.len 1 (.t 78),none⟩,
 ⟨(some 80),.mv (.k (.c (.d (.int .i64 0)))),none⟩] [6,48,77,78])
 (.block 1 (.loop (.seq (.region [⟨(some 81),.bin .lss (.t 80) (.t 79),none⟩] [])
 (.seq (.cond (.t 81)
 (.skip)
 (.exit 1))
 (.seq (.block 2 (.seq (.region [⟨(some 82),.mv (.t 80),none⟩,
 ⟨(some 7),.mv (.t 82),none⟩] [81,82])
 (.seq (.region [⟨(some 83),.mv (.t 0),none⟩,
 ⟨(some 84),.fieldAddr 3 (.t 4),none⟩,
 ⟨(some 86),.mv (.t 7),none⟩,
 ⟨(some 89),.fieldAddr 3 (.t 5),none⟩,
 ⟨(some 91),.mv (.t 7),none⟩,
 ⟨(some 85),.load none (.t 84),none⟩,
 ⟨(some 87),.indexAddr 4 (.t 85) (.t 86),none⟩,
 ⟨(some 88),.load (some 4) (.t 87),none⟩,
 ⟨(some 90),.load none (.t 89),none⟩,
 ⟨(some 92),.indexAddr 4 (.t 90) (.t 91),none⟩,
 ⟨(some 93),.load (some 4) (.t 92),none⟩,
 ⟨(some 94),.call false 84 [(.t 83),(.t 88),(.t 93)],none⟩,
 ⟨(some 95),.un .not (.t 94),none⟩] [7,83,84,85,86,87,88,89,90,91,92,93,94])
 (.cond (.t 95)
 (.seq (.region [⟨(some 6),.mv (.k (.c (.d (.bool false)))),none⟩] [0,4,5,79,80,95])
 (.ret))
 (.skip)))))
 (.region [⟨(some 96),.bin .add (.t 80) (.k (.c (.d (.int .i64 1)))),none⟩,
 ⟨(some 80),.mv (.t 96),none⟩] [6,95,96])))))))
 (.seq (.region [⟨(some 6),.mv (.k (.c (.d (.bool true)))),none⟩] [])
 (.ret)))))
theorem ac84_ok : cFunc Tryz.prog [1000142] [(0,[1,2,6],[]),(1,[8,9,10,11,12,13],[0,3,1,2,4,5,6,7]),(2,[15,16,17,18,19,20,21,22,23,24,25,26,27,28,29],[]),(3,[0,4,5,14],[]),(4,[14,31,32,33],[]),(5,[0,4,5,30,34,35,36,37,38],[]),(6,[30,40,41,42],[]),(7,[0,4,5,39,43,44,45,46,47],[]),(8,[39,49,50,51,52,53,54,55,56,57,58,59,60,61,62,63,64,65,66,67,68,69,70,71,72,73,74,75,76],[]),(9,[0,4,5,48],[]),(10,[6,48,77,78],[]),(11,[],[]),(12,[81,82],[]),(13,[7,83,84,85,86,87,88,89,90,91,92,93,94],[0,1,3,6,8,2,4,5,7,9,10,11,12]),(14,[0,4,5,79,80,95],[]),(15,[6,95,96],[]),(16,[],[])] Tryz.f84 = some (ac84,[.tmp 6],97) := by kernel_rfl
theorem sd_at {H : Heap} {i : Nat} (σ : Sto) (hi : i + 2 < H.length) : At (sd H i σ) i (i + 1) σ (.own (.e (i + 2)) σ.length (trR σ)) := ⟨sd_0 σ hi, sd_1 σ hi⟩
noncomputable def bindS (σ : Sto) (n : Int) (t : Tm) : Sto := if occ σ n t = true then σ else σ ++ [(n, t)]
/-- what a function that works on the store does -/
def Binds (f : FuncId) (xs : List A) (σ : Sto) (r : A) (σ' : Sto) : Prop := ∀ (H : Heap) (i : Nat), i + 2 < H.length → ACalls Tryz.prog f (.c (.ptr (.e (i + 1)) 0) :: xs) (sd H i σ) (fun r' H' => r' = r ∧ H' = sd H i σ')
theorem call_sd {f : FuncId} {xs : List A} {σ σ' : Sto} {r : A} (hd : Binds f xs σ r σ') {H : Heap} {i : Nat} {sl : List A} {loc H₂ : Heap} {K : A → St → Prop} (hi : i + 2 < H.length)
    (hH : H₂ = sd H i σ ++ loc.map (Ob.re H.length)) (hr : A.re H.length r = r) (hf : Obs.fits H.length 0 (sd H i σ)) (hk : K r ⟨sl, sd H i σ', loc⟩) :
    ACalls Tryz.prog f (.c (.ptr (.e (i + 1)) 0) :: xs) H₂ (CallK K ⟨sl, sd H i σ, loc⟩) := by
  subst hH
  have h := hd (H ++ loc.map (Ob.re H.length)) i (by simp; omega)
  rw [sd_append _ hi]
  refine h.mono fun r' H' ⟨h1, h2⟩ => ?_
  rw [← sd_append _ hi] at h2
  exact ⟨sd H i σ', loc, r, by simpa [sd_len] using h2, by simp [sd_len], Nat.le_refl _, by simpa [sd_len] using sd_fits hf hi, by rw [h1]; simpa [sd_len] using hr.symm, hk⟩
theorem bind_calls {σ : Sto} (hs : Sok σ) {n : Int} {t : Tm} (hn : look σ n = none) (ht : t.good) : Binds 143 [.c (.d (.int .i64 n)), .agg (t.row.map .d)] σ (.c (.d (.bool (!occ σ n t)))) (bindS σ n t) := fun H i hi => by
  have hc := hs.cnt
  have hoc : ∃ M, OccOk σ n ((t.tw (hs.wt.choose) + 1)) t ∧ occF (t.tw (hs.wt.choose) + 1) σ n t [] = (occ σ n t, M) := by
    refine ⟨(occF (t.tw (hs.wt.choose) + 1) σ n t []).2, occ_calls hs.wt.choose_spec hs.good n _ t ht (by omega), ?_⟩
    have : occ σ n t = (occF (t.tw (hs.wt.choose) + 1) σ n t []).1 := by
      unfold occ
      rw [dif_pos hs.wt]
    rw [this]
  obtain ⟨M, ho, hM⟩ := hoc
  generalize t.tw (hs.wt.choose) + 1 = F at ho hM
  refine acalls Tryz.func143 (by kernel_rfl) ac143_ok fun hf => ?_
  rw [sd_len] at hf
  have hf1 := fun σ' => sd_fits (σ' := σ') hf hi
  have hset : ∀ M', (sd H i σ ++ [Ob.cells (t.row.map C.d), Ob.map []]).set (H.length + 1) (.map (metM M')) = sd H i σ ++ [Ob.cells (t.row.map C.d), Ob.map (metM M')] := fun M' => by
    rw [List.set_append_right _ _ (by rw [sd_len]; omega), sd_len]
    simp
  have h2 := ho [] (sd H i σ ++ [Ob.cells (t.row.map C.d), Ob.map []]) i (i + 1) (H.length + 1) _ ((sd_at σ hi).append _) (by simp [sd_len]) (by omega) (by omega)
  rw [hset, hM, hset] at h2
  simp -implicitDefEqProofs [ac143, row_len, take_row, pure_d, re_d, sd_len, Ref.re, go_sem, -List.set_cons_succ, -List.set_cons_zero]
  refine h2.mono fun r H' ⟨h3, h4⟩ => ⟨sd H i σ, [Ob.cells (t.row.map C.d), Ob.map (metM M)], .c (.d (.bool (occ σ n t))), ?_, by simp, Nat.le_refl _, by simpa [sd_len] using hf, h3, ?_⟩
  · rw [h4]; simp [Ob.re, re_d]
  · have g0 := sd_0 σ hi
    have g1 := sd_1 σ hi
    have g2 := sd_2 σ hi
    cases hoc : occ σ n t with
    | true => simp -implicitDefEqProofs [bindS, hoc, sd_len, go_sem, -List.set_cons_succ, -List.set_cons_zero]
    | false =>
      have hput := stoM_put σ n t hn
      have hli : inR .i64 (σ.length : Int) := small_i64 (by omega) (by omega)
      have e1 := sd_bind H i σ (σ ++ [(n, t)])
      rw [trR_snoc] at e1
      simp only [List.length_append, List.length_singleton] at e1
      have k1 : ((sd H i σ).set i (.map (stoM (σ ++ [(n, t)]))))[i + 1]? = some (.cells [.map (.e i), .own (.e (i + 2)) σ.length (trR σ)]) := by rw [List.getElem?_set_ne (by omega)]; exact g1
      have k2 : ((sd H i σ).set i (.map (stoM (σ ++ [(n, t)]))))[i + 2]? = some (.grow σ.length 1) := by rw [List.getElem?_set_ne (by omega)]; exact g2
      have hil : i < (sd H i σ).length := by rw [sd_len]; omega
      simp -implicitDefEqProofs [bindS, hoc, g0, g1, g2, Ref.re, row_len, take_row, pure_d, re_d, toDs_map, hput, go_sem, -List.set_cons_succ, -List.set_cons_zero]
      refine ⟨?_, allLen_ints _, by rw [trR_len]; unfold maxApp; omega, ?_, ?_⟩
      · rw [sd_len]; exact Obs_fits_set hf trivial
      · rw [sd_len, e1]; exact hf1 _
      · exact e1
/-- what is shown of a job of unification -/
inductive Ch : Sto → List Tm → List Tm → Bool → Sto → Prop
  | nil {σ : Sto} : Ch σ [] [] true σ
  | stop {σ σ' : Sto} {x y : Tm} {xs ys : List Tm} : Sok σ → Binds 84 [.agg (x.row.map .d), .agg (y.row.map .d)] σ (.c (.d (.bool false))) σ' → Ch σ (x :: xs) (y :: ys) false σ'
  | go {σ σ₁ σ' : Sto} {x y : Tm} {xs ys : List Tm} {r : Bool} : Sok σ → Binds 84 [.agg (x.row.map .d), .agg (y.row.map .d)] σ (.c (.d (.bool true))) σ₁ → Ch σ₁ xs ys r σ' → Ch σ (x :: xs) (y :: ys) r σ'
def UJ.good : UJ → Prop
  | .tm a b => a.good ∧ b.good
  | .ls xs ys => (∀ x ∈ xs, x.good) ∧ ∀ y ∈ ys, y.good
def UJ.shown : Sto → UJ → Bool → Sto → Prop
  | σ, .tm a b, r, σ' => Binds 84 [.agg (a.row.map .d), .agg (b.row.map .d)] σ (.c (.d (.bool r))) σ'
  | σ, .ls xs ys, r, σ' => Ch σ xs ys r σ'
theorem uni_sok {σ σ' : Sto} {j : UJ} {r : Bool} (h : Uni σ j r σ') : Sok σ → j.good → Sok σ' := by
  induction h with
  | same => exact fun h _ => h
  | lno => exact fun h _ => h
  | @lyes σ a b ka hs ho =>
    intro h hg
    obtain ⟨W, hW⟩ := h.wt
    have hv := good_var (wk_good hW h.good a hg.1) ka
    exact (bind_nx h (wk_end hW a ka) hv.1 hv.2.1 (wk_good hW h.good b hg.2) ho).1
  | rno => exact fun h _ => h
  | @ryes σ a b ka kb ho =>
    intro h hg
    obtain ⟨W, hW⟩ := h.wt
    have hv := good_var (wk_good hW h.good b hg.2) kb
    exact (bind_nx h (wk_end hW b kb) hv.1 hv.2.1 (wk_good hW h.good a hg.1) ho).1
  | clash => exact fun h _ => h
  | @kids σ σ' a b r ka kb hs _ ih =>
    intro h hg
    obtain ⟨W, hW⟩ := h.wt
    exact ih h ⟨good_kids (wk_good hW h.good a hg.1), good_kids (wk_good hW h.good b hg.2)⟩
  | nil => exact fun h _ => h
  | stop _ ih => exact fun h hg => ih h ⟨hg.1 _ (by simp), hg.2 _ (by simp)⟩
  | go _ _ ih1 ih2 => exact fun h hg => ih2 (ih1 h ⟨hg.1 _ (by simp), hg.2 _ (by simp)⟩) ⟨fun x hx => hg.1 x (by simp [hx]), fun y hy => hg.2 y (by simp [hy])⟩
theorem drop_rowU (t : Tm) : List.drop 4 (t.row.map C.d) = [] := List.drop_of_length_le (by simp [row_len])
theorem good_len {k n : Int} {s : List UInt8} {l : List Tm} (h : (Tm.mk k n s l).good) : l.length ≤ 4 := by
  cases h with
  | mk ho _ =>
    rcases own_cases ho with ⟨_, _, _, _, rfl⟩ | ⟨_, _, _, _, rfl⟩ | ⟨_, _, _, h⟩
    · simp
    · simp
    · exact h
theorem unify_tm {σ : Sto} (hs : Sok σ) (a b : Tm) (ha : a.good) (hb : b.good) (r : Bool) (σ' : Sto)
    (h : ((wk σ a).k = 1 ∧ (wk σ b).k = 1 ∧ (wk σ a).n = (wk σ b).n ∧ r = true ∧ σ' = σ) ∨
      ((wk σ a).k = 1 ∧ ¬ ((wk σ b).k = 1 ∧ (wk σ a).n = (wk σ b).n) ∧ r = !occ σ (wk σ a).n (wk σ b) ∧ σ' = bindS σ (wk σ a).n (wk σ b)) ∨
      ((wk σ a).k ≠ 1 ∧ (wk σ b).k = 1 ∧ r = !occ σ (wk σ b).n (wk σ a) ∧ σ' = bindS σ (wk σ b).n (wk σ a)) ∨
      ((wk σ a).k ≠ 1 ∧ (wk σ b).k ≠ 1 ∧ ¬ same3 (wk σ a) (wk σ b) ∧ r = false ∧ σ' = σ) ∨
      ((wk σ a).k ≠ 1 ∧ (wk σ b).k ≠ 1 ∧ same3 (wk σ a) (wk σ b) ∧ Ch σ (wk σ a).kids (wk σ b).kids r σ')) :
    Binds 84 [.agg (a.row.map .d), .agg (b.row.map .d)] σ (.c (.d (.bool r))) σ' := fun H i hi => by
  obtain ⟨W, hW⟩ := hs.wt
  have hga := wk_good hW hs.good a ha
  have hgb := wk_good hW hs.good b hb
  have hna := wk_end hW a
  have hnb := wk_end hW b
  refine acalls Tryz.func84 (by kernel_rfl) ac84_ok fun hf => ?_
  rw [sd_len] at hf
  have hf1 := fun σ' => sd_fits (σ' := σ') hf hi
  have hat := sd_at σ hi
  have hfe : Obs.fits (sd H i σ).length 0 (sd H i σ) := by rw [sd_len]; exact hf
  simp -implicitDefEqProofs [ac84, row_len, take_row, pure_d, re_d, sd_len, Ref.re, go_sem, -List.set_cons_succ, -List.set_cons_zero]
  refine qcall_two (a := i) (b := i + 1) (fun H' h1 h2 => walk_calls hW hs.good a ha H' i (i + 1) _ h1 h2) hfe hat.m hat.r ⟨by simp, by simp⟩ ⟨by simp, by simp⟩ (by simp [A.re, re_d]) ?_
  simp -implicitDefEqProofs [row_len, take_row, pure_d, re_d, sd_len, Ref.re, go_sem, -List.set_cons_succ, -List.set_cons_zero]
  refine qcall_two (a := i) (b := i + 1) (fun H' h1 h2 => walk_calls hW hs.good b hb H' i (i + 1) _ h1 h2) hfe hat.m hat.r ⟨by simp, by simp⟩ ⟨by simp, by simp⟩ (by simp [A.re, re_d]) ?_
  generalize wk σ a = u at h hga hna
  generalize wk σ b = v at h hgb hnb
  obtain ⟨uk, un, us, ul⟩ := u
  obtain ⟨vk, vn, vs, vl⟩ := v
  simp only [Tm.k, Tm.n, Tm.kids, same3, Tm.s] at h hna hnb
  rcases h with ⟨rfl, rfl, rfl, rfl, rfl⟩ | ⟨rfl, h2, rfl, rfl⟩ | ⟨h1, rfl, rfl, rfl⟩ | ⟨h1, h2, h3, rfl, rfl⟩ | ⟨h1, h2, ⟨rfl, rfl, rfl, h3⟩, h4⟩
  · simp -implicitDefEqProofs [row_mk, hf, row_len, drop_rowU, sd_len, splice_all, Ref.re, go_sem, -List.set_cons_succ, -List.set_cons_zero]
  · have c1 := bind_calls hs (hna rfl) hgb
    simp only [row_mk, List.map_cons, List.map_nil] at c1
    by_cases hvk : vk = 1
    · subst hvk
      have hne : ¬ un = vn := fun e => h2 ⟨rfl, e⟩
      simp -implicitDefEqProofs [row_mk, hf, hne, row_len, drop_rowU, sd_len, splice_all, Ref.re, go_sem, -List.set_cons_succ, -List.set_cons_zero]
      refine call_sd c1 hi rfl rfl hf ?_
      simp -implicitDefEqProofs [sd_len, go_sem, -List.set_cons_succ, -List.set_cons_zero]
    · simp -implicitDefEqProofs [row_mk, hf, hvk, row_len, drop_rowU, sd_len, splice_all, Ref.re, go_sem, -List.set_cons_succ, -List.set_cons_zero]
      refine call_sd c1 hi rfl rfl hf ?_
      simp -implicitDefEqProofs [sd_len, go_sem, -List.set_cons_succ, -List.set_cons_zero]
  · have c1 := bind_calls hs (hnb rfl) hga
    simp only [row_mk, List.map_cons, List.map_nil] at c1
    simp -implicitDefEqProofs [row_mk, hf, h1, row_len, drop_rowU, sd_len, splice_all, Ref.re, go_sem, -List.set_cons_succ, -List.set_cons_zero]
    refine call_sd c1 hi rfl rfl hf ?_
    simp -implicitDefEqProofs [sd_len, go_sem, -List.set_cons_succ, -List.set_cons_zero]
  · have lu := good_len hga
    have lv := good_len hgb
    have iu : inR .i64 (ul.length : Int) := small_i64 (by omega) (by omega)
    have iv : inR .i64 (vl.length : Int) := small_i64 (by omega) (by omega)
    by_cases e1 : uk = vk
    · subst e1
      by_cases e2 : un = vn
      · subst e2
        by_cases e3 : us = vs
        · subst e3
          have e4 : ¬ (ul.length : Int) = vl.length := fun e => h3 ⟨rfl, rfl, rfl, by omega⟩
          have e5 : ¬ ul.length = vl.length := fun e => h3 ⟨rfl, rfl, rfl, e⟩
          simp -implicitDefEqProofs [row_mk, hf, h1, iu, iv, e4, e5, row_len, drop_rowU, sd_len, splice_all, Ref.re, go_sem, -List.set_cons_succ, -List.set_cons_zero]
        · simp -implicitDefEqProofs [row_mk, hf, h1, iu, iv, e3, row_len, drop_rowU, sd_len, splice_all, Ref.re, go_sem, -List.set_cons_succ, -List.set_cons_zero]
      · simp -implicitDefEqProofs [row_mk, hf, h1, e2, row_len, drop_rowU, sd_len, splice_all, Ref.re, go_sem, -List.set_cons_succ, -List.set_cons_zero]
    · simp -implicitDefEqProofs [row_mk, hf, h1, h2, e1, row_len, drop_rowU, sd_len, splice_all, Ref.re, go_sem, -List.set_cons_succ, -List.set_cons_zero]
  · have lu := good_len hga
    have iu : inR .i64 (ul.length : Int) := small_i64 (by omega) (by omega)
    have hgu := good_kids hga
    have hgv := good_kids hgb
    simp only [Tm.kids] at hgu hgv
    simp -implicitDefEqProofs [row_mk, hf, h1, iu, ← h3, row_len, drop_rowU, sd_len, splice_all, Ref.re, go_sem, -List.set_cons_succ, -List.set_cons_zero]
    refine loop_set (σ := Nat × Sto) (fun x => [(80, .c (.d (.int .i64 x.1)))]) (fun x => sd H i x.2) (fun _ => [.cells [.d (.int .i64 uk), .d (.int .i64 un), .d (.str us), .d (.sl (ul.map Tm.row))], .cells [.d (.int .i64 uk), .d (.int .i64 un), .d (.str us), .d (.sl (vl.map Tm.row))]])
      (fun x => x.1 ≤ ul.length ∧ Ch x.2 (ul.drop x.1) (vl.drop x.1) r σ') (fun x => ul.length - x.1) (0, σ) rfl ⟨Nat.zero_le _, by simpa using h4⟩ ?_
    rintro ⟨j, τ⟩ ⟨hj, hch⟩
    simp only at hj hch
    by_cases hlt : j < ul.length
    · have hlt2 : j < vl.length := by omega
      have hj1 : inR .i64 ((j : Int) + 1) := small_i64 (by omega) (by omega)
      rw [List.drop_eq_getElem_cons hlt, List.drop_eq_getElem_cons hlt2] at hch
      have hfu := good_fits _ (hgu _ (List.getElem_mem hlt))
      have hfv := good_fits _ (hgv _ (List.getElem_mem hlt2))
      simp -implicitDefEqProofs [setAll, hlt, sd_len, row_len, take_row, Ref.re, go_sem, -List.set_cons_succ, -List.set_cons_zero]
      refine row_of hlt (row_len _) ?_
      simp -implicitDefEqProofs [row_len, take_row, pure_d, re_d, go_sem, -List.set_cons_succ, -List.set_cons_zero]
      refine row_of hlt2 (row_len _) ?_
      simp -implicitDefEqProofs [row_len, take_row, pure_d, re_d, Ref.re, go_sem, -List.set_cons_succ, -List.set_cons_zero]
      cases hch with
      | stop hs' hb =>
        refine call_sd hb hi rfl rfl (hf1 _) ?_
        simp -implicitDefEqProofs [sd_len, go_sem, -List.set_cons_succ, -List.set_cons_zero]
      | go hs' hb hch' =>
        refine call_sd hb hi rfl rfl (hf1 _) ?_
        simp -implicitDefEqProofs [sd_len, hj1, go_sem, -List.set_cons_succ, -List.set_cons_zero]
        exact loop_back (j + 1, _) (by simp [setAll]) ⟨hlt, hch'⟩ (by show ul.length - (j + 1) < ul.length - j; omega)
    · have hje : j = ul.length := by omega
      subst hje
      have hn : vl.drop ul.length = [] := List.drop_of_length_le (by omega)
      rw [List.drop_of_length_le (Nat.le_refl _), hn] at hch
      cases hch
      simp -implicitDefEqProofs [setAll, sd_len, go_sem, -List.set_cons_succ, -List.set_cons_zero]
theorem uni_shown {σ σ' : Sto} {j : UJ} {r : Bool} (h : Uni σ j r σ') : Sok σ → j.good → UJ.shown σ j r σ' := by
  induction h with
  | same h1 h2 h3 => exact fun hs hg => unify_tm hs _ _ hg.1 hg.2 _ _ (.inl ⟨h1, h2, h3, rfl, rfl⟩)
  | lno h1 h2 h3 => exact fun hs hg => unify_tm hs _ _ hg.1 hg.2 _ _ (.inr (.inl ⟨h1, h2, by rw [h3]; rfl, by rw [bindS, if_pos h3]⟩))
  | lyes h1 h2 h3 => exact fun hs hg => unify_tm hs _ _ hg.1 hg.2 _ _ (.inr (.inl ⟨h1, h2, by rw [h3]; rfl, by rw [bindS, if_neg (by rw [h3]; simp)]⟩))
  | rno h1 h2 h3 => exact fun hs hg => unify_tm hs _ _ hg.1 hg.2 _ _ (.inr (.inr (.inl ⟨h1, h2, by rw [h3]; rfl, by rw [bindS, if_pos h3]⟩)))
  | ryes h1 h2 h3 => exact fun hs hg => unify_tm hs _ _ hg.1 hg.2 _ _ (.inr (.inr (.inl ⟨h1, h2, by rw [h3]; rfl, by rw [bindS, if_neg (by rw [h3]; simp)]⟩)))
  | clash h1 h2 h3 => exact fun hs hg => unify_tm hs _ _ hg.1 hg.2 _ _ (.inr (.inr (.inr (.inl ⟨h1, h2, h3, rfl, rfl⟩))))
  | @kids σ σ' a b r h1 h2 h3 _ ih =>
    intro hs hg
    obtain ⟨W, hW⟩ := hs.wt
    exact unify_tm hs _ _ hg.1 hg.2 _ _ (.inr (.inr (.inr (.inr ⟨h1, h2, h3, ih hs ⟨good_kids (wk_good hW hs.good a hg.1), good_kids (wk_good hW hs.good b hg.2)⟩⟩))))
  | nil => exact fun _ _ => .nil
  | stop _ ih => exact fun hs hg => .stop hs (ih hs ⟨hg.1 _ (by simp), hg.2 _ (by simp)⟩)
  | go h1 _ ih1 ih2 => exact fun hs hg => .go hs (ih1 hs ⟨hg.1 _ (by simp), hg.2 _ (by simp)⟩) (ih2 (uni_sok h1 hs ⟨hg.1 _ (by simp), hg.2 _ (by simp)⟩) ⟨fun x hx => hg.1 x (by simp [hx]), fun y hy => hg.2 y (by simp [hy])⟩)
/-- unification of two terms, in the program -/
theorem unify_calls {a b : Tm} (ha : a.good) (hb : b.good) : ∃ r σ', Uni [] (.tm a b) r σ' ∧ Sok σ' ∧ Binds 84 [.agg (a.row.map .d), .agg (b.row.map .d)] [] (.c (.d (.bool r))) σ' := by
  obtain ⟨W, hW⟩ := sok_nil.wt
  obtain ⟨r, σ', h1, h2⟩ := uni_ends (free []) [] (Nat.le_refl _) sok_nil W hW _ a b ha hb (Nat.le_refl _)
  exact ⟨r, σ', h1, h2.1, uni_shown h1 sok_nil ⟨ha, hb⟩⟩
end Go.Proofs.YtbblefjbgbocoaaGreatDoor

/-
  Unification, of the program: what variables stand for is written out.
  Conditions: none.
-/
open Go Go.AM Go.Proofs
namespace Go.Proofs.YtbblefjbgbocoaaGreatDoor
open Go.ChangeShapes Go.WideShapes Go.ChangeAt Go.RowKit
set_option linter.unusedVariables false
set_option linter.unusedSimpArgs false
set_option maxRecDepth 100000
-- 183 (*loop.example/prologserver/impl.store).resolving params 4 ntmps 66
-- loop head live: [0,2,3,8,10,40,41,42]
def ac183 : Cd := .seq (.region [⟨(some 5),.box (.t 1),none⟩,
 ⟨(some 8),.alloc [(.d (.int .i64 0)),(.d (.int .i64 0)),(.d (.str [])),(.full [])],none⟩,
 ⟨(some 9),.mv (.k (.c (.d (.bool false)))),none⟩] [1,9])
 (.seq (.region [⟨(some 15),.mv (.t 0),none⟩,
 ⟨(some 16),.load (some 4) (.t 5),none⟩,
 ⟨(some 17),.qcall 142 [(.t 15),(.t 16)],none⟩,
 ⟨none,.store 4 (.t 5) (.t 17),none⟩] [15,16,17])
 (.seq (.region [⟨(some 18),.mv (.t 3),none⟩,
 ⟨(some 19),.nilCheck (.t 18),none⟩,
 ⟨(some 20),.load none (.t 19),none⟩,
 ⟨(some 21),.bin .add (.t 20) (.k (.c (.d (.int .i64 1)))),none⟩,
 ⟨(some 22),.nilCheck (.t 18),none⟩,
 ⟨none,.store 1 (.t 22) (.t 21),none⟩] [18,19,20,21,22])
 (.seq (.seq (.region [⟨(some 23),.mv (.t 3),none⟩,
 ⟨(some 24),.nilCheck (.t 23),none⟩,
 ⟨(some 25),.load none (.t 24),none⟩,
 ⟨(some 26),.bin .gtr (.t 25) (.k (.c (.d (.int .i64 120)))),none⟩,
 ⟨(some 27),.mv (.t 26),none⟩,
 ⟨(some 28),.mv (.t 2),some (27,false)⟩,
 ⟨(some 29),.bin .gtr (.t 28) (.k (.c (.d (.int .i64 30)))),some (27,false)⟩,
 ⟨(some 30),.pick (.t 27) (.k (.c (.d (.bool true)))) (.t 29),none⟩] [23,24,25,26,27,28,29])
 (.cond (.t 30)
 (.seq (.region [⟨(some 31),.build [(.d (.int .i64 0)),(.d (.int .i64 0)),(.d (.str [])),(.full [])] [],none⟩,
 ⟨none,.store 4 (.t 8) (.t 31),none⟩,
 ⟨(some 9),.mv (.k (.c (.d (.bool false)))),none⟩] [0,2,3,5,30,31])
 (.ret))
 (.skip)))
 (.seq (.region [⟨(some 32),.fieldAddr 0 (.t 5),none⟩,
 ⟨(some 33),.load none (.t 32),none⟩,
 ⟨(some 34),.fieldAddr 1 (.t 5),none⟩,
 ⟨(some 35),.load none (.t 34),none⟩,
 ⟨(some 36),.fieldAddr 2 (.t 5),none⟩,
 ⟨(some 37),.load none (.t 36),none⟩,
 ⟨(some 38),.build [(.d (.int .i64 0)),(.d (.int .i64 0)),(.d (.str [])),(.full [])] [(0,1,(.t 33)),(1,1,(.t 35)),(2,1,(.t 37))],none⟩,
 ⟨(some 10),.alloc [(.d (.int .i64 0)),(.d (.int .i64 0)),(.d (.str [])),(.full [])],none⟩,
 ⟨none,.store 4 (.t 10) (.t 38),none⟩] [9,30,32,33,34,35,36,37,38])
 (.seq (.seq (.region [⟨(some 39),.fieldAddr 3 (.t 5),none⟩,
 ⟨(some 40),.load none (.t 39),none⟩,
 ⟨(some 41),.len 1 (.t 40),none⟩,
 ⟨(some 42),.mv (.k (.c (.d (.int .i64 0)))),none⟩] [5,39])
 (.block 0 (.loop (.seq (.region [⟨(some 43),.bin .lss (.t 42) (.t 41),none⟩] [])
 (.seq (.cond (.t 43)
 (.skip)
 (.exit 0))
 (.seq (.block 1 (.seq (.region [⟨(some 44),.indexAddr 4 (.t 40) (.t 42),none⟩,
 ⟨(some 45),.load (some 4) (.t 44),none⟩,
 ⟨(some 12),.alloc [(.d (.int .i64 0)),(.d (.int .i64 0)),(.d (.str [])),(.full [])],none⟩,
 ⟨none,.store 4 (.t 12) (.t 45),none⟩] [43,44,45])
 (.seq (.region [⟨(some 47),.mv (.t 0),none⟩,
 ⟨(some 48),.load (some 4) (.t 12),none⟩,
 ⟨(some 49),.mv (.t 2),none⟩,
 ⟨(some 50),.bin .add (.t 49) (.k (.c (.d (.int .i64 1)))),none⟩,
 ⟨(some 51),.mv (.t 3),none⟩,
 ⟨(some 52),.call false 183 [(.t 47),(.t 48),(.t 50),(.t 51)],none⟩,
 ⟨(some 46),.mv (.t 52),none⟩,
 ⟨(some 53),.extract 0 (.t 46),none⟩,
 ⟨(some 54),.extract 1 (.t 46),none⟩,
 ⟨(some 13),.alloc [(.d (.int .i64 0)),(.d (.int .i64 0)),(.d (.str [])),(.full [])],none⟩,
 ⟨none,.store 4 (.t 13) (.t 53),none⟩,
 ⟨(some 14),.mv (.t 54),none⟩] [12,46,47,48,49,50,51,52,53,54])
 (.seq (.seq (.region [⟨(some 55),.mv (.t 14),none⟩,
 ⟨(some 56),.un .not (.t 55),none⟩] [14,55])
 (.cond (.t 56)
 (.seq (.region [⟨(some 57),.build [(.d (.int .i64 0)),(.d (.int .i64 0)),(.d (.str [])),(.full [])] [],none⟩,
 ⟨none,.store 4 (.t 8) (.t 57),none⟩,
 ⟨(some 9),.mv (.k (.c (.d (.bool false)))),none⟩] [0,2,3,10,13,40,41,42,56,57])
 (.ret))
 (.skip)))
 (.region [⟨(some 58),.fieldAddr 3 (.t 10),none⟩,
 ⟨(some 59),.load none (.t 58),none⟩,
 ⟨(some 60),.load (some 4) (.t 13),none⟩,
 ⟨(some 61),.buildSlice 4 1 [(.int .i64 0),(.int .i64 0),(.str []),(.sl [])] [(0,(.t 60))],none⟩,
 ⟨(some 62),.append false 4 (.t 59) (.t 61),none⟩,
 ⟨(some 63),.fieldAddr 3 (.t 10),none⟩,
 ⟨none,.store 1 (.t 63) (.t 62),none⟩] [9,13,56,58,59,60,61,62,63])))))
 (.region [⟨(some 64),.bin .add (.t 42) (.k (.c (.d (.int .i64 1)))),none⟩,
 ⟨(some 42),.mv (.t 64),none⟩] [64])))))))
 (.seq (.region [⟨(some 65),.load (some 4) (.t 10),none⟩,
 ⟨none,.store 4 (.t 8) (.t 65),none⟩,
 ⟨(some 9),.mv (.k (.c (.d (.bool true)))),none⟩] [10,65])
 (.ret)))))))
theorem ac183_ok : cFunc Tryz.prog [1000142] [(0,[1,9],[]),(1,[15,16,17],[]),(2,[18,19,20,21,22],[]),(3,[23,24,25,26,27,28,29],[]),(4,[0,2,3,5,30,31],[]),(5,[9,30,32,33,34,35,36,37,38],[]),(6,[5,39],[]),(7,[],[]),(8,[43,44,45],[]),(9,[12,46,47,48,49,50,51,52,53,54],[]),(10,[14,55],[]),(11,[0,2,3,10,13,40,41,42,56,57],[]),(12,[9,13,56,58,59,60,61,62,63],[]),(13,[64],[]),(14,[10,65],[])] Tryz.f183 = some (ac183,[.cell 8 (some 4),.tmp 9],66) := by kernel_rfl
-- 144 (*loop.example/prologserver/impl.store).resolve params 2 ntmps 12
def ac144 : Cd := .seq (.region [⟨(some 3),.box (.t 1),none⟩,
 ⟨(some 4),.alloc [(.d (.int .i64 0)),(.d (.int .i64 0)),(.d (.str [])),(.full [])],none⟩,
 ⟨(some 5),.mv (.k (.c (.d (.bool false)))),none⟩] [1,5])
 (.seq (.region [⟨(some 6),.alloc [(.d (.int .i64 0))],none⟩,
 ⟨none,.store 1 (.t 6) (.k (.c (.d (.int .i64 0)))),none⟩] [])
 (.seq (.region [⟨(some 7),.mv (.t 0),none⟩,
 ⟨(some 8),.load (some 4) (.t 3),none⟩,
 ⟨(some 9),.call false 183 [(.t 7),(.t 8),(.k (.c (.d (.int .i64 1)))),(.t 6)],none⟩,
 ⟨(some 10),.extract 0 (.t 9),none⟩,
 ⟨(some 11),.extract 1 (.t 9),none⟩,
 ⟨none,.store 4 (.t 4) (.t 10),none⟩,
 ⟨(some 5),.mv (.t 11),none⟩] [0,3,6,7,8,9,10,11])
 (.ret)))
theorem ac144_ok : cFunc Tryz.prog [] [(0,[1,5],[]),(1,[],[]),(2,[0,3,6,7,8,9,10,11],[])] Tryz.f144 = some (ac144,[.cell 4 (some 4),.tmp 5],12) := by kernel_rfl
/-- a term and a bool -/
def TmB (r : A) : Prop := ∃ (u : Tm) (ok : Bool), r = .tup [.agg (u.row.map .d), .c (.d (.bool ok))] ∧ u.fits
/-- .. and a count, in a cell -/
def ResR (H : Heap) (j : Nat) (r : A) (H' : Heap) : Prop := ∃ (u : Tm) (ok : Bool) (c : Nat), r = .tup [.agg (u.row.map .d), .c (.d (.bool ok))] ∧ u.fits ∧ c ≤ 121 ∧ (ok = true → c ≤ 120) ∧ H' = H.set j (Cn c)
def ResOk (σ : Sto) (t : Tm) : Prop := ∀ (deep c : Nat) (H : Heap) (a b j : Nat) (c2 : C), At H a b σ c2 → j < H.length → j ≠ a → j ≠ b → deep ≤ 31 → c ≤ 120 →
  ACalls Tryz.prog 183 [.c (.ptr (.e b) 0), .agg (t.row.map .d), .c (.d (.int .i64 deep)), .c (.ptr (.e j) 0)] (H.set j (Cn c)) (fun r H' => ResR H j r H')
theorem call_res {σ : Sto} {t : Tm} (hd : ResOk σ t) {deep c : Nat} {H : Heap} {a b j : Nat} {c2 : C} {sl : List A} {loc H₂ : Heap} {K : A → St → Prop} (hat : At H a b σ c2) (hj : j < H.length) (ha : j ≠ a) (hb : j ≠ b) (hdp : deep ≤ 31) (hc : c ≤ 120)
    (hH : H₂ = H.set j (Cn c) ++ loc.map (Ob.re H.length)) (hf : Obs.fits H.length 0 (H.set j (Cn c))) (hk : ∀ (u : Tm) (ok : Bool) (c' : Nat), u.fits → c' ≤ 121 → (ok = true → c' ≤ 120) → K (.tup [.agg (u.row.map .d), .c (.d (.bool ok))]) ⟨sl, H.set j (Cn c'), loc⟩) :
    ACalls Tryz.prog 183 [.c (.ptr (.e b) 0), .agg (t.row.map .d), .c (.d (.int .i64 deep)), .c (.ptr (.e j) 0)] H₂ (CallK K ⟨sl, H.set j (Cn c), loc⟩) := by
  subst hH
  have h := hd deep c (H ++ loc.map (Ob.re H.length)) a b j c2 (hat.append _) (by simp; omega) ha hb hdp hc
  rw [List.set_append_left _ _ hj] at h
  refine h.mono fun r H' ⟨u, ok, c', h1, h2, h3, h4, h5⟩ => ?_
  rw [List.set_append_left _ _ hj] at h5
  exact ⟨H.set j (Cn c'), loc, r, by simpa using h5, by simp, Nat.le_refl _, by simpa using fits_reset (b := Cn c') hf ⟨trivial, trivial⟩, by rw [h1]; simp [A.re, A.res, C.re, re_d], by rw [h1]; exact hk u ok c' h2 h3 h4⟩
theorem zero_fits : (Tm.mk 0 0 [] []).fits := .mk (small_i64 (by omega) (by omega)) (small_i64 (by omega) (by omega)) (by simp) (by simp) (by simp)
theorem res_calls {σ : Sto} (hs : Sok σ) {W : Int → Nat} (hW : Wt σ W) : ∀ (f : Nat) (t : Tm), t.good → t.tw W ≤ f → ResOk σ t := by
  intro f
  induction f with
  | zero =>
    intro t ht hf
    by_cases hk : t.k = 1
    · rw [tw_var hk] at hf
      have := hW.pos t.n
      omega
    · rw [tw_kids hk] at hf
      omega
  | succ f ih =>
    intro t ht hlt deep c H a b j c2 hat hj hja hjb hdp hc
    have hat1 := fun c => hat.set hja hjb (Cn c)
    have hwg := wk_good hW hs.good t ht
    have hwt := wk_tw hW t
    have hwc := walk_calls hW hs.good t ht
    have hbl := (List.getElem?_eq_some_iff.1 hat.r).1
    have hc1 : inR .i64 ((c : Int) + 1) := small_i64 (by omega) (by omega)
    refine acalls Tryz.func183 (by kernel_rfl) ac183_ok fun hf => ?_
    simp only [List.length_set] at hf
    have hf1 : ∀ c, Obs.fits H.length 0 (H.set j (Cn c)) := fun c => fits_reset (b := Cn c) hf ⟨trivial, trivial⟩
    have hfe : ∀ c, Obs.fits (H.set j (Cn c)).length 0 (H.set j (Cn c)) := fun c => by simpa using hf1 c
    generalize wk σ t = u at hwg hwt hwc
    simp -implicitDefEqProofs [ac183, row_len, take_row, pure_d, re_d, Ref.re, go_sem, -List.set_cons_succ, -List.set_cons_zero]
    refine qcall_two (a := a) (b := b) (fun H' h1 h2 => hwc H' a b c2 h1 h2) (hfe c) (hat1 c).m (hat1 c).r ⟨by simp, by simp⟩ ⟨by simp, by simp⟩ (by simp [A.re, re_d]) ?_
    obtain ⟨k, n, s, l⟩ := u
    have hln := good_len hwg
    have hfu := good_fits _ hwg
    have hf2 : ∀ c : Int, Obs.fits H.length 0 (H.set j (.cells [.d (.int .i64 c)])) := fun c => fits_reset (b := .cells [.d (.int .i64 c)]) hf ⟨trivial, trivial⟩
    have hiu : inR .i64 (l.length : Int) := small_i64 (by omega) (by omega)
    have hd1 : inR .i64 ((deep : Int) + 1) := small_i64 (by omega) (by omega)
    have zero : ∀ c' : Nat, c' ≤ 121 → ResR H j (.tup [.agg [.d (.int .i64 0), .d (.int .i64 0), .d (.str []), .d (.sl [])], .c (.d (.bool false))]) (H.set j (.cells [.d (.int .i64 (c' : Int))])) := fun c' h => ⟨.mk 0 0 [] [], false, c', by simp [row_mk], zero_fits, h, by simp, rfl⟩
    have zero1 := zero (c + 1) (by omega)
    simp only [Int.natCast_add, Int.cast_ofNat_Int] at zero1
    simp -implicitDefEqProofs [row_mk, row_len, take_row, drop_rowU, pure_d, re_d, Ref.re, splice_all, cut_all, hj, hc1, hf2, Cn, go_sem, -List.set_cons_succ, -List.set_cons_zero]
    refine ⟨fun _ => zero1, fun h1 h2 => ⟨hiu, ?_⟩⟩
    have hkf := fun x hx => good_kids hwg x hx
    simp only [Tm.kids] at hkf
    obtain ⟨fk, fn, fs, _, _⟩ := id hfu
    refine loop_enter (St.le_tokenC 2 3 4 rfl rfl) ?_
    refine loop_set (σ := Nat × Nat × List Tm) (fun x => [(42, .c (.d (.int .i64 x.1)))]) (fun x => H.set j (.cells [.d (.int .i64 (x.2.1 : Int))]))
      (fun x => [.cells [.d (.int .i64 k), .d (.int .i64 n), .d (.str s), .d (.sl (l.map Tm.row))], .cells [.d (.int .i64 0), .d (.int .i64 0), .d (.str []), .full []], .cells [.d (.int .i64 k), .d (.int .i64 n), .d (.str s), .own (.l 3) x.2.2.length (x.2.2.map Tm.row)], .grow x.2.2.length 4])
      (fun x => x.1 ≤ l.length ∧ x.2.1 ≤ 120 ∧ x.2.2.length = x.1 ∧ ∀ t ∈ x.2.2, t.fits) (fun x => l.length - x.1) (0, c + 1, []) (by simp [setAll]) ⟨Nat.zero_le _, by show c + 1 ≤ 120; omega, rfl, by simp⟩ ?_
    rintro ⟨i, q, out⟩ ⟨hi, hq, hol, hof⟩
    simp only at hi hq hol hof
    simp -implicitDefEqProofs [setAll, hiu, go_sem, -List.set_cons_succ, -List.set_cons_zero]
    refine ⟨fun hil => ?_, fun hil => ?_⟩
    · have hi1 : inR .i64 ((i : Int) + 1) := small_i64 (by omega) (by omega)
      have hk1 : k ≠ 1 := fun e => by
        have h := (good_var hwg e).2.2.1
        simp only [Tm.kids] at h
        rw [h] at hil
        simp at hil
      have c1 := ih l[i] (hkf _ (List.getElem_mem hil)) (by have := tw_kid (W := W) (t := .mk k n s l) hk1 (List.getElem_mem hil); omega)
      refine row_of hil (row_len _) ?_
      simp -implicitDefEqProofs [row_len, take_row, drop_rowU, pure_d, re_d, toDs_map, splice_all, cut_all, hd1, Ref.re, go_sem, -List.set_cons_succ, -List.set_cons_zero]
      have c3 := fun (sl : List A) (loc H₂ : Heap) (K : A → St → Prop) hH hk => call_res (sl := sl) (loc := loc) (H₂ := H₂) (K := K) c1 (deep := deep + 1) (c := q) hat hj hja hjb (by omega) hq hH (hf2 _) hk
      simp only [Int.natCast_add, Int.cast_ofNat_Int, Cn] at c3
      refine ⟨hf2 _, c3 _ _ _ _ (by simp [Ob.re, C.re, Ref.re, re_d]) ?_⟩
      intro u ok c' hu hc' hok
      simp -implicitDefEqProofs [row_len, take_row, drop_rowU, pure_d, re_d, toDs_map, splice_all, cut_all, hd1, hf2, Cn, Ref.re, go_sem, -List.set_cons_succ, -List.set_cons_zero]
      refine ⟨fun _ => zero c' hc', fun hokt => ⟨allLen_map row_len, by unfold maxApp; omega, hi1, ?_⟩⟩
      refine loop_less (i + 1, c', out ++ [u]) (St.le_cut [_, _] (loc' := [.cells [.d (.int .i64 k), .d (.int .i64 n), .d (.str s), .d (.sl (l.map Tm.row))], .cells [.d (.int .i64 0), .d (.int .i64 0), .d (.str []), .full []], .cells [.d (.int .i64 k), .d (.int .i64 n), .d (.str s), .own (.l 3) (out ++ [u]).length ((out ++ [u]).map Tm.row)], .grow (out ++ [u]).length 4]) ?_ ?_ (by simp; exact ⟨rfl, rfl⟩) ?_) ⟨hil, hok hokt, by simp [hol], fun x hx => ?_⟩ (by show l.length - (i + 1) < l.length - i; omega)
      · simp [setAll, Sl.le, A.le_refl_iff, A.le_u_iff, As.lo, A.lo, C.lo, Ref.lo, Cs.lo, Obs.lo, Ob.lo, setAll, and_true, true_and, List.length_nil, List.length_cons]
      · simp [hj, hbl, Sl.le, A.le_refl_iff, A.le_u_iff, As.lo, A.lo, C.lo, Ref.lo, Cs.lo, Obs.lo, Ob.lo, setAll, and_true, true_and, List.length_nil, List.length_cons]
      · simp [Sl.le, A.le_refl_iff, A.le_u_iff, As.lo, A.lo, C.lo, Ref.lo, Cs.lo, Obs.lo, Ob.lo, setAll, and_true, true_and, List.length_nil, List.length_cons]
      · rcases List.mem_append.1 hx with h | h
        · exact hof x h
        · rw [List.mem_singleton.1 h]; exact hu
    · have hile : i = l.length := by omega
      simp -implicitDefEqProofs [hf2, cut_all, pure_d, re_d, thaw_d, go_sem, -List.set_cons_succ, -List.set_cons_zero]
      exact ⟨.mk k n s out, true, q, by simp [row_mk], .mk fk fn fs (by omega) hof, by omega, fun _ => hq, rfl⟩
theorem resolve_calls {σ : Sto} (hs : Sok σ) (t : Tm) (ht : t.good) (H : Heap) (a b : Nat) (c2 : C) (hat : At H a b σ c2) : ACalls Tryz.prog 144 [.c (.ptr (.e b) 0), .agg (t.row.map .d)] H (fun r H' => H' = H ∧ TmB r) := by
  obtain ⟨W, hW⟩ := hs.wt
  have hal := (List.getElem?_eq_some_iff.1 hat.m).1
  have hbl := (List.getElem?_eq_some_iff.1 hat.r).1
  refine acalls Tryz.func144 (by kernel_rfl) ac144_ok fun hf => ?_
  have hset : ∀ c, (H ++ [Ob.cells (t.row.map C.d), Ob.cells [.d (.int .i64 0), .d (.int .i64 0), .d (.str []), .full []], Cn 0]).set (H.length + 2) (Cn c) = H ++ [Ob.cells (t.row.map C.d), Ob.cells [.d (.int .i64 0), .d (.int .i64 0), .d (.str []), .full []], Cn c] := fun c => by
    rw [List.set_append_right _ _ (by omega), Nat.add_sub_cancel_left]
    rfl
  have h2 := res_calls hs hW _ t ht (Nat.le_refl _) 1 0 (H ++ [Ob.cells (t.row.map C.d), Ob.cells [.d (.int .i64 0), .d (.int .i64 0), .d (.str []), .full []], Cn 0]) a b (H.length + 2) c2 (hat.append _) (by simp) (by omega) (by omega) (by omega) (by omega)
  rw [hset] at h2
  simp -implicitDefEqProofs [ac144, row_len, take_row, pure_d, re_d, Ref.re, go_sem, -List.set_cons_succ, -List.set_cons_zero]
  refine ⟨hf, h2.mono fun r H' ⟨u, ok, c, h3, h4, h5, h6, h7⟩ => ⟨H, [Ob.cells (t.row.map C.d), Ob.cells [.d (.int .i64 0), .d (.int .i64 0), .d (.str []), .full []], Cn c], .tup [.agg (u.row.map .d), .c (.d (.bool ok))], ?_, rfl, Nat.le_refl _, hf, ?_, ?_⟩⟩
  · rw [h7, hset]; simp [Ob.re, C.re, re_d, Cn]
  · rw [h3]; simp [A.re, A.res, C.re, re_d]
  · simp -implicitDefEqProofs [row_len, take_row, drop_rowU, splice_all, cut_all, pure_d, re_d, thaw_d, fits_map, hf, go_sem, -List.set_cons_succ, -List.set_cons_zero]
    exact ⟨u, ok, rfl, h4⟩
end Go.Proofs.YtbblefjbgbocoaaGreatDoor

/-
  Unification, of the program: all that is bound, and UnifyTerms.
  Conditions: none.
-/
open Go Go.AM Go.Proofs
namespace Go.Proofs.YtbblefjbgbocoaaGreatDoor
open Go.ChangeShapes Go.WideShapes Go.ChangeAt Go.RowKit
set_option linter.unusedVariables false
set_option linter.unusedSimpArgs false
set_option maxRecDepth 100000
-- 85 (*loop.example/prologserver/impl.store).all params 1 ntmps 39
-- loop head live: [0,4,9]
def ac85 : Cd := .seq (.region [⟨(some 2),.mv (.k (.c (.full []))),none⟩,
 ⟨(some 3),.mv (.k (.c (.d (.bool false)))),none⟩] [2,3])
 (.seq (.region [⟨(some 4),.mv (.k (.c (.full []))),none⟩] [])
 (.seq (.seq (.region [⟨(some 9),.mv (.k (.c (.d (.int .i64 0)))),none⟩] [])
 (.block 0 (.loop (.seq (.region [⟨(some 10),.bin .lss (.t 9) (.k (.c (.d (.int .i64 26)))),none⟩] [])
 (.seq (.cond (.t 10)
 (.skip)
 (.exit 0))
 (.seq (.block 1 (.seq (.region [⟨(some 11),.mv (.t 9),none⟩,
 ⟨(some 5),.mv (.t 11),none⟩] [10,11])
 (.seq (.region [⟨(some 13),.mv (.t 0),none⟩,
 ⟨(some 14),.nilCheck (.t 13),none⟩,
 ⟨(some 15),.fieldAddr 0 (.t 14),none⟩,
 ⟨(some 16),.load none (.t 15),none⟩,
 ⟨(some 17),.mv (.t 5),none⟩,
 ⟨(some 18),.mapGet (some 4) [(.int .i64 0),(.int .i64 0),(.str []),(.sl [])] true (.t 16) (.t 17),none⟩,
 ⟨(some 12),.mv (.t 18),none⟩,
 ⟨(some 19),.extract 0 (.t 12),none⟩,
 ⟨(some 20),.extract 1 (.t 12),none⟩,
 ⟨(some 6),.alloc [(.d (.int .i64 0)),(.d (.int .i64 0)),(.d (.str [])),(.full [])],none⟩,
 ⟨none,.store 4 (.t 6) (.t 19),none⟩,
 ⟨(some 7),.mv (.t 20),none⟩] [12,13,14,15,16,17,18,19,20])
 (.seq (.seq (.region [⟨(some 21),.mv (.t 7),none⟩,
 ⟨(some 22),.un .not (.t 21),none⟩] [7,21])
 (.cond (.t 22)
 (.exit 1)
 (.skip)))
 (.seq (.region [⟨(some 24),.mv (.t 0),none⟩,
 ⟨(some 25),.load (some 4) (.t 6),none⟩,
 ⟨(some 26),.call false 144 [(.t 24),(.t 25)],none⟩,
 ⟨(some 23),.mv (.t 26),none⟩,
 ⟨(some 27),.extract 0 (.t 23),none⟩,
 ⟨(some 28),.extract 1 (.t 23),none⟩,
 ⟨(some 8),.alloc [(.d (.int .i64 0)),(.d (.int .i64 0)),(.d (.str [])),(.full [])],none⟩,
 ⟨none,.store 4 (.t 8) (.t 27),none⟩,
 ⟨(some 7),.mv (.t 28),none⟩] [6,22,23,24,25,26,27,28])
 (.seq (.seq (.region [⟨(some 29),.mv (.t 7),none⟩,
 ⟨(some 30),.un .not (.t 29),none⟩] [7,29])
 (.cond (.t 30)
 (.seq (.region [⟨(some 2),.mv (.k (.c (.full []))),none⟩,
 ⟨(some 3),.mv (.k (.c (.d (.bool false)))),none⟩] [0,4,5,8,9,30])
 (.ret))
 (.skip)))
 (.region [⟨(some 31),.mv (.t 4),none⟩,
 ⟨(some 32),.mv (.t 5),none⟩,
 ⟨(some 33),.load (some 4) (.t 8),none⟩,
 ⟨(some 34),.build [(.d (.int .i64 0)),(.d (.int .i64 0)),(.d (.int .i64 0)),(.d (.str [])),(.full [])] [(0,1,(.t 32)),(1,4,(.t 33))],none⟩,
 ⟨(some 35),.buildSlice 5 1 [(.int .i64 0),(.int .i64 0),(.int .i64 0),(.str []),(.sl [])] [(0,(.t 34))],none⟩,
 ⟨(some 36),.append false 5 (.t 31) (.t 35),none⟩,
 ⟨(some 4),.mv (.t 36),none⟩] [2,3,5,8,30,31,32,33,34,35,36])))))))
 (.region [⟨(some 37),.bin .add (.t 9) (.k (.c (.d (.int .i64 1)))),none⟩,
 ⟨(some 9),.mv (.t 37),none⟩] [37])))))))
 (.seq (.region [⟨(some 38),.mv (.t 4),none⟩,
 ⟨(some 2),.mv (.t 38),none⟩,
 ⟨(some 3),.mv (.k (.c (.d (.bool true)))),none⟩] [4,38])
 (.ret))))
theorem ac85_ok : cFunc Tryz.prog [] [(0,[2,3],[]),(1,[],[]),(2,[],[]),(3,[],[]),(4,[10,11],[]),(5,[12,13,14,15,16,17,18,19,20],[]),(6,[7,21],[]),(7,[6,22,23,24,25,26,27,28],[]),(8,[7,29],[]),(9,[0,4,5,8,9,30],[]),(10,[2,3,5,8,30,31,32,33,34,35,36],[]),(11,[37],[]),(12,[4,38],[])] Tryz.f85 = some (ac85,[.tmp 2,.tmp 3],39) := by kernel_rfl
-- 83 loop.example/prologserver/impl.newStore params 0 ntmps 4
def ac83 : Cd := .seq (.region [⟨(some 0),.mv (.k (.c (.d (.v (.pointer none))))),none⟩] [0])
 (.seq (.region [⟨(some 1),.mkMap,none⟩,
 ⟨(some 2),.build [(.d (.v (.map none))),(.full [])] [(0,1,(.t 1))],none⟩,
 ⟨(some 3),.box (.t 2),none⟩,
 ⟨(some 0),.mv (.t 3),none⟩] [1,2,3])
 (.ret))
theorem ac83_ok : cFunc Tryz.prog [] [(0,[0],[]),(1,[1,2,3],[])] Tryz.f83 = some (ac83,[.tmp 0],4) := by kernel_rfl
-- 33 loop.example/prologserver/impl.UnifyTerms params 2 ntmps 27
def ac33 : Cd := .seq (.region [⟨(some 2),.box (.t 0),none⟩,
 ⟨(some 3),.box (.t 1),none⟩,
 ⟨(some 4),.mv (.k (.c (.full []))),none⟩,
 ⟨(some 5),.mv (.k (.c (.d (.bool false)))),none⟩] [0,1,4,5])
 (.seq (.region [⟨(some 7),.call false 83 [],none⟩,
 ⟨(some 6),.mv (.t 7),none⟩] [7])
 (.seq (.seq (.region [⟨(some 8),.load (some 4) (.t 2),none⟩,
 ⟨(some 9),.qcall 70 [(.t 8)],none⟩,
 ⟨(some 10),.un .not (.t 9),none⟩,
 ⟨(some 11),.mv (.t 10),none⟩,
 ⟨(some 12),.load (some 4) (.t 3),some (11,false)⟩,
 ⟨(some 13),.qcall 70 [(.t 12)],some (11,false)⟩,
 ⟨(some 14),.un .not (.t 13),some (11,false)⟩,
 ⟨(some 15),.pick (.t 11) (.k (.c (.d (.bool true)))) (.t 14),none⟩,
 ⟨(some 16),.mv (.t 15),none⟩,
 ⟨(some 17),.mv (.t 6),some (16,false)⟩,
 ⟨(some 18),.load (some 4) (.t 2),some (16,false)⟩,
 ⟨(some 19),.load (some 4) (.t 3),some (16,false)⟩,
 ⟨(some 20),.call false 84 [(.t 17),(.t 18),(.t 19)],some (16,false)⟩,
 ⟨(some 21),.un .not (.t 20),some (16,false)⟩,
 ⟨(some 22),.pick (.t 16) (.k (.c (.d (.bool true)))) (.t 21),none⟩] [2,3,8,9,10,11,12,13,14,15,16,17,18,19,20,21])
 (.cond (.t 22)
 (.seq (.region [⟨(some 4),.mv (.k (.c (.full []))),none⟩,
 ⟨(some 5),.mv (.k (.c (.d (.bool false)))),none⟩] [6,22])
 (.ret))
 (.skip)))
 (.seq (.region [⟨(some 23),.mv (.t 6),none⟩,
 ⟨(some 24),.call false 85 [(.t 23)],none⟩,
 ⟨(some 25),.extract 0 (.t 24),none⟩,
 ⟨(some 26),.extract 1 (.t 24),none⟩,
 ⟨(some 4),.mv (.t 25),none⟩,
 ⟨(some 5),.mv (.t 26),none⟩] [6,22,23,24,25,26])
 (.ret))))
theorem ac33_ok : cFunc Tryz.prog [1000070] [(0,[0,1,4,5],[]),(1,[7],[]),(2,[2,3,8,9,10,11,12,13,14,15,16,17,18,19,20,21],[]),(3,[6,22],[]),(4,[6,22,23,24,25,26],[])] Tryz.f33 = some (ac33,[.tmp 4,.tmp 5],27) := by kernel_rfl
def RowsB (r : A) : Prop := ∃ (rows : List (List D)) (ok : Bool), r = .tup [.c (.d (.sl rows)), .c (.d (.bool ok))]
theorem TmB.re {n : Nat} {r : A} (h : TmB r) : A.re n r = r := by
  obtain ⟨u, ok, rfl, _⟩ := h
  simp [A.re, A.res, C.re, re_d]
theorem RowsB.re {n : Nat} {r : A} (h : RowsB r) : A.re n r = r := by
  obtain ⟨rows, ok, rfl⟩ := h
  simp [A.re, A.res, C.re]
theorem all_calls {σ : Sto} (hs : Sok σ) (H : Heap) (a b : Nat) (c2 : C) (hat : At H a b σ c2) : ACalls Tryz.prog 85 [.c (.ptr (.e b) 0)] H (fun r H' => H' = H ∧ RowsB r) := by
  have hal := (List.getElem?_eq_some_iff.1 hat.m).1
  have hbl := (List.getElem?_eq_some_iff.1 hat.r).1
  have ga := hat.m
  have gb := hat.r
  have qa := congrArg (·.getD Ob.dead) ga
  have qb := congrArg (·.getD Ob.dead) gb
  simp only [Option.getD_some] at qa qb
  refine acalls Tryz.func85 (by kernel_rfl) ac85_ok fun hf => ?_
  simp -implicitDefEqProofs [ac85, go_sem, -List.set_cons_succ, -List.set_cons_zero]
  refine loop_enter (St.le_token 4 5 rfl) ?_
  refine loop_set (σ := Nat × List (List D)) (fun x => [(9, .c (.d (.int .i64 x.1))), (4, .c (.own (.l 0) x.2.length x.2))]) (fun _ => H) (fun x => [.grow x.2.length 5]) (fun x => x.1 ≤ 26 ∧ x.2.length ≤ x.1 ∧ allLen 5 x.2) (fun x => 26 - x.1) (0, []) (by simp [setAll]) ⟨by omega, Nat.le_refl _, by simp [allLen]⟩ ?_
  rintro ⟨i, rows⟩ ⟨hi, hrl, hrows⟩
  simp only at hi hrl hrows
  have hi1 : inR .i64 ((i : Int) + 1) := small_i64 (by omega) (by omega)
  simp -implicitDefEqProofs [setAll, hi1, go_sem, -List.set_cons_succ, -List.set_cons_zero]
  refine ⟨fun hlt => ?_, fun hge => ?_⟩
  · cases hl : look σ (i : Int) with
    | none =>
      simp -implicitDefEqProofs [ga, gb, qa, qb, stoM_row, hl, toDs_map, row_len, take_row, drop_rowU, splice_all, cut_all, pure_d, re_d, Ref.re, hi1, go_sem, -List.set_cons_succ, -List.set_cons_zero]
      refine ⟨hf, loop_less (i + 1, rows) (St.le_cut [_] (loc' := [.grow rows.length 5]) ?_ ?_ rfl ?_) ⟨by show i + 1 ≤ 26; omega, by show rows.length ≤ i + 1; omega, hrows⟩ (by show 26 - (i + 1) < 26 - i; omega)⟩
      · simp [setAll, Sl.le, A.le_refl_iff, A.le_u_iff, As.lo, A.lo, C.lo, Ref.lo, Cs.lo, Obs.lo, Ob.lo, setAll, and_true, true_and, List.length_nil, List.length_cons]
      · simp [hbl, Sl.le, A.le_refl_iff, A.le_u_iff, As.lo, A.lo, C.lo, Ref.lo, Cs.lo, Obs.lo, Ob.lo, setAll, and_true, true_and, List.length_nil, List.length_cons]
      · simp [Sl.le, A.le_refl_iff, A.le_u_iff, As.lo, A.lo, C.lo, Ref.lo, Cs.lo, Obs.lo, Ob.lo, setAll, and_true, true_and, List.length_nil, List.length_cons]
    | some u =>
      have hug := hs.good _ (look_mem hl)
      simp -implicitDefEqProofs [ga, gb, qa, qb, stoM_row, hl, toDs_map, row_len, take_row, drop_rowU, splice_all, cut_all, pure_d, re_d, Ref.re, hi1, go_sem, -List.set_cons_succ, -List.set_cons_zero]
      refine ⟨hf, call_some (resolve_calls hs u hug _ a b c2 (hat.append [.grow rows.length 5, .cells (u.row.map .d)])) (by simp [Ob.re, C.re, re_d]) (fun r => TmB.re) hf ?_⟩
      rintro _ ⟨x, ok, rfl, hx⟩
      simp -implicitDefEqProofs [toDs_map, row_len, take_row, drop_rowU, splice_all, cut_all, pure_d, re_d, Ref.re, hi1, hf, go_sem, -List.set_cons_succ, -List.set_cons_zero]
      refine ⟨fun _ => ⟨[], false, rfl⟩, fun hok => ⟨hrows, by unfold maxApp; omega, ?_⟩⟩
      refine loop_less (i + 1, rows ++ [D.int .i64 i :: x.row]) (St.le_cut [_, _] (loc' := [.grow (rows ++ [D.int .i64 i :: x.row]).length 5]) ?_ ?_ (by simp; exact ⟨rfl, rfl⟩) ?_) ⟨by show i + 1 ≤ 26; omega, by simp; omega, fun r hr => ?_⟩ (by show 26 - (i + 1) < 26 - i; omega)
      · simp [setAll, Sl.le, A.le_refl_iff, A.le_u_iff, As.lo, A.lo, C.lo, Ref.lo, Cs.lo, Obs.lo, Ob.lo, setAll, and_true, true_and, List.length_nil, List.length_cons]
      · simp [hbl, Sl.le, A.le_refl_iff, A.le_u_iff, As.lo, A.lo, C.lo, Ref.lo, Cs.lo, Obs.lo, Ob.lo, setAll, and_true, true_and, List.length_nil, List.length_cons]
      · simp [Sl.le, A.le_refl_iff, A.le_u_iff, As.lo, A.lo, C.lo, Ref.lo, Cs.lo, Obs.lo, Ob.lo, setAll, and_true, true_and, List.length_nil, List.length_cons]
      · rcases List.mem_append.1 hr with h | h
        · exact hrows r h
        · rw [List.mem_singleton.1 h]; simp [row_len]
  · exact ⟨rows, true, rfl⟩
theorem newSt_calls (H : Heap) : ACalls Tryz.prog 83 [] H (fun r H' => r = .c (.ptr (.e (H.length + 1)) 0) ∧ H' = H ++ [.map [], .cells [.map (.e H.length), .own (.e (H.length + 2)) 0 []], .grow 0 1]) := by
  refine acallsK Tryz.func83 (by kernel_rfl) ac83_ok fun hf => ?_
  simp -implicitDefEqProofs [ac83, go_sem, -List.set_cons_succ, -List.set_cons_zero]
  exact ⟨_, St.le_tokenC 1 1 1 rfl rfl, ⟨trivial, trivial⟩, _, rfl, by simp [A.re, C.re, Ref.re, A.val], by simp [Ob.re, C.re, Ref.re]⟩
/-- what is told of a pair of terms that are unified -/
def UniR (a b : Tm) (r : A) : Prop := ∃ (rows : List (List D)) (ok : Bool), r = .tup [.c (.d (.sl rows)), .c (.d (.bool ok))] ∧ (ok = true → a.valid = true ∧ b.valid = true ∧ ∃ σ', Uni [] (.tm a b) true σ')
theorem ut_calls (a b : Tm) (ha : a.fits) (hb : b.fits) (H : Heap) : ACalls Tryz.prog 33 [.agg (a.row.map .d), .agg (b.row.map .d)] H (fun r H' => H' = H ∧ UniR a b r) := by
  refine acalls Tryz.func33 (by kernel_rfl) ac33_ok fun hf => ?_
  have no : UniR a b (.tup [.c (.d (.sl [])), .c (.d (.bool false))]) := ⟨[], false, rfl, by simp⟩
  simp -implicitDefEqProofs [ac33, row_len, take_row, pure_d, re_d, hf, go_sem, -List.set_cons_succ, -List.set_cons_zero]
  refine (newSt_calls _).mono fun r H' ⟨h1, h2⟩ => ⟨H, [.cells (a.row.map .d), .cells (b.row.map .d), .map [], .cells [.map (.l 2), .own (.l 4) 0 []], .grow 0 1], .c (.ptr (.l 3) 0), by rw [h2]; simp [Ob.re, C.re, Ref.re, re_d], rfl, by simp, hf, by rw [h1]; simp [A.re, C.re, Ref.re], ?_⟩
  simp -implicitDefEqProofs [row_len, take_row, pure_d, re_d, hf, Ref.re, go_sem, -List.set_cons_succ, -List.set_cons_zero]
  refine qcall_pure (tvImpl_calls a ha) hf rfl ?_
  cases hva : a.valid with
  | false => simp -implicitDefEqProofs [row_len, take_row, pure_d, re_d, hf, Ref.re, go_sem, -List.set_cons_succ, -List.set_cons_zero]; exact no
  | true =>
    simp -implicitDefEqProofs [row_len, take_row, pure_d, re_d, hf, Ref.re, go_sem, -List.set_cons_succ, -List.set_cons_zero]
    refine qcall_pure (tvImpl_calls b hb) hf rfl ?_
    cases hvb : b.valid with
    | false => simp -implicitDefEqProofs [row_len, take_row, pure_d, re_d, hf, Ref.re, go_sem, -List.set_cons_succ, -List.set_cons_zero]; exact no
    | true =>
      obtain ⟨q, σ', hu, hs', hB⟩ := unify_calls (valid_good hva) (valid_good hvb)
      have hset : ∀ σ : Sto, sd (H ++ [Ob.cells (a.row.map C.d), Ob.cells (b.row.map C.d), .map [], .cells [.map (.e (H.length + 2)), .own (.e (H.length + 4)) 0 []], .grow 0 1]) (H.length + 2) σ = H ++ [Ob.cells (a.row.map C.d), Ob.cells (b.row.map C.d), .map (stoM σ), .cells [.map (.e (H.length + 2)), .own (.e (H.length + 4)) σ.length (trR σ)], .grow σ.length 1] := fun σ => by
        simp only [sd, sdM, sdC, sdG]
        rw [List.set_append_right _ _ (by omega), show H.length + 2 - H.length = 2 by omega, List.set_append_right _ _ (by omega), show H.length + 2 + 1 - H.length = 3 by omega, List.set_append_right _ _ (by omega), show H.length + 2 + 2 - H.length = 4 by omega]
        rfl
      have h2 := hB (H ++ [Ob.cells (a.row.map C.d), Ob.cells (b.row.map C.d), .map [], .cells [.map (.e (H.length + 2)), .own (.e (H.length + 4)) 0 []], .grow 0 1]) (H.length + 2) (by simp)
      rw [hset, hset] at h2
      simp -implicitDefEqProofs [row_len, take_row, pure_d, re_d, hf, Ref.re, go_sem, -List.set_cons_succ, -List.set_cons_zero]
      refine h2.mono fun r H' ⟨h3, h4⟩ => ⟨H, [Ob.cells (a.row.map C.d), Ob.cells (b.row.map C.d), .map (stoM σ'), .cells [.map (.l 2), .own (.l 4) σ'.length (trR σ')], .grow σ'.length 1], .c (.d (.bool q)), by rw [h4]; simp [Ob.re, C.re, Ref.re, re_d], rfl, by simp, hf, h3, ?_⟩
      cases q with
      | false => simp -implicitDefEqProofs [row_len, take_row, pure_d, re_d, hf, Ref.re, go_sem, -List.set_cons_succ, -List.set_cons_zero]; exact no
      | true =>
        simp -implicitDefEqProofs [row_len, take_row, pure_d, re_d, hf, Ref.re, go_sem, -List.set_cons_succ, -List.set_cons_zero]
        refine call_some (all_calls hs' (H ++ [Ob.cells (a.row.map C.d), Ob.cells (b.row.map C.d), .map (stoM σ'), .cells [.map (.e (H.length + 2)), .own (.e (H.length + 4)) σ'.length (trR σ')], .grow σ'.length 1]) (H.length + 2) (H.length + 3) (.own (.e (H.length + 4)) σ'.length (trR σ')) ⟨?_, ?_⟩) (by simp [Ob.re, C.re, Ref.re, re_d]) (fun r => RowsB.re) hf ?_
        · rw [List.getElem?_append_right (by omega), show H.length + 2 - H.length = 2 by omega]; rfl
        · rw [List.getElem?_append_right (by omega), show H.length + 3 - H.length = 3 by omega]; rfl
        · rintro _ ⟨rows, ok, rfl⟩
          simp -implicitDefEqProofs [hf, go_sem, -List.set_cons_succ, -List.set_cons_zero]
          exact ⟨rows, ok, rfl, fun _ => ⟨hva, hvb, σ', hu⟩⟩
theorem UniR.re {a b : Tm} {n : Nat} {r : A} (h : UniR a b r) : A.re n r = r := by
  obtain ⟨rows, ok, rfl, _⟩ := h
  simp [A.re, A.res, C.re]
/-- terms that are unified have keys that fit -/
theorem uni_fits {a b : Tm} {σ' : Sto} (ha : a.valid = true) (hb : b.valid = true) (h : Uni [] (.tm a b) true σ') (ka : a.k ≠ 1) (kb : b.k ≠ 1) : a.key = [] ∨ b.key = [] ∨ a.key = b.key := by
  have hs := (uni_top h ka kb).1
  cases hxa : a.kids with
  | nil => left; simp [Tm.key, hxa]
  | cons x xs =>
    cases hxb : b.kids with
    | nil => right; left; simp [Tm.key, hxb]
    | cons y ys =>
      by_cases kx : x.k = 1
      · left; simp [Tm.key, hxa, kx]
      · by_cases ky : y.k = 1
        · right; left; simp [Tm.key, hxb, ky]
        · obtain ⟨s1, s2, s3, s4⟩ := uni_first h ka kb hxa hxb kx ky
          right; right
          simp [Tm.key, hxa, hxb, s1, s2, s3, s4]
end Go.Proofs.YtbblefjbgbocoaaGreatDoor

/-
  Rows of numbers in the laws: compared, and looked through.
  Conditions: none.
-/
open Go Go.AM Go.Proofs
namespace Go.Proofs.YtbblefjbgbocoaaGreatDoor
open Go.ChangeShapes Go.WideShapes Go.ChangeAt Go.RowKit
set_option linter.unusedVariables false
set_option linter.unusedSimpArgs false
set_option maxRecDepth 100000
-- 23 loop.example/prologserver/laws.pgInts params 2 ntmps 26
-- loop head live: [0,1,5]
def ac23 : Cd := .seq (.region [⟨(some 4),.mv (.k (.c (.d (.bool false)))),none⟩] [4])
 (.seq (.seq (.region [⟨(some 6),.mv (.t 0),none⟩,
 ⟨(some 7),.len 1 (.t 6),none⟩,
 ⟨(some 8),.mv (.t 1),none⟩,
 ⟨(some 9),.len 1 (.t 8),none⟩,
 ⟨(some 10),.bin .neq (.t 7) (.t 9),none⟩] [6,7,8,9])
 (.cond (.t 10)
 (.seq (.region [⟨(some 4),.mv (.k (.c (.d (.bool false)))),none⟩] [0,1,10])
 (.ret))
 (.skip)))
 (.seq (.seq (.region [⟨(some 5),.mv (.k (.c (.d (.int .i64 0)))),none⟩] [4,10])
 (.block 0 (.loop (.seq (.seq (.region [⟨(some 11),.mv (.t 5),none⟩,
 ⟨(some 12),.mv (.t 0),none⟩,
 ⟨(some 13),.len 1 (.t 12),none⟩,
 ⟨(some 14),.bin .lss (.t 11) (.t 13),none⟩] [11,12,13])
 (.cond (.t 14)
 (.skip)
 (.exit 0)))
 (.seq (.block 1 (.seq (.region [⟨(some 17),.mv (.t 0),none⟩,
 ⟨(some 18),.mv (.t 5),none⟩,
 ⟨(some 19),.indexAddr 1 (.t 17) (.t 18),none⟩,
 ⟨(some 21),.mv (.t 1),none⟩,
 ⟨(some 22),.mv (.t 5),none⟩,
 ⟨(some 23),.indexAddr 1 (.t 21) (.t 22),none⟩,
 ⟨(some 20),.load none (.t 19),none⟩,
 ⟨(some 24),.load none (.t 23),none⟩,
 ⟨(some 25),.bin .neq (.t 20) (.t 24),none⟩] [14,17,18,19,20,21,22,23,24])
 (.cond (.t 25)
 (.seq (.region [⟨(some 4),.mv (.k (.c (.d (.bool false)))),none⟩] [0,1,5,25])
 (.ret))
 (.skip))))
 (.region [⟨(some 15),.mv (.t 5),none⟩,
 ⟨(some 16),.bin .add (.t 15) (.k (.c (.d (.int .i64 1)))),none⟩,
 ⟨(some 5),.mv (.t 16),none⟩] [4,15,16,25]))))))
 (.seq (.region [⟨(some 4),.mv (.k (.c (.d (.bool true)))),none⟩] [])
 (.ret))))
theorem ac23_ok : cFunc Tryz.prog [] [(0,[4],[]),(1,[6,7,8,9],[]),(2,[0,1,10],[]),(3,[4,10],[]),(4,[11,12,13],[]),(6,[14,17,18,19,20,21,22,23,24],[0,1,2,4,5,6,3,7,8]),(7,[0,1,5,25],[]),(5,[4,15,16,25],[]),(8,[],[])] Tryz.f23 = some (ac23,[.tmp 4],26) := by kernel_rfl
-- 28 loop.example/prologserver/laws.pgIn params 2 ntmps 18
-- loop head live: [0,1,5]
def ac28 : Cd := .seq (.region [⟨(some 4),.mv (.k (.c (.d (.bool false)))),none⟩] [4])
 (.seq (.seq (.region [⟨(some 5),.mv (.k (.c (.d (.int .i64 0)))),none⟩] [])
 (.block 0 (.loop (.seq (.seq (.region [⟨(some 6),.mv (.t 5),none⟩,
 ⟨(some 7),.mv (.t 0),none⟩,
 ⟨(some 8),.len 1 (.t 7),none⟩,
 ⟨(some 9),.bin .lss (.t 6) (.t 8),none⟩] [6,7,8])
 (.cond (.t 9)
 (.skip)
 (.exit 0)))
 (.seq (.block 1 (.seq (.region [⟨(some 12),.mv (.t 0),none⟩,
 ⟨(some 13),.mv (.t 5),none⟩,
 ⟨(some 14),.indexAddr 1 (.t 12) (.t 13),none⟩,
 ⟨(some 15),.load none (.t 14),none⟩,
 ⟨(some 16),.mv (.t 1),none⟩,
 ⟨(some 17),.bin .eql (.t 15) (.t 16),none⟩] [9,12,13,14,15,16])
 (.cond (.t 17)
 (.seq (.region [⟨(some 4),.mv (.k (.c (.d (.bool true)))),none⟩] [0,1,5,17])
 (.ret))
 (.skip))))
 (.region [⟨(some 10),.mv (.t 5),none⟩,
 ⟨(some 11),.bin .add (.t 10) (.k (.c (.d (.int .i64 1)))),none⟩,
 ⟨(some 5),.mv (.t 11),none⟩] [4,10,11,17]))))))
 (.seq (.region [⟨(some 4),.mv (.k (.c (.d (.bool false)))),none⟩] [])
 (.ret)))
theorem ac28_ok : cFunc Tryz.prog [] [(0,[4],[]),(1,[],[]),(2,[6,7,8],[]),(4,[9,12,13,14,15,16],[]),(5,[0,1,5,17],[]),(3,[4,10,11,17],[]),(6,[],[])] Tryz.f28 = some (ac28,[.tmp 4],18) := by kernel_rfl
theorem pgInts_calls (l : List Int) (hl : l.length ≤ 1048576) (H : Heap) : ACalls Tryz.prog 23 [.c (.d (.sl (intRows l))), .c (.d (.sl (intRows l)))] H (fun r H' => H' = H ∧ r = .c (.d (.bool true))) := by
  have hli : inR .i64 (l.length : Int) := small_i64 (by omega) (by omega)
  refine acalls Tryz.func23 (by kernel_rfl) ac23_ok fun hf => ?_
  simp -implicitDefEqProofs [ac23, intRows_len, hli, go_sem, -List.set_cons_succ, -List.set_cons_zero]
  refine loop_set (σ := Nat) (fun i => [(5, .c (.d (.int .i64 i)))]) (fun _ => H) (fun _ => []) (fun i => i ≤ l.length) (fun i => l.length - i) 0 rfl (Nat.zero_le _) ?_
  intro i hi
  simp -implicitDefEqProofs [setAll, intRows_len, hli, go_sem, -List.set_cons_succ, -List.set_cons_zero]
  intro hlt
  have hadd : inR .i64 ((i : Int) + 1) := small_i64 (by omega) (by omega)
  refine row_int [.int .i64 l[i]] (by omega) (by simp [intRows, hlt]) rfl ?_
  simp -implicitDefEqProofs [go_sem, -List.set_cons_succ, -List.set_cons_zero]
  refine row_int [.int .i64 l[i]] (by omega) (by simp [intRows, hlt]) rfl ?_
  simp -implicitDefEqProofs [hadd, go_sem, -List.set_cons_succ, -List.set_cons_zero]
  exact loop_back (i + 1) (by simp [setAll]) hlt (by show l.length - (i + 1) < l.length - i; omega)
theorem pgIn_calls (l : List Int) (hl : l.length ≤ 1048576) (n : Int) (H : Heap) : ACalls Tryz.prog 28 [.c (.d (.sl (intRows l))), .c (.d (.int .i64 n))] H (fun r H' => H' = H ∧ r = .c (.d (.bool (l.contains n)))) := by
  have hli : inR .i64 (l.length : Int) := small_i64 (by omega) (by omega)
  refine acalls Tryz.func28 (by kernel_rfl) ac28_ok fun hf => ?_
  simp -implicitDefEqProofs [ac28, intRows_len, hli, go_sem, -List.set_cons_succ, -List.set_cons_zero]
  refine loop_set (σ := Nat) (fun i => [(5, .c (.d (.int .i64 i)))]) (fun _ => H) (fun _ => []) (fun i => i ≤ l.length ∧ (l.take i).contains n = false) (fun i => l.length - i) 0 (by simp [setAll]) ⟨Nat.zero_le _, by simp⟩ ?_
  rintro i ⟨hi, hn⟩
  have hn : n ∉ l.take i := by simpa using hn
  simp -implicitDefEqProofs [setAll, intRows_len, hli, go_sem, -List.set_cons_succ, -List.set_cons_zero]
  refine ⟨fun hlt => ?_, fun hge => ?_⟩
  · have hadd : inR .i64 ((i : Int) + 1) := small_i64 (by omega) (by omega)
    refine row_int [.int .i64 l[i]] (by omega) (by simp [intRows, hlt]) rfl ?_
    simp -implicitDefEqProofs [hadd, go_sem, -List.set_cons_succ, -List.set_cons_zero]
    refine ⟨fun he => ?_, fun hne => loop_back (i + 1) (by simp [setAll]) ⟨hlt, ?_⟩ (by show l.length - (i + 1) < l.length - i; omega)⟩
    · have : n ∈ l := by rw [← he]; exact List.getElem_mem hlt
      simp -implicitDefEqProofs [this, hf, go_sem, -List.set_cons_succ, -List.set_cons_zero]
    · have : n ∉ l.take (i + 1) := by
        rw [List.take_succ_eq_append_getElem hlt, List.mem_append]
        rintro (h | h)
        · exact hn h
        · rw [List.mem_singleton] at h; exact hne h.symm
      simpa using this
  · obtain rfl : i = l.length := by omega
    rw [List.take_length] at hn
    simp -implicitDefEqProofs [hn, hf, go_sem, -List.set_cons_succ, -List.set_cons_zero]
end Go.Proofs.YtbblefjbgbocoaaGreatDoor
