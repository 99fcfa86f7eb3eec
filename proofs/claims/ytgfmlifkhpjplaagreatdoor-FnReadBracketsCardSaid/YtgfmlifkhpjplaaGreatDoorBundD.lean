/-
  Contracts of functions that the law reaches, and plain lemmas: several texts in one.
  Conditions: none.
-/
import Derived.Test.YtgfmlifkhpjplaaGreatDoorBundC
import Derived.Test.YtgfmlifkhpjplaaGreatDoorBundA
import Derived.Test.YtgfmlifkhpjplaaGreatDoorBundB
open Go Go.AM Go.Proofs
attribute [local go_sem] kw ew sw tw a_ b_ c_ A.ok A.val d_ e_ f_ g_ h_ i_ j_ k_ l_ m_ unA unD n_ AOp.total o_ p_ q_ r_ s_ t_ u_ v_ A.thaw C.thaw A.fits As.fits C.fits evs oks w_ A.pure C.pure A.re C.re x_ y_ cut A.cells C.rows? z_ A_ B_ C_ a0_ b0_ D_ Ob.re Cs.fits E_ F_ G_ H_ I_ J_ K_ L_ M_ N_ O_ C.toD P_ Q_ R_ S_ T_ Obs.fits U_ eqD V_ W_ X_ Y_ Z_
/-
  Terms that are drawn: copies that are changed.
  Conditions: none.
-/
open Go Go.AM Go.Proofs
namespace Go.Proofs.YtgfmlifkhpjplaaGreatDoor
open Go.ChangeShapes Go.WideShapes Go.ChangeAt Go.RowKit
set_option linter.unusedVariables false
set_option linter.unusedSimpArgs false
set_option maxRecDepth 100000
-- 75 loop.example/prologserver/spec.l1Some params 1 ntmps 8
theorem Draws.mono {f : FuncId} {xs : List A} {N N' : Int} {R : A → Prop} (h : Draws f xs N R) (hN : N ≤ N') : Draws f xs N' R := fun c p H i hc hp hp1 hi =>
  (h c p H i hc hp (by omega) hi).mono fun r H' ⟨h1, p', h2, h3, h4⟩ => ⟨h1, p', h2, by omega, h4⟩
end Go.Proofs.YtgfmlifkhpjplaaGreatDoor

/-
  Terms with operators, drawn.
  Conditions: none.
-/
open Go Go.AM Go.Proofs
namespace Go.Proofs.YtgfmlifkhpjplaaGreatDoor
open Go.ChangeShapes Go.WideShapes Go.ChangeAt Go.RowKit
set_option linter.unusedVariables false
set_option linter.unusedSimpArgs false
set_option maxRecDepth 100000
-- 36 loop.example/prologserver/spec.l2Draw params 2 ntmps 28
def ac36 : Cd := .seq (.region [⟨(some 4),.alloc [(.d (.int .i64 0)),(.d (.int .i64 0)),(.d (.str [])),(.full [])],none⟩] [])
 (.seq (.seq (.region [⟨(some 5),.mv (.t 1),none⟩,
 ⟨(some 6),.bin .lss (.t 5) (.k (.c (.d (.int .i64 2)))),none⟩] [5])
 (.cond (.t 6)
 (.seq (.region [⟨(some 7),.mv (.t 0),none⟩,
 ⟨(some 8),.call false 56 [(.t 7),(.k (.c (.d (.int .i64 1))))],none⟩,
 ⟨none,.store 4 (.t 4) (.t 8),none⟩] [0,1,6,7,8])
 (.ret))
 (.skip)))
 (.seq (.seq (.region [⟨(some 9),.mv (.t 0),none⟩,
 ⟨(some 10),.call false 53 [(.t 9),(.k (.c (.d (.int .i64 3))))],none⟩,
 ⟨(some 11),.bin .eql (.t 10) (.k (.c (.d (.int .i64 0)))),none⟩] [6,9,10])
 (.cond (.t 11)
 (.seq (.region [⟨(some 12),.mv (.t 0),none⟩,
 ⟨(some 13),.mv (.t 1),none⟩,
 ⟨(some 14),.call false 56 [(.t 12),(.t 13)],none⟩,
 ⟨none,.store 4 (.t 4) (.t 14),none⟩] [0,1,11,12,13,14])
 (.ret))
 (.skip)))
 (.seq (.region [⟨(some 15),.mv (.t 0),none⟩,
 ⟨(some 16),.buildSlice 1 8 [(.str [])] [(0,(.k (.c (.d (.str [43]))))),(1,(.k (.c (.d (.str [45]))))),(2,(.k (.c (.d (.str [42]))))),(3,(.k (.c (.d (.str [105,115]))))),(4,(.k (.c (.d (.str [109,111,100]))))),(5,(.k (.c (.d (.str [61]))))),(6,(.k (.c (.d (.str [47,47]))))),(7,(.k (.c (.d (.str [61,60])))))],none⟩,
 ⟨(some 17),.call false 54 [(.t 15),(.t 16)],none⟩,
 ⟨(some 18),.mv (.t 0),none⟩,
 ⟨(some 19),.mv (.t 1),none⟩,
 ⟨(some 20),.bin .sub (.t 19) (.k (.c (.d (.int .i64 1)))),none⟩,
 ⟨(some 21),.call false 36 [(.t 18),(.t 20)],none⟩,
 ⟨(some 22),.mv (.t 0),none⟩,
 ⟨(some 23),.mv (.t 1),none⟩,
 ⟨(some 24),.bin .sub (.t 23) (.k (.c (.d (.int .i64 1)))),none⟩,
 ⟨(some 25),.call false 36 [(.t 22),(.t 24)],none⟩,
 ⟨(some 26),.buildSlice 4 2 [(.int .i64 0),(.int .i64 0),(.str []),(.sl [])] [(0,(.t 21)),(1,(.t 25))],none⟩,
 ⟨(some 27),.qcall 48 [(.t 17),(.t 26)],none⟩,
 ⟨none,.store 4 (.t 4) (.t 27),none⟩] [0,1,11,15,16,17,18,19,20,21,22,23,24,25,26,27])
 (.ret))))
theorem ac36_ok : cFunc Tryz.prog [1000048] [(0,[],[]),(1,[5],[]),(2,[0,1,6,7,8],[]),(3,[6,9,10],[]),(4,[0,1,11,12,13,14],[]),(5,[0,1,11,15,16,17,18,19,20,21,22,23,24,25,26,27],[])] Tryz.f36 = some (ac36,[.cell 4 (some 4)],28) := by kernel_rfl
-- 14 loop.example/prologserver/spec.DrawWriteTerm params 1 ntmps 13
def nD (d : Nat) : Int := ((6 * 4 ^ d + 20 : Nat) : Int)
theorem nD_le {d : Nat} (h : d ≤ 5) : 0 ≤ nD d ∧ nD d ≤ 10000 := by
  have : 4 ^ d ≤ 4 ^ 5 := Nat.pow_le_pow_right (by omega) h
  unfold nD; omega
end Go.Proofs.YtgfmlifkhpjplaaGreatDoor

/-
  Drawn terms are small and have names.
  Conditions: none.
-/
open Go Go.AM Go.Proofs
namespace Go.Proofs.YtgfmlifkhpjplaaGreatDoor
open Go.ChangeShapes Go.WideShapes Go.ChangeAt Go.RowKit
set_option linter.unusedVariables false
set_option linter.unusedSimpArgs false
set_option maxRecDepth 100000
theorem names_ok : ∀ s ∈ drawNames, nameB s = true := by decide
theorem shapes_of {d : Nat} : ∀ {l : List Tm}, (∀ t ∈ l, t.shape d = true) → shapes d l = true := fun h => by
  rw [shapes_all, List.all_eq_true]
  exact h
theorem sizes_of {n : Nat} : ∀ {l : List Tm}, (∀ t ∈ l, t.size ≤ n) → sizes l ≤ l.length * n
  | [], _ => by simp [sizes]
  | t :: l, h => by
    have h1 := h t (by simp)
    have h2 := sizes_of (l := l) fun u hu => h u (by simp [hu])
    simp only [sizes, List.length_cons, Nat.add_mul, Nat.one_mul]
    omega
theorem struct_shape {d : Nat} {s : List UInt8} {l : List Tm} (hs : nameB s = true) (hl : l.length ≤ 4) (h : ∀ t ∈ l, t.shape d = true) : (Tm.mk 3 0 s l).shape (d + 1) = true := by
  simp [Tm.shape, Tm.ownB, hs, hl, shapes_of h]
def sz3 : Nat → Nat
  | 0 => 1
  | d + 1 => 3 * sz3 d + 1
theorem sz3_pos (d : Nat) : 1 ≤ sz3 d := by cases d <;> simp [sz3]
def VW (d : Nat) (t : Tm) : Prop := t.shape (d + 1) = true ∧ t.size ≤ sz3 d
theorem drawW (d : Nat) (hd : d ≤ 6) : Draws 56 [.c (.d (.int .i64 d))] ((5 * 4 ^ d : Nat) : Int) (TmP (VW d)) :=
  l1DrawP_draws VW (fun d n h0 h1 => ⟨by simp [Tm.shape, Tm.ownB, shapes, h0, h1], by have := sz3_pos d; simp [Tm.size, sizes]; omega⟩)
    (fun d n h0 h1 => ⟨by simp [Tm.shape, Tm.ownB, shapes, h0, h1], by have := sz3_pos d; simp [Tm.size, sizes]; omega⟩)
    (fun s hs => ⟨struct_shape (names_ok s hs) (by simp) (by simp), by simp [Tm.size, sizes, sz3]⟩)
    (fun d s hs l hl h => ⟨struct_shape (names_ok s hs) (by omega) fun t ht => (h t ht).1, by
      have h1 := sizes_of (l := l) fun t ht => (h t ht).2
      have h2 : l.length * sz3 d ≤ 3 * sz3 d := Nat.mul_le_mul_right _ hl
      rw [Tm.size, sz3]
      omega⟩) d hd
end Go.Proofs.YtgfmlifkhpjplaaGreatDoor

/-
  Texts of terms with operators, drawn.
  Conditions: none.
-/
open Go Go.AM Go.Proofs
namespace Go.Proofs.YtgfmlifkhpjplaaGreatDoor
open Go.ChangeShapes Go.WideShapes Go.ChangeAt Go.RowKit
set_option linter.unusedVariables false
set_option linter.unusedSimpArgs false
set_option maxRecDepth 100000
-- 42 loop.example/prologserver/spec.l1Bend params 3 ntmps 35
def ac42 : Cd := .seq (.region [⟨(some 6),.mv (.k (.c (.d (.str [])))),none⟩] [6])
 (.seq (.seq (.region [⟨(some 8),.mv (.t 1),none⟩,
 ⟨(some 9),.len 0 (.t 8),none⟩,
 ⟨(some 10),.bin .eql (.t 9) (.k (.c (.d (.int .i64 0)))),none⟩,
 ⟨(some 11),.mv (.t 10),none⟩,
 ⟨(some 12),.mv (.t 0),some (11,false)⟩,
 ⟨(some 13),.call false 53 [(.t 12),(.k (.c (.d (.int .i64 2))))],some (11,false)⟩,
 ⟨(some 14),.bin .eql (.t 13) (.k (.c (.d (.int .i64 0)))),some (11,false)⟩,
 ⟨(some 15),.pick (.t 11) (.k (.c (.d (.bool true)))) (.t 14),none⟩] [8,9,10,11,12,13,14])
 (.cond (.t 15)
 (.seq (.region [⟨(some 16),.mv (.t 1),none⟩,
 ⟨(some 6),.mv (.t 16),none⟩] [0,1,2,15,16])
 (.ret))
 (.skip)))
 (.seq (.region [⟨(some 17),.mv (.t 0),none⟩,
 ⟨(some 18),.mv (.t 1),none⟩,
 ⟨(some 19),.len 0 (.t 18),none⟩,
 ⟨(some 20),.call false 53 [(.t 17),(.t 19)],none⟩,
 ⟨(some 7),.mv (.t 20),none⟩] [6,15,17,18,19,20])
 (.seq (.region [⟨(some 21),.mv (.t 1),none⟩,
 ⟨(some 22),.mv (.t 7),none⟩,
 ⟨(some 23),.slice 0 (.t 21) none (some (.t 22)) none,none⟩,
 ⟨(some 24),.mv (.t 0),none⟩,
 ⟨(some 25),.mv (.t 2),none⟩,
 ⟨(some 28),.mv (.t 1),none⟩,
 ⟨(some 29),.mv (.t 7),none⟩,
 ⟨(some 30),.mv (.t 0),none⟩,
 ⟨(some 26),.call false 54 [(.t 24),(.t 25)],none⟩,
 ⟨(some 27),.bin .add (.t 23) (.t 26),none⟩,
 ⟨(some 31),.call false 53 [(.t 30),(.k (.c (.d (.int .i64 2))))],none⟩,
 ⟨(some 32),.bin .add (.t 29) (.t 31),none⟩,
 ⟨(some 33),.slice 0 (.t 28) (some (.t 32)) none none,none⟩,
 ⟨(some 34),.bin .add (.t 27) (.t 33),none⟩,
 ⟨(some 6),.mv (.t 34),none⟩] [0,1,2,7,21,22,23,24,25,26,27,28,29,30,31,32,33,34])
 (.ret))))
theorem ac42_ok : cFunc Tryz.prog [] [(0,[6],[]),(1,[8,9,10,11,12,13,14],[]),(2,[0,1,2,15,16],[]),(3,[6,15,17,18,19,20],[]),(4,[0,1,2,7,21,22,23,24,25,26,27,28,29,30,31,32,33,34],[0,1,2,3,4,7,8,9,5,6,10,11,12,13,14])] Tryz.f42 = some (ac42,[.tmp 6],35) := by kernel_rfl
-- 19 loop.example/prologserver/spec.DrawReadTerm params 1 ntmps 15
def ac19 : Cd := .seq (.region [⟨(some 2),.mv (.k (.c (.d (.str [])))),none⟩] [2])
 (.seq (.region [⟨(some 4),.mv (.t 0),none⟩,
 ⟨(some 5),.call false 34 [(.t 4)],none⟩,
 ⟨(some 3),.mv (.t 5),none⟩] [0,4,5])
 (.seq (.region [⟨(some 6),.mv (.t 3),none⟩,
 ⟨(some 7),.mv (.t 3),none⟩,
 ⟨(some 8),.mv (.t 3),none⟩,
 ⟨(some 9),.buildSlice 1 4 [(.int .i64 0)] [(0,(.k (.c (.d (.int .i64 3))))),(1,(.k (.c (.d (.int .i64 2))))),(2,(.k (.c (.d (.int .i64 4))))),(3,(.k (.c (.d (.int .i64 1)))))],none⟩,
 ⟨(some 10),.call false 37 [(.t 8),(.t 9)],none⟩,
 ⟨(some 11),.call false 36 [(.t 7),(.t 10)],none⟩,
 ⟨(some 12),.qcall 39 [(.t 11)],none⟩,
 ⟨(some 13),.buildSlice 1 9 [(.str [])] [(0,(.k (.c (.d (.str []))))),(1,(.k (.c (.d (.str [40]))))),(2,(.k (.c (.d (.str [41]))))),(3,(.k (.c (.d (.str [43]))))),(4,(.k (.c (.d (.str [65]))))),(5,(.k (.c (.d (.str [49]))))),(6,(.k (.c (.d (.str [32]))))),(7,(.k (.c (.d (.str [45]))))),(8,(.k (.c (.d (.str [105,115])))))],none⟩,
 ⟨(some 14),.call false 42 [(.t 6),(.t 12),(.t 13)],none⟩,
 ⟨(some 2),.mv (.t 14),none⟩] [3,6,7,8,9,10,11,12,13,14])
 (.ret)))
theorem ac19_ok : cFunc Tryz.prog [1000039] [(0,[2],[]),(1,[0,4,5],[]),(2,[3,6,7,8,9,10,11,12,13,14],[])] Tryz.f19 = some (ac19,[.tmp 2],15) := by kernel_rfl
/-- a text that is drawn -/
def StrR (n : Nat) (r : A) : Prop := ∃ s : List UInt8, r = .c (.d (.str s)) ∧ s.length ≤ n
theorem StrR.re {n m : Nat} {r : A} (h : StrR n r) : A.re m r = r := by obtain ⟨s, rfl, _⟩ := h; simp [A.re, C.re]
theorem bend_draws (s : List UInt8) (hs : s.length ≤ 100000) (l : List (List UInt8)) (hl : (1 ≤ l.length ∧ l.length ≤ 1000) ∧ ∀ x ∈ l, x.length ≤ 10) : Draws 42 [.c (.d (.str s)), .c (.d (.sl (l.map fun s => [.str s])))] 4 (StrR (s.length + 10)) := fun c p H i hc hp hp1 hi => by
  refine acalls Tryz.func42 (by kernel_rfl) ac42_ok fun hf => ?_
  simp only [List.length_set] at hf
  have hf0 : ∀ q, Obs.fits H.length 0 (H.set i (Rd c q)) := fun q => fits_reset (b := Rd c q) hf ⟨trivial, trivial, trivial⟩
  have hli : inR .i64 (s.length : Int) := small_i64 (by omega) (by omega)
  have fin : ∀ (t : List UInt8) (q : Int), t.length ≤ s.length + 10 → p ≤ q → q ≤ p + 4 → Drew (StrR (s.length + 10)) 4 c p H i (.c (.d (.str t))) (H.set i (Rd c q)) := fun t q h a1 a2 => ⟨⟨t, rfl, h⟩, q, a1, a2, rfl⟩
  cases hse : s with
  | nil =>
    subst hse
    simp -implicitDefEqProofs [ac42, hf0, go_sem, -List.set_cons_succ, -List.set_cons_zero]
    exact ⟨small_i64 (by omega) (by omega), fin [] p (by simp) (by omega) (by omega)⟩
  | cons b w =>
    rw [← hse]
    have hpos : 0 < s.length := by rw [hse]; simp
    have hz : ¬ ((s.length : Int) = 0) := by omega
    have hz2 : ¬ s = [] := by rw [hse]; simp
    simp -implicitDefEqProofs [ac42, hf0, hli, hz, hz2, go_sem, -List.set_cons_succ, -List.set_cons_zero]
    refine call_drawE (pick_draws 2 (by omega)) hc (by omega) (by omega) hi (by simp [Ob.re, C.re]) (fun r => IntIn.re) (hf0 _) ?_
    rintro _ p1 ⟨k, rfl, k1, k2⟩ h1 h2
    simp -implicitDefEqProofs [hf0, hli, hz, go_sem, -List.set_cons_succ, -List.set_cons_zero]
    refine ⟨fun _ => fin s p1 (by omega) (by omega) (by omega), fun _ => ?_⟩
    refine call_drawE (pick_draws s.length (by omega)) hc (by omega) (by omega) hi (by simp [Ob.re, C.re]) (fun r => IntIn.re) (hf0 _) ?_
    rintro _ p2 ⟨m, rfl, m1, m2⟩ h3 h4
    simp -implicitDefEqProofs [hf0, hli, go_sem, -List.set_cons_succ, -List.set_cons_zero]
    refine ⟨⟨m1, by omega⟩, ?_⟩
    refine call_drawE (of_draws l hl.1) hc (by omega) (by omega) hi (by simp [Ob.re, C.re]) (fun r ⟨n, _, hn⟩ => by subst hn; rfl) (hf0 _) ?_
    rintro _ p3 ⟨x, hx, rfl⟩ h5 h6
    have hxl := hl.2 x hx
    simp -implicitDefEqProofs [hf0, hli, go_sem, -List.set_cons_succ, -List.set_cons_zero]
    refine ⟨by unfold maxStr; omega, ?_⟩
    refine call_drawE (pick_draws 2 (by omega)) hc (by omega) (by omega) hi (by simp [Ob.re, C.re]) (fun r => IntIn.re) (hf0 _) ?_
    rintro _ p4 ⟨j, rfl, j1, j2⟩ h7 h8
    have hmj : inR .i64 (m + j) := small_i64 (by omega) (by omega)
    simp -implicitDefEqProofs [hf0, hli, hmj, go_sem, -List.set_cons_succ, -List.set_cons_zero]
    refine ⟨by omega, ?_⟩
    have e1 : (m + j).toNat = m.toNat + j.toNat := by omega
    have e2 : m.toNat ≤ s.length := by omega
    refine ⟨by unfold maxStr; omega, fin _ p4 ?_ (by omega) (by omega)⟩
    simp
    omega
def VQ (d : Nat) : Tm → Prop := VW (max d 1)
theorem VW.up {d e : Nat} {t : Tm} (h : VW d t) (hde : d ≤ e) : VW e t := by
  refine ⟨shp_mono t _ _ (by omega) h.1, Nat.le_trans h.2 ?_⟩
  clear h
  induction hde with
  | refl => exact Nat.le_refl _
  | step _ ih => simp only [sz3]; omega
theorem Draws.imp {f : FuncId} {xs : List A} {N : Int} {R R' : A → Prop} (h : Draws f xs N R) (hR : ∀ r, R r → R' r) : Draws f xs N R' := fun c p H i hc hp hp1 hi =>
  (h c p H i hc hp hp1 hi).mono fun r H' ⟨h1, p', h2, h3, h4⟩ => ⟨hR r h1, p', h2, h3, h4⟩
theorem TmP.imp {P Q : Tm → Prop} {r : A} (h : ∀ t, P t → Q t) : TmP P r → TmP Q r := fun ⟨t, h1, h2, h3⟩ => ⟨t, h1, h2, h t h3⟩
theorem l2DrawQ : ∀ d : Nat, d ≤ 5 → Draws 36 [.c (.d (.int .i64 d))] (nD d) (TmP (VQ d))
  | 0, hd => fun c p H i hc hp hp1 hi => by
    have hn := nD_le hd
    refine acalls Tryz.func36 (by kernel_rfl) ac36_ok fun hf => ?_
    simp only [List.length_set] at hf
    have hf0 : ∀ q, Obs.fits H.length 0 (H.set i (Rd c q)) := fun q => fits_reset (b := Rd c q) hf ⟨trivial, trivial, trivial⟩
    simp -implicitDefEqProofs [ac36, hf0, go_sem, -List.set_cons_succ, -List.set_cons_zero]
    have e : nD 0 = 26 := by unfold nD; rfl
    rw [e] at hp1 ⊢
    refine call_drawE (((drawW 1 (by omega)).imp (R' := TmP (VQ 0)) fun r => TmP.imp fun t h => h).mono (N' := 26) (by decide)) hc (by omega) (by omega) hi (by simp [Ob.re, C.re]) (fun r => TmP.re) (hf0 _) ?_
    rintro _ p1 ⟨t, rfl, ht, hV⟩ h1 h2
    simp -implicitDefEqProofs [hf0, row_len, take_row, pure_d, re_d, thaw_d, fits_map, go_sem, -List.set_cons_succ, -List.set_cons_zero]
    exact ⟨⟨t, rfl, ht, hV⟩, p1, by omega, by omega, rfl⟩
  | d + 1, hd => fun c p H i hc hp hp1 hi => by
    have ih := l2DrawQ d (by omega)
    have hn := nD_le hd
    have h4 : 0 < 4 ^ d := Nat.pos_of_ne_zero (by simp)
    have hpow : 4 ^ (d + 1) = 4 * 4 ^ d := by rw [Nat.pow_succ]; omega
    refine acalls Tryz.func36 (by kernel_rfl) ac36_ok fun hf => ?_
    simp only [List.length_set] at hf
    have hf0 : ∀ q, Obs.fits H.length 0 (H.set i (Rd c q)) := fun q => fits_reset (b := Rd c q) hf ⟨trivial, trivial, trivial⟩
    have hf1 : ∀ q, Obs.fits (H.set i (Rd c q)).length 0 (H.set i (Rd c q)) := fun q => by simpa using hf0 q
    have fin : ∀ (t : Tm) (q : Int), t.fits → VQ (d + 1) t → p ≤ q → q ≤ p + nD (d + 1) → Drew (TmP (VQ (d + 1))) (nD (d + 1)) c p H i (.agg (t.row.map .d)) (H.set i (Rd c q)) := fun t q ht hV a1 a2 => ⟨⟨t, rfl, ht, hV⟩, q, a1, a2, rfl⟩
    have m1 : Draws 56 [.c (.d (.int .i64 1))] (nD (d + 1)) (TmP (VQ (d + 1))) := ((drawW 1 (by omega)).imp fun r => TmP.imp fun t h => h.up (by omega)).mono (by unfold nD; omega)
    have e1 : ((d + 1 : Nat) : Int) = (d : Int) + 1 := by omega
    have m2 : Draws 56 [.c (.d (.int .i64 ((d : Int) + 1)))] (nD (d + 1) - 1) (TmP (VQ (d + 1))) := by
      have := (drawW (d + 1) (by omega)).imp (R' := TmP (VQ (d + 1))) fun r => TmP.imp fun t h => h.up (by omega)
      rw [e1] at this
      exact this.mono (by unfold nD; omega)
    have hVst : ∀ {u w : Tm}, VQ d u → VQ d w → ∀ s, nameB s = true → d ≠ 0 → VQ (d + 1) (.mk 3 0 s [u, w]) := fun {u w} h1 h2 s hs h0 => by
      unfold VQ at h1 h2 ⊢
      rw [Nat.max_eq_left (by omega)] at h1 h2 ⊢
      have hp := sz3_pos d
      refine ⟨struct_shape hs (by simp) (by simp [h1.1, h2.1]), ?_⟩
      have g1 := h1.2
      have g2 := h2.2
      simp only [Tm.size, sizes, sz3]
      omega
    rw [e1]
    by_cases hd2 : d = 0
    · subst hd2
      simp -implicitDefEqProofs [ac36, hf0, go_sem, -List.set_cons_succ, -List.set_cons_zero]
      refine call_drawE m1 hc (by omega) (by omega) hi (by simp [Ob.re, C.re]) (fun r => TmP.re) (hf0 _) ?_
      rintro _ p1 ⟨t, rfl, ht, hV⟩ h1 h2
      simp -implicitDefEqProofs [hf0, row_len, take_row, pure_d, re_d, thaw_d, fits_map, go_sem, -List.set_cons_succ, -List.set_cons_zero]
      exact fin t p1 ht hV (by omega) (by omega)
    · have hge : ¬ ((d : Int) + 1 < 2) := by omega
      have hsub : inR .i64 ((d : Int) + 1 - 1) := small_i64 (by omega) (by omega)
      have esub : (d : Int) + 1 - 1 = d := by omega
      have hdi : inR .i64 (d : Int) := small_i64 (by omega) (by omega)
      have hNN : nD (d + 1) = 6 * 4 * (4 ^ d : Nat) + 20 ∧ nD d = 6 * (4 ^ d : Nat) + 20 ∧ (4 : Int) ≤ (4 ^ d : Nat) := by
        have : 4 ^ 1 ≤ 4 ^ d := Nat.pow_le_pow_right (by omega) (by omega)
        unfold nD
        rw [hpow]
        omega
      simp -implicitDefEqProofs [ac36, hge, hf0, go_sem, -List.set_cons_succ, -List.set_cons_zero]
      refine call_drawE (pick_draws 3 (by omega)) hc (by omega) (by omega) hi (by simp [Ob.re, C.re]) (fun r => IntIn.re) (hf0 _) ?_
      rintro _ p1 ⟨k, rfl, k1, k2⟩ h1 h2
      simp -implicitDefEqProofs [hf0, hsub, esub, hdi, go_sem, -List.set_cons_succ, -List.set_cons_zero]
      refine ⟨fun _ => ?_, fun _ => ?_⟩
      · refine call_drawE m2 hc (by omega) (by omega) hi (by simp [Ob.re, C.re]) (fun r => TmP.re) (hf0 _) ?_
        rintro _ p2 ⟨t, rfl, ht, hV⟩ h3 h5
        simp -implicitDefEqProofs [hf0, row_len, take_row, pure_d, re_d, thaw_d, fits_map, go_sem, -List.set_cons_succ, -List.set_cons_zero]
        exact fin t p2 ht hV (by omega) (by omega)
      · refine call_drawE (of_draws [[43], [45], [42], [105, 115], [109, 111, 100], [61], [47, 47], [61, 60]] (by decide)) hc (by omega) (by omega) hi (by simp [Ob.re, C.re]) (fun r ⟨n, _, hn⟩ => by subst hn; rfl) (hf0 _) ?_
        rintro _ p2 ⟨s, hs, rfl⟩ h3 h5
        have hsn : nameB s = true := by simp at hs; rcases hs with rfl | rfl | rfl | rfl | rfl | rfl | rfl | rfl <;> decide
        have hsl : s.length ≤ 3 := by simp at hs; rcases hs with rfl | rfl | rfl | rfl | rfl | rfl | rfl | rfl <;> decide
        simp -implicitDefEqProofs [hf0, hsub, esub, hdi, go_sem, -List.set_cons_succ, -List.set_cons_zero]
        refine call_drawE ih hc (by omega) (by omega) hi (by simp [Ob.re, C.re]) (fun r => TmP.re) (hf0 _) ?_
        rintro _ p3 ⟨u, rfl, hu, huV⟩ h6 h7
        simp -implicitDefEqProofs [hf0, hsub, esub, hdi, row_len, take_row, pure_d, re_d, go_sem, -List.set_cons_succ, -List.set_cons_zero]
        refine call_drawE ih hc (by omega) (by omega) hi (by simp [Ob.re, C.re]) (fun r => TmP.re) (hf0 _) ?_
        rintro _ p4 ⟨w, rfl, hw, hwV⟩ h8 h9
        have hst := struct_calls s [u, w] (by simp)
        simp only [List.map_cons, List.map_nil] at hst
        simp -implicitDefEqProofs [hf0, row_len, take_row, pure_d, re_d, toDs_map, go_sem, -List.set_cons_succ, -List.set_cons_zero]
        refine qcall_pure hst (hf1 _) (by simp [A.re, re_d]) ?_
        simp -implicitDefEqProofs [hf0, row_len, take_row, pure_d, re_d, thaw_d, fits_map, go_sem, -List.set_cons_succ, -List.set_cons_zero]
        exact fin (.mk 3 0 s [u, w]) p4 (.mk (by decide) (by decide) (by omega) (by simp) (by simp [hu, hw])) (hVst huV hwV s hsn hd2) (by omega) (by omega)
/-- a drawn text -/
theorem drawRt_calls (c : List UInt8) (hc : c.length ≤ 1048576) (H : Heap) : ACalls Tryz.prog 19 [.c (.d (.sl (bytesRows c)))] H (fun r H' => H' = H ∧ StrR 100010 r) := by
  refine acalls Tryz.func19 (by kernel_rfl) ac19_ok fun hf => ?_
  simp -implicitDefEqProofs [ac19, go_sem, -List.set_cons_succ, -List.set_cons_zero]
  refine (open_calls c hc _).mono fun r H' ⟨h1, c', hc', h2⟩ => ⟨H, [Rd c' 0], .c (.ptr (.l 0) 0), by rw [h2]; simp [Rd, Ob.re, C.re], rfl, by simp, hf, by rw [h1]; simp [A.re, C.re, Ref.re], ?_⟩
  simp -implicitDefEqProofs [go_sem, -List.set_cons_succ, -List.set_cons_zero]
  refine call_drawL (j := 0) (num_draws [3, 2, 4, 1] (by decide)) hc' (by omega) (by omega) rfl (by simp [Rd, Ob.re, C.re]) (fun r ⟨n, _, hn⟩ => by subst hn; rfl) hf ?_
  rintro _ p1 ⟨n, hn, rfl⟩ h1 h2
  obtain ⟨d, rfl, hd⟩ : ∃ d : Nat, n = (d : Int) ∧ d ≤ 4 := ⟨n.toNat, by simp at hn; omega, by simp at hn; omega⟩
  have hnd := nD_le (d := d) (by omega)
  simp -implicitDefEqProofs [go_sem, -List.set_cons_succ, -List.set_cons_zero]
  refine call_drawL (j := 0) (l2DrawQ d (by omega)) hc' (by omega) (by omega) rfl (by simp [Rd, Ob.re, C.re]) (fun r => TmP.re) hf ?_
  rintro _ p2 ⟨t, rfl, ht, hV⟩ h3 h4
  have hV4 : VW 4 t := VW.up hV (by omega)
  have hs121 : t.size ≤ 121 := hV4.2
  have hok : t.ok := ⟨ht, shape_good t 5 hV4.1, by omega⟩
  have hwl := hok.len.1
  simp -implicitDefEqProofs [row_len, take_row, pure_d, re_d, go_sem, -List.set_cons_succ, -List.set_cons_zero]
  refine qcall_pure (text_calls t.size t (Nat.le_refl _) hok) hf rfl ?_
  simp -implicitDefEqProofs [go_sem, -List.set_cons_succ, -List.set_cons_zero]
  refine call_drawL (j := 0) (bend_draws t.wr (by omega) [[], [40], [41], [43], [65], [49], [32], [45], [105, 115]] (by decide)) hc' (by omega) (by omega) rfl (by simp [Rd, Ob.re, C.re]) (fun r => StrR.re) hf ?_
  rintro _ p3 ⟨u, rfl, hu⟩ h5 h6
  simp -implicitDefEqProofs [hf, go_sem, -List.set_cons_succ, -List.set_cons_zero]
  exact ⟨u, rfl, by omega⟩
end Go.Proofs.YtgfmlifkhpjplaaGreatDoor

/-
  TermSame of the program.
  Conditions: none.
-/
open Go Go.AM Go.Proofs
namespace Go.Proofs.YtgfmlifkhpjplaaGreatDoor
open Go.ChangeShapes Go.WideShapes Go.ChangeAt Go.RowKit
set_option linter.unusedVariables false
set_option linter.unusedSimpArgs false
set_option maxRecDepth 100000
-- 18 loop.example/prologserver/impl.TermSame params 2 ntmps 31
def ac18 : Cd := .seq (.region [⟨(some 2),.box (.t 0),none⟩,
 ⟨(some 3),.box (.t 1),none⟩,
 ⟨(some 4),.mv (.k (.c (.d (.bool false)))),none⟩] [0,1,4])
 (.seq (.region [⟨(some 5),.fieldAddr 0 (.t 2),none⟩,
 ⟨(some 6),.load none (.t 5),none⟩,
 ⟨(some 7),.fieldAddr 0 (.t 3),none⟩,
 ⟨(some 8),.load none (.t 7),none⟩,
 ⟨(some 9),.bin .eql (.t 6) (.t 8),none⟩,
 ⟨(some 10),.mv (.t 9),none⟩,
 ⟨(some 11),.fieldAddr 1 (.t 2),some (10,true)⟩,
 ⟨(some 12),.load none (.t 11),some (10,true)⟩,
 ⟨(some 13),.fieldAddr 1 (.t 3),some (10,true)⟩,
 ⟨(some 14),.load none (.t 13),some (10,true)⟩,
 ⟨(some 15),.bin .eql (.t 12) (.t 14),some (10,true)⟩,
 ⟨(some 16),.pick (.t 10) (.t 15) (.k (.c (.d (.bool false)))),none⟩,
 ⟨(some 17),.mv (.t 16),none⟩,
 ⟨(some 18),.fieldAddr 2 (.t 2),some (17,true)⟩,
 ⟨(some 19),.load none (.t 18),some (17,true)⟩,
 ⟨(some 20),.fieldAddr 2 (.t 3),some (17,true)⟩,
 ⟨(some 21),.load none (.t 20),some (17,true)⟩,
 ⟨(some 22),.bin .eql (.t 19) (.t 21),some (17,true)⟩,
 ⟨(some 23),.pick (.t 17) (.t 22) (.k (.c (.d (.bool false)))),none⟩,
 ⟨(some 24),.mv (.t 23),none⟩,
 ⟨(some 25),.fieldAddr 3 (.t 2),some (24,true)⟩,
 ⟨(some 26),.load none (.t 25),some (24,true)⟩,
 ⟨(some 27),.fieldAddr 3 (.t 3),some (24,true)⟩,
 ⟨(some 28),.load none (.t 27),some (24,true)⟩,
 ⟨(some 29),.qcall 41 [(.t 26),(.t 28),(.k (.c (.fn 18 [])))],some (24,true)⟩,
 ⟨(some 30),.pick (.t 24) (.t 29) (.k (.c (.d (.bool false)))),none⟩,
 ⟨(some 4),.mv (.t 30),none⟩] [2,3,5,6,7,8,9,10,11,12,13,14,15,16,17,18,19,20,21,22,23,24,25,26,27,28,29,30])
 (.ret))
theorem ac18_ok : cFunc Tryz.prog [1000041] [(0,[0,1,4],[]),(1,[2,3,5,6,7,8,9,10,11,12,13,14,15,16,17,18,19,20,21,22,23,24,25,26,27,28,29,30],[])] Tryz.f18 = some (ac18,[.tmp 4],31) := by kernel_rfl
-- 41 slices.EqualFunc[[]loop.example/prologserver/impl.Term,[]loop.example/prologserver/impl.Term,loop.example/prologserver/impl.Term,loop.example/prologserver/impl.Term] params 3 ntmps 32
-- loop head live: [1,2,15,16,17]
def ac41 : Cd := .seq (.region [⟨(some 6),.mv (.k (.c (.d (.bool false)))),none⟩] [6])
 (.seq (.seq (.region [⟨(some 10),.mv (.t 0),none⟩,
 ⟨(some 11),.len 1 (.t 10),none⟩,
 ⟨(some 12),.mv (.t 1),none⟩,
 ⟨(some 13),.len 1 (.t 12),none⟩,
 ⟨(some 14),.bin .neq (.t 11) (.t 13),none⟩] [10,11,12,13])
 (.cond (.t 14)
 (.seq (.region [⟨(some 6),.mv (.k (.c (.d (.bool false)))),none⟩] [0,1,2,14])
 (.ret))
 (.skip)))
 (.seq (.seq (.region [⟨(some 15),.mv (.t 0),none⟩,
 ⟨(some 16),.len 1 (.t 15),none⟩,
 ⟨(some 17),.mv (.k (.c (.d (.int .i64 0)))),none⟩] [0,6,14])
 (.block 0 (.loop (.seq (.region [⟨(some 18),.bin .lss (.t 17) (.t 16),none⟩] [])
 (.seq (.cond (.t 18)
 (.skip)
 (.exit 0))
 (.seq (.block 1 (.seq (.region [⟨(some 19),.mv (.t 17),none⟩,
 ⟨(some 20),.indexAddr 4 (.t 15) (.t 17),none⟩,
 ⟨(some 21),.load (some 4) (.t 20),none⟩,
 ⟨(some 8),.alloc [(.d (.int .i64 0)),(.d (.int .i64 0)),(.d (.str [])),(.full [])],none⟩,
 ⟨(some 7),.mv (.t 19),none⟩,
 ⟨none,.store 4 (.t 8) (.t 21),none⟩] [18,19,20,21])
 (.seq (.region [⟨(some 22),.mv (.t 1),none⟩,
 ⟨(some 23),.mv (.t 7),none⟩,
 ⟨(some 24),.indexAddr 4 (.t 22) (.t 23),none⟩,
 ⟨(some 25),.load (some 4) (.t 24),none⟩,
 ⟨(some 9),.alloc [(.d (.int .i64 0)),(.d (.int .i64 0)),(.d (.str [])),(.full [])],none⟩,
 ⟨none,.store 4 (.t 9) (.t 25),none⟩] [7,22,23,24,25])
 (.seq (.region [⟨(some 26),.mv (.t 2),none⟩,
 ⟨(some 27),.load (some 4) (.t 8),none⟩,
 ⟨(some 28),.load (some 4) (.t 9),none⟩,
 ⟨(some 29),.callv (.t 26) [(.t 27),(.t 28)],none⟩,
 ⟨(some 30),.un .not (.t 29),none⟩] [8,9,26,27,28,29])
 (.cond (.t 30)
 (.seq (.region [⟨(some 6),.mv (.k (.c (.d (.bool false)))),none⟩] [1,2,15,16,17,30])
 (.ret))
 (.skip))))))
 (.region [⟨(some 31),.bin .add (.t 17) (.k (.c (.d (.int .i64 1)))),none⟩,
 ⟨(some 17),.mv (.t 31),none⟩] [6,30,31])))))))
 (.seq (.region [⟨(some 6),.mv (.k (.c (.d (.bool true)))),none⟩] [])
 (.ret))))
theorem ac41_ok : cFunc Tryz.prog [] [(0,[6],[]),(1,[10,11,12,13],[]),(2,[0,1,2,14],[]),(3,[0,6,14],[]),(4,[],[]),(5,[18,19,20,21],[]),(6,[7,22,23,24,25],[]),(7,[8,9,26,27,28,29],[]),(8,[1,2,15,16,17,30],[]),(9,[6,30,31],[]),(10,[],[])] Tryz.f41 = some (ac41,[.tmp 6],32) := by kernel_rfl
theorem eqFunc_of (f : FuncId) (l r : List Tm) (hl : l.length ≤ 1048576) (hr : r.length ≤ 1048576) (h : ∀ x ∈ l, ∀ y ∈ r, Same2 f x y) (H : Heap) :
    ACalls Tryz.prog 41 [.c (.d (.sl (l.map Tm.row))), .c (.d (.sl (r.map Tm.row))), .c (.fn f [])] H (fun r' H' => H' = H ∧ r' = .c (.d (.bool (decide (l = r))))) := by
  refine acalls Tryz.func41 (by kernel_rfl) ac41_ok fun hf => ?_
  have hli : inR .i64 (l.length : Int) := small_i64 (by omega) (by omega)
  have hri : inR .i64 (r.length : Int) := small_i64 (by omega) (by omega)
  simp -implicitDefEqProofs [ac41, hli, hri, go_sem, -List.set_cons_succ, -List.set_cons_zero]
  refine ⟨fun h1 e => by subst e; simp at h1, fun e4 => ?_⟩
  have e4 : l.length = r.length := by omega
  refine loop_set (σ := Nat) (fun i => [(17, .c (.d (.int .i64 i)))]) (fun _ => H) (fun _ => []) (fun i => i ≤ l.length ∧ l.take i = r.take i) (fun i => l.length - i) 0 rfl ⟨Nat.zero_le _, rfl⟩ ?_
  rintro i ⟨hi, htk⟩
  simp -implicitDefEqProofs [setAll, hli, go_sem, -List.set_cons_succ, -List.set_cons_zero]
  refine ⟨fun hlt => ?_, fun hge => by rw [List.take_of_length_le hge, List.take_of_length_le (by omega)] at htk; exact htk⟩
  have hadd : inR .i64 ((i : Int) + 1) := small_i64 (by omega) (by omega)
  refine row_of hlt (row_len _) ?_
  simp -implicitDefEqProofs [row_len, take_row, fits_map, hf, go_sem, -List.set_cons_succ, -List.set_cons_zero]
  refine row_of (by omega) (row_len _) ?_
  simp -implicitDefEqProofs [row_len, take_row, fits_map, hf, go_sem, -List.set_cons_succ, -List.set_cons_zero]
  simp -implicitDefEqProofs [pure_d, re_d, go_sem, -List.set_cons_succ, -List.set_cons_zero]
  refine call_same (h l[i] (List.getElem_mem hlt) (r[i]'(by omega)) (List.getElem_mem (by omega)) _) (by simp [Ob.re, C.re, re_d]) rfl hf ?_
  simp -implicitDefEqProofs [hadd, go_sem, -List.set_cons_succ, -List.set_cons_zero]
  refine ⟨fun hne e => ?_, fun he => ?_⟩
  · subst e; exact hne rfl
  · exact loop_less (i + 1) (St.le_cut [_, _] (by simp [setAll, Sl.le, A.le_refl_iff, A.le_u_iff, As.lo, A.lo, C.lo, Ref.lo, Cs.lo, Obs.lo, Ob.lo, setAll, and_true, true_and, List.length_nil, List.length_cons]) (by simp [Sl.le, A.le_refl_iff, A.le_u_iff, As.lo, A.lo, C.lo, Ref.lo, Cs.lo, Obs.lo, Ob.lo, setAll, and_true, true_and, List.length_nil, List.length_cons]) rfl (by simp [Sl.le, A.le_refl_iff, A.le_u_iff, As.lo, A.lo, C.lo, Ref.lo, Cs.lo, Obs.lo, Ob.lo, setAll, and_true, true_and, List.length_nil, List.length_cons])) ⟨hlt, take_snoc hlt (by omega) htk he⟩ (by show l.length - (i + 1) < l.length - i; omega)
theorem sameImpl_calls : ∀ a : Tm, a.fits → ∀ b : Tm, b.fits → Same2 18 a b := by
  refine Tm.ind fun k n s l ih hfits b hb H => ?_
  obtain ⟨k', n', s', r⟩ := b
  obtain ⟨_, _, _, hl, hkids⟩ := hfits
  obtain ⟨_, _, _, hr, hkids'⟩ := hb
  refine acalls Tryz.func18 (by kernel_rfl) ac18_ok fun hf => ?_
  simp -implicitDefEqProofs [ac18, row_mk, go_sem, -List.set_cons_succ, -List.set_cons_zero]
  refine ⟨fun e1 e2 e3 => ⟨⟨⟨e1, e2⟩, e3⟩, ?_⟩, fun h => ?_⟩
  · subst e1 e2 e3
    refine qcall_pure (eqFunc_of 18 l r hl hr fun x hx y hy => ih x hx (hkids x hx) y (hkids' y hy)) hf rfl ?_
    simp -implicitDefEqProofs [go_sem, -List.set_cons_succ, -List.set_cons_zero]
  · exact fun e1 e2 e3 => absurd e3 (h e1 e2)
end Go.Proofs.YtgfmlifkhpjplaaGreatDoor

/-
  Terms that are handed to a law.
  Conditions: none.
-/
open Go Go.AM Go.Proofs
namespace Go.Proofs.YtgfmlifkhpjplaaGreatDoor
open Go.ChangeShapes Go.WideShapes Go.ChangeAt Go.RowKit
set_option linter.unusedVariables false
set_option linter.unusedSimpArgs false
set_option maxRecDepth 100000
end Go.Proofs.YtgfmlifkhpjplaaGreatDoor
