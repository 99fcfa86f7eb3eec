/-
  Contracts of functions that the law reaches, and plain lemmas: several texts in one.
  Conditions: none.
-/
import Derived.Test.YtnljciooabmogaaGreatDoorBundA
import Derived.Test.YtnljciooabmogaaGreatDoorBundC
import Derived.Test.YtnljciooabmogaaGreatDoorBundB
import Derived.Shelf.Strings.OnBuilder
import Derived.WalkKit
import Derived.Test.YtnljciooabmogaaGreatDoorAbsN
open Go Go.AM Go.Proofs
attribute [local go_sem] kw ew sw tw a_ b_ c_ A.ok A.val d_ e_ f_ g_ h_ i_ j_ k_ l_ m_ unA unD n_ AOp.total o_ p_ q_ r_ s_ t_ u_ v_ A.thaw C.thaw A.fits As.fits C.fits evs oks w_ A.pure C.pure A.re C.re x_ y_ cut A.cells C.rows? z_ A_ B_ C_ a0_ b0_ D_ Ob.re Cs.fits E_ F_ G_ H_ I_ J_ K_ L_ M_ N_ O_ C.toD P_ Q_ R_ S_ T_ Obs.fits U_ eqD V_ W_ X_ Y_ Z_
/-
  Texts, drawn and bent.
  Conditions: none.
-/
open Go Go.AM Go.Proofs
namespace Go.Proofs.YtnljciooabmogaaGreatDoor
open Go.ChangeShapes Go.WideShapes Go.ChangeAt Go.RowKit
set_option linter.unusedVariables false
set_option linter.unusedSimpArgs false
set_option maxRecDepth 100000
/-- a text that is drawn -/
def StrR (n : Nat) (r : A) : Prop := ∃ s : List UInt8, r = .c (.d (.str s)) ∧ s.length ≤ n
theorem StrR.re {n m : Nat} {r : A} (h : StrR n r) : A.re m r = r := by obtain ⟨s, rfl, _⟩ := h; simp [A.re, C.re]
end Go.Proofs.YtnljciooabmogaaGreatDoor

/-
  Texts of instructions are short.
  Conditions: none.
-/
open Go Go.AM Go.Proofs
namespace Go.Proofs.YtnljciooabmogaaGreatDoor
set_option linter.unusedVariables false
set_option linter.unusedSimpArgs false
set_option maxRecDepth 100000
theorem fmtL (x : Ins) : x.fmt.length ≤ 60 := by
  obtain ⟨op, a, b, t⟩ := x
  unfold Ins.fmt
  split
  · rename_i h
    simp only [Ins.okB, Bool.and_eq_true, Bool.or_eq_true, decide_eq_true_eq, beq_iff_eq] at h
    obtain ⟨⟨⟨⟨⟨h1, h2⟩, h3⟩, h4⟩, h5⟩, h6⟩ := h
    have w := opWord_len op
    have ia := (itoa_short h2.1 h2.2).2
    have ib := (itoa_short (n := b) (by omega) h3.2).2
    cases hA : opIA op <;> cases hB : opB op <;> cases hN : opN op
    all_goals first
      | (rw [hN] at h6; have t := (name_len (by simpa using h6)).2; simp; omega)
      | (simp; omega)
  · simp
theorem fmtL_ne {x : Ins} (h : x.okB = true) : x.fmt ≠ [] := by
  obtain ⟨op, a, b, t⟩ := x
  have h1 : opOk op = true := by
    simp only [Ins.okB, Bool.and_eq_true] at h
    exact h.1.1.1.1.1
  have : opWord op ≠ [] := by
    simp only [opOk, Bool.and_eq_true, decide_eq_true_eq] at h1
    rcases op_cases op with h | h | h | h | h | h | h | h | h | h | h | h | h | h | h
    all_goals first
      | (rw [h]; decide)
      | omega
  unfold Ins.fmt
  rw [if_pos h]
  simp [this]
/-- the text of code -/
def fcS (L : List Ins) : List UInt8 := if 2000 < L.length ∨ (L.any fun x => !x.okB) = true then [] else L.flatMap fun x => x.fmt ++ [10]
def fcO (L : List Ins) : List UInt8 := L.flatMap fun x => x.fmt ++ [10]
theorem fcO_len : ∀ L : List Ins, (fcO L).length ≤ 61 * L.length
  | [] => by simp [fcO]
  | x :: L => by
    have h1 := fmtL x
    have h2 := fcO_len L
    unfold fcO at h2 ⊢
    simp only [List.flatMap_cons, List.length_append, List.length_cons, List.length_nil]
    omega
theorem fcO_succ {L : List Ins} {i : Nat} (h : i < L.length) : fcO (L.take (i + 1)) = fcO (L.take i) ++ L[i].fmt ++ [10] := by
  unfold fcO
  rw [List.take_succ_eq_append_getElem h, List.flatMap_append]
  simp
theorem fcS_all {L : List Ins} (h : L.length ≤ 2000) (ha : ∀ x ∈ L, x.okB = true) : fcS L = fcO L := by
  unfold fcS
  rw [if_neg]
  · rfl
  · rintro (h1 | h1)
    · omega
    · obtain ⟨x, hx, hb⟩ := List.any_eq_true.1 h1
      rw [ha x hx] at hb
      cases hb
theorem fcS_big {L : List Ins} (h : 2000 < L.length) : fcS L = [] := by unfold fcS; rw [if_pos (.inl h)]
theorem fcS_no {L : List Ins} {x : Ins} (h : x ∈ L) (hb : x.okB = false) : fcS L = [] := by
  unfold fcS
  rw [if_pos (.inr (List.any_eq_true.2 ⟨x, h, by rw [hb]; rfl⟩))]
end Go.Proofs.YtnljciooabmogaaGreatDoor

/-
  Codes that are drawn.
  Conditions: none.
-/
open Go Go.AM Go.Proofs
namespace Go.Proofs.YtnljciooabmogaaGreatDoor
open Go.ChangeShapes Go.WideShapes Go.ChangeAt Go.RowKit
set_option linter.unusedVariables false
set_option linter.unusedSimpArgs false
set_option maxRecDepth 100000
-- 8 loop.example/prologserver/spec.l8Mutate params 2 ntmps 67
def ac8 : Cd := .seq (.region [⟨(some 4),.mv (.k (.c (.full []))),none⟩] [4])
 (.seq (.region [⟨(some 7),.buildSlice 4 0 [(.int .i64 0),(.int .i64 0),(.int .i64 0),(.str [])] [],none⟩,
 ⟨(some 8),.mv (.t 1),none⟩,
 ⟨(some 9),.appendF 4 (.t 7) (.t 8),none⟩,
 ⟨(some 5),.mv (.t 9),none⟩] [1,7,8,9])
 (.seq (.seq (.region [⟨(some 10),.mv (.t 5),none⟩,
 ⟨(some 11),.len 1 (.t 10),none⟩,
 ⟨(some 12),.bin .eql (.t 11) (.k (.c (.d (.int .i64 0)))),none⟩,
 ⟨(some 13),.mv (.t 12),none⟩,
 ⟨(some 14),.mv (.t 0),some (13,false)⟩,
 ⟨(some 15),.call false 16 [(.t 14),(.k (.c (.d (.int .i64 2))))],some (13,false)⟩,
 ⟨(some 16),.bin .eql (.t 15) (.k (.c (.d (.int .i64 0)))),some (13,false)⟩,
 ⟨(some 17),.pick (.t 13) (.k (.c (.d (.bool true)))) (.t 16),none⟩] [10,11,12,13,14,15,16])
 (.cond (.t 17)
 (.seq (.region [⟨(some 18),.mv (.t 5),none⟩,
 ⟨(some 4),.mv (.t 18),none⟩] [0,5,17,18])
 (.ret))
 (.skip)))
 (.seq (.region [⟨(some 19),.mv (.t 0),none⟩,
 ⟨(some 20),.mv (.t 5),none⟩,
 ⟨(some 21),.len 1 (.t 20),none⟩,
 ⟨(some 22),.call false 16 [(.t 19),(.t 21)],none⟩,
 ⟨(some 6),.mv (.t 22),none⟩] [4,17,19,20,21,22])
 (.seq (.seq (.region [⟨(some 23),.mv (.t 0),none⟩,
 ⟨(some 24),.call false 16 [(.t 23),(.k (.c (.d (.int .i64 8))))],none⟩] [23])
 (.block 0 (.seq (.region [⟨(some 26),.bin .eql (.t 24) (.k (.c (.d (.int .i64 0)))),none⟩,
 ⟨(some 25),.mv (.t 26),none⟩] [26])
 (.cond (.t 25)
 (.region [⟨(some 27),.mv (.t 5),none⟩,
 ⟨(some 28),.mv (.t 6),none⟩,
 ⟨(some 29),.mv (.t 0),none⟩,
 ⟨(some 30),.buildSlice 1 5 [(.int .i64 0)] [(0,(.k (.c (.d (.int .i64 0))))),(1,(.k (.c (.d (.int .i64 15))))),(2,(.k (.c (.d (.int .i64 1))))),(3,(.k (.c (.d (.int .i64 5))))),(4,(.k (.c (.d (.int .i64 8)))))],none⟩,
 ⟨(some 31),.call false 17 [(.t 29),(.t 30)],none⟩,
 ⟨(some 32),.indexAddr 4 (.t 27) (.t 28),none⟩,
 ⟨(some 33),.fieldAddr 0 (.t 32),none⟩,
 ⟨none,.store 1 (.t 33) (.t 31),none⟩] [0,6,24,25,27,28,29,30,31,32,33])
 (.seq (.region [⟨(some 35),.bin .eql (.t 24) (.k (.c (.d (.int .i64 1)))),none⟩,
 ⟨(some 34),.mv (.t 35),none⟩] [25,35])
 (.cond (.t 34)
 (.region [⟨(some 36),.mv (.t 5),none⟩,
 ⟨(some 37),.mv (.t 6),none⟩,
 ⟨(some 38),.mv (.t 0),none⟩,
 ⟨(some 39),.buildSlice 1 4 [(.int .i64 0)] [(0,(.k (.c (.d (.int .i64 0))))),(1,(.k (.c (.d (.int .i64 4))))),(2,(.k (.c (.d (.int .i64 (-1)))))),(3,(.k (.c (.d (.int .i64 1000)))))],none⟩,
 ⟨(some 40),.call false 17 [(.t 38),(.t 39)],none⟩,
 ⟨(some 41),.indexAddr 4 (.t 36) (.t 37),none⟩,
 ⟨(some 42),.fieldAddr 1 (.t 41),none⟩,
 ⟨none,.store 1 (.t 42) (.t 40),none⟩] [0,6,24,34,36,37,38,39,40,41,42])
 (.seq (.region [⟨(some 44),.bin .eql (.t 24) (.k (.c (.d (.int .i64 2)))),none⟩,
 ⟨(some 43),.mv (.t 44),none⟩] [34,44])
 (.cond (.t 43)
 (.region [⟨(some 45),.mv (.t 5),none⟩,
 ⟨(some 46),.mv (.t 6),none⟩,
 ⟨(some 47),.mv (.t 0),none⟩,
 ⟨(some 48),.buildSlice 1 4 [(.int .i64 0)] [(0,(.k (.c (.d (.int .i64 0))))),(1,(.k (.c (.d (.int .i64 5))))),(2,(.k (.c (.d (.int .i64 (-1)))))),(3,(.k (.c (.d (.int .i64 1000)))))],none⟩,
 ⟨(some 49),.call false 17 [(.t 47),(.t 48)],none⟩,
 ⟨(some 50),.indexAddr 4 (.t 45) (.t 46),none⟩,
 ⟨(some 51),.fieldAddr 2 (.t 50),none⟩,
 ⟨none,.store 1 (.t 51) (.t 49),none⟩] [0,6,24,43,45,46,47,48,49,50,51])
 (.seq (.region [⟨(some 53),.bin .eql (.t 24) (.k (.c (.d (.int .i64 3)))),none⟩,
 ⟨(some 52),.mv (.t 53),none⟩] [43,53])
 (.cond (.t 52)
 (.region [⟨(some 54),.mv (.t 5),none⟩,
 ⟨(some 55),.mv (.t 6),none⟩,
 ⟨(some 56),.mv (.t 0),none⟩,
 ⟨(some 57),.buildSlice 1 3 [(.str [])] [(0,(.k (.c (.d (.str []))))),(1,(.k (.c (.d (.str [102,111,111]))))),(2,(.k (.c (.d (.str [88])))))],none⟩,
 ⟨(some 58),.call false 18 [(.t 56),(.t 57)],none⟩,
 ⟨(some 59),.indexAddr 4 (.t 54) (.t 55),none⟩,
 ⟨(some 60),.fieldAddr 3 (.t 59),none⟩,
 ⟨none,.store 1 (.t 60) (.t 58),none⟩] [0,6,24,52,54,55,56,57,58,59,60])
 (.seq (.region [⟨(some 62),.bin .eql (.t 24) (.k (.c (.d (.int .i64 4)))),none⟩,
 ⟨(some 61),.mv (.t 62),none⟩] [0,24,52,62])
 (.cond (.t 61)
 (.weak (.region [⟨(some 63),.mv (.t 5),none⟩,
 ⟨(some 64),.mv (.t 6),none⟩,
 ⟨(some 65),.slice 4 (.t 63) none (some (.t 64)) none,none⟩,
 ⟨(some 5),.mv (.t 65),none⟩] [6,61,63,64,65]))
 (.skip)))))))))))))
 (.seq (.region [⟨(some 66),.mv (.t 5),none⟩,
 ⟨(some 4),.mv (.t 66),none⟩] [5,6,61,66])
 (.ret))))))
theorem ac8_ok : cFunc Tryz.prog [3000007,4000015] [(0,[4],[]),(1,[1,7,8,9],[]),(2,[10,11,12,13,14,15,16],[]),(3,[0,5,17,18],[]),(4,[4,17,19,20,21,22],[]),(5,[23],[]),(6,[26],[]),(7,[0,6,24,25,27,28,29,30,31,32,33],[]),(8,[25,35],[]),(9,[0,6,24,34,36,37,38,39,40,41,42],[]),(10,[34,44],[]),(11,[0,6,24,43,45,46,47,48,49,50,51],[]),(12,[43,53],[]),(13,[0,6,24,52,54,55,56,57,58,59,60],[]),(14,[0,24,52,62],[]),(15,[6,61,63,64,65],[]),(16,[5,6,61,66],[])] Tryz.f8 = some (ac8,[.tmp 4],67) := by kernel_rfl
-- 4 loop.example/prologserver/spec.DrawFormatCode params 1 ntmps 11
def ac4 : Cd := .seq (.region [⟨(some 2),.mv (.k (.c (.full []))),none⟩] [2])
 (.seq (.region [⟨(some 4),.mv (.t 0),none⟩,
 ⟨(some 5),.call false 7 [(.t 4)],none⟩,
 ⟨(some 3),.mv (.t 5),none⟩] [0,4,5])
 (.seq (.region [⟨(some 6),.mv (.t 3),none⟩,
 ⟨(some 7),.mv (.t 3),none⟩,
 ⟨(some 8),.call false 10 [(.t 7)],none⟩,
 ⟨(some 9),.qcall 9 [(.t 8)],none⟩,
 ⟨(some 10),.call false 8 [(.t 6),(.t 9)],none⟩,
 ⟨(some 2),.mv (.t 10),none⟩] [3,6,7,8,9,10])
 (.ret)))
theorem ac4_ok : cFunc Tryz.prog [1000009] [(0,[2],[]),(1,[0,4,5],[]),(2,[3,6,7,8,9,10],[])] Tryz.f4 = some (ac4,[.tmp 2],11) := by kernel_rfl
def Ins.fin (x : Ins) : Prop := x.ok ∧ x.text.length ≤ 1048576
def CodeE (r : A) : Prop := ∃ L : List Ins, r = .c (.d (.sl (L.map Ins.row))) ∧ L.length ≤ 1000000 ∧ ∀ x ∈ L, x.fin
theorem CodeE.re {n : Nat} {r : A} (h : CodeE r) : A.re n r = r := by
  obtain ⟨L, rfl, _⟩ := h
  rfl
theorem ins_lenE (x : Ins) : x.row.length = 4 := rfl
theorem ins_allE (L : List Ins) : allLen 4 (L.map Ins.row) := allLen_map ins_lenE
theorem set_rowE {L : List Ins} {k : Nat} (x : Ins) : (L.map Ins.row).set k x.row = (L.set k x).map Ins.row := by rw [List.map_set]
theorem set_okE {L : List Ins} {k : Nat} {x : Ins} (hL : ∀ y ∈ L, y.fin) (hx : x.fin) : ∀ y ∈ L.set k x, y.fin := fun y hy => by
  rcases List.mem_or_eq_of_mem_set hy with h | rfl
  · exact hL y h
  · exact hx
set_option maxHeartbeats 3200000 in
theorem mutE_draws (L : List Ins) (hL : L.length ≤ 1000000) (hx : ∀ x ∈ L, x.fin) : Draws 8 [.c (.d (.sl (L.map Ins.row)))] 4 CodeE := fun c p H i hc hp hp1 hi => by
  refine acalls Tryz.func8 (by kernel_rfl) ac8_ok fun hf => ?_
  simp only [List.length_set] at hf
  have hf0 : ∀ q, Obs.fits H.length 0 (H.set i (Rd c q)) := fun q => fits_reset (b := Rd c q) hf ⟨trivial, trivial, trivial⟩
  have hLi : inR .i64 (L.length : Int) := small_i64 (by omega) (by omega)
  have hz : inR .i64 0 := small_i64 (by omega) (by omega)
  have done : ∀ (M : List Ins) (q : Int), p ≤ q → q ≤ p + 4 → M.length ≤ 1000000 → (∀ x ∈ M, x.fin) → ∀ r, r = .c (.d (.sl (M.map Ins.row))) → Drew CodeE 4 c p H i r (H.set i (Rd c q)) := fun M q a1 a2 a3 a4 r hr => ⟨⟨M, hr, a3, a4⟩, q, a1, a2, rfl⟩
  cases L with
  | nil =>
    simp -implicitDefEqProofs [ac8, hf0, hz, go_sem, -List.set_cons_succ, -List.set_cons_zero]
    exact done [] p (by omega) (by omega) (by simp) (by simp) _ rfl
  | cons x0 L0 =>
    have hLp : ¬ (x0 :: L0) = [] := by simp
    have hLq : 1 ≤ (x0 :: L0).length := by simp
    generalize x0 :: L0 = L at *
    have hal := ins_allE L
    have hLz : ((L.length : Int) == 0) = false := by simp; omega
    have hLz2 : ¬ (L.length : Int) = 0 := by omega
    simp -implicitDefEqProofs [ac8, hf0, hal, hLi, hLp, hLz, hLz2, go_sem, -List.set_cons_succ, -List.set_cons_zero]
    refine ⟨by unfold maxApp; omega, ?_⟩
    refine call_drawE (pick_draws 2 (by omega)) hc (by omega) (by omega) hi (by simp [Ob.re, C.re]) (fun r => IntIn.re) (hf0 _) ?_
    rintro _ p1 ⟨b, rfl, b0, b1⟩ h1 h2
    simp -implicitDefEqProofs [hf0, hal, hLi, go_sem, -List.set_cons_succ, -List.set_cons_zero]
    refine ⟨fun hb => done L p1 (by omega) (by omega) hL hx _ rfl, fun hb => ?_⟩
    refine call_drawE (pick_draws L.length (by omega)) hc (by omega) (by omega) hi (by simp [Ob.re, C.re]) (fun r => IntIn.re) (hf0 _) ?_
    rintro _ p2 ⟨k, rfl, k0, k1⟩ h3 h4
    simp -implicitDefEqProofs [hf0, hal, hLi, go_sem, -List.set_cons_succ, -List.set_cons_zero]
    refine call_drawE (pick_draws 8 (by omega)) hc (by omega) (by omega) hi (by simp [Ob.re, C.re]) (fun r => IntIn.re) (hf0 _) ?_
    rintro _ p3 ⟨m, rfl, m0, m1⟩ h5 h6
    simp -implicitDefEqProofs [hf0, hal, hLi, go_sem, -List.set_cons_succ, -List.set_cons_zero]
    refine ⟨fun _ => ?_, fun _ => ⟨fun _ => ?_, fun _ => ⟨fun _ => ?_, fun _ => ⟨fun _ => ?_, fun _ => ⟨fun _ => ?_, fun _ => ?_⟩⟩⟩⟩⟩
    · refine call_drawE (num_draws [0, 15, 1, 5, 8] (by decide)) hc (by omega) (by omega) hi (by simp [Ob.re, C.re]) (fun r ⟨n, _, hn⟩ => by subst hn; rfl) (hf0 _) ?_
      rintro _ p4 ⟨x, hx2, rfl⟩ h7 h8
      have hx3 : -1000 ≤ x ∧ x ≤ 1000 := by simp at hx2; omega
      have hx4 : inR .i64 x := small_i64 (by omega) (by omega)
      obtain ⟨y, hye⟩ : ∃ y, L[k.toNat]? = some y := ⟨L[k.toNat]'(by omega), by simp⟩
      have hy : y.fin := hx y (List.mem_of_getElem? hye)
      simp -implicitDefEqProofs [hf0, hal, hye, Ins.row, go_sem, -List.set_cons_succ, -List.set_cons_zero]
      refine ⟨⟨k0, by omega⟩, ?_⟩
      exact done (L.set k.toNat ⟨x, y.a, y.b, y.text⟩) p4 (by omega) (by omega) (by simpa using hL) (set_okE hx ⟨⟨hx4, hy.1.a, hy.1.b, hy.1.text⟩, hy.2⟩) _ (by rw [← set_rowE]; rfl)
    · refine call_drawE (num_draws [0, 4, -1, 1000] (by decide)) hc (by omega) (by omega) hi (by simp [Ob.re, C.re]) (fun r ⟨n, _, hn⟩ => by subst hn; rfl) (hf0 _) ?_
      rintro _ p4 ⟨x, hx2, rfl⟩ h7 h8
      have hx3 : -1000 ≤ x ∧ x ≤ 1000 := by simp at hx2; omega
      have hx4 : inR .i64 x := small_i64 (by omega) (by omega)
      obtain ⟨y, hye⟩ : ∃ y, L[k.toNat]? = some y := ⟨L[k.toNat]'(by omega), by simp⟩
      have hy : y.fin := hx y (List.mem_of_getElem? hye)
      simp -implicitDefEqProofs [hf0, hal, hye, Ins.row, go_sem, -List.set_cons_succ, -List.set_cons_zero]
      refine ⟨⟨k0, by omega⟩, ?_⟩
      exact done (L.set k.toNat ⟨y.op, x, y.b, y.text⟩) p4 (by omega) (by omega) (by simpa using hL) (set_okE hx ⟨⟨hy.1.op, hx4, hy.1.b, hy.1.text⟩, hy.2⟩) _ (by rw [← set_rowE]; rfl)
    · refine call_drawE (num_draws [0, 5, -1, 1000] (by decide)) hc (by omega) (by omega) hi (by simp [Ob.re, C.re]) (fun r ⟨n, _, hn⟩ => by subst hn; rfl) (hf0 _) ?_
      rintro _ p4 ⟨x, hx2, rfl⟩ h7 h8
      have hx3 : -1000 ≤ x ∧ x ≤ 1000 := by simp at hx2; omega
      have hx4 : inR .i64 x := small_i64 (by omega) (by omega)
      obtain ⟨y, hye⟩ : ∃ y, L[k.toNat]? = some y := ⟨L[k.toNat]'(by omega), by simp⟩
      have hy : y.fin := hx y (List.mem_of_getElem? hye)
      simp -implicitDefEqProofs [hf0, hal, hye, Ins.row, go_sem, -List.set_cons_succ, -List.set_cons_zero]
      refine ⟨⟨k0, by omega⟩, ?_⟩
      exact done (L.set k.toNat ⟨y.op, y.a, x, y.text⟩) p4 (by omega) (by omega) (by simpa using hL) (set_okE hx ⟨⟨hy.1.op, hy.1.a, hx4, hy.1.text⟩, hy.2⟩) _ (by rw [← set_rowE]; rfl)
    · refine call_drawE (of_draws [[], [102, 111, 111], [88]] (by decide)) hc (by omega) (by omega) hi (by simp [Ob.re, C.re]) (fun r ⟨n, _, hn⟩ => by subst hn; rfl) (hf0 _) ?_
      rintro _ p4 ⟨x, hx2, rfl⟩ h7 h8
      have hx3 : x.length ≤ 3 := by simp at hx2; rcases hx2 with rfl | rfl | rfl <;> decide
      have hx4 : x.length ≤ reachBytes := by simp only [reachBytes]; omega
      obtain ⟨y, hye⟩ : ∃ y, L[k.toNat]? = some y := ⟨L[k.toNat]'(by omega), by simp⟩
      have hy : y.fin := hx y (List.mem_of_getElem? hye)
      simp -implicitDefEqProofs [hf0, hal, hye, Ins.row, go_sem, -List.set_cons_succ, -List.set_cons_zero]
      refine ⟨⟨k0, by omega⟩, ?_⟩
      exact done (L.set k.toNat ⟨y.op, y.a, y.b, x⟩) p4 (by omega) (by omega) (by simpa using hL) (set_okE hx ⟨⟨hy.1.op, hy.1.a, hy.1.b, hx4⟩, by show x.length ≤ 1048576; omega⟩) _ (by rw [← set_rowE]; rfl)
    · refine weak_le (St.le_thaw (loc := []) 5 rfl (by simp [Sl.le, A.le_refl_iff, A.le_u_iff, As.lo, A.lo, C.lo, Ref.lo, Cs.lo, Obs.lo, Ob.lo, setAll, and_true, true_and, List.length_nil, List.length_cons, hi]) trivial) ?_
      simp -implicitDefEqProofs [hal, hf0, go_sem, -List.set_cons_succ, -List.set_cons_zero]
      refine ⟨⟨k0, by omega⟩, ?_⟩
      exact done (L.take k.toNat) p3 (by omega) (by omega) (by simp; omega) (fun x h => hx x (List.mem_of_mem_take h)) _ (by simp)
    · exact done L p3 (by omega) (by omega) hL hx _ rfl
theorem code_fin {d : Cl} (hd : d.fits) (hv : d.validB = true) : ∃ L : List Ins, codeC d = L.map Ins.row ∧ L ≠ [] ∧ ∀ x ∈ L, x.fin := by
  obtain ⟨g1, g2, g3, g4⟩ := validB_head hv
  obtain ⟨h1, h2, h3⟩ := goalsB_iff g4
  have hk := good_kids (k := d.head.k) (n := d.head.n) (s := d.head.s) (l := d.head.kids) (by cases hc : d.head; rw [hc] at g1; exact g1)
  have hz : sizes d.head.kids ≤ 120 := by cases hc : d.head; rw [hc, Tm.size] at g2; show sizes _ ≤ _; simp only [Tm.kids]; omega
  have hg := goals_sizes d.body (goalsB_all g4).2
  obtain ⟨L, e1, e2⟩ := codeC_slots d hd hk.1
  refine ⟨L, e1, fun hn => ?_, fun x h => ?_⟩
  · rw [hn] at e1
    unfold codeC bodyT Mk.emit at e1
    simp at e1
  · obtain ⟨_, h5, h6, h7⟩ := e2 x h
    obtain ⟨⟨h8, h9⟩, h10⟩ := h5 (by omega)
    exact ⟨⟨small_i64 (by omega) (by omega), h8, h9, by unfold reachBytes; omega⟩, h10⟩
def InsR (r : A) : Prop := ∃ x : Ins, r = .agg (x.row.map .d) ∧ x.fin
theorem InsR.re {n : Nat} {r : A} (h : InsR r) : A.re n r = r := by
  obtain ⟨x, rfl, _⟩ := h
  simp [Ins.row, A.re, C.re]
theorem drawFcE_calls (c : List UInt8) (hc : c.length ≤ 1048576) (H : Heap) : ACalls Tryz.prog 4 [.c (.d (.sl (bytesRows c)))] H (fun r H' => H' = H ∧ CodeE r) := by
  refine acalls Tryz.func4 (by kernel_rfl) ac4_ok fun hf => ?_
  simp -implicitDefEqProofs [ac4, go_sem, -List.set_cons_succ, -List.set_cons_zero]
  refine (open_calls c hc _).mono fun r H' ⟨h1, c', hc', h2⟩ => ⟨H, [Rd c' 0], .c (.ptr (.l 0) 0), by rw [h2]; simp [Rd, Ob.re, C.re], rfl, by simp, hf, by rw [h1]; simp [A.re, C.re, Ref.re], ?_⟩
  simp -implicitDefEqProofs [go_sem, -List.set_cons_succ, -List.set_cons_zero]
  refine call_drawL (j := 0) clause_draws hc' (by omega) (by omega) rfl (by simp [Rd, Ob.re, C.re]) (fun r => ClT.re) hf ?_
  rintro _ p1 ⟨d, rfl, hd, hdl, hv⟩ h3 h4
  obtain ⟨BB, hB, hfit⟩ := codeC_fit d hv
  obtain ⟨L, hL, hne, hok⟩ := code_fin hd hv
  have hcl : (codeC d).length ≤ _ := hfit.code
  have hLl : L.length ≤ 1000000 := by rw [hL] at hcl; simp at hcl; omega
  have cc := l8Clause_calls d hd hv
  rw [hL] at cc
  simp -implicitDefEqProofs [pure_d, re_d, go_sem, -List.set_cons_succ, -List.set_cons_zero]
  refine qcall_pure cc hf rfl ?_
  simp -implicitDefEqProofs [go_sem, -List.set_cons_succ, -List.set_cons_zero]
  refine call_drawL (j := 0) (mutE_draws L hLl hok) hc' (by omega) (by omega) rfl (by simp [Rd, Ob.re, C.re]) (fun r => CodeE.re) hf ?_
  rintro _ p2 ⟨M, rfl, hM, hMo⟩ h5 h6
  simp -implicitDefEqProofs [hf, go_sem, -List.set_cons_succ, -List.set_cons_zero]
  exact ⟨M, rfl, hM, hMo⟩
end Go.Proofs.YtnljciooabmogaaGreatDoor

/-
  The text of code: the program, which builds it in a strings.Builder.
  Conditions: none.
-/
open Go Go.AM Go.Proofs
namespace Go.Proofs
open Go.Shelf
def Tryz.lays169_ren : Go.Shelf.Ren := ⟨fun | 169 => 13 | n => n, fun | 70 => 37 | 9 => 9 | 0 => 0 | 72 => 39 | 37 => 22 | 127 => 71 | 3 => 3 | 5 => 5 | n => n, fun | n => n⟩
theorem Tryz.lays169 : Go.Proofs.Lays.n169 Tryz.prog Tryz.lays169_ren := {
  mixed := by kernel_rfl
  f169 := Tryz.func13.trans (congrArg some (by kernel_rfl))
  t0 := Tryz.underlying0
  a0 := Tryz.isAgg0
  z0 := Tryz.sizeOf0
  v0 := Tryz.zeroValue0
  t3 := Tryz.underlying3
  a3 := Tryz.isAgg3
  z3 := Tryz.sizeOf3
  v3 := Tryz.zeroValue3
  t9 := Tryz.underlying9
  a9 := Tryz.isAgg9
  z9 := Tryz.sizeOf9
  v9 := Tryz.zeroValue9
  t37 := Tryz.underlying22
  a37 := Tryz.isAgg22
  z37 := Tryz.sizeOf22
  v37 := Tryz.zeroValue22
  t70 := Tryz.underlying37
  a70 := Tryz.isAgg37
  z70 := Tryz.sizeOf37
  v70 := Tryz.zeroValue37
  t72 := Tryz.underlying39
  a72 := Tryz.isAgg39
  z72 := Tryz.sizeOf39
  v72 := Tryz.zeroValue39
  t127 := Tryz.underlying71
  a127 := Tryz.isAgg71
  z127 := Tryz.sizeOf71
  v127 := Tryz.zeroValue71 }
theorem Tryz.Builder_Extra_169 : Builder.Extra Tryz.prog Tryz.lays169_ren := {
  sizeBuilder := by kernel_rfl
  liesBuilder := by kernel_rfl
  t5 := Tryz.underlying5
  a5 := Tryz.isAgg5
  z5 := Tryz.sizeOf5
  v5 := Tryz.zeroValue5
  infoByte := by kernel_rfl
  cellsByte := by kernel_rfl
  sizeByte := by kernel_rfl
  neB5 := by decide }
def Tryz.lays166_ren : Go.Shelf.Ren := ⟨fun | 166 => 12 | 240 => 29 | 276 => 48 | n => n, fun | 70 => 37 | 9 => 9 | 3 => 3 | 75 => 44 | 0 => 0 | 72 => 39 | 37 => 22 | 4 => 4 | 164 => 87 | 80 => 47 | 5 => 5 | 20 => 20 | n => n, fun | n => n⟩
theorem Tryz.lays166 : Go.Proofs.Lays.n166 Tryz.prog Tryz.lays166_ren := {
  mixed := by kernel_rfl
  f166 := Tryz.func12.trans (congrArg some (by kernel_rfl))
  f240 := Tryz.func29.trans (congrArg some (by kernel_rfl))
  f276 := Tryz.func48.trans (congrArg some (by kernel_rfl))
  t0 := Tryz.underlying0
  a0 := Tryz.isAgg0
  z0 := Tryz.sizeOf0
  v0 := Tryz.zeroValue0
  t3 := Tryz.underlying3
  a3 := Tryz.isAgg3
  z3 := Tryz.sizeOf3
  v3 := Tryz.zeroValue3
  t4 := Tryz.underlying4
  a4 := Tryz.isAgg4
  z4 := Tryz.sizeOf4
  v4 := Tryz.zeroValue4
  t9 := Tryz.underlying9
  a9 := Tryz.isAgg9
  z9 := Tryz.sizeOf9
  v9 := Tryz.zeroValue9
  t20 := Tryz.underlying20
  a20 := Tryz.isAgg20
  z20 := Tryz.sizeOf20
  v20 := Tryz.zeroValue20
  t37 := Tryz.underlying22
  a37 := Tryz.isAgg22
  z37 := Tryz.sizeOf22
  v37 := Tryz.zeroValue22
  t70 := Tryz.underlying37
  a70 := Tryz.isAgg37
  z70 := Tryz.sizeOf37
  v70 := Tryz.zeroValue37
  t72 := Tryz.underlying39
  a72 := Tryz.isAgg39
  z72 := Tryz.sizeOf39
  v72 := Tryz.zeroValue39
  t75 := Tryz.underlying44
  a75 := Tryz.isAgg44
  z75 := Tryz.sizeOf44
  v75 := Tryz.zeroValue44
  t164 := Tryz.underlying87
  a164 := Tryz.isAgg87
  z164 := Tryz.sizeOf87
  v164 := Tryz.zeroValue87 }
theorem Tryz.Builder_Extra_166 : Builder.Extra Tryz.prog Tryz.lays166_ren := {
  sizeBuilder := by kernel_rfl
  liesBuilder := by kernel_rfl
  t5 := Tryz.underlying5
  a5 := Tryz.isAgg5
  z5 := Tryz.sizeOf5
  v5 := Tryz.zeroValue5
  infoByte := by kernel_rfl
  cellsByte := by kernel_rfl
  sizeByte := by kernel_rfl
  neB5 := by decide }
end Go.Proofs
namespace Go.Proofs.YtnljciooabmogaaGreatDoor
open Go.Lib Go.RowKit
set_option linter.unusedVariables false
set_option linter.unusedSimpArgs false
set_option maxRecDepth 100000
def insV (x : Ins) : Value := .agg #[.int .i64 x.op, .int .i64 x.a, .int .i64 x.b, .string ⟨x.text.toArray⟩]
/-- one instruction's text, at a world of which the table alone is known -/
theorem fmt_below {g : Nat} {o : Obj} (hT : Tab g o) (x : Ins) (hx : x.ok) (hs : x.text.length ≤ 1048576) (w : World) (hw : w.heap[g]? = some o) : Calls Tryz.prog 11 #[insV x] w fun e w' => e = .returned (.string ⟨x.fmt.toArray⟩) ∧ Below w.heap.size w w' := by
  have hc := (fmtImpl_calls hT x hx hs [.tab g o] rfl).2 w [K.tab g] [insV x] (sim_tab hw) rfl (fun i a u h1 h2 => by
    match i with
    | 0 =>
      cases h1; cases h2
      refine .agg ⟨rfl, fun j c v h3 h4 => ?_⟩
      match j with
      | 0 => cases h3; cases h4; exact .d (.int _ _ hx.op)
      | 1 => cases h3; cases h4; exact .d (.int _ _ hx.a)
      | 2 => cases h3; cases h4; exact .d (.int _ _ hx.b)
      | 3 =>
        cases h3; cases h4
        have := RD.str (w := w) (S := AM.Safe w [K.tab g]) ⟨x.text.toArray⟩ (by simp [maxStr]; omega)
        exact .d (by simpa using this))
  refine hc.mono fun e w' ⟨r, H', ι', u, he, ⟨hH, hr⟩, hsim, hra, hx2, _⟩ => ?_
  subst hH; subst hr
  have hu : u = .string ⟨x.fmt.toArray⟩ := by
    cases hra with
    | c h => cases h with
      | d h =>
        generalize hcl : x.fmt = l at h
        cases h with
        | str s _ => rfl
  refine ⟨by rw [he, hu], hx2.os, hx2.tape, hx2.output, hx2.size, fun b hb => ?_⟩
  by_cases hbg : b = g
  · subst hbg
    rw [hsim.tab_get rfl, hw]
  · exact (hx2.block b hb (fun k hk => by
      rw [List.mem_singleton.1 hk]
      exact fun h => hbg h)).1
theorem lt_some {w : World} {b : Nat} {o : Obj} (h : w.heap[b]? = some o) : b < w.heap.size := (Array.getElem?_eq_some_iff.1 h).1
theorem isB_below {T e : TypeId} {B b : Nat} {bs : List Value} {w w' : World} (h : Lib.IsBuilder T e B b bs w) (hb : Below w.heap.size w w') : Lib.IsBuilder T e B b bs w' := by
  have key : ∀ p, Lib.BuilderAt T e B b p bs w → Lib.BuilderAt T e B b p bs w' := fun p ⟨h1, v, h2, h3, h4⟩ => by
    refine ⟨h1, v, (hb.block b (lt_some h2)).trans h2, ?_, h4⟩
    obtain ⟨h5, h6⟩ := h3
    refine ⟨h5, ?_⟩
    rcases h6 with h6 | ⟨g, cap, cur, e1, e2, e3, r⟩
    · exact .inl h6
    · exact .inr ⟨g, cap, cur, e1, e2, (hb.block g (lt_some e3)).trans e3, r⟩
  exact h.imp (key _) (key _)
set_option maxHeartbeats 6400000 in
theorem fc_core {g : Nat} {o : Obj} (hT : Tab g o) (L : List Ins) (hL : L.length ≤ 1048576) (hx : ∀ x ∈ L, x.ok ∧ x.text.length ≤ 1048576) (bk off c : Nat) (w : World)
    (hcells : ∀ (k : Nat) x, L[k]? = some x → w.cell? ⟨bk, off + k * 4, none⟩ = some (.int .i64 x.op) ∧ w.cell? ⟨bk, off + k * 4 + 1, none⟩ = some (.int .i64 x.a) ∧ w.cell? ⟨bk, off + k * 4 + 2, none⟩ = some (.int .i64 x.b) ∧ w.cell? ⟨bk, off + k * 4 + 3, none⟩ = some (.string ⟨x.text.toArray⟩))
    (hbk : bk < w.heap.size) (hcap : L.length ≤ c) (hg : w.heap[g]? = some o) :
    Calls Tryz.prog 5 #[.slice (some ⟨bk, off, none⟩) L.length c] w fun e w' => e = .returned (.string ⟨(fcS L).toArray⟩) ∧ Below w.heap.size w w' := by
  have HC := Any.hidJ hcells
  have HX := Any.hidJ hx
  have HG := Any.hidJ hg
  clear hcells hx hg
  go_enter Tryz.func5, Tryz.ntmps5
  go_wp2_with fail
  · go_ret
    exact ⟨by rw [fcS_big (by omega)]; rfl, Below.refl _ _⟩
  · go_loopw [12] (fun i wr => ∃ k : Nat, k ≤ L.length ∧ i = .int .i64 k ∧ (∀ x ∈ L.take k, x.okB = true) ∧ Hid (Lib.IsBuilder 39 5 w.heap.size w.heap.size (Lib.byteCells (fcO (L.take k))) wr) ∧ Hid (Below w.heap.size w wr)) (fun i _ => L.length - (RowKit.intOf i).toNat)
    case atStart => exact ⟨0, Nat.zero_le _, rfl, by simp, Any.hidJ (by simpa [fcO, Lib.byteCells] using Lib.fresh_isBuilder _ _ w), Any.hidJ ((Below.refl _ _).alloc (Nat.le_refl _) _)⟩
    case round =>
      obtain ⟨k, hk, rfl, hall, HB, HW⟩ := hrel
      by_cases hkn : k < L.length
      · obtain ⟨x, hx⟩ : ∃ x, L[k]? = some x := ⟨L[k], List.getElem?_eq_getElem hkn⟩
        obtain ⟨c0, c1, c2, c3⟩ := HC.out k x hx
        have hbk2 := fun j => HW.out.cell (p := ⟨bk, j, none⟩) hbk
        rw [← hbk2] at c0 c1 c2 c3
        go_wp2_with fail
        have hmem : x ∈ L := List.mem_of_getElem? hx
        obtain ⟨hxo, hxt⟩ := HX.out x hmem
        have hBw : w.heap.size ≤ wr.heap.size := HW.out.size
        have hgw : wr.heap[g]? = some o := (HW.out.block g (lt_some HG.out)).trans HG.out
        refine (fmt_below hT x hxo hxt _ ((Below.heap_alloc wr _ g (lt_some hgw)).trans hgw)).mono ?_
        rintro e w1 ⟨rfl, hb1⟩
        have ha : Below wr.heap.size wr w1 := ((Below.refl wr.heap.size wr).alloc (Nat.le_refl _) _).trans (hb1.mono (by simp only [World.alloc, Array.size_push]; omega))
        have Hw1 := Any.hidJ (HW.out.trans (ha.mono hBw))
        have HB1 := Any.hidJ (isB_below HB.out ha)
        clear hb1 ha
        cases hb : x.okB with
        | false =>
          have hf0 : x.fmt = [] := by unfold Ins.fmt; rw [hb]; rfl
          rw [hf0]
          go_wp2
          go_ret
          exact ⟨by rw [fcS_no hmem hb]; rfl, Hw1.out⟩
        | true =>
          have hne := fmtL_ne hb
          have hfl := fmtL x
          have hxk : x = L[k] := by rw [List.getElem?_eq_getElem hkn] at hx; cases hx; rfl
          have hcat : Lib.byteCells (fcO (L.take k)) ++ Lib.strCells (⟨x.fmt.toArray⟩ ++ ⟨#[10]⟩) = Lib.byteCells (fcO (L.take (k + 1))) := by
            rw [fcO_succ hkn, Lib.strCells_eq, ← Lib.byteCells_append, hxk]
            simp
          have hall2 : ∀ y ∈ L.take (k + 1), y.okB = true := fun y hy => by
            rw [List.take_succ_eq_append_getElem hkn] at hy
            rcases List.mem_append.1 hy with h | h
            · exact hall y h
            · rw [List.mem_singleton.1 h, ← hxk]; exact hb
          have hsz : (⟨x.fmt.toArray⟩ ++ ⟨#[10]⟩ : ByteArray).size = x.fmt.length + 1 := by
            show (⟨x.fmt.toArray⟩ ++ ⟨#[10]⟩ : ByteArray).data.size = _
            simp
          have hol := fcO_len (L.take k)
          have htl : (L.take k).length ≤ k := by simp; omega
          generalize x.fmt = F at hne hfl hcat hsz
          have hne2 : ¬ F.isEmpty = true := by simpa using hne
          have Hcat := Any.hidJ hcat
          have Hsz := Any.hidJ hsz
          clear hcat hsz
          go_wp2_with fail
          refine (Any.Builder_WriteString Tryz.lays166 Tryz.Builder_Extra_166 w.heap.size w.heap.size _ _ w1 HB1.out (by rw [Lib.byteCells_length, Hsz.out]; omega) Hw1.out.size).mono ?_
          rintro e w3 ⟨rfl, h3, hb3⟩
          rw [Hcat.out] at h3
          have H3 := Any.hidJ (Or.inr h3 : Lib.IsBuilder 39 5 w.heap.size w.heap.size _ w3)
          have Hb3 := Any.hidJ (Hw1.out.trans hb3)
          clear h3 hb3
          go_wp2
          exact ⟨⟨k + 1, by omega, by go_num, hall2, H3, Hb3⟩, by simp [RowKit.intOf]; omega⟩
      · have hke : k = L.length := by omega
        subst hke
        rw [List.take_length] at HB hall
        have hBw : w.heap.size ≤ wr.heap.size := HW.out.size
        go_wp2_with fail
        refine (Any.Builder_String_any Tryz.lays169 Tryz.Builder_Extra_169 w.heap.size w.heap.size _ wr HB.out hBw).mono ?_
        rintro e w5 ⟨rfl, hb5⟩
        have Hb5 := Any.hidJ (HW.out.trans hb5)
        clear hb5
        go_wp2
        go_ret
        exact ⟨by rw [fcS_all (by omega) hall]; rfl, Hb5.out⟩
set_option maxHeartbeats 6400000 in
theorem fc_none (a : Option Addr) (c : Nat) (w : World) : Calls Tryz.prog 5 #[.slice a 0 c] w fun e w' => e = .returned (.string ⟨#[]⟩) ∧ Below w.heap.size w w' := by
  go_enter Tryz.func5, Tryz.ntmps5
  go_wp2_with fail
  go_loopw [12] (fun i wr => i = .int .i64 0 ∧ Hid (Lib.IsBuilder 39 5 w.heap.size w.heap.size (Lib.byteCells []) wr) ∧ Hid (Below w.heap.size w wr)) (fun i _ => 0)
  case atStart => exact ⟨rfl, Any.hidJ (by simpa [Lib.byteCells] using Lib.fresh_isBuilder _ _ w), Any.hidJ ((Below.refl _ _).alloc (Nat.le_refl _) _)⟩
  case round =>
    obtain ⟨rfl, HB, HW⟩ := hrel
    have hBw : w.heap.size ≤ wr.heap.size := HW.out.size
    go_wp2_with fail
    refine (Any.Builder_String_any Tryz.lays169 Tryz.Builder_Extra_169 w.heap.size w.heap.size _ wr HB.out hBw).mono ?_
    rintro e w5 ⟨rfl, hb5⟩
    have Hb5 := Any.hidJ (HW.out.trans hb5)
    clear hb5
    go_wp2
    go_ret
    exact ⟨rfl, Hb5.out⟩
theorem rd_int {w : World} {S : Nat → Nat → Prop} {n : Int} {v : Value} (h : RD w S (.int .i64 n) v) : v = .int .i64 n := by cases h; rfl
theorem rd_str {w : World} {S : Nat → Nat → Prop} {s : List UInt8} {v : Value} (h : RD w S (.str s) v) : v = .string ⟨s.toArray⟩ := by
  generalize hl : s = l at h
  cases h with
  | str s _ => rfl
/-- the program's text of code -/
theorem fcImpl_calls {g : Nat} {o : Obj} (hT : Tab g o) (L : List Ins) (hL : L.length ≤ 1048576) (hx : ∀ x ∈ L, x.ok ∧ x.text.length ≤ 1048576) (H : Heap) (hH : H[0]? = some (.tab g o)) :
    ACalls Tryz.prog 5 [.c (.d (.sl (L.map Ins.row)))] H (fun r H' => H' = H ∧ r = .c (.d (.str (fcS L)))) := by
  refine ⟨⟨_, Tryz.func5, by kernel_rfl, by decide⟩, fun w ι cargs hsim hl ha => ?_⟩
  obtain ⟨v0, rfl⟩ : ∃ v0, cargs = [v0] := by
    match cargs, hl with
    | [a], _ => exact ⟨a, rfl⟩
  have h0 := ha 0 _ _ rfl rfl
  have hfl : (fcS L).length ≤ 61 * 2000 := by
    unfold fcS
    split
    · simp
    · rename_i h
      have := fcO_len L
      show (fcO L).length ≤ _
      omega
  have key : ∀ (e : Ending) (w' : World), (e = .returned (.string ⟨(fcS L).toArray⟩) ∧ Below w.heap.size w w') →
      ∃ r H' ι' v, e = .returned v ∧ (H' = H ∧ r = .c (.d (.str (fcS L)))) ∧ Sim w' ι' H'.length H' ∧ RA w' ι' H'.length r v ∧ Ext w ι w' ι' ∧ H.length ≤ H'.length := by
    rintro e w' ⟨rfl, hb⟩
    have hx : Ext w ι w' ι := Ext.of_blocks hb.os hb.tape hb.output hb.size hb.block
    refine ⟨_, _, ι, _, rfl, ⟨rfl, rfl⟩, hsim.of_blocks hx hb.block, .c (.d ?_), hx, Nat.le_refl _⟩
    have := RD.str (w := w') (S := AM.Safe w' ι) ⟨(fcS L).toArray⟩ (by simp [maxStr]; omega)
    simpa using this
  have hd : RD w (AM.Safe w ι) (.sl (L.map Ins.row)) v0 := by
    cases h0 with
    | c h => cases h with
      | d h => exact h
  have hg := hsim.tab_get hH
  by_cases hL0 : L = []
  · subst hL0
    have hv : ∃ a c, v0 = .slice a 0 c := by
      generalize hrows : (List.map Ins.row []) = rows at hd
      simp at hrows
      subst hrows
      generalize hr2 : ([] : List (List D)) = rows at hd
      cases hd with
      | nil a => exact ⟨a, 0, rfl⟩
      | sl rows b off cap sz vs g1 g2 g3 g4 g5 => subst hr2; exact ⟨_, _, rfl⟩
    obtain ⟨a, c, rfl⟩ := hv
    exact (fc_none a c w).mono fun e w' h => key e w' h
  · generalize hrows : L.map Ins.row = rows at hd
    have hrl : rows.length = L.length := by rw [← hrows]; simp
    cases hd with
    | nil a => simp at hrows; exact absurd hrows hL0
    | sl rows b off cap sz vs g1 g2 g3 g4 g5 =>
      have hsz : sz = 4 := by
        cases L with
        | nil => exact absurd rfl hL0
        | cons x l => exact (g3 0 x.row (by rw [← hrows]; rfl)).symm
      subst hsz
      have hrow : ∀ (k : Nat) x, L[k]? = some x → rows[k]? = some x.row := fun k x h => by rw [← hrows]; simp [h]
      have hcell : ∀ (k : Nat) x (j : Nat) d, L[k]? = some x → x.row[j]? = some d → w.cell? ⟨b, off + (k * 4 + j), none⟩ = some (vs (k * 4 + j)) ∧ b < w.heap.size ∧ RD w (AM.Safe w ι) d (vs (k * 4 + j)) := fun k x j d h h2 =>
        ⟨(g4 k _ j d (hrow k x h) h2).1, (g4 k _ j d (hrow k x h) h2).2.1, g5 k _ j d (hrow k x h) h2⟩
      have hbk : b < w.heap.size := by
        cases L with
        | nil => exact absurd rfl hL0
        | cons x l => exact (hcell 0 x 0 _ rfl rfl).2.1
      have hc := fc_core hT L hL hx b off cap w (fun k x hk => by
        obtain ⟨a0, _, a1⟩ := hcell k x 0 _ hk rfl
        obtain ⟨b0, _, b1⟩ := hcell k x 1 _ hk rfl
        obtain ⟨c0, _, c1⟩ := hcell k x 2 _ hk rfl
        obtain ⟨d0, _, d1⟩ := hcell k x 3 _ hk rfl
        rw [rd_int a1] at a0
        rw [rd_int b1] at b0
        rw [rd_int c1] at c0
        rw [rd_str d1] at d0
        exact ⟨by simpa using a0, by simpa [Nat.add_assoc] using b0, by simpa [Nat.add_assoc] using c0, by simpa [Nat.add_assoc] using d0⟩) hbk (by omega) hg
      rw [← hrl] at hc
      exact hc.mono fun e w' h => key e w' h
end Go.Proofs.YtnljciooabmogaaGreatDoor

/-
  The text of code: the reference.
  Conditions: none.
-/
open Go Go.AM Go.Proofs
namespace Go.Proofs.YtnljciooabmogaaGreatDoor
open Go.ChangeShapes Go.WideShapes Go.ChangeAt Go.RowKit
set_option linter.unusedVariables false
set_option linter.unusedSimpArgs false
set_option maxRecDepth 100000
-- 6 loop.example/prologserver/spec.FormatCode params 1 ntmps 30
-- loop head live: [0,3,4]
def ac6 : Cd := .seq (.region [⟨(some 2),.mv (.k (.c (.d (.str [])))),none⟩] [2])
 (.seq (.region [⟨(some 3),.mv (.k (.c (.d (.str [])))),none⟩] [])
 (.seq (.seq (.region [⟨(some 4),.mv (.k (.c (.d (.int .i64 0)))),none⟩] [])
 (.block 0 (.loop (.seq (.seq (.region [⟨(some 5),.mv (.t 4),none⟩,
 ⟨(some 6),.mv (.t 0),none⟩,
 ⟨(some 7),.len 1 (.t 6),none⟩,
 ⟨(some 8),.bin .lss (.t 5) (.t 7),none⟩] [5,6,7])
 (.cond (.t 8)
 (.skip)
 (.exit 0)))
 (.seq (.block 1 (.seq (.seq (.region [⟨(some 11),.mv (.t 4),none⟩,
 ⟨(some 12),.bin .geq (.t 11) (.k (.c (.d (.int .i64 2000)))),none⟩,
 ⟨(some 13),.mv (.t 12),none⟩,
 ⟨(some 14),.mv (.t 0),some (13,false)⟩,
 ⟨(some 15),.mv (.t 4),some (13,false)⟩,
 ⟨(some 16),.indexAddr 4 (.t 14) (.t 15),some (13,false)⟩,
 ⟨(some 17),.load (some 4) (.t 16),some (13,false)⟩,
 ⟨(some 18),.qcall 14 [(.t 17)],some (13,false)⟩,
 ⟨(some 19),.un .not (.t 18),some (13,false)⟩,
 ⟨(some 20),.pick (.t 13) (.k (.c (.d (.bool true)))) (.t 19),none⟩] [8,11,12,13,14,15,16,17,18,19])
 (.cond (.t 20)
 (.seq (.region [⟨(some 2),.mv (.k (.c (.d (.str [])))),none⟩] [0,3,4,20])
 (.ret))
 (.skip)))
 (.region [⟨(some 21),.mv (.t 3),none⟩,
 ⟨(some 22),.mv (.t 0),none⟩,
 ⟨(some 23),.mv (.t 4),none⟩,
 ⟨(some 24),.indexAddr 4 (.t 22) (.t 23),none⟩,
 ⟨(some 25),.load (some 4) (.t 24),none⟩,
 ⟨(some 26),.qcall 15 [(.t 25)],none⟩,
 ⟨(some 27),.bin .add (.t 21) (.t 26),none⟩,
 ⟨(some 28),.bin .add (.t 27) (.k (.c (.d (.str [10])))),none⟩,
 ⟨(some 3),.mv (.t 28),none⟩] [2,20,21,22,23,24,25,26,27,28])))
 (.region [⟨(some 9),.mv (.t 4),none⟩,
 ⟨(some 10),.bin .add (.t 9) (.k (.c (.d (.int .i64 1)))),none⟩,
 ⟨(some 4),.mv (.t 10),none⟩] [9,10]))))))
 (.seq (.region [⟨(some 29),.mv (.t 3),none⟩,
 ⟨(some 2),.mv (.t 29),none⟩] [3,29])
 (.ret))))
theorem ac6_ok : cFunc Tryz.prog [1000014,1000015] [(0,[2],[]),(1,[],[]),(2,[],[]),(3,[5,6,7],[]),(5,[8,11,12,13,14,15,16,17,18,19],[]),(6,[0,3,4,20],[]),(7,[2,20,21,22,23,24,25,26,27,28],[]),(4,[9,10],[]),(8,[3,29],[])] Tryz.f6 = some (ac6,[.tmp 2],30) := by kernel_rfl
theorem l8Instr_calls (x : Ins) (hs : x.text.length ≤ 1048576) (H : Heap) : ACalls Tryz.prog 14 [.agg (x.row.map .d)] H (fun r H' => H' = H ∧ r = .c (.d (.bool x.okB))) := by
  obtain ⟨op, a, b, s⟩ := x
  rcases op_bits op with ⟨e1, e2, e3, e4⟩ | ⟨e1, e2, e3, e4⟩ | ⟨e1, e2, e3, e4⟩ | ⟨e1, e2, e3, e4⟩ | ⟨e1, e2, e3, e4⟩ | ⟨e1, e2, e3, e4⟩
  · exact l8Instr_0 op a b s hs e1 e2 e3 e4 H
  · exact l8Instr_1 op a b s hs e1 e2 e3 e4 H
  · exact l8Instr_2 op a b s hs e1 e2 e3 e4 H
  · exact l8Instr_3 op a b s hs e1 e2 e3 e4 H
  · exact l8Instr_4 op a b s hs e1 e2 e3 e4 H
  · exact l8Instr_5 op a b s hs e1 e2 e3 e4 H
set_option maxHeartbeats 3200000 in
theorem fcSpec_calls (L : List Ins) (hl : L.length ≤ 1048576) (hx : ∀ x ∈ L, x.ok ∧ x.text.length ≤ 1048576) (H : Heap) : ACalls Tryz.prog 6 [.c (.d (.sl (L.map Ins.row)))] H (fun r H' => H' = H ∧ r = .c (.d (.str (fcS L)))) := by
  refine acalls Tryz.func6 (by kernel_rfl) ac6_ok fun hf => ?_
  have hli : inR .i64 (L.length : Int) := small_i64 (by omega) (by omega)
  simp -implicitDefEqProofs [ac6, hli, hf, go_sem, -List.set_cons_succ, -List.set_cons_zero]
  refine loop_set (σ := Nat) (fun i => [(4, .c (.d (.int .i64 i))), (3, .c (.d (.str (fcO (L.take i)))))]) (fun _ => H) (fun _ => []) (fun i => i ≤ L.length ∧ i ≤ 2000 ∧ ∀ x ∈ L.take i, x.okB = true) (fun i => L.length - i) 0 (by simp [setAll, fcO]) ⟨Nat.zero_le _, Nat.zero_le _, by simp⟩ ?_
  rintro i ⟨hi, h2, hall⟩
  have hol := fcO_len (L.take i)
  have htl : (L.take i).length ≤ i := by simp; omega
  by_cases hlt : i < L.length
  · have hadd : inR .i64 ((i : Int) + 1) := small_i64 (by omega) (by omega)
    have hlt' : (i : Int) < L.length := by omega
    by_cases hbig : 2000 ≤ i
    · have hbig' : (2000 : Int) ≤ i := by omega
      rw [fcS_big (by omega)]
      simp -implicitDefEqProofs [setAll, hli, hlt, hlt', hbig, hbig', hf, go_sem, -List.set_cons_succ, -List.set_cons_zero]
      refine row_off (⟨0, 0, 0, []⟩ : Ins).row ?_
      simp -implicitDefEqProofs [Ins.row, hf, go_sem, -List.set_cons_succ, -List.set_cons_zero]
    · have hbig' : ¬ (2000 : Int) ≤ i := by omega
      obtain ⟨k1, k2⟩ := hx _ (List.getElem_mem hlt)
      have cl := l8Instr_calls L[i] k2
      have cf := fmtSpec_calls L[i] k1 k2
      have hfl := fmtL L[i]
      simp -implicitDefEqProofs [setAll, hli, hlt, hlt', hbig, hbig', hf, go_sem, -List.set_cons_succ, -List.set_cons_zero]
      refine row_of hlt rfl ?_
      simp -implicitDefEqProofs [Ins.row, hf, go_sem, -List.set_cons_succ, -List.set_cons_zero]
      refine qcall_pure cl hf rfl ?_
      cases hb : L[i].okB with
      | false =>
        rw [fcS_no (List.getElem_mem hlt) hb]
        simp -implicitDefEqProofs [hf, go_sem, -List.set_cons_succ, -List.set_cons_zero]
      | true =>
        simp -implicitDefEqProofs [hf, go_sem, -List.set_cons_succ, -List.set_cons_zero]
        refine row_of hlt rfl ?_
        simp -implicitDefEqProofs [Ins.row, hf, go_sem, -List.set_cons_succ, -List.set_cons_zero]
        refine qcall_pure cf hf rfl ?_
        simp -implicitDefEqProofs [maxStr, hadd, hf, go_sem, -List.set_cons_succ, -List.set_cons_zero]
        refine ⟨by omega, by omega, ?_⟩
        refine loop_back (i + 1) (by rw [fcO_succ hlt]; simp [setAll]) ⟨hlt, by omega, fun x hx2 => ?_⟩ (by show L.length - (i + 1) < L.length - i; omega)
        rw [List.take_succ_eq_append_getElem hlt] at hx2
        rcases List.mem_append.1 hx2 with h | h
        · exact hall x h
        · rw [List.mem_singleton.1 h]; exact hb
  · obtain rfl : i = L.length := by omega
    rw [List.take_length] at hall ⊢
    rw [fcS_all h2 hall]
    simp -implicitDefEqProofs [setAll, hli, hf, go_sem, -List.set_cons_succ, -List.set_cons_zero]
end Go.Proofs.YtnljciooabmogaaGreatDoor
