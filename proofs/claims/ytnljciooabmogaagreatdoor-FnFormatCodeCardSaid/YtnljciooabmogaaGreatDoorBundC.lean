/-
  Contracts of functions that the law reaches, and plain lemmas: several texts in one.
  Conditions: none.
-/
import Derived.Test.YtnljciooabmogaaGreatDoorBundA
import Derived.Test.YtnljciooabmogaaGreatDoorBundB
import Derived.Test.YtnljciooabmogaaGreatDoorAbsN
import Derived.MakeChecks
import Derived.LaidMore
import Derived.Shelf.LaysM
import Derived.Shelf.Strconv.Itoa3
open Go Go.AM Go.Proofs
attribute [local go_sem] kw ew sw tw a_ b_ c_ A.ok A.val d_ e_ f_ g_ h_ i_ j_ k_ l_ m_ unA unD n_ AOp.total o_ p_ q_ r_ s_ t_ u_ v_ A.thaw C.thaw A.fits As.fits C.fits evs oks w_ A.pure C.pure A.re C.re x_ y_ cut A.cells C.rows? z_ A_ B_ C_ a0_ b0_ D_ Ob.re Cs.fits E_ F_ G_ H_ I_ J_ K_ L_ M_ N_ O_ C.toD P_ Q_ R_ S_ T_ Obs.fits U_ eqD V_ W_ X_ Y_ Z_
/-
  Programs and clauses that are drawn.
  Conditions: none.
-/
open Go Go.AM Go.Proofs
namespace Go.Proofs.YtnljciooabmogaaGreatDoor
open Go.ChangeShapes Go.WideShapes Go.ChangeAt Go.RowKit
set_option linter.unusedVariables false
set_option linter.unusedSimpArgs false
set_option maxRecDepth 100000
-- 40 loop.example/prologserver/spec.l4Texts params 0 ntmps 2
def ac40 : Cd := .seq (.region [⟨(some 0),.mv (.k (.c (.full []))),none⟩] [0])
 (.seq (.region [⟨(some 1),.buildSlice 1 11 [(.str [])] [(0,(.k (.c (.d (.str [97,112,112,40,91,93,44,65,44,65,41,46,10,97,112,112,40,91,65,124,66,93,44,67,44,91,65,124,68,93,41,58,45,97,112,112,40,66,44,67,44,68,41,46,10]))))),(1,(.k (.c (.d (.str [109,101,109,40,65,44,91,65,124,66,93,41,46,10,109,101,109,40,65,44,91,66,124,67,93,41,58,45,109,101,109,40,65,44,67,41,46,10]))))),(2,(.k (.c (.d (.str [112,40,49,41,46,10,112,40,50,41,46,10,112,40,51,41,46,10,113,40,65,41,58,45,112,40,65,41,44,65,62,49,44,33,46,10,114,40,65,44,66,41,58,45,112,40,65,41,44,112,40,66,41,46,10]))))),(3,(.k (.c (.d (.str [108,101,110,40,91,93,44,48,41,46,10,108,101,110,40,91,65,124,66,93,44,67,41,58,45,108,101,110,40,66,44,68,41,44,67,32,105,115,32,68,43,49,46,10]))))),(4,(.k (.c (.d (.str [109,97,120,40,65,44,66,44,65,41,58,45,65,62,61,66,44,33,46,10,109,97,120,40,65,44,66,44,66,41,46,10]))))),(5,(.k (.c (.d (.str [101,40,97,44,98,41,46,10,101,40,98,44,99,41,46,10,101,40,99,44,100,41,46,10,116,40,65,44,66,41,58,45,101,40,65,44,66,41,46,10,116,40,65,44,66,41,58,45,101,40,65,44,67,41,44,116,40,67,44,66,41,46,10]))))),(6,(.k (.c (.d (.str [108,111,111,112,58,45,108,111,111,112,46,10,111,107,46,10]))))),(7,(.k (.c (.d (.str [102,97,99,40,48,44,49,41,58,45,33,46,10,102,97,99,40,65,44,66,41,58,45,65,62,48,44,67,32,105,115,32,65,45,49,44,102,97,99,40,67,44,68,41,44,66,32,105,115,32,65,42,68,46,10]))))),(8,(.k (.c (.d (.str [115,40,65,41,58,45,65,61,102,40,66,41,44,97,114,103,40,49,44,65,44,66,41,44,66,61,49,46,10,115,40,65,41,58,45,118,97,114,40,65,41,44,65,61,110,111,110,101,46,10]))))),(9,(.k (.c (.d (.str [114,101,118,40,91,93,44,65,44,65,41,46,10,114,101,118,40,91,65,124,66,93,44,67,44,68,41,58,45,114,101,118,40,66,44,91,65,124,67,93,44,68,41,46,10]))))),(10,(.k (.c (.d (.str [98,97,100,40,65,41,58,45,66,32,105,115,32,65,43,102,111,111,44,67,61,66,46,10,98,105,103,40,65,41,58,45,65,32,105,115,32,57,57,57,43,49,46,10,117,110,40,65,41,58,45,110,111,115,117,99,104,40,65,41,46,10])))))],none⟩,
 ⟨(some 0),.mv (.t 1),none⟩] [1])
 (.ret))
theorem ac40_ok : cFunc Tryz.prog [] [(0,[0],[]),(1,[1],[])] Tryz.f40 = some (ac40,[.tmp 0],2) := by kernel_rfl
-- 22 loop.example/prologserver/spec.l4Program params 1 ntmps 19
def ac22 : Cd := .seq (.region [⟨(some 2),.mv (.k (.c (.full []))),none⟩] [2])
 (.seq (.region [⟨(some 6),.qcall 40 [],none⟩,
 ⟨(some 3),.mv (.t 6),none⟩] [6])
 (.seq (.region [⟨(some 8),.mv (.t 3),none⟩,
 ⟨(some 9),.mv (.t 0),none⟩,
 ⟨(some 10),.mv (.t 3),none⟩,
 ⟨(some 11),.len 1 (.t 10),none⟩,
 ⟨(some 12),.call false 16 [(.t 9),(.t 11)],none⟩,
 ⟨(some 13),.indexAddr 1 (.t 8) (.t 12),none⟩,
 ⟨(some 14),.load none (.t 13),none⟩,
 ⟨(some 15),.qcall 41 [(.t 14)],none⟩,
 ⟨(some 7),.mv (.t 15),none⟩,
 ⟨(some 16),.extract 0 (.t 7),none⟩,
 ⟨(some 17),.extract 1 (.t 7),none⟩,
 ⟨(some 4),.mv (.t 16),none⟩,
 ⟨(some 5),.mv (.t 17),none⟩] [0,3,5,7,8,9,10,11,12,13,14,15,16,17])
 (.seq (.region [⟨(some 18),.mv (.t 4),none⟩,
 ⟨(some 2),.mv (.t 18),none⟩] [4,18])
 (.ret))))
theorem ac22_ok : cFunc Tryz.prog [1000040,1000041] [(0,[2],[]),(1,[6],[]),(2,[0,3,5,7,8,9,10,11,12,13,14,15,16,17],[]),(3,[4,18],[])] Tryz.f22 = some (ac22,[.tmp 2],19) := by kernel_rfl
-- 10 loop.example/prologserver/spec.l4Clause params 1 ntmps 47
-- loop head live: [0,2,4,5]
def ac10 : Cd := .seq (.region [⟨(some 2),.alloc [(.d (.int .i64 0)),(.d (.int .i64 0)),(.d (.str [])),(.full []),(.full [])],none⟩] [])
 (.seq (.region [⟨(some 6),.mv (.t 0),none⟩,
 ⟨(some 7),.call false 22 [(.t 6)],none⟩,
 ⟨(some 3),.mv (.t 7),none⟩] [6,7])
 (.seq (.seq (.region [⟨(some 8),.mv (.t 0),none⟩,
 ⟨(some 9),.call false 16 [(.t 8),(.k (.c (.d (.int .i64 4))))],none⟩,
 ⟨(some 10),.bin .gtr (.t 9) (.k (.c (.d (.int .i64 0)))),none⟩] [8,9])
 (.cond (.t 10)
 (.seq (.region [⟨(some 11),.mv (.t 3),none⟩,
 ⟨(some 12),.mv (.t 0),none⟩,
 ⟨(some 13),.mv (.t 3),none⟩,
 ⟨(some 14),.len 1 (.t 13),none⟩,
 ⟨(some 15),.call false 16 [(.t 12),(.t 14)],none⟩,
 ⟨(some 16),.indexAddr 5 (.t 11) (.t 15),none⟩,
 ⟨(some 17),.load (some 5) (.t 16),none⟩,
 ⟨none,.store 5 (.t 2) (.t 17),none⟩] [0,3,10,11,12,13,14,15,16,17])
 (.ret))
 (.skip)))
 (.seq (.region [⟨(some 18),.mv (.t 0),none⟩,
 ⟨(some 19),.buildSlice 1 3 [(.str [])] [(0,(.k (.c (.d (.str [112]))))),(1,(.k (.c (.d (.str [113]))))),(2,(.k (.c (.d (.str [102,111,111])))))],none⟩,
 ⟨(some 20),.callL false false 18 [(.t 18),(.t 19)],none⟩,
 ⟨(some 21),.mv (.t 0),none⟩,
 ⟨(some 22),.callL false false 24 [(.t 21),(.k (.c (.d (.int .i64 2))))],none⟩,
 ⟨(some 23),.buildSlice 4 1 [(.int .i64 0),(.int .i64 0),(.str []),(.sl [])] [(0,(.t 22))],none⟩,
 ⟨(some 24),.qcall 23 [(.t 20),(.t 23)],none⟩,
 ⟨(some 25),.build [(.d (.int .i64 0)),(.d (.int .i64 0)),(.d (.str [])),(.full []),(.full [])] [(0,4,(.t 24))],none⟩,
 ⟨(some 4),.alloc [(.d (.int .i64 0)),(.d (.int .i64 0)),(.d (.str [])),(.full []),(.full [])],none⟩,
 ⟨none,.store 5 (.t 4) (.t 25),none⟩] [3,10,18,19,20,21,22,23,24,25])
 (.seq (.seq (.region [⟨(some 26),.mv (.t 0),none⟩,
 ⟨(some 27),.call false 16 [(.t 26),(.k (.c (.d (.int .i64 3))))],none⟩,
 ⟨(some 5),.mv (.t 27),none⟩] [26,27])
 (.block 0 (.loop (.seq (.seq (.region [⟨(some 28),.mv (.t 5),none⟩,
 ⟨(some 29),.bin .gtr (.t 28) (.k (.c (.d (.int .i64 0)))),none⟩] [28])
 (.cond (.t 29)
 (.skip)
 (.exit 0)))
 (.seq (.block 1 (.region [⟨(some 32),.fieldAddr 4 (.t 4),none⟩,
 ⟨(some 34),.mv (.t 0),none⟩,
 ⟨(some 35),.buildSlice 1 4 [(.str [])] [(0,(.k (.c (.d (.str [112]))))),(1,(.k (.c (.d (.str [61]))))),(2,(.k (.c (.d (.str [60]))))),(3,(.k (.c (.d (.str [113])))))],none⟩,
 ⟨(some 37),.mv (.t 0),none⟩,
 ⟨(some 39),.mv (.t 0),none⟩,
 ⟨(some 33),.loadL false none (.t 32),none⟩,
 ⟨(some 36),.callL false false 18 [(.t 34),(.t 35)],none⟩,
 ⟨(some 38),.callL false false 24 [(.t 37),(.k (.c (.d (.int .i64 2))))],none⟩,
 ⟨(some 40),.callL false false 24 [(.t 39),(.k (.c (.d (.int .i64 2))))],none⟩,
 ⟨(some 41),.buildSlice 4 2 [(.int .i64 0),(.int .i64 0),(.str []),(.sl [])] [(0,(.t 38)),(1,(.t 40))],none⟩,
 ⟨(some 42),.qcall 23 [(.t 36),(.t 41)],none⟩,
 ⟨(some 43),.buildSlice 4 1 [(.int .i64 0),(.int .i64 0),(.str []),(.sl [])] [(0,(.t 42))],none⟩,
 ⟨(some 44),.append false 4 (.t 33) (.t 43),none⟩,
 ⟨(some 45),.fieldAddr 4 (.t 4),none⟩,
 ⟨none,.store 1 (.t 45) (.t 44),none⟩] [29,32,33,34,35,36,37,38,39,40,41,42,43,44,45]))
 (.region [⟨(some 30),.mv (.t 5),none⟩,
 ⟨(some 31),.bin .sub (.t 30) (.k (.c (.d (.int .i64 1)))),none⟩,
 ⟨(some 5),.mv (.t 31),none⟩] [30,31]))))))
 (.seq (.region [⟨(some 46),.load (some 5) (.t 4),none⟩,
 ⟨none,.store 5 (.t 2) (.t 46),none⟩] [4,46])
 (.ret))))))
theorem ac10_ok : cFunc Tryz.prog [1000023,5000032,6000018,6000024] [(0,[],[]),(1,[6,7],[]),(2,[8,9],[]),(3,[0,3,10,11,12,13,14,15,16,17],[]),(4,[3,10,18,19,20,21,22,23,24,25],[]),(5,[26,27],[]),(6,[28],[]),(8,[29,32,33,34,35,36,37,38,39,40,41,42,43,44,45],[0,2,3,5,7,1,4,6,8,9,10,11,12,13,14]),(7,[30,31],[]),(9,[4,46],[])] Tryz.f10 = some (ac10,[.cell 2 (some 5)],47) := by kernel_rfl
def progTexts : List (List UInt8) := [[97, 112, 112, 40, 91, 93, 44, 65, 44, 65, 41, 46, 10, 97, 112, 112, 40, 91, 65, 124, 66, 93, 44, 67, 44, 91, 65, 124, 68, 93, 41, 58, 45, 97, 112, 112, 40, 66, 44, 67, 44, 68, 41, 46, 10], [109, 101, 109, 40, 65, 44, 91, 65, 124, 66, 93, 41, 46, 10, 109, 101, 109, 40, 65, 44, 91, 66, 124, 67, 93, 41, 58, 45, 109, 101, 109, 40, 65, 44, 67, 41, 46, 10], [112, 40, 49, 41, 46, 10, 112, 40, 50, 41, 46, 10, 112, 40, 51, 41, 46, 10, 113, 40, 65, 41, 58, 45, 112, 40, 65, 41, 44, 65, 62, 49, 44, 33, 46, 10, 114, 40, 65, 44, 66, 41, 58, 45, 112, 40, 65, 41, 44, 112, 40, 66, 41, 46, 10], [108, 101, 110, 40, 91, 93, 44, 48, 41, 46, 10, 108, 101, 110, 40, 91, 65, 124, 66, 93, 44, 67, 41, 58, 45, 108, 101, 110, 40, 66, 44, 68, 41, 44, 67, 32, 105, 115, 32, 68, 43, 49, 46, 10], [109, 97, 120, 40, 65, 44, 66, 44, 65, 41, 58, 45, 65, 62, 61, 66, 44, 33, 46, 10, 109, 97, 120, 40, 65, 44, 66, 44, 66, 41, 46, 10], [101, 40, 97, 44, 98, 41, 46, 10, 101, 40, 98, 44, 99, 41, 46, 10, 101, 40, 99, 44, 100, 41, 46, 10, 116, 40, 65, 44, 66, 41, 58, 45, 101, 40, 65, 44, 66, 41, 46, 10, 116, 40, 65, 44, 66, 41, 58, 45, 101, 40, 65, 44, 67, 41, 44, 116, 40, 67, 44, 66, 41, 46, 10], [108, 111, 111, 112, 58, 45, 108, 111, 111, 112, 46, 10, 111, 107, 46, 10], [102, 97, 99, 40, 48, 44, 49, 41, 58, 45, 33, 46, 10, 102, 97, 99, 40, 65, 44, 66, 41, 58, 45, 65, 62, 48, 44, 67, 32, 105, 115, 32, 65, 45, 49, 44, 102, 97, 99, 40, 67, 44, 68, 41, 44, 66, 32, 105, 115, 32, 65, 42, 68, 46, 10], [115, 40, 65, 41, 58, 45, 65, 61, 102, 40, 66, 41, 44, 97, 114, 103, 40, 49, 44, 65, 44, 66, 41, 44, 66, 61, 49, 46, 10, 115, 40, 65, 41, 58, 45, 118, 97, 114, 40, 65, 41, 44, 65, 61, 110, 111, 110, 101, 46, 10], [114, 101, 118, 40, 91, 93, 44, 65, 44, 65, 41, 46, 10, 114, 101, 118, 40, 91, 65, 124, 66, 93, 44, 67, 44, 68, 41, 58, 45, 114, 101, 118, 40, 66, 44, 91, 65, 124, 67, 93, 44, 68, 41, 46, 10], [98, 97, 100, 40, 65, 41, 58, 45, 66, 32, 105, 115, 32, 65, 43, 102, 111, 111, 44, 67, 61, 66, 46, 10, 98, 105, 103, 40, 65, 41, 58, 45, 65, 32, 105, 115, 32, 57, 57, 57, 43, 49, 46, 10, 117, 110, 40, 65, 41, 58, 45, 110, 111, 115, 117, 99, 104, 40, 65, 41, 46, 10]]
theorem texts_calls (H : Heap) : ACalls Tryz.prog 40 [] H (fun r H' => H' = H ∧ r = .c (.d (.sl (progTexts.map strRow)))) := by
  refine acalls Tryz.func40 (by kernel_rfl) ac40_ok fun hf => ?_
  simp -implicitDefEqProofs [ac40, progTexts, strRow, go_sem, -List.set_cons_succ, -List.set_cons_zero]
theorem linesR_fits : ∀ (L : List (List UInt8)), (∀ l ∈ L, l.length ≤ 1000000) → ∀ p, linesR Tm.wr L = some p → ∀ c ∈ p, c.fits ∧ c.validB = true
  | [], _, p, h => by cases h; simp
  | [a], _, p, h => by cases h; simp
  | a :: b :: L, hl, p, h => by
    rw [linesR_cons] at h
    cases hc : clauseR Tm.wr a with
    | none => rw [hc] at h; cases h
    | some c =>
      cases hr : linesR Tm.wr (b :: L) with
      | none => rw [hc, hr] at h; cases h
      | some q =>
        rw [hc, hr] at h
        cases h
        intro d hd
        rcases List.mem_cons.1 hd with rfl | hd
        · exact clauseR_fits a (hl a (by simp)) hc
        · exact linesR_fits (b :: L) (fun l hm => hl l (by simp [List.mem_cons.1 hm])) q hr d hd
theorem progR_fits (s : List UInt8) (hs : s.length ≤ 1000000) : ∀ c ∈ (progR Tm.wr s).1, c.fits ∧ c.validB = true := by
  unfold progR
  split
  · simp
  · cases hr : linesR Tm.wr (cutAt 10 s) with
    | none => simp
    | some p =>
      exact linesR_fits _ (fun l hl => by have := cut_mem 10 s l hl; omega) p hr
theorem progs_len : (progTexts.map fun t => (progR Tm.wr3 t).1.length) = [2, 2, 5, 2, 2, 5, 2, 2, 2, 2, 3] := by kernel_rfl
theorem prog_len {m : Nat} (h : m < progTexts.length) : 1 ≤ (progR Tm.wr progTexts[m]).1.length ∧ (progR Tm.wr progTexts[m]).1.length ≤ 5 := by
  rw [← progR_eq]
  have h1 : ((progTexts.map fun t => (progR Tm.wr3 t).1.length)[m]?) = some (progR Tm.wr3 progTexts[m]).1.length := by simp [h]
  rw [progs_len] at h1
  have h2 := List.mem_of_getElem? h1
  have key : ∀ x ∈ [2, 2, 5, 2, 2, 5, 2, 2, 2, 2, 3], 1 ≤ x ∧ x ≤ 5 := by decide
  exact key _ h2
/-- a clause, somewhere -/
def ClR (n : Nat) (r : A) : Prop := ∃ c : Cl, r = .agg (c.row.map .d) ∧ c.fits ∧ c.body.length ≤ n
theorem ClR.re {m n : Nat} {r : A} (h : ClR m r) : A.re n r = r := by
  obtain ⟨c, rfl, _⟩ := h
  simp [A.re, re_d]
def PgR (r : A) : Prop := ∃ p : List Cl, r = .c (.d (.sl (p.map Cl.row))) ∧ 1 ≤ p.length ∧ p.length ≤ 5 ∧ ∀ c ∈ p, c.fits ∧ c.validB = true
theorem PgR.re {n : Nat} {r : A} (h : PgR r) : A.re n r = r := by
  obtain ⟨l, rfl, _⟩ := h
  rfl
theorem program_draws : Draws 22 [] 1 PgR := fun c p H i hc hp hp1 hi => by
  refine acalls Tryz.func22 (by kernel_rfl) ac22_ok fun hf => ?_
  simp only [List.length_set] at hf
  have hf0 : ∀ q, Obs.fits H.length 0 (H.set i (Rd c q)) := fun q => fits_reset (b := Rd c q) hf ⟨trivial, trivial, trivial⟩
  have hf1 : ∀ q, Obs.fits (H.set i (Rd c q)).length 0 (H.set i (Rd c q)) := fun q => by simpa using hf0 q
  have hql : progTexts.length = 11 := rfl
  have h11 : inR .i64 (11 : Int) := small_i64 (by omega) (by omega)
  simp -implicitDefEqProofs [ac22, hf0, go_sem, -List.set_cons_succ, -List.set_cons_zero]
  refine qcall_pure texts_calls (hf1 _) rfl ?_
  simp -implicitDefEqProofs [hql, h11, hf0, go_sem, -List.set_cons_succ, -List.set_cons_zero]
  refine call_drawE (pick_draws 11 (by omega)) hc (by omega) (by omega) hi (by simp [Ob.re, C.re]) (fun r => IntIn.re) (hf0 _) ?_
  rintro _ p1 ⟨m, rfl, m0, m1⟩ h1 h2
  have hmlt : m.toNat < progTexts.length := by rw [hql]; omega
  have hql2 : (progTexts[m.toNat]).length ≤ 1000000 := by
    have : ∀ q ∈ progTexts, q.length ≤ 1000 := by decide
    have := this _ (List.getElem_mem hmlt)
    omega
  obtain ⟨g1, g2⟩ := prog_len hmlt
  have g3 := progR_fits _ hql2
  simp -implicitDefEqProofs [hf0, go_sem, -List.set_cons_succ, -List.set_cons_zero]
  refine row_int [.str progTexts[m.toNat]] m0 (by simp [hmlt, strRow]) rfl ?_
  simp -implicitDefEqProofs [hf0, go_sem, -List.set_cons_succ, -List.set_cons_zero]
  refine qcall_pure (ppSpec_calls progTexts[m.toNat] hql2) (hf1 _) (by simp [progA, A.re, A.res, C.re]) ?_
  simp -implicitDefEqProofs [progA, hf0, go_sem, -List.set_cons_succ, -List.set_cons_zero]
  exact ⟨⟨_, rfl, g1, g2, g3⟩, p1, h1, h2, rfl⟩
/-- what is drawn is well-formed -/
theorem drawV : Draws 24 [.c (.d (.int .i64 2))] 80 (TmP (VP 2)) :=
  l1DrawP_draws VP (fun d n h0 h1 => ⟨by simp [Tm.shape, Tm.ownB, shapes, h0, h1], leaf_size d⟩)
    (fun d n h0 h1 => ⟨by simp [Tm.shape, Tm.ownB, shapes, h0, h1], leaf_size d⟩)
    (fun s hs => ⟨struct_shape (names_ok s hs) (by simp) (by simp), by simp [Tm.size, sizes]⟩)
    (fun d s hs l hl h => ⟨struct_shape (names_ok s hs) (by omega) fun t ht => (h t ht).1, by
      have h1 := sizes_of (l := l) fun t ht => (h t ht).2
      have h2 : l.length * 4 ^ d ≤ 3 * 4 ^ d := Nat.mul_le_mul_right _ hl
      have h3 : 0 < 4 ^ d := Nat.pos_of_ne_zero (by simp)
      rw [Tm.size, Nat.pow_succ]
      omega⟩) 2 (by omega)
theorem shape_mono : ∀ t : Tm, ∀ d e : Nat, d ≤ e → t.shape d = true → t.shape e = true := by
  refine Tm.ind fun k n s l ih d e hde h => ?_
  simp only [Tm.shape, Bool.and_eq_true, decide_eq_true_eq] at h ⊢
  obtain ⟨h1, h2, h3⟩ := h
  refine ⟨by omega, h2, ?_⟩
  rw [shapes_all, List.all_eq_true] at h3 ⊢
  exact fun t ht => ih t ht (d - 1) (e - 1) (by omega) (h3 t ht)
theorem VP.valid {s : List UInt8} {l : List Tm} (hs : nameB s = true) (hl : l.length ≤ 4) (h : ∀ t ∈ l, VP 2 t) : (Tm.mk 3 0 s l).valid = true := by
  have h1 := sizes_of (l := l) fun t ht => (h t ht).2
  have h2 : l.length * 4 ^ 2 ≤ 4 * 4 ^ 2 := Nat.mul_le_mul_right _ hl
  have h3 : (Tm.mk 3 0 s l).shape 30 = true := shape_mono _ 4 30 (by omega) (struct_shape hs hl fun t ht => (h t ht).1)
  show ((Tm.mk 3 0 s l).shape 30 && decide ((Tm.mk 3 0 s l).size ≤ 120)) = true
  rw [h3, Bool.true_and, decide_eq_true_eq, Tm.size]
  omega
/-- a valid clause, somewhere -/
def ClT (r : A) : Prop := ∃ c : Cl, r = .agg (c.row.map .d) ∧ c.fits ∧ c.body.length ≤ 6 ∧ c.validB = true
theorem ClT.re {n : Nat} {r : A} (h : ClT r) : A.re n r = r := by
  obtain ⟨c, rfl, _⟩ := h
  simp [A.re, re_d]
theorem clause_draws : Draws 10 [] 600 ClT := fun c p H i hc hp hp1 hi => by
  refine acalls Tryz.func10 (by kernel_rfl) ac10_ok fun hf => ?_
  simp only [List.length_set] at hf
  have hf0 : ∀ q, Obs.fits H.length 0 (H.set i (Rd c q)) := fun q => fits_reset (b := Rd c q) hf ⟨trivial, trivial, trivial⟩
  have hf1 : ∀ q, Obs.fits (H.set i (Rd c q)).length 0 (H.set i (Rd c q)) := fun q => by simpa using hf0 q
  have done : ∀ (d : Cl) (q : Int), p ≤ q → q ≤ p + 600 → d.fits → d.body.length ≤ 6 → d.validB = true → ∀ r, r = .agg (d.row.map .d) → Drew ClT 600 c p H i r (H.set i (Rd c q)) := fun d q a1 a2 a3 a4 a5 r hr => ⟨⟨d, hr, a3, a4, a5⟩, q, a1, a2, rfl⟩
  have hdr := drawV
  simp -implicitDefEqProofs [ac10, hf0, go_sem, -List.set_cons_succ, -List.set_cons_zero]
  refine call_drawE program_draws hc (by omega) (by omega) hi (by simp [Ob.re, C.re]) (fun r => PgR.re) (hf0 _) ?_
  rintro _ p1 ⟨P, rfl, hP1, hP5, hPf⟩ h1 h2
  have hPl : inR .i64 (P.length : Int) := small_i64 (by omega) (by omega)
  simp -implicitDefEqProofs [hf0, go_sem, -List.set_cons_succ, -List.set_cons_zero]
  refine call_drawE (pick_draws 4 (by omega)) hc (by omega) (by omega) hi (by simp [Ob.re, C.re]) (fun r => IntIn.re) (hf0 _) ?_
  rintro _ p2 ⟨m, rfl, m0, m1⟩ h3 h4
  simp -implicitDefEqProofs [hPl, hf0, go_sem, -List.set_cons_succ, -List.set_cons_zero]
  refine ⟨fun hm => ?_, fun hm => ?_⟩
  · refine call_drawE (pick_draws P.length (by omega)) hc (by omega) (by omega) hi (by simp [Ob.re, C.re]) (fun r => IntIn.re) (hf0 _) ?_
    rintro _ p3 ⟨j, rfl, j0, j1⟩ h5 h6
    have hjl : j.toNat < P.length := by omega
    simp -implicitDefEqProofs [hf0, go_sem, -List.set_cons_succ, -List.set_cons_zero]
    refine row_int (P[j.toNat]).row j0 (by simp [hjl]) (crow_len _) ?_
    simp -implicitDefEqProofs [crow_len, take_crow, thaw_d, fits_map, hf0, go_sem, -List.set_cons_succ, -List.set_cons_zero]
    obtain ⟨g1, g2⟩ := hPf _ (List.getElem_mem hjl)
    have g3 := (Cl.validB.parts g2).2.1
    exact done P[j.toNat] p3 (by omega) (by omega) g1 (by omega) g2 _ rfl
  · refine call_drawE (of_draws [[112], [113], [102, 111, 111]] (by decide)) hc (by omega) (by omega) hi (by simp [Ob.re, C.re]) (fun r ⟨n, _, hn⟩ => by subst hn; rfl) (hf0 _) ?_
    rintro _ p3 ⟨s, hs, rfl⟩ h5 h6
    have hsp : nameB s = true ∧ lettersB s = true ∧ levelN s = 0 ∧ builtB s 1 = false := by simp at hs; rcases hs with rfl | rfl | rfl <;> decide
    have hs : s.length ≤ 3 := by simp at hs; rcases hs with rfl | rfl | rfl <;> decide
    refine ⟨LocSame.refl _, ?_⟩
    simp -implicitDefEqProofs [hf0, go_sem, -List.set_cons_succ, -List.set_cons_zero]
    refine call_drawE hdr hc (by omega) (by omega) hi (by simp [Ob.re, C.re]) (fun r => TmP.re) (hf0 _) ?_
    rintro _ p4 ⟨a, rfl, ha, haV⟩ h7 h8
    refine ⟨LocSame.refl _, ?_⟩
    simp -implicitDefEqProofs [row_len, take_row, toDs_map, hf0, go_sem, -List.set_cons_succ, -List.set_cons_zero]
    have hst := struct_calls s [a] (by simp)
    simp only [List.map_cons, List.map_nil] at hst
    refine qcall_pure hst (hf1 _) (by simp [A.re, re_d]) ?_
    have hhd : (Tm.mk 3 0 s [a]).fits := fits_st (by omega) (by simp) (by simpa using ha)
    simp -implicitDefEqProofs [row_mk, hf0, go_sem, -List.set_cons_succ, -List.set_cons_zero]
    refine call_drawE (pick_draws 3 (by omega)) hc (by omega) (by omega) hi (by simp [Ob.re, C.re]) (fun r => IntIn.re) (hf0 _) ?_
    rintro _ p5 ⟨m, rfl, m0, m1⟩ h9 h10
    simp -implicitDefEqProofs [hf0, go_sem, -List.set_cons_succ, -List.set_cons_zero]
    refine loop_enter (St.le_tokenC 1 4 4 rfl rfl) ?_
    refine loop_set (σ := Int × List Tm × Int) (fun x => [(5, .c (.d (.int .i64 x.1)))]) (fun x => H.set i (Rd c x.2.2)) (fun x => [.cells [.d (.int .i64 0), .d (.int .i64 0), .d (.str []), .full [], .full []], .cells [.d (.int .i64 3), .d (.int .i64 0), .d (.str s), .d (.sl [a.row]), .own (.l 2) x.2.1.length (x.2.1.map Tm.row)], .grow x.2.1.length 4])
      (fun x => 0 ≤ x.1 ∧ x.1 + x.2.1.length ≤ 2 ∧ p ≤ x.2.2 ∧ x.2.2 + x.1 * 161 ≤ p + 600 ∧ (∀ t ∈ x.2.1, t.fits) ∧ ∀ t ∈ x.2.1, t.goal = true) (fun x => x.1.toNat) (m, [], p5) rfl ⟨m0, by simp; omega, by simp; omega, by simp; omega, by simp, by simp⟩ ?_
    rintro ⟨m, l, q⟩ ⟨i0, i1, i2, i3, i4, i5⟩
    simp only at i0 i1 i2 i3 i4 i5
    have hsubm : inR .i64 (m - 1) := small_i64 (by omega) (by omega)
    simp -implicitDefEqProofs [setAll, hf0, hsubm, go_sem, -List.set_cons_succ, -List.set_cons_zero]
    refine ⟨fun hlt => ?_, fun hge => ?_⟩
    · refine call_drawE (of_draws [[112], [61], [60], [113]] (by decide)) hc (by omega) (by omega) hi (by simp [Ob.re, C.re]) (fun r ⟨n, _, hn⟩ => by subst hn; rfl) (hf0 _) ?_
      rintro _ q1 ⟨s2, hs2, rfl⟩ k1 k2
      have hsq : nameB s2 = true ∧ ((lettersB s2 && (levelN s2 == 0 && !builtB s2 2)) || builtB s2 2) = true := by simp at hs2; rcases hs2 with rfl | rfl | rfl | rfl <;> decide
      have hs2 : s2.length ≤ 3 := by simp at hs2; rcases hs2 with rfl | rfl | rfl | rfl <;> decide
      refine ⟨LocSame.refl _, ?_⟩
      simp -implicitDefEqProofs [hf0, go_sem, -List.set_cons_succ, -List.set_cons_zero]
      refine call_drawE hdr hc (by omega) (by omega) hi (by simp [Ob.re, C.re]) (fun r => TmP.re) (hf0 _) ?_
      rintro _ q2 ⟨u, rfl, hu, huV⟩ k3 k4
      refine ⟨LocSame.refl _, ?_⟩
      simp -implicitDefEqProofs [hf0, go_sem, -List.set_cons_succ, -List.set_cons_zero]
      refine call_drawE hdr hc (by omega) (by omega) hi (by simp [Ob.re, C.re]) (fun r => TmP.re) (hf0 _) ?_
      rintro _ q3 ⟨w, rfl, hw, hwV⟩ k5 k6
      refine ⟨LocSame.refl _, ?_⟩
      simp -implicitDefEqProofs [row_len, take_row, toDs_map, hf0, go_sem, -List.set_cons_succ, -List.set_cons_zero]
      have hst2 := struct_calls s2 [u, w] (by simp)
      simp only [List.map_cons, List.map_nil] at hst2
      refine qcall_pure hst2 (hf1 _) (by simp [A.re, re_d]) ?_
      simp -implicitDefEqProofs [row_len, take_row, toDs_map, hf0, hsubm, go_sem, -List.set_cons_succ, -List.set_cons_zero]
      refine ⟨allLen_map row_len, by unfold maxApp; omega, ?_⟩
      refine loop_back (m - 1, l ++ [.mk 3 0 s2 [u, w]], q3) (by simp [setAll]) ⟨by simp; omega, by simp; omega, by simp; omega, by simp; omega, fun t ht => ?_, fun t ht => ?_⟩ (by show (m - 1).toNat < m.toNat; omega)
      · rcases List.mem_append.1 ht with ht | ht
        · exact i4 t ht
        · simp at ht; subst ht; exact fits_st (by omega) (by simp) (by simp [hu, hw])
      · rcases List.mem_append.1 ht with ht | ht
        · exact i5 t ht
        · simp at ht; subst ht
          have hv2 : (Tm.mk 3 0 s2 [u, w]).valid = true := VP.valid hsq.1 (by simp) (by simp [huV, hwV])
          have h5 := hsq.2
          simp only [Tm.goal, hv2, Tm.plain, Tm.built, Tm.k, Tm.s, Tm.kids, List.length_cons, List.length_nil, Bool.true_and]
          have e2 : ((0 + 1 + 1 : Nat) : Int) = 2 := rfl
          simp only [decide_true, Bool.true_and]
          rw [e2, h5, Bool.true_or]
    · exact done ⟨.mk 3 0 s [a], l⟩ q i2 (by omega) ⟨hhd, by show l.length ≤ 1048576; omega, i4⟩ (by show l.length ≤ 6; omega) (by
      have hv1 : (Tm.mk 3 0 s [a]).valid = true := VP.valid hsp.1 (by simp) (by simpa using haV)
      simp [Cl.validB, goalsB, hv1, Tm.plain, Tm.k, Tm.s, Tm.kids, hsp.2.1, hsp.2.2.1, hsp.2.2.2]
      exact ⟨by omega, i5⟩) _ (by simp [Cl.row, Tm.k, Tm.n, Tm.s, Tm.kids])
end Go.Proofs.YtnljciooabmogaaGreatDoor

/-
  Instructions as data.
  Conditions: none.
-/
open Go Go.AM Go.Proofs
namespace Go.Proofs.YtnljciooabmogaaGreatDoor
open Go.ChangeShapes Go.WideShapes Go.ChangeAt Go.RowKit
set_option linter.unusedVariables false
set_option linter.unusedSimpArgs false
set_option maxRecDepth 100000
/-- an instruction -/
structure Ins where
  op : Int
  a : Int
  b : Int
  text : List UInt8
def Ins.row (x : Ins) : List D := [.int .i64 x.op, .int .i64 x.a, .int .i64 x.b, .str x.text]
structure Ins.ok (x : Ins) : Prop where
  op : inR .i64 x.op
  a : inR .i64 x.a
  b : inR .i64 x.b
  text : x.text.length ≤ reachBytes
end Go.Proofs.YtnljciooabmogaaGreatDoor

/-
  Code as it is made: the plain law.
  Conditions: none.
-/
open Go Go.AM Go.Proofs
namespace Go.Proofs.YtnljciooabmogaaGreatDoor
open Go.ChangeShapes Go.WideShapes Go.ChangeAt Go.RowKit
set_option linter.unusedVariables false
set_option linter.unusedSimpArgs false
set_option maxRecDepth 100000
/-- what is known while code is made: the slots of variables, the next slot, the rows of the code -/
structure Mk where
  sl : List (Int × Nat)
  next : Nat
  code : List (List D)
def slotO (m : List (Int × Nat)) (n : Int) : Option Nat := (m.find? fun p => p.1 == n).map (·.2)
def insR (op a b : Int) (s : List UInt8) : List D := [.int .i64 op, .int .i64 a, .int .i64 b, .str s]
def Mk.emit (M : Mk) (op a b : Int) (s : List UInt8) : Mk := ⟨M.sl, M.next, M.code ++ [insR op a b s]⟩
def Mk.give (M : Mk) (n : Int) (v : Nat) : Mk := ⟨M.sl ++ [(n, v)], M.next, M.code⟩
def Mk.bump (M : Mk) : Mk := ⟨M.sl, M.next + 1, M.code⟩
/-- an argument of a structure that is no structure -/
def Mk.desc (M : Mk) (t : Tm) : Mk := if t.k = 2 then M.emit 6 t.n 0 [] else match slotO M.sl t.n with
  | some v => M.emit 5 v 0 []
  | none => ((M.give t.n M.next).emit 4 M.next 0 []).bump
def argsT : List Tm → Mk → Mk × List (Tm × Nat)
  | [], M => (M, [])
  | t :: l, M => if t.k = 3 then ((argsT l (M.emit 4 M.next 0 []).bump).1, (t, M.next) :: (argsT l (M.emit 4 M.next 0 []).bump).2) else argsT l (M.desc t)
/-- the structures that are left -/
def headQ : Nat → List (Tm × Nat) → Mk → Mk
  | _, [], M => M
  | 0, _ :: _, M => M
  | f + 1, p :: q, M => headQ f (q ++ (argsT p.1.kids (M.emit 3 p.1.kids.length p.2 p.1.s)).2) (argsT p.1.kids (M.emit 3 p.1.kids.length p.2 p.1.s)).1
def qsize (q : List (Tm × Nat)) : Nat := (q.map fun p => p.1.size).sum
/-- the arguments of a head, from the i-th on -/
def headA : List Tm → Nat → Mk → Mk × List (Tm × Nat)
  | [], _, M => (M, [])
  | t :: l, i, M => if t.k = 2 then headA l (i + 1) (M.emit 2 t.n i [])
    else if t.k = 1 then headA l (i + 1) (match slotO M.sl t.n with | some v => M.emit 1 v i [] | none => M.give t.n i)
    else ((headA l (i + 1) M).1, (t, i) :: (headA l (i + 1) M).2)
def headT (l : List Tm) (M : Mk) : Mk := headQ (qsize (headA l 0 M).2) (headA l 0 M).2 (headA l 0 M).1
/-- what stands behind the instruction of a structure that is built -/
def partsT : List Tm → List Int → Mk → Mk
  | t :: l, b :: bs, M => partsT l bs (if t.k = 3 then M.emit 5 b 0 [] else M.desc t)
  | _, _, M => M
mutual
def buildT : Tm → Mk → Mk × Nat
  | .mk k n s l, M => (partsT l (buildL l M).2 ((buildL l M).1.bump.emit 7 l.length (buildL l M).1.next s), (buildL l M).1.next)
def buildL : List Tm → Mk → Mk × List Int
  | [], M => (M, [])
  | t :: l, M => if t.k = 3 then ((buildL l (buildT t M).1).1, ((buildT t M).2 : Int) :: (buildL l (buildT t M).1).2) else ((buildL l M).1, (-1) :: (buildL l M).2)
end
def putT (M : Mk) (t : Tm) (i : Nat) : Mk := if t.k = 2 then M.emit 10 t.n i []
  else if t.k = 1 then (match slotO M.sl t.n with | some v => M.emit 9 v i [] | none => ((M.give t.n M.next).bump).emit 8 M.next i [])
  else (buildT t M).1.emit 9 (buildT t M).2 i []
def putsT : List Tm → Nat → Mk → Mk
  | [], _, M => M
  | t :: l, i, M => putsT l (i + 1) (putT M t i)
/-- everything is small -/
structure Mk.fit (M : Mk) (B : Nat) : Prop where
  next : M.next ≤ B
  code : M.code.length ≤ B
  vals : ∀ p ∈ M.sl, p.2 ≤ B
  rows : ∀ r ∈ M.code, ∃ x : Ins, r = x.row
theorem Mk.fit.all {M : Mk} {B : Nat} (h : M.fit B) : allLen 4 M.code := fun r hr => by obtain ⟨x, rfl⟩ := h.rows r hr; rfl
theorem Mk.fit.mono {M : Mk} {B C : Nat} (h : M.fit B) (hb : B ≤ C) : M.fit C :=
  ⟨by have := h.next; omega, by have := h.code; omega, fun p hp => by have := h.vals p hp; omega, h.rows⟩
theorem Mk.fit.emit {M : Mk} {B : Nat} (h : M.fit B) (op a b : Int) (s : List UInt8) : (M.emit op a b s).fit (B + 1) := by
  refine ⟨by have := h.next; show M.next ≤ _; omega, by have := h.code; simp [Mk.emit]; omega, fun p hp => by have := h.vals p hp; omega, fun r hr => ?_⟩
  rcases List.mem_append.1 hr with hr | hr
  · exact h.rows r hr
  · simp at hr; exact ⟨⟨op, a, b, s⟩, hr⟩
theorem Mk.fit.give {M : Mk} {B : Nat} (h : M.fit B) (n : Int) (v : Nat) (hv : v ≤ B) : (M.give n v).fit B := by
  refine ⟨h.next, h.code, fun p hp => ?_, h.rows⟩
  rcases List.mem_append.1 hp with hp | hp
  · exact h.vals p hp
  · simp at hp; subst hp; exact hv
theorem Mk.fit.bump {M : Mk} {B : Nat} (h : M.fit B) : M.bump.fit (B + 1) :=
  ⟨by have := h.next; show M.next + 1 ≤ _; omega, by have := h.code; show M.code.length ≤ _; omega, fun p hp => by have := h.vals p hp; omega, h.rows⟩
theorem slotO_mem {m : List (Int × Nat)} {n : Int} {v : Nat} (h : slotO m n = some v) : (n, v) ∈ m := by
  simp only [slotO, Option.map_eq_some_iff] at h
  obtain ⟨p, h1, rfl⟩ := h
  have h2 := List.find?_some h1
  have h3 := List.mem_of_find?_eq_some h1
  simp at h2
  rw [← h2]; exact h3
theorem Mk.fit.desc {M : Mk} {B : Nat} (h : M.fit B) (t : Tm) : (M.desc t).fit (B + 2) := by
  unfold Mk.desc
  split
  · exact (h.emit ..).mono (by omega)
  · split
    · exact (h.emit ..).mono (by omega)
    · exact ((h.give _ _ h.next).emit ..).bump
theorem args_fit : ∀ (l : List Tm) (M : Mk) (B : Nat), M.fit B → (argsT l M).1.fit (B + 2 * l.length) ∧ ∀ p ∈ (argsT l M).2, p.1 ∈ l ∧ p.1.k = 3 ∧ p.2 ≤ B + 2 * l.length
  | [], M, B, h => ⟨by simpa [argsT] using h, by simp [argsT]⟩
  | t :: l, M, B, h => by
    unfold argsT
    split
    · rename_i hk
      have ih := args_fit l _ _ (h.emit 4 M.next 0 []).bump
      refine ⟨ih.1.mono (by simp; omega), fun p hp => ?_⟩
      rcases List.mem_cons.1 hp with rfl | hp
      · exact ⟨by simp, hk, by have := h.next; simp; omega⟩
      · obtain ⟨h1, h2, h3⟩ := ih.2 p hp
        exact ⟨by simp [h1], h2, by simp; omega⟩
    · have ih := args_fit l _ _ (h.desc t)
      refine ⟨ih.1.mono (by simp; omega), fun p hp => ?_⟩
      obtain ⟨h1, h2, h3⟩ := ih.2 p hp
      exact ⟨by simp [h1], h2, by simp; omega⟩
theorem parts_fit : ∀ (l : List Tm) (bs : List Int) (M : Mk) (B : Nat), M.fit B → (partsT l bs M).fit (B + 2 * l.length)
  | [], _, M, B, h => by simpa [partsT] using h
  | t :: l, [], M, B, h => by simpa [partsT] using h.mono (by omega)
  | t :: l, b :: bs, M, B, h => by
    unfold partsT
    refine (parts_fit l bs _ (B + 2) ?_).mono (by simp; omega)
    split
    · exact (h.emit ..).mono (by omega)
    · exact h.desc t
theorem buildL_len : ∀ (l : List Tm) (M : Mk), (buildL l M).2.length = l.length
  | [], M => by simp [buildL]
  | t :: l, M => by
    unfold buildL
    split <;> simp [buildL_len l]
/-- how much a structure that is built adds -/
theorem build_fit4 : ∀ (t : Tm) (M : Mk) (B : Nat), M.fit B → ∃ C, (buildT t M).1.fit C ∧ (buildT t M).2 ≤ C ∧ C + 4 ≤ B + 6 * t.size := by
  refine Tm.ind fun k n s l ih M B h => ?_
  have key : ∀ (l : List Tm), (∀ t ∈ l, ∀ (M : Mk) (B : Nat), M.fit B → ∃ C, (buildT t M).1.fit C ∧ (buildT t M).2 ≤ C ∧ C + 4 ≤ B + 6 * t.size) → ∀ (M : Mk) (B : Nat), M.fit B → ∃ C, (buildL l M).1.fit C ∧ C + 4 * l.length ≤ B + 6 * sizes l := by
    intro l
    induction l with
    | nil => intro _ M B h; exact ⟨B, by simpa [buildL] using h, by simp [sizes]⟩
    | cons t l ih2 =>
      intro hh M B h
      have hs := size_pos t
      unfold buildL
      split
      · obtain ⟨C, h1, _, h2⟩ := hh t (by simp) M B h
        obtain ⟨C2, h3, h4⟩ := ih2 (fun u hu => hh u (by simp [hu])) _ _ h1
        exact ⟨C2, h3, by simp [sizes]; omega⟩
      · obtain ⟨C2, h3, h4⟩ := ih2 (fun u hu => hh u (by simp [hu])) _ _ h
        exact ⟨C2, h3, by simp [sizes]; omega⟩
  obtain ⟨C, h1, hC⟩ := key l ih M B h
  have h2 := (h1.bump.emit 7 l.length (buildL l M).1.next s)
  have h3 := parts_fit l (buildL l M).2 _ _ h2
  have h5 := h1.next
  unfold buildT
  exact ⟨_, h3, by simp only; omega, by simp [Tm.size]; omega⟩
theorem build_fit (t : Tm) (M : Mk) (B : Nat) (h : M.fit B) : (buildT t M).1.fit (B + 6 * t.size) ∧ (buildT t M).2 ≤ B + 6 * t.size := by
  obtain ⟨C, h1, h2, h3⟩ := build_fit4 t M B h
  exact ⟨h1.mono (by omega), by omega⟩
theorem put_fit {M : Mk} {B : Nat} (h : M.fit B) (t : Tm) (i : Nat) : (putT M t i).fit (B + 6 * t.size + 2) := by
  unfold putT
  split
  · exact (h.emit ..).mono (by omega)
  · split
    · split
      · exact (h.emit ..).mono (by omega)
      · exact ((h.give _ _ h.next).bump.emit ..).mono (by omega)
    · exact ((build_fit t M B h).1.emit ..).mono (by omega)
theorem args_size : ∀ (l : List Tm) (M : Mk), 2 * l.length + 6 * qsize (argsT l M).2 ≤ 6 * sizes l + 4 * (argsT l M).2.length ∧ qsize (argsT l M).2 ≤ sizes l
  | [], M => by simp [argsT, qsize, sizes]
  | t :: l, M => by
    have hp := size_pos t
    unfold argsT
    split
    · have ih := args_size l (M.emit 4 M.next 0 []).bump
      simp only [qsize, List.map_cons, List.sum_cons, List.length_cons, sizes] at ih ⊢
      omega
    · have ih := args_size l (M.desc t)
      simp only [List.length_cons, sizes] at ih ⊢
      omega
theorem qsize_pos (q : List (Tm × Nat)) : q.length ≤ qsize q := by
  induction q with
  | nil => simp [qsize]
  | cons p q ih =>
    have := size_pos p.1
    simp only [qsize, List.map_cons, List.sum_cons, List.length_cons] at ih ⊢
    omega
theorem headA_fit : ∀ (l : List Tm) (i : Nat) (M : Mk) (B : Nat), M.fit B → i + l.length ≤ B → (headA l i M).1.fit (B + l.length) ∧ (∀ p ∈ (headA l i M).2, p.1 ∈ l ∧ p.1.k ≠ 2 ∧ p.1.k ≠ 1) ∧ qsize (headA l i M).2 ≤ sizes l ∧ (headA l i M).2.length ≤ l.length
  | [], _, M, B, h, _ => by simpa [headA, qsize, sizes] using h
  | t :: l, i, M, B, h, hi => by
    simp only [List.length_cons] at hi ⊢
    unfold headA
    split
    · obtain ⟨h1, h2, h3, h4⟩ := headA_fit l (i + 1) _ (B + 1) (h.emit 2 t.n i []) (by omega)
      exact ⟨h1.mono (by omega), fun p hp => ⟨by simp [(h2 p hp).1], (h2 p hp).2⟩, by simp only [sizes]; omega, by omega⟩
    · split
      · have hf : Mk.fit (match slotO M.sl t.n with | some v => M.emit 1 v i [] | none => M.give t.n i) (B + 1) := by
          split
          · exact h.emit ..
          · exact (h.give _ _ (by omega)).mono (by omega)
        obtain ⟨h1, h2, h3, h4⟩ := headA_fit l (i + 1) _ (B + 1) hf (by omega)
        exact ⟨h1.mono (by omega), fun p hp => ⟨by simp [(h2 p hp).1], (h2 p hp).2⟩, by simp only [sizes]; omega, by omega⟩
      · rename_i k2 k1
        obtain ⟨h1, h2, h3, h4⟩ := headA_fit l (i + 1) M (B + 1) (h.mono (by omega)) (by omega)
        refine ⟨h1.mono (by omega), fun p hp => ?_, by simp only [qsize, List.map_cons, List.sum_cons, sizes] at h3 ⊢; omega, by simp; omega⟩
        rcases List.mem_cons.1 hp with rfl | hp
        · exact ⟨by simp, k2, k1⟩
        · exact ⟨by simp [(h2 p hp).1], (h2 p hp).2⟩
/-- the slots as the reference keeps them -/
def slotsR (m : List (Int × Nat)) : List (List D) := (List.range 26).map fun i : Nat => [.int .i64 (match slotO m i with | some v => (v : Int) | none => -1)]
theorem slotsR_len (m : List (Int × Nat)) : (slotsR m).length = 26 := by simp [slotsR]
theorem slotsR_all (m : List (Int × Nat)) : allLen 1 (slotsR m) := allLen_map fun _ => rfl
theorem slotsR_get (m : List (Int × Nat)) {i : Nat} (h : i < 26) : (slotsR m)[i]? = some [.int .i64 (match slotO m i with | some v => (v : Int) | none => -1)] := by
  simp [slotsR, h]
theorem slotO_snoc (m : List (Int × Nat)) (n k : Int) (v : Nat) (h : slotO m n = none) : slotO (m ++ [(n, v)]) k = if k = n then some v else slotO m k := by
  unfold slotO at h ⊢
  rw [List.find?_append]
  by_cases hk : k = n
  · subst hk
    simp only [Option.map_eq_none_iff] at h
    simp [h]
  · have hk' : ¬ n = k := fun e => hk e.symm
    simp [hk, hk']
theorem slotsR_set (m : List (Int × Nat)) (n v : Nat) (hn : n < 26) (h : slotO m n = none) : (slotsR m).set n [.int .i64 v] = slotsR (m ++ [((n : Int), v)]) := by
  refine List.ext_getElem? fun i => ?_
  rcases Nat.lt_or_ge i 26 with hi | hi
  · rw [slotsR_get _ hi, slotO_snoc m n i v h, List.getElem?_set]
    by_cases he : n = i
    · subst he
      simp [slotsR_len, hn]
    · have : ¬ ((i : Int) = n) := by omega
      rw [if_neg he, slotsR_get _ hi, if_neg this]
  · rw [List.getElem?_eq_none (by simp [slotsR_len]; omega), List.getElem?_eq_none (by simp [slotsR_len]; omega)]
/-- the slots as the program keeps them -/
def slotsM (m : List (Int × Nat)) : List (Int × List D) := m.map fun p => (p.1, [.int .i64 p.2])
end Go.Proofs.YtnljciooabmogaaGreatDoor

/-
  Code as the reference makes it.
  Conditions: none.
-/
open Go Go.AM Go.Proofs
namespace Go.Proofs.YtnljciooabmogaaGreatDoor
open Go.ChangeShapes Go.WideShapes Go.ChangeAt Go.RowKit
set_option linter.unusedVariables false
set_option linter.unusedSimpArgs false
set_option maxRecDepth 100000
-- 21 loop.example/prologserver/spec.l8Start params 0 ntmps 14
-- loop head live: [0,1,2]
def ac21 : Cd := .seq (.region [⟨(some 0),.alloc [(.full []),(.d (.int .i64 0)),(.full [])],none⟩] [])
 (.seq (.region [⟨(some 3),.build [(.full []),(.d (.int .i64 0)),(.full [])] [(1,1,(.k (.c (.d (.int .i64 4)))))],none⟩,
 ⟨(some 1),.alloc [(.full []),(.d (.int .i64 0)),(.full [])],none⟩,
 ⟨none,.store 3 (.t 1) (.t 3),none⟩] [3])
 (.seq (.seq (.region [⟨(some 2),.mv (.k (.c (.d (.int .i64 0)))),none⟩] [])
 (.block 0 (.loop (.seq (.seq (.region [⟨(some 4),.mv (.t 2),none⟩,
 ⟨(some 5),.bin .leq (.t 4) (.k (.c (.d (.int .i64 25)))),none⟩] [4])
 (.cond (.t 5)
 (.skip)
 (.exit 0)))
 (.seq (.block 1 (.region [⟨(some 8),.fieldAddr 0 (.t 1),none⟩,
 ⟨(some 9),.load none (.t 8),none⟩,
 ⟨(some 10),.buildSlice 1 1 [(.int .i64 0)] [(0,(.k (.c (.d (.int .i64 (-1))))))],none⟩,
 ⟨(some 11),.append false 1 (.t 9) (.t 10),none⟩,
 ⟨(some 12),.fieldAddr 0 (.t 1),none⟩,
 ⟨none,.store 1 (.t 12) (.t 11),none⟩] [5,8,9,10,11,12]))
 (.region [⟨(some 6),.mv (.t 2),none⟩,
 ⟨(some 7),.bin .add (.t 6) (.k (.c (.d (.int .i64 1)))),none⟩,
 ⟨(some 2),.mv (.t 7),none⟩] [6,7]))))))
 (.seq (.region [⟨(some 13),.load (some 3) (.t 1),none⟩,
 ⟨none,.store 3 (.t 0) (.t 13),none⟩] [1,13])
 (.ret))))
theorem ac21_ok : cFunc Tryz.prog [] [(0,[],[]),(1,[3],[]),(2,[],[]),(3,[4],[]),(5,[5,8,9,10,11,12],[]),(4,[6,7],[]),(6,[1,13],[])] Tryz.f21 = some (ac21,[.cell 0 (some 3)],14) := by kernel_rfl
-- 35 loop.example/prologserver/spec.l8Emit params 2 ntmps 14
def ac35 : Cd := .seq (.region [⟨(some 2),.box (.t 0),none⟩,
 ⟨(some 3),.box (.t 1),none⟩,
 ⟨(some 4),.alloc [(.full []),(.d (.int .i64 0)),(.full [])],none⟩] [0,1])
 (.seq (.region [⟨(some 5),.buildSlice 4 0 [(.int .i64 0),(.int .i64 0),(.int .i64 0),(.str [])] [],none⟩,
 ⟨(some 6),.fieldAddr 2 (.t 2),none⟩,
 ⟨(some 7),.load none (.t 6),none⟩,
 ⟨(some 9),.load (some 4) (.t 3),none⟩,
 ⟨(some 10),.buildSlice 4 1 [(.int .i64 0),(.int .i64 0),(.int .i64 0),(.str [])] [(0,(.t 9))],none⟩,
 ⟨(some 8),.append false 4 (.t 5) (.t 7),none⟩,
 ⟨(some 11),.append false 4 (.t 8) (.t 10),none⟩,
 ⟨(some 12),.fieldAddr 2 (.t 2),none⟩,
 ⟨none,.store 1 (.t 12) (.t 11),none⟩] [3,5,6,7,8,9,10,11,12])
 (.seq (.region [⟨(some 13),.load (some 3) (.t 2),none⟩,
 ⟨none,.store 3 (.t 4) (.t 13),none⟩] [2,13])
 (.ret)))
theorem ac35_ok : cFunc Tryz.prog [] [(0,[0,1],[]),(1,[3,5,6,7,8,9,10,11,12],[0,1,2,4,5,3,6,7,8]),(2,[2,13],[])] Tryz.f35 = some (ac35,[.cell 4 (some 3)],14) := by kernel_rfl
-- 38 loop.example/prologserver/spec.l8Slot params 3 ntmps 18
def ac38 : Cd := .seq (.region [⟨(some 3),.box (.t 0),none⟩,
 ⟨(some 6),.alloc [(.full []),(.d (.int .i64 0)),(.full [])],none⟩] [0])
 (.seq (.region [⟨(some 7),.buildSlice 1 0 [(.int .i64 0)] [],none⟩,
 ⟨(some 8),.fieldAddr 0 (.t 3),none⟩,
 ⟨(some 9),.load none (.t 8),none⟩,
 ⟨(some 10),.appendF 1 (.t 7) (.t 9),none⟩,
 ⟨(some 11),.fieldAddr 0 (.t 3),none⟩,
 ⟨none,.store 1 (.t 11) (.t 10),none⟩] [7,8,9,10,11])
 (.seq (.region [⟨(some 12),.fieldAddr 0 (.t 3),none⟩,
 ⟨(some 13),.load none (.t 12),none⟩,
 ⟨(some 14),.mv (.t 1),none⟩,
 ⟨(some 15),.mv (.t 2),none⟩,
 ⟨(some 16),.indexAddr 1 (.t 13) (.t 14),none⟩,
 ⟨none,.store 1 (.t 16) (.t 15),none⟩] [1,2,12,13,14,15,16])
 (.seq (.region [⟨(some 17),.load (some 3) (.t 3),none⟩,
 ⟨none,.store 3 (.t 6) (.t 17),none⟩] [3,17])
 (.ret))))
theorem ac38_ok : cFunc Tryz.prog [3000007] [(0,[0],[]),(1,[7,8,9,10,11],[]),(2,[1,2,12,13,14,15,16],[]),(3,[3,17],[])] Tryz.f38 = some (ac38,[.cell 6 (some 3)],18) := by kernel_rfl
-- 39 loop.example/prologserver/spec.l8Args params 2 ntmps 88
-- loop head live: [1,2,4,6,7]
def ac39 : Cd := .seq (.region [⟨(some 2),.box (.t 0),none⟩,
 ⟨(some 4),.alloc [(.full []),(.d (.int .i64 0)),(.full [])],none⟩,
 ⟨(some 5),.mv (.k (.c (.full []))),none⟩] [0,5])
 (.seq (.region [⟨(some 9),.buildSlice 5 0 [(.int .i64 0),(.int .i64 0),(.str []),(.sl []),(.int .i64 0)] [],none⟩,
 ⟨(some 6),.mv (.t 9),none⟩] [9])
 (.seq (.seq (.region [⟨(some 7),.mv (.k (.c (.d (.int .i64 0)))),none⟩] [])
 (.block 0 (.loop (.seq (.seq (.region [⟨(some 10),.mv (.t 7),none⟩,
 ⟨(some 11),.mv (.t 1),none⟩,
 ⟨(some 12),.len 1 (.t 11),none⟩,
 ⟨(some 13),.bin .lss (.t 10) (.t 12),none⟩] [10,11,12])
 (.cond (.t 13)
 (.skip)
 (.exit 0)))
 (.seq (.block 1 (.seq (.region [⟨(some 16),.mv (.t 1),none⟩,
 ⟨(some 17),.mv (.t 7),none⟩,
 ⟨(some 18),.indexAddr 4 (.t 16) (.t 17),none⟩,
 ⟨(some 19),.load (some 4) (.t 18),none⟩,
 ⟨(some 8),.alloc [(.d (.int .i64 0)),(.d (.int .i64 0)),(.d (.str [])),(.full [])],none⟩,
 ⟨none,.store 4 (.t 8) (.t 19),none⟩] [13,16,17,18,19])
 (.block 2 (.seq (.region [⟨(some 37),.fieldAddr 0 (.t 8),none⟩,
 ⟨(some 38),.load none (.t 37),none⟩,
 ⟨(some 39),.bin .eql (.t 38) (.k (.c (.d (.int .i64 2)))),none⟩,
 ⟨(some 36),.mv (.t 39),none⟩] [37,38,39])
 (.cond (.t 36)
 (.region [⟨(some 40),.load (some 3) (.t 2),none⟩,
 ⟨(some 41),.fieldAddr 1 (.t 8),none⟩,
 ⟨(some 42),.load none (.t 41),none⟩,
 ⟨(some 43),.build [(.d (.int .i64 0)),(.d (.int .i64 0)),(.d (.int .i64 0)),(.d (.str []))] [(0,1,(.k (.c (.d (.int .i64 6))))),(1,1,(.t 42))],none⟩,
 ⟨(some 44),.qcall 35 [(.t 40),(.t 43)],none⟩,
 ⟨none,.store 3 (.t 2) (.t 44),none⟩] [8,36,40,41,42,43,44])
 (.seq (.region [⟨(some 46),.fieldAddr 0 (.t 8),none⟩,
 ⟨(some 47),.load none (.t 46),none⟩,
 ⟨(some 48),.bin .eql (.t 47) (.k (.c (.d (.int .i64 1)))),none⟩,
 ⟨(some 49),.mv (.t 48),none⟩,
 ⟨(some 50),.fieldAddr 0 (.t 2),some (49,true)⟩,
 ⟨(some 51),.load none (.t 50),some (49,true)⟩,
 ⟨(some 52),.fieldAddr 1 (.t 8),some (49,true)⟩,
 ⟨(some 53),.load none (.t 52),some (49,true)⟩,
 ⟨(some 54),.indexAddr 1 (.t 51) (.t 53),some (49,true)⟩,
 ⟨(some 55),.load none (.t 54),some (49,true)⟩,
 ⟨(some 56),.bin .geq (.t 55) (.k (.c (.d (.int .i64 0)))),some (49,true)⟩,
 ⟨(some 57),.pick (.t 49) (.t 56) (.k (.c (.d (.bool false)))),none⟩,
 ⟨(some 45),.mv (.t 57),none⟩] [36,46,47,48,49,50,51,52,53,54,55,56,57])
 (.cond (.t 45)
 (.region [⟨(some 59),.fieldAddr 0 (.t 2),none⟩,
 ⟨(some 61),.fieldAddr 1 (.t 8),none⟩,
 ⟨(some 58),.load (some 3) (.t 2),none⟩,
 ⟨(some 60),.load none (.t 59),none⟩,
 ⟨(some 62),.load none (.t 61),none⟩,
 ⟨(some 63),.indexAddr 1 (.t 60) (.t 62),none⟩,
 ⟨(some 64),.load none (.t 63),none⟩,
 ⟨(some 65),.build [(.d (.int .i64 0)),(.d (.int .i64 0)),(.d (.int .i64 0)),(.d (.str []))] [(0,1,(.k (.c (.d (.int .i64 5))))),(1,1,(.t 64))],none⟩,
 ⟨(some 66),.qcall 35 [(.t 58),(.t 65)],none⟩,
 ⟨none,.store 3 (.t 2) (.t 66),none⟩] [8,45,58,59,60,61,62,63,64,65,66])
 (.seq (.region [⟨(some 68),.fieldAddr 0 (.t 8),none⟩,
 ⟨(some 69),.load none (.t 68),none⟩,
 ⟨(some 70),.bin .eql (.t 69) (.k (.c (.d (.int .i64 1)))),none⟩,
 ⟨(some 67),.mv (.t 70),none⟩] [45,68,69,70])
 (.cond (.t 67)
 (.seq (.region [⟨(some 71),.load (some 3) (.t 2),none⟩,
 ⟨(some 72),.fieldAddr 1 (.t 8),none⟩,
 ⟨(some 73),.load none (.t 72),none⟩,
 ⟨(some 74),.fieldAddr 1 (.t 2),none⟩,
 ⟨(some 75),.load none (.t 74),none⟩,
 ⟨(some 76),.qcall 38 [(.t 71),(.t 73),(.t 75)],none⟩,
 ⟨none,.store 3 (.t 2) (.t 76),none⟩] [8,67,71,72,73,74,75,76])
 (.seq (.region [⟨(some 77),.load (some 3) (.t 2),none⟩,
 ⟨(some 78),.fieldAddr 1 (.t 2),none⟩,
 ⟨(some 79),.load none (.t 78),none⟩,
 ⟨(some 80),.build [(.d (.int .i64 0)),(.d (.int .i64 0)),(.d (.int .i64 0)),(.d (.str []))] [(0,1,(.k (.c (.d (.int .i64 4))))),(1,1,(.t 79))],none⟩,
 ⟨(some 81),.qcall 35 [(.t 77),(.t 80)],none⟩,
 ⟨none,.store 3 (.t 2) (.t 81),none⟩] [77,78,79,80,81])
 (.region [⟨(some 82),.fieldAddr 1 (.t 2),none⟩,
 ⟨(some 83),.load none (.t 82),none⟩,
 ⟨(some 84),.bin .add (.t 83) (.k (.c (.d (.int .i64 1)))),none⟩,
 ⟨(some 85),.fieldAddr 1 (.t 2),none⟩,
 ⟨none,.store 1 (.t 85) (.t 84),none⟩] [82,83,84,85])))
 (.seq (.region [⟨(some 20),.mv (.t 6),none⟩,
 ⟨(some 21),.load (some 4) (.t 8),none⟩,
 ⟨(some 22),.fieldAddr 1 (.t 2),none⟩,
 ⟨(some 23),.load none (.t 22),none⟩,
 ⟨(some 24),.build [(.d (.int .i64 0)),(.d (.int .i64 0)),(.d (.str [])),(.full []),(.d (.int .i64 0))] [(0,4,(.t 21)),(4,1,(.t 23))],none⟩,
 ⟨(some 25),.buildSlice 5 1 [(.int .i64 0),(.int .i64 0),(.str []),(.sl []),(.int .i64 0)] [(0,(.t 24))],none⟩,
 ⟨(some 26),.append false 5 (.t 20) (.t 25),none⟩,
 ⟨(some 6),.mv (.t 26),none⟩] [8,20,21,22,23,24,25,26,67])
 (.seq (.region [⟨(some 27),.load (some 3) (.t 2),none⟩,
 ⟨(some 28),.fieldAddr 1 (.t 2),none⟩,
 ⟨(some 29),.load none (.t 28),none⟩,
 ⟨(some 30),.build [(.d (.int .i64 0)),(.d (.int .i64 0)),(.d (.int .i64 0)),(.d (.str []))] [(0,1,(.k (.c (.d (.int .i64 4))))),(1,1,(.t 29))],none⟩,
 ⟨(some 31),.qcall 35 [(.t 27),(.t 30)],none⟩,
 ⟨none,.store 3 (.t 2) (.t 31),none⟩] [27,28,29,30,31])
 (.region [⟨(some 32),.fieldAddr 1 (.t 2),none⟩,
 ⟨(some 33),.load none (.t 32),none⟩,
 ⟨(some 34),.bin .add (.t 33) (.k (.c (.d (.int .i64 1)))),none⟩,
 ⟨(some 35),.fieldAddr 1 (.t 2),none⟩,
 ⟨none,.store 1 (.t 35) (.t 34),none⟩] [32,33,34,35]))))))))))))
 (.region [⟨(some 14),.mv (.t 7),none⟩,
 ⟨(some 15),.bin .add (.t 14) (.k (.c (.d (.int .i64 1)))),none⟩,
 ⟨(some 7),.mv (.t 15),none⟩] [14,15]))))))
 (.seq (.region [⟨(some 86),.load (some 3) (.t 2),none⟩,
 ⟨(some 87),.mv (.t 6),none⟩,
 ⟨none,.store 3 (.t 4) (.t 86),none⟩,
 ⟨(some 5),.mv (.t 87),none⟩] [2,6,86,87])
 (.ret))))
theorem ac39_ok : cFunc Tryz.prog [1000035,1000038] [(0,[0,5],[]),(1,[9],[]),(2,[],[]),(3,[10,11,12],[]),(5,[13,16,17,18,19],[]),(9,[37,38,39],[]),(10,[8,36,40,41,42,43,44],[]),(11,[36,46,47,48,49,50,51,52,53,54,55,56,57],[]),(12,[8,45,58,59,60,61,62,63,64,65,66],[1,3,0,2,4,5,6,7,8,9]),(13,[45,68,69,70],[]),(14,[8,67,71,72,73,74,75,76],[]),(15,[77,78,79,80,81],[]),(16,[82,83,84,85],[]),(6,[8,20,21,22,23,24,25,26,67],[]),(7,[27,28,29,30,31],[]),(8,[32,33,34,35],[]),(4,[14,15],[]),(17,[2,6,86,87],[])] Tryz.f39 = some (ac39,[.cell 4 (some 3),.tmp 5],88) := by kernel_rfl
theorem allLen_rep (i : Nat) (d : D) : allLen 1 (List.replicate i [d]) := fun r hr => by rw [List.eq_of_mem_replicate hr]; rfl
theorem start_calls (H : Heap) : ACalls Tryz.prog 21 [] H (fun r H' => H' = H ∧ r = .agg [.d (.sl (slotsR [])), .d (.int .i64 4), .d (.sl [])]) := by
  refine acalls Tryz.func21 (by kernel_rfl) ac21_ok fun hf => ?_
  simp -implicitDefEqProofs [ac21, go_sem, -List.set_cons_succ, -List.set_cons_zero]
  refine ⟨hf, loop_enter (St.le_tokenC 1 0 1 rfl rfl) ?_⟩
  refine loop_set (σ := Nat) (fun i => [(2, .c (.d (.int .i64 i)))]) (fun _ => H) (fun i => [.cells [.full [], .d (.int .i64 0), .full []], .cells [.own (.l 2) i (List.replicate i [.int .i64 (-1)]), .d (.int .i64 4), .full []], .grow i 1]) (fun i => i ≤ 26) (fun i => 26 - i) 0 (by simp [setAll]) (Nat.zero_le _) ?_
  intro i hi
  simp -implicitDefEqProofs [setAll, go_sem, -List.set_cons_succ, -List.set_cons_zero]
  refine ⟨fun hlt => ?_, fun hge => ?_⟩
  · have hadd : inR .i64 ((i : Int) + 1) := small_i64 (by omega) (by omega)
    simp -implicitDefEqProofs [hadd, go_sem, -List.set_cons_succ, -List.set_cons_zero]
    refine ⟨allLen_rep _ _, by unfold maxApp; omega, hf, loop_back (i + 1) ?_ (by omega) (by show 26 - (i + 1) < 26 - i; omega)⟩
    simp [setAll, List.replicate_succ']
  · obtain rfl : i = 26 := by omega
    have e : slotsR [] = List.replicate 26 [.int .i64 (-1)] := by kernel_rfl
    simp -implicitDefEqProofs [hf, e, go_sem, -List.set_cons_succ, -List.set_cons_zero]
theorem emit_calls (s code : List (List D)) (n op a b : Int) (t : List UInt8) (hc : code.length ≤ 1000000) (ha : allLen 4 code) (H : Heap) :
    ACalls Tryz.prog 35 [.agg [.d (.sl s), .d (.int .i64 n), .d (.sl code)], .agg [.d (.int .i64 op), .d (.int .i64 a), .d (.int .i64 b), .d (.str t)]] H
      (fun r H' => H' = H ∧ r = .agg [.d (.sl s), .d (.int .i64 n), .d (.sl (code ++ [insR op a b t]))]) := by
  refine acalls Tryz.func35 (by kernel_rfl) ac35_ok fun hf => ?_
  simp -implicitDefEqProofs [ac35, go_sem, -List.set_cons_succ, -List.set_cons_zero]
  exact ⟨ha, by unfold maxApp; omega, ha, by unfold maxApp; omega, hf, rfl⟩
theorem slot_calls (m : List (Int × Nat)) (code : List (List D)) (n : Int) (k v : Nat) (hk : k < 26) (hm : slotO m k = none) (hv : v ≤ 1000000) (H : Heap) :
    ACalls Tryz.prog 38 [.agg [.d (.sl (slotsR m)), .d (.int .i64 n), .d (.sl code)], .c (.d (.int .i64 k)), .c (.d (.int .i64 v))] H
      (fun r H' => H' = H ∧ r = .agg [.d (.sl (slotsR (m ++ [((k : Int), v)]))), .d (.int .i64 n), .d (.sl code)]) := by
  refine acalls Tryz.func38 (by kernel_rfl) ac38_ok fun hf => ?_
  simp -implicitDefEqProofs [ac38, slotsR_len, slotsR_all, go_sem, -List.set_cons_succ, -List.set_cons_zero]
  have hne : ¬ slotsR m = [] := fun h => by have := slotsR_len m; rw [h] at this; cases this
  refine ⟨by unfold maxApp; omega, fun h => absurd h hne, fun _ => ⟨hf, hk, ?_⟩⟩
  have hset := slotsR_set m k v hk hm
  rw [slotsR_get m hk, hm]
  simp -implicitDefEqProofs [hset, hf, go_sem, -List.set_cons_succ, -List.set_cons_zero]
theorem var_slot {t : Tm} (ht : t.good) (hk : t.k = 1) : ∃ v : Nat, t.n = v ∧ v < 26 := by
  obtain ⟨k, n, s, l⟩ := t
  cases ht with
  | mk ho _ =>
    rcases own_cases ho with ⟨_, h0, h1, _⟩ | ⟨h, _⟩ | ⟨h, _⟩
    · obtain ⟨v, rfl⟩ := Int.eq_ofNat_of_zero_le h0
      exact ⟨v, rfl, by omega⟩
    · simp only [Tm.k] at hk; omega
    · simp only [Tm.k] at hk; omega
def partR (p : Tm × Nat) : List D := p.1.row ++ [.int .i64 p.2]
theorem partR_len (p : Tm × Nat) : (partR p).length = 5 := by simp [partR, row_len]
theorem args_calls (l : List Tm) (hl : l.length ≤ 1000) (hg : ∀ t ∈ l, t.good) (M : Mk) (B : Nat) (hB : B ≤ 900000) (hM : M.fit B) (H : Heap) :
    ACalls Tryz.prog 39 [.agg [.d (.sl (slotsR M.sl)), .d (.int .i64 M.next), .d (.sl M.code)], .c (.d (.sl (l.map Tm.row)))] H
      (fun r H' => H' = H ∧ r = .tup [.agg [.d (.sl (slotsR (argsT l M).1.sl)), .d (.int .i64 (argsT l M).1.next), .d (.sl (argsT l M).1.code)], .c (.d (.sl ((argsT l M).2.map partR)))]) := by
  refine acalls Tryz.func39 (by kernel_rfl) ac39_ok fun hf => ?_
  have hli : inR .i64 (l.length : Int) := small_i64 (by omega) (by omega)
  simp -implicitDefEqProofs [ac39, hli, go_sem, -List.set_cons_succ, -List.set_cons_zero]
  refine loop_enter (St.le_token 6 5 rfl) ?_
  obtain ⟨F, hF⟩ : ∃ F, F = argsT l M := ⟨_, rfl⟩
  rw [← hF]
  refine loop_set (σ := Nat × Mk × List (Tm × Nat)) (fun x => [(7, .c (.d (.int .i64 x.1))), (6, .c (.own (.l 2) x.2.2.length (x.2.2.map partR)))]) (fun _ => H)
    (fun x => [.cells [.d (.sl (slotsR x.2.1.sl)), .d (.int .i64 x.2.1.next), .d (.sl x.2.1.code)], .cells [.full [], .d (.int .i64 0), .full []], .grow x.2.2.length 5])
    (fun x => x.1 ≤ l.length ∧ x.2.1.fit (B + 2 * x.1) ∧ F.1 = (argsT (l.drop x.1) x.2.1).1 ∧ F.2 = x.2.2 ++ (argsT (l.drop x.1) x.2.1).2 ∧ x.2.2.length ≤ x.1) (fun x => l.length - x.1) (0, M, []) (by simp [setAll]) ⟨Nat.zero_le _, hM.mono (by omega), by simp [hF], by simp [hF], by simp⟩ ?_
  rintro ⟨i, N, left⟩ ⟨hi, hN, h1, h2, h3⟩
  simp only at hi hN h1 h2 h3
  simp -implicitDefEqProofs [setAll, hli, go_sem, -List.set_cons_succ, -List.set_cons_zero]
  refine ⟨fun hlt => ?_, fun hge => ?_⟩
  · have hadd : inR .i64 ((i : Int) + 1) := small_i64 (by omega) (by omega)
    have hnx := hN.next
    have hcd := hN.code
    have hni : inR .i64 (N.next : Int) := small_i64 (by omega) (by omega)
    have hnj : inR .i64 ((N.next : Int) + 1) := small_i64 (by omega) (by omega)
    have hal := hN.all
    have hgt := hg l[i] (List.getElem_mem hlt)
    have hd : l.drop i = l[i] :: l.drop (i + 1) := List.drop_eq_getElem_cons hlt
    rw [hd, argsT] at h1 h2
    have hrow : (l.map Tm.row)[i]? = some l[i].row := by simp [hlt]
    have hvs := var_slot hgt
    obtain ⟨t, ht⟩ : ∃ t, t = l[i] := ⟨_, rfl⟩
    rw [← ht] at hgt h1 h2 hrow hvs
    clear ht
    obtain ⟨k, n, s, kids⟩ := t
    refine row_nat _ hrow rfl ?_
    cases hgt with
    | mk ho hk =>
      rcases own_cases ho with ⟨rfl, n0, n1, rfl, rfl⟩ | ⟨rfl, n0, n1, rfl, rfl⟩ | ⟨rfl, rfl, hs2, hl4⟩
      · obtain ⟨v, hv, hv26⟩ := hvs rfl
        simp only [Tm.n] at hv
        subst hv
        simp [Mk.desc, Tm.k, Tm.n] at h1 h2
        have hget := slotsR_get N.sl hv26
        simp -implicitDefEqProofs [row_mk, hf, go_sem, -List.set_cons_succ, -List.set_cons_zero]
        refine row_nat _ hget rfl ?_
        cases hsv : slotO N.sl v with
        | some u =>
          simp only [hsv] at h1 h2
          have hu0 : ¬ (u : Int) < 0 := by omega
          simp -implicitDefEqProofs [hu0, hf, go_sem, -List.set_cons_succ, -List.set_cons_zero]
          refine row_nat _ hget rfl ?_
          simp -implicitDefEqProofs [hsv, hf, go_sem, -List.set_cons_succ, -List.set_cons_zero]
          refine qcall_pure (emit_calls _ _ _ _ _ _ _ (by omega) hal) hf rfl ?_
          simp -implicitDefEqProofs [hadd, hf, go_sem, -List.set_cons_succ, -List.set_cons_zero]
          refine loop_less (i + 1, N.emit 5 u 0 [], left) (St.le_cut [_] ?_ (by simp [Sl.le, A.le_refl_iff, A.le_u_iff, As.lo, A.lo, C.lo, Ref.lo, Cs.lo, Obs.lo, Ob.lo, setAll, and_true, true_and, List.length_nil, List.length_cons]) rfl (by simp [Sl.le, A.le_refl_iff, A.le_u_iff, As.lo, A.lo, C.lo, Ref.lo, Cs.lo, Obs.lo, Ob.lo, setAll, and_true, true_and, List.length_nil, List.length_cons])) ⟨hlt, (hN.emit ..).mono (by omega), h1, h2, by simp only; omega⟩ (by show l.length - (i + 1) < l.length - i; omega)
          simp [setAll, Sl.le, A.le_refl_iff, A.le_u_iff, As.lo, A.lo, C.lo, Ref.lo, Cs.lo, Obs.lo, Ob.lo, setAll, and_true, true_and, List.length_nil, List.length_cons]
        | none =>
          simp only [hsv] at h1 h2
          simp -implicitDefEqProofs [hf, go_sem, -List.set_cons_succ, -List.set_cons_zero]
          refine qcall_pure (slot_calls N.sl N.code _ v N.next hv26 hsv (by omega)) hf rfl ?_
          simp -implicitDefEqProofs [hf, go_sem, -List.set_cons_succ, -List.set_cons_zero]
          refine qcall_pure (emit_calls _ _ _ _ _ _ _ (by omega) hal) hf rfl ?_
          simp -implicitDefEqProofs [hadd, hnj, hf, go_sem, -List.set_cons_succ, -List.set_cons_zero]
          refine loop_less (i + 1, ((N.give v N.next).emit 4 N.next 0 []).bump, left) (St.le_cut [_] ?_ (by simp [Sl.le, A.le_refl_iff, A.le_u_iff, As.lo, A.lo, C.lo, Ref.lo, Cs.lo, Obs.lo, Ob.lo, setAll, and_true, true_and, List.length_nil, List.length_cons]) rfl (by simp [Sl.le, A.le_refl_iff, A.le_u_iff, As.lo, A.lo, C.lo, Ref.lo, Cs.lo, Obs.lo, Ob.lo, setAll, and_true, true_and, List.length_nil, List.length_cons])) ⟨hlt, ((hN.give _ _ hnx).emit ..).bump.mono (by omega), h1, h2, by simp only; omega⟩ (by show l.length - (i + 1) < l.length - i; omega)
          simp [setAll, Sl.le, A.le_refl_iff, A.le_u_iff, As.lo, A.lo, C.lo, Ref.lo, Cs.lo, Obs.lo, Ob.lo, setAll, and_true, true_and, List.length_nil, List.length_cons]
      · simp [Mk.desc, Tm.k, Tm.n] at h1 h2
        simp -implicitDefEqProofs [row_mk, hf, go_sem, -List.set_cons_succ, -List.set_cons_zero]
        refine qcall_pure (emit_calls _ _ _ _ _ _ _ (by omega) hal) hf rfl ?_
        simp -implicitDefEqProofs [hadd, hf, go_sem, -List.set_cons_succ, -List.set_cons_zero]
        refine loop_less (i + 1, N.emit 6 n 0 [], left) (St.le_cut [_] ?_ (by simp [Sl.le, A.le_refl_iff, A.le_u_iff, As.lo, A.lo, C.lo, Ref.lo, Cs.lo, Obs.lo, Ob.lo, setAll, and_true, true_and, List.length_nil, List.length_cons]) rfl (by simp [Sl.le, A.le_refl_iff, A.le_u_iff, As.lo, A.lo, C.lo, Ref.lo, Cs.lo, Obs.lo, Ob.lo, setAll, and_true, true_and, List.length_nil, List.length_cons])) ⟨hlt, (hN.emit ..).mono (by omega), h1, h2, by simp only; omega⟩ (by show l.length - (i + 1) < l.length - i; omega)
        simp [setAll, Sl.le, A.le_refl_iff, A.le_u_iff, As.lo, A.lo, C.lo, Ref.lo, Cs.lo, Obs.lo, Ob.lo, setAll, and_true, true_and, List.length_nil, List.length_cons]
      · simp [Tm.k] at h1 h2
        simp -implicitDefEqProofs [row_mk, hf, go_sem, -List.set_cons_succ, -List.set_cons_zero]
        refine row_off [.int .i64 0] ?_
        simp -implicitDefEqProofs [hf, go_sem, -List.set_cons_succ, -List.set_cons_zero]
        refine ⟨allLen_map partR_len, by unfold maxApp; omega, qcall_pure (emit_calls _ _ _ _ _ _ _ (by omega) hal) hf rfl ?_⟩
        simp -implicitDefEqProofs [hadd, hnj, hf, go_sem, -List.set_cons_succ, -List.set_cons_zero]
        refine loop_less (i + 1, (N.emit 4 N.next 0 []).bump, left ++ [(.mk 3 0 s kids, N.next)]) (St.le_cut [_] ?_ (by simp [Sl.le, A.le_refl_iff, A.le_u_iff, As.lo, A.lo, C.lo, Ref.lo, Cs.lo, Obs.lo, Ob.lo, setAll, and_true, true_and, List.length_nil, List.length_cons]) (by simp [Mk.emit, Mk.bump]; rfl) (by simp [Sl.le, A.le_refl_iff, A.le_u_iff, As.lo, A.lo, C.lo, Ref.lo, Cs.lo, Obs.lo, Ob.lo, setAll, and_true, true_and, List.length_nil, List.length_cons])) ⟨hlt, (hN.emit ..).bump.mono (by omega), h1, by simp [h2], by simp; omega⟩ (by show l.length - (i + 1) < l.length - i; omega)
        simp [setAll, partR, row_mk, Sl.le, A.le_refl_iff, A.le_u_iff, As.lo, A.lo, C.lo, Ref.lo, Cs.lo, Obs.lo, Ob.lo, setAll, and_true, true_and, List.length_nil, List.length_cons]
  · obtain rfl : i = l.length := by omega
    simp [argsT] at h1 h2
    simp -implicitDefEqProofs [h1, h2, hf, go_sem, -List.set_cons_succ, -List.set_cons_zero]
-- 20 loop.example/prologserver/spec.l8Head params 2 ntmps 106
-- loop head live: [1,2,4,5,6]
-- loop head live: [2,4,5,8]
def ac20 : Cd := .seq (.region [⟨(some 2),.box (.t 0),none⟩,
 ⟨(some 4),.alloc [(.full []),(.d (.int .i64 0)),(.full [])],none⟩] [0])
 (.seq (.region [⟨(some 12),.buildSlice 5 0 [(.int .i64 0),(.int .i64 0),(.str []),(.sl []),(.int .i64 0)] [],none⟩,
 ⟨(some 5),.mv (.t 12),none⟩] [12])
 (.seq (.seq (.region [⟨(some 6),.mv (.k (.c (.d (.int .i64 0)))),none⟩] [])
 (.block 0 (.loop (.seq (.seq (.region [⟨(some 13),.mv (.t 6),none⟩,
 ⟨(some 14),.mv (.t 1),none⟩,
 ⟨(some 15),.len 1 (.t 14),none⟩,
 ⟨(some 16),.bin .lss (.t 13) (.t 15),none⟩] [13,14,15])
 (.cond (.t 16)
 (.skip)
 (.exit 0)))
 (.seq (.block 1 (.seq (.region [⟨(some 19),.mv (.t 1),none⟩,
 ⟨(some 20),.mv (.t 6),none⟩,
 ⟨(some 21),.indexAddr 4 (.t 19) (.t 20),none⟩,
 ⟨(some 22),.load (some 4) (.t 21),none⟩,
 ⟨(some 7),.alloc [(.d (.int .i64 0)),(.d (.int .i64 0)),(.d (.str [])),(.full [])],none⟩,
 ⟨none,.store 4 (.t 7) (.t 22),none⟩] [16,19,20,21,22])
 (.block 2 (.seq (.region [⟨(some 30),.fieldAddr 0 (.t 7),none⟩,
 ⟨(some 31),.load none (.t 30),none⟩,
 ⟨(some 32),.bin .eql (.t 31) (.k (.c (.d (.int .i64 2)))),none⟩,
 ⟨(some 29),.mv (.t 32),none⟩] [30,31,32])
 (.cond (.t 29)
 (.region [⟨(some 33),.load (some 3) (.t 2),none⟩,
 ⟨(some 34),.fieldAddr 1 (.t 7),none⟩,
 ⟨(some 35),.load none (.t 34),none⟩,
 ⟨(some 36),.mv (.t 6),none⟩,
 ⟨(some 37),.build [(.d (.int .i64 0)),(.d (.int .i64 0)),(.d (.int .i64 0)),(.d (.str []))] [(0,1,(.k (.c (.d (.int .i64 2))))),(1,1,(.t 35)),(2,1,(.t 36))],none⟩,
 ⟨(some 38),.qcall 35 [(.t 33),(.t 37)],none⟩,
 ⟨none,.store 3 (.t 2) (.t 38),none⟩] [7,29,33,34,35,36,37,38])
 (.seq (.region [⟨(some 40),.fieldAddr 0 (.t 7),none⟩,
 ⟨(some 41),.load none (.t 40),none⟩,
 ⟨(some 42),.bin .eql (.t 41) (.k (.c (.d (.int .i64 1)))),none⟩,
 ⟨(some 43),.mv (.t 42),none⟩,
 ⟨(some 44),.fieldAddr 0 (.t 2),some (43,true)⟩,
 ⟨(some 45),.load none (.t 44),some (43,true)⟩,
 ⟨(some 46),.fieldAddr 1 (.t 7),some (43,true)⟩,
 ⟨(some 47),.load none (.t 46),some (43,true)⟩,
 ⟨(some 48),.indexAddr 1 (.t 45) (.t 47),some (43,true)⟩,
 ⟨(some 49),.load none (.t 48),some (43,true)⟩,
 ⟨(some 50),.bin .geq (.t 49) (.k (.c (.d (.int .i64 0)))),some (43,true)⟩,
 ⟨(some 51),.pick (.t 43) (.t 50) (.k (.c (.d (.bool false)))),none⟩,
 ⟨(some 39),.mv (.t 51),none⟩] [29,40,41,42,43,44,45,46,47,48,49,50,51])
 (.cond (.t 39)
 (.region [⟨(some 53),.fieldAddr 0 (.t 2),none⟩,
 ⟨(some 55),.fieldAddr 1 (.t 7),none⟩,
 ⟨(some 59),.mv (.t 6),none⟩,
 ⟨(some 52),.load (some 3) (.t 2),none⟩,
 ⟨(some 54),.load none (.t 53),none⟩,
 ⟨(some 56),.load none (.t 55),none⟩,
 ⟨(some 57),.indexAddr 1 (.t 54) (.t 56),none⟩,
 ⟨(some 58),.load none (.t 57),none⟩,
 ⟨(some 60),.build [(.d (.int .i64 0)),(.d (.int .i64 0)),(.d (.int .i64 0)),(.d (.str []))] [(0,1,(.k (.c (.d (.int .i64 1))))),(1,1,(.t 58)),(2,1,(.t 59))],none⟩,
 ⟨(some 61),.qcall 35 [(.t 52),(.t 60)],none⟩,
 ⟨none,.store 3 (.t 2) (.t 61),none⟩] [7,39,52,53,54,55,56,57,58,59,60,61])
 (.seq (.region [⟨(some 63),.fieldAddr 0 (.t 7),none⟩,
 ⟨(some 64),.load none (.t 63),none⟩,
 ⟨(some 65),.bin .eql (.t 64) (.k (.c (.d (.int .i64 1)))),none⟩,
 ⟨(some 62),.mv (.t 65),none⟩] [39,63,64,65])
 (.cond (.t 62)
 (.region [⟨(some 66),.load (some 3) (.t 2),none⟩,
 ⟨(some 67),.fieldAddr 1 (.t 7),none⟩,
 ⟨(some 68),.load none (.t 67),none⟩,
 ⟨(some 69),.mv (.t 6),none⟩,
 ⟨(some 70),.qcall 38 [(.t 66),(.t 68),(.t 69)],none⟩,
 ⟨none,.store 3 (.t 2) (.t 70),none⟩] [7,62,66,67,68,69,70])
 (.region [⟨(some 23),.mv (.t 5),none⟩,
 ⟨(some 24),.load (some 4) (.t 7),none⟩,
 ⟨(some 25),.mv (.t 6),none⟩,
 ⟨(some 26),.build [(.d (.int .i64 0)),(.d (.int .i64 0)),(.d (.str [])),(.full []),(.d (.int .i64 0))] [(0,4,(.t 24)),(4,1,(.t 25))],none⟩,
 ⟨(some 27),.buildSlice 5 1 [(.int .i64 0),(.int .i64 0),(.str []),(.sl []),(.int .i64 0)] [(0,(.t 26))],none⟩,
 ⟨(some 28),.append false 5 (.t 23) (.t 27),none⟩,
 ⟨(some 5),.mv (.t 28),none⟩] [7,23,24,25,26,27,28,62]))))))))))
 (.region [⟨(some 17),.mv (.t 6),none⟩,
 ⟨(some 18),.bin .add (.t 17) (.k (.c (.d (.int .i64 1)))),none⟩,
 ⟨(some 6),.mv (.t 18),none⟩] [17,18]))))))
 (.seq (.seq (.region [⟨(some 8),.mv (.k (.c (.d (.int .i64 0)))),none⟩] [])
 (.block 3 (.loop (.seq (.seq (.region [⟨(some 71),.mv (.t 8),none⟩,
 ⟨(some 72),.mv (.t 5),none⟩,
 ⟨(some 73),.len 1 (.t 72),none⟩,
 ⟨(some 74),.bin .lss (.t 71) (.t 73),none⟩] [71,72,73])
 (.cond (.t 74)
 (.skip)
 (.exit 3)))
 (.seq (.block 4 (.seq (.region [⟨(some 77),.mv (.t 5),none⟩,
 ⟨(some 78),.mv (.t 8),none⟩,
 ⟨(some 79),.indexAddr 5 (.t 77) (.t 78),none⟩,
 ⟨(some 80),.load (some 5) (.t 79),none⟩,
 ⟨(some 9),.alloc [(.d (.int .i64 0)),(.d (.int .i64 0)),(.d (.str [])),(.full []),(.d (.int .i64 0))],none⟩,
 ⟨none,.store 5 (.t 9) (.t 80),none⟩] [74,77,78,79,80])
 (.seq (.region [⟨(some 81),.load (some 3) (.t 2),none⟩,
 ⟨(some 82),.fieldAddr 0 (.t 9),none⟩,
 ⟨(some 83),.fieldAddr 3 (.t 82),none⟩,
 ⟨(some 84),.load none (.t 83),none⟩,
 ⟨(some 85),.len 1 (.t 84),none⟩,
 ⟨(some 86),.fieldAddr 4 (.t 9),none⟩,
 ⟨(some 87),.load none (.t 86),none⟩,
 ⟨(some 88),.fieldAddr 0 (.t 9),none⟩,
 ⟨(some 89),.fieldAddr 2 (.t 88),none⟩,
 ⟨(some 90),.load none (.t 89),none⟩,
 ⟨(some 91),.build [(.d (.int .i64 0)),(.d (.int .i64 0)),(.d (.int .i64 0)),(.d (.str []))] [(0,1,(.k (.c (.d (.int .i64 3))))),(1,1,(.t 85)),(2,1,(.t 87)),(3,1,(.t 90))],none⟩,
 ⟨(some 92),.qcall 35 [(.t 81),(.t 91)],none⟩,
 ⟨none,.store 3 (.t 2) (.t 92),none⟩] [81,82,83,84,85,86,87,88,89,90,91,92])
 (.seq (.region [⟨(some 94),.load (some 3) (.t 2),none⟩,
 ⟨(some 95),.fieldAddr 0 (.t 9),none⟩,
 ⟨(some 96),.fieldAddr 3 (.t 95),none⟩,
 ⟨(some 97),.load none (.t 96),none⟩,
 ⟨(some 98),.qcall 39 [(.t 94),(.t 97)],none⟩,
 ⟨(some 93),.mv (.t 98),none⟩,
 ⟨(some 99),.extract 0 (.t 93),none⟩,
 ⟨(some 100),.extract 1 (.t 93),none⟩,
 ⟨(some 10),.alloc [(.full []),(.d (.int .i64 0)),(.full [])],none⟩,
 ⟨none,.store 3 (.t 10) (.t 99),none⟩,
 ⟨(some 11),.mv (.t 100),none⟩] [9,93,94,95,96,97,98,99,100])
 (.seq (.region [⟨(some 101),.load (some 3) (.t 10),none⟩,
 ⟨none,.store 3 (.t 2) (.t 101),none⟩] [10,101])
 (.region [⟨(some 102),.mv (.t 5),none⟩,
 ⟨(some 103),.mv (.t 11),none⟩,
 ⟨(some 104),.append false 5 (.t 102) (.t 103),none⟩,
 ⟨(some 5),.mv (.t 104),none⟩] [11,102,103,104]))))))
 (.region [⟨(some 75),.mv (.t 8),none⟩,
 ⟨(some 76),.bin .add (.t 75) (.k (.c (.d (.int .i64 1)))),none⟩,
 ⟨(some 8),.mv (.t 76),none⟩] [75,76]))))))
 (.seq (.region [⟨(some 105),.load (some 3) (.t 2),none⟩,
 ⟨none,.store 3 (.t 4) (.t 105),none⟩] [2,105])
 (.ret)))))
theorem ac20_ok : cFunc Tryz.prog [1000035,1000038,1000039] [(0,[0],[]),(1,[12],[]),(2,[],[]),(3,[13,14,15],[]),(5,[16,19,20,21,22],[]),(7,[30,31,32],[]),(8,[7,29,33,34,35,36,37,38],[]),(9,[29,40,41,42,43,44,45,46,47,48,49,50,51],[]),(10,[7,39,52,53,54,55,56,57,58,59,60,61],[1,3,7,0,2,4,5,6,8,9,10]),(11,[39,63,64,65],[]),(12,[7,62,66,67,68,69,70],[]),(6,[7,23,24,25,26,27,28,62],[]),(4,[17,18],[]),(13,[],[]),(14,[71,72,73],[]),(16,[74,77,78,79,80],[]),(17,[81,82,83,84,85,86,87,88,89,90,91,92],[]),(18,[9,93,94,95,96,97,98,99,100],[]),(19,[10,101],[]),(20,[11,102,103,104],[]),(15,[75,76],[]),(21,[2,105],[])] Tryz.f20 = some (ac20,[.cell 4 (some 3)],106) := by kernel_rfl
theorem qsize_app (a b : List (Tm × Nat)) : qsize (a ++ b) = qsize a + qsize b := by simp [qsize]
theorem good_kids {k n : Int} {s : List UInt8} {l : List Tm} (h : (Tm.mk k n s l).good) : l.length ≤ 4 ∧ ∀ t ∈ l, t.good := by
  cases h with
  | mk ho hk =>
    rcases own_cases ho with ⟨_, _, _, _, rfl⟩ | ⟨_, _, _, _, rfl⟩ | ⟨_, _, _, h4⟩
    · exact ⟨by simp, hk⟩
    · exact ⟨by simp, hk⟩
    · exact ⟨h4, hk⟩
theorem head_calls (l : List Tm) (hl : l.length ≤ 4) (hz : sizes l ≤ 1000) (hg : ∀ t ∈ l, t.good) (M : Mk) (B : Nat) (hB4 : 4 ≤ B) (hB : B ≤ 10000) (hM : M.fit B) (H : Heap) :
    ACalls Tryz.prog 20 [.agg [.d (.sl (slotsR M.sl)), .d (.int .i64 M.next), .d (.sl M.code)], .c (.d (.sl (l.map Tm.row)))] H
      (fun r H' => H' = H ∧ r = .agg [.d (.sl (slotsR (headT l M).sl)), .d (.int .i64 (headT l M).next), .d (.sl (headT l M).code)]) := by
  refine acalls Tryz.func20 (by kernel_rfl) ac20_ok fun hf => ?_
  have hli : inR .i64 (l.length : Int) := small_i64 (by omega) (by omega)
  simp -implicitDefEqProofs [ac20, hli, go_sem, -List.set_cons_succ, -List.set_cons_zero]
  refine loop_enter (St.le_token 5 5 rfl) ?_
  obtain ⟨F, hF⟩ : ∃ F, F = headA l 0 M := ⟨_, rfl⟩
  have hFT : headT l M = headQ (qsize F.2) F.2 F.1 := by rw [hF]; rfl
  rw [hFT]
  have hFf := headA_fit l 0 M B hM (by omega)
  rw [← hF] at hFf
  refine loop_set (σ := Nat × Mk × List (Tm × Nat)) (fun x => [(6, .c (.d (.int .i64 x.1))), (5, .c (.own (.l 2) x.2.2.length (x.2.2.map partR)))]) (fun _ => H)
    (fun x => [.cells [.d (.sl (slotsR x.2.1.sl)), .d (.int .i64 x.2.1.next), .d (.sl x.2.1.code)], .cells [.full [], .d (.int .i64 0), .full []], .grow x.2.2.length 5])
    (fun x => x.1 ≤ l.length ∧ x.2.1.fit (B + x.1) ∧ F.1 = (headA (l.drop x.1) x.1 x.2.1).1 ∧ F.2 = x.2.2 ++ (headA (l.drop x.1) x.1 x.2.1).2 ∧ x.2.2.length ≤ x.1) (fun x => l.length - x.1) (0, M, []) (by simp [setAll]) ⟨Nat.zero_le _, hM.mono (by omega), by simp [hF], by simp [hF], by simp⟩ ?_
  rintro ⟨i, N, left⟩ ⟨hi, hN, h1, h2, h3⟩
  simp only at hi hN h1 h2 h3
  simp -implicitDefEqProofs [setAll, hli, go_sem, -List.set_cons_succ, -List.set_cons_zero]
  refine ⟨fun hlt => ?_, fun hge => ?_⟩
  · have hadd : inR .i64 ((i : Int) + 1) := small_i64 (by omega) (by omega)
    have hnx := hN.next
    have hcd := hN.code
    have hal := hN.all
    have hgt := hg l[i] (List.getElem_mem hlt)
    have hd : l.drop i = l[i] :: l.drop (i + 1) := List.drop_eq_getElem_cons hlt
    rw [hd, headA] at h1 h2
    have hrow : (l.map Tm.row)[i]? = some l[i].row := by simp [hlt]
    have hvs := var_slot hgt
    obtain ⟨t, ht⟩ : ∃ t, t = l[i] := ⟨_, rfl⟩
    rw [← ht] at hgt h1 h2 hrow hvs
    clear ht
    obtain ⟨k, n, s, kids⟩ := t
    refine row_nat _ hrow rfl ?_
    cases hgt with
    | mk ho hk =>
      rcases own_cases ho with ⟨rfl, n0, n1, rfl, rfl⟩ | ⟨rfl, n0, n1, rfl, rfl⟩ | ⟨rfl, rfl, hs2, hl4⟩
      · obtain ⟨v, hv, hv26⟩ := hvs rfl
        simp only [Tm.n] at hv
        subst hv
        simp [Tm.k, Tm.n] at h1 h2
        have hget := slotsR_get N.sl hv26
        simp -implicitDefEqProofs [row_mk, hf, go_sem, -List.set_cons_succ, -List.set_cons_zero]
        refine row_nat _ hget rfl ?_
        cases hsv : slotO N.sl v with
        | some u =>
          simp only [hsv] at h1 h2
          have hu0 : ¬ (u : Int) < 0 := by omega
          simp -implicitDefEqProofs [hu0, hf, go_sem, -List.set_cons_succ, -List.set_cons_zero]
          refine row_nat _ hget rfl ?_
          simp -implicitDefEqProofs [hsv, hf, go_sem, -List.set_cons_succ, -List.set_cons_zero]
          refine qcall_pure (emit_calls _ _ _ _ _ _ _ (by omega) hal) hf rfl ?_
          simp -implicitDefEqProofs [hadd, hf, go_sem, -List.set_cons_succ, -List.set_cons_zero]
          refine loop_less (i + 1, N.emit 1 u i [], left) (St.le_cut [_] ?_ (by simp [Sl.le, A.le_refl_iff, A.le_u_iff, As.lo, A.lo, C.lo, Ref.lo, Cs.lo, Obs.lo, Ob.lo, setAll, and_true, true_and, List.length_nil, List.length_cons]) rfl (by simp [Sl.le, A.le_refl_iff, A.le_u_iff, As.lo, A.lo, C.lo, Ref.lo, Cs.lo, Obs.lo, Ob.lo, setAll, and_true, true_and, List.length_nil, List.length_cons])) ⟨hlt, (hN.emit ..).mono (by omega), h1, h2, by simp only; omega⟩ (by show l.length - (i + 1) < l.length - i; omega)
          simp [setAll, Sl.le, A.le_refl_iff, A.le_u_iff, As.lo, A.lo, C.lo, Ref.lo, Cs.lo, Obs.lo, Ob.lo, setAll, and_true, true_and, List.length_nil, List.length_cons]
        | none =>
          simp only [hsv] at h1 h2
          simp -implicitDefEqProofs [hf, go_sem, -List.set_cons_succ, -List.set_cons_zero]
          refine qcall_pure (slot_calls N.sl N.code _ v i hv26 hsv (by omega)) hf rfl ?_
          simp -implicitDefEqProofs [hadd, hf, go_sem, -List.set_cons_succ, -List.set_cons_zero]
          refine loop_less (i + 1, N.give v i, left) (St.le_cut [_] ?_ (by simp [Sl.le, A.le_refl_iff, A.le_u_iff, As.lo, A.lo, C.lo, Ref.lo, Cs.lo, Obs.lo, Ob.lo, setAll, and_true, true_and, List.length_nil, List.length_cons]) rfl (by simp [Sl.le, A.le_refl_iff, A.le_u_iff, As.lo, A.lo, C.lo, Ref.lo, Cs.lo, Obs.lo, Ob.lo, setAll, and_true, true_and, List.length_nil, List.length_cons])) ⟨hlt, (hN.give _ _ (by omega)).mono (by omega), h1, h2, by simp only; omega⟩ (by show l.length - (i + 1) < l.length - i; omega)
          simp [setAll, Sl.le, A.le_refl_iff, A.le_u_iff, As.lo, A.lo, C.lo, Ref.lo, Cs.lo, Obs.lo, Ob.lo, setAll, and_true, true_and, List.length_nil, List.length_cons]
      · simp [Tm.k, Tm.n] at h1 h2
        simp -implicitDefEqProofs [row_mk, hf, go_sem, -List.set_cons_succ, -List.set_cons_zero]
        refine qcall_pure (emit_calls _ _ _ _ _ _ _ (by omega) hal) hf rfl ?_
        simp -implicitDefEqProofs [hadd, hf, go_sem, -List.set_cons_succ, -List.set_cons_zero]
        refine loop_less (i + 1, N.emit 2 n i [], left) (St.le_cut [_] ?_ (by simp [Sl.le, A.le_refl_iff, A.le_u_iff, As.lo, A.lo, C.lo, Ref.lo, Cs.lo, Obs.lo, Ob.lo, setAll, and_true, true_and, List.length_nil, List.length_cons]) rfl (by simp [Sl.le, A.le_refl_iff, A.le_u_iff, As.lo, A.lo, C.lo, Ref.lo, Cs.lo, Obs.lo, Ob.lo, setAll, and_true, true_and, List.length_nil, List.length_cons])) ⟨hlt, (hN.emit ..).mono (by omega), h1, h2, by simp only; omega⟩ (by show l.length - (i + 1) < l.length - i; omega)
        simp [setAll, Sl.le, A.le_refl_iff, A.le_u_iff, As.lo, A.lo, C.lo, Ref.lo, Cs.lo, Obs.lo, Ob.lo, setAll, and_true, true_and, List.length_nil, List.length_cons]
      · simp [Tm.k] at h1 h2
        simp -implicitDefEqProofs [row_mk, hf, go_sem, -List.set_cons_succ, -List.set_cons_zero]
        refine row_off [.int .i64 0] ?_
        simp -implicitDefEqProofs [hadd, hf, go_sem, -List.set_cons_succ, -List.set_cons_zero]
        refine ⟨allLen_map partR_len, by unfold maxApp; omega, ?_⟩
        refine loop_less (i + 1, N, left ++ [(.mk 3 0 s kids, i)]) (St.le_cut [_] ?_ (by simp [Sl.le, A.le_refl_iff, A.le_u_iff, As.lo, A.lo, C.lo, Ref.lo, Cs.lo, Obs.lo, Ob.lo, setAll, and_true, true_and, List.length_nil, List.length_cons]) (by simp; rfl) (by simp [Sl.le, A.le_refl_iff, A.le_u_iff, As.lo, A.lo, C.lo, Ref.lo, Cs.lo, Obs.lo, Ob.lo, setAll, and_true, true_and, List.length_nil, List.length_cons])) ⟨hlt, hN.mono (by omega), h1, by simp [h2], by simp; omega⟩ (by show l.length - (i + 1) < l.length - i; omega)
        simp [setAll, partR, row_mk, Sl.le, A.le_refl_iff, A.le_u_iff, As.lo, A.lo, C.lo, Ref.lo, Cs.lo, Obs.lo, Ob.lo, setAll, and_true, true_and, List.length_nil, List.length_cons]
  · obtain rfl : i = l.length := by omega
    simp [headA] at h1 h2
    rw [h1, h2]
    rw [h1, h2] at hFf
    obtain ⟨_, g2, g3, g4⟩ := hFf
    obtain ⟨G, hG⟩ : ∃ G, G = headQ (qsize left) left N := ⟨_, rfl⟩
    rw [← hG]
    refine loop_set (σ := Nat × Nat × Mk × List (Tm × Nat)) (fun x => [(8, .c (.d (.int .i64 x.1))), (5, .c (.own (.l 2) x.2.2.2.length (x.2.2.2.map partR)))]) (fun _ => H)
      (fun x => [.cells [.d (.sl (slotsR x.2.2.1.sl)), .d (.int .i64 x.2.2.1.next), .d (.sl x.2.2.1.code)], .cells [.full [], .d (.int .i64 0), .full []], .grow x.2.2.2.length 5])
      (fun x => x.1 ≤ x.2.2.2.length ∧ headQ x.2.1 (x.2.2.2.drop x.1) x.2.2.1 = G ∧ qsize (x.2.2.2.drop x.1) ≤ x.2.1 ∧ (∃ C, x.2.2.1.fit C ∧ C + 6 * qsize (x.2.2.2.drop x.1) ≤ 20000 + 4 * (x.2.2.2.drop x.1).length) ∧ x.1 + qsize (x.2.2.2.drop x.1) ≤ 1000 ∧ ∀ p ∈ x.2.2.2.drop x.1, p.1.good) (fun x => qsize (x.2.2.2.drop x.1)) (0, qsize left, N, left) (by simp [setAll]) ⟨Nat.zero_le _, by simp [hG], by simp, ⟨_, hN, by simp; omega⟩, by simp; omega, by simpa using fun p hp => hg _ (g2 p hp).1⟩ ?_
    rintro ⟨j, f, P, work⟩ ⟨hj, e1, e2, ⟨cc, hP, e3⟩, e4, e5⟩
    simp only at hj e1 e2 hP e3 e4 e5
    have hwl : work.length ≤ 1000 := by
      have := qsize_pos (work.drop j)
      simp at this
      omega
    have hwi : inR .i64 (work.length : Int) := small_i64 (by omega) (by omega)
    simp -implicitDefEqProofs [setAll, hwi, go_sem, -List.set_cons_succ, -List.set_cons_zero]
    refine ⟨fun hlt => ?_, fun hge => ?_⟩
    · have hadd : inR .i64 ((j : Int) + 1) := small_i64 (by omega) (by omega)
      have hd : work.drop j = work[j] :: work.drop (j + 1) := List.drop_eq_getElem_cons hlt
      have hrow : (work.map partR)[j]? = some (partR work[j]) := by simp [hlt]
      obtain ⟨p, hp⟩ : ∃ p, p = work[j] := ⟨_, rfl⟩
      rw [← hp] at hd hrow
      rw [hd] at e1 e2 e3 e4 e5
      have hpg := e5 p (by simp)
      have hdl : (work.drop (j + 1)).length ≤ work.length := by simp
      obtain ⟨⟨k, n, s, kids⟩, at'⟩ := p
      have hkg := good_kids hpg
      have hz1 := args_size kids (P.emit 3 kids.length at' s)
      have hsz : (Tm.mk k n s kids).size = 1 + sizes kids := by rw [Tm.size]
      simp only [qsize, List.map_cons, List.sum_cons, List.length_cons, hsz] at e2 e3 e4
      rw [← qsize] at e2 e3 e4
      cases f with
      | zero => omega
      | succ f =>
        rw [headQ] at e1
        simp only [Tm.kids, Tm.s] at e1
        have hcd := hP.code
        have hal := hP.all
        have hci : inR .i64 (kids.length : Int) := small_i64 (by omega) (by omega)
        have hP2 := hP.emit 3 kids.length at' s
        have cag := args_calls kids (by omega) hkg.2 (P.emit 3 kids.length at' s) _ (by omega) hP2
        have hfa := args_fit kids _ _ hP2
        obtain ⟨R, hR⟩ : ∃ R, R = argsT kids (P.emit 3 kids.length at' s) := ⟨_, rfl⟩
        rw [← hR] at cag hz1 e1 hfa
        refine row_nat _ hrow (partR_len _) ?_
        simp -implicitDefEqProofs [partR, row_mk, hf, hci, go_sem, -List.set_cons_succ, -List.set_cons_zero]
        refine qcall_pure (emit_calls _ _ _ _ _ _ _ (by omega) hal) hf rfl ?_
        simp -implicitDefEqProofs [hf, go_sem, -List.set_cons_succ, -List.set_cons_zero]
        refine qcall_pure cag hf rfl ?_
        simp -implicitDefEqProofs [hf, hadd, go_sem, -List.set_cons_succ, -List.set_cons_zero]
        have hrl := qsize_pos R.2
        refine ⟨allLen_map partR_len, allLen_map partR_len, by unfold maxApp; omega, ?_⟩
        have hda : (work ++ R.2).drop (j + 1) = work.drop (j + 1) ++ R.2 := List.drop_append_of_le_length (by omega)
        refine loop_less (j + 1, f, R.1, work ++ R.2) (St.le_cut [_, _] ?_ (by simp [Sl.le, A.le_refl_iff, A.le_u_iff, As.lo, A.lo, C.lo, Ref.lo, Cs.lo, Obs.lo, Ob.lo, setAll, and_true, true_and, List.length_nil, List.length_cons]) (by simp; exact ⟨rfl, rfl⟩) (by simp [Sl.le, A.le_refl_iff, A.le_u_iff, As.lo, A.lo, C.lo, Ref.lo, Cs.lo, Obs.lo, Ob.lo, setAll, and_true, true_and, List.length_nil, List.length_cons])) ⟨by simp only [List.length_append]; omega, ?_, ?_, ⟨_, hfa.1, ?_⟩, ?_, ?_⟩ ?_
        · simp [setAll, Sl.le, A.le_refl_iff, A.le_u_iff, As.lo, A.lo, C.lo, Ref.lo, Cs.lo, Obs.lo, Ob.lo, setAll, and_true, true_and, List.length_nil, List.length_cons]
        · show headQ f ((work ++ R.2).drop (j + 1)) R.1 = G
          rw [hda]; exact e1
        · show qsize ((work ++ R.2).drop (j + 1)) ≤ f
          rw [hda, qsize_app]; omega
        · show cc + 1 + 2 * kids.length + 6 * qsize ((work ++ R.2).drop (j + 1)) ≤ 20000 + 4 * ((work ++ R.2).length - (j + 1))
          rw [hda, qsize_app, List.length_append]
          have := List.length_drop (i := j + 1) (l := work)
          omega
        · show j + 1 + qsize ((work ++ R.2).drop (j + 1)) ≤ 1000
          rw [hda, qsize_app]; omega
        · show ∀ a b, (a, b) ∈ (work ++ R.2).drop (j + 1) → a.good
          rw [hda]
          intro a b hp
          rcases List.mem_append.1 hp with hp | hp
          · exact e5 (a, b) (by simp [hp])
          · exact hkg.2 _ (hfa.2 (a, b) hp).1
        · show qsize ((work ++ R.2).drop (j + 1)) < qsize (work.drop j)
          rw [hda, qsize_app, hd]
          simp only [qsize, List.map_cons, List.sum_cons, hsz]
          simp only [← qsize.eq_def]
          omega
    · have hjw : j = work.length := by omega
      subst hjw
      simp [headQ] at e1
      subst e1
      simp -implicitDefEqProofs [hf, go_sem, -List.set_cons_succ, -List.set_cons_zero]
end Go.Proofs.YtnljciooabmogaaGreatDoor

/-
  Goals and bodies as the reference makes them.
  Conditions: none.
-/
open Go Go.AM Go.Proofs
namespace Go.Proofs.YtnljciooabmogaaGreatDoor
open Go.ChangeShapes Go.WideShapes Go.ChangeAt Go.RowKit
set_option linter.unusedVariables false
set_option linter.unusedSimpArgs false
set_option maxRecDepth 100000
-- 53 loop.example/prologserver/spec.l8Build params 2 ntmps 89
-- loop head live: [2,3,4,6,7]
-- loop head live: [2,3,4,6,9,10]
def ac53 : Cd := .seq (.region [⟨(some 2),.box (.t 0),none⟩,
 ⟨(some 3),.box (.t 1),none⟩,
 ⟨(some 4),.alloc [(.full []),(.d (.int .i64 0)),(.full [])],none⟩,
 ⟨(some 5),.mv (.k (.c (.d (.int .i64 0)))),none⟩] [0,1,5])
 (.seq (.region [⟨(some 13),.buildSlice 1 0 [(.int .i64 0)] [],none⟩,
 ⟨(some 6),.mv (.t 13),none⟩] [13])
 (.seq (.seq (.region [⟨(some 7),.mv (.k (.c (.d (.int .i64 0)))),none⟩] [])
 (.block 0 (.loop (.seq (.seq (.region [⟨(some 14),.mv (.t 7),none⟩,
 ⟨(some 15),.fieldAddr 3 (.t 3),none⟩,
 ⟨(some 16),.load none (.t 15),none⟩,
 ⟨(some 17),.len 1 (.t 16),none⟩,
 ⟨(some 18),.bin .lss (.t 14) (.t 17),none⟩] [14,15,16,17])
 (.cond (.t 18)
 (.skip)
 (.exit 0)))
 (.seq (.block 1 (.seq (.region [⟨(some 8),.mv (.k (.c (.d (.int .i64 (-1))))),none⟩] [18])
 (.seq (.seq (.region [⟨(some 21),.fieldAddr 3 (.t 3),none⟩,
 ⟨(some 22),.load none (.t 21),none⟩,
 ⟨(some 23),.mv (.t 7),none⟩,
 ⟨(some 24),.indexAddr 4 (.t 22) (.t 23),none⟩,
 ⟨(some 25),.fieldAddr 0 (.t 24),none⟩,
 ⟨(some 26),.load none (.t 25),none⟩,
 ⟨(some 27),.bin .eql (.t 26) (.k (.c (.d (.int .i64 3)))),none⟩] [21,22,23,24,25,26])
 (.cond (.t 27)
 (.region [⟨(some 30),.fieldAddr 3 (.t 3),none⟩,
 ⟨(some 32),.mv (.t 7),none⟩,
 ⟨(some 29),.load (some 3) (.t 2),none⟩,
 ⟨(some 31),.load none (.t 30),none⟩,
 ⟨(some 33),.indexAddr 4 (.t 31) (.t 32),none⟩,
 ⟨(some 34),.load (some 4) (.t 33),none⟩,
 ⟨(some 35),.qcall 53 [(.t 29),(.t 34)],none⟩,
 ⟨(some 28),.mv (.t 35),none⟩,
 ⟨(some 36),.extract 0 (.t 28),none⟩,
 ⟨(some 37),.extract 1 (.t 28),none⟩,
 ⟨none,.store 3 (.t 2) (.t 36),none⟩,
 ⟨(some 8),.mv (.t 37),none⟩] [27,28,29,30,31,32,33,34,35,36,37])
 (.skip)))
 (.region [⟨(some 38),.mv (.t 6),none⟩,
 ⟨(some 39),.mv (.t 8),none⟩,
 ⟨(some 40),.buildSlice 1 1 [(.int .i64 0)] [(0,(.t 39))],none⟩,
 ⟨(some 41),.append false 1 (.t 38) (.t 40),none⟩,
 ⟨(some 6),.mv (.t 41),none⟩] [8,27,38,39,40,41]))))
 (.region [⟨(some 19),.mv (.t 7),none⟩,
 ⟨(some 20),.bin .add (.t 19) (.k (.c (.d (.int .i64 1)))),none⟩,
 ⟨(some 7),.mv (.t 20),none⟩] [19,20]))))))
 (.seq (.region [⟨(some 42),.fieldAddr 1 (.t 2),none⟩,
 ⟨(some 43),.load none (.t 42),none⟩,
 ⟨(some 9),.mv (.t 43),none⟩] [42,43])
 (.seq (.region [⟨(some 44),.mv (.t 9),none⟩,
 ⟨(some 45),.bin .add (.t 44) (.k (.c (.d (.int .i64 1)))),none⟩,
 ⟨(some 46),.fieldAddr 1 (.t 2),none⟩,
 ⟨none,.store 1 (.t 46) (.t 45),none⟩] [44,45,46])
 (.seq (.region [⟨(some 47),.load (some 3) (.t 2),none⟩,
 ⟨(some 48),.fieldAddr 3 (.t 3),none⟩,
 ⟨(some 49),.load none (.t 48),none⟩,
 ⟨(some 50),.len 1 (.t 49),none⟩,
 ⟨(some 51),.mv (.t 9),none⟩,
 ⟨(some 52),.fieldAddr 2 (.t 3),none⟩,
 ⟨(some 53),.load none (.t 52),none⟩,
 ⟨(some 54),.build [(.d (.int .i64 0)),(.d (.int .i64 0)),(.d (.int .i64 0)),(.d (.str []))] [(0,1,(.k (.c (.d (.int .i64 7))))),(1,1,(.t 50)),(2,1,(.t 51)),(3,1,(.t 53))],none⟩,
 ⟨(some 55),.qcall 35 [(.t 47),(.t 54)],none⟩,
 ⟨none,.store 3 (.t 2) (.t 55),none⟩] [47,48,49,50,51,52,53,54,55])
 (.seq (.seq (.region [⟨(some 10),.mv (.k (.c (.d (.int .i64 0)))),none⟩] [])
 (.block 2 (.loop (.seq (.seq (.region [⟨(some 56),.mv (.t 10),none⟩,
 ⟨(some 57),.fieldAddr 3 (.t 3),none⟩,
 ⟨(some 58),.load none (.t 57),none⟩,
 ⟨(some 59),.len 1 (.t 58),none⟩,
 ⟨(some 60),.bin .lss (.t 56) (.t 59),none⟩] [56,57,58,59])
 (.cond (.t 60)
 (.skip)
 (.exit 2)))
 (.seq (.block 3 (.seq (.seq (.region [⟨(some 63),.mv (.t 6),none⟩,
 ⟨(some 64),.mv (.t 10),none⟩,
 ⟨(some 65),.indexAddr 1 (.t 63) (.t 64),none⟩,
 ⟨(some 66),.load none (.t 65),none⟩,
 ⟨(some 67),.bin .geq (.t 66) (.k (.c (.d (.int .i64 0)))),none⟩] [60,63,64,65,66])
 (.cond (.t 67)
 (.seq (.region [⟨(some 69),.mv (.t 6),none⟩,
 ⟨(some 70),.mv (.t 10),none⟩,
 ⟨(some 71),.indexAddr 1 (.t 69) (.t 70),none⟩,
 ⟨(some 68),.load (some 3) (.t 2),none⟩,
 ⟨(some 72),.load none (.t 71),none⟩,
 ⟨(some 73),.build [(.d (.int .i64 0)),(.d (.int .i64 0)),(.d (.int .i64 0)),(.d (.str []))] [(0,1,(.k (.c (.d (.int .i64 5))))),(1,1,(.t 72))],none⟩,
 ⟨(some 74),.qcall 35 [(.t 68),(.t 73)],none⟩,
 ⟨none,.store 3 (.t 2) (.t 74),none⟩] [67,68,69,70,71,72,73,74])
 (.exit 3))
 (.skip)))
 (.seq (.region [⟨(some 77),.fieldAddr 3 (.t 3),none⟩,
 ⟨(some 79),.mv (.t 10),none⟩,
 ⟨(some 80),.mv (.t 10),none⟩,
 ⟨(some 81),.bin .add (.t 80) (.k (.c (.d (.int .i64 1)))),none⟩,
 ⟨(some 76),.load (some 3) (.t 2),none⟩,
 ⟨(some 78),.load none (.t 77),none⟩,
 ⟨(some 82),.slice 4 (.t 78) (some (.t 79)) (some (.t 81)) none,none⟩,
 ⟨(some 83),.qcall 39 [(.t 76),(.t 82)],none⟩,
 ⟨(some 75),.mv (.t 83),none⟩,
 ⟨(some 84),.extract 0 (.t 75),none⟩,
 ⟨(some 85),.extract 1 (.t 75),none⟩,
 ⟨(some 11),.alloc [(.full []),(.d (.int .i64 0)),(.full [])],none⟩,
 ⟨none,.store 3 (.t 11) (.t 84),none⟩,
 ⟨(some 12),.mv (.t 85),none⟩] [12,67,75,76,77,78,79,80,81,82,83,84,85])
 (.region [⟨(some 86),.load (some 3) (.t 11),none⟩,
 ⟨none,.store 3 (.t 2) (.t 86),none⟩] [11,86]))))
 (.region [⟨(some 61),.mv (.t 10),none⟩,
 ⟨(some 62),.bin .add (.t 61) (.k (.c (.d (.int .i64 1)))),none⟩,
 ⟨(some 10),.mv (.t 62),none⟩] [61,62]))))))
 (.seq (.region [⟨(some 87),.load (some 3) (.t 2),none⟩,
 ⟨(some 88),.mv (.t 9),none⟩,
 ⟨none,.store 3 (.t 4) (.t 87),none⟩,
 ⟨(some 5),.mv (.t 88),none⟩] [2,9,87,88])
 (.ret))))))))
theorem ac53_ok : cFunc Tryz.prog [1000035,1000039,1000053] [(0,[0,1,5],[]),(1,[13],[]),(2,[],[]),(3,[14,15,16,17],[]),(5,[18],[]),(6,[21,22,23,24,25,26],[]),(7,[27,28,29,30,31,32,33,34,35,36,37],[1,3,0,2,4,5,6,7,8,9,10,11]),(8,[8,27,38,39,40,41],[]),(4,[19,20],[]),(9,[42,43],[]),(10,[44,45,46],[]),(11,[47,48,49,50,51,52,53,54,55],[]),(12,[],[]),(13,[56,57,58,59],[]),(15,[60,63,64,65,66],[]),(16,[67,68,69,70,71,72,73,74],[1,2,3,0,4,5,6,7]),(17,[12,67,75,76,77,78,79,80,81,82,83,84,85],[1,3,4,5,0,2,6,7,8,9,10,11,12,13]),(18,[11,86],[]),(14,[61,62],[]),(19,[2,9,87,88],[])] Tryz.f53 = some (ac53,[.cell 4 (some 3),.tmp 5],89) := by kernel_rfl
theorem buildL_sign : ∀ (l : List Tm) (M : Mk) (i : Nat) (t : Tm) (b : Int), l[i]? = some t → (buildL l M).2[i]? = some b → (t.k = 3 → 0 ≤ b) ∧ (t.k ≠ 3 → b = -1)
  | [], M, i, t, b, h, _ => by cases h
  | u :: l, M, i, t, b, h, h' => by
    unfold buildL at h'
    cases i with
    | zero =>
      simp at h
      subst h
      split at h'
      · rename_i hk
        simp at h'
        exact ⟨fun _ => by omega, fun h => absurd hk h⟩
      · rename_i hk
        simp at h'
        exact ⟨fun h => absurd h hk, fun _ => h'.symm⟩
    | succ i =>
      simp at h
      split at h'
      · simp at h'
        exact buildL_sign l _ i t b h h'
      · simp at h'
        exact buildL_sign l _ i t b h h'
theorem args_one (t : Tm) (h : t.k ≠ 3) (M : Mk) : argsT [t] M = (M.desc t, []) := by simp [argsT, h]
theorem row_slice {l : List Tm} {i : Nat} (h : i < l.length) : ((l.map Tm.row).take (i + 1)).drop i = [l[i]].map Tm.row := by
  rw [List.take_succ_eq_append_getElem (by simpa using h), List.drop_left' (by simp; omega)]
  simp
theorem build_calls : ∀ t : Tm, t.good → ∀ (M : Mk) (B : Nat), B + 6 * t.size ≤ 800000 → M.fit B → ∀ H : Heap,
    ACalls Tryz.prog 53 [.agg [.d (.sl (slotsR M.sl)), .d (.int .i64 M.next), .d (.sl M.code)], .agg (t.row.map .d)] H
      (fun r H' => H' = H ∧ r = .tup [.agg [.d (.sl (slotsR (buildT t M).1.sl)), .d (.int .i64 (buildT t M).1.next), .d (.sl (buildT t M).1.code)], .c (.d (.int .i64 (buildT t M).2))]) := by
  refine Tm.ind fun k n s l ih hg M B hB hM H => ?_
  have hl4 := (good_kids hg).1
  have hkg := (good_kids hg).2
  rw [Tm.size] at hB
  refine acalls Tryz.func53 (by kernel_rfl) ac53_ok fun hf => ?_
  have hli : inR .i64 (l.length : Int) := small_i64 (by omega) (by omega)
  simp -implicitDefEqProofs [ac53, hli, row_mk, go_sem, -List.set_cons_succ, -List.set_cons_zero]
  refine loop_enter (St.le_token 6 1 rfl) ?_
  obtain ⟨F, hF⟩ : ∃ F, F = buildL l M := ⟨_, rfl⟩
  have hFl := buildL_len l M
  have hFs := buildL_sign l M
  have hR : buildT (.mk k n s l) M = (partsT l F.2 (F.1.bump.emit 7 l.length F.1.next s), F.1.next) := by rw [buildT, hF]
  rw [hR]
  rw [← hF] at hFl hFs
  refine loop_set (σ := Nat × Mk × List Int) (fun x => [(7, .c (.d (.int .i64 x.1))), (6, .c (.own (.l 3) x.2.2.length (intRows x.2.2)))]) (fun _ => H)
    (fun x => [.cells [.d (.sl (slotsR x.2.1.sl)), .d (.int .i64 x.2.1.next), .d (.sl x.2.1.code)], .cells [.d (.int .i64 k), .d (.int .i64 n), .d (.str s), .d (.sl (l.map Tm.row))], .cells [.full [], .d (.int .i64 0), .full []], .grow x.2.2.length 1])
    (fun x => x.1 ≤ l.length ∧ (∃ cc, x.2.1.fit cc ∧ cc + 6 * sizes (l.drop x.1) ≤ B + 6 * sizes l) ∧ F.1 = (buildL (l.drop x.1) x.2.1).1 ∧ F.2 = x.2.2 ++ (buildL (l.drop x.1) x.2.1).2 ∧ x.2.2.length = x.1) (fun x => l.length - x.1) (0, M, []) (by simp [setAll, intRows]) ⟨Nat.zero_le _, ⟨B, hM, by simp⟩, by simp [hF], by simp [hF], rfl⟩ ?_
  rintro ⟨i, N, bs⟩ ⟨hi, ⟨cc, hN, hC⟩, h1, h2, h3⟩
  simp only at hi hN hC h1 h2 h3
  simp -implicitDefEqProofs [setAll, hli, go_sem, -List.set_cons_succ, -List.set_cons_zero]
  refine ⟨fun hlt => ?_, fun hge => ?_⟩
  · have hadd : inR .i64 ((i : Int) + 1) := small_i64 (by omega) (by omega)
    have hd : l.drop i = l[i] :: l.drop (i + 1) := List.drop_eq_getElem_cons hlt
    rw [hd, buildL] at h1 h2
    rw [hd, sizes] at hC
    have ihi := ih l[i] (List.getElem_mem hlt) (hkg _ (List.getElem_mem hlt)) N cc (by omega) hN
    have hft := build_fit l[i] N cc hN
    refine row_of hlt (row_len _) ?_
    by_cases hk3 : l[i].k = 3
    · simp only [hk3, if_true] at h1 h2
      obtain ⟨R, hRR⟩ : ∃ R, R = buildT l[i] N := ⟨_, rfl⟩
      rw [← hRR] at h1 h2 ihi hft
      simp -implicitDefEqProofs [row_eq, hf, hk3, go_sem, -List.set_cons_succ, -List.set_cons_zero]
      refine row_of hlt (row_len _) ?_
      rw [row_eq] at ihi ⊢
      simp only [List.map_cons, List.map_nil] at ihi
      simp -implicitDefEqProofs [hf, hk3, go_sem, -List.set_cons_succ, -List.set_cons_zero]
      rw [hk3] at ihi
      refine qcall_pure ihi hf rfl ?_
      simp -implicitDefEqProofs [hf, go_sem, -List.set_cons_succ, -List.set_cons_zero]
      refine ⟨allLen_ints _, by rw [intRows_len]; unfold maxApp; omega, ?_⟩
      simp -implicitDefEqProofs [hadd, hf, go_sem, -List.set_cons_succ, -List.set_cons_zero]
      refine loop_less (i + 1, R.1, bs ++ [(R.2 : Int)]) (St.le_cut [] ?_ (by simp [Sl.le, A.le_refl_iff, A.le_u_iff, As.lo, A.lo, C.lo, Ref.lo, Cs.lo, Obs.lo, Ob.lo, setAll, and_true, true_and, List.length_nil, List.length_cons]) (by simp) (by simp [Sl.le, A.le_refl_iff, A.le_u_iff, As.lo, A.lo, C.lo, Ref.lo, Cs.lo, Obs.lo, Ob.lo, setAll, and_true, true_and, List.length_nil, List.length_cons])) ⟨hlt, ⟨_, hft.1, by dsimp only; omega⟩, h1, by rw [h2]; simp, by simp; omega⟩ (by show l.length - (i + 1) < l.length - i; omega)
      simp [setAll, intRows, Sl.le, A.le_refl_iff, A.le_u_iff, As.lo, A.lo, C.lo, Ref.lo, Cs.lo, Obs.lo, Ob.lo, setAll, and_true, true_and, List.length_nil, List.length_cons]
    · simp only [hk3, if_false] at h1 h2
      simp -implicitDefEqProofs [row_eq, hf, hk3, go_sem, -List.set_cons_succ, -List.set_cons_zero]
      refine ⟨allLen_ints _, by rw [intRows_len]; unfold maxApp; omega, hadd, ?_⟩
      have hsz := size_pos l[i]
      refine loop_less (i + 1, N, bs ++ [-1]) (St.le_cut [] ?_ (by simp [Sl.le, A.le_refl_iff, A.le_u_iff, As.lo, A.lo, C.lo, Ref.lo, Cs.lo, Obs.lo, Ob.lo, setAll, and_true, true_and, List.length_nil, List.length_cons]) (by simp) (by simp [Sl.le, A.le_refl_iff, A.le_u_iff, As.lo, A.lo, C.lo, Ref.lo, Cs.lo, Obs.lo, Ob.lo, setAll, and_true, true_and, List.length_nil, List.length_cons])) ⟨hlt, ⟨cc, hN, by dsimp only; omega⟩, h1, by rw [h2]; simp, by simp; omega⟩ (by show l.length - (i + 1) < l.length - i; omega)
      simp [setAll, intRows, Sl.le, A.le_refl_iff, A.le_u_iff, As.lo, A.lo, C.lo, Ref.lo, Cs.lo, Obs.lo, Ob.lo, setAll, and_true, true_and, List.length_nil, List.length_cons]
  · obtain rfl : i = l.length := by omega
    simp [buildL] at h1 h2
    rw [List.drop_of_length_le (by omega)] at hC
    simp only [sizes, Nat.mul_zero, Nat.add_zero] at hC
    have hnx := hN.next
    have hcd := hN.code
    have hal := hN.all
    have hnj : inR .i64 ((N.next : Int) + 1) := small_i64 (by omega) (by omega)
    rw [h1, h2]
    rw [h2] at hFl hFs
    simp -implicitDefEqProofs [hnj, hli, hf, go_sem, -List.set_cons_succ, -List.set_cons_zero]
    refine qcall_pure (emit_calls _ _ _ _ _ _ _ (by omega) hal) hf rfl ?_
    simp -implicitDefEqProofs [hf, go_sem, -List.set_cons_succ, -List.set_cons_zero]
    obtain ⟨G, hG⟩ : ∃ G, G = partsT l bs (N.bump.emit 7 l.length N.next s) := ⟨_, rfl⟩
    rw [← hG]
    have hN2 := hN.bump.emit 7 l.length N.next s
    refine loop_set (σ := Nat × Mk) (fun x => [(10, .c (.d (.int .i64 x.1)))]) (fun _ => H)
      (fun x => [.cells [.d (.sl (slotsR x.2.sl)), .d (.int .i64 x.2.next), .d (.sl x.2.code)], .cells [.d (.int .i64 k), .d (.int .i64 n), .d (.str s), .d (.sl (l.map Tm.row))], .cells [.full [], .d (.int .i64 0), .full []], .grow bs.length 1])
      (fun x => x.1 ≤ l.length ∧ x.2.fit (cc + 2 + 2 * x.1) ∧ partsT (l.drop x.1) (bs.drop x.1) x.2 = G) (fun x => l.length - x.1) (0, N.bump.emit 7 l.length N.next s) (by simp [setAll, Mk.emit, Mk.bump]) ⟨Nat.zero_le _, hN2.mono (by omega), by simp [hG]⟩ ?_
    rintro ⟨i, P⟩ ⟨hi, hP, e1⟩
    simp only at hi hP e1
    simp -implicitDefEqProofs [setAll, hli, go_sem, -List.set_cons_succ, -List.set_cons_zero]
    refine ⟨fun hlt => ?_, fun hge => ?_⟩
    · have hadd : inR .i64 ((i : Int) + 1) := small_i64 (by omega) (by omega)
      have hlb : i < bs.length := by omega
      have hd : l.drop i = l[i] :: l.drop (i + 1) := List.drop_eq_getElem_cons hlt
      have hdb : bs.drop i = bs[i] :: bs.drop (i + 1) := List.drop_eq_getElem_cons hlb
      rw [hd, hdb, partsT] at e1
      have hsg := hFs i l[i] bs[i] (by simp) (by simp)
      have hPn := hP.next
      have hPc := hP.code
      have hPa := hP.all
      have hrow : (intRows bs)[i]? = some [.int .i64 bs[i]] := by simp [intRows, hlb]
      refine row_nat _ hrow rfl ?_
      by_cases hk3 : l[i].k = 3
      · have h0 := hsg.1 hk3
        simp only [hk3, if_true] at e1
        simp -implicitDefEqProofs [h0, hf, go_sem, -List.set_cons_succ, -List.set_cons_zero]
        refine row_nat _ hrow rfl ?_
        simp -implicitDefEqProofs [hf, go_sem, -List.set_cons_succ, -List.set_cons_zero]
        refine qcall_pure (emit_calls _ _ _ _ _ _ _ (by omega) hPa) hf rfl ?_
        simp -implicitDefEqProofs [hadd, hf, go_sem, -List.set_cons_succ, -List.set_cons_zero]
        refine loop_back (i + 1, P.emit 5 bs[i] 0 []) (by simp [setAll, Mk.emit, insR]) ⟨hlt, (hP.emit ..).mono (by omega), e1⟩ (by show l.length - (i + 1) < l.length - i; omega)
      · have h0 : ¬ 0 ≤ bs[i] := by rw [hsg.2 hk3]; omega
        simp only [hk3, if_false] at e1
        have cag := args_calls [l[i]] (by simp) (by simpa using hkg _ (List.getElem_mem hlt)) P _ (by omega) hP
        rw [args_one _ hk3] at cag
        simp -implicitDefEqProofs [h0, hadd, hf, go_sem, -List.set_cons_succ, -List.set_cons_zero]
        refine ⟨allLen_map row_len, ⟨by omega, by omega⟩, ?_⟩
        rw [row_slice hlt]
        refine qcall_pure cag hf rfl ?_
        simp -implicitDefEqProofs [hadd, hf, go_sem, -List.set_cons_succ, -List.set_cons_zero]
        refine loop_less (i + 1, P.desc l[i]) (St.le_cut [_] ?_ (by simp [Sl.le, A.le_refl_iff, A.le_u_iff, As.lo, A.lo, C.lo, Ref.lo, Cs.lo, Obs.lo, Ob.lo, setAll, and_true, true_and, List.length_nil, List.length_cons]) (by simp; rfl) (by simp [Sl.le, A.le_refl_iff, A.le_u_iff, As.lo, A.lo, C.lo, Ref.lo, Cs.lo, Obs.lo, Ob.lo, setAll, and_true, true_and, List.length_nil, List.length_cons])) ⟨hlt, (hP.desc _).mono (by dsimp only; omega), e1⟩ (by show l.length - (i + 1) < l.length - i; omega)
        simp [setAll, Sl.le, A.le_refl_iff, A.le_u_iff, As.lo, A.lo, C.lo, Ref.lo, Cs.lo, Obs.lo, Ob.lo, setAll, and_true, true_and, List.length_nil, List.length_cons]
    · obtain rfl : i = l.length := by omega
      rw [List.drop_of_length_le (by omega), partsT] at e1
      · subst e1
        simp -implicitDefEqProofs [hf, go_sem, -List.set_cons_succ, -List.set_cons_zero]
      · simp
-- 36 loop.example/prologserver/spec.l8Put params 3 ntmps 73
def ac36 : Cd := .seq (.region [⟨(some 3),.box (.t 0),none⟩,
 ⟨(some 4),.box (.t 1),none⟩,
 ⟨(some 6),.alloc [(.full []),(.d (.int .i64 0)),(.full [])],none⟩] [0,1])
 (.seq (.block 0 (.seq (.region [⟨(some 9),.fieldAddr 0 (.t 4),none⟩,
 ⟨(some 10),.load none (.t 9),none⟩,
 ⟨(some 11),.bin .eql (.t 10) (.k (.c (.d (.int .i64 2)))),none⟩,
 ⟨(some 8),.mv (.t 11),none⟩] [9,10,11])
 (.cond (.t 8)
 (.seq (.region [⟨(some 12),.load (some 3) (.t 3),none⟩,
 ⟨(some 13),.fieldAddr 1 (.t 4),none⟩,
 ⟨(some 14),.load none (.t 13),none⟩,
 ⟨(some 15),.mv (.t 2),none⟩,
 ⟨(some 16),.build [(.d (.int .i64 0)),(.d (.int .i64 0)),(.d (.int .i64 0)),(.d (.str []))] [(0,1,(.k (.c (.d (.int .i64 10))))),(1,1,(.t 14)),(2,1,(.t 15))],none⟩,
 ⟨(some 17),.qcall 35 [(.t 12),(.t 16)],none⟩,
 ⟨none,.store 3 (.t 6) (.t 17),none⟩] [2,3,4,8,12,13,14,15,16,17])
 (.ret))
 (.seq (.region [⟨(some 19),.fieldAddr 0 (.t 4),none⟩,
 ⟨(some 20),.load none (.t 19),none⟩,
 ⟨(some 21),.bin .eql (.t 20) (.k (.c (.d (.int .i64 1)))),none⟩,
 ⟨(some 22),.mv (.t 21),none⟩,
 ⟨(some 23),.fieldAddr 0 (.t 3),some (22,true)⟩,
 ⟨(some 24),.load none (.t 23),some (22,true)⟩,
 ⟨(some 25),.fieldAddr 1 (.t 4),some (22,true)⟩,
 ⟨(some 26),.load none (.t 25),some (22,true)⟩,
 ⟨(some 27),.indexAddr 1 (.t 24) (.t 26),some (22,true)⟩,
 ⟨(some 28),.load none (.t 27),some (22,true)⟩,
 ⟨(some 29),.bin .geq (.t 28) (.k (.c (.d (.int .i64 0)))),some (22,true)⟩,
 ⟨(some 30),.pick (.t 22) (.t 29) (.k (.c (.d (.bool false)))),none⟩,
 ⟨(some 18),.mv (.t 30),none⟩] [8,19,20,21,22,23,24,25,26,27,28,29,30])
 (.cond (.t 18)
 (.seq (.region [⟨(some 32),.fieldAddr 0 (.t 3),none⟩,
 ⟨(some 34),.fieldAddr 1 (.t 4),none⟩,
 ⟨(some 38),.mv (.t 2),none⟩,
 ⟨(some 31),.load (some 3) (.t 3),none⟩,
 ⟨(some 33),.load none (.t 32),none⟩,
 ⟨(some 35),.load none (.t 34),none⟩,
 ⟨(some 36),.indexAddr 1 (.t 33) (.t 35),none⟩,
 ⟨(some 37),.load none (.t 36),none⟩,
 ⟨(some 39),.build [(.d (.int .i64 0)),(.d (.int .i64 0)),(.d (.int .i64 0)),(.d (.str []))] [(0,1,(.k (.c (.d (.int .i64 9))))),(1,1,(.t 37)),(2,1,(.t 38))],none⟩,
 ⟨(some 40),.qcall 35 [(.t 31),(.t 39)],none⟩,
 ⟨none,.store 3 (.t 6) (.t 40),none⟩] [2,3,4,18,31,32,33,34,35,36,37,38,39,40])
 (.ret))
 (.seq (.region [⟨(some 42),.fieldAddr 0 (.t 4),none⟩,
 ⟨(some 43),.load none (.t 42),none⟩,
 ⟨(some 44),.bin .eql (.t 43) (.k (.c (.d (.int .i64 1)))),none⟩,
 ⟨(some 41),.mv (.t 44),none⟩] [18,42,43,44])
 (.cond (.t 41)
 (.seq (.region [⟨(some 45),.load (some 3) (.t 3),none⟩,
 ⟨(some 46),.fieldAddr 1 (.t 4),none⟩,
 ⟨(some 47),.load none (.t 46),none⟩,
 ⟨(some 48),.fieldAddr 1 (.t 3),none⟩,
 ⟨(some 49),.load none (.t 48),none⟩,
 ⟨(some 50),.qcall 38 [(.t 45),(.t 47),(.t 49)],none⟩,
 ⟨none,.store 3 (.t 3) (.t 50),none⟩] [4,41,45,46,47,48,49,50])
 (.seq (.region [⟨(some 51),.fieldAddr 1 (.t 3),none⟩,
 ⟨(some 52),.load none (.t 51),none⟩,
 ⟨(some 53),.bin .add (.t 52) (.k (.c (.d (.int .i64 1)))),none⟩,
 ⟨(some 54),.fieldAddr 1 (.t 3),none⟩,
 ⟨none,.store 1 (.t 54) (.t 53),none⟩] [51,52,53,54])
 (.seq (.region [⟨(some 55),.load (some 3) (.t 3),none⟩,
 ⟨(some 56),.fieldAddr 1 (.t 3),none⟩,
 ⟨(some 57),.load none (.t 56),none⟩,
 ⟨(some 58),.bin .sub (.t 57) (.k (.c (.d (.int .i64 1)))),none⟩,
 ⟨(some 59),.mv (.t 2),none⟩,
 ⟨(some 60),.build [(.d (.int .i64 0)),(.d (.int .i64 0)),(.d (.int .i64 0)),(.d (.str []))] [(0,1,(.k (.c (.d (.int .i64 8))))),(1,1,(.t 58)),(2,1,(.t 59))],none⟩,
 ⟨(some 61),.qcall 35 [(.t 55),(.t 60)],none⟩,
 ⟨none,.store 3 (.t 6) (.t 61),none⟩] [2,3,55,56,57,58,59,60,61])
 (.ret))))
 (.skip))))))))
 (.seq (.region [⟨(some 63),.load (some 3) (.t 3),none⟩,
 ⟨(some 64),.load (some 4) (.t 4),none⟩,
 ⟨(some 65),.qcall 53 [(.t 63),(.t 64)],none⟩,
 ⟨(some 62),.mv (.t 65),none⟩,
 ⟨(some 66),.extract 0 (.t 62),none⟩,
 ⟨(some 67),.extract 1 (.t 62),none⟩,
 ⟨none,.store 3 (.t 3) (.t 66),none⟩,
 ⟨(some 7),.mv (.t 67),none⟩] [4,41,62,63,64,65,66,67])
 (.seq (.region [⟨(some 68),.load (some 3) (.t 3),none⟩,
 ⟨(some 69),.mv (.t 7),none⟩,
 ⟨(some 70),.mv (.t 2),none⟩,
 ⟨(some 71),.build [(.d (.int .i64 0)),(.d (.int .i64 0)),(.d (.int .i64 0)),(.d (.str []))] [(0,1,(.k (.c (.d (.int .i64 9))))),(1,1,(.t 69)),(2,1,(.t 70))],none⟩,
 ⟨(some 72),.qcall 35 [(.t 68),(.t 71)],none⟩,
 ⟨none,.store 3 (.t 6) (.t 72),none⟩] [2,3,7,68,69,70,71,72])
 (.ret))))
theorem ac36_ok : cFunc Tryz.prog [1000035,1000038,1000053] [(0,[0,1],[]),(1,[9,10,11],[]),(2,[2,3,4,8,12,13,14,15,16,17],[]),(3,[8,19,20,21,22,23,24,25,26,27,28,29,30],[]),(4,[2,3,4,18,31,32,33,34,35,36,37,38,39,40],[1,3,7,0,2,4,5,6,8,9,10]),(5,[18,42,43,44],[]),(6,[4,41,45,46,47,48,49,50],[]),(7,[51,52,53,54],[]),(8,[2,3,55,56,57,58,59,60,61],[]),(9,[4,41,62,63,64,65,66,67],[]),(10,[2,3,7,68,69,70,71,72],[])] Tryz.f36 = some (ac36,[.cell 6 (some 3)],73) := by kernel_rfl
theorem put_calls (t : Tm) (hg : t.good) (i : Nat) (M : Mk) (B : Nat) (hB : B + 6 * t.size ≤ 700000) (hM : M.fit B) (H : Heap) :
    ACalls Tryz.prog 36 [.agg [.d (.sl (slotsR M.sl)), .d (.int .i64 M.next), .d (.sl M.code)], .agg (t.row.map .d), .c (.d (.int .i64 i))] H
      (fun r H' => H' = H ∧ r = .agg [.d (.sl (slotsR (putT M t i).sl)), .d (.int .i64 (putT M t i).next), .d (.sl (putT M t i).code)]) := by
  refine acalls Tryz.func36 (by kernel_rfl) ac36_ok fun hf => ?_
  have hvs := var_slot hg
  have hnx := hM.next
  have hcd := hM.code
  have hal := hM.all
  have hbt := build_calls t hg M B (by omega) hM
  have hbf := build_fit t M B hM
  obtain ⟨R, hR⟩ : ∃ R, R = buildT t M := ⟨_, rfl⟩
  rw [← hR] at hbt hbf
  have hnj : inR .i64 ((M.next : Int) + 1) := small_i64 (by omega) (by omega)
  have hn2 : inR .i64 (M.next : Int) := small_i64 (by omega) (by omega)
  obtain ⟨k, n, s, kids⟩ := t
  have hpt : putT M (.mk k n s kids) i = if k = 2 then M.emit 10 n i [] else if k = 1 then (match slotO M.sl n with | some v => M.emit 9 v i [] | none => ((M.give n M.next).bump).emit 8 M.next i []) else R.1.emit 9 R.2 i [] := by
    rw [hR]; rfl
  rw [hpt]
  cases hg with
  | mk ho hk =>
    rcases own_cases ho with ⟨rfl, n0, n1, rfl, rfl⟩ | ⟨rfl, n0, n1, rfl, rfl⟩ | ⟨rfl, rfl, hs2, hl4⟩
    · obtain ⟨v, hv, hv26⟩ := hvs rfl
      simp only [Tm.n] at hv
      subst hv
      have hget := slotsR_get M.sl hv26
      simp -implicitDefEqProofs [ac36, row_mk, hf, go_sem, -List.set_cons_succ, -List.set_cons_zero]
      refine row_nat _ hget rfl ?_
      cases hsv : slotO M.sl v with
      | some u =>
        have hu0 : ¬ (u : Int) < 0 := by omega
        simp -implicitDefEqProofs [hu0, hf, go_sem, -List.set_cons_succ, -List.set_cons_zero]
        refine row_nat _ hget rfl ?_
        simp -implicitDefEqProofs [hsv, hf, go_sem, -List.set_cons_succ, -List.set_cons_zero]
        refine qcall_pure (emit_calls _ _ _ _ _ _ _ (by omega) hal) hf rfl ?_
        simp -implicitDefEqProofs [Mk.emit, insR, hf, go_sem, -List.set_cons_succ, -List.set_cons_zero]
      | none =>
        simp -implicitDefEqProofs [hf, go_sem, -List.set_cons_succ, -List.set_cons_zero]
        refine qcall_pure (slot_calls M.sl M.code _ v M.next hv26 hsv (by omega)) hf rfl ?_
        simp -implicitDefEqProofs [hnj, hn2, hf, go_sem, -List.set_cons_succ, -List.set_cons_zero]
        refine qcall_pure (emit_calls _ _ _ _ _ _ _ (by omega) hal) hf rfl ?_
        simp -implicitDefEqProofs [Mk.emit, Mk.give, Mk.bump, insR, hf, go_sem, -List.set_cons_succ, -List.set_cons_zero]
    · simp -implicitDefEqProofs [ac36, row_mk, hf, go_sem, -List.set_cons_succ, -List.set_cons_zero]
      refine qcall_pure (emit_calls _ _ _ _ _ _ _ (by omega) hal) hf rfl ?_
      simp -implicitDefEqProofs [Mk.emit, insR, hf, go_sem, -List.set_cons_succ, -List.set_cons_zero]
    · rw [row_mk] at hbt
      simp only [List.map_cons, List.map_nil] at hbt
      have hcd2 := hbf.1.code
      simp -implicitDefEqProofs [ac36, row_mk, hf, go_sem, -List.set_cons_succ, -List.set_cons_zero]
      refine row_off [.int .i64 0] ?_
      simp -implicitDefEqProofs [hf, go_sem, -List.set_cons_succ, -List.set_cons_zero]
      refine qcall_pure hbt hf rfl ?_
      simp -implicitDefEqProofs [hf, go_sem, -List.set_cons_succ, -List.set_cons_zero]
      refine qcall_pure (emit_calls _ _ _ _ _ _ _ (by omega) hbf.1.all) hf rfl ?_
      simp -implicitDefEqProofs [Mk.emit, insR, hf, go_sem, -List.set_cons_succ, -List.set_cons_zero]

-- 19 loop.example/prologserver/spec.l8Goals params 2 ntmps 57
-- loop head live: [1,2,4,5]
-- loop head live: [1,2,4,5,6,7]
def ac19 : Cd := .seq (.region [⟨(some 2),.box (.t 0),none⟩,
 ⟨(some 4),.alloc [(.full []),(.d (.int .i64 0)),(.full [])],none⟩] [0])
 (.seq (.seq (.region [⟨(some 5),.mv (.k (.c (.d (.int .i64 0)))),none⟩] [])
 (.block 0 (.loop (.seq (.seq (.region [⟨(some 9),.mv (.t 5),none⟩,
 ⟨(some 10),.mv (.t 1),none⟩,
 ⟨(some 11),.len 1 (.t 10),none⟩,
 ⟨(some 12),.bin .lss (.t 9) (.t 11),none⟩] [9,10,11])
 (.cond (.t 12)
 (.skip)
 (.exit 0)))
 (.seq (.block 1 (.seq (.region [⟨(some 15),.mv (.t 1),none⟩,
 ⟨(some 16),.mv (.t 5),none⟩,
 ⟨(some 17),.indexAddr 4 (.t 15) (.t 16),none⟩,
 ⟨(some 18),.load (some 4) (.t 17),none⟩,
 ⟨(some 6),.alloc [(.d (.int .i64 0)),(.d (.int .i64 0)),(.d (.str [])),(.full [])],none⟩,
 ⟨none,.store 4 (.t 6) (.t 18),none⟩] [12,15,16,17,18])
 (.seq (.seq (.region [⟨(some 19),.load (some 4) (.t 6),none⟩,
 ⟨(some 20),.qcall 34 [(.t 19)],none⟩] [19])
 (.cond (.t 20)
 (.seq (.region [⟨(some 21),.load (some 3) (.t 2),none⟩,
 ⟨(some 22),.build [(.d (.int .i64 0)),(.d (.int .i64 0)),(.d (.int .i64 0)),(.d (.str []))] [(0,1,(.k (.c (.d (.int .i64 13)))))],none⟩,
 ⟨(some 23),.qcall 35 [(.t 21),(.t 22)],none⟩,
 ⟨none,.store 3 (.t 2) (.t 23),none⟩] [6,20,21,22,23])
 (.exit 1))
 (.skip)))
 (.seq (.seq (.region [⟨(some 7),.mv (.k (.c (.d (.int .i64 0)))),none⟩] [20])
 (.block 2 (.loop (.seq (.seq (.region [⟨(some 24),.mv (.t 7),none⟩,
 ⟨(some 25),.fieldAddr 3 (.t 6),none⟩,
 ⟨(some 26),.load none (.t 25),none⟩,
 ⟨(some 27),.len 1 (.t 26),none⟩,
 ⟨(some 28),.bin .lss (.t 24) (.t 27),none⟩] [24,25,26,27])
 (.cond (.t 28)
 (.skip)
 (.exit 2)))
 (.seq (.block 3 (.region [⟨(some 32),.fieldAddr 3 (.t 6),none⟩,
 ⟨(some 34),.mv (.t 7),none⟩,
 ⟨(some 37),.mv (.t 7),none⟩,
 ⟨(some 31),.load (some 3) (.t 2),none⟩,
 ⟨(some 33),.load none (.t 32),none⟩,
 ⟨(some 35),.indexAddr 4 (.t 33) (.t 34),none⟩,
 ⟨(some 36),.load (some 4) (.t 35),none⟩,
 ⟨(some 38),.qcall 36 [(.t 31),(.t 36),(.t 37)],none⟩,
 ⟨none,.store 3 (.t 2) (.t 38),none⟩] [28,31,32,33,34,35,36,37,38]))
 (.region [⟨(some 29),.mv (.t 7),none⟩,
 ⟨(some 30),.bin .add (.t 29) (.k (.c (.d (.int .i64 1)))),none⟩,
 ⟨(some 7),.mv (.t 30),none⟩] [29,30]))))))
 (.seq (.region [⟨(some 8),.mv (.k (.c (.d (.int .i64 11)))),none⟩] [])
 (.seq (.seq (.region [⟨(some 39),.fieldAddr 2 (.t 6),none⟩,
 ⟨(some 40),.load none (.t 39),none⟩,
 ⟨(some 41),.fieldAddr 3 (.t 6),none⟩,
 ⟨(some 42),.load none (.t 41),none⟩,
 ⟨(some 43),.len 1 (.t 42),none⟩,
 ⟨(some 44),.qcall 37 [(.t 40),(.t 43)],none⟩] [39,40,41,42,43])
 (.cond (.t 44)
 (.region [⟨(some 8),.mv (.k (.c (.d (.int .i64 12)))),none⟩] [44])
 (.skip)))
 (.region [⟨(some 45),.load (some 3) (.t 2),none⟩,
 ⟨(some 46),.mv (.t 8),none⟩,
 ⟨(some 47),.fieldAddr 3 (.t 6),none⟩,
 ⟨(some 48),.load none (.t 47),none⟩,
 ⟨(some 49),.len 1 (.t 48),none⟩,
 ⟨(some 50),.fieldAddr 2 (.t 6),none⟩,
 ⟨(some 51),.load none (.t 50),none⟩,
 ⟨(some 52),.build [(.d (.int .i64 0)),(.d (.int .i64 0)),(.d (.int .i64 0)),(.d (.str []))] [(0,1,(.t 46)),(1,1,(.t 49)),(3,1,(.t 51))],none⟩,
 ⟨(some 53),.qcall 35 [(.t 45),(.t 52)],none⟩,
 ⟨none,.store 3 (.t 2) (.t 53),none⟩] [6,8,44,45,46,47,48,49,50,51,52,53])))))))
 (.region [⟨(some 13),.mv (.t 5),none⟩,
 ⟨(some 14),.bin .add (.t 13) (.k (.c (.d (.int .i64 1)))),none⟩,
 ⟨(some 5),.mv (.t 14),none⟩] [13,14]))))))
 (.seq (.region [⟨(some 54),.load (some 3) (.t 2),none⟩,
 ⟨(some 55),.build [(.d (.int .i64 0)),(.d (.int .i64 0)),(.d (.int .i64 0)),(.d (.str []))] [(0,1,(.k (.c (.d (.int .i64 14)))))],none⟩,
 ⟨(some 56),.qcall 35 [(.t 54),(.t 55)],none⟩,
 ⟨none,.store 3 (.t 4) (.t 56),none⟩] [2,54,55,56])
 (.ret)))
theorem ac19_ok : cFunc Tryz.prog [1000034,1000035,1000036,1000037] [(0,[0],[]),(1,[],[]),(2,[9,10,11],[]),(4,[12,15,16,17,18],[]),(5,[19],[]),(6,[6,20,21,22,23],[]),(7,[20],[]),(8,[24,25,26,27],[]),(10,[28,31,32,33,34,35,36,37,38],[1,3,6,0,2,4,5,7,8]),(9,[29,30],[]),(11,[],[]),(12,[39,40,41,42,43],[]),(13,[44],[]),(14,[6,8,44,45,46,47,48,49,50,51,52,53],[]),(3,[13,14],[]),(15,[2,54,55,56],[])] Tryz.f19 = some (ac19,[.cell 4 (some 3)],57) := by kernel_rfl
-- 9 loop.example/prologserver/spec.l8Clause params 1 ntmps 12
def ac9 : Cd := .seq (.region [⟨(some 1),.box (.t 0),none⟩,
 ⟨(some 2),.mv (.k (.c (.full []))),none⟩] [0,2])
 (.seq (.region [⟨(some 4),.fieldAddr 0 (.t 1),none⟩,
 ⟨(some 5),.fieldAddr 3 (.t 4),none⟩,
 ⟨(some 8),.fieldAddr 4 (.t 1),none⟩,
 ⟨(some 3),.qcall 21 [],none⟩,
 ⟨(some 6),.load none (.t 5),none⟩,
 ⟨(some 7),.qcall 20 [(.t 3),(.t 6)],none⟩,
 ⟨(some 9),.load none (.t 8),none⟩,
 ⟨(some 10),.qcall 19 [(.t 7),(.t 9)],none⟩,
 ⟨(some 11),.field 2 none (.t 10),none⟩,
 ⟨(some 2),.mv (.t 11),none⟩] [1,3,4,5,6,7,8,9,10,11])
 (.ret))
theorem ac9_ok : cFunc Tryz.prog [1000019,1000020,1000021] [(0,[0,2],[]),(1,[1,3,4,5,6,7,8,9,10,11],[1,2,5,0,3,4,6,7,8,9])] Tryz.f9 = some (ac9,[.tmp 2],12) := by kernel_rfl
/-- the code of a goal -/
def goalT (g : Tm) (M : Mk) : Mk := if g.cutB then M.emit 13 0 0 [] else (putsT g.kids 0 M).emit (if builtB g.s g.kids.length then 12 else 11) g.kids.length 0 g.s
def goalsT : List Tm → Mk → Mk
  | [], M => M
  | g :: l, M => goalsT l (goalT g M)
def bodyT (l : List Tm) (M : Mk) : Mk := (goalsT l M).emit 14 0 0 []
theorem sizes_app : ∀ a b : List Tm, sizes (a ++ b) = sizes a + sizes b
  | [], b => by simp [sizes]
  | t :: a, b => by simp [sizes, sizes_app a b]; omega
theorem puts_fit : ∀ (l : List Tm) (i : Nat) (M : Mk) (B : Nat), M.fit B → (putsT l i M).fit (B + 6 * sizes l + 2 * l.length)
  | [], _, M, B, h => by simpa [putsT, sizes] using h
  | t :: l, i, M, B, h => by
    unfold putsT
    exact (puts_fit l (i + 1) _ _ (put_fit h t i)).mono (by simp [sizes]; omega)
theorem puts_last : ∀ (l : List Tm) (t : Tm) (i : Nat) (M : Mk), putsT (l ++ [t]) i M = putT (putsT l i M) t (i + l.length)
  | [], t, i, M => by simp [putsT]
  | u :: l, t, i, M => by
    simp only [List.cons_append, putsT, List.length_cons]
    rw [puts_last l t (i + 1)]
    congr 1
    omega
theorem sizes_len : ∀ l : List Tm, l.length ≤ sizes l
  | [] => by simp
  | t :: l => by have := size_pos t; have := sizes_len l; simp [sizes]; omega
theorem goal_fit (g : Tm) {M : Mk} {B : Nat} (h : M.fit B) : (goalT g M).fit (B + 8 * g.size + 1) := by
  unfold goalT
  split
  · exact (h.emit ..).mono (by omega)
  · obtain ⟨k, n, s, l⟩ := g
    refine ((puts_fit _ 0 _ _ h).emit ..).mono ?_
    have := sizes_len l
    simp [Tm.size, Tm.kids]
    omega
theorem goals_fit : ∀ (l : List Tm) (M : Mk) (B : Nat), M.fit B → (goalsT l M).fit (B + 9 * sizes l)
  | [], M, B, h => by simpa [goalsT] using h.mono (by omega)
  | g :: l, M, B, h => by
    unfold goalsT
    have := size_pos g
    exact (goals_fit l _ _ (goal_fit g h)).mono (by simp [sizes]; omega)
theorem goals_calls (l : List Tm) (hl : l.length ≤ 6) (hft : ∀ t ∈ l, t.fits) (hg : ∀ t ∈ l, t.good) (hz : sizes l ≤ 1000) (M : Mk) (B : Nat) (hB : B ≤ 100000) (hM : M.fit B) (H : Heap) :
    ACalls Tryz.prog 19 [.agg [.d (.sl (slotsR M.sl)), .d (.int .i64 M.next), .d (.sl M.code)], .c (.d (.sl (l.map Tm.row)))] H
      (fun r H' => H' = H ∧ r = .agg [.d (.sl (slotsR (bodyT l M).sl)), .d (.int .i64 (bodyT l M).next), .d (.sl (bodyT l M).code)]) := by
  refine acalls Tryz.func19 (by kernel_rfl) ac19_ok fun hf => ?_
  have hli : inR .i64 (l.length : Int) := small_i64 (by omega) (by omega)
  have hb := goals_fit l M B hM
  simp -implicitDefEqProofs [ac19, hli, go_sem, -List.set_cons_succ, -List.set_cons_zero]
  refine loop_set (σ := Nat × Mk) (fun x => [(5, .c (.d (.int .i64 x.1)))]) (fun _ => H)
    (fun x => [.cells [.d (.sl (slotsR x.2.sl)), .d (.int .i64 x.2.next), .d (.sl x.2.code)], .cells [.full [], .d (.int .i64 0), .full []]])
    (fun x => x.1 ≤ l.length ∧ (∃ cc, x.2.fit cc ∧ cc + 9 * sizes (l.drop x.1) ≤ B + 9 * sizes l) ∧ bodyT (l.drop x.1) x.2 = bodyT l M) (fun x => l.length - x.1) (0, M) (by simp [setAll]) ⟨Nat.zero_le _, ⟨B, hM, by simp⟩, by simp⟩ ?_
  rintro ⟨i, N⟩ ⟨hi, ⟨cc, hN, hC⟩, h1⟩
  simp only at hi hN hC h1
  have hnx := hN.next
  have hcd := hN.code
  have hal := hN.all
  simp -implicitDefEqProofs [setAll, hli, go_sem, -List.set_cons_succ, -List.set_cons_zero]
  refine ⟨fun hlt => ?_, fun hge => ?_⟩
  · have hadd : inR .i64 ((i : Int) + 1) := small_i64 (by omega) (by omega)
    have hd : l.drop i = l[i] :: l.drop (i + 1) := List.drop_eq_getElem_cons hlt
    have hsz := size_pos l[i]
    rw [hd, sizes] at hC
    have hgf := goal_fit l[i] hN
    rw [hd, bodyT, goalsT] at h1
    have hrow : (l.map Tm.row)[i]? = some l[i].row := by simp [hlt]
    have hgd := hg _ (List.getElem_mem hlt)
    have hfit := hft _ (List.getElem_mem hlt)
    have c1 := cutSpec_calls l[i] hfit
    obtain ⟨t, ht⟩ : ∃ t, t = l[i] := ⟨_, rfl⟩
    rw [← ht] at hgd h1 hrow hC hfit c1 hgf hsz
    clear ht
    obtain ⟨k, n, s, kids⟩ := t
    have hkg := good_kids hgd
    rw [row_mk] at c1
    simp only [List.map_cons, List.map_nil] at c1
    refine row_nat _ hrow rfl ?_
    simp -implicitDefEqProofs [row_mk, hf, go_sem, -List.set_cons_succ, -List.set_cons_zero]
    refine qcall_pure c1 hf rfl ?_
    cases hcut : (Tm.mk k n s kids).cutB with
    | true =>
      rw [goalT, hcut] at h1 hgf
      simp only [if_true] at h1 hgf
      simp -implicitDefEqProofs [hf, go_sem, -List.set_cons_succ, -List.set_cons_zero]
      refine qcall_pure (emit_calls _ _ _ _ _ _ _ (by omega) hal) hf rfl ?_
      simp -implicitDefEqProofs [hadd, hf, go_sem, -List.set_cons_succ, -List.set_cons_zero]
      refine loop_less (i + 1, N.emit 13 0 0 []) (St.le_cut [_] ?_ (by simp [Sl.le, A.le_refl_iff, A.le_u_iff, As.lo, A.lo, C.lo, Ref.lo, Cs.lo, Obs.lo, Ob.lo, setAll, and_true, true_and, List.length_nil, List.length_cons]) (by simp [Mk.emit]; rfl) (by simp [Sl.le, A.le_refl_iff, A.le_u_iff, As.lo, A.lo, C.lo, Ref.lo, Cs.lo, Obs.lo, Ob.lo, setAll, and_true, true_and, List.length_nil, List.length_cons])) ⟨hlt, ⟨_, hgf, by dsimp only; omega⟩, h1⟩ (by show l.length - (i + 1) < l.length - i; omega)
      simp [setAll, Sl.le, A.le_refl_iff, A.le_u_iff, As.lo, A.lo, C.lo, Ref.lo, Cs.lo, Obs.lo, Ob.lo, setAll, and_true, true_and, List.length_nil, List.length_cons]
    | false =>
      rw [goalT, hcut] at h1 hgf
      simp only [Bool.false_eq_true, if_false, Tm.kids, Tm.s] at h1 hgf
      have hkl : inR .i64 (kids.length : Int) := small_i64 (by omega) (by omega)
      obtain ⟨G, hG⟩ : ∃ G, G = putsT kids 0 N := ⟨_, rfl⟩
      have hGf := puts_fit kids 0 N _ hN
      rw [← hG] at h1 hgf hGf
      have hsz2 : (Tm.mk k n s kids).size = 1 + sizes kids := by rw [Tm.size]
      simp -implicitDefEqProofs [hf, go_sem, -List.set_cons_succ, -List.set_cons_zero]
      refine loop_set (σ := Nat × Mk) (fun x => [(7, .c (.d (.int .i64 x.1)))]) (fun _ => H)
        (fun x => [.cells [.d (.sl (slotsR x.2.sl)), .d (.int .i64 x.2.next), .d (.sl x.2.code)], .cells [.full [], .d (.int .i64 0), .full []], .cells [.d (.int .i64 k), .d (.int .i64 n), .d (.str s), .d (.sl (kids.map Tm.row))]])
        (fun x => x.1 ≤ kids.length ∧ x.2 = putsT (kids.take x.1) 0 N) (fun x => kids.length - x.1) (0, N) (by simp [setAll]) ⟨Nat.zero_le _, by simp [putsT]⟩ ?_
      rintro ⟨j, P⟩ ⟨hj, e1⟩
      simp only at hj e1
      simp -implicitDefEqProofs [setAll, hkl, go_sem, -List.set_cons_succ, -List.set_cons_zero]
      refine ⟨fun hjl => ?_, fun hjg => ?_⟩
      · have hadj : inR .i64 ((j : Int) + 1) := small_i64 (by omega) (by omega)
        have hPf := puts_fit (kids.take j) 0 N _ hN
        have hszj : sizes (kids.take j) + kids[j].size ≤ sizes kids := by
          have e2 : sizes (kids.take (j + 1)) = sizes (kids.take j) + kids[j].size := by
            rw [List.take_succ_eq_append_getElem hjl, sizes_app]; simp [sizes]
          have e3 : sizes kids = sizes (kids.take (j + 1)) + sizes (kids.drop (j + 1)) := by rw [← sizes_app, List.take_append_drop]
          omega
        have hput : putT P kids[j] j = putsT (kids.take (j + 1)) 0 N := by
          rw [List.take_succ_eq_append_getElem hjl, puts_last, e1]
          congr 1
          simp
          omega
        have hjt : (kids.take j).length ≤ 4 := by simp; omega
        rw [← e1] at hPf
        have cp := put_calls kids[j] (hkg.2 _ (List.getElem_mem hjl)) j P _ (by omega) hPf
        rw [hput] at cp
        refine row_of hjl (row_len _) ?_
        simp -implicitDefEqProofs [row_len, take_row, pure_d, re_d, hf, go_sem, -List.set_cons_succ, -List.set_cons_zero]
        refine qcall_pure cp hf rfl ?_
        simp -implicitDefEqProofs [hadj, hf, go_sem, -List.set_cons_succ, -List.set_cons_zero]
        exact loop_back (j + 1, putsT (kids.take (j + 1)) 0 N) (by simp [setAll]) ⟨hjl, rfl⟩ (by show kids.length - (j + 1) < kids.length - j; omega)
      · obtain rfl : j = kids.length := by omega
        rw [List.take_length, ← hG] at e1
        subst e1
        have hPc := hGf.code
        have hPa := hGf.all
        have cb := builtSpec_calls s kids.length
        simp -implicitDefEqProofs [hkl, hf, go_sem, -List.set_cons_succ, -List.set_cons_zero]
        refine qcall_pure cb hf rfl ?_
        cases hbb : builtB s kids.length with
        | true =>
          simp only [hbb, if_true] at h1 hgf
          simp -implicitDefEqProofs [hkl, hf, go_sem, -List.set_cons_succ, -List.set_cons_zero]
          refine qcall_pure (emit_calls _ _ _ _ _ _ _ (by omega) hPa) hf rfl ?_
          simp -implicitDefEqProofs [hadd, hf, go_sem, -List.set_cons_succ, -List.set_cons_zero]
          refine loop_less (i + 1, P.emit 12 kids.length 0 s) (St.le_cut [_] ?_ (by simp [Sl.le, A.le_refl_iff, A.le_u_iff, As.lo, A.lo, C.lo, Ref.lo, Cs.lo, Obs.lo, Ob.lo, setAll, and_true, true_and, List.length_nil, List.length_cons]) (by simp [Mk.emit]; rfl) (by simp [Sl.le, A.le_refl_iff, A.le_u_iff, As.lo, A.lo, C.lo, Ref.lo, Cs.lo, Obs.lo, Ob.lo, setAll, and_true, true_and, List.length_nil, List.length_cons])) ⟨hlt, ⟨_, hgf, by dsimp only; omega⟩, h1⟩ (by show l.length - (i + 1) < l.length - i; omega)
          simp [setAll, Sl.le, A.le_refl_iff, A.le_u_iff, As.lo, A.lo, C.lo, Ref.lo, Cs.lo, Obs.lo, Ob.lo, setAll, and_true, true_and, List.length_nil, List.length_cons]
        | false =>
          simp only [hbb, Bool.false_eq_true, if_false] at h1 hgf
          simp -implicitDefEqProofs [hkl, hf, go_sem, -List.set_cons_succ, -List.set_cons_zero]
          refine qcall_pure (emit_calls _ _ _ _ _ _ _ (by omega) hPa) hf rfl ?_
          simp -implicitDefEqProofs [hadd, hf, go_sem, -List.set_cons_succ, -List.set_cons_zero]
          refine loop_less (i + 1, P.emit 11 kids.length 0 s) (St.le_cut [_] ?_ (by simp [Sl.le, A.le_refl_iff, A.le_u_iff, As.lo, A.lo, C.lo, Ref.lo, Cs.lo, Obs.lo, Ob.lo, setAll, and_true, true_and, List.length_nil, List.length_cons]) (by simp [Mk.emit]; rfl) (by simp [Sl.le, A.le_refl_iff, A.le_u_iff, As.lo, A.lo, C.lo, Ref.lo, Cs.lo, Obs.lo, Ob.lo, setAll, and_true, true_and, List.length_nil, List.length_cons])) ⟨hlt, ⟨_, hgf, by dsimp only; omega⟩, h1⟩ (by show l.length - (i + 1) < l.length - i; omega)
          simp [setAll, Sl.le, A.le_refl_iff, A.le_u_iff, As.lo, A.lo, C.lo, Ref.lo, Cs.lo, Obs.lo, Ob.lo, setAll, and_true, true_and, List.length_nil, List.length_cons]
  · obtain rfl : i = l.length := by omega
    rw [List.drop_of_length_le (by omega)] at h1
    rw [← h1]
    simp -implicitDefEqProofs [hf, go_sem, -List.set_cons_succ, -List.set_cons_zero]
    refine qcall_pure (emit_calls _ _ _ _ _ _ _ (by omega) hal) hf rfl ?_
    simp -implicitDefEqProofs [bodyT, goalsT, Mk.emit, insR, hf, go_sem, -List.set_cons_succ, -List.set_cons_zero]

def mk0 : Mk := ⟨[], 4, []⟩
theorem mk0_fit : mk0.fit 4 := ⟨by decide, by decide, fun p hp => (by cases hp), fun r hr => (by cases hr)⟩
def codeC (c : Cl) : List (List D) := (bodyT c.body (headT c.head.kids mk0)).code
theorem goals_sizes : ∀ l : List Tm, (∀ t ∈ l, t.goal = true) → sizes l ≤ 120 * l.length
  | [], _ => by simp [sizes]
  | t :: l, h => by
    have h1 := goals_sizes l fun u hu => h u (by simp [hu])
    have h2 := h t (by simp)
    simp only [Tm.goal, Tm.valid, Bool.and_eq_true, decide_eq_true_eq] at h2
    simp only [sizes, List.length_cons]
    omega
theorem goalsB_iff {l : List Tm} (h : goalsB l = true) : l.length ≤ 6 ∧ (∀ t ∈ l, t.good) ∧ sizes l ≤ 1000 := by
  simp only [goalsB, Bool.and_eq_true, decide_eq_true_eq, List.all_eq_true] at h
  refine ⟨h.1, fun t ht => ?_, ?_⟩
  · have := h.2 t ht
    simp only [Tm.goal, Bool.and_eq_true] at this
    exact valid_good this.1
  · have := goals_sizes l h.2
    omega
theorem validB_head {c : Cl} (h : c.validB = true) : c.head.good ∧ c.head.size ≤ 120 ∧ c.head.k = 3 ∧ goalsB c.body = true := by
  simp only [Cl.validB, Bool.and_eq_true] at h
  have hv := h.1.1
  simp only [Tm.valid, Bool.and_eq_true, decide_eq_true_eq] at hv
  have hp := h.1.2
  simp only [Tm.plain, Bool.and_eq_true, decide_eq_true_eq] at hp
  exact ⟨shape_good _ _ hv.1, hv.2, hp.1, h.2⟩
theorem headQ_fit : ∀ (f : Nat) (q : List (Tm × Nat)) (M : Mk) (C B : Nat), M.fit C → C + 6 * qsize q ≤ B + 4 * q.length → (headQ f q M).fit B
  | _, [], M, C, B, h, hB => by
    unfold headQ
    exact h.mono (by simpa [qsize] using hB)
  | 0, p :: q, M, C, B, h, hB => by
    have := qsize_pos (p :: q)
    unfold headQ
    exact h.mono (by omega)
  | f + 1, p :: q, M, C, B, h, hB => by
    unfold headQ
    have h2 := h.emit 3 p.1.kids.length p.2 p.1.s
    refine headQ_fit f _ _ _ B (args_fit p.1.kids _ _ h2).1 ?_
    have h3 := (args_size p.1.kids (M.emit 3 p.1.kids.length p.2 p.1.s)).1
    rw [qsize_app, List.length_append]
    have h4 : p.1.size = 1 + sizes p.1.kids := by obtain ⟨⟨k, n, s, kids⟩, i⟩ := p; rw [Tm.size]; rfl
    simp only [qsize, List.map_cons, List.sum_cons, List.length_cons] at hB ⊢
    simp only [qsize] at h3
    omega
theorem headT_fit (l : List Tm) (hl : l.length ≤ 4) : (headT l mk0).fit (8 + 6 * sizes l) := by
  obtain ⟨h1, h2, h3, h4⟩ := headA_fit l 0 mk0 4 mk0_fit (by omega)
  refine headQ_fit _ _ _ _ _ h1 ?_
  omega
theorem l8Clause_calls (c : Cl) (hft : c.fits) (hv : c.validB = true) (H : Heap) : ACalls Tryz.prog 9 [.agg (c.row.map .d)] H (fun r H' => H' = H ∧ r = .c (.d (.sl (codeC c)))) := by
  obtain ⟨g1, g2, g3, g4⟩ := validB_head hv
  obtain ⟨h1, h2, h3⟩ := goalsB_iff g4
  refine acalls Tryz.func9 (by kernel_rfl) ac9_ok fun hf => ?_
  obtain ⟨⟨k, n, s, kids⟩, body⟩ := c
  obtain ⟨hfh, _, hfb⟩ := hft
  have hkg := good_kids g1
  rw [Tm.size] at g2
  simp -implicitDefEqProofs [ac9, Cl.row, Tm.kids, go_sem, -List.set_cons_succ, -List.set_cons_zero]
  have cst := start_calls
  refine qcall_pure cst hf rfl ?_
  simp -implicitDefEqProofs [hf, go_sem, -List.set_cons_succ, -List.set_cons_zero]
  refine qcall_pure (head_calls kids hkg.1 (by omega) hkg.2 mk0 4 (by omega) (by omega) mk0_fit) hf rfl ?_
  simp -implicitDefEqProofs [hf, go_sem, -List.set_cons_succ, -List.set_cons_zero]
  refine qcall_pure (goals_calls body h1 hfb h2 h3 _ _ ?_ (headT_fit kids hkg.1)) hf rfl ?_
  · omega
  simp -implicitDefEqProofs [codeC, Tm.kids, go_sem, -List.set_cons_succ, -List.set_cons_zero]
end Go.Proofs.YtnljciooabmogaaGreatDoor

/-
  Code as the program makes it: the object that is worked on.
  Conditions: none.
-/
open Go Go.AM Go.Proofs
namespace Go.Proofs.YtnljciooabmogaaGreatDoor
open Go.ChangeShapes Go.WideShapes Go.ChangeAt Go.RowKit
set_option linter.unusedVariables false
set_option linter.unusedSimpArgs false
set_option maxRecDepth 100000
def cdM (M : Mk) : Ob := .map (slotsM M.sl)
def cdC (i : Nat) (M : Mk) : Ob := .cells [.map (.e i), .d (.int .i64 M.next), .own (.e (i + 2)) M.code.length M.code]
def cdG (M : Mk) : Ob := .grow M.code.length 4
/-- the code that is made, in the heap: the map, the record, the array -/
def cd (H : Heap) (i : Nat) (M : Mk) : Heap := ((H.set i (cdM M)).set (i + 1) (cdC i M)).set (i + 2) (cdG M)
end Go.Proofs.YtnljciooabmogaaGreatDoor

/-
  Heads as the program makes them.
  Conditions: none.
-/
open Go Go.AM Go.Proofs
namespace Go.Proofs.YtnljciooabmogaaGreatDoor
open Go.ChangeShapes Go.WideShapes Go.ChangeAt Go.RowKit
set_option linter.unusedVariables false
set_option linter.unusedSimpArgs false
set_option maxRecDepth 100000
end Go.Proofs.YtnljciooabmogaaGreatDoor

/-
  Bodies as the program makes them.
  Conditions: none.
-/
open Go Go.AM Go.Proofs
namespace Go.Proofs.YtnljciooabmogaaGreatDoor
open Go.ChangeShapes Go.WideShapes Go.ChangeAt Go.RowKit
set_option linter.unusedVariables false
set_option linter.unusedSimpArgs false
set_option maxRecDepth 100000
end Go.Proofs.YtnljciooabmogaaGreatDoor

/-
  Terms: how many there are.
  Conditions: none.
-/
open Go Go.AM Go.Proofs
namespace Go.Proofs.YtnljciooabmogaaGreatDoor
open Go.ChangeShapes Go.WideShapes Go.ChangeAt Go.RowKit
set_option linter.unusedVariables false
set_option linter.unusedSimpArgs false
set_option maxRecDepth 100000
mutual
/-- the terms below a term -/
def Tm.sub : Tm → Nat
  | .mk _ _ _ l => Tm.cnt l
def Tm.cnt : List Tm → Nat
  | [] => 0
  | t :: l => 1 + t.sub + Tm.cnt l
end
/-- what is left, where enough is -/
def LeftW (m : Int) (p : Prop) (w : Nat) (r : A) : Prop := ∃ q : Int, r = .c (.d (.int .i64 q)) ∧ -1 ≤ q ∧ q ≤ m ∧ (0 ≤ q → p ∧ q + w ≤ m)
theorem LeftW.re {n : Nat} {m : Int} {p : Prop} {w : Nat} {r : A} (h : LeftW m p w r) : A.re n r = r := by
  obtain ⟨q, rfl, _⟩ := h
  rfl
theorem LeftW.left {m : Int} {p : Prop} {w : Nat} {r : A} (h : LeftW m p w r) : Left m p r := by
  obtain ⟨q, h1, h2, h3, h4⟩ := h
  exact ⟨q, h1, h2, h3, fun h => (h4 h).1⟩
end Go.Proofs.YtnljciooabmogaaGreatDoor

/-
  Rows that are marked one after the other.
  Conditions: none.
-/
open Go Go.AM Go.Proofs
namespace Go.Proofs.YtnljciooabmogaaGreatDoor
set_option linter.unusedVariables false
set_option linter.unusedSimpArgs false
/-- the first i rows are new ones -/
def mixed {α : Type} (f : Nat → α) (rows : List α) (i : Nat) : List α := (List.range i).map f ++ rows.drop i
end Go.Proofs.YtnljciooabmogaaGreatDoor

/-
  The law's text for a mark.
  Conditions: none.
-/
open Go Go.AM Go.Proofs
namespace Go.Proofs.YtnljciooabmogaaGreatDoor
open Go.ChangeShapes Go.WideShapes Go.ChangeAt Go.RowKit
set_option linter.unusedVariables false
set_option linter.unusedSimpArgs false
set_option maxRecDepth 100000
end Go.Proofs.YtnljciooabmogaaGreatDoor

/-
  Terms are marked, and looked at again.
  Conditions: none.
-/
open Go Go.AM Go.Proofs
namespace Go.Proofs.YtnljciooabmogaaGreatDoor
open Go.ChangeShapes Go.WideShapes Go.ChangeAt Go.RowKit
set_option linter.unusedVariables false
set_option linter.unusedSimpArgs false
set_option maxRecDepth 100000
end Go.Proofs.YtnljciooabmogaaGreatDoor

/-
  Copies of terms that stand in arrays of their own.
  Conditions: none.
-/
open Go Go.AM Go.Proofs
namespace Go.Proofs.YtnljciooabmogaaGreatDoor
open Go.ChangeShapes Go.WideShapes Go.ChangeAt Go.RowKit
set_option linter.unusedVariables false
set_option linter.unusedSimpArgs false
set_option maxRecDepth 100000
namespace Own
end Own
/-- what is handed out: rows in an array of their own -/
def HandsRows (rows : List (List D)) (r : A) (H : Heap) : Prop := ∃ v : Value, r = .c (.d (.v v)) ∧ H = [.tree v rows]
theorem HandsRows.handed {rows : List (List D)} {r : A} {H : Heap} (h : HandsRows rows r H) : Handed r H := by
  obtain ⟨v, rfl, rfl⟩ := h
  exact ⟨rfl, rfl⟩
/-- .. a term -/
def HandsTm (t : Tm) (r : A) (H : Heap) : Prop := ∃ v : Value, r = .agg [.d (.int .i64 t.k), .d (.int .i64 t.n), .d (.str t.s), .d (.v v)] ∧ H = [.tree v (t.kids.map Tm.row)]
theorem HandsTm.handed {t : Tm} {r : A} {H : Heap} (h : HandsTm t r H) : Handed r H := by
  obtain ⟨v, rfl, rfl⟩ := h
  exact ⟨rfl, rfl⟩
end Go.Proofs.YtnljciooabmogaaGreatDoor

/-
  Code of queries and clauses, as values and as memory that is handed out.
  Conditions: none.
-/
open Go Go.AM Go.Proofs
namespace Go.Proofs.YtnljciooabmogaaGreatDoor
open Go.ChangeShapes Go.WideShapes Go.ChangeAt Go.RowKit
set_option linter.unusedVariables false
set_option linter.unusedSimpArgs false
set_option maxRecDepth 100000
theorem goalsB_all {l : List Tm} (h : goalsB l = true) : l.length ≤ 6 ∧ ∀ t ∈ l, t.goal = true := by
  simpa [goalsB] using h
/-- rows and a bool are handed out -/
def HandsCode (rows : List (List D)) (b : Bool) (r : A) (H : Heap) : Prop := ∃ v : Value, r = .tup [.c (.d (.v v)), .c (.d (.bool b))] ∧ H = [.tree v rows]
theorem HandsCode.handed {rows : List (List D)} {b : Bool} {r : A} {H : Heap} (h : HandsCode rows b r H) : Handed r H := by
  obtain ⟨v, rfl, rfl⟩ := h
  exact ⟨rfl, rfl⟩
namespace Own
end Own
end Go.Proofs.YtnljciooabmogaaGreatDoor

/-
  A term's kids are marked, and looked at again.
  Conditions: none.
-/
open Go Go.AM Go.Proofs
namespace Go.Proofs.YtnljciooabmogaaGreatDoor
open Go.ChangeShapes Go.WideShapes Go.ChangeAt Go.RowKit
set_option linter.unusedVariables false
set_option linter.unusedSimpArgs false
set_option maxRecDepth 100000
end Go.Proofs.YtnljciooabmogaaGreatDoor

/-
  Rows whose slices are cut off and stand as trees.
  Conditions: none.
-/
open Go Go.AM Go.Proofs
namespace Go.Proofs.YtnljciooabmogaaGreatDoor
set_option linter.unusedVariables false
set_option linter.unusedSimpArgs false
/-- the slices of a row -/
def nsl : List D → Nat
  | [] => 0
  | .sl _ :: l => nsl l + 1
  | _ :: l => nsl l
/-- a row, its slices cut off -/
def cutR : List D → List Value → List D
  | .sl _ :: l, v :: vs => .v v :: cutR l vs
  | x :: l, vs => x :: cutR l vs
  | [], _ => []
/-- .. and these slices -/
def trs : List D → List Value → Heap
  | .sl d :: l, v :: vs => .tree v d :: trs l vs
  | _ :: l, vs => trs l vs
  | [], _ => []
theorem cut_sl (d : List (List D)) (l : List D) (v : Value) (vs : List Value) : cutR (.sl d :: l) (v :: vs) = .v v :: cutR l vs := rfl
theorem trs_sl (d : List (List D)) (l : List D) (v : Value) (vs : List Value) : trs (.sl d :: l) (v :: vs) = .tree v d :: trs l vs := rfl
theorem cut_ne {x : D} (h : x.isSl = false) (l : List D) (vs : List Value) : cutR (x :: l) vs = x :: cutR l vs := by cases x <;> first | rfl | cases h
theorem trs_ne {x : D} (h : x.isSl = false) (l : List D) (vs : List Value) : trs (x :: l) vs = trs l vs := by cases x <;> first | rfl | cases h
theorem nsl_ne {x : D} (h : x.isSl = false) (l : List D) : nsl (x :: l) = nsl l := by cases x <;> first | rfl | cases h
theorem trs_trees : ∀ (l : List D) (vs : List Value), (trs l vs).all Ob.isTreeB = true
  | [], _ => rfl
  | x :: l, vs => by
    by_cases hx : x.isSl = false
    · rw [trs_ne hx]; exact trs_trees l vs
    · cases x with
      | sl d => cases vs with
        | nil => exact trs_trees l []
        | cons v vs => rw [trs_sl, List.all_cons, trs_trees l vs]; rfl
      | _ => simp [D.isSl] at hx
theorem cut_port : ∀ (l : List D) (vs : List Value), vs.length = nsl l → ((cutR l vs).map C.d).all C.portB = true
  | [], _, _ => rfl
  | x :: l, vs, h => by
    by_cases hx : x.isSl = false
    · rw [nsl_ne hx] at h
      rw [cut_ne hx, List.map_cons, List.all_cons, cut_port l vs h]
      cases x <;> first | rfl | (simp [D.isSl] at hx)
    · cases x with
      | sl d => cases vs with
        | nil => simp [nsl] at h
        | cons v vs => rw [cut_sl, List.map_cons, List.all_cons, cut_port l vs (by simpa [nsl] using h)]; rfl
      | _ => simp [D.isSl] at hx
/-- what is handed out: a row whose slices stand in arrays of their own -/
def HandsRow (row : List D) (r : A) (H : Heap) : Prop := ∃ vs : List Value, vs.length = nsl row ∧ r = .agg ((cutR row vs).map .d) ∧ H = trs row vs
theorem HandsRow.handed {row : List D} {r : A} {H : Heap} (h : HandsRow row r H) : Handed r H := by
  obtain ⟨vs, h1, rfl, rfl⟩ := h
  exact ⟨cut_port row vs h1, trs_trees row vs⟩
end Go.Proofs.YtnljciooabmogaaGreatDoor

/-
  Copies of clauses that stand in arrays of their own.
  Conditions: none.
-/
open Go Go.AM Go.Proofs
namespace Go.Proofs.YtnljciooabmogaaGreatDoor
open Go.ChangeShapes Go.WideShapes Go.ChangeAt Go.RowKit
set_option linter.unusedVariables false
set_option linter.unusedSimpArgs false
set_option maxRecDepth 100000
namespace Own
end Own
end Go.Proofs.YtnljciooabmogaaGreatDoor

/-
  Code of clauses, as values and as memory that is handed out.
  Conditions: none.
-/
open Go Go.AM Go.Proofs
namespace Go.Proofs.YtnljciooabmogaaGreatDoor
open Go.ChangeShapes Go.WideShapes Go.ChangeAt Go.RowKit
set_option linter.unusedVariables false
set_option linter.unusedSimpArgs false
set_option maxRecDepth 100000
theorem codeC_fit (c : Cl) (hv : c.validB = true) : ∃ B, B ≤ 100000 ∧ (bodyT c.body (headT c.head.kids mk0)).fit B := by
  obtain ⟨g1, g2, g3, g4⟩ := validB_head hv
  obtain ⟨h1, h2, h3⟩ := goalsB_iff g4
  have hk := good_kids (k := c.head.k) (n := c.head.n) (s := c.head.s) (l := c.head.kids) (by cases hc : c.head; rw [hc] at g1; exact g1)
  have hz : sizes c.head.kids ≤ 120 := by cases hc : c.head; rw [hc, Tm.size] at g2; show sizes _ ≤ _; simp only [Tm.kids]; omega
  exact ⟨_, by omega, (goals_fit _ _ _ (headT_fit c.head.kids hk.1)).emit 14 0 0 []⟩
section
variable {c : Cl} (hft : c.fits) (hv : c.validB = true)
include hft hv
end
end Go.Proofs.YtnljciooabmogaaGreatDoor

/-
  What code looks like: which operations it has, how many slots it takes.
  Conditions: none.
-/
open Go Go.AM Go.Proofs
namespace Go.Proofs.YtnljciooabmogaaGreatDoor
set_option linter.unusedVariables false
set_option linter.unusedSimpArgs false
set_option maxRecDepth 100000
/-- the slot that an instruction works with, or -1 -/
def slotI (x : Ins) : Int := if x.op = 4 ∨ x.op = 5 ∨ x.op = 8 ∨ x.op = 9 ∨ x.op = 1 then x.a else if x.op = 7 then x.b else -1
/-- the fields of an instruction are in range, if there are few slots -/
def abI (n : Nat) (x : Ins) : Prop := n ≤ 1000000000 → (inR .i64 x.a ∧ inR .i64 x.b) ∧ x.text.length ≤ 1048576
theorem z64 : inR .i64 0 := small_i64 (by omega) (by omega)
theorem n64 {n m : Nat} (h : n ≤ m) (hm : m ≤ 1000000000) : inR .i64 (n : Int) := small_i64 (by omega) (by omega)
theorem fits_s {t : Tm} (h : t.fits) : t.s.length ≤ 1048576 := by
  cases h with
  | mk _ _ h3 _ _ => exact h3
theorem fits_n {t : Tm} (h : t.fits) : inR .i64 t.n ∧ t.kids.length ≤ 1048576 ∧ ∀ u ∈ t.kids, u.fits := by
  cases h with
  | mk _ h2 _ h4 h5 => exact ⟨h2, h4, h5⟩
def Mk.V (M : Mk) : Prop := ∀ p ∈ M.sl, p.2 < M.next
/-- code that goes on: at most n slots more, operations in S -/
structure Gr (n : Nat) (S : Int → Bool) (M M' : Mk) : Prop where
  lo : M.next ≤ M'.next
  hi : M'.next ≤ M.next + n
  val : M.V → M'.V
  code : M.V → ∃ new : List Ins, M'.code = M.code ++ new.map Ins.row ∧ ∀ x ∈ new, S x.op = true ∧ slotI x < M'.next ∧ abI M'.next x
theorem Gr.refl (S : Int → Bool) (M : Mk) : Gr 0 S M M := ⟨Nat.le_refl _, Nat.le_refl _, id, fun _ => ⟨[], by simp, by simp⟩⟩
theorem Gr.trans {n m : Nat} {S : Int → Bool} {M M' M'' : Mk} (h : Gr n S M M') (k : Gr m S M' M'') : Gr (n + m) S M M'' := by
  refine ⟨Nat.le_trans h.lo k.lo, by have := h.hi; have := k.hi; omega, fun v => k.val (h.val v), fun v => ?_⟩
  obtain ⟨a, ha, ha2⟩ := h.code v
  obtain ⟨b, hb, hb2⟩ := k.code (h.val v)
  refine ⟨a ++ b, by rw [hb, ha]; simp, fun x hx => ?_⟩
  rcases List.mem_append.1 hx with hx | hx
  · obtain ⟨h1, h2, h3⟩ := ha2 x hx
    have := k.lo
    exact ⟨h1, by omega, fun hn => h3 (by omega)⟩
  · exact hb2 x hx
theorem Gr.mono {n m : Nat} {S T : Int → Bool} {M M' : Mk} (h : Gr n S M M') (hn : n ≤ m) (hs : ∀ i, S i = true → T i = true) : Gr m T M M' :=
  ⟨h.lo, by have := h.hi; omega, h.val, fun v => let ⟨a, h1, h2⟩ := h.code v; ⟨a, h1, fun x hx => ⟨hs _ (h2 x hx).1, (h2 x hx).2⟩⟩⟩
theorem Gr.le {n m : Nat} {S : Int → Bool} {M M' : Mk} (h : Gr n S M M') (hn : n ≤ m) : Gr m S M M' := h.mono hn fun _ => id
theorem gr_emit {S : Int → Bool} (M : Mk) (op a b : Int) (s : List UInt8) (hs : S op = true) (h : M.V → slotI ⟨op, a, b, s⟩ < M.next) (hab : M.V → M.next ≤ 1000000000 → inR .i64 a ∧ inR .i64 b) (hst : s.length ≤ 1048576 := by simp) : Gr 0 S M (M.emit op a b s) :=
  ⟨Nat.le_refl _, Nat.le_refl _, id, fun v => ⟨[⟨op, a, b, s⟩], by simp [Mk.emit, insR, Ins.row], fun x hx => by
    simp at hx
    subst hx
    exact ⟨hs, h v, fun hn => ⟨hab v hn, hst⟩⟩⟩⟩
theorem gr_bump (S : Int → Bool) (M : Mk) : Gr 1 S M M.bump :=
  ⟨Nat.le_succ _, Nat.le_refl _, fun v p hp => Nat.lt_succ_of_lt (v p hp), fun _ => ⟨[], by simp [Mk.bump], by simp⟩⟩
theorem gr_give (S : Int → Bool) (M : Mk) (n : Int) (v : Nat) (hv : v < M.next) : Gr 0 S M (M.give n v) :=
  ⟨Nat.le_refl _, Nat.le_refl _, fun w p hp => by
    rcases List.mem_append.1 hp with hp | hp
    · exact w p hp
    · simp at hp; subst hp; exact hv, fun _ => ⟨[], by simp [Mk.give], by simp⟩⟩
theorem gr_new (S : Int → Bool) (M : Mk) (n : Int) : Gr 1 S M (M.give n M.next).bump :=
  ⟨Nat.le_succ _, Nat.le_refl _, fun w p hp => by
    rcases List.mem_append.1 hp with hp | hp
    · exact Nat.lt_succ_of_lt (w p hp)
    · simp at hp; subst hp; exact Nat.lt_succ_self _, fun _ => ⟨[], by simp [Mk.give, Mk.bump], by simp⟩⟩
def opsA (i : Int) : Bool := decide (i = 4 ∨ i = 5 ∨ i = 6)
theorem slot_lt (M : Mk) (v : M.V) {n : Int} {k : Nat} (h : slotO M.sl n = some k) : k < M.next := v _ (slotO_mem h)
theorem gr_desc (M : Mk) (t : Tm) (ht : t.fits) : Gr 1 opsA M (M.desc t) := by
  unfold Mk.desc
  split
  · exact (gr_emit M 6 t.n 0 [] rfl (fun _ => by simp [slotI]; omega) fun _ _ => ⟨(fits_n ht).1, z64⟩).le (by omega)
  · split
    · rename_i v hv
      exact (gr_emit M 5 v 0 [] rfl (fun w => by have := slot_lt M w hv; simp [slotI]; omega) fun w h => ⟨n64 (Nat.le_of_lt (slot_lt M w hv)) h, z64⟩).le (by omega)
    · have h := (gr_new opsA M t.n).trans (gr_emit (M.give t.n M.next).bump 4 M.next 0 [] rfl (fun _ => by simp [slotI, Mk.bump, Mk.give]; omega) fun _ h => ⟨n64 (Nat.le_succ _) h, z64⟩)
      exact h
theorem gr_args : ∀ (l : List Tm) (M : Mk), (∀ t ∈ l, t.fits) → Gr l.length opsA M (argsT l M).1
  | [], M, _ => Gr.refl _ M
  | t :: l, M, hf => by
    unfold argsT
    split
    · have h := (gr_bump opsA M).trans (gr_emit M.bump 4 M.next 0 [] rfl (fun _ => by simp [slotI, Mk.bump]; omega) fun _ h => ⟨n64 (Nat.le_succ _) h, z64⟩)
      exact (h.trans (gr_args l _ fun u hu => hf u (by simp [hu]))).le (by simp; omega)
    · exact ((gr_desc M t (hf t (by simp))).trans (gr_args l _ fun u hu => hf u (by simp [hu]))).le (by simp; omega)
theorem args_queue : ∀ (l : List Tm) (M : Mk), (∀ t ∈ l, t.fits) → ∀ p ∈ (argsT l M).2, p.1 ∈ l ∧ p.2 < (argsT l M).1.next
  | [], M, _, p, hp => by simp [argsT] at hp
  | t :: l, M, hf, p, hp => by
    have hf2 : ∀ u ∈ l, u.fits := fun u hu => hf u (by simp [hu])
    unfold argsT at hp ⊢
    split
    · rename_i hk
      rw [if_pos hk] at hp
      rcases List.mem_cons.1 hp with rfl | hp
      · refine ⟨by simp, ?_⟩
        have h1 := (gr_args l (M.emit 4 M.next 0 []).bump hf2).lo
        have h2 : (M.emit 4 M.next 0 []).bump.next = M.next + 1 := rfl
        simp only
        omega
      · obtain ⟨h1, h2⟩ := args_queue l _ hf2 p hp
        exact ⟨by simp [h1], h2⟩
    · rename_i hk
      rw [if_neg hk] at hp
      obtain ⟨h1, h2⟩ := args_queue l _ hf2 p hp
      exact ⟨by simp [h1], h2⟩
theorem args_cnt : ∀ (l : List Tm) (M : Mk), l.length + qsize (argsT l M).2 ≤ sizes l + (argsT l M).2.length
  | [], M => by simp [argsT, qsize, sizes]
  | t :: l, M => by
    have hp := size_pos t
    unfold argsT
    split
    · have ih := args_cnt l (M.emit 4 M.next 0 []).bump
      simp only [qsize, List.map_cons, List.sum_cons, List.length_cons, sizes] at ih ⊢
      omega
    · have ih := args_cnt l (M.desc t)
      simp only [List.length_cons, sizes] at ih ⊢
      omega
def opsH (i : Int) : Bool := decide (1 ≤ i ∧ i ≤ 6)
theorem opsA_H (i : Int) (h : opsA i = true) : opsH i = true := by simp only [opsA, opsH, decide_eq_true_eq] at *; omega
theorem gr_headQ : ∀ (f : Nat) (q : List (Tm × Nat)) (M : Mk) (n : Nat), qsize q ≤ n + q.length → (∀ p ∈ q, p.1.fits ∧ p.2 < M.next) → Gr n opsH M (headQ f q M)
  | _, [], M, n, _, _ => by unfold headQ; exact (Gr.refl _ M).le (by omega)
  | 0, _ :: _, M, n, _, _ => by unfold headQ; exact (Gr.refl _ M).le (by omega)
  | f + 1, p :: q, M, n, h, hqq => by
    obtain ⟨hp1, hp2⟩ := hqq p (by simp)
    obtain ⟨_, hp3, hp4⟩ := fits_n hp1
    unfold headQ
    have h1 := gr_emit (S := opsH) M 3 p.1.kids.length p.2 p.1.s rfl (fun _ => by simp [slotI]; omega) (fun _ h => ⟨small_i64 (by omega) (by omega), n64 (Nat.le_of_lt hp2) h⟩) (fits_s hp1)
    have h2 := (gr_args p.1.kids (M.emit 3 p.1.kids.length p.2 p.1.s) hp4).mono (Nat.le_refl _) opsA_H
    have h3 := args_cnt p.1.kids (M.emit 3 p.1.kids.length p.2 p.1.s)
    have h4 : p.1.size = 1 + sizes p.1.kids := by obtain ⟨⟨k, n, s, kids⟩, i⟩ := p; rw [Tm.size]; rfl
    have hl := qsize_pos (argsT p.1.kids (M.emit 3 p.1.kids.length p.2 p.1.s)).2
    have hq := qsize_pos q
    simp only [qsize, List.map_cons, List.sum_cons, List.length_cons, h4] at h
    rw [← qsize] at h
    have h5 := gr_headQ f (q ++ (argsT p.1.kids (M.emit 3 p.1.kids.length p.2 p.1.s)).2) (argsT p.1.kids (M.emit 3 p.1.kids.length p.2 p.1.s)).1 (n - p.1.kids.length) (by rw [qsize_app, List.length_append]; omega) fun p2 hp => by
      have hlo := h2.lo
      rcases List.mem_append.1 hp with hp | hp
      · obtain ⟨k1, k2⟩ := hqq p2 (by simp [hp])
        exact ⟨k1, Nat.lt_of_lt_of_le k2 hlo⟩
      · obtain ⟨k1, k2⟩ := args_queue p.1.kids _ hp4 p2 hp
        exact ⟨hp4 _ k1, k2⟩
    exact ((h1.trans h2).trans h5).le (by omega)
theorem gr_headA : ∀ (l : List Tm) (i : Nat) (M : Mk), i + l.length ≤ M.next → (∀ t ∈ l, t.fits) → Gr 0 opsH M (headA l i M).1 ∧ ∀ p ∈ (headA l i M).2, p.1 ∈ l ∧ p.2 < M.next
  | [], _, M, _, _ => ⟨Gr.refl _ M, by simp [headA]⟩
  | t :: l, i, M, hi, hf => by
    simp only [List.length_cons] at hi
    have hf2 : ∀ u ∈ l, u.fits := fun u hu => hf u (by simp [hu])
    have mem : ∀ {N : Mk}, N.next = M.next → (∀ p ∈ (headA l (i + 1) N).2, p.1 ∈ l ∧ p.2 < N.next) → ∀ p ∈ (headA l (i + 1) N).2, p.1 ∈ t :: l ∧ p.2 < M.next := fun e h p hp => ⟨by simp [(h p hp).1], by have := (h p hp).2; omega⟩
    unfold headA
    split
    · obtain ⟨h1, h2⟩ := gr_headA l (i + 1) (M.emit 2 t.n i []) (by show i + 1 + l.length ≤ M.next; omega) hf2
      exact ⟨(gr_emit (S := opsH) M 2 t.n i [] rfl (fun _ => by simp [slotI]; omega) fun _ h => ⟨(fits_n (hf t (by simp))).1, n64 (by omega : i ≤ M.next) h⟩).trans h1, mem rfl h2⟩
    · split
      · cases hs : slotO M.sl t.n with
        | some v =>
          obtain ⟨h1, h2⟩ := gr_headA l (i + 1) (M.emit 1 v i []) (by show i + 1 + l.length ≤ M.next; omega) hf2
          exact ⟨(gr_emit (S := opsH) M 1 v i [] rfl (fun w => by have := slot_lt M w hs; simp [slotI]; omega) fun w h => ⟨n64 (Nat.le_of_lt (slot_lt M w hs)) h, n64 (by omega : i ≤ M.next) h⟩).trans h1, mem rfl h2⟩
        | none =>
          obtain ⟨h1, h2⟩ := gr_headA l (i + 1) (M.give t.n i) (by show i + 1 + l.length ≤ M.next; omega) hf2
          exact ⟨(gr_give opsH M t.n i (by omega)).trans h1, mem rfl h2⟩
      · obtain ⟨h1, h2⟩ := gr_headA l (i + 1) M (by omega) hf2
        refine ⟨h1, fun p hp => ?_⟩
        rcases List.mem_cons.1 hp with rfl | hp
        · exact ⟨by simp, by simp only; omega⟩
        · exact mem rfl h2 p hp
theorem gr_headT (l : List Tm) (hl : l.length ≤ 4) (hf : ∀ t ∈ l, t.fits) : Gr (sizes l) opsH mk0 (headT l mk0) := by
  obtain ⟨h1, hq⟩ := gr_headA l 0 mk0 (by show 0 + l.length ≤ 4; omega) hf
  obtain ⟨_, _, h3, _⟩ := headA_fit l 0 mk0 4 mk0_fit (by omega)
  have h2 := gr_headQ (qsize (headA l 0 mk0).2) (headA l 0 mk0).2 (headA l 0 mk0).1 (sizes l) (by omega) fun p hp => ⟨hf _ (hq p hp).1, Nat.lt_of_lt_of_le (hq p hp).2 h1.lo⟩
  exact (h1.trans h2).le (by omega)
def opsB (i : Int) : Bool := decide (4 ≤ i ∧ i ≤ 10)
theorem opsA_B (i : Int) (h : opsA i = true) : opsB i = true := by simp only [opsA, opsB, decide_eq_true_eq] at *; omega
/-- how many of some terms are no structures -/
def nsT : List Tm → Nat
  | [] => 0
  | t :: l => (if t.k = 3 then 0 else 1) + nsT l
theorem gr_parts : ∀ (l : List Tm) (bs : List Int) (M : Mk), (∀ b ∈ bs, -1 ≤ b ∧ b < M.next) → (∀ t ∈ l, t.fits) → Gr (nsT l) opsB M (partsT l bs M)
  | [], bs, M, _, _ => by unfold partsT; exact Gr.refl _ M
  | t :: l, [], M, _, _ => by unfold partsT; exact (Gr.refl _ M).le (by omega)
  | t :: l, b :: bs, M, h, hf => by
    have hf2 : ∀ u ∈ l, u.fits := fun u hu => hf u (by simp [hu])
    unfold partsT nsT
    split
    · obtain ⟨b0, b1⟩ := h b (by simp)
      have h1 := gr_emit (S := opsB) M 5 b 0 [] rfl (fun _ => by simp [slotI]; omega) fun _ h => ⟨small_i64 (by omega) (by omega), z64⟩
      exact h1.trans (gr_parts l bs _ (fun c hc => h c (by simp [hc])) hf2)
    · have h1 := (gr_desc M t (hf t (by simp))).mono (Nat.le_refl _) opsA_B
      exact h1.trans (gr_parts l bs _ (fun c hc => by have q1 := h c (by simp [hc]); have q2 := h1.lo; exact ⟨q1.1, by omega⟩) hf2)
theorem gr_build : ∀ (t : Tm), t.fits → ∀ (M : Mk), Gr t.size opsB M (buildT t M).1 ∧ (buildT t M).2 < (buildT t M).1.next := by
  refine Tm.ind fun k n s l ih hfit M => ?_
  obtain ⟨_, hlen, hkf⟩ := fits_n hfit
  simp only [Tm.kids] at hlen hkf
  have hsl : s.length ≤ 1048576 := fits_s hfit
  have key : ∀ (l : List Tm), (∀ t ∈ l, ∀ M, Gr t.size opsB M (buildT t M).1 ∧ (buildT t M).2 < (buildT t M).1.next) → ∀ M, ∃ m, m + nsT l ≤ sizes l ∧ Gr m opsB M (buildL l M).1 ∧ ∀ b ∈ (buildL l M).2, -1 ≤ b ∧ b < (buildL l M).1.next := by
    intro l
    induction l with
    | nil => intro _ M; exact ⟨0, by simp [nsT], by unfold buildL; exact Gr.refl _ M, by unfold buildL; simp⟩
    | cons t l ih2 =>
      intro hh M
      have hp := size_pos t
      unfold buildL nsT
      split
      · obtain ⟨h1, h2⟩ := hh t (by simp) M
        obtain ⟨m, h3, h4, h5⟩ := ih2 (fun u hu => hh u (by simp [hu])) (buildT t M).1
        refine ⟨t.size + m, by simp only [sizes]; omega, h1.trans h4, fun b hb => ?_⟩
        rcases List.mem_cons.1 hb with rfl | hb
        · show -1 ≤ ((buildT t M).2 : Int) ∧ ((buildT t M).2 : Int) < ((buildL l (buildT t M).1).1.next : Int)
          have := h4.lo; omega
        · exact h5 b hb
      · obtain ⟨m, h3, h4, h5⟩ := ih2 (fun u hu => hh u (by simp [hu])) M
        refine ⟨m, by simp only [sizes]; omega, h4, fun b hb => ?_⟩
        rcases List.mem_cons.1 hb with rfl | hb
        · show (-1 : Int) ≤ -1 ∧ (-1 : Int) < ((buildL l M).1.next : Int)
          omega
        · exact h5 b hb
  obtain ⟨m, h1, h2, h3⟩ := key l (fun t ht => ih t ht (hkf t ht)) M
  unfold buildT
  have h4 := (h2.trans (gr_bump opsB _)).trans (gr_emit (S := opsB) (buildL l M).1.bump 7 l.length (buildL l M).1.next s rfl (fun _ => by simp [slotI, Mk.bump]; omega) (fun _ h => ⟨small_i64 (by omega) (by omega), n64 (Nat.le_succ _) h⟩) hsl)
  have h5 := gr_parts l (buildL l M).2 ((buildL l M).1.bump.emit 7 l.length (buildL l M).1.next s) (fun b hb => by
    have := h3 b hb
    show -1 ≤ b ∧ b < ((buildL l M).1.next + 1 : Nat)
    omega) hkf
  refine ⟨(h4.trans h5).le (by simp only [Tm.size]; omega), ?_⟩
  show (buildL l M).1.next < (partsT l (buildL l M).2 ((buildL l M).1.bump.emit 7 l.length (buildL l M).1.next s)).next
  have := h5.lo
  have e : ((buildL l M).1.bump.emit 7 l.length (buildL l M).1.next s).next = (buildL l M).1.next + 1 := rfl
  omega
theorem gr_put (M : Mk) (t : Tm) (i : Nat) (ht : t.fits) (hi : i ≤ 1000000000) : Gr t.size opsB M (putT M t i) := by
  have hp := size_pos t
  have hi64 := n64 hi (Nat.le_refl _)
  unfold putT
  split
  · exact (gr_emit (S := opsB) M 10 t.n i [] rfl (fun _ => by simp [slotI]; omega) fun _ _ => ⟨(fits_n ht).1, hi64⟩).le (by omega)
  · split
    · split
      · rename_i v hv
        exact (gr_emit (S := opsB) M 9 v i [] rfl (fun w => by have := slot_lt M w hv; simp [slotI]; omega) fun w h => ⟨n64 (Nat.le_of_lt (slot_lt M w hv)) h, hi64⟩).le (by omega)
      · have h := (gr_new opsB M t.n).trans (gr_emit (S := opsB) (M.give t.n M.next).bump 8 M.next i [] rfl (fun _ => by simp [slotI, Mk.bump, Mk.give]; omega) fun _ h => ⟨n64 (Nat.le_succ _) h, hi64⟩)
        exact h.le (by omega)
    · obtain ⟨h1, h2⟩ := gr_build t ht M
      exact (h1.trans (gr_emit (S := opsB) _ 9 (buildT t M).2 i [] rfl (fun _ => by simp [slotI]; omega) fun _ h => ⟨n64 (Nat.le_of_lt h2) h, hi64⟩)).le (by omega)
theorem gr_puts : ∀ (l : List Tm) (i : Nat) (M : Mk), (∀ t ∈ l, t.fits) → i + l.length ≤ 1000000000 → Gr (sizes l) opsB M (putsT l i M)
  | [], _, M, _, _ => by unfold putsT; exact Gr.refl _ M
  | t :: l, i, M, hf, hi => by
    simp only [List.length_cons] at hi
    unfold putsT
    exact ((gr_put M t i (hf t (by simp)) (by omega)).trans (gr_puts l (i + 1) _ (fun u hu => hf u (by simp [hu])) (by omega))).le (by simp [sizes])
/-- the operations of goals -/
def opsG (i : Int) : Bool := decide (i = 11 ∨ i = 12 ∨ i = 13)
def isG : List D → Bool
  | .int _ i :: _ => opsG i
  | _ => false
def cntG (c : List (List D)) : Nat := (c.filter isG).length
theorem cntG_new {n : Nat} {S : Int → Bool} {M M' : Mk} (h : Gr n S M M') (v : M.V) (hs : ∀ i, S i = true → opsG i = false) : cntG M'.code = cntG M.code := by
  obtain ⟨new, h1, h2⟩ := h.code v
  have : (new.map Ins.row).filter isG = [] := by
    rw [List.filter_eq_nil_iff]
    intro r hr
    obtain ⟨x, hx, rfl⟩ := List.mem_map.1 hr
    have := hs _ (h2 x hx).1
    simp [Ins.row, isG, this]
  simp [cntG, h1, this]
def opsAll (i : Int) : Bool := decide (1 ≤ i ∧ i ≤ 14)
theorem opsB_All (i : Int) (h : opsB i = true) : opsAll i = true := by simp only [opsB, opsAll, decide_eq_true_eq] at *; omega
theorem opsH_All (i : Int) (h : opsH i = true) : opsAll i = true := by simp only [opsH, opsAll, decide_eq_true_eq] at *; omega
theorem opsB_G (i : Int) (h : opsB i = true) : opsG i = false := by simp only [opsB, opsG, decide_eq_true_eq, decide_eq_false_iff_not] at *; omega
theorem gr_goal (g : Tm) (hg : g.fits) (M : Mk) (v : M.V) : Gr g.size opsAll M (goalT g M) ∧ cntG (goalT g M).code = cntG M.code + 1 := by
  have hp := size_pos g
  obtain ⟨_, hgl, hgf⟩ := fits_n hg
  unfold goalT
  split
  · refine ⟨(gr_emit (S := opsAll) M 13 0 0 [] rfl (fun _ => by simp [slotI]; omega) fun _ _ => ⟨z64, z64⟩).le (by omega), ?_⟩
    simp [Mk.emit, insR, cntG, isG, opsG]
  · have h1 := gr_puts g.kids 0 M hgf (by omega)
    have hz : sizes g.kids ≤ g.size := by obtain ⟨k, n, s, l⟩ := g; simp [Tm.size, Tm.kids]
    have h2 := cntG_new h1 v opsB_G
    refine ⟨((h1.mono (Nat.le_refl _) opsB_All).trans (gr_emit (S := opsAll) _ _ _ _ _ (by split <;> rfl) (fun _ => by simp only [slotI]; split <;> simp <;> omega) (fun _ _ => ⟨small_i64 (by omega) (by omega), z64⟩) (fits_s hg))).le (by omega), ?_⟩
    rw [← h2]
    split <;> simp [Mk.emit, insR, cntG, isG, opsG]
theorem gr_goals : ∀ (l : List Tm), (∀ t ∈ l, t.fits) → ∀ (M : Mk), M.V → Gr (sizes l) opsAll M (goalsT l M) ∧ cntG (goalsT l M).code = cntG M.code + l.length
  | [], _, M, _ => by unfold goalsT; exact ⟨Gr.refl _ M, rfl⟩
  | g :: l, hf, M, v => by
    obtain ⟨h1, h2⟩ := gr_goal g (hf g (by simp)) M v
    obtain ⟨h3, h4⟩ := gr_goals l (fun u hu => hf u (by simp [hu])) (goalT g M) (h1.val v)
    unfold goalsT
    exact ⟨(h1.trans h3).le (by simp [sizes]), by rw [h4, h2]; simp; omega⟩
theorem mk0_V : mk0.V := fun p hp => by cases hp
/-- the slots of a clause's code -/
theorem codeC_slots (c : Cl) (hf : c.fits) (hl : c.head.kids.length ≤ 4) : ∃ L : List Ins, codeC c = L.map Ins.row ∧ ∀ x ∈ L, slotI x < 4 + sizes c.head.kids + sizes c.body ∧ (4 + sizes c.head.kids + sizes c.body ≤ 1000000000 → (inR .i64 x.a ∧ inR .i64 x.b) ∧ x.text.length ≤ 1048576) ∧ 1 ≤ x.op ∧ x.op ≤ 14 := by
  have h1 := (gr_headT c.head.kids hl (fits_n hf.head).2.2).mono (Nat.le_refl _) opsH_All
  have hv := h1.val mk0_V
  obtain ⟨h2, _⟩ := gr_goals c.body hf.body (headT c.head.kids mk0) hv
  have h3 := (h1.trans h2).trans (gr_emit (S := opsAll) _ 14 0 0 [] rfl (fun _ => by simp [slotI]; omega) fun _ _ => ⟨z64, z64⟩)
  obtain ⟨new, h4, h5⟩ := h3.code mk0_V
  have e : mk0.code = [] := rfl
  have e2 : mk0.next = 4 := rfl
  rw [e, List.nil_append] at h4
  have := h3.hi
  refine ⟨new, h4, fun x hx => ?_⟩
  obtain ⟨h8, h6, h7⟩ := h5 x hx
  simp only [opsAll, decide_eq_true_eq] at h8
  exact ⟨by omega, fun hn => h7 (by omega), h8⟩
end Go.Proofs.YtnljciooabmogaaGreatDoor

/-
  strconv.Itoa as a call of the abstract machine, where the table that it reads is told.
  Conditions: none.
-/
open Go Go.AM Go.Proofs
namespace Go.Proofs
open Go.Shelf
def Tryz.laysM171_ren : Go.Shelf.Ren := ⟨fun | 171 => 28 | 243 => 47 | 246 => 57 | 283 => 63 | 284 => 64 | 285 => 65 | 286 => 66 | 129 => 74 | 317 => 73 | 318 => 75 | 319 => 76 | 320 => 77 | 337 => 88 | 338 => 89 | n => n, fun | 3 => 3 | 9 => 9 | 2 => 2 | 4 => 4 | 171 => 103 | 0 => 0 | 53 => 104 | 37 => 22 | 5 => 5 | 173 => 107 | 212 => 116 | 51 => 117 | 20 => 20 | 213 => 118 | 46 => 120 | 232 => 135 | 233 => 136 | n => n, fun | 17 => 0 | 18 => 1 | 19 => 2 | n => n⟩
theorem Tryz.laysM171 : Go.Proofs.LaysM.n171 Tryz.prog Tryz.laysM171_ren := {
  mixed := by kernel_rfl
  f129 := Tryz.func74.trans (congrArg some (by kernel_rfl))
  f171 := Tryz.func28.trans (congrArg some (by kernel_rfl))
  f243 := Tryz.func47.trans (congrArg some (by kernel_rfl))
  f246 := Tryz.func57.trans (congrArg some (by kernel_rfl))
  f283 := Tryz.func63.trans (congrArg some (by kernel_rfl))
  f284 := Tryz.func64.trans (congrArg some (by kernel_rfl))
  f285 := Tryz.func65.trans (congrArg some (by kernel_rfl))
  f286 := Tryz.func66.trans (congrArg some (by kernel_rfl))
  f317 := Tryz.func73.trans (congrArg some (by kernel_rfl))
  f318 := Tryz.func75.trans (congrArg some (by kernel_rfl))
  f319 := Tryz.func76.trans (congrArg some (by kernel_rfl))
  f320 := Tryz.func77.trans (congrArg some (by kernel_rfl))
  f337 := Tryz.func88.trans (congrArg some (by kernel_rfl))
  f338 := Tryz.func89.trans (congrArg some (by kernel_rfl))
  t0 := Tryz.underlying0
  a0 := Tryz.isAgg0
  z0 := Tryz.sizeOf0
  v0 := Tryz.zeroValue0
  t2 := Tryz.underlying2
  a2 := Tryz.isAgg2
  z2 := Tryz.sizeOf2
  v2 := Tryz.zeroValue2
  t3 := Tryz.underlying3
  a3 := Tryz.isAgg3
  z3 := Tryz.sizeOf3
  v3 := Tryz.zeroValue3
  t4 := Tryz.underlying4
  a4 := Tryz.isAgg4
  z4 := Tryz.sizeOf4
  v4 := Tryz.zeroValue4
  t5 := Tryz.underlying5
  a5 := Tryz.isAgg5
  z5 := Tryz.sizeOf5
  v5 := Tryz.zeroValue5
  t9 := Tryz.underlying9
  a9 := Tryz.isAgg9
  z9 := Tryz.sizeOf9
  v9 := Tryz.zeroValue9
  t20 := Tryz.underlying20
  a20 := Tryz.isAgg20
  z20 := Tryz.sizeOf20
  v20 := Tryz.zeroValue20
  t37 := Tryz.underlying22
  a37 := Tryz.isAgg22
  z37 := Tryz.sizeOf22
  v37 := Tryz.zeroValue22
  t46 := Tryz.underlying120
  a46 := Tryz.isAgg120
  z46 := Tryz.sizeOf120
  v46 := Tryz.zeroValue120
  t51 := Tryz.underlying117
  a51 := Tryz.isAgg117
  z51 := Tryz.sizeOf117
  v51 := Tryz.zeroValue117
  t53 := Tryz.underlying104
  a53 := Tryz.isAgg104
  z53 := Tryz.sizeOf104
  v53 := Tryz.zeroValue104
  t171 := Tryz.underlying103
  a171 := Tryz.isAgg103
  z171 := Tryz.sizeOf103
  v171 := Tryz.zeroValue103
  t173 := Tryz.underlying107
  a173 := Tryz.isAgg107
  z173 := Tryz.sizeOf107
  v173 := Tryz.zeroValue107
  t212 := Tryz.underlying116
  a212 := Tryz.isAgg116
  z212 := Tryz.sizeOf116
  v212 := Tryz.zeroValue116
  t213 := Tryz.underlying118
  a213 := Tryz.isAgg118
  z213 := Tryz.sizeOf118
  t232 := Tryz.underlying135
  a232 := Tryz.isAgg135
  z232 := Tryz.sizeOf135
  v232 := Tryz.zeroValue135
  t233 := Tryz.underlying136
  a233 := Tryz.isAgg136
  z233 := Tryz.sizeOf136
  v233 := Tryz.zeroValue136
  g17 := by kernel_rfl
  g18 := by kernel_rfl
  g19 := by kernel_rfl
  i0 := by kernel_rfl
  i2 := by kernel_rfl
  i3 := by kernel_rfl
  i4 := by kernel_rfl
  i5 := by kernel_rfl
  i9 := by kernel_rfl
  i20 := by kernel_rfl
  i37 := by kernel_rfl
  i46 := by kernel_rfl
  i51 := by kernel_rfl
  i53 := by kernel_rfl
  i171 := by kernel_rfl
  i173 := by kernel_rfl
  i212 := by kernel_rfl
  i232 := by kernel_rfl
  i233 := by kernel_rfl
  m17 := by kernel_rfl
  m18 := by kernel_rfl
  m19 := by kernel_rfl }
end Go.Proofs
namespace Go.Proofs.YtnljciooabmogaaGreatDoor
open Go.Lib
set_option linter.unusedVariables false
set_option linter.unusedSimpArgs false
set_option maxRecDepth 100000
/-- block g holds the table -/
def Tab (g : Nat) (o : Obj) : Prop := ∀ (w : World), w.heap[g]? = some o → ∀ n : Int, -9223372036854775808 ≤ n → n ≤ 9223372036854775807 →
  Calls Tryz.prog 28 #[.int .i64 n] w fun e w' => e = .returned (.string ⟨(Lib.itoa n).toArray⟩) ∧ ∃ k os, w' = Sort.grow (w.drewN k) os
theorem tab_mk {W : World} {name : String} (h : Lib.TabIs Tryz.prog W name .u64 Lib.pow10Tab) (hc : ∀ n : Int, -9223372036854775808 ≤ n → n ≤ 9223372036854775807 → ∀ w, Lib.TabIs Tryz.prog w name .u64 Lib.pow10Tab →
    Calls Tryz.prog 28 #[.int .i64 n] w fun e w' => e = .returned (.string ⟨(Lib.itoa n).toArray⟩) ∧ ∃ k os, w' = Sort.grow (w.drewN k) os) : ∃ (g : Nat) (o : Obj), W.heap[g]? = some o ∧ Tab g o := by
  obtain ⟨g, o, h1, h2⟩ := tab_of h
  exact ⟨g, o, h1, fun w hw n h3 h4 => hc n h3 h4 w (h2 w hw)⟩
/-- what the law's rows list -/
def laid : List (String × DataW Unit) := Rows.fnFormatCodeRow.laid
theorem tab_laid {W : World} (h : laidMetH Tryz.prog laid W) : ∃ (g : Nat) (o : Obj), W.heap[g]? = some o ∧ Tab g o := by
  rw [MakeChecks.laidMetH_plain _ _ _ (by kernel_rfl)] at h
  obtain ⟨ps, ⟨_, _, _, _, _, _, _, _, _, _, ⟨_, _, _, _, _, _, _, _, _, _, ⟨g2, t2, cs2, f2, p2, q2, hg2, ht2, hv2, hd2, _, _⟩, _⟩, _⟩, _, _⟩ := h
  have e1 : g2 = 0 := by
    have hg : Tryz.prog.globalNamed (laid[2]).1 = some 0 := by kernel_rfl
    exact (Option.some.inj (hg.symm.trans hg2)).symm
  subst e1
  have e2 : t2 = 116 := by
    have ht : (Tryz.prog.globals[0]?).map (·.type) = some 116 := by kernel_rfl
    exact (Option.some.inj (ht.symm.trans ht2)).symm
  subst e2
  have e3 := cells_of_tab (k := .u64) (zs := Lib.pow10Tab) Tryz.underlying116 Tryz.underlying104 (by kernel_rfl) (by kernel_rfl) hd2
  have e4 : cs2 = (Lib.pow10Tab.map fun z => Value.int .u64 z).toArray := by
    rw [← e3]
  exact tab_mk (hv2.trans (congrArg some e4)) fun n h0 h1 w hw => Any.strconv_Itoa Tryz.laysM171 n h0 h1 w hw
theorem itoa_call {g : Nat} {o : Obj} (hT : Tab g o) (n : Int) (hn : inR .i64 n) (H : Heap) (hH : H[0]? = some (.tab g o)) : ACalls Tryz.prog 28 [.c (.d (.int .i64 n))] H (fun r H' => H' = H ∧ r = .c (.d (.str (Lib.itoa n)))) := by
  have hb := i64_def.1 hn
  refine acalls_tab_str hH ⟨_, Tryz.func28, by kernel_rfl, by decide⟩ (by have := itoa_len n hb.1 hb.2; unfold maxStr; omega) ?_
  intro w ι k cargs hw hl ha
  obtain ⟨v, rfl⟩ : ∃ v, cargs = [v] := by
    match cargs, hl with
    | [v], _ => exact ⟨v, rfl⟩
  have h1 := ha 0 _ _ rfl rfl
  cases h1 with
  | c h => cases h with
    | d h => cases h with
      | int => exact hT w hw n hb.1 hb.2
end Go.Proofs.YtnljciooabmogaaGreatDoor

/-
  First keys, of the program and of the reference.
  Conditions: none.
-/
open Go Go.AM Go.Proofs
namespace Go.Proofs.YtnljciooabmogaaGreatDoor
open Go.ChangeShapes Go.WideShapes Go.ChangeAt Go.RowKit
set_option linter.unusedVariables false
set_option linter.unusedSimpArgs false
set_option maxRecDepth 100000
/-- the key of a term -/
def Tm.key (t : Tm) : List UInt8 :=
  match t.kids with
  | [] => []
  | x :: _ => if x.k = 1 then [] else if x.k = 2 then Lib.itoa x.n else x.s ++ 47 :: Lib.itoa x.kids.length
end Go.Proofs.YtnljciooabmogaaGreatDoor

/-
  Instructions: comparisons.
  Conditions: none.
-/
open Go Go.AM Go.Proofs
namespace Go.Proofs.YtnljciooabmogaaGreatDoor
open Go.ChangeShapes Go.WideShapes Go.ChangeAt Go.RowKit
set_option linter.unusedVariables false
set_option linter.unusedSimpArgs false
set_option maxRecDepth 100000
end Go.Proofs.YtnljciooabmogaaGreatDoor

/-
  Instructions: sizes, copies, comparisons.
  Conditions: none.
-/
open Go Go.AM Go.Proofs
namespace Go.Proofs.YtnljciooabmogaaGreatDoor
open Go.ChangeShapes Go.WideShapes Go.ChangeAt Go.RowKit
set_option linter.unusedVariables false
set_option linter.unusedSimpArgs false
set_option maxRecDepth 100000
end Go.Proofs.YtnljciooabmogaaGreatDoor

/-
  Texts of instructions, of the program and of the reference.
  Conditions: none.
-/
open Go Go.AM Go.Proofs
namespace Go.Proofs.YtnljciooabmogaaGreatDoor
open Go.ChangeShapes Go.WideShapes Go.ChangeAt Go.RowKit
set_option linter.unusedVariables false
set_option linter.unusedSimpArgs false
set_option maxRecDepth 100000
-- 25 loop.example/prologserver/impl.formOf params 1 ntmps 48
def ac25 : Cd := .seq (.region [⟨(some 2),.alloc [(.d (.str [])),(.d (.bool false)),(.d (.bool false)),(.d (.bool false))],none⟩,
 ⟨(some 3),.mv (.k (.c (.d (.bool false)))),none⟩] [3])
 (.seq (.seq (.region [⟨(some 4),.mv (.t 0),none⟩] [0])
 (.block 0 (.seq (.region [⟨(some 6),.bin .eql (.t 4) (.k (.c (.d (.int .i64 1)))),none⟩,
 ⟨(some 5),.mv (.t 6),none⟩] [6])
 (.cond (.t 5)
 (.seq (.region [⟨(some 7),.build [(.d (.str [])),(.d (.bool false)),(.d (.bool false)),(.d (.bool false))] [(0,1,(.k (.c (.d (.str [103,101,116,118,97,108]))))),(1,1,(.k (.c (.d (.bool true))))),(2,1,(.k (.c (.d (.bool true))))),(3,1,(.k (.c (.d (.bool false)))))],none⟩,
 ⟨none,.store 4 (.t 2) (.t 7),none⟩,
 ⟨(some 3),.mv (.k (.c (.d (.bool true)))),none⟩] [4,5,7])
 (.ret))
 (.seq (.region [⟨(some 9),.bin .eql (.t 4) (.k (.c (.d (.int .i64 2)))),none⟩,
 ⟨(some 8),.mv (.t 9),none⟩] [5,9])
 (.cond (.t 8)
 (.seq (.region [⟨(some 10),.build [(.d (.str [])),(.d (.bool false)),(.d (.bool false)),(.d (.bool false))] [(0,1,(.k (.c (.d (.str [103,101,116,105,110,116]))))),(1,1,(.k (.c (.d (.bool true))))),(2,1,(.k (.c (.d (.bool true))))),(3,1,(.k (.c (.d (.bool false)))))],none⟩,
 ⟨none,.store 4 (.t 2) (.t 10),none⟩,
 ⟨(some 3),.mv (.k (.c (.d (.bool true)))),none⟩] [4,8,10])
 (.ret))
 (.seq (.region [⟨(some 12),.bin .eql (.t 4) (.k (.c (.d (.int .i64 3)))),none⟩,
 ⟨(some 11),.mv (.t 12),none⟩] [8,12])
 (.cond (.t 11)
 (.seq (.region [⟨(some 13),.build [(.d (.str [])),(.d (.bool false)),(.d (.bool false)),(.d (.bool false))] [(0,1,(.k (.c (.d (.str [103,101,116,115,116,114]))))),(1,1,(.k (.c (.d (.bool true))))),(2,1,(.k (.c (.d (.bool true))))),(3,1,(.k (.c (.d (.bool true)))))],none⟩,
 ⟨none,.store 4 (.t 2) (.t 13),none⟩,
 ⟨(some 3),.mv (.k (.c (.d (.bool true)))),none⟩] [4,11,13])
 (.ret))
 (.seq (.region [⟨(some 15),.bin .eql (.t 4) (.k (.c (.d (.int .i64 4)))),none⟩,
 ⟨(some 14),.mv (.t 15),none⟩] [11,15])
 (.cond (.t 14)
 (.seq (.region [⟨(some 16),.build [(.d (.str [])),(.d (.bool false)),(.d (.bool false)),(.d (.bool false))] [(0,1,(.k (.c (.d (.str [117,110,105,118,97,114]))))),(1,1,(.k (.c (.d (.bool true))))),(2,1,(.k (.c (.d (.bool false))))),(3,1,(.k (.c (.d (.bool false)))))],none⟩,
 ⟨none,.store 4 (.t 2) (.t 16),none⟩,
 ⟨(some 3),.mv (.k (.c (.d (.bool true)))),none⟩] [4,14,16])
 (.ret))
 (.seq (.region [⟨(some 18),.bin .eql (.t 4) (.k (.c (.d (.int .i64 5)))),none⟩,
 ⟨(some 17),.mv (.t 18),none⟩] [14,18])
 (.cond (.t 17)
 (.seq (.region [⟨(some 19),.build [(.d (.str [])),(.d (.bool false)),(.d (.bool false)),(.d (.bool false))] [(0,1,(.k (.c (.d (.str [117,110,105,118,97,108]))))),(1,1,(.k (.c (.d (.bool true))))),(2,1,(.k (.c (.d (.bool false))))),(3,1,(.k (.c (.d (.bool false)))))],none⟩,
 ⟨none,.store 4 (.t 2) (.t 19),none⟩,
 ⟨(some 3),.mv (.k (.c (.d (.bool true)))),none⟩] [4,17,19])
 (.ret))
 (.seq (.region [⟨(some 21),.bin .eql (.t 4) (.k (.c (.d (.int .i64 6)))),none⟩,
 ⟨(some 20),.mv (.t 21),none⟩] [17,21])
 (.cond (.t 20)
 (.seq (.region [⟨(some 22),.build [(.d (.str [])),(.d (.bool false)),(.d (.bool false)),(.d (.bool false))] [(0,1,(.k (.c (.d (.str [117,110,105,105,110,116]))))),(1,1,(.k (.c (.d (.bool true))))),(2,1,(.k (.c (.d (.bool false))))),(3,1,(.k (.c (.d (.bool false)))))],none⟩,
 ⟨none,.store 4 (.t 2) (.t 22),none⟩,
 ⟨(some 3),.mv (.k (.c (.d (.bool true)))),none⟩] [4,20,22])
 (.ret))
 (.seq (.region [⟨(some 24),.bin .eql (.t 4) (.k (.c (.d (.int .i64 7)))),none⟩,
 ⟨(some 23),.mv (.t 24),none⟩] [20,24])
 (.cond (.t 23)
 (.seq (.region [⟨(some 25),.build [(.d (.str [])),(.d (.bool false)),(.d (.bool false)),(.d (.bool false))] [(0,1,(.k (.c (.d (.str [115,101,116,115,116,114]))))),(1,1,(.k (.c (.d (.bool true))))),(2,1,(.k (.c (.d (.bool true))))),(3,1,(.k (.c (.d (.bool true)))))],none⟩,
 ⟨none,.store 4 (.t 2) (.t 25),none⟩,
 ⟨(some 3),.mv (.k (.c (.d (.bool true)))),none⟩] [4,23,25])
 (.ret))
 (.seq (.region [⟨(some 27),.bin .eql (.t 4) (.k (.c (.d (.int .i64 8)))),none⟩,
 ⟨(some 26),.mv (.t 27),none⟩] [23,27])
 (.cond (.t 26)
 (.seq (.region [⟨(some 28),.build [(.d (.str [])),(.d (.bool false)),(.d (.bool false)),(.d (.bool false))] [(0,1,(.k (.c (.d (.str [112,117,116,118,97,114]))))),(1,1,(.k (.c (.d (.bool true))))),(2,1,(.k (.c (.d (.bool true))))),(3,1,(.k (.c (.d (.bool false)))))],none⟩,
 ⟨none,.store 4 (.t 2) (.t 28),none⟩,
 ⟨(some 3),.mv (.k (.c (.d (.bool true)))),none⟩] [4,26,28])
 (.ret))
 (.seq (.region [⟨(some 30),.bin .eql (.t 4) (.k (.c (.d (.int .i64 9)))),none⟩,
 ⟨(some 29),.mv (.t 30),none⟩] [26,30])
 (.cond (.t 29)
 (.seq (.region [⟨(some 31),.build [(.d (.str [])),(.d (.bool false)),(.d (.bool false)),(.d (.bool false))] [(0,1,(.k (.c (.d (.str [112,117,116,118,97,108]))))),(1,1,(.k (.c (.d (.bool true))))),(2,1,(.k (.c (.d (.bool true))))),(3,1,(.k (.c (.d (.bool false)))))],none⟩,
 ⟨none,.store 4 (.t 2) (.t 31),none⟩,
 ⟨(some 3),.mv (.k (.c (.d (.bool true)))),none⟩] [4,29,31])
 (.ret))
 (.seq (.region [⟨(some 33),.bin .eql (.t 4) (.k (.c (.d (.int .i64 10)))),none⟩,
 ⟨(some 32),.mv (.t 33),none⟩] [29,33])
 (.cond (.t 32)
 (.seq (.region [⟨(some 34),.build [(.d (.str [])),(.d (.bool false)),(.d (.bool false)),(.d (.bool false))] [(0,1,(.k (.c (.d (.str [112,117,116,105,110,116]))))),(1,1,(.k (.c (.d (.bool true))))),(2,1,(.k (.c (.d (.bool true))))),(3,1,(.k (.c (.d (.bool false)))))],none⟩,
 ⟨none,.store 4 (.t 2) (.t 34),none⟩,
 ⟨(some 3),.mv (.k (.c (.d (.bool true)))),none⟩] [4,32,34])
 (.ret))
 (.seq (.region [⟨(some 36),.bin .eql (.t 4) (.k (.c (.d (.int .i64 11)))),none⟩,
 ⟨(some 35),.mv (.t 36),none⟩] [32,36])
 (.cond (.t 35)
 (.seq (.region [⟨(some 37),.build [(.d (.str [])),(.d (.bool false)),(.d (.bool false)),(.d (.bool false))] [(0,1,(.k (.c (.d (.str [99,97,108,108]))))),(1,1,(.k (.c (.d (.bool true))))),(2,1,(.k (.c (.d (.bool false))))),(3,1,(.k (.c (.d (.bool true)))))],none⟩,
 ⟨none,.store 4 (.t 2) (.t 37),none⟩,
 ⟨(some 3),.mv (.k (.c (.d (.bool true)))),none⟩] [4,35,37])
 (.ret))
 (.seq (.region [⟨(some 39),.bin .eql (.t 4) (.k (.c (.d (.int .i64 12)))),none⟩,
 ⟨(some 38),.mv (.t 39),none⟩] [35,39])
 (.cond (.t 38)
 (.seq (.region [⟨(some 40),.build [(.d (.str [])),(.d (.bool false)),(.d (.bool false)),(.d (.bool false))] [(0,1,(.k (.c (.d (.str [98,117,105,108,116]))))),(1,1,(.k (.c (.d (.bool true))))),(2,1,(.k (.c (.d (.bool false))))),(3,1,(.k (.c (.d (.bool true)))))],none⟩,
 ⟨none,.store 4 (.t 2) (.t 40),none⟩,
 ⟨(some 3),.mv (.k (.c (.d (.bool true)))),none⟩] [4,38,40])
 (.ret))
 (.seq (.region [⟨(some 42),.bin .eql (.t 4) (.k (.c (.d (.int .i64 13)))),none⟩,
 ⟨(some 41),.mv (.t 42),none⟩] [38,42])
 (.cond (.t 41)
 (.seq (.region [⟨(some 43),.build [(.d (.str [])),(.d (.bool false)),(.d (.bool false)),(.d (.bool false))] [(0,1,(.k (.c (.d (.str [99,117,116]))))),(1,1,(.k (.c (.d (.bool false))))),(2,1,(.k (.c (.d (.bool false))))),(3,1,(.k (.c (.d (.bool false)))))],none⟩,
 ⟨none,.store 4 (.t 2) (.t 43),none⟩,
 ⟨(some 3),.mv (.k (.c (.d (.bool true)))),none⟩] [4,41,43])
 (.ret))
 (.seq (.region [⟨(some 45),.bin .eql (.t 4) (.k (.c (.d (.int .i64 14)))),none⟩,
 ⟨(some 44),.mv (.t 45),none⟩] [4,41,45])
 (.cond (.t 44)
 (.seq (.region [⟨(some 46),.build [(.d (.str [])),(.d (.bool false)),(.d (.bool false)),(.d (.bool false))] [(0,1,(.k (.c (.d (.str [101,110,100]))))),(1,1,(.k (.c (.d (.bool false))))),(2,1,(.k (.c (.d (.bool false))))),(3,1,(.k (.c (.d (.bool false)))))],none⟩,
 ⟨none,.store 4 (.t 2) (.t 46),none⟩,
 ⟨(some 3),.mv (.k (.c (.d (.bool true)))),none⟩] [44,46])
 (.ret))
 (.skip)))))))))))))))))))))))))))))))
 (.seq (.region [⟨(some 47),.build [(.d (.str [])),(.d (.bool false)),(.d (.bool false)),(.d (.bool false))] [],none⟩,
 ⟨none,.store 4 (.t 2) (.t 47),none⟩,
 ⟨(some 3),.mv (.k (.c (.d (.bool false)))),none⟩] [44,47])
 (.ret)))
theorem ac25_ok : cFunc Tryz.prog [] [(0,[3],[]),(1,[0],[]),(2,[6],[]),(3,[4,5,7],[]),(4,[5,9],[]),(5,[4,8,10],[]),(6,[8,12],[]),(7,[4,11,13],[]),(8,[11,15],[]),(9,[4,14,16],[]),(10,[14,18],[]),(11,[4,17,19],[]),(12,[17,21],[]),(13,[4,20,22],[]),(14,[20,24],[]),(15,[4,23,25],[]),(16,[23,27],[]),(17,[4,26,28],[]),(18,[26,30],[]),(19,[4,29,31],[]),(20,[29,33],[]),(21,[4,32,34],[]),(22,[32,36],[]),(23,[4,35,37],[]),(24,[35,39],[]),(25,[4,38,40],[]),(26,[38,42],[]),(27,[4,41,43],[]),(28,[4,41,45],[]),(29,[44,46],[]),(30,[44,47],[])] Tryz.f25 = some (ac25,[.cell 2 (some 4),.tmp 3],48) := by kernel_rfl
-- 30 loop.example/prologserver/spec.l8Shape params 1 ntmps 23
def ac30 : Cd := .seq (.region [⟨(some 2),.mv (.k (.c (.d (.str [])))),none⟩] [2])
 (.seq (.seq (.region [⟨(some 3),.mv (.t 0),none⟩] [0])
 (.block 0 (.seq (.seq (.region [⟨(some 5),.bin .eql (.t 3) (.k (.c (.d (.int .i64 1)))),none⟩,
 ⟨(some 4),.mv (.t 5),none⟩] [5])
 (.cond (.t 4)
 (.skip)
 (.seq (.region [⟨(some 6),.bin .eql (.t 3) (.k (.c (.d (.int .i64 2)))),none⟩,
 ⟨(some 4),.mv (.t 6),none⟩] [6])
 (.cond (.t 4)
 (.skip)
 (.seq (.region [⟨(some 7),.bin .eql (.t 3) (.k (.c (.d (.int .i64 8)))),none⟩,
 ⟨(some 4),.mv (.t 7),none⟩] [7])
 (.cond (.t 4)
 (.skip)
 (.seq (.region [⟨(some 8),.bin .eql (.t 3) (.k (.c (.d (.int .i64 9)))),none⟩,
 ⟨(some 4),.mv (.t 8),none⟩] [8])
 (.cond (.t 4)
 (.skip)
 (.region [⟨(some 9),.bin .eql (.t 3) (.k (.c (.d (.int .i64 10)))),none⟩,
 ⟨(some 4),.mv (.t 9),none⟩] [9])))))))))
 (.cond (.t 4)
 (.seq (.region [⟨(some 2),.mv (.k (.c (.d (.str [97,98])))),none⟩] [3,4])
 (.ret))
 (.seq (.seq (.region [⟨(some 11),.bin .eql (.t 3) (.k (.c (.d (.int .i64 3)))),none⟩,
 ⟨(some 10),.mv (.t 11),none⟩] [4,11])
 (.cond (.t 10)
 (.skip)
 (.region [⟨(some 12),.bin .eql (.t 3) (.k (.c (.d (.int .i64 7)))),none⟩,
 ⟨(some 10),.mv (.t 12),none⟩] [12])))
 (.cond (.t 10)
 (.seq (.region [⟨(some 2),.mv (.k (.c (.d (.str [97,98,110])))),none⟩] [3,10])
 (.ret))
 (.seq (.seq (.region [⟨(some 14),.bin .eql (.t 3) (.k (.c (.d (.int .i64 4)))),none⟩,
 ⟨(some 13),.mv (.t 14),none⟩] [10,14])
 (.cond (.t 13)
 (.skip)
 (.seq (.region [⟨(some 15),.bin .eql (.t 3) (.k (.c (.d (.int .i64 5)))),none⟩,
 ⟨(some 13),.mv (.t 15),none⟩] [15])
 (.cond (.t 13)
 (.skip)
 (.region [⟨(some 16),.bin .eql (.t 3) (.k (.c (.d (.int .i64 6)))),none⟩,
 ⟨(some 13),.mv (.t 16),none⟩] [16])))))
 (.cond (.t 13)
 (.seq (.region [⟨(some 2),.mv (.k (.c (.d (.str [97])))),none⟩] [3,13])
 (.ret))
 (.seq (.seq (.region [⟨(some 18),.bin .eql (.t 3) (.k (.c (.d (.int .i64 11)))),none⟩,
 ⟨(some 17),.mv (.t 18),none⟩] [13,18])
 (.cond (.t 17)
 (.skip)
 (.region [⟨(some 19),.bin .eql (.t 3) (.k (.c (.d (.int .i64 12)))),none⟩,
 ⟨(some 17),.mv (.t 19),none⟩] [19])))
 (.cond (.t 17)
 (.seq (.region [⟨(some 2),.mv (.k (.c (.d (.str [97,110])))),none⟩] [3,17])
 (.ret))
 (.seq (.seq (.region [⟨(some 21),.bin .eql (.t 3) (.k (.c (.d (.int .i64 13)))),none⟩,
 ⟨(some 20),.mv (.t 21),none⟩] [17,21])
 (.cond (.t 20)
 (.skip)
 (.region [⟨(some 22),.bin .eql (.t 3) (.k (.c (.d (.int .i64 14)))),none⟩,
 ⟨(some 20),.mv (.t 22),none⟩] [3,22])))
 (.cond (.t 20)
 (.seq (.region [⟨(some 2),.mv (.k (.c (.d (.str [])))),none⟩] [3,20])
 (.ret))
 (.skip)))))))))))))
 (.seq (.region [⟨(some 2),.mv (.k (.c (.d (.str [63])))),none⟩] [3,20])
 (.ret)))
theorem ac30_ok : cFunc Tryz.prog [] [(0,[2],[]),(1,[0],[]),(2,[5],[]),(3,[6],[]),(4,[7],[]),(5,[8],[]),(6,[9],[]),(7,[3,4],[]),(8,[4,11],[]),(9,[12],[]),(10,[3,10],[]),(11,[10,14],[]),(12,[15],[]),(13,[16],[]),(14,[3,13],[]),(15,[13,18],[]),(16,[19],[]),(17,[3,17],[]),(18,[17,21],[]),(19,[3,22],[]),(20,[3,20],[]),(21,[3,20],[])] Tryz.f30 = some (ac30,[.tmp 2],23) := by kernel_rfl
-- 32 loop.example/prologserver/spec.l8Names params 0 ntmps 2
def ac32 : Cd := .seq (.region [⟨(some 0),.mv (.k (.c (.full []))),none⟩] [0])
 (.seq (.region [⟨(some 1),.buildSlice 1 15 [(.str [])] [(0,(.k (.c (.d (.str []))))),(1,(.k (.c (.d (.str [103,101,116,118,97,108]))))),(2,(.k (.c (.d (.str [103,101,116,105,110,116]))))),(3,(.k (.c (.d (.str [103,101,116,115,116,114]))))),(4,(.k (.c (.d (.str [117,110,105,118,97,114]))))),(5,(.k (.c (.d (.str [117,110,105,118,97,108]))))),(6,(.k (.c (.d (.str [117,110,105,105,110,116]))))),(7,(.k (.c (.d (.str [115,101,116,115,116,114]))))),(8,(.k (.c (.d (.str [112,117,116,118,97,114]))))),(9,(.k (.c (.d (.str [112,117,116,118,97,108]))))),(10,(.k (.c (.d (.str [112,117,116,105,110,116]))))),(11,(.k (.c (.d (.str [99,97,108,108]))))),(12,(.k (.c (.d (.str [98,117,105,108,116]))))),(13,(.k (.c (.d (.str [99,117,116]))))),(14,(.k (.c (.d (.str [101,110,100])))))],none⟩,
 ⟨(some 0),.mv (.t 1),none⟩] [1])
 (.ret))
theorem ac32_ok : cFunc Tryz.prog [] [(0,[0],[]),(1,[1],[])] Tryz.f32 = some (ac32,[.tmp 0],2) := by kernel_rfl
-- 14 loop.example/prologserver/spec.l8Instr params 1 ntmps 81
def ac14 : Cd := .seq (.region [⟨(some 1),.box (.t 0),none⟩,
 ⟨(some 2),.mv (.k (.c (.d (.bool false)))),none⟩] [0,2])
 (.seq (.region [⟨(some 6),.fieldAddr 0 (.t 1),none⟩,
 ⟨(some 7),.load none (.t 6),none⟩,
 ⟨(some 8),.qcall 30 [(.t 7)],none⟩,
 ⟨(some 3),.mv (.t 8),none⟩] [6,7,8])
 (.seq (.seq (.region [⟨(some 9),.mv (.t 3),none⟩,
 ⟨(some 10),.bin .eql (.t 9) (.k (.c (.d (.str [63])))),none⟩,
 ⟨(some 11),.mv (.t 10),none⟩,
 ⟨(some 12),.fieldAddr 1 (.t 1),some (11,false)⟩,
 ⟨(some 13),.load none (.t 12),some (11,false)⟩,
 ⟨(some 14),.bin .lss (.t 13) (.k (.c (.d (.int .i64 (-999))))),some (11,false)⟩,
 ⟨(some 15),.pick (.t 11) (.k (.c (.d (.bool true)))) (.t 14),none⟩,
 ⟨(some 16),.mv (.t 15),none⟩,
 ⟨(some 17),.fieldAddr 1 (.t 1),some (16,false)⟩,
 ⟨(some 18),.load none (.t 17),some (16,false)⟩,
 ⟨(some 19),.bin .gtr (.t 18) (.k (.c (.d (.int .i64 999)))),some (16,false)⟩,
 ⟨(some 20),.pick (.t 16) (.k (.c (.d (.bool true)))) (.t 19),none⟩,
 ⟨(some 21),.mv (.t 20),none⟩,
 ⟨(some 22),.fieldAddr 2 (.t 1),some (21,false)⟩,
 ⟨(some 23),.load none (.t 22),some (21,false)⟩,
 ⟨(some 24),.bin .lss (.t 23) (.k (.c (.d (.int .i64 0)))),some (21,false)⟩,
 ⟨(some 25),.pick (.t 21) (.k (.c (.d (.bool true)))) (.t 24),none⟩,
 ⟨(some 26),.mv (.t 25),none⟩,
 ⟨(some 27),.fieldAddr 2 (.t 1),some (26,false)⟩,
 ⟨(some 28),.load none (.t 27),some (26,false)⟩,
 ⟨(some 29),.bin .gtr (.t 28) (.k (.c (.d (.int .i64 999)))),some (26,false)⟩,
 ⟨(some 30),.pick (.t 26) (.k (.c (.d (.bool true)))) (.t 29),none⟩] [9,10,11,12,13,14,15,16,17,18,19,20,21,22,23,24,25,26,27,28,29])
 (.cond (.t 30)
 (.seq (.region [⟨(some 2),.mv (.k (.c (.d (.bool false)))),none⟩] [1,3,30])
 (.ret))
 (.skip)))
 (.seq (.seq (.region [⟨(some 31),.mv (.t 3),none⟩,
 ⟨(some 32),.bin .eql (.t 31) (.k (.c (.d (.str [])))),none⟩] [2,30,31])
 (.cond (.t 32)
 (.seq (.region [⟨(some 33),.fieldAddr 1 (.t 1),none⟩,
 ⟨(some 34),.load none (.t 33),none⟩,
 ⟨(some 35),.bin .eql (.t 34) (.k (.c (.d (.int .i64 0)))),none⟩,
 ⟨(some 36),.mv (.t 35),none⟩,
 ⟨(some 37),.fieldAddr 2 (.t 1),some (36,true)⟩,
 ⟨(some 38),.load none (.t 37),some (36,true)⟩,
 ⟨(some 39),.bin .eql (.t 38) (.k (.c (.d (.int .i64 0)))),some (36,true)⟩,
 ⟨(some 40),.pick (.t 36) (.t 39) (.k (.c (.d (.bool false)))),none⟩,
 ⟨(some 41),.mv (.t 40),none⟩,
 ⟨(some 42),.fieldAddr 3 (.t 1),some (41,true)⟩,
 ⟨(some 43),.load none (.t 42),some (41,true)⟩,
 ⟨(some 44),.bin .eql (.t 43) (.k (.c (.d (.str [])))),some (41,true)⟩,
 ⟨(some 45),.pick (.t 41) (.t 44) (.k (.c (.d (.bool false)))),none⟩,
 ⟨(some 2),.mv (.t 45),none⟩] [1,3,32,33,34,35,36,37,38,39,40,41,42,43,44,45])
 (.ret))
 (.skip)))
 (.seq (.region [⟨(some 46),.mv (.t 3),none⟩,
 ⟨(some 47),.bin .eql (.t 46) (.k (.c (.d (.str [97,98])))),none⟩,
 ⟨(some 48),.mv (.t 47),none⟩,
 ⟨(some 49),.mv (.t 3),some (48,false)⟩,
 ⟨(some 50),.bin .eql (.t 49) (.k (.c (.d (.str [97,98,110])))),some (48,false)⟩,
 ⟨(some 51),.pick (.t 48) (.k (.c (.d (.bool true)))) (.t 50),none⟩,
 ⟨(some 4),.mv (.t 51),none⟩] [2,32,46,47,48,49,50,51])
 (.seq (.region [⟨(some 52),.mv (.t 3),none⟩,
 ⟨(some 53),.bin .eql (.t 52) (.k (.c (.d (.str [97,98,110])))),none⟩,
 ⟨(some 54),.mv (.t 53),none⟩,
 ⟨(some 55),.mv (.t 3),some (54,false)⟩,
 ⟨(some 56),.bin .eql (.t 55) (.k (.c (.d (.str [97,110])))),some (54,false)⟩,
 ⟨(some 57),.pick (.t 54) (.k (.c (.d (.bool true)))) (.t 56),none⟩,
 ⟨(some 5),.mv (.t 57),none⟩] [3,52,53,54,55,56,57])
 (.seq (.region [⟨(some 58),.mv (.t 4),none⟩,
 ⟨(some 59),.mv (.t 58),none⟩,
 ⟨(some 60),.fieldAddr 2 (.t 1),some (59,false)⟩,
 ⟨(some 61),.load none (.t 60),some (59,false)⟩,
 ⟨(some 62),.bin .eql (.t 61) (.k (.c (.d (.int .i64 0)))),some (59,false)⟩,
 ⟨(some 63),.pick (.t 59) (.k (.c (.d (.bool true)))) (.t 62),none⟩,
 ⟨(some 64),.mv (.t 63),none⟩,
 ⟨(some 65),.mv (.t 5),some (64,true)⟩,
 ⟨(some 66),.mv (.t 65),some (64,true)⟩,
 ⟨(some 67),.fieldAddr 3 (.t 1),some (66,true)⟩,
 ⟨(some 68),.load none (.t 67),some (66,true)⟩,
 ⟨(some 69),.qcall 31 [(.t 68)],some (66,true)⟩,
 ⟨(some 70),.pick (.t 66) (.t 69) (.k (.c (.d (.bool false)))),some (64,true)⟩,
 ⟨(some 71),.mv (.t 70),some (64,true)⟩,
 ⟨(some 72),.mv (.t 5),some (71,false)⟩,
 ⟨(some 73),.un .not (.t 72),some (71,false)⟩,
 ⟨(some 74),.mv (.t 73),some (71,false)⟩,
 ⟨(some 75),.fieldAddr 3 (.t 1),some (74,true)⟩,
 ⟨(some 76),.load none (.t 75),some (74,true)⟩,
 ⟨(some 77),.bin .eql (.t 76) (.k (.c (.d (.str [])))),some (74,true)⟩,
 ⟨(some 78),.pick (.t 74) (.t 77) (.k (.c (.d (.bool false)))),some (71,false)⟩,
 ⟨(some 79),.pick (.t 71) (.k (.c (.d (.bool true)))) (.t 78),some (64,true)⟩,
 ⟨(some 80),.pick (.t 64) (.t 79) (.k (.c (.d (.bool false)))),none⟩,
 ⟨(some 2),.mv (.t 80),none⟩] [1,4,5,58,59,60,61,62,63,64,65,66,67,68,69,70,71,72,73,74,75,76,77,78,79,80])
 (.ret)))))))
theorem ac14_ok : cFunc Tryz.prog [1000030,1000031] [(0,[0,2],[]),(1,[6,7,8],[]),(2,[9,10,11,12,13,14,15,16,17,18,19,20,21,22,23,24,25,26,27,28,29],[]),(3,[1,3,30],[]),(4,[2,30,31],[]),(5,[1,3,32,33,34,35,36,37,38,39,40,41,42,43,44,45],[]),(6,[2,32,46,47,48,49,50,51],[]),(7,[3,52,53,54,55,56,57],[]),(8,[1,4,5,58,59,60,61,62,63,64,65,66,67,68,69,70,71,72,73,74,75,76,77,78,79,80],[])] Tryz.f14 = some (ac14,[.tmp 2],81) := by kernel_rfl
-- 15 loop.example/prologserver/spec.FormatInstr params 1 ntmps 48
def ac15 : Cd := .seq (.region [⟨(some 1),.box (.t 0),none⟩,
 ⟨(some 2),.mv (.k (.c (.d (.str [])))),none⟩] [0,2])
 (.seq (.seq (.region [⟨(some 5),.load (some 4) (.t 1),none⟩,
 ⟨(some 6),.qcall 14 [(.t 5)],none⟩,
 ⟨(some 7),.un .not (.t 6),none⟩] [5,6])
 (.cond (.t 7)
 (.seq (.region [⟨(some 2),.mv (.k (.c (.d (.str [])))),none⟩] [1,7])
 (.ret))
 (.skip)))
 (.seq (.region [⟨(some 9),.fieldAddr 0 (.t 1),none⟩,
 ⟨(some 8),.qcall 32 [],none⟩,
 ⟨(some 10),.load none (.t 9),none⟩,
 ⟨(some 11),.indexAddr 1 (.t 8) (.t 10),none⟩,
 ⟨(some 12),.load none (.t 11),none⟩,
 ⟨(some 3),.mv (.t 12),none⟩] [2,7,8,9,10,11,12])
 (.seq (.region [⟨(some 13),.fieldAddr 0 (.t 1),none⟩,
 ⟨(some 14),.load none (.t 13),none⟩,
 ⟨(some 15),.qcall 30 [(.t 14)],none⟩,
 ⟨(some 4),.mv (.t 15),none⟩] [13,14,15])
 (.seq (.seq (.region [⟨(some 16),.mv (.t 4),none⟩,
 ⟨(some 17),.bin .neq (.t 16) (.k (.c (.d (.str [])))),none⟩] [16])
 (.cond (.t 17)
 (.region [⟨(some 18),.mv (.t 3),none⟩,
 ⟨(some 19),.bin .add (.t 18) (.k (.c (.d (.str [32])))),none⟩,
 ⟨(some 20),.fieldAddr 1 (.t 1),none⟩,
 ⟨(some 21),.load none (.t 20),none⟩,
 ⟨(some 22),.qcall 33 [(.t 21)],none⟩,
 ⟨(some 23),.bin .add (.t 19) (.t 22),none⟩,
 ⟨(some 3),.mv (.t 23),none⟩] [17,18,19,20,21,22,23])
 (.skip)))
 (.seq (.seq (.region [⟨(some 24),.mv (.t 4),none⟩,
 ⟨(some 25),.bin .eql (.t 24) (.k (.c (.d (.str [97,98])))),none⟩,
 ⟨(some 26),.mv (.t 25),none⟩,
 ⟨(some 27),.mv (.t 4),some (26,false)⟩,
 ⟨(some 28),.bin .eql (.t 27) (.k (.c (.d (.str [97,98,110])))),some (26,false)⟩,
 ⟨(some 29),.pick (.t 26) (.k (.c (.d (.bool true)))) (.t 28),none⟩] [17,24,25,26,27,28])
 (.cond (.t 29)
 (.region [⟨(some 30),.mv (.t 3),none⟩,
 ⟨(some 31),.bin .add (.t 30) (.k (.c (.d (.str [32])))),none⟩,
 ⟨(some 32),.fieldAddr 2 (.t 1),none⟩,
 ⟨(some 33),.load none (.t 32),none⟩,
 ⟨(some 34),.qcall 33 [(.t 33)],none⟩,
 ⟨(some 35),.bin .add (.t 31) (.t 34),none⟩,
 ⟨(some 3),.mv (.t 35),none⟩] [29,30,31,32,33,34,35])
 (.skip)))
 (.seq (.seq (.region [⟨(some 36),.mv (.t 4),none⟩,
 ⟨(some 37),.bin .eql (.t 36) (.k (.c (.d (.str [97,110])))),none⟩,
 ⟨(some 38),.mv (.t 37),none⟩,
 ⟨(some 39),.mv (.t 4),some (38,false)⟩,
 ⟨(some 40),.bin .eql (.t 39) (.k (.c (.d (.str [97,98,110])))),some (38,false)⟩,
 ⟨(some 41),.pick (.t 38) (.k (.c (.d (.bool true)))) (.t 40),none⟩] [4,29,36,37,38,39,40])
 (.cond (.t 41)
 (.region [⟨(some 42),.mv (.t 3),none⟩,
 ⟨(some 43),.bin .add (.t 42) (.k (.c (.d (.str [32])))),none⟩,
 ⟨(some 44),.fieldAddr 3 (.t 1),none⟩,
 ⟨(some 45),.load none (.t 44),none⟩,
 ⟨(some 46),.bin .add (.t 43) (.t 45),none⟩,
 ⟨(some 3),.mv (.t 46),none⟩] [1,41,42,43,44,45,46])
 (.skip)))
 (.seq (.region [⟨(some 47),.mv (.t 3),none⟩,
 ⟨(some 2),.mv (.t 47),none⟩] [1,3,41,47])
 (.ret))))))))
theorem ac15_ok : cFunc Tryz.prog [1000014,1000030,1000032,1000033] [(0,[0,2],[]),(1,[5,6],[]),(2,[1,7],[]),(3,[2,7,8,9,10,11,12],[1,0,2,3,4,5]),(4,[13,14,15],[]),(5,[16],[]),(6,[17,18,19,20,21,22,23],[]),(7,[17,24,25,26,27,28],[]),(8,[29,30,31,32,33,34,35],[]),(9,[4,29,36,37,38,39,40],[]),(10,[1,41,42,43,44,45,46],[]),(11,[1,3,41,47],[])] Tryz.f15 = some (ac15,[.tmp 2],48) := by kernel_rfl
-- 11 loop.example/prologserver/impl.FormatInstr params 1 ntmps 92
def ac11 : Cd := .seq (.region [⟨(some 1),.box (.t 0),none⟩,
 ⟨(some 2),.mv (.k (.c (.d (.str [])))),none⟩] [0,2])
 (.seq (.region [⟨(some 7),.fieldAddr 0 (.t 1),none⟩,
 ⟨(some 8),.load none (.t 7),none⟩,
 ⟨(some 9),.qcall 25 [(.t 8)],none⟩,
 ⟨(some 6),.mv (.t 9),none⟩,
 ⟨(some 10),.extract 0 (.t 6),none⟩,
 ⟨(some 11),.extract 1 (.t 6),none⟩,
 ⟨(some 3),.alloc [(.d (.str [])),(.d (.bool false)),(.d (.bool false)),(.d (.bool false))],none⟩,
 ⟨none,.store 4 (.t 3) (.t 10),none⟩,
 ⟨(some 4),.mv (.t 11),none⟩] [6,7,8,9,10,11])
 (.seq (.seq (.region [⟨(some 12),.mv (.t 4),none⟩,
 ⟨(some 13),.un .not (.t 12),none⟩,
 ⟨(some 14),.mv (.t 13),none⟩,
 ⟨(some 15),.fieldAddr 1 (.t 1),some (14,false)⟩,
 ⟨(some 16),.load none (.t 15),some (14,false)⟩,
 ⟨(some 17),.qcall 26 [(.t 16),(.k (.c (.d (.int .i64 (-999))))),(.k (.c (.d (.int .i64 999))))],some (14,false)⟩,
 ⟨(some 18),.un .not (.t 17),some (14,false)⟩,
 ⟨(some 19),.pick (.t 14) (.k (.c (.d (.bool true)))) (.t 18),none⟩,
 ⟨(some 20),.mv (.t 19),none⟩,
 ⟨(some 21),.fieldAddr 2 (.t 1),some (20,false)⟩,
 ⟨(some 22),.load none (.t 21),some (20,false)⟩,
 ⟨(some 23),.qcall 26 [(.t 22),(.k (.c (.d (.int .i64 0)))),(.k (.c (.d (.int .i64 999))))],some (20,false)⟩,
 ⟨(some 24),.un .not (.t 23),some (20,false)⟩,
 ⟨(some 25),.pick (.t 20) (.k (.c (.d (.bool true)))) (.t 24),none⟩,
 ⟨(some 26),.mv (.t 25),none⟩,
 ⟨(some 27),.fieldAddr 1 (.t 3),some (26,false)⟩,
 ⟨(some 28),.load none (.t 27),some (26,false)⟩,
 ⟨(some 29),.un .not (.t 28),some (26,false)⟩,
 ⟨(some 30),.mv (.t 29),some (26,false)⟩,
 ⟨(some 31),.fieldAddr 1 (.t 1),some (30,true)⟩,
 ⟨(some 32),.load none (.t 31),some (30,true)⟩,
 ⟨(some 33),.bin .neq (.t 32) (.k (.c (.d (.int .i64 0)))),some (30,true)⟩,
 ⟨(some 34),.pick (.t 30) (.t 33) (.k (.c (.d (.bool false)))),some (26,false)⟩,
 ⟨(some 35),.pick (.t 26) (.k (.c (.d (.bool true)))) (.t 34),none⟩,
 ⟨(some 36),.mv (.t 35),none⟩,
 ⟨(some 37),.fieldAddr 2 (.t 3),some (36,false)⟩,
 ⟨(some 38),.load none (.t 37),some (36,false)⟩,
 ⟨(some 39),.un .not (.t 38),some (36,false)⟩,
 ⟨(some 40),.mv (.t 39),some (36,false)⟩,
 ⟨(some 41),.fieldAddr 2 (.t 1),some (40,true)⟩,
 ⟨(some 42),.load none (.t 41),some (40,true)⟩,
 ⟨(some 43),.bin .neq (.t 42) (.k (.c (.d (.int .i64 0)))),some (40,true)⟩,
 ⟨(some 44),.pick (.t 40) (.t 43) (.k (.c (.d (.bool false)))),some (36,false)⟩,
 ⟨(some 45),.pick (.t 36) (.k (.c (.d (.bool true)))) (.t 44),none⟩,
 ⟨(some 46),.mv (.t 45),none⟩,
 ⟨(some 47),.fieldAddr 3 (.t 3),some (46,false)⟩,
 ⟨(some 48),.load none (.t 47),some (46,false)⟩,
 ⟨(some 49),.un .not (.t 48),some (46,false)⟩,
 ⟨(some 50),.mv (.t 49),some (46,false)⟩,
 ⟨(some 51),.fieldAddr 3 (.t 1),some (50,true)⟩,
 ⟨(some 52),.load none (.t 51),some (50,true)⟩,
 ⟨(some 53),.bin .neq (.t 52) (.k (.c (.d (.str [])))),some (50,true)⟩,
 ⟨(some 54),.pick (.t 50) (.t 53) (.k (.c (.d (.bool false)))),some (46,false)⟩,
 ⟨(some 55),.pick (.t 46) (.k (.c (.d (.bool true)))) (.t 54),none⟩,
 ⟨(some 56),.mv (.t 55),none⟩,
 ⟨(some 57),.fieldAddr 3 (.t 3),some (56,false)⟩,
 ⟨(some 58),.load none (.t 57),some (56,false)⟩,
 ⟨(some 59),.mv (.t 58),some (56,false)⟩,
 ⟨(some 60),.fieldAddr 3 (.t 1),some (59,true)⟩,
 ⟨(some 61),.load none (.t 60),some (59,true)⟩,
 ⟨(some 62),.qcall 27 [(.t 61)],some (59,true)⟩,
 ⟨(some 63),.un .not (.t 62),some (59,true)⟩,
 ⟨(some 64),.pick (.t 59) (.t 63) (.k (.c (.d (.bool false)))),some (56,false)⟩,
 ⟨(some 65),.pick (.t 56) (.k (.c (.d (.bool true)))) (.t 64),none⟩] [4,12,13,14,15,16,17,18,19,20,21,22,23,24,25,26,27,28,29,30,31,32,33,34,35,36,37,38,39,40,41,42,43,44,45,46,47,48,49,50,51,52,53,54,55,56,57,58,59,60,61,62,63,64])
 (.cond (.t 65)
 (.seq (.region [⟨(some 2),.mv (.k (.c (.d (.str [])))),none⟩] [1,3,65])
 (.ret))
 (.skip)))
 (.seq (.region [⟨(some 66),.fieldAddr 0 (.t 3),none⟩,
 ⟨(some 67),.load none (.t 66),none⟩,
 ⟨(some 5),.mv (.t 67),none⟩] [2,65,66,67])
 (.seq (.seq (.region [⟨(some 68),.fieldAddr 1 (.t 3),none⟩,
 ⟨(some 69),.load none (.t 68),none⟩] [68])
 (.cond (.t 69)
 (.region [⟨(some 70),.mv (.t 5),none⟩,
 ⟨(some 71),.fieldAddr 1 (.t 1),none⟩,
 ⟨(some 72),.load none (.t 71),none⟩,
 ⟨(some 73),.qcall 28 [(.t 72)],none⟩,
 ⟨(some 74),.bin .add (.k (.c (.d (.str [32])))) (.t 73),none⟩,
 ⟨(some 75),.bin .add (.t 70) (.t 74),none⟩,
 ⟨(some 5),.mv (.t 75),none⟩] [69,70,71,72,73,74,75])
 (.skip)))
 (.seq (.seq (.region [⟨(some 76),.fieldAddr 2 (.t 3),none⟩,
 ⟨(some 77),.load none (.t 76),none⟩] [69,76])
 (.cond (.t 77)
 (.region [⟨(some 78),.mv (.t 5),none⟩,
 ⟨(some 79),.fieldAddr 2 (.t 1),none⟩,
 ⟨(some 80),.load none (.t 79),none⟩,
 ⟨(some 81),.qcall 28 [(.t 80)],none⟩,
 ⟨(some 82),.bin .add (.k (.c (.d (.str [32])))) (.t 81),none⟩,
 ⟨(some 83),.bin .add (.t 78) (.t 82),none⟩,
 ⟨(some 5),.mv (.t 83),none⟩] [77,78,79,80,81,82,83])
 (.skip)))
 (.seq (.seq (.region [⟨(some 84),.fieldAddr 3 (.t 3),none⟩,
 ⟨(some 85),.load none (.t 84),none⟩] [3,77,84])
 (.cond (.t 85)
 (.region [⟨(some 86),.mv (.t 5),none⟩,
 ⟨(some 87),.fieldAddr 3 (.t 1),none⟩,
 ⟨(some 88),.load none (.t 87),none⟩,
 ⟨(some 89),.bin .add (.k (.c (.d (.str [32])))) (.t 88),none⟩,
 ⟨(some 90),.bin .add (.t 86) (.t 89),none⟩,
 ⟨(some 5),.mv (.t 90),none⟩] [1,85,86,87,88,89,90])
 (.skip)))
 (.seq (.region [⟨(some 91),.mv (.t 5),none⟩,
 ⟨(some 2),.mv (.t 91),none⟩] [1,5,85,91])
 (.ret))))))))
theorem ac11_ok : cFunc Tryz.prog [1000025,1000026,1000027,1000028] [(0,[0,2],[]),(1,[6,7,8,9,10,11],[]),(2,[4,12,13,14,15,16,17,18,19,20,21,22,23,24,25,26,27,28,29,30,31,32,33,34,35,36,37,38,39,40,41,42,43,44,45,46,47,48,49,50,51,52,53,54,55,56,57,58,59,60,61,62,63,64],[]),(3,[1,3,65],[]),(4,[2,65,66,67],[]),(5,[68],[]),(6,[69,70,71,72,73,74,75],[]),(7,[69,76],[]),(8,[77,78,79,80,81,82,83],[]),(9,[3,77,84],[]),(10,[1,85,86,87,88,89,90],[]),(11,[1,5,85,91],[])] Tryz.f11 = some (ac11,[.tmp 2],92) := by kernel_rfl
/-- the words of the operations -/
def opWord (op : Int) : List UInt8 :=
  if op = 1 then [103, 101, 116, 118, 97, 108] else if op = 2 then [103, 101, 116, 105, 110, 116] else if op = 3 then [103, 101, 116, 115, 116, 114] else if op = 4 then [117, 110, 105, 118, 97, 114]
  else if op = 5 then [117, 110, 105, 118, 97, 108] else if op = 6 then [117, 110, 105, 105, 110, 116] else if op = 7 then [115, 101, 116, 115, 116, 114] else if op = 8 then [112, 117, 116, 118, 97, 114]
  else if op = 9 then [112, 117, 116, 118, 97, 108] else if op = 10 then [112, 117, 116, 105, 110, 116] else if op = 11 then [99, 97, 108, 108] else if op = 12 then [98, 117, 105, 108, 116]
  else if op = 13 then [99, 117, 116] else if op = 14 then [101, 110, 100] else []
/-- an operation, and whether it has A, B, and a name -/
def opOk (op : Int) : Bool := decide (1 ≤ op) && decide (op ≤ 14)
def opIA (op : Int) : Bool := decide (1 ≤ op) && decide (op ≤ 12)
def opB (op : Int) : Bool := op == 1 || op == 2 || op == 3 || op == 7 || op == 8 || op == 9 || op == 10
def opN (op : Int) : Bool := op == 3 || op == 7 || op == 11 || op == 12
theorem op_cases (op : Int) : op = 1 ∨ op = 2 ∨ op = 3 ∨ op = 4 ∨ op = 5 ∨ op = 6 ∨ op = 7 ∨ op = 8 ∨ op = 9 ∨ op = 10 ∨ op = 11 ∨ op = 12 ∨ op = 13 ∨ op = 14 ∨ (op < 1 ∨ 14 < op) := by omega
set_option maxHeartbeats 3200000 in
theorem formOf_calls (op : Int) (H : Heap) : ACalls Tryz.prog 25 [.c (.d (.int .i64 op))] H (fun r H' => H' = H ∧ r = .tup [.agg [.d (.str (opWord op)), .d (.bool (opIA op)), .d (.bool (opB op)), .d (.bool (opN op))], .c (.d (.bool (opOk op)))]) := by
  refine acalls Tryz.func25 (by kernel_rfl) ac25_ok fun hf => ?_
  rcases op_cases op with rfl | rfl | rfl | rfl | rfl | rfl | rfl | rfl | rfl | rfl | rfl | rfl | rfl | rfl | h
  all_goals try (simp -implicitDefEqProofs [ac25, opWord, opIA, opB, opN, opOk, hf, go_sem, -List.set_cons_succ, -List.set_cons_zero]; done)
  have h1 : op ≠ 1 ∧ op ≠ 2 ∧ op ≠ 3 ∧ op ≠ 4 ∧ op ≠ 5 ∧ op ≠ 6 ∧ op ≠ 7 ∧ op ≠ 8 ∧ op ≠ 9 ∧ op ≠ 10 ∧ op ≠ 11 ∧ op ≠ 12 ∧ op ≠ 13 ∧ op ≠ 14 := by omega
  have h2 : opOk op = false := by simp [opOk]; omega
  have h3 : opIA op = false := by simp [opIA]; omega
  simp -implicitDefEqProofs [ac25, opWord, opB, opN, h1, h2, h3, hf, go_sem, -List.set_cons_succ, -List.set_cons_zero]
/-- the shape of an operation, as the reference names it -/
def opShape (op : Int) : List UInt8 :=
  if opOk op then (if opIA op then [97] else []) ++ (if opB op then [98] else []) ++ (if opN op then [110] else []) else [63]
set_option maxHeartbeats 3200000 in
theorem shapeOf_calls (op : Int) (H : Heap) : ACalls Tryz.prog 30 [.c (.d (.int .i64 op))] H (fun r H' => H' = H ∧ r = .c (.d (.str (opShape op)))) := by
  refine acalls Tryz.func30 (by kernel_rfl) ac30_ok fun hf => ?_
  rcases op_cases op with rfl | rfl | rfl | rfl | rfl | rfl | rfl | rfl | rfl | rfl | rfl | rfl | rfl | rfl | h
  all_goals try (simp -implicitDefEqProofs [ac30, opShape, opIA, opB, opN, opOk, go_sem, -List.set_cons_succ, -List.set_cons_zero]; done)
  have h1 : op ≠ 1 ∧ op ≠ 2 ∧ op ≠ 3 ∧ op ≠ 4 ∧ op ≠ 5 ∧ op ≠ 6 ∧ op ≠ 7 ∧ op ≠ 8 ∧ op ≠ 9 ∧ op ≠ 10 ∧ op ≠ 11 ∧ op ≠ 12 ∧ op ≠ 13 ∧ op ≠ 14 := by omega
  have h2 : opOk op = false := by simp [opOk]; omega
  simp -implicitDefEqProofs [ac30, opShape, h1, h2, go_sem, -List.set_cons_succ, -List.set_cons_zero]
/-- whether an instruction is within the limits -/
def Ins.okB (x : Ins) : Bool :=
  opOk x.op && (decide (-999 ≤ x.a) && decide (x.a ≤ 999)) && (decide (0 ≤ x.b) && decide (x.b ≤ 999)) && (opIA x.op || x.a == 0) && (opB x.op || x.b == 0) && (if opN x.op then nameB x.text else x.text == [])
/-- the text of an instruction -/
def Ins.fmt (x : Ins) : List UInt8 :=
  if x.okB then opWord x.op ++ (if opIA x.op then 32 :: Lib.itoa x.a else []) ++ (if opB x.op then 32 :: Lib.itoa x.b else []) ++ (if opN x.op then 32 :: x.text else []) else []
def namesL : List (List D) := (List.range 15).map fun i : Nat => [.str (opWord (i : Int))]
theorem namesL_len : namesL.length = 15 := rfl
theorem names_at {op : Int} (h1 : 0 ≤ op) (h2 : op ≤ 14) : namesL[op.toNat]? = some [.str (opWord op)] := by
  unfold namesL
  rw [List.getElem?_map, List.getElem?_range (by omega)]
  simp [Int.toNat_of_nonneg h1]
set_option maxHeartbeats 3200000 in
theorem names_calls (H : Heap) : ACalls Tryz.prog 32 [] H (fun r H' => H' = H ∧ r = .c (.d (.sl namesL))) := by
  refine acalls Tryz.func32 (by kernel_rfl) ac32_ok fun hf => ?_
  simp -implicitDefEqProofs [ac32, namesL, List.range, List.range.loop, opWord, go_sem, -List.set_cons_succ, -List.set_cons_zero]
theorem op_bits (op : Int) : (opOk op = false ∧ opIA op = false ∧ opB op = false ∧ opN op = false) ∨ (opOk op = true ∧ opIA op = true ∧ opB op = true ∧ opN op = false) ∨ (opOk op = true ∧ opIA op = true ∧ opB op = true ∧ opN op = true) ∨
    (opOk op = true ∧ opIA op = true ∧ opB op = false ∧ opN op = false) ∨ (opOk op = true ∧ opIA op = true ∧ opB op = false ∧ opN op = true) ∨ (opOk op = true ∧ opIA op = false ∧ opB op = false ∧ opN op = false) := by
  rcases op_cases op with rfl | rfl | rfl | rfl | rfl | rfl | rfl | rfl | rfl | rfl | rfl | rfl | rfl | rfl | h
  all_goals try (simp [opOk, opIA, opB, opN]; done)
  refine .inl ⟨by simp [opOk]; omega, by simp [opIA]; omega, ?_, ?_⟩
  · have : op ≠ 1 ∧ op ≠ 2 ∧ op ≠ 3 ∧ op ≠ 7 ∧ op ≠ 8 ∧ op ≠ 9 ∧ op ≠ 10 := by omega
    simp [opB, this]
  · have : op ≠ 3 ∧ op ≠ 7 ∧ op ≠ 11 ∧ op ≠ 12 := by omega
    simp [opN, this]
theorem opWord_len (op : Int) : (opWord op).length ≤ 6 := by
  rcases op_cases op with rfl | rfl | rfl | rfl | rfl | rfl | rfl | rfl | rfl | rfl | rfl | rfl | rfl | rfl | h
  all_goals try (simp [opWord]; done)
  have h1 : op ≠ 1 ∧ op ≠ 2 ∧ op ≠ 3 ∧ op ≠ 4 ∧ op ≠ 5 ∧ op ≠ 6 ∧ op ≠ 7 ∧ op ≠ 8 ∧ op ≠ 9 ∧ op ≠ 10 ∧ op ≠ 11 ∧ op ≠ 12 ∧ op ≠ 13 ∧ op ≠ 14 := by omega
  simp [opWord, h1]
/-- the program's text of an instruction -/
def FmtI (g : Nat) (o : Obj) (x : Ins) : Prop := ∀ H : Heap, H[0]? = some (.tab g o) → ACalls Tryz.prog 11 [.agg (x.row.map .d)] H (fun r H' => H' = H ∧ r = .c (.d (.str x.fmt)))
theorem fmt_lens {a b : Int} (h2 : inR .i64 a) (h3 : inR .i64 b) : (Lib.itoa a).length ≤ 1000000 ∧ (Lib.itoa b).length ≤ 1000000 :=
  ⟨itoa_len a (i64_def.1 h2).1 (i64_def.1 h2).2, itoa_len b (i64_def.1 h3).1 (i64_def.1 h3).2⟩
set_option maxHeartbeats 3200000 in
theorem fmtImpl_0 {g : Nat} {o : Obj} (hT : Tab g o) (op a b : Int) (s : List UInt8) (h1 : inR .i64 op) (h2 : inR .i64 a) (h3 : inR .i64 b) (hs : s.length ≤ 1048576) (e1 : opOk op = false) (e2 : opIA op = false) (e3 : opB op = false) (e4 : opN op = false) : FmtI g o ⟨op, a, b, s⟩ := by
  intro H hH
  refine acalls Tryz.func11 (by kernel_rfl) ac11_ok fun hf => ?_
  simp -implicitDefEqProofs [ac11, Ins.row, go_sem, -List.set_cons_succ, -List.set_cons_zero]
  refine qcall_pure (formOf_calls op) hf rfl ?_
  have hw := opWord_len op
  obtain ⟨la, lb⟩ := fmt_lens h2 h3
  simp -implicitDefEqProofs [e1, e2, e3, e4, hf, Ins.fmt, Ins.okB, go_sem, -List.set_cons_succ, -List.set_cons_zero]
set_option maxHeartbeats 3200000 in
theorem fmtImpl_1 {g : Nat} {o : Obj} (hT : Tab g o) (op a b : Int) (s : List UInt8) (h1 : inR .i64 op) (h2 : inR .i64 a) (h3 : inR .i64 b) (hs : s.length ≤ 1048576) (e1 : opOk op = true) (e2 : opIA op = true) (e3 : opB op = true) (e4 : opN op = false) : FmtI g o ⟨op, a, b, s⟩ := by
  intro H hH
  refine acalls Tryz.func11 (by kernel_rfl) ac11_ok fun hf => ?_
  simp -implicitDefEqProofs [ac11, Ins.row, go_sem, -List.set_cons_succ, -List.set_cons_zero]
  refine qcall_pure (formOf_calls op) hf rfl ?_
  have hw := opWord_len op
  obtain ⟨la, lb⟩ := fmt_lens h2 h3
  simp -implicitDefEqProofs [e1, e2, e3, e4, go_sem, -List.set_cons_succ, -List.set_cons_zero]
  refine ⟨hf, qcall_pure (within_calls _ _ _) hf rfl ?_⟩
  cases hA : (decide (-999 ≤ a) && decide (a ≤ 999)) with
  | false => simp -implicitDefEqProofs [e1, hA, Ins.fmt, Ins.okB, go_sem, -List.set_cons_succ, -List.set_cons_zero]
  | true =>
    simp -implicitDefEqProofs [hA, go_sem, -List.set_cons_succ, -List.set_cons_zero]
    refine qcall_pure (within_calls _ _ _) hf rfl ?_
    cases hB : (decide (0 ≤ b) && decide (b ≤ 999)) with
    | false => simp -implicitDefEqProofs [e1, hA, hB, Ins.fmt, Ins.okB, go_sem, -List.set_cons_succ, -List.set_cons_zero]
    | true =>
      obtain ⟨a1, a2⟩ : -999 ≤ a ∧ a ≤ 999 := by simpa using hA
      obtain ⟨b1, b2⟩ : 0 ≤ b ∧ b ≤ 999 := by simpa using hB
      simp -implicitDefEqProofs [hB, go_sem, -List.set_cons_succ, -List.set_cons_zero]
      refine ⟨fun h0 => by first | (simp [e1, e2, e3, e4, a1, a2, b1, b2, Ins.fmt, Ins.okB, h0]; done) | (simp [e1, e2, e3, e4, a1, a2, b1, b2, Ins.fmt, Ins.okB]; intros; simp_all), ?_⟩
      intro hc; subst hc
      refine qcall_tab (itoa_call hT a h2) hf hH rfl ?_
      simp -implicitDefEqProofs [maxStr, go_sem, -List.set_cons_succ, -List.set_cons_zero]
      refine ⟨by omega, by omega, qcall_tab (itoa_call hT b h3) hf hH rfl ?_⟩
      simp -implicitDefEqProofs [e1, e2, e3, e4, a1, a2, b1, b2, Ins.fmt, Ins.okB, maxStr, go_sem, -List.set_cons_succ, -List.set_cons_zero]
      omega
set_option maxHeartbeats 3200000 in
theorem fmtImpl_2 {g : Nat} {o : Obj} (hT : Tab g o) (op a b : Int) (s : List UInt8) (h1 : inR .i64 op) (h2 : inR .i64 a) (h3 : inR .i64 b) (hs : s.length ≤ 1048576) (e1 : opOk op = true) (e2 : opIA op = true) (e3 : opB op = true) (e4 : opN op = true) : FmtI g o ⟨op, a, b, s⟩ := by
  intro H hH
  refine acalls Tryz.func11 (by kernel_rfl) ac11_ok fun hf => ?_
  simp -implicitDefEqProofs [ac11, Ins.row, go_sem, -List.set_cons_succ, -List.set_cons_zero]
  refine qcall_pure (formOf_calls op) hf rfl ?_
  have hw := opWord_len op
  obtain ⟨la, lb⟩ := fmt_lens h2 h3
  simp -implicitDefEqProofs [e1, e2, e3, e4, go_sem, -List.set_cons_succ, -List.set_cons_zero]
  refine ⟨hf, qcall_pure (within_calls _ _ _) hf rfl ?_⟩
  cases hA : (decide (-999 ≤ a) && decide (a ≤ 999)) with
  | false => simp -implicitDefEqProofs [e1, hA, Ins.fmt, Ins.okB, go_sem, -List.set_cons_succ, -List.set_cons_zero]
  | true =>
    simp -implicitDefEqProofs [hA, go_sem, -List.set_cons_succ, -List.set_cons_zero]
    refine qcall_pure (within_calls _ _ _) hf rfl ?_
    cases hB : (decide (0 ≤ b) && decide (b ≤ 999)) with
    | false => simp -implicitDefEqProofs [e1, hA, hB, Ins.fmt, Ins.okB, go_sem, -List.set_cons_succ, -List.set_cons_zero]
    | true =>
      obtain ⟨a1, a2⟩ : -999 ≤ a ∧ a ≤ 999 := by simpa using hA
      obtain ⟨b1, b2⟩ : 0 ≤ b ∧ b ≤ 999 := by simpa using hB
      simp -implicitDefEqProofs [hB, go_sem, -List.set_cons_succ, -List.set_cons_zero]
      refine qcall_pure (nvImpl_calls s (by omega)) hf rfl ?_
      cases hn : nameB s with
      | false => simp -implicitDefEqProofs [hn, e1, e2, e3, e4, a1, a2, b1, b2, Ins.fmt, Ins.okB, go_sem, -List.set_cons_succ, -List.set_cons_zero]
      | true =>
        simp -implicitDefEqProofs [hn, go_sem, -List.set_cons_succ, -List.set_cons_zero]
        refine qcall_tab (itoa_call hT a h2) hf hH rfl ?_
        simp -implicitDefEqProofs [maxStr, go_sem, -List.set_cons_succ, -List.set_cons_zero]
        refine ⟨by omega, by omega, qcall_tab (itoa_call hT b h3) hf hH rfl ?_⟩
        simp -implicitDefEqProofs [hn, e1, e2, e3, e4, a1, a2, b1, b2, Ins.fmt, Ins.okB, maxStr, go_sem, -List.set_cons_succ, -List.set_cons_zero]
        omega
set_option maxHeartbeats 3200000 in
theorem fmtImpl_3 {g : Nat} {o : Obj} (hT : Tab g o) (op a b : Int) (s : List UInt8) (h1 : inR .i64 op) (h2 : inR .i64 a) (h3 : inR .i64 b) (hs : s.length ≤ 1048576) (e1 : opOk op = true) (e2 : opIA op = true) (e3 : opB op = false) (e4 : opN op = false) : FmtI g o ⟨op, a, b, s⟩ := by
  intro H hH
  refine acalls Tryz.func11 (by kernel_rfl) ac11_ok fun hf => ?_
  simp -implicitDefEqProofs [ac11, Ins.row, go_sem, -List.set_cons_succ, -List.set_cons_zero]
  refine qcall_pure (formOf_calls op) hf rfl ?_
  have hw := opWord_len op
  obtain ⟨la, lb⟩ := fmt_lens h2 h3
  simp -implicitDefEqProofs [e1, e2, e3, e4, go_sem, -List.set_cons_succ, -List.set_cons_zero]
  refine ⟨hf, qcall_pure (within_calls _ _ _) hf rfl ?_⟩
  cases hA : (decide (-999 ≤ a) && decide (a ≤ 999)) with
  | false => simp -implicitDefEqProofs [e1, hA, Ins.fmt, Ins.okB, go_sem, -List.set_cons_succ, -List.set_cons_zero]
  | true =>
    simp -implicitDefEqProofs [hA, go_sem, -List.set_cons_succ, -List.set_cons_zero]
    refine qcall_pure (within_calls _ _ _) hf rfl ?_
    cases hB : (decide (0 ≤ b) && decide (b ≤ 999)) with
    | false => simp -implicitDefEqProofs [e1, hA, hB, Ins.fmt, Ins.okB, go_sem, -List.set_cons_succ, -List.set_cons_zero]
    | true =>
      obtain ⟨a1, a2⟩ : -999 ≤ a ∧ a ≤ 999 := by simpa using hA
      obtain ⟨b1, b2⟩ : 0 ≤ b ∧ b ≤ 999 := by simpa using hB
      simp -implicitDefEqProofs [hB, go_sem, -List.set_cons_succ, -List.set_cons_zero]
      refine ⟨fun h0 => by first | (simp [e1, e2, e3, e4, a1, a2, b1, b2, Ins.fmt, Ins.okB, h0]; done) | (simp [e1, e2, e3, e4, a1, a2, b1, b2, Ins.fmt, Ins.okB]; intros; simp_all), ?_⟩
      intro hc; subst hc
      intro hc; subst hc
      refine qcall_tab (itoa_call hT a h2) hf hH rfl ?_
      simp -implicitDefEqProofs [maxStr, go_sem, -List.set_cons_succ, -List.set_cons_zero]
      simp -implicitDefEqProofs [e1, e2, e3, e4, a1, a2, b1, b2, Ins.fmt, Ins.okB, go_sem, -List.set_cons_succ, -List.set_cons_zero]
      omega
set_option maxHeartbeats 3200000 in
theorem fmtImpl_4 {g : Nat} {o : Obj} (hT : Tab g o) (op a b : Int) (s : List UInt8) (h1 : inR .i64 op) (h2 : inR .i64 a) (h3 : inR .i64 b) (hs : s.length ≤ 1048576) (e1 : opOk op = true) (e2 : opIA op = true) (e3 : opB op = false) (e4 : opN op = true) : FmtI g o ⟨op, a, b, s⟩ := by
  intro H hH
  refine acalls Tryz.func11 (by kernel_rfl) ac11_ok fun hf => ?_
  simp -implicitDefEqProofs [ac11, Ins.row, go_sem, -List.set_cons_succ, -List.set_cons_zero]
  refine qcall_pure (formOf_calls op) hf rfl ?_
  have hw := opWord_len op
  obtain ⟨la, lb⟩ := fmt_lens h2 h3
  simp -implicitDefEqProofs [e1, e2, e3, e4, go_sem, -List.set_cons_succ, -List.set_cons_zero]
  refine ⟨hf, qcall_pure (within_calls _ _ _) hf rfl ?_⟩
  cases hA : (decide (-999 ≤ a) && decide (a ≤ 999)) with
  | false => simp -implicitDefEqProofs [e1, hA, Ins.fmt, Ins.okB, go_sem, -List.set_cons_succ, -List.set_cons_zero]
  | true =>
    simp -implicitDefEqProofs [hA, go_sem, -List.set_cons_succ, -List.set_cons_zero]
    refine qcall_pure (within_calls _ _ _) hf rfl ?_
    cases hB : (decide (0 ≤ b) && decide (b ≤ 999)) with
    | false => simp -implicitDefEqProofs [e1, hA, hB, Ins.fmt, Ins.okB, go_sem, -List.set_cons_succ, -List.set_cons_zero]
    | true =>
      obtain ⟨a1, a2⟩ : -999 ≤ a ∧ a ≤ 999 := by simpa using hA
      obtain ⟨b1, b2⟩ : 0 ≤ b ∧ b ≤ 999 := by simpa using hB
      by_cases hb0 : b = 0
      case neg =>
        have hb1 : (b != 0) = true := by simpa using hb0
        simp -implicitDefEqProofs [hb0, hb1, e1, e2, e3, e4, a1, a2, b1, b2, Ins.fmt, Ins.okB, go_sem, -List.set_cons_succ, -List.set_cons_zero]
      subst hb0
      simp -implicitDefEqProofs [hB, go_sem, -List.set_cons_succ, -List.set_cons_zero]
      refine qcall_pure (nvImpl_calls s (by omega)) hf rfl ?_
      cases hn : nameB s with
      | false => simp -implicitDefEqProofs [hn, e1, e2, e3, e4, a1, a2, b1, b2, Ins.fmt, Ins.okB, go_sem, -List.set_cons_succ, -List.set_cons_zero]
      | true =>
        simp -implicitDefEqProofs [hn, go_sem, -List.set_cons_succ, -List.set_cons_zero]
        refine qcall_tab (itoa_call hT a h2) hf hH rfl ?_
        simp -implicitDefEqProofs [maxStr, go_sem, -List.set_cons_succ, -List.set_cons_zero]
        simp -implicitDefEqProofs [hn, e1, e2, e3, e4, a1, a2, b1, b2, Ins.fmt, Ins.okB, go_sem, -List.set_cons_succ, -List.set_cons_zero]
        omega
set_option maxHeartbeats 3200000 in
theorem fmtImpl_5 {g : Nat} {o : Obj} (hT : Tab g o) (op a b : Int) (s : List UInt8) (h1 : inR .i64 op) (h2 : inR .i64 a) (h3 : inR .i64 b) (hs : s.length ≤ 1048576) (e1 : opOk op = true) (e2 : opIA op = false) (e3 : opB op = false) (e4 : opN op = false) : FmtI g o ⟨op, a, b, s⟩ := by
  intro H hH
  refine acalls Tryz.func11 (by kernel_rfl) ac11_ok fun hf => ?_
  simp -implicitDefEqProofs [ac11, Ins.row, go_sem, -List.set_cons_succ, -List.set_cons_zero]
  refine qcall_pure (formOf_calls op) hf rfl ?_
  have hw := opWord_len op
  obtain ⟨la, lb⟩ := fmt_lens h2 h3
  simp -implicitDefEqProofs [e1, e2, e3, e4, go_sem, -List.set_cons_succ, -List.set_cons_zero]
  refine ⟨hf, qcall_pure (within_calls _ _ _) hf rfl ?_⟩
  cases hA : (decide (-999 ≤ a) && decide (a ≤ 999)) with
  | false => simp -implicitDefEqProofs [e1, hA, Ins.fmt, Ins.okB, go_sem, -List.set_cons_succ, -List.set_cons_zero]
  | true =>
    simp -implicitDefEqProofs [hA, go_sem, -List.set_cons_succ, -List.set_cons_zero]
    refine qcall_pure (within_calls _ _ _) hf rfl ?_
    cases hB : (decide (0 ≤ b) && decide (b ≤ 999)) with
    | false => simp -implicitDefEqProofs [e1, hA, hB, Ins.fmt, Ins.okB, go_sem, -List.set_cons_succ, -List.set_cons_zero]
    | true =>
      obtain ⟨a1, a2⟩ : -999 ≤ a ∧ a ≤ 999 := by simpa using hA
      obtain ⟨b1, b2⟩ : 0 ≤ b ∧ b ≤ 999 := by simpa using hB
      simp -implicitDefEqProofs [hB, go_sem, -List.set_cons_succ, -List.set_cons_zero]
      refine ⟨fun h0 => by first | (simp [e1, e2, e3, e4, a1, a2, b1, b2, Ins.fmt, Ins.okB, h0]; done) | (simp [e1, e2, e3, e4, a1, a2, b1, b2, Ins.fmt, Ins.okB]; intros; simp_all), ?_⟩
      intro hc; subst hc
      intro hc; subst hc
      intro hc; subst hc
      simp [e1, e2, e3, e4, a1, a2, b1, b2, Ins.fmt, Ins.okB]
set_option maxHeartbeats 3200000 in
theorem fmtImpl_calls {g : Nat} {o : Obj} (hT : Tab g o) (x : Ins) (hx : x.ok) (hs : x.text.length ≤ 1048576) : FmtI g o x := by
  obtain ⟨op, a, b, s⟩ := x
  obtain ⟨h1, h2, h3, h4⟩ := hx
  rcases op_bits op with ⟨e1, e2, e3, e4⟩ | ⟨e1, e2, e3, e4⟩ | ⟨e1, e2, e3, e4⟩ | ⟨e1, e2, e3, e4⟩ | ⟨e1, e2, e3, e4⟩ | ⟨e1, e2, e3, e4⟩
  · exact fmtImpl_0 hT op a b s h1 h2 h3 hs e1 e2 e3 e4
  · exact fmtImpl_1 hT op a b s h1 h2 h3 hs e1 e2 e3 e4
  · exact fmtImpl_2 hT op a b s h1 h2 h3 hs e1 e2 e3 e4
  · exact fmtImpl_3 hT op a b s h1 h2 h3 hs e1 e2 e3 e4
  · exact fmtImpl_4 hT op a b s h1 h2 h3 hs e1 e2 e3 e4
  · exact fmtImpl_5 hT op a b s h1 h2 h3 hs e1 e2 e3 e4
end Go.Proofs.YtnljciooabmogaaGreatDoor

/-
  Texts of instructions: the reference.
  Conditions: none.
-/
open Go Go.AM Go.Proofs
namespace Go.Proofs.YtnljciooabmogaaGreatDoor
open Go.ChangeShapes Go.WideShapes Go.ChangeAt Go.RowKit
set_option linter.unusedVariables false
set_option linter.unusedSimpArgs false
set_option maxRecDepth 100000
theorem okB_out {op a b : Int} {s : List UInt8} (h : ((a < -999 ∨ 999 < a) ∨ b < 0) ∨ 999 < b) : (⟨op, a, b, s⟩ : Ins).okB = false := by
  cases h1 : (⟨op, a, b, s⟩ : Ins).okB with
  | false => rfl
  | true =>
    simp [Ins.okB] at h1
    omega
theorem okB_in {op a b : Int} {s : List UInt8} (h : (⟨op, a, b, s⟩ : Ins).okB = true) : -999 ≤ a ∧ a ≤ 999 ∧ 0 ≤ b ∧ b ≤ 999 := by
  simp [Ins.okB] at h
  omega
theorem emp_eq (s : List UInt8) : (s == []) = s.isEmpty := by cases s <;> rfl
set_option maxHeartbeats 3200000 in
theorem l8Instr_0 (op a b : Int) (s : List UInt8) (hs : s.length ≤ 1048576) (e1 : opOk op = false) (e2 : opIA op = false) (e3 : opB op = false) (e4 : opN op = false) (H : Heap) : ACalls Tryz.prog 14 [.agg ((⟨op, a, b, s⟩ : Ins).row.map .d)] H (fun r H' => H' = H ∧ r = .c (.d (.bool (⟨op, a, b, s⟩ : Ins).okB))) := by
  refine acalls Tryz.func14 (by kernel_rfl) ac14_ok fun hf => ?_
  simp -implicitDefEqProofs [ac14, Ins.row, go_sem, -List.set_cons_succ, -List.set_cons_zero]
  refine qcall_pure (shapeOf_calls op) hf rfl ?_
  simp -implicitDefEqProofs [opShape, e1, e2, e3, e4, Ins.okB, go_sem, -List.set_cons_succ, -List.set_cons_zero]
set_option maxHeartbeats 3200000 in
theorem l8Instr_1 (op a b : Int) (s : List UInt8) (hs : s.length ≤ 1048576) (e1 : opOk op = true) (e2 : opIA op = true) (e3 : opB op = true) (e4 : opN op = false) (H : Heap) : ACalls Tryz.prog 14 [.agg ((⟨op, a, b, s⟩ : Ins).row.map .d)] H (fun r H' => H' = H ∧ r = .c (.d (.bool (⟨op, a, b, s⟩ : Ins).okB))) := by
  refine acalls Tryz.func14 (by kernel_rfl) ac14_ok fun hf => ?_
  simp -implicitDefEqProofs [ac14, Ins.row, go_sem, -List.set_cons_succ, -List.set_cons_zero]
  refine qcall_pure (shapeOf_calls op) hf rfl ?_
  simp -implicitDefEqProofs [opShape, e1, e2, e3, e4, go_sem, -List.set_cons_succ, -List.set_cons_zero]
  refine ⟨okB_out, fun a1 a2 b1 b2 => ?_⟩
  simp [a1, a2, b1, b2, e1, e2, e3, e4, Ins.okB, emp_eq, Bool.and_assoc]
set_option maxHeartbeats 3200000 in
theorem l8Instr_2 (op a b : Int) (s : List UInt8) (hs : s.length ≤ 1048576) (e1 : opOk op = true) (e2 : opIA op = true) (e3 : opB op = true) (e4 : opN op = true) (H : Heap) : ACalls Tryz.prog 14 [.agg ((⟨op, a, b, s⟩ : Ins).row.map .d)] H (fun r H' => H' = H ∧ r = .c (.d (.bool (⟨op, a, b, s⟩ : Ins).okB))) := by
  refine acalls Tryz.func14 (by kernel_rfl) ac14_ok fun hf => ?_
  simp -implicitDefEqProofs [ac14, Ins.row, go_sem, -List.set_cons_succ, -List.set_cons_zero]
  refine qcall_pure (shapeOf_calls op) hf rfl ?_
  simp -implicitDefEqProofs [opShape, e1, e2, e3, e4, go_sem, -List.set_cons_succ, -List.set_cons_zero]
  refine ⟨okB_out, fun a1 a2 b1 b2 => ?_⟩
  refine qcall_pure (nvSpec_calls s (by omega)) hf rfl ?_
  simp -implicitDefEqProofs [e3, go_sem, -List.set_cons_succ, -List.set_cons_zero]
  simp [a1, a2, b1, b2, e1, e2, e3, e4, Ins.okB]
set_option maxHeartbeats 3200000 in
theorem l8Instr_3 (op a b : Int) (s : List UInt8) (hs : s.length ≤ 1048576) (e1 : opOk op = true) (e2 : opIA op = true) (e3 : opB op = false) (e4 : opN op = false) (H : Heap) : ACalls Tryz.prog 14 [.agg ((⟨op, a, b, s⟩ : Ins).row.map .d)] H (fun r H' => H' = H ∧ r = .c (.d (.bool (⟨op, a, b, s⟩ : Ins).okB))) := by
  refine acalls Tryz.func14 (by kernel_rfl) ac14_ok fun hf => ?_
  simp -implicitDefEqProofs [ac14, Ins.row, go_sem, -List.set_cons_succ, -List.set_cons_zero]
  refine qcall_pure (shapeOf_calls op) hf rfl ?_
  simp -implicitDefEqProofs [opShape, e1, e2, e3, e4, go_sem, -List.set_cons_succ, -List.set_cons_zero]
  refine ⟨okB_out, fun a1 a2 b1 b2 => ?_⟩
  simp [a1, a2, b1, b2, e1, e2, e3, e4, Ins.okB, emp_eq, Bool.and_assoc]
set_option maxHeartbeats 3200000 in
theorem l8Instr_4 (op a b : Int) (s : List UInt8) (hs : s.length ≤ 1048576) (e1 : opOk op = true) (e2 : opIA op = true) (e3 : opB op = false) (e4 : opN op = true) (H : Heap) : ACalls Tryz.prog 14 [.agg ((⟨op, a, b, s⟩ : Ins).row.map .d)] H (fun r H' => H' = H ∧ r = .c (.d (.bool (⟨op, a, b, s⟩ : Ins).okB))) := by
  refine acalls Tryz.func14 (by kernel_rfl) ac14_ok fun hf => ?_
  simp -implicitDefEqProofs [ac14, Ins.row, go_sem, -List.set_cons_succ, -List.set_cons_zero]
  refine qcall_pure (shapeOf_calls op) hf rfl ?_
  by_cases hb0 : b = 0
  case neg =>
    have hb1 : (b == 0) = false := by simpa using hb0
    have hk : (⟨op, a, b, s⟩ : Ins).okB = false := by simp [Ins.okB, e3, hb1]
    simp -implicitDefEqProofs [opShape, e1, e2, e3, e4, hb0, hb1, hk, go_sem, -List.set_cons_succ, -List.set_cons_zero]
  subst hb0
  simp -implicitDefEqProofs [opShape, e1, e2, e3, e4, go_sem, -List.set_cons_succ, -List.set_cons_zero]
  refine ⟨fun h => okB_out (by omega), fun a1 a2 => ?_⟩
  refine qcall_pure (nvSpec_calls s (by omega)) hf rfl ?_
  simp -implicitDefEqProofs [e3, go_sem, -List.set_cons_succ, -List.set_cons_zero]
  simp [a1, a2, e1, e2, e3, e4, Ins.okB]
set_option maxHeartbeats 3200000 in
theorem l8Instr_5 (op a b : Int) (s : List UInt8) (hs : s.length ≤ 1048576) (e1 : opOk op = true) (e2 : opIA op = false) (e3 : opB op = false) (e4 : opN op = false) (H : Heap) : ACalls Tryz.prog 14 [.agg ((⟨op, a, b, s⟩ : Ins).row.map .d)] H (fun r H' => H' = H ∧ r = .c (.d (.bool (⟨op, a, b, s⟩ : Ins).okB))) := by
  refine acalls Tryz.func14 (by kernel_rfl) ac14_ok fun hf => ?_
  simp -implicitDefEqProofs [ac14, Ins.row, go_sem, -List.set_cons_succ, -List.set_cons_zero]
  refine qcall_pure (shapeOf_calls op) hf rfl ?_
  simp -implicitDefEqProofs [opShape, e1, e2, e3, e4, go_sem, -List.set_cons_succ, -List.set_cons_zero]
  refine ⟨okB_out, fun a1 a2 b1 b2 => ?_⟩
  simp [a1, a2, b1, b2, e1, e2, e3, e4, Ins.okB, emp_eq, Bool.and_assoc]
set_option maxHeartbeats 3200000 in
theorem fmtSpec_0 (op a b : Int) (s : List UInt8) (h1 : inR .i64 op) (h2 : inR .i64 a) (h3 : inR .i64 b) (hs : s.length ≤ 1048576) (e1 : opOk op = false) (e2 : opIA op = false) (e3 : opB op = false) (e4 : opN op = false) (H : Heap) : ACalls Tryz.prog 15 [.agg ((⟨op, a, b, s⟩ : Ins).row.map .d)] H (fun r H' => H' = H ∧ r = .c (.d (.str (⟨op, a, b, s⟩ : Ins).fmt))) := by
  have hi := l8Instr_0 op a b s hs e1 e2 e3 e4
  have hw := opWord_len op
  obtain ⟨la, lb⟩ := fmt_lens h2 h3
  refine acalls Tryz.func15 (by kernel_rfl) ac15_ok fun hf => ?_
  simp -implicitDefEqProofs [ac15, Ins.row, go_sem, -List.set_cons_succ, -List.set_cons_zero]
  simp [Ins.row] at hi
  refine qcall_pure hi hf rfl ?_
  cases hk : (⟨op, a, b, s⟩ : Ins).okB with
  | false => simp -implicitDefEqProofs [hk, Ins.fmt, go_sem, -List.set_cons_succ, -List.set_cons_zero]
  | true =>
    obtain ⟨a1, a2, b1, b2⟩ := okB_in hk
    simp [Ins.okB, e1] at hk
set_option maxHeartbeats 3200000 in
theorem fmtSpec_1 (op a b : Int) (s : List UInt8) (h1 : inR .i64 op) (h2 : inR .i64 a) (h3 : inR .i64 b) (hs : s.length ≤ 1048576) (e1 : opOk op = true) (e2 : opIA op = true) (e3 : opB op = true) (e4 : opN op = false) (H : Heap) : ACalls Tryz.prog 15 [.agg ((⟨op, a, b, s⟩ : Ins).row.map .d)] H (fun r H' => H' = H ∧ r = .c (.d (.str (⟨op, a, b, s⟩ : Ins).fmt))) := by
  have hi := l8Instr_1 op a b s hs e1 e2 e3 e4
  have hw := opWord_len op
  obtain ⟨la, lb⟩ := fmt_lens h2 h3
  refine acalls Tryz.func15 (by kernel_rfl) ac15_ok fun hf => ?_
  simp -implicitDefEqProofs [ac15, Ins.row, go_sem, -List.set_cons_succ, -List.set_cons_zero]
  simp [Ins.row] at hi
  refine qcall_pure hi hf rfl ?_
  cases hk : (⟨op, a, b, s⟩ : Ins).okB with
  | false => simp -implicitDefEqProofs [hk, Ins.fmt, go_sem, -List.set_cons_succ, -List.set_cons_zero]
  | true =>
    obtain ⟨a1, a2, b1, b2⟩ := okB_in hk
    obtain ⟨o1, o2⟩ : 1 ≤ op ∧ op ≤ 14 := by simpa [opOk] using e1
    simp -implicitDefEqProofs [hk, go_sem, -List.set_cons_succ, -List.set_cons_zero]
    refine qcall_pure names_calls hf rfl ?_
    simp -implicitDefEqProofs [namesL_len, go_sem, -List.set_cons_succ, -List.set_cons_zero]
    refine row_int [.str (opWord op)] (by omega) ?_ rfl ?_
    · exact names_at (by omega) (by omega)
    simp -implicitDefEqProofs [go_sem, -List.set_cons_succ, -List.set_cons_zero]
    refine qcall_pure (shapeOf_calls op) hf rfl ?_
    simp -implicitDefEqProofs [opShape, e1, e2, e3, e4, maxStr, go_sem, -List.set_cons_succ, -List.set_cons_zero]
    refine ⟨by omega, qcall_pure (dec1_calls a (by omega) (by omega)) hf rfl ?_⟩
    simp -implicitDefEqProofs [maxStr, go_sem, -List.set_cons_succ, -List.set_cons_zero]
    refine ⟨by omega, by omega, qcall_pure (dec1_calls b (by omega) (by omega)) hf rfl ?_⟩
    simp -implicitDefEqProofs [hk, e1, e2, e3, e4, Ins.fmt, maxStr, go_sem, -List.set_cons_succ, -List.set_cons_zero]
    omega
set_option maxHeartbeats 3200000 in
theorem fmtSpec_2 (op a b : Int) (s : List UInt8) (h1 : inR .i64 op) (h2 : inR .i64 a) (h3 : inR .i64 b) (hs : s.length ≤ 1048576) (e1 : opOk op = true) (e2 : opIA op = true) (e3 : opB op = true) (e4 : opN op = true) (H : Heap) : ACalls Tryz.prog 15 [.agg ((⟨op, a, b, s⟩ : Ins).row.map .d)] H (fun r H' => H' = H ∧ r = .c (.d (.str (⟨op, a, b, s⟩ : Ins).fmt))) := by
  have hi := l8Instr_2 op a b s hs e1 e2 e3 e4
  have hw := opWord_len op
  obtain ⟨la, lb⟩ := fmt_lens h2 h3
  refine acalls Tryz.func15 (by kernel_rfl) ac15_ok fun hf => ?_
  simp -implicitDefEqProofs [ac15, Ins.row, go_sem, -List.set_cons_succ, -List.set_cons_zero]
  simp [Ins.row] at hi
  refine qcall_pure hi hf rfl ?_
  cases hk : (⟨op, a, b, s⟩ : Ins).okB with
  | false => simp -implicitDefEqProofs [hk, Ins.fmt, go_sem, -List.set_cons_succ, -List.set_cons_zero]
  | true =>
    obtain ⟨a1, a2, b1, b2⟩ := okB_in hk
    obtain ⟨o1, o2⟩ : 1 ≤ op ∧ op ≤ 14 := by simpa [opOk] using e1
    simp -implicitDefEqProofs [hk, go_sem, -List.set_cons_succ, -List.set_cons_zero]
    refine qcall_pure names_calls hf rfl ?_
    simp -implicitDefEqProofs [namesL_len, go_sem, -List.set_cons_succ, -List.set_cons_zero]
    refine row_int [.str (opWord op)] (by omega) ?_ rfl ?_
    · exact names_at (by omega) (by omega)
    simp -implicitDefEqProofs [go_sem, -List.set_cons_succ, -List.set_cons_zero]
    refine qcall_pure (shapeOf_calls op) hf rfl ?_
    simp -implicitDefEqProofs [opShape, e1, e2, e3, e4, maxStr, go_sem, -List.set_cons_succ, -List.set_cons_zero]
    refine ⟨by omega, qcall_pure (dec1_calls a (by omega) (by omega)) hf rfl ?_⟩
    simp -implicitDefEqProofs [maxStr, go_sem, -List.set_cons_succ, -List.set_cons_zero]
    refine ⟨by omega, by omega, qcall_pure (dec1_calls b (by omega) (by omega)) hf rfl ?_⟩
    simp -implicitDefEqProofs [hk, e1, e2, e3, e4, Ins.fmt, maxStr, go_sem, -List.set_cons_succ, -List.set_cons_zero]
    omega
set_option maxHeartbeats 3200000 in
theorem fmtSpec_3 (op a b : Int) (s : List UInt8) (h1 : inR .i64 op) (h2 : inR .i64 a) (h3 : inR .i64 b) (hs : s.length ≤ 1048576) (e1 : opOk op = true) (e2 : opIA op = true) (e3 : opB op = false) (e4 : opN op = false) (H : Heap) : ACalls Tryz.prog 15 [.agg ((⟨op, a, b, s⟩ : Ins).row.map .d)] H (fun r H' => H' = H ∧ r = .c (.d (.str (⟨op, a, b, s⟩ : Ins).fmt))) := by
  have hi := l8Instr_3 op a b s hs e1 e2 e3 e4
  have hw := opWord_len op
  obtain ⟨la, lb⟩ := fmt_lens h2 h3
  refine acalls Tryz.func15 (by kernel_rfl) ac15_ok fun hf => ?_
  simp -implicitDefEqProofs [ac15, Ins.row, go_sem, -List.set_cons_succ, -List.set_cons_zero]
  simp [Ins.row] at hi
  refine qcall_pure hi hf rfl ?_
  cases hk : (⟨op, a, b, s⟩ : Ins).okB with
  | false => simp -implicitDefEqProofs [hk, Ins.fmt, go_sem, -List.set_cons_succ, -List.set_cons_zero]
  | true =>
    obtain ⟨a1, a2, b1, b2⟩ := okB_in hk
    obtain ⟨o1, o2⟩ : 1 ≤ op ∧ op ≤ 14 := by simpa [opOk] using e1
    simp -implicitDefEqProofs [hk, go_sem, -List.set_cons_succ, -List.set_cons_zero]
    refine qcall_pure names_calls hf rfl ?_
    simp -implicitDefEqProofs [namesL_len, go_sem, -List.set_cons_succ, -List.set_cons_zero]
    refine row_int [.str (opWord op)] (by omega) ?_ rfl ?_
    · exact names_at (by omega) (by omega)
    simp -implicitDefEqProofs [go_sem, -List.set_cons_succ, -List.set_cons_zero]
    refine qcall_pure (shapeOf_calls op) hf rfl ?_
    simp -implicitDefEqProofs [opShape, e1, e2, e3, e4, maxStr, go_sem, -List.set_cons_succ, -List.set_cons_zero]
    refine ⟨by omega, qcall_pure (dec1_calls a (by omega) (by omega)) hf rfl ?_⟩
    simp -implicitDefEqProofs [hk, e1, e2, e3, e4, Ins.fmt, maxStr, go_sem, -List.set_cons_succ, -List.set_cons_zero]
    omega
set_option maxHeartbeats 3200000 in
theorem fmtSpec_4 (op a b : Int) (s : List UInt8) (h1 : inR .i64 op) (h2 : inR .i64 a) (h3 : inR .i64 b) (hs : s.length ≤ 1048576) (e1 : opOk op = true) (e2 : opIA op = true) (e3 : opB op = false) (e4 : opN op = true) (H : Heap) : ACalls Tryz.prog 15 [.agg ((⟨op, a, b, s⟩ : Ins).row.map .d)] H (fun r H' => H' = H ∧ r = .c (.d (.str (⟨op, a, b, s⟩ : Ins).fmt))) := by
  have hi := l8Instr_4 op a b s hs e1 e2 e3 e4
  have hw := opWord_len op
  obtain ⟨la, lb⟩ := fmt_lens h2 h3
  refine acalls Tryz.func15 (by kernel_rfl) ac15_ok fun hf => ?_
  simp -implicitDefEqProofs [ac15, Ins.row, go_sem, -List.set_cons_succ, -List.set_cons_zero]
  simp [Ins.row] at hi
  refine qcall_pure hi hf rfl ?_
  cases hk : (⟨op, a, b, s⟩ : Ins).okB with
  | false => simp -implicitDefEqProofs [hk, Ins.fmt, go_sem, -List.set_cons_succ, -List.set_cons_zero]
  | true =>
    obtain ⟨a1, a2, b1, b2⟩ := okB_in hk
    obtain ⟨o1, o2⟩ : 1 ≤ op ∧ op ≤ 14 := by simpa [opOk] using e1
    simp -implicitDefEqProofs [hk, go_sem, -List.set_cons_succ, -List.set_cons_zero]
    refine qcall_pure names_calls hf rfl ?_
    simp -implicitDefEqProofs [namesL_len, go_sem, -List.set_cons_succ, -List.set_cons_zero]
    refine row_int [.str (opWord op)] (by omega) ?_ rfl ?_
    · exact names_at (by omega) (by omega)
    simp -implicitDefEqProofs [go_sem, -List.set_cons_succ, -List.set_cons_zero]
    refine qcall_pure (shapeOf_calls op) hf rfl ?_
    simp -implicitDefEqProofs [opShape, e1, e2, e3, e4, maxStr, go_sem, -List.set_cons_succ, -List.set_cons_zero]
    refine ⟨by omega, qcall_pure (dec1_calls a (by omega) (by omega)) hf rfl ?_⟩
    simp -implicitDefEqProofs [hk, e1, e2, e3, e4, Ins.fmt, maxStr, go_sem, -List.set_cons_succ, -List.set_cons_zero]
    omega
set_option maxHeartbeats 3200000 in
theorem fmtSpec_5 (op a b : Int) (s : List UInt8) (h1 : inR .i64 op) (h2 : inR .i64 a) (h3 : inR .i64 b) (hs : s.length ≤ 1048576) (e1 : opOk op = true) (e2 : opIA op = false) (e3 : opB op = false) (e4 : opN op = false) (H : Heap) : ACalls Tryz.prog 15 [.agg ((⟨op, a, b, s⟩ : Ins).row.map .d)] H (fun r H' => H' = H ∧ r = .c (.d (.str (⟨op, a, b, s⟩ : Ins).fmt))) := by
  have hi := l8Instr_5 op a b s hs e1 e2 e3 e4
  have hw := opWord_len op
  obtain ⟨la, lb⟩ := fmt_lens h2 h3
  refine acalls Tryz.func15 (by kernel_rfl) ac15_ok fun hf => ?_
  simp -implicitDefEqProofs [ac15, Ins.row, go_sem, -List.set_cons_succ, -List.set_cons_zero]
  simp [Ins.row] at hi
  refine qcall_pure hi hf rfl ?_
  cases hk : (⟨op, a, b, s⟩ : Ins).okB with
  | false => simp -implicitDefEqProofs [hk, Ins.fmt, go_sem, -List.set_cons_succ, -List.set_cons_zero]
  | true =>
    obtain ⟨a1, a2, b1, b2⟩ := okB_in hk
    obtain ⟨o1, o2⟩ : 1 ≤ op ∧ op ≤ 14 := by simpa [opOk] using e1
    simp -implicitDefEqProofs [hk, go_sem, -List.set_cons_succ, -List.set_cons_zero]
    refine qcall_pure names_calls hf rfl ?_
    simp -implicitDefEqProofs [namesL_len, go_sem, -List.set_cons_succ, -List.set_cons_zero]
    refine row_int [.str (opWord op)] (by omega) ?_ rfl ?_
    · exact names_at (by omega) (by omega)
    simp -implicitDefEqProofs [go_sem, -List.set_cons_succ, -List.set_cons_zero]
    refine qcall_pure (shapeOf_calls op) hf rfl ?_
    simp -implicitDefEqProofs [opShape, e1, e2, e3, e4, maxStr, go_sem, -List.set_cons_succ, -List.set_cons_zero]
    simp [hk, e1, e2, e3, e4, Ins.fmt]
set_option maxHeartbeats 3200000 in
theorem fmtSpec_calls (x : Ins) (hx : x.ok) (hs : x.text.length ≤ 1048576) (H : Heap) : ACalls Tryz.prog 15 [.agg (x.row.map .d)] H (fun r H' => H' = H ∧ r = .c (.d (.str x.fmt))) := by
  obtain ⟨op, a, b, s⟩ := x
  obtain ⟨h1, h2, h3, h4⟩ := hx
  rcases op_bits op with ⟨e1, e2, e3, e4⟩ | ⟨e1, e2, e3, e4⟩ | ⟨e1, e2, e3, e4⟩ | ⟨e1, e2, e3, e4⟩ | ⟨e1, e2, e3, e4⟩ | ⟨e1, e2, e3, e4⟩
  · exact fmtSpec_0 op a b s h1 h2 h3 hs e1 e2 e3 e4 H
  · exact fmtSpec_1 op a b s h1 h2 h3 hs e1 e2 e3 e4 H
  · exact fmtSpec_2 op a b s h1 h2 h3 hs e1 e2 e3 e4 H
  · exact fmtSpec_3 op a b s h1 h2 h3 hs e1 e2 e3 e4 H
  · exact fmtSpec_4 op a b s h1 h2 h3 hs e1 e2 e3 e4 H
  · exact fmtSpec_5 op a b s h1 h2 h3 hs e1 e2 e3 e4 H
end Go.Proofs.YtnljciooabmogaaGreatDoor
