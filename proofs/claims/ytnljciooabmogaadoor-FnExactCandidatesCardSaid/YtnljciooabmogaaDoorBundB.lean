/-
  Contracts of functions that the law reaches, and plain lemmas: several texts in one.
  Conditions: none.
-/
import Derived.Test.YtnljciooabmogaaDoorBundA
import Derived.Test.YtnljciooabmogaaDoorAbsN
open Go Go.AM Go.Proofs
attribute [local go_sem] kw ew sw tw a_ b_ c_ A.ok A.val d_ e_ f_ g_ h_ i_ j_ k_ l_ m_ unA unD n_ AOp.total o_ p_ q_ r_ s_ t_ u_ v_ A.thaw C.thaw A.fits As.fits C.fits evs oks w_ A.pure C.pure A.re C.re x_ y_ cut A.cells C.rows? z_ A_ B_ C_ a0_ b0_ D_ Ob.re Cs.fits E_ F_ G_ H_ I_ J_ K_ L_ M_ N_ O_ C.toD P_ Q_ R_ S_ T_ Obs.fits U_ eqD V_ W_ X_ Y_ Z_
/-
  The candidates of a goal: a list is copied, and what does not fit is deleted.
  Conditions: none.
-/
open Go Go.AM Go.Proofs
namespace Go.Proofs.YtnljciooabmogaaDoor
open Go.ChangeShapes Go.WideShapes Go.ChangeAt Go.RowKit
set_option linter.unusedVariables false
set_option linter.unusedSimpArgs false
set_option maxRecDepth 100000
-- 56 slices.Clone[[]int,int] params 1 ntmps 8
def ac56 : Cd := .seq (.region [⟨(some 2),.mv (.k (.c (.full []))),none⟩] [2])
 (.seq (.seq (.region [⟨(some 3),.mv (.t 0),none⟩,
 ⟨(some 4),.nilSl false (.t 3),none⟩] [3])
 (.cond (.t 4)
 (.seq (.region [⟨(some 2),.mv (.k (.c (.full []))),none⟩] [0,4])
 (.ret))
 (.skip)))
 (.seq (.region [⟨(some 5),.buildSlice 1 0 [(.int .i64 0)] [],none⟩,
 ⟨(some 6),.mv (.t 0),none⟩,
 ⟨(some 7),.appendF 1 (.t 5) (.t 6),none⟩,
 ⟨(some 2),.mv (.t 7),none⟩] [0,4,5,6,7])
 (.ret)))
theorem ac56_ok : cFunc Tryd.prog [3000005] [(0,[2],[]),(1,[3],[]),(2,[0,4],[]),(3,[0,4,5,6,7],[])] Tryd.f56 = some (ac56,[.tmp 2],8) := by kernel_rfl
-- 76 slices.IndexFunc[[]int,int] params 2 ntmps 19
-- loop head live: [0,1,7,8]
def ac76 : Cd := .seq (.region [⟨(some 4),.mv (.k (.c (.d (.int .i64 0)))),none⟩] [4])
 (.seq (.seq (.region [⟨(some 6),.mv (.t 0),none⟩,
 ⟨(some 7),.len 1 (.t 6),none⟩,
 ⟨(some 8),.mv (.k (.c (.d (.int .i64 0)))),none⟩] [6])
 (.block 0 (.loop (.seq (.region [⟨(some 9),.bin .lss (.t 8) (.t 7),none⟩] [])
 (.seq (.cond (.t 9)
 (.skip)
 (.exit 0))
 (.seq (.block 1 (.seq (.region [⟨(some 10),.mv (.t 8),none⟩,
 ⟨(some 5),.mv (.t 10),none⟩] [9,10])
 (.seq (.region [⟨(some 11),.mv (.t 1),none⟩,
 ⟨(some 12),.mv (.t 0),none⟩,
 ⟨(some 13),.mv (.t 5),none⟩,
 ⟨(some 14),.indexAddr 1 (.t 12) (.t 13),none⟩,
 ⟨(some 15),.load none (.t 14),none⟩,
 ⟨(some 16),.callv (.t 11) [(.t 15)],none⟩] [11,12,13,14,15])
 (.cond (.t 16)
 (.seq (.region [⟨(some 17),.mv (.t 5),none⟩,
 ⟨(some 4),.mv (.t 17),none⟩] [0,1,5,7,8,16,17])
 (.ret))
 (.skip)))))
 (.region [⟨(some 18),.bin .add (.t 8) (.k (.c (.d (.int .i64 1)))),none⟩,
 ⟨(some 8),.mv (.t 18),none⟩] [4,5,16,18])))))))
 (.seq (.region [⟨(some 4),.mv (.k (.c (.d (.int .i64 (-1))))),none⟩] [])
 (.ret)))
theorem ac76_ok : cFunc Tryd.prog [] [(0,[4],[]),(1,[6],[]),(2,[],[]),(3,[9,10],[]),(4,[11,12,13,14,15],[]),(5,[0,1,5,7,8,16,17],[]),(6,[4,5,16,18],[]),(7,[],[])] Tryd.f76 = some (ac76,[.tmp 4],19) := by kernel_rfl
-- 55 slices.DeleteFunc[[]int,int] params 2 ntmps 42
-- loop head live: [0,1,5,6]
def ac55 : Cd := .seq (.region [⟨(some 4),.mv (.k (.c (.full []))),none⟩] [4])
 (.seq (.region [⟨(some 8),.mv (.t 0),none⟩,
 ⟨(some 9),.mv (.t 1),none⟩,
 ⟨(some 10),.call false 76 [(.t 8),(.t 9)],none⟩,
 ⟨(some 5),.mv (.t 10),none⟩] [8,9,10])
 (.seq (.seq (.region [⟨(some 11),.mv (.t 5),none⟩,
 ⟨(some 12),.bin .eql (.t 11) (.k (.c (.d (.int .i64 (-1))))),none⟩] [11])
 (.cond (.t 12)
 (.seq (.region [⟨(some 13),.mv (.t 0),none⟩,
 ⟨(some 4),.mv (.t 13),none⟩] [0,1,5,12,13])
 (.ret))
 (.skip)))
 (.seq (.seq (.region [⟨(some 14),.mv (.t 5),none⟩,
 ⟨(some 15),.bin .add (.t 14) (.k (.c (.d (.int .i64 1)))),none⟩,
 ⟨(some 6),.mv (.t 15),none⟩] [4,12,14,15])
 (.block 0 (.loop (.seq (.seq (.region [⟨(some 16),.mv (.t 6),none⟩,
 ⟨(some 17),.mv (.t 0),none⟩,
 ⟨(some 18),.len 1 (.t 17),none⟩,
 ⟨(some 19),.bin .lss (.t 16) (.t 18),none⟩] [16,17,18])
 (.cond (.t 19)
 (.skip)
 (.exit 0)))
 (.seq (.block 1 (.seq (.region [⟨(some 22),.mv (.t 0),none⟩,
 ⟨(some 23),.mv (.t 6),none⟩,
 ⟨(some 24),.indexAddr 1 (.t 22) (.t 23),none⟩,
 ⟨(some 25),.load none (.t 24),none⟩,
 ⟨(some 7),.mv (.t 25),none⟩] [19,22,23,24,25])
 (.seq (.region [⟨(some 26),.mv (.t 1),none⟩,
 ⟨(some 27),.mv (.t 7),none⟩,
 ⟨(some 28),.callv (.t 26) [(.t 27)],none⟩,
 ⟨(some 29),.un .not (.t 28),none⟩] [26,27,28])
 (.cond (.t 29)
 (.seq (.region [⟨(some 30),.mv (.t 0),none⟩,
 ⟨(some 31),.mv (.t 5),none⟩,
 ⟨(some 32),.mv (.t 7),none⟩,
 ⟨(some 33),.indexAddr 1 (.t 30) (.t 31),none⟩,
 ⟨none,.store 1 (.t 33) (.t 32),none⟩] [7,29,30,31,32,33])
 (.region [⟨(some 34),.mv (.t 5),none⟩,
 ⟨(some 35),.bin .add (.t 34) (.k (.c (.d (.int .i64 1)))),none⟩,
 ⟨(some 5),.mv (.t 35),none⟩] [34,35]))
 (.skip)))))
 (.region [⟨(some 20),.mv (.t 6),none⟩,
 ⟨(some 21),.bin .add (.t 20) (.k (.c (.d (.int .i64 1)))),none⟩,
 ⟨(some 6),.mv (.t 21),none⟩] [7,20,21,29]))))))
 (.seq (.region [⟨(some 36),.mv (.t 0),none⟩,
 ⟨(some 37),.mv (.t 5),none⟩,
 ⟨(some 38),.slice 1 (.t 36) (some (.t 37)) none none,none⟩,
 ⟨none,.clear [(.int .i64 0)] (.t 38),none⟩] [36,37,38])
 (.seq (.region [⟨(some 39),.mv (.t 0),none⟩,
 ⟨(some 40),.mv (.t 5),none⟩,
 ⟨(some 41),.slice 1 (.t 39) none (some (.t 40)) none,none⟩,
 ⟨(some 4),.mv (.t 41),none⟩] [0,5,39,40,41])
 (.ret))))))
theorem ac55_ok : cFunc Tryd.prog [] [(0,[4],[]),(1,[8,9,10],[]),(2,[11],[]),(3,[0,1,5,12,13],[]),(4,[4,12,14,15],[]),(5,[16,17,18],[]),(7,[19,22,23,24,25],[]),(8,[26,27,28],[]),(9,[7,29,30,31,32,33],[]),(10,[34,35],[]),(6,[7,20,21,29],[]),(11,[36,37,38],[]),(12,[0,5,39,40,41],[])] Tryd.f55 = some (ac55,[.tmp 4],42) := by kernel_rfl
-- 57 loop.example/prologserver/impl.fitting$1 params 1 ntmps 14
def ac57 : Cd := .seq (.region [⟨(some 4),.mv (.k (.c (.d (.bool false)))),none⟩] [4])
 (.seq (.region [⟨(some 6),.mv (.t 0),none⟩,
 ⟨(some 5),.load none (.t 1),none⟩,
 ⟨(some 7),.indexAddr 5 (.t 5) (.t 6),none⟩,
 ⟨(some 8),.fieldAddr 0 (.t 7),none⟩,
 ⟨(some 9),.load (some 4) (.t 8),none⟩,
 ⟨(some 10),.qcall 54 [(.t 9)],none⟩,
 ⟨(some 11),.load none (.t 2),none⟩,
 ⟨(some 12),.qcall 58 [(.t 10),(.t 11)],none⟩,
 ⟨(some 13),.un .not (.t 12),none⟩,
 ⟨(some 4),.mv (.t 13),none⟩] [0,5,6,7,8,9,10,11,12,13])
 (.ret))
theorem ac57_ok : cFunc Tryd.prog [1000054,1000058] [(0,[4],[]),(1,[0,5,6,7,8,9,10,11,12,13],[1,0,2,3,4,5,6,7,8,9])] Tryd.f57 = some (ac57,[.tmp 4],14) := by kernel_rfl
-- 31 loop.example/prologserver/impl.fitting params 3 ntmps 14
def ac31 : Cd := .seq (.region [⟨(some 3),.box (.t 0),none⟩,
 ⟨(some 5),.box (.t 2),none⟩,
 ⟨(some 6),.mv (.k (.c (.full []))),none⟩] [0,2,6])
 (.seq (.region [⟨(some 8),.load (some 4) (.t 5),none⟩,
 ⟨(some 9),.qcall 54 [(.t 8)],none⟩,
 ⟨(some 7),.alloc [(.d (.str []))],none⟩,
 ⟨none,.store 1 (.t 7) (.t 9),none⟩] [5,8,9])
 (.seq (.region [⟨(some 10),.mv (.t 1),none⟩,
 ⟨(some 11),.call false 56 [(.t 10)],none⟩,
 ⟨(some 12),.mkFunc 57 [(.t 3),(.t 7)],none⟩,
 ⟨(some 13),.call false 55 [(.t 11),(.t 12)],none⟩,
 ⟨(some 6),.mv (.t 13),none⟩] [1,3,7,10,11,12,13])
 (.ret)))
theorem ac31_ok : cFunc Tryd.prog [1000054] [(0,[0,2,6],[]),(1,[5,8,9],[]),(2,[1,3,7,10,11,12,13],[])] Tryd.f31 = some (ac31,[.tmp 6],14) := by kernel_rfl
-- 28 loop.example/prologserver/spec.l7Candidates params 2 ntmps 38
-- loop head live: [0,3,5,6,7]
def ac28 : Cd := .seq (.region [⟨(some 3),.box (.t 1),none⟩,
 ⟨(some 4),.mv (.k (.c (.full []))),none⟩] [1,4])
 (.seq (.region [⟨(some 8),.buildSlice 1 0 [(.int .i64 0)] [],none⟩,
 ⟨(some 5),.mv (.t 8),none⟩] [8])
 (.seq (.region [⟨(some 9),.mv (.t 0),none⟩,
 ⟨(some 10),.load (some 4) (.t 3),none⟩,
 ⟨(some 11),.qcall 51 [(.t 9),(.t 10)],none⟩,
 ⟨(some 6),.mv (.t 11),none⟩] [9,10,11])
 (.seq (.seq (.region [⟨(some 7),.mv (.k (.c (.d (.int .i64 0)))),none⟩] [])
 (.block 0 (.loop (.seq (.seq (.region [⟨(some 12),.mv (.t 7),none⟩,
 ⟨(some 13),.mv (.t 6),none⟩,
 ⟨(some 14),.len 1 (.t 13),none⟩,
 ⟨(some 15),.bin .lss (.t 12) (.t 14),none⟩] [12,13,14])
 (.cond (.t 15)
 (.skip)
 (.exit 0)))
 (.seq (.block 1 (.seq (.region [⟨(some 18),.mv (.t 0),none⟩,
 ⟨(some 19),.mv (.t 6),none⟩,
 ⟨(some 20),.mv (.t 7),none⟩,
 ⟨(some 21),.indexAddr 1 (.t 19) (.t 20),none⟩,
 ⟨(some 22),.load none (.t 21),none⟩,
 ⟨(some 23),.indexAddr 5 (.t 18) (.t 22),none⟩,
 ⟨(some 24),.fieldAddr 0 (.t 23),none⟩,
 ⟨(some 25),.load (some 4) (.t 24),none⟩,
 ⟨(some 26),.qcall 53 [(.t 25)],none⟩,
 ⟨(some 27),.load (some 4) (.t 3),none⟩,
 ⟨(some 28),.qcall 53 [(.t 27)],none⟩,
 ⟨(some 29),.qcall 52 [(.t 26),(.t 28)],none⟩] [15,18,19,20,21,22,23,24,25,26,27,28])
 (.cond (.t 29)
 (.region [⟨(some 30),.mv (.t 5),none⟩,
 ⟨(some 31),.mv (.t 6),none⟩,
 ⟨(some 32),.mv (.t 7),none⟩,
 ⟨(some 33),.indexAddr 1 (.t 31) (.t 32),none⟩,
 ⟨(some 34),.load none (.t 33),none⟩,
 ⟨(some 35),.buildSlice 1 1 [(.int .i64 0)] [(0,(.t 34))],none⟩,
 ⟨(some 36),.append false 1 (.t 30) (.t 35),none⟩,
 ⟨(some 5),.mv (.t 36),none⟩] [29,30,31,32,33,34,35,36])
 (.skip))))
 (.region [⟨(some 16),.mv (.t 7),none⟩,
 ⟨(some 17),.bin .add (.t 16) (.k (.c (.d (.int .i64 1)))),none⟩,
 ⟨(some 7),.mv (.t 17),none⟩] [16,17,29]))))))
 (.seq (.region [⟨(some 37),.mv (.t 5),none⟩,
 ⟨(some 4),.mv (.t 37),none⟩] [5,37])
 (.ret)))))
theorem ac28_ok : cFunc Tryd.prog [1000051,1000052,1000053] [(0,[1,4],[]),(1,[8],[]),(2,[9,10,11],[]),(3,[],[]),(4,[12,13,14],[]),(6,[15,18,19,20,21,22,23,24,25,26,27,28],[0,1,2,3,4,5,6,7,8,9,10,11]),(7,[29,30,31,32,33,34,35,36],[]),(5,[16,17,29],[]),(8,[5,37],[])] Tryd.f28 = some (ac28,[.tmp 4],38) := by kernel_rfl
/-- a copy of a list of numbers: nothing, or a row of its own -/
def CloneR (l : List Int) (H : Heap) (r : A) (H' : Heap) : Prop := (l = [] ∧ H' = H ∧ r = .c (.full [])) ∨ (l ≠ [] ∧ H' = H ++ [.rows (intRows l)] ∧ r = .c (.fsl (.e H.length) l.length 1))
theorem cloneI_calls (l : List Int) (hl : l.length ≤ 1048576) (H : Heap) : ACalls Tryd.prog 56 [.c (.d (.sl (intRows l)))] H (CloneR l H) := by
  have hlen := intRows_len l
  refine acallsK Tryd.func56 (by kernel_rfl) ac56_ok fun hf => ?_
  simp -implicitDefEqProofs [ac56, go_sem, -List.set_cons_succ, -List.set_cons_zero]
  have hnil : intRows l = [] → l = [] := fun he => by rw [he] at hlen; cases l with | nil => rfl | cons a l => simp at hlen
  refine ⟨⟨allLen_ints l, by rw [hlen]; unfold maxApp; omega, fun he => ?_, fun hne => ?_⟩, fun he => ?_⟩
  · exact finK_ret _ ⟨trivial, trivial⟩ rfl (.inl ⟨hnil he, by simp, rfl⟩)
  · have hl0 : l ≠ [] := fun e => hne (by rw [e]; rfl)
    exact finK_ret _ ⟨trivial, trivial⟩ rfl (.inr ⟨hl0, rfl, by rw [← hlen]; rfl⟩)
  · exact finK_ret _ ⟨trivial, trivial⟩ rfl (.inl ⟨hnil he, by simp, rfl⟩)
/-- a test of numbers, as a function value -/
def TestOn (q : Int → Bool) (g : FuncId) (caps : List (Ref × Nat)) (l : List Int) (H : Heap) : Prop :=
  ∀ x ∈ l, ACalls Tryd.prog g (.c (.d (.int .i64 x)) :: ptrsOf caps) H (fun r H' => H' = H ∧ r = .c (.d (.bool (q x))))
theorem callArgs_test {n : Nat} {caps : List (Nat × Nat)} : w_ false n (ptrsOf (caps.map fun x => (Ref.e x.1, x.2))) = ptrsOf (caps.map fun x => (Ref.e x.1, x.2)) := by
  rw [callArgs_ptrs, ptrsOf, List.map_map]
  rfl
/-- the place of the first that is struck -/
def strikeI (q : Int → Bool) (l : List Int) : Int := match l.findIdx? q with | some i => i | none => -1
theorem strike_some {q : Int → Bool} {l : List Int} {j : Nat} (hj : j < l.length) (hq : q l[j] = true) (hno : ∀ x ∈ l.take j, q x = false) : strikeI q l = j := by
  have : l.findIdx? q = some j := by
    rw [List.findIdx?_eq_some_iff_getElem]
    refine ⟨hj, hq, fun m hm => ?_⟩
    have := hno l[m] (by rw [List.mem_iff_getElem]; exact ⟨m, by simp; omega, by simp⟩)
    simpa using this
  rw [strikeI, this]
theorem strike_none {q : Int → Bool} {l : List Int} (hno : ∀ x ∈ l, q x = false) : strikeI q l = -1 := by
  have : l.findIdx? q = none := by
    rw [List.findIdx?_eq_none_iff]
    exact hno
  rw [strikeI, this]
theorem take_no {q : Int → Bool} {l : List Int} {j : Nat} (hj : j < l.length) (h : ∀ x ∈ l.take j, q x = false) (hq : q l[j] = false) : ∀ x ∈ l.take (j + 1), q x = false := by
  intro x hx
  rw [List.take_succ_eq_append_getElem hj, List.mem_append] at hx
  rcases hx with hx | hx
  · exact h x hx
  · simp at hx; subst hx; exact hq
theorem idxI_calls {q : Int → Bool} {g : FuncId} {caps : List (Nat × Nat)} {H : Heap} (l : List Int) (hl : l.length ≤ 1048576) (k : Nat) (hk : H[k]? = some (.rows (intRows l))) (hq : TestOn q g (caps.map fun x => (Ref.e x.1, x.2)) l H) :
    ACalls Tryd.prog 76 [.c (.fsl (.e k) l.length 1), .c (.fn g (caps.map fun x => (Ref.e x.1, x.2)))] H (fun r H' => H' = H ∧ r = .c (.d (.int .i64 (strikeI q l)))) := by
  have hli : inR .i64 (l.length : Int) := small_i64 (by omega) (by omega)
  have hgk : H[k]?.getD .dead = .rows (intRows l) := by simp [hk]
  refine acalls Tryd.func76 (by kernel_rfl) ac76_ok fun hf => ?_
  simp -implicitDefEqProofs [ac76, hli, go_sem, -List.set_cons_succ, -List.set_cons_zero]
  refine loop_set (σ := Nat) (fun j => [(8, .c (.d (.int .i64 j)))]) (fun _ => H) (fun _ => []) (fun j => j ≤ l.length ∧ ∀ x ∈ l.take j, q x = false) (fun j => l.length - j) 0 rfl ⟨Nat.zero_le _, by simp⟩ ?_
  rintro j ⟨hj, hno⟩
  simp -implicitDefEqProofs [setAll, hli, go_sem, -List.set_cons_succ, -List.set_cons_zero]
  refine ⟨fun hjl => ?_, fun hje => ?_⟩
  · have hrow : (intRows l)[j]? = some [.int .i64 l[j]] := by simp [intRows, hjl]
    refine ⟨hjl, ?_⟩
    simp -implicitDefEqProofs [hgk, hk, hrow, go_sem, -List.set_cons_succ, -List.set_cons_zero]
    have hadd : inR .i64 ((j : Int) + 1) := small_i64 (by omega) (by omega)
    have hc := hq l[j] (List.getElem_mem hjl)
    refine call_same (r := .c (.d (.bool (q l[j])))) (by rw [callArgs_test]; exact hc) (by simp) rfl hf ?_
    simp -implicitDefEqProofs [hadd, go_sem, -List.set_cons_succ, -List.set_cons_zero]
    refine ⟨fun he => ?_, fun he => ?_⟩
    · rw [strike_some hjl he hno]
    · exact loop_back (j + 1) (by simp [setAll]) ⟨hjl, take_no hjl hno (by simpa using he)⟩ (by show l.length - (j + 1) < l.length - j; omega)
  · rw [List.take_of_length_le hje] at hno
    rw [strike_none hno]
/-- what is left -/
def keepI (q : Int → Bool) (l : List Int) : List Int := l.filter fun x => !q x
theorem keepI_len (q : Int → Bool) (l : List Int) : (keepI q l).length ≤ l.length := List.length_filter_le _ _
theorem keepI_succ {q : Int → Bool} {l : List Int} {j : Nat} (hj : j < l.length) : keepI q (l.take (j + 1)) = keepI q (l.take j) ++ if q l[j] = true then [] else [l[j]] := by
  rw [keepI, List.take_succ_eq_append_getElem hj, List.filter_append]
  congr 1
  cases h : q l[j] <;> simp [h]
theorem keepI_all {q : Int → Bool} {l : List Int} (h : ∀ x ∈ l, q x = false) : keepI q l = l := by
  rw [keepI, List.filter_eq_self]
  intro x hx
  simp [h x hx]
def zerosI (n : Nat) : List (List D) := List.replicate n [.int .i64 0]
/-- what is struck out of an own row of numbers -/
def DelR (q : Int → Bool) (l : List Int) (k : Nat) (H : Heap) (r : A) (H' : Heap) : Prop :=
  (r = .c (.fsl (.e k) l.length 1) ∧ H' = H ∧ keepI q l = l) ∨
  (r = .c (.psl (.e k) 0 (keepI q l).length 1) ∧ H' = H.set k (.rows (intRows (keepI q l) ++ zerosI (l.length - (keepI q l).length))))
theorem strike_cases (q : Int → Bool) (l : List Int) : (strikeI q l = -1 ∧ keepI q l = l) ∨ ∃ j : Nat, ∃ h : j < l.length, strikeI q l = j ∧ q l[j] = true ∧ keepI q (l.take j) = l.take j := by
  unfold strikeI
  cases h : l.findIdx? q with
  | none =>
    rw [List.findIdx?_eq_none_iff] at h
    exact .inl ⟨rfl, keepI_all h⟩
  | some i =>
    obtain ⟨h1, h2, h3⟩ := List.findIdx?_eq_some_iff_getElem.1 h
    refine .inr ⟨i, h1, rfl, h2, keepI_all fun x hx => ?_⟩
    obtain ⟨m, hm, rfl⟩ := List.mem_iff_getElem.1 hx
    have hm : m < min i l.length := by simpa using hm
    have := h3 m (by omega)
    simpa using this
theorem delI_calls {q : Int → Bool} {g : FuncId} {caps : List (Nat × Nat)} {H : Heap} (l : List Int) (hl : l.length ≤ 1048576) (k : Nat) (hk : H[k]? = some (.rows (intRows l))) (hq : ∀ rs, TestOn q g (caps.map fun x => (Ref.e x.1, x.2)) l (H.set k (.rows rs))) :
    ACalls Tryd.prog 55 [.c (.fsl (.e k) l.length 1), .c (.fn g (caps.map fun x => (Ref.e x.1, x.2)))] H (DelR q l k H) := by
  have hli : inR .i64 (l.length : Int) := small_i64 (by omega) (by omega)
  have hlk := (List.getElem?_eq_some_iff.1 hk).1
  have hself : H.set k (.rows (intRows l)) = H := by
    refine List.ext_getElem? fun j => ?_
    by_cases hj : j = k
    · subst hj; rw [List.getElem?_set_self hlk, hk]
    · rw [List.getElem?_set_ne (fun h => hj h.symm)]
  have hfk : ∀ b : Ob, b.fits H.length 0 → Obs.fits H.length 0 H → Obs.fits H.length 0 (H.set k b) := fun b h1 h2 => fits_reset (a := .rows (intRows l)) (by rw [hself]; exact h2) h1
  have hq0 : TestOn q g (caps.map fun x => (Ref.e x.1, x.2)) l H := by have := hq (intRows l); rwa [hself] at this
  refine acalls Tryd.func55 (by kernel_rfl) ac55_ok fun hf => ?_
  simp -implicitDefEqProofs [ac55, hli, go_sem, -List.set_cons_succ, -List.set_cons_zero]
  refine call_same (idxI_calls l hl k hk hq0) (by simp) rfl hf ?_
  rcases strike_cases q l with ⟨e1, e2⟩ | ⟨j0, hj0, e1, e2, e3⟩
  · simp -implicitDefEqProofs [e1, go_sem, -List.set_cons_succ, -List.set_cons_zero]
    exact ⟨hlk, .inl ⟨rfl, rfl, e2⟩⟩
  · have hne : ((j0 : Int) == -1) = false := by simp
    have hadd0 : inR .i64 ((j0 : Int) + 1) := small_i64 (by omega) (by omega)
    simp -implicitDefEqProofs [e1, hne, hadd0, go_sem, -List.set_cons_succ, -List.set_cons_zero]
    refine loop_set (σ := Nat × Nat × List (List D)) (fun x => [(5, .c (.d (.int .i64 x.1))), (6, .c (.d (.int .i64 x.2.1)))]) (fun x => H.set k (.rows x.2.2)) (fun _ => [])
      (fun x => x.2.1 ≤ l.length ∧ x.1 < x.2.1 ∧ x.2.2.length = l.length ∧ x.2.2.take x.1 = intRows (keepI q (l.take x.2.1)) ∧ x.1 = (keepI q (l.take x.2.1)).length ∧ x.2.2.drop x.2.1 = intRows (l.drop x.2.1) ∧ ∀ r ∈ x.2.2, r.length = 1)
      (fun x => l.length - x.2.1) (j0, j0 + 1, intRows l) (by simp [setAll, hself]) ?_ ?_
    · refine ⟨hj0, Nat.lt_succ_self _, intRows_len l, ?_, ?_, ?_, allLen_ints l⟩
      · rw [keepI_succ hj0, e2, e3]; simp [intRows]
      · rw [keepI_succ hj0, e2, e3]; simp; omega
      · simp [intRows]
    · rintro ⟨i, j, rs⟩ ⟨h1, h2, h3, h4, h5, h6, h7⟩
      simp only at h1 h2 h3 h4 h5 h6 h7
      have hlk2 : k < (H.set k (.rows rs)).length := by simpa using hlk
      simp -implicitDefEqProofs [setAll, hli, go_sem, -List.set_cons_succ, -List.set_cons_zero]
      refine ⟨fun hjl => ?_, fun hje => ?_⟩
      · have hadd : inR .i64 ((j : Int) + 1) := small_i64 (by omega) (by omega)
        have hadi : inR .i64 ((i : Int) + 1) := small_i64 (by omega) (by omega)
        have hrow : rs[j]? = some [.int .i64 l[j]] := by
          have := congrArg (fun z : List (List D) => z[0]?) h6
          simp only [List.getElem?_drop, Nat.add_zero] at this
          rw [this]
          simp [intRows, hjl]
        have hfs : Obs.fits (H.set k (.rows rs)).length 0 (H.set k (.rows rs)) := by simpa using hfk (.rows rs) trivial hf
        refine ⟨hjl, ?_⟩
        simp -implicitDefEqProofs [hrow, hlk, go_sem, -List.set_cons_succ, -List.set_cons_zero]
        have hc := hq rs l[j] (List.getElem_mem hjl)
        refine call_same (r := .c (.d (.bool (q l[j])))) (by rw [callArgs_test]; exact hc) (by simp) rfl hfs ?_
        cases hqj : q l[j] with
        | true =>
          simp -implicitDefEqProofs [hadd, go_sem, -List.set_cons_succ, -List.set_cons_zero]
          refine loop_back (i, j + 1, rs) (by simp [setAll]) ⟨hjl, by show i < j + 1; omega, h3, ?_, ?_, ?_, h7⟩ (by show l.length - (j + 1) < l.length - j; omega)
          · show rs.take i = intRows (keepI q (l.take (j + 1)))
            rw [keepI_succ hjl, hqj, h4]; simp
          · show i = (keepI q (l.take (j + 1))).length
            rw [keepI_succ hjl, hqj, ← List.append_nil (keepI q (l.take j))] ; simpa using h5
          · show rs.drop (j + 1) = intRows (l.drop (j + 1))
            have := congrArg List.tail h6
            simpa [intRows] using this
        | false =>
          have hil : i < rs.length := by omega
          obtain ⟨y, hy⟩ := List.length_eq_one_iff.1 (h7 rs[i] (List.getElem_mem hil))
          have hyr : rs[i]? = some [y] := by rw [List.getElem?_eq_getElem hil, hy]
          simp -implicitDefEqProofs [hadd, hadi, hyr, hlk, go_sem, -List.set_cons_succ, -List.set_cons_zero]
          refine ⟨by omega, by simpa using hfk (.rows (rs.set i [.int .i64 l[j]])) trivial hf, ?_⟩
          refine loop_back (i + 1, j + 1, rs.set i [.int .i64 l[j]]) (by simp [setAll]) ⟨hjl, by show i + 1 < j + 1; omega, by simpa using h3, ?_, ?_, ?_, ?_⟩ (by show l.length - (j + 1) < l.length - j; omega)
          · show (rs.set i [.int .i64 l[j]]).take (i + 1) = intRows (keepI q (l.take (j + 1)))
            rw [keepI_succ hjl, hqj]
            rw [List.take_succ_eq_append_getElem (by simpa using hil)]
            rw [List.take_set_of_le (Nat.le_refl _), h4]
            simp [intRows]
          · show i + 1 = (keepI q (l.take (j + 1))).length
            rw [keepI_succ hjl, hqj]; simp; omega
          · show (rs.set i [.int .i64 l[j]]).drop (j + 1) = intRows (l.drop (j + 1))
            rw [List.drop_set_of_lt (by omega)]
            have := congrArg List.tail h6
            simpa [intRows] using this
          · intro r hr
            rcases List.mem_or_eq_of_mem_set hr with hr | rfl
            · exact h7 r hr
            · rfl
      · obtain rfl : j = l.length := by omega
        rw [List.take_length] at h4 h5
        have hkl : i < l.length := h2
        have hsub : ((l.length : Int) - i).toNat = l.length - i := by omega
        have hi64 : inR .i64 (i : Int) := small_i64 (by omega) (by omega)
        have hpos : 0 < l.length - i := by omega
        simp -implicitDefEqProofs [hsub, hlk, hi64, hpos, hkl, go_sem, -List.set_cons_succ, -List.set_cons_zero]
        have hdrop : rs.drop (i + (l.length - i)) = [] := List.drop_of_length_le (by omega)
        have hrows : rs.take i ++ (List.replicate (l.length - i) [D.int .i64 0] ++ rs.drop (i + (l.length - i))) = intRows (keepI q l) ++ zerosI (l.length - (keepI q l).length) := by
          rw [hdrop, h4, ← h5]; simp [zerosI]
        refine ⟨by omega, by simpa using hfk (.rows (rs.take i ++ (List.replicate (l.length - i) [D.int .i64 0] ++ rs.drop (i + (l.length - i))))) trivial hf, by omega, hlk, .inr ⟨by rw [← h5], by rw [← hrows]⟩⟩
end Go.Proofs.YtnljciooabmogaaDoor

/-
  The candidates of a goal, of the program and of the reference.
  Conditions: none.
-/
open Go Go.AM Go.Proofs
namespace Go.Proofs.YtnljciooabmogaaDoor
open Go.ChangeShapes Go.WideShapes Go.ChangeAt Go.RowKit
set_option linter.unusedVariables false
set_option linter.unusedSimpArgs false
set_option maxRecDepth 100000
-- 7 loop.example/prologserver/spec.Candidates params 2 ntmps 22
def ac7 : Cd := .seq (.region [⟨(some 3),.box (.t 1),none⟩,
 ⟨(some 4),.mv (.k (.c (.full []))),none⟩] [1,4])
 (.seq (.seq (.region [⟨(some 5),.mv (.t 0),none⟩,
 ⟨(some 6),.qcall 25 [(.t 5)],none⟩,
 ⟨(some 7),.un .not (.t 6),none⟩,
 ⟨(some 8),.mv (.t 7),none⟩,
 ⟨(some 9),.load (some 4) (.t 3),some (8,false)⟩,
 ⟨(some 10),.qcall 26 [(.t 9)],some (8,false)⟩,
 ⟨(some 11),.un .not (.t 10),some (8,false)⟩,
 ⟨(some 12),.pick (.t 8) (.k (.c (.d (.bool true)))) (.t 11),none⟩,
 ⟨(some 13),.mv (.t 12),none⟩,
 ⟨(some 14),.load (some 4) (.t 3),some (13,false)⟩,
 ⟨(some 15),.qcall 27 [(.t 14)],some (13,false)⟩,
 ⟨(some 16),.un .not (.t 15),some (13,false)⟩,
 ⟨(some 17),.pick (.t 13) (.k (.c (.d (.bool true)))) (.t 16),none⟩] [5,6,7,8,9,10,11,12,13,14,15,16])
 (.cond (.t 17)
 (.seq (.region [⟨(some 18),.buildSlice 1 0 [(.int .i64 0)] [],none⟩,
 ⟨(some 4),.mv (.t 18),none⟩] [0,3,17,18])
 (.ret))
 (.skip)))
 (.seq (.region [⟨(some 19),.mv (.t 0),none⟩,
 ⟨(some 20),.load (some 4) (.t 3),none⟩,
 ⟨(some 21),.qcall 28 [(.t 19),(.t 20)],none⟩,
 ⟨(some 4),.mv (.t 21),none⟩] [0,3,17,19,20,21])
 (.ret)))
theorem ac7_ok : cFunc Tryd.prog [1000025,1000026,1000027,1000028] [(0,[1,4],[]),(1,[5,6,7,8,9,10,11,12,13,14,15,16],[]),(2,[0,3,17,18],[]),(3,[0,3,17,19,20,21],[])] Tryd.f7 = some (ac7,[.tmp 4],22) := by kernel_rfl
-- 32 loop.example/prologserver/impl.ClausesFor params 2 ntmps 22
def ac32 : Cd := .seq (.region [⟨(some 3),.box (.t 1),none⟩,
 ⟨(some 4),.mv (.k (.c (.full []))),none⟩] [1,4])
 (.seq (.seq (.region [⟨(some 5),.mv (.t 0),none⟩,
 ⟨(some 6),.qcall 59 [(.t 5)],none⟩,
 ⟨(some 7),.un .not (.t 6),none⟩,
 ⟨(some 8),.mv (.t 7),none⟩,
 ⟨(some 9),.load (some 4) (.t 3),some (8,false)⟩,
 ⟨(some 10),.qcall 60 [(.t 9)],some (8,false)⟩,
 ⟨(some 11),.un .not (.t 10),some (8,false)⟩,
 ⟨(some 12),.pick (.t 8) (.k (.c (.d (.bool true)))) (.t 11),none⟩,
 ⟨(some 13),.mv (.t 12),none⟩,
 ⟨(some 14),.load (some 4) (.t 3),some (13,false)⟩,
 ⟨(some 15),.qcall 61 [(.t 14)],some (13,false)⟩,
 ⟨(some 16),.un .not (.t 15),some (13,false)⟩,
 ⟨(some 17),.pick (.t 13) (.k (.c (.d (.bool true)))) (.t 16),none⟩] [5,6,7,8,9,10,11,12,13,14,15,16])
 (.cond (.t 17)
 (.seq (.region [⟨(some 4),.mv (.k (.c (.full []))),none⟩] [0,3,17])
 (.ret))
 (.skip)))
 (.seq (.region [⟨(some 18),.mv (.t 0),none⟩,
 ⟨(some 19),.load (some 4) (.t 3),none⟩,
 ⟨(some 20),.qcall 63 [(.t 19)],none⟩,
 ⟨(some 21),.qcall 62 [(.t 18),(.t 20)],none⟩,
 ⟨(some 4),.mv (.t 21),none⟩] [0,3,17,18,19,20,21])
 (.ret)))
theorem ac32_ok : cFunc Tryd.prog [1000059,1000060,1000061,1000062,1000063] [(0,[1,4],[]),(1,[5,6,7,8,9,10,11,12,13,14,15,16],[]),(2,[0,3,17],[]),(3,[0,3,17,18,19,20,21],[])] Tryd.f32 = some (ac32,[.tmp 4],22) := by kernel_rfl
-- 10 loop.example/prologserver/impl.Candidates params 2 ntmps 11
def ac10 : Cd := .seq (.region [⟨(some 3),.box (.t 1),none⟩,
 ⟨(some 4),.mv (.k (.c (.full []))),none⟩] [1,4])
 (.seq (.region [⟨(some 5),.mv (.t 0),none⟩,
 ⟨(some 6),.mv (.t 0),none⟩,
 ⟨(some 7),.load (some 4) (.t 3),none⟩,
 ⟨(some 8),.qcall 32 [(.t 6),(.t 7)],none⟩,
 ⟨(some 9),.load (some 4) (.t 3),none⟩,
 ⟨(some 10),.qcall 31 [(.t 5),(.t 8),(.t 9)],none⟩,
 ⟨(some 4),.mv (.t 10),none⟩] [0,3,5,6,7,8,9,10])
 (.ret))
theorem ac10_ok : cFunc Tryd.prog [1000031,1000032] [(0,[1,4],[]),(1,[0,3,5,6,7,8,9,10],[0,1,2,3,4,5,6])] Tryd.f10 = some (ac10,[.tmp 4],11) := by kernel_rfl
/-- what is struck: the clauses whose key does not fit -/
def strikeK (p : List Cl) (key : List UInt8) (x : Int) : Bool := !kfit (keyAt p x) key
theorem fit1_calls {g : Nat} {o : Obj} (hT : Tab g o) (p : List Cl) (hp : FitsC p) (key : List UInt8) (x : Int) (hx : 0 ≤ x ∧ x < p.length) (H : Heap) (a b : Nat) (hH : H[0]? = some (.tab g o)) (ha : H[a]? = some (.cells [.d (.sl (p.map Cl.row))])) (hb : H[b]? = some (.cells [.d (.str key)])) :
    ACalls Tryd.prog 57 [.c (.d (.int .i64 x)), .c (.ptr (.e a) 0), .c (.ptr (.e b) 0)] H (fun r H' => H' = H ∧ r = .c (.d (.bool (strikeK p key x)))) := by
  have hga : H[a]?.getD .dead = .cells [.d (.sl (p.map Cl.row))] := by simp [ha]
  have hgb : H[b]?.getD .dead = .cells [.d (.str key)] := by simp [hb]
  obtain ⟨n, rfl⟩ := Int.eq_ofNat_of_zero_le hx.1
  have hlt : n < p.length := by omega
  have hc := hp.2 p[n] (List.getElem_mem hlt)
  have hk : keyAt p (n : Int) = p[n].head.key := by simp [keyAt, hlt]
  have c1 := key_calls hT p[n].head hc.head
  rw [row_eq] at c1
  simp only [List.map_cons, List.map_nil] at c1
  refine acalls Tryd.func57 (by kernel_rfl) ac57_ok fun hf => ?_
  simp -implicitDefEqProofs [ac57, ha, hb, go_sem, -List.set_cons_succ, -List.set_cons_zero]
  refine row_of hlt rfl ?_
  simp -implicitDefEqProofs [Cl.row, ha, hb, go_sem, -List.set_cons_succ, -List.set_cons_zero]
  refine qcall_tab c1 hf hH rfl ?_
  simp -implicitDefEqProofs [ha, hb, go_sem, -List.set_cons_succ, -List.set_cons_zero]
  refine qcall_pure (kfImpl_calls _ _) hf rfl ?_
  simp -implicitDefEqProofs [strikeK, hk, go_sem, -List.set_cons_succ, -List.set_cons_zero]
theorem idxNil_calls (v : A) (hv : ∀ n, (w_ false n [v]).length = 1) (H : Heap) : ACalls Tryd.prog 76 [.c (.d (.sl [])), v] H (fun r H' => H' = H ∧ r = .c (.d (.int .i64 (-1)))) := by
  have h0 : inR .i64 0 := small_i64 (by omega) (by omega)
  refine acalls Tryd.func76 (by kernel_rfl) ac76_ok fun hf => ?_
  simp -implicitDefEqProofs [ac76, h0, go_sem, -List.set_cons_succ, -List.set_cons_zero]
  refine loop_set (σ := Unit) (fun _ => [(8, .c (.d (.int .i64 0)))]) (fun _ => H) (fun _ => []) (fun _ => True) (fun _ => 0) () rfl trivial ?_
  rintro _ _
  simp -implicitDefEqProofs [setAll, h0, go_sem, -List.set_cons_succ, -List.set_cons_zero]
theorem delNil_calls (v : C) (H : Heap) : ACalls Tryd.prog 55 [.c (.d (.sl [])), .c v] H (fun r H' => H' = H ∧ r = .c (.d (.sl []))) := by
  refine acalls Tryd.func55 (by kernel_rfl) ac55_ok fun hf => ?_
  simp -implicitDefEqProofs [ac55, go_sem, -List.set_cons_succ, -List.set_cons_zero]
  refine call_same (idxNil_calls _ (fun n => rfl) _) (by simp) rfl hf ?_
  simp -implicitDefEqProofs [go_sem, -List.set_cons_succ, -List.set_cons_zero]
/-- the clauses of a list that fit a goal -/
def fitL (p : List Cl) (key : List UInt8) (l : List Int) : List Int := keepI (strikeK p key) l
theorem fitting_calls {g : Nat} {o : Obj} (hT : Tab g o) (p : List Cl) (hp : FitsC p) (t : Tm) (ht : t.fits) (l : List Int) (hll : l.length ≤ 1048576) (hl : ∀ x ∈ l, 0 ≤ x ∧ x < p.length) (H : Heap) (hH : H[0]? = some (.tab g o)) :
    ACalls Tryd.prog 31 [.c (.d (.sl (p.map Cl.row))), .c (.d (.sl (intRows l))), .agg (t.row.map .d)] H (fun r H' => H' = H ∧ r = .c (.d (.sl (intRows (fitL p t.key l))))) := by
  refine acalls Tryd.func31 (by kernel_rfl) ac31_ok fun hf => ?_
  simp -implicitDefEqProofs [ac31, row_len, take_row, pure_d, re_d, hf, go_sem, -List.set_cons_succ, -List.set_cons_zero]
  refine qcall_tab (key_calls hT t ht) hf hH rfl ?_
  simp -implicitDefEqProofs [row_len, take_row, pure_d, re_d, hf, go_sem, -List.set_cons_succ, -List.set_cons_zero]
  refine (cloneI_calls l hll _).mono fun r H' hr => ?_
  rcases hr with ⟨rfl, rfl, rfl⟩ | ⟨hne, rfl, rfl⟩
  · refine ⟨H, [.cells [.d (.sl (p.map Cl.row))], .cells (t.row.map .d), .cells [.d (.str t.key)]], .c (.full []), by simp [Ob.re, C.re, re_d], rfl, by simp, hf, rfl, ?_⟩
    simp -implicitDefEqProofs [hf, go_sem, -List.set_cons_succ, -List.set_cons_zero]
    refine call_same (delNil_calls _ _) (by simp [Ob.re, C.re, re_d]) rfl hf ?_
    simp -implicitDefEqProofs [fitL, keepI, intRows, go_sem, -List.set_cons_succ, -List.set_cons_zero]
  · refine ⟨H, [.cells [.d (.sl (p.map Cl.row))], .cells (t.row.map .d), .cells [.d (.str t.key)], .rows (intRows l)], .c (.fsl (.l 3) l.length 1), by simp [Ob.re, C.re, re_d], rfl, by simp, hf, by simp [A.re, C.re, Ref.re], ?_⟩
    simp -implicitDefEqProofs [hf, row_len, take_row, pure_d, re_d, go_sem, -List.set_cons_succ, -List.set_cons_zero]
    have hget : ∀ j, (H ++ [.cells [.d (.sl (p.map Cl.row))], .cells (t.row.map .d), .cells [.d (.str t.key)], .rows (intRows l)])[H.length + j]? = ([.cells [.d (.sl (p.map Cl.row))], .cells (t.row.map .d), .cells [.d (.str t.key)], .rows (intRows l)] : Heap)[j]? := fun j => by
      rw [List.getElem?_append_right (by omega), Nat.add_sub_cancel_left]
    have hlt0 := (List.getElem?_eq_some_iff.1 hH).1
    have hd := delI_calls (q := strikeK p t.key) (g := 57) (caps := [(H.length, 0), (H.length + 2, 0)]) (H := H ++ [.cells [.d (.sl (p.map Cl.row))], .cells (t.row.map .d), .cells [.d (.str t.key)], .rows (intRows l)]) l hll (H.length + 3) (hget 3) (fun rs x hx => by
      refine fit1_calls hT p hp t.key x (hl x hx) _ H.length (H.length + 2) ?_ ?_ ?_
      · rw [List.getElem?_set_ne (by omega), List.getElem?_append_left hlt0]; exact hH
      · rw [List.getElem?_set_ne (by omega)]; exact hget 0
      · rw [List.getElem?_set_ne (by omega)]; exact hget 2)
    refine hd.mono fun r H' hr => ?_
    rcases hr with ⟨rfl, rfl, e3⟩ | ⟨rfl, rfl⟩
    · refine ⟨H, [.cells [.d (.sl (p.map Cl.row))], .cells (t.row.map .d), .cells [.d (.str t.key)], .rows (intRows l)], .c (.fsl (.l 3) l.length 1), by simp [Ob.re, C.re, re_d], rfl, by simp, hf, by simp [A.re, C.re, Ref.re], ?_⟩
      simp -implicitDefEqProofs [fitL, e3, go_sem, -List.set_cons_succ, -List.set_cons_zero]
    · have hkl := keepI_len (strikeK p t.key) l
      refine ⟨H, [.cells [.d (.sl (p.map Cl.row))], .cells (t.row.map .d), .cells [.d (.str t.key)], .rows (intRows (keepI (strikeK p t.key) l) ++ zerosI (l.length - (keepI (strikeK p t.key) l).length))], .c (.psl (.l 3) 0 (keepI (strikeK p t.key) l).length 1), ?_, rfl, by simp, hf, by simp [A.re, C.re, Ref.re], ?_⟩
      · rw [List.set_append_right _ _ (by omega), Nat.add_sub_cancel_left]
        simp [Ob.re, C.re, re_d]
      · have htk : (intRows (keepI (strikeK p t.key) l) ++ zerosI (l.length - (keepI (strikeK p t.key) l).length)).take (keepI (strikeK p t.key) l).length = intRows (keepI (strikeK p t.key) l) := by
          rw [List.take_append_of_le_length (by rw [intRows_len]; exact Nat.le_refl _), List.take_of_length_le (by rw [intRows_len]; exact Nat.le_refl _)]
        simp -implicitDefEqProofs [fitL, htk, go_sem, -List.set_cons_succ, -List.set_cons_zero]
/-- the clauses for a goal -/
def forB (p : List Cl) (t : Tm) : List Int := if (progB p && t.valid && t.plain) = true then forI p t p.length else []
/-- the candidates for a goal -/
def candB (p : List Cl) (t : Tm) : List Int := fitL p t.key (forB p t)
theorem forB_no {p : List Cl} {t : Tm} (h : (progB p && t.valid && t.plain) = false) : forB p t = [] := by simp [forB, h]
theorem forB_yes {p : List Cl} {t : Tm} (h1 : progB p = true) (h2 : t.valid = true) (h3 : t.plain = true) : forB p t = forI p t p.length := by simp [forB, h1, h2, h3]
theorem forB_ok (p : List Cl) (t : Tm) : (forB p t).length ≤ p.length ∧ ∀ x ∈ forB p t, 0 ≤ x ∧ x < p.length := by
  unfold forB
  split
  · exact ⟨forI_len p t _, fun x hx => forI_mem p t _ x hx⟩
  · exact ⟨by simp, by simp⟩
theorem cfI_calls (p : List Cl) (hp : FitsC p) (t : Tm) (ht : t.fits) (H : Heap) : ACalls Tryd.prog 32 [.c (.d (.sl (p.map Cl.row))), .agg (t.row.map .d)] H
    (fun r H' => H' = H ∧ r = .c (.d (.sl (intRows (forB p t))))) := by
  refine acalls Tryd.func32 (by kernel_rfl) ac32_ok fun hf => ?_
  simp -implicitDefEqProofs [ac32, row_len, take_row, pure_d, re_d, hf, go_sem, -List.set_cons_succ, -List.set_cons_zero]
  refine qcall_pure (pvImpl_calls p hp) hf rfl ?_
  cases hv : progB p with
  | false => rw [forB_no (by simp -implicitDefEqProofs [hv])]; simp -implicitDefEqProofs [row_len, take_row, pure_d, re_d, intRows, go_sem, -List.set_cons_succ, -List.set_cons_zero]
  | true =>
    simp -implicitDefEqProofs [row_len, take_row, pure_d, re_d, hf, go_sem, -List.set_cons_succ, -List.set_cons_zero]
    refine qcall_pure (tvImpl_calls t ht) hf rfl ?_
    cases hw : t.valid with
    | false => rw [forB_no (by simp -implicitDefEqProofs [hw])]; simp -implicitDefEqProofs [row_len, take_row, pure_d, re_d, intRows, go_sem, -List.set_cons_succ, -List.set_cons_zero]
    | true =>
      simp -implicitDefEqProofs [row_len, take_row, pure_d, re_d, hf, go_sem, -List.set_cons_succ, -List.set_cons_zero]
      refine qcall_pure (plainImpl_calls t ht) hf rfl ?_
      cases hq : t.plain with
      | false => rw [forB_no (by simp -implicitDefEqProofs [hq])]; simp -implicitDefEqProofs [row_len, take_row, pure_d, re_d, intRows, go_sem, -List.set_cons_succ, -List.set_cons_zero]
      | true =>
        simp -implicitDefEqProofs [row_len, take_row, pure_d, re_d, hf, go_sem, -List.set_cons_succ, -List.set_cons_zero]
        refine qcall_pure (pred_calls t ht) hf rfl ?_
        simp -implicitDefEqProofs [go_sem, -List.set_cons_succ, -List.set_cons_zero]
        refine qcall_pure (cfor_calls p hp t ht) hf rfl ?_
        rw [forB_yes hv hw hq]
        simp -implicitDefEqProofs [go_sem, -List.set_cons_succ, -List.set_cons_zero]
theorem candI_calls {g : Nat} {o : Obj} (hT : Tab g o) (p : List Cl) (hp : FitsC p) (t : Tm) (ht : t.fits) (H : Heap) (hH : H[0]? = some (.tab g o)) :
    ACalls Tryd.prog 10 [.c (.d (.sl (p.map Cl.row))), .agg (t.row.map .d)] H (fun r H' => H' = H ∧ r = .c (.d (.sl (intRows (candB p t))))) := by
  have hpl := hp.1
  refine acalls Tryd.func10 (by kernel_rfl) ac10_ok fun hf => ?_
  simp -implicitDefEqProofs [ac10, row_len, take_row, pure_d, re_d, hf, go_sem, -List.set_cons_succ, -List.set_cons_zero]
  refine qcall_pure (cfI_calls p hp t ht) hf rfl ?_
  simp -implicitDefEqProofs [row_len, take_row, pure_d, re_d, hf, go_sem, -List.set_cons_succ, -List.set_cons_zero]
  obtain ⟨h1, h2⟩ := forB_ok p t
  refine qcall_tab (fitting_calls hT p hp t ht _ (by omega) h2) hf hH rfl ?_
  simp -implicitDefEqProofs [candB, go_sem, -List.set_cons_succ, -List.set_cons_zero]
theorem l7C_calls (p : List Cl) (hp : FitsC p) (hv : progB p = true) (t : Tm) (ht : t.fits) (htv : t.valid = true) (H : Heap) : ACalls Tryd.prog 28 [.c (.d (.sl (p.map Cl.row))), .agg (t.row.map .d)] H
    (fun r H' => H' = H ∧ r = .c (.d (.sl (intRows (fitL p t.key (forI p t p.length)))))) := by
  have hpl := hp.1
  refine acalls Tryd.func28 (by kernel_rfl) ac28_ok fun hf => ?_
  simp -implicitDefEqProofs [ac28, row_len, take_row, pure_d, re_d, hf, go_sem, -List.set_cons_succ, -List.set_cons_zero]
  refine qcall_pure (l4For_calls p hp t ht) hf rfl ?_
  have hll := forI_len p t p.length
  have hmem := forI_mem p t p.length
  generalize forI p t p.length = l at hll hmem
  have hli : inR .i64 (l.length : Int) := small_i64 (by omega) (by omega)
  simp -implicitDefEqProofs [row_len, take_row, pure_d, re_d, intRows_len, hli, go_sem, -List.set_cons_succ, -List.set_cons_zero]
  refine loop_enter (St.le_token 5 1 rfl) ?_
  refine loop_set (σ := Nat) (fun i => [(7, .c (.d (.int .i64 i))), (5, .c (.own (.l 1) (fitL p t.key (l.take i)).length (intRows (fitL p t.key (l.take i)))))]) (fun _ => H) (fun i => [.cells (t.row.map .d), .grow (fitL p t.key (l.take i)).length 1]) (fun i => i ≤ l.length) (fun i => l.length - i) 0 (by simp [setAll, fitL, keepI, intRows]) (Nat.zero_le _) ?_
  intro i hi
  have hfl : (fitL p t.key (l.take i)).length ≤ i := by have := keepI_len (strikeK p t.key) (l.take i); simp at this; unfold fitL; omega
  simp -implicitDefEqProofs [setAll, intRows_len, hli, go_sem, -List.set_cons_succ, -List.set_cons_zero]
  refine ⟨fun hlt => ?_, fun hge => ?_⟩
  · obtain ⟨c, hc, hcf, hcv, hck⟩ := head_calls hp hv (hmem _ (List.getElem_mem hlt))
    have c1 := l7Key_calls c.head hcf (valid_kids hcv)
    rw [row_eq] at c1
    simp only [List.map_cons, List.map_nil] at c1
    have hadd : inR .i64 ((i : Int) + 1) := small_i64 (by omega) (by omega)
    have hnx : fitL p t.key (l.take (i + 1)) = fitL p t.key (l.take i) ++ if strikeK p t.key l[i] = true then [] else [l[i]] := keepI_succ hlt
    refine row_int [.int .i64 l[i]] (by omega) (by simp [intRows, hlt]) rfl ?_
    simp -implicitDefEqProofs [row_len, take_row, pure_d, re_d, go_sem, -List.set_cons_succ, -List.set_cons_zero]
    refine row_int c.row (hmem _ (List.getElem_mem hlt)).1 (by simp [hc]) rfl ?_
    simp -implicitDefEqProofs [Cl.row, row_len, take_row, pure_d, re_d, go_sem, -List.set_cons_succ, -List.set_cons_zero]
    refine qcall_pure c1 hf rfl ?_
    simp -implicitDefEqProofs [row_len, take_row, pure_d, re_d, go_sem, -List.set_cons_succ, -List.set_cons_zero]
    refine qcall_pure (l7Key_calls t ht (valid_kids htv)) hf rfl ?_
    simp -implicitDefEqProofs [row_len, take_row, pure_d, re_d, go_sem, -List.set_cons_succ, -List.set_cons_zero]
    refine qcall_pure (kfSpec_calls _ _) hf rfl ?_
    have hst : strikeK p t.key l[i] = !kfit c.head.key t.key := by simp [strikeK, hck]
    cases hft : kfit c.head.key t.key with
    | true =>
      rw [hst, hft] at hnx
      simp at hnx
      simp -implicitDefEqProofs [go_sem, -List.set_cons_succ, -List.set_cons_zero]
      refine row_int [.int .i64 l[i]] (by omega) (by simp [intRows, hlt]) rfl ?_
      simp -implicitDefEqProofs [hadd, allLen_ints, go_sem, -List.set_cons_succ, -List.set_cons_zero]
      refine ⟨by rw [intRows_len]; unfold maxApp; omega, ?_⟩
      have hr : intRows (fitL p t.key (l.take i)) ++ [[D.int .i64 l[i]]] = intRows (fitL p t.key (l.take (i + 1))) := by rw [hnx]; simp [intRows]
      have hn : (fitL p t.key (l.take i)).length + 1 = (fitL p t.key (l.take (i + 1))).length := by rw [hnx]; simp
      rw [hr, hn]
      exact loop_back (i + 1) (by simp [setAll]) hlt (by show l.length - (i + 1) < l.length - i; omega)
    | false =>
      rw [hst, hft] at hnx
      simp at hnx
      simp -implicitDefEqProofs [hadd, go_sem, -List.set_cons_succ, -List.set_cons_zero]
      exact loop_back (i + 1) (by simp [setAll, hnx]) hlt (by show l.length - (i + 1) < l.length - i; omega)
  · obtain rfl : i = l.length := by omega
    simp
theorem candS_calls (p : List Cl) (hp : FitsC p) (t : Tm) (ht : t.fits) (H : Heap) :
    ACalls Tryd.prog 7 [.c (.d (.sl (p.map Cl.row))), .agg (t.row.map .d)] H (fun r H' => H' = H ∧ r = .c (.d (.sl (intRows (candB p t))))) := by
  have h0 : (progB p && t.valid && t.plain) = false → candB p t = [] := fun h => by rw [candB, forB_no h]; rfl
  refine acalls Tryd.func7 (by kernel_rfl) ac7_ok fun hf => ?_
  simp -implicitDefEqProofs [ac7, row_len, take_row, pure_d, re_d, hf, go_sem, -List.set_cons_succ, -List.set_cons_zero]
  refine qcall_pure (pvSpec_calls p hp) hf rfl ?_
  cases hv : progB p with
  | false => rw [h0 (by simp -implicitDefEqProofs [hv])]; simp -implicitDefEqProofs [row_len, take_row, pure_d, re_d, intRows, go_sem, -List.set_cons_succ, -List.set_cons_zero]
  | true =>
    simp -implicitDefEqProofs [row_len, take_row, pure_d, re_d, hf, go_sem, -List.set_cons_succ, -List.set_cons_zero]
    refine qcall_pure (tvSpec_calls t ht) hf rfl ?_
    cases hw : t.valid with
    | false => rw [h0 (by simp -implicitDefEqProofs [hw])]; simp -implicitDefEqProofs [row_len, take_row, pure_d, re_d, intRows, go_sem, -List.set_cons_succ, -List.set_cons_zero]
    | true =>
      simp -implicitDefEqProofs [row_len, take_row, pure_d, re_d, hf, go_sem, -List.set_cons_succ, -List.set_cons_zero]
      refine qcall_pure (plainSpec_calls t ht) hf rfl ?_
      cases hq : t.plain with
      | false => rw [h0 (by simp -implicitDefEqProofs [hq])]; simp -implicitDefEqProofs [row_len, take_row, pure_d, re_d, intRows, go_sem, -List.set_cons_succ, -List.set_cons_zero]
      | true =>
        simp -implicitDefEqProofs [row_len, take_row, pure_d, re_d, hf, go_sem, -List.set_cons_succ, -List.set_cons_zero]
        refine qcall_pure (l7C_calls p hp hv t ht hw) hf rfl ?_
        simp -implicitDefEqProofs [candB, forB_yes hv hw hq, go_sem, -List.set_cons_succ, -List.set_cons_zero]
end Go.Proofs.YtnljciooabmogaaDoor

/-
  Terms: how many there are.
  Conditions: none.
-/
open Go Go.AM Go.Proofs
namespace Go.Proofs.YtnljciooabmogaaDoor
open Go.ChangeShapes Go.WideShapes Go.ChangeAt Go.RowKit
set_option linter.unusedVariables false
set_option linter.unusedSimpArgs false
set_option maxRecDepth 100000
mutual
/-- what a law's size takes off for a term -/
def Tm.wt : Tm → Nat
  | .mk _ _ s l => s.length + Tm.wts l
def Tm.wts : List Tm → Nat
  | [] => 0
  | t :: l => 1 + t.wt + Tm.wts l
end
mutual
/-- the terms below a term -/
def Tm.sub : Tm → Nat
  | .mk _ _ _ l => Tm.cnt l
def Tm.cnt : List Tm → Nat
  | [] => 0
  | t :: l => 1 + t.sub + Tm.cnt l
end
theorem sub_mk (k n : Int) (s : List UInt8) (l : List Tm) : (Tm.mk k n s l).sub = Tm.cnt l := by rw [Tm.sub]
theorem cnt_nil : Tm.cnt [] = 0 := by rw [Tm.cnt]
theorem cnt_cons (t : Tm) (l : List Tm) : Tm.cnt (t :: l) = 1 + t.sub + Tm.cnt l := by rw [Tm.cnt]
theorem wts_cons (t : Tm) (l : List Tm) : Tm.wts (t :: l) = 1 + t.wt + Tm.wts l := by rw [Tm.wts]
theorem wts_append (l r : List Tm) : Tm.wts (l ++ r) = Tm.wts l + Tm.wts r := by
  induction l with
  | nil => simp [Tm.wts]
  | cons t l ih => rw [List.cons_append, wts_cons, wts_cons, ih]; omega
theorem cnt_append (l r : List Tm) : Tm.cnt (l ++ r) = Tm.cnt l + Tm.cnt r := by
  induction l with
  | nil => simp [Tm.cnt]
  | cons t l ih => rw [List.cons_append, cnt_cons, cnt_cons, ih]; omega
theorem cnt_take_succ (l : List Tm) {i : Nat} (h : i < l.length) : Tm.cnt (l.take (i + 1)) = Tm.cnt (l.take i) + 1 + l[i].sub := by
  rw [List.take_succ_eq_append_getElem h, cnt_append, cnt_cons, cnt_nil]; omega
theorem wts_take_succ (l : List Tm) {i : Nat} (h : i < l.length) : Tm.wts (l.take (i + 1)) = Tm.wts (l.take i) + 1 + l[i].wt := by
  rw [List.take_succ_eq_append_getElem h, wts_append, wts_cons, Tm.wts]; omega
theorem cnt_take_le (l : List Tm) (i : Nat) : Tm.cnt (l.take i) ≤ Tm.cnt l := by
  have := cnt_append (l.take i) (l.drop i)
  rw [List.take_append_drop] at this
  omega
theorem cnt_take_sub (l : List Tm) {i : Nat} (h : i < l.length) : Tm.cnt (l.take i) + 1 + l[i].sub ≤ Tm.cnt l := by
  rw [← cnt_take_succ l h]; exact cnt_take_le l _
theorem sub_wt : ∀ t : Tm, t.sub ≤ t.wt := by
  refine Tm.ind fun k n s l ih => ?_
  rw [Tm.sub, Tm.wt]
  have : Tm.cnt l ≤ Tm.wts l := by
    clear k n s
    induction l with
    | nil => simp [Tm.cnt]
    | cons t l ih2 =>
      rw [cnt_cons, wts_cons]
      have := ih t (by simp)
      have := ih2 fun t ht => ih t (by simp [ht])
      omega
  omega
theorem cnt_wts (l : List Tm) : Tm.cnt l ≤ Tm.wts l := by
  induction l with
  | nil => simp [Tm.cnt]
  | cons t l ih => rw [cnt_cons, wts_cons]; have := sub_wt t; omega
/-- what is left, where enough is -/
def LeftW (m : Int) (p : Prop) (w : Nat) (r : A) : Prop := ∃ q : Int, r = .c (.d (.int .i64 q)) ∧ -1 ≤ q ∧ q ≤ m ∧ (0 ≤ q → p ∧ q + w ≤ m)
theorem LeftW.re {n : Nat} {m : Int} {p : Prop} {w : Nat} {r : A} (h : LeftW m p w r) : A.re n r = r := by
  obtain ⟨q, rfl, _⟩ := h
  rfl
theorem LeftW.left {m : Int} {p : Prop} {w : Nat} {r : A} (h : LeftW m p w r) : Left m p r := by
  obtain ⟨q, h1, h2, h3, h4⟩ := h
  exact ⟨q, h1, h2, h3, fun h => (h4 h).1⟩
def SzW (t : Tm) : Prop := ∀ (m : Int), 0 ≤ m → m ≤ 1048576 → ∀ H, ACalls Tryd.prog 6 [.agg (t.row.map .d), .c (.d (.int .i64 m))] H (fun r H' => H' = H ∧ LeftW m t.fits t.wt r)
theorem szwTermS_of (l : List Tm) (hl : l.length ≤ reachBytes) (h : ∀ t ∈ l, SzW t) (m : Int) (h0 : 0 ≤ m) (h1 : m ≤ 1048576) (H : Heap) :
    ACalls Tryd.prog 24 [.c (.d (.sl (l.map Tm.row))), .c (.d (.int .i64 m))] H (fun r H' => H' = H ∧ LeftW m (l.length ≤ 1048576 ∧ ∀ t ∈ l, t.fits) (Tm.wts l) r) := by
  refine acalls Tryd.func24 (by kernel_rfl) ac24_ok fun hf => ?_
  have hlen := reach_i64 hl
  have hsm := reach_small hl
  have hsub : inR .i64 (m - (l.length : Int)) := small_i64 (by omega) (by omega)
  simp -implicitDefEqProofs [ac24, hlen, hsub, go_sem, -List.set_cons_succ, -List.set_cons_zero]
  refine ⟨fun _ => ⟨-1, rfl, by omega, by omega, fun h => by omega⟩, fun hge => ?_⟩
  have hsmall : l.length ≤ 1048576 := by omega
  refine loop_set (σ := Nat × Int) (fun x => [(5, .c (.d (.int .i64 x.1))), (1, .c (.d (.int .i64 x.2)))]) (fun _ => H) (fun _ => []) (fun x => x.1 ≤ l.length ∧ 0 ≤ x.2 ∧ x.2 + Tm.wts (l.take x.1) + (l.length - x.1 : Nat) ≤ m ∧ ∀ t ∈ l.take x.1, t.fits) (fun x => l.length - x.1) (0, m - l.length) rfl ⟨Nat.zero_le _, by simp; omega, by simp [Tm.wts], by simp⟩ ?_
  rintro ⟨i, k⟩ ⟨hi, hm0, hm1, hall⟩
  simp only at hi hm0 hm1 hall
  simp -implicitDefEqProofs [setAll, hlen, go_sem, -List.set_cons_succ, -List.set_cons_zero]
  refine ⟨fun hlt => ?_, fun hge => ⟨k, rfl, by omega, by omega, fun _ => ⟨⟨hsmall, by rw [List.take_of_length_le hge] at hall; exact hall⟩, by rw [List.take_of_length_le hge] at hm1; omega⟩⟩⟩
  refine row_of hlt (row_len _) ?_
  simp -implicitDefEqProofs [row_len, take_row, pure_d, re_d, go_sem, -List.set_cons_succ, -List.set_cons_zero]
  refine call_some (h l[i] (List.getElem_mem hlt) k hm0 (by omega) _) (by simp) (fun r => LeftW.re) hf ?_
  rintro _ ⟨q, rfl, hq0, hq1, hq2⟩
  have hadd : inR .i64 ((i : Int) + 1) := small_i64 (by omega) (by omega)
  simp -implicitDefEqProofs [hadd, go_sem, -List.set_cons_succ, -List.set_cons_zero]
  refine ⟨fun _ => ⟨-1, rfl, by omega, by omega, fun h => by omega⟩, fun hk => ?_⟩
  have hw := wts_take_succ l hlt
  have hq3 := (hq2 hk).2
  refine loop_back (i + 1, q) (by simp [setAll]) ⟨hlt, hk, by simp only [hw]; omega, fun t ht => ?_⟩ (by show l.length - (i + 1) < l.length - i; omega)
  rw [List.take_succ_eq_append_getElem hlt, List.mem_append] at ht
  rcases ht with ht | ht
  · exact hall t ht
  · simp at ht; subst ht; exact (hq2 hk).1
theorem szwTerm_calls : ∀ t : Tm, t.fine → SzW t := by
  refine Tm.ind fun k n s l ih hfine m h0 h1 H => ?_
  obtain ⟨hk, hn, hs, hl, hkids⟩ := hfine
  refine acalls Tryd.func6 (by kernel_rfl) ac6_ok fun hf => ?_
  have hlen := reach_i64 hs
  have hsm := reach_small hs
  have hsub : inR .i64 (m - (s.length : Int)) := small_i64 (by omega) (by omega)
  simp -implicitDefEqProofs [ac6, row_mk, hlen, hsub, go_sem, -List.set_cons_succ, -List.set_cons_zero]
  refine ⟨fun _ => ⟨-1, rfl, by omega, by omega, fun h => by omega⟩, fun hge => ?_⟩
  refine call_some (szwTermS_of l hl (fun t ht => ih t ht (hkids t ht)) (m - s.length) (by omega) (by omega) _) (by simp [Ob.re, C.re]) (fun r => LeftW.re) hf ?_
  rintro _ ⟨q, rfl, hq0, hq1, hq2⟩
  simp -implicitDefEqProofs [go_sem, -List.set_cons_succ, -List.set_cons_zero]
  exact ⟨fun _ => ⟨-1, rfl, by omega, by omega, fun h => by omega⟩, fun hq => ⟨q, rfl, by omega, by omega, fun _ => ⟨.mk hk hn (by omega) (hq2 hq).1.1 (hq2 hq).1.2, by have := (hq2 hq).2; rw [Tm.wt]; omega⟩⟩⟩
theorem szwTermS_calls (l : List Tm) (hl : l.length ≤ reachBytes) (h : ∀ t ∈ l, t.fine) (m : Int) (h0 : 0 ≤ m) (h1 : m ≤ 1048576) (H : Heap) :
    ACalls Tryd.prog 24 [.c (.d (.sl (l.map Tm.row))), .c (.d (.int .i64 m))] H (fun r H' => H' = H ∧ LeftW m (l.length ≤ 1048576 ∧ ∀ t ∈ l, t.fits) (Tm.wts l) r) :=
  szwTermS_of l hl (fun t ht => szwTerm_calls t (h t ht)) m h0 h1 H
end Go.Proofs.YtnljciooabmogaaDoor

/-
  Rows that are marked one after the other.
  Conditions: none.
-/
open Go Go.AM Go.Proofs
namespace Go.Proofs.YtnljciooabmogaaDoor
set_option linter.unusedVariables false
set_option linter.unusedSimpArgs false
/-- the first i rows are new ones -/
def mixed {α : Type} (f : Nat → α) (rows : List α) (i : Nat) : List α := (List.range i).map f ++ rows.drop i
theorem mixed_zero {α : Type} (f : Nat → α) (rows : List α) : mixed f rows 0 = rows := by simp [mixed]
theorem mixed_all {α : Type} (f : Nat → α) (rows : List α) : mixed f rows rows.length = (List.range rows.length).map f := by simp [mixed]
theorem mixed_len {α : Type} (f : Nat → α) (rows : List α) {i : Nat} (h : i ≤ rows.length) : (mixed f rows i).length = rows.length := by simp [mixed]; omega
theorem mixed_get {α : Type} (f : Nat → α) (rows : List α) {i : Nat} (h : i < rows.length) : (mixed f rows i)[i]? = some rows[i] := by
  rw [mixed, List.getElem?_append_right (by simp)]
  simp [h]
theorem mixed_set {α : Type} (f : Nat → α) (rows : List α) {i : Nat} (h : i < rows.length) : (mixed f rows i).set i (f i) = mixed f rows (i + 1) := by
  rw [mixed, mixed, List.set_append_right _ _ (by simp), List.drop_eq_getElem_cons h, List.range_succ]
  simp only [List.length_map, List.length_range, Nat.sub_self, List.set_cons_zero, List.map_append, List.map_cons, List.map_nil, List.append_assoc, List.cons_append, List.nil_append]
theorem mixed_get' {α : Type} (f : Nat → α) (rows : List α) {i j : Nat} (h : i ≤ rows.length) : (mixed f rows i)[j]? = if j < i then some (f j) else rows[j]? := by
  rw [mixed]
  by_cases hj : j < i
  · rw [List.getElem?_append_left (by simpa using hj), if_pos hj]; simp [hj]
  · rw [List.getElem?_append_right (by simp; omega), if_neg hj, List.getElem?_drop]
    congr 1
    simp; omega
theorem range_row {f : Nat → List D} {n i : Nat} (h : i < n) : ((List.range n).map f)[i]? = some (f i) := by simp [h]
end Go.Proofs.YtnljciooabmogaaDoor

/-
  The law's text for a mark.
  Conditions: none.
-/
open Go Go.AM Go.Proofs
namespace Go.Proofs.YtnljciooabmogaaDoor
open Go.ChangeShapes Go.WideShapes Go.ChangeAt Go.RowKit
set_option linter.unusedVariables false
set_option linter.unusedSimpArgs false
set_option maxRecDepth 100000
-- 35 loop.example/prologserver/laws.markText params 1 ntmps 20
-- loop head live: [0,3]
def ac35 : Cd := .seq (.region [⟨(some 2),.mv (.k (.c (.d (.str [])))),none⟩] [2])
 (.seq (.seq (.region [⟨(some 4),.mv (.t 0),none⟩,
 ⟨(some 5),.bin .leq (.t 4) (.k (.c (.d (.int .i64 0)))),none⟩] [4])
 (.cond (.t 5)
 (.seq (.region [⟨(some 2),.mv (.k (.c (.d (.str [109,48])))),none⟩] [0,5])
 (.ret))
 (.skip)))
 (.seq (.region [⟨(some 3),.mv (.k (.c (.d (.str [])))),none⟩] [2,5])
 (.seq (.block 0 (.loop (.seq (.seq (.region [⟨(some 6),.mv (.t 0),none⟩,
 ⟨(some 7),.bin .gtr (.t 6) (.k (.c (.d (.int .i64 0)))),none⟩] [6])
 (.cond (.t 7)
 (.skip)
 (.exit 0)))
 (.block 1 (.seq (.region [⟨(some 8),.mv (.t 0),none⟩,
 ⟨(some 9),.bin .rem (.t 8) (.k (.c (.d (.int .i64 10)))),none⟩,
 ⟨(some 10),.bin .add (.k (.c (.d (.int .i64 48)))) (.t 9),none⟩,
 ⟨(some 11),.cvInt .u8 (.t 10),none⟩,
 ⟨(some 12),.buildSlice 1 1 [(.int .u8 0)] [(0,(.t 11))],none⟩,
 ⟨(some 13),.cvB2S (.t 12),none⟩,
 ⟨(some 14),.mv (.t 3),none⟩,
 ⟨(some 15),.bin .add (.t 13) (.t 14),none⟩,
 ⟨(some 3),.mv (.t 15),none⟩] [7,8,9,10,11,12,13,14,15])
 (.region [⟨(some 16),.mv (.t 0),none⟩,
 ⟨(some 17),.bin .quo (.t 16) (.k (.c (.d (.int .i64 10)))),none⟩,
 ⟨(some 0),.mv (.t 17),none⟩] [16,17]))))))
 (.seq (.region [⟨(some 18),.mv (.t 3),none⟩,
 ⟨(some 19),.bin .add (.k (.c (.d (.str [109])))) (.t 18),none⟩,
 ⟨(some 2),.mv (.t 19),none⟩] [3,18,19])
 (.ret)))))
theorem ac35_ok : cFunc Tryd.prog [] [(0,[2],[]),(1,[4],[]),(2,[0,5],[]),(3,[2,5],[]),(4,[6],[]),(5,[7,8,9,10,11,12,13,14,15],[]),(6,[16,17],[]),(7,[3,18,19],[])] Tryd.f35 = some (ac35,[.tmp 2],20) := by kernel_rfl
def digs (k : Nat) (out : List UInt8) : List UInt8 := if h : k = 0 then out else digs (k / 10) (UInt8.ofNat (48 + k % 10) :: out)
termination_by k
decreasing_by omega
theorem digs_go {k : Nat} {out : List UInt8} (h : 0 < k) : digs k out = digs (k / 10) (UInt8.ofNat (48 + k % 10) :: out) := by rw [digs, dif_neg (by omega)]
theorem digs_zero (out : List UInt8) : digs 0 out = out := by rw [digs, dif_pos rfl]
def mText (k : Int) : List UInt8 := if k ≤ 0 then [109, 48] else 109 :: digs k.toNat []
theorem markText_calls (k : Int) (hk : k ≤ 1000000000000000) (H : Heap) : ACalls Tryd.prog 35 [.c (.d (.int .i64 k))] H (fun r H' => H' = H ∧ r = .c (.d (.str (mText k)))) := by
  refine acalls Tryd.func35 (by kernel_rfl) ac35_ok fun hf => ?_
  simp -implicitDefEqProofs [ac35, go_sem, -List.set_cons_succ, -List.set_cons_zero]
  refine ⟨fun h => by simp [mText, h], fun h => ?_⟩
  refine loop_set (σ := Nat × List UInt8) (fun x => [(0, .c (.d (.int .i64 x.1))), (3, .c (.d (.str x.2)))]) (fun _ => H) (fun _ => []) (fun x => x.1 + x.2.length ≤ k.toNat ∧ digs x.1 x.2 = digs k.toNat []) (fun x => x.1) (k.toNat, []) (by simp [setAll]; omega) ⟨by simp, rfl⟩ ?_
  rintro ⟨n, out⟩ ⟨h1, h2⟩
  simp only at h1 h2
  have hn : (n : Int) ≤ 1000000000000000 := by omega
  have hm : ((n : Int).tmod 10) = ((n % 10 : Nat) : Int) := by rw [Int.tmod_eq_emod_of_nonneg (by omega)]; omega
  have hd : ((n : Int).tdiv 10) = ((n / 10 : Nat) : Int) := by rw [Int.tdiv_eq_ediv_of_nonneg (by omega)]; omega
  have hr : inR .i64 (((n % 10 : Nat) : Int)) := small_i64 (by omega) (by omega)
  have hr2 : inR .i64 (48 + ((n % 10 : Nat) : Int)) := small_i64 (by omega) (by omega)
  have hq : inR .i64 ((n / 10 : Nat) : Int) := small_i64 (by omega) (by omega)
  have hw : IntKind.u8.wrap (48 + ((n % 10 : Nat) : Int)) = ((UInt8.ofNat (48 + n % 10)).toNat : Int) := by
    rw [UInt8.toNat_ofNat']
    simp [IntKind.wrap, IntKind.signed, IntKind.bits]
  have hb : [[D.int IntKind.u8 (IntKind.u8.wrap (48 + ((n % 10 : Nat) : Int)))]] = bytesRows [UInt8.ofNat (48 + n % 10)] := by rw [hw]; rfl
  simp only [Int.natCast_emod, Int.natCast_ediv, Int.cast_ofNat_Int] at hr hr2 hq hb
  simp -implicitDefEqProofs [setAll, hm, hd, hr, hr2, hq, go_sem, -List.set_cons_succ, -List.set_cons_zero]
  refine ⟨fun hlt => ?_, fun h0 => ⟨by unfold maxStr; omega, ?_⟩⟩
  · rw [hb]
    refine b2s_of ?_
    have hgo := digs_go (out := out) hlt
    simp -implicitDefEqProofs [hm, hd, hr, hr2, hq, go_sem, -List.set_cons_succ, -List.set_cons_zero]
    refine ⟨by unfold maxStr; omega, ?_⟩
    refine loop_back (n / 10, UInt8.ofNat (48 + n % 10) :: out) (by simp [setAll]) ⟨?_, by rw [← hgo]; exact h2⟩ (by show n / 10 < n; omega)
    simp
    omega
  · subst h0
    rw [digs_zero] at h2
    rw [mText, if_neg (by omega), h2]
end Go.Proofs.YtnljciooabmogaaDoor

/-
  Terms are marked, and looked at again.
  Conditions: none.
-/
open Go Go.AM Go.Proofs
namespace Go.Proofs.YtnljciooabmogaaDoor
open Go.ChangeShapes Go.WideShapes Go.ChangeAt Go.RowKit
set_option linter.unusedVariables false
set_option linter.unusedSimpArgs false
set_option maxRecDepth 100000
mutual
/-- a term that bears marks -/
def mTm (k : Int) : Tm → Tm
  | .mk _ _ _ l => .mk k (k + 1) (mText (k + 2)) (mTms (k + 3) l)
def mTms (k : Int) : List Tm → List Tm
  | [] => []
  | t :: l => mTm k t :: mTms (k + 3 + 3 * t.sub) l
end
theorem mTms_nil (k : Int) : mTms k [] = [] := by rw [mTms]
theorem mTms_cons (k : Int) (t : Tm) (l : List Tm) : mTms k (t :: l) = mTm k t :: mTms (k + 3 + 3 * t.sub) l := by rw [mTms]
theorem mTms_len : ∀ (k : Int) (l : List Tm), (mTms k l).length = l.length
  | k, [] => by rw [mTms]
  | k, t :: l => by rw [mTms_cons, List.length_cons, mTms_len, List.length_cons]
theorem mTms_get : ∀ (k : Int) (l : List Tm) (i : Nat) (h : i < l.length), (mTms k l)[i]? = some (mTm (k + 3 * Tm.cnt (l.take i)) l[i])
  | k, t :: l, 0, h => by rw [mTms_cons]; simp [Tm.cnt]
  | k, t :: l, i + 1, h => by
    rw [mTms_cons, List.getElem?_cons_succ, mTms_get _ l i (by simpa using h)]
    simp only [List.take_succ_cons, cnt_cons, List.getElem_cons_succ]
    congr 2
    simp only [Int.natCast_add]
    omega
theorem mTm_row (k : Int) (t : Tm) : (mTm k t).row = [.int .i64 k, .int .i64 (k + 1), .str (mText (k + 2)), .sl ((mTms (k + 3) t.kids).map Tm.row)] := by
  obtain ⟨a, n, s, l⟩ := t
  rw [mTm, row_mk]
  rfl
/-- a term's cells, its kids cut off -/
def srow (t : Tm) (v : Value) : List D := [.int .i64 t.k, .int .i64 t.n, .str t.s, .v v]
def ktree (t : Tm) (v : Value) : Ob := .tree v (t.kids.map Tm.row)
theorem strip_terms : ∀ (l : List Tm) (vs : List Value), vs.length = l.length → Strip (l.map Tm.row).flatten (List.zipWith srow l vs).flatten (List.zipWith ktree l vs)
  | [], [], _ => ⟨rfl, rfl⟩
  | [], _ :: _, h => by simp at h
  | _ :: _, [], h => by simp at h
  | t :: l, v :: vs, h => by
    simp only [List.map_cons, List.flatten_cons, List.zipWith_cons_cons, row_eq, srow, List.cons_append, List.nil_append]
    exact ⟨_, rfl, _, rfl, _, rfl, _, _, _, rfl, rfl, strip_terms l vs (by simpa using h)⟩
theorem strip_inv : ∀ (l : List Tm) (c : List D) (t : Heap), Strip (l.map Tm.row).flatten c t → ∃ vs : List Value, vs.length = l.length ∧ c = (List.zipWith srow l vs).flatten ∧ t = List.zipWith ktree l vs
  | [], c, t, ⟨h1, h2⟩ => ⟨[], rfl, h1, h2⟩
  | x :: l, c, t, h => by
    simp only [List.map_cons, List.flatten_cons, row_eq, List.cons_append, List.nil_append] at h
    obtain ⟨c1, rfl, c2, rfl, c3, rfl, v, c4, t4, rfl, rfl, h5⟩ := h
    obtain ⟨vs, h6, rfl, rfl⟩ := strip_inv l c4 t4 h5
    exact ⟨v :: vs, by simp [h6], rfl, rfl⟩
theorem zip_lens {l : List Tm} {vs : List Value} (h : vs.length = l.length) : (List.zipWith srow l vs).map List.length = (l.map Tm.row).map List.length := by
  refine List.ext_getElem? fun i => ?_
  rcases Nat.lt_or_ge i l.length with hi | hi
  · simp [List.getElem?_zipWith, hi, h, row_len, srow]
  · rw [List.getElem?_eq_none (by simp [h]; omega), List.getElem?_eq_none (by simp; omega)]
theorem term_rows (l : List Tm) : ∀ r ∈ l.map Tm.row, r.length = 4 := fun r hr => by obtain ⟨t, _, rfl⟩ := List.mem_map.1 hr; exact row_len t
theorem fits_trees {n : Nat} : ∀ {l : Heap}, l.all Ob.isTreeB = true → Obs.fits n 0 l
  | [], _ => trivial
  | o :: l, h => by
    simp only [List.all_cons, Bool.and_eq_true] at h
    refine ⟨?_, fits_trees h.2⟩
    cases o <;> first | trivial | cases h.1
theorem all_mixed {f : Nat → Ob} {l : Heap} {i : Nat} (hf : ∀ j, (f j).isTreeB = true) (hl : l.all Ob.isTreeB = true) : (mixed f l i).all Ob.isTreeB = true := by
  rw [List.all_eq_true] at hl ⊢
  intro o ho
  rcases List.mem_append.1 ho with h | h
  · obtain ⟨j, _, rfl⟩ := List.mem_map.1 h; exact hf j
  · exact hl o (List.mem_of_mem_drop h)
theorem zip_trees (l : List Tm) (vs : List Value) : (List.zipWith ktree l vs).all Ob.isTreeB = true := by
  induction l generalizing vs with
  | nil => rfl
  | cons t l ih =>
    cases vs with
    | nil => rfl
    | cons v vs => simp only [List.zipWith_cons_cons, List.all_cons, ih, Bool.and_true]; rfl
-- 36 loop.example/prologserver/laws.markTermS params 2 ntmps 42
-- loop head live: [0,1,5]
def ac36 : Cd := .seq (.region [⟨(some 4),.mv (.k (.c (.d (.int .i64 0)))),none⟩] [4])
 (.seq (.seq (.region [⟨(some 5),.mv (.k (.c (.d (.int .i64 0)))),none⟩] [])
 (.block 0 (.loop (.seq (.seq (.region [⟨(some 6),.mv (.t 5),none⟩,
 ⟨(some 7),.mv (.t 0),none⟩,
 ⟨(some 8),.len 1 (.t 7),none⟩,
 ⟨(some 9),.bin .lss (.t 6) (.t 8),none⟩] [6,7,8])
 (.cond (.t 9)
 (.skip)
 (.exit 0)))
 (.seq (.block 1 (.seq (.region [⟨(some 12),.mv (.t 0),none⟩,
 ⟨(some 13),.mv (.t 5),none⟩,
 ⟨(some 14),.mv (.t 1),none⟩,
 ⟨(some 15),.indexAddr 4 (.t 12) (.t 13),none⟩,
 ⟨(some 16),.fieldAddr 0 (.t 15),none⟩,
 ⟨none,.store 1 (.t 16) (.t 14),none⟩] [9,12,13,14,15,16])
 (.seq (.region [⟨(some 17),.mv (.t 1),none⟩,
 ⟨(some 18),.bin .add (.t 17) (.k (.c (.d (.int .i64 1)))),none⟩,
 ⟨(some 1),.mv (.t 18),none⟩] [17,18])
 (.seq (.region [⟨(some 19),.mv (.t 0),none⟩,
 ⟨(some 20),.mv (.t 5),none⟩,
 ⟨(some 21),.mv (.t 1),none⟩,
 ⟨(some 22),.indexAddr 4 (.t 19) (.t 20),none⟩,
 ⟨(some 23),.fieldAddr 1 (.t 22),none⟩,
 ⟨none,.store 1 (.t 23) (.t 21),none⟩] [19,20,21,22,23])
 (.seq (.region [⟨(some 24),.mv (.t 1),none⟩,
 ⟨(some 25),.bin .add (.t 24) (.k (.c (.d (.int .i64 1)))),none⟩,
 ⟨(some 1),.mv (.t 25),none⟩] [24,25])
 (.seq (.region [⟨(some 26),.mv (.t 0),none⟩,
 ⟨(some 27),.mv (.t 5),none⟩,
 ⟨(some 28),.mv (.t 1),none⟩,
 ⟨(some 29),.qcall 35 [(.t 28)],none⟩,
 ⟨(some 30),.indexAddr 4 (.t 26) (.t 27),none⟩,
 ⟨(some 31),.fieldAddr 2 (.t 30),none⟩,
 ⟨none,.store 1 (.t 31) (.t 29),none⟩] [26,27,28,29,30,31])
 (.seq (.region [⟨(some 32),.mv (.t 1),none⟩,
 ⟨(some 33),.bin .add (.t 32) (.k (.c (.d (.int .i64 1)))),none⟩,
 ⟨(some 1),.mv (.t 33),none⟩] [32,33])
 (.region [⟨(some 34),.mv (.t 0),none⟩,
 ⟨(some 35),.mv (.t 5),none⟩,
 ⟨(some 36),.indexAddr 4 (.t 34) (.t 35),none⟩,
 ⟨(some 37),.fieldAddr 3 (.t 36),none⟩,
 ⟨(some 38),.load none (.t 37),none⟩,
 ⟨(some 39),.mv (.t 1),none⟩,
 ⟨(some 40),.call false 36 [(.t 38),(.t 39)],none⟩,
 ⟨(some 1),.mv (.t 40),none⟩] [34,35,36,37,38,39,40]))))))))
 (.region [⟨(some 10),.mv (.t 5),none⟩,
 ⟨(some 11),.bin .add (.t 10) (.k (.c (.d (.int .i64 1)))),none⟩,
 ⟨(some 5),.mv (.t 11),none⟩] [10,11]))))))
 (.seq (.region [⟨(some 41),.mv (.t 1),none⟩,
 ⟨(some 4),.mv (.t 41),none⟩] [1,41])
 (.ret)))
theorem ac36_ok : cFunc Tryd.prog [1000035] [(0,[4],[]),(1,[],[]),(2,[6,7,8],[]),(4,[9,12,13,14,15,16],[]),(5,[17,18],[]),(6,[19,20,21,22,23],[]),(7,[24,25],[]),(8,[26,27,28,29,30,31],[]),(9,[32,33],[]),(10,[34,35,36,37,38,39,40],[]),(3,[10,11],[]),(11,[1,41],[])] Tryd.f36 = some (ac36,[.tmp 4],42) := by kernel_rfl
/-- a term's kids are marked -/
def MarkT (t : Tm) : Prop := ∀ (k : Int), 0 ≤ k → k + 3 * t.sub ≤ 500000000000000 → ∀ kv, ACalls Tryd.prog 36 [.c (.d (.v kv)), .c (.d (.int .i64 k))] [.tree kv (t.kids.map Tm.row)]
    (fun r H' => H' = [.tree kv ((mTms k t.kids).map Tm.row)] ∧ r = .c (.d (.int .i64 (k + 3 * t.sub))))
theorem markTermS_of (l : List Tm) (hl : l.length ≤ 1048576) (h : ∀ t ∈ l, MarkT t) (k : Int) (h0 : 0 ≤ k) (h1 : k + 3 * Tm.cnt l ≤ 500000000000000) (kv : Value) :
    ACalls Tryd.prog 36 [.c (.d (.v kv)), .c (.d (.int .i64 k))] [.tree kv (l.map Tm.row)]
    (fun r H' => H' = [.tree kv ((mTms k l).map Tm.row)] ∧ r = .c (.d (.int .i64 (k + 3 * Tm.cnt l)))) := by
  refine (acalls_tree (f := 36) (pre := []) (post := [.c (.d (.int .i64 k))]) (rows := l.map Tm.row) (Q := fun r rows' => r = .c (.d (.int .i64 (k + 3 * Tm.cnt l))) ∧ rows' = (mTms k l).map Tm.row) 4 (term_rows l) rfl rfl (fun he => ?_) (fun hne srows trs hst hlens => ?_) kv).mono fun r H' ⟨rows', h1, _, h2, h3⟩ => ⟨by rw [h1, h3], h2⟩
  · obtain rfl : l = [] := by simpa using he
    have hk0 : inR .i64 k := small_i64 (by simp [cnt_nil] at h1; omega) (by simp [cnt_nil] at h1; omega)
    have hz0 : inR .i64 0 := small_i64 (by omega) (by omega)
    refine acalls Tryd.func36 (by kernel_rfl) ac36_ok fun hf => ?_
    simp -implicitDefEqProofs [ac36, go_sem, -List.set_cons_succ, -List.set_cons_zero]
    refine loop_set (σ := Unit) (fun _ => [(5, .c (.d (.int .i64 0)))]) (fun _ => []) (fun _ => []) (fun _ => True) (fun _ => 0) () rfl trivial ?_
    intro _ _
    simp -implicitDefEqProofs [setAll, hz0, mTms_nil, cnt_nil, A.portT, A.portB, C.portB, D.leaf, go_sem, -List.set_cons_succ, -List.set_cons_zero]
  · obtain ⟨vs, hvl, hc, ht⟩ := strip_inv l _ _ hst
    obtain rfl := flatten_uniq hc (by rw [hlens, zip_lens hvl])
    subst ht
    obtain ⟨kk, hkk⟩ : ∃ kk : Nat → Int, ∀ j, kk j = k + 3 * (Tm.cnt (l.take j) : Int) := ⟨_, fun _ => rfl⟩
    have hvs : ∀ j (hj : j < l.length), vs[j]? = some (vs.getD j undef) := fun j hj => by simp [hvl, hj]
    obtain ⟨fr, hfr⟩ : ∃ fr : Nat → List D, ∀ j, fr j = srow (mTm (kk j) (l.getD j default)) (vs.getD j undef) := ⟨_, fun _ => rfl⟩
    obtain ⟨ft, hft⟩ : ∃ ft : Nat → Ob, ∀ j, ft j = ktree (mTm (kk j) (l.getD j default)) (vs.getD j undef) := ⟨_, fun _ => rfl⟩
    have hzl : (List.zipWith srow l vs).length = l.length := by simp [hvl]
    have hzt : (List.zipWith ktree l vs).length = l.length := by simp [hvl]
    refine acalls Tryd.func36 (by kernel_rfl) ac36_ok fun hf => ?_
    have hli : inR .i64 (l.length : Int) := small_i64 (by omega) (by omega)
    simp -implicitDefEqProofs [ac36, hli, go_sem, -List.set_cons_succ, -List.set_cons_zero]
    refine loop_set (σ := Nat) (fun i => [(5, .c (.d (.int .i64 i))), (1, .c (.d (.int .i64 (kk i))))]) (fun i => .rows (mixed fr (List.zipWith srow l vs) i) :: mixed ft (List.zipWith ktree l vs) i) (fun _ => []) (fun i => i ≤ l.length) (fun i => l.length - i) 0 (by simp [setAll, mixed_zero, hkk, cnt_nil]) (Nat.zero_le _) ?_
    intro i hi
    simp -implicitDefEqProofs [setAll, hli, go_sem, -List.set_cons_succ, -List.set_cons_zero]
    refine ⟨fun hlt => ⟨hlt, ?_⟩, fun hge => ?_⟩
    · have hs := cnt_take_sub l hlt
      have hki := hkk i
      have hlz : i < (List.zipWith srow l vs).length := by omega
      have hlt' : i < (List.zipWith ktree l vs).length := by omega
      have hlm : i < (mixed fr (List.zipWith srow l vs) i).length := by rw [mixed_len _ _ (by omega)]; exact hlz
      have hgs : ∀ r, ((mixed fr (List.zipWith srow l vs) i).set i r)[i]? = some r := fun r => List.getElem?_set_self hlm
      have hget : (mixed fr (List.zipWith srow l vs) i)[i]? = some [.int .i64 l[i].k, .int .i64 l[i].n, .str l[i].s, .v vs[i]] := by rw [mixed_get _ _ hlz]; simp [srow]
      have hgt : (mixed ft (List.zipWith ktree l vs) i)[i]? = some (.tree vs[i] (l[i].kids.map Tm.row)) := by rw [mixed_get _ _ hlt']; simp [ktree]
      have i0 : inR .i64 (kk i) := small_i64 (by omega) (by omega)
      have i1 : inR .i64 (kk i + 1) := small_i64 (by omega) (by omega)
      have i2 : inR .i64 (kk i + 1 + 1) := small_i64 (by omega) (by omega)
      have i3 : inR .i64 (kk i + 1 + 1 + 1) := small_i64 (by omega) (by omega)
      have hadd : inR .i64 ((i : Int) + 1) := small_i64 (by omega) (by omega)
      have hfx : ∀ rs, Obs.fits ((Ob.rows rs :: mixed ft (List.zipWith ktree l vs) i).length) 0 (Ob.rows rs :: mixed ft (List.zipWith ktree l vs) i) := fun rs => ⟨trivial, fits_trees (all_mixed (fun j => by rw [hft]; rfl) (zip_trees l vs))⟩
      simp -implicitDefEqProofs [hget, hgs, i0, i1, i2, i3, hadd, go_sem, -List.set_cons_succ, -List.set_cons_zero]
      refine ⟨hfx _, hlt, hfx _, qcall_pure (markText_calls _ (by omega)) (hfx _) rfl ?_⟩
      simp -implicitDefEqProofs [hget, hgs, hlt, i0, i1, i2, i3, hadd, go_sem, -List.set_cons_succ, -List.set_cons_zero]
      refine ⟨hfx _, call_ext (J := [i + 1]) (h l[i] (List.getElem_mem hlt) (kk i + 1 + 1 + 1) (by omega) (by omega) vs[i]) (fun r H' ⟨h1, h2⟩ => by subst h1; subst h2; exact ⟨⟨rfl, rfl⟩, rfl⟩) (by simp) (.cons (.c .d) (.cons (.c .d) .nil)) (by simp) (by simp [hgt]) rfl (hfx _) ?_⟩
      rintro _ _ ⟨rfl, rfl⟩
      simp -implicitDefEqProofs [putAll, hadd, go_sem, -List.set_cons_succ, -List.set_cons_zero]
      have hk1 : kk (i + 1) = kk i + 1 + 1 + 1 + 3 * (l[i].sub : Int) := by
        have := cnt_take_succ l hlt
        rw [hkk, hkk]; omega
      have hv : vs.getD i undef = vs[i] := by simp [hvl, hlt]
      have e1 := mixed_set fr (List.zipWith srow l vs) hlz
      have e2 := mixed_set ft (List.zipWith ktree l vs) hlt'
      have e3 : l.getD i default = l[i] := by simp [hlt]
      rw [hfr, e3, hv] at e1
      rw [hft, e3, hv] at e2
      have r1 : srow (mTm (kk i) l[i]) vs[i] = [.int .i64 (kk i), .int .i64 (kk i + 1), .str (mText (kk i + 1 + 1)), .v vs[i]] := by
        have := mTm_row (kk i) l[i]
        rw [row_eq] at this
        simp only [List.cons.injEq, D.int.injEq, D.str.injEq, D.sl.injEq, and_true, true_and] at this
        rw [srow, this.1, this.2.1, this.2.2.1, show kk i + 1 + 1 = kk i + 2 by omega]
      have r2 : ktree (mTm (kk i) l[i]) vs[i] = .tree vs[i] ((mTms (kk i + 1 + 1 + 1) l[i].kids).map Tm.row) := by
        have := mTm_row (kk i) l[i]
        rw [row_eq] at this
        simp only [List.cons.injEq, D.int.injEq, D.str.injEq, D.sl.injEq, and_true, true_and] at this
        rw [ktree, this.2.2.2, show kk i + 1 + 1 + 1 = kk i + 3 by omega]
      rw [r1] at e1
      rw [r2] at e2
      refine loop_back (i + 1) ?_ hlt (by show l.length - (i + 1) < l.length - i; omega)
      simp [setAll, hk1, ← e1, ← e2]
    · obtain rfl : i = l.length := by omega
      have e1 : mixed fr (List.zipWith srow l vs) l.length = List.zipWith srow (mTms k l) vs := by
        refine List.ext_getElem? fun j => ?_
        rw [mixed_get' _ _ (by omega)]
        by_cases hj : j < l.length
        · rw [if_pos hj, hfr, List.getElem?_zipWith, mTms_get k l j hj, hvs j hj, hkk]; simp [hj]
        · rw [if_neg hj, List.getElem?_eq_none (by omega), List.getElem?_eq_none (by simp [mTms_len]; omega)]
      have e2 : mixed ft (List.zipWith ktree l vs) l.length = List.zipWith ktree (mTms k l) vs := by
        refine List.ext_getElem? fun j => ?_
        rw [mixed_get' _ _ (by omega)]
        by_cases hj : j < l.length
        · rw [if_pos hj, hft, List.getElem?_zipWith, mTms_get k l j hj, hvs j hj, hkk]; simp [hj]
        · rw [if_neg hj, List.getElem?_eq_none (by omega), List.getElem?_eq_none (by simp [mTms_len]; omega)]
      have hml := mTms_len k l
      exact ⟨_, _, _, strip_terms (mTms k l) vs (by omega), by simp [hml], term_rows _, zip_lens (by omega), by simp [hml], ⟨e1, e2⟩, rfl, by rw [hkk, List.take_length], rfl⟩
theorem markT_calls : ∀ t : Tm, t.fits → MarkT t := by
  refine Tm.ind fun k n s l ih hfits a h0 h1 kv => ?_
  obtain ⟨_, _, _, hl, hkids⟩ := hfits
  rw [sub_mk] at h1 ⊢
  exact markTermS_of l hl (fun t ht => ih t ht (hkids t ht)) a h0 h1 kv
theorem markTermS_calls (l : List Tm) (hl : l.length ≤ 1048576) (h : ∀ t ∈ l, t.fits) (k : Int) (h0 : 0 ≤ k) (h1 : k + 3 * Tm.cnt l ≤ 500000000000000) (kv : Value) :
    ACalls Tryd.prog 36 [.c (.d (.v kv)), .c (.d (.int .i64 k))] [.tree kv (l.map Tm.row)]
    (fun r H' => H' = [.tree kv ((mTms k l).map Tm.row)] ∧ r = .c (.d (.int .i64 (k + 3 * Tm.cnt l)))) := markTermS_of l hl (fun t ht => markT_calls t (h t ht)) k h0 h1 kv
end Go.Proofs.YtnljciooabmogaaDoor

/-
  Copies of terms that stand in arrays of their own.
  Conditions: none.
-/
open Go Go.AM Go.Proofs
namespace Go.Proofs.YtnljciooabmogaaDoor
open Go.ChangeShapes Go.WideShapes Go.ChangeAt Go.RowKit
set_option linter.unusedVariables false
set_option linter.unusedSimpArgs false
set_option maxRecDepth 100000
namespace Own
-- 30 loop.example/prologserver/laws.toTermS params 1 ntmps 23
-- loop head live: [0,3,4]
def ac30 : Cd := .seq (.region [⟨(some 2),.mv (.k (.c (.full []))),none⟩] [2])
 (.seq (.region [⟨(some 5),.mv (.t 0),none⟩,
 ⟨(some 6),.len 1 (.t 5),none⟩,
 ⟨(some 7),.mkSlice [(.int .i64 0),(.int .i64 0),(.str []),(.sl [])] (.t 6),none⟩,
 ⟨(some 3),.mv (.t 7),none⟩] [5,6,7])
 (.seq (.seq (.region [⟨(some 4),.mv (.k (.c (.d (.int .i64 0)))),none⟩] [])
 (.block 0 (.loop (.seq (.seq (.region [⟨(some 8),.mv (.t 4),none⟩,
 ⟨(some 9),.mv (.t 0),none⟩,
 ⟨(some 10),.len 1 (.t 9),none⟩,
 ⟨(some 11),.bin .lss (.t 8) (.t 10),none⟩] [8,9,10])
 (.cond (.t 11)
 (.skip)
 (.exit 0)))
 (.seq (.block 1 (.region [⟨(some 14),.mv (.t 3),none⟩,
 ⟨(some 15),.mv (.t 4),none⟩,
 ⟨(some 16),.mv (.t 0),none⟩,
 ⟨(some 17),.mv (.t 4),none⟩,
 ⟨(some 18),.indexAddr 4 (.t 16) (.t 17),none⟩,
 ⟨(some 19),.load (some 4) (.t 18),none⟩,
 ⟨(some 20),.call false 9 [(.t 19)],none⟩,
 ⟨(some 21),.indexAddr 4 (.t 14) (.t 15),none⟩,
 ⟨none,.store 4 (.t 21) (.t 20),none⟩] [11,14,15,16,17,18,19,20,21]))
 (.region [⟨(some 12),.mv (.t 4),none⟩,
 ⟨(some 13),.bin .add (.t 12) (.k (.c (.d (.int .i64 1)))),none⟩,
 ⟨(some 4),.mv (.t 13),none⟩] [12,13]))))))
 (.seq (.region [⟨(some 22),.mv (.t 3),none⟩,
 ⟨(some 2),.mv (.t 22),none⟩] [3,22])
 (.ret))))
theorem ac30_ok : cFunc Tryd.prog [] [(0,[2],[]),(1,[5,6,7],[]),(2,[],[]),(3,[8,9,10],[]),(5,[11,14,15,16,17,18,19,20,21],[]),(4,[12,13],[]),(6,[3,22],[])] Tryd.f30 = some (ac30,[.tmp 2],23) := by kernel_rfl
-- 9 loop.example/prologserver/laws.toTerm params 1 ntmps 18
def ac9 : Cd := .seq (.region [⟨(some 1),.box (.t 0),none⟩,
 ⟨(some 2),.alloc [(.d (.int .i64 0)),(.d (.int .i64 0)),(.d (.str [])),(.full [])],none⟩] [0])
 (.seq (.region [⟨(some 3),.alloc [(.d (.int .i64 0)),(.d (.int .i64 0)),(.d (.str [])),(.full [])],none⟩] [])
 (.seq (.region [⟨(some 4),.fieldAddr 0 (.t 1),none⟩,
 ⟨(some 5),.load none (.t 4),none⟩,
 ⟨(some 6),.fieldAddr 0 (.t 3),none⟩,
 ⟨none,.store 1 (.t 6) (.t 5),none⟩] [4,5,6])
 (.seq (.region [⟨(some 7),.fieldAddr 1 (.t 1),none⟩,
 ⟨(some 8),.load none (.t 7),none⟩,
 ⟨(some 9),.fieldAddr 1 (.t 3),none⟩,
 ⟨none,.store 1 (.t 9) (.t 8),none⟩] [7,8,9])
 (.seq (.region [⟨(some 10),.fieldAddr 2 (.t 1),none⟩,
 ⟨(some 11),.load none (.t 10),none⟩,
 ⟨(some 12),.fieldAddr 2 (.t 3),none⟩,
 ⟨none,.store 1 (.t 12) (.t 11),none⟩] [10,11,12])
 (.seq (.region [⟨(some 13),.fieldAddr 3 (.t 1),none⟩,
 ⟨(some 14),.load none (.t 13),none⟩,
 ⟨(some 15),.call false 30 [(.t 14)],none⟩,
 ⟨(some 16),.fieldAddr 3 (.t 3),none⟩,
 ⟨none,.store 1 (.t 16) (.t 15),none⟩] [1,13,14,15,16])
 (.seq (.region [⟨(some 17),.load (some 4) (.t 3),none⟩,
 ⟨none,.store 4 (.t 2) (.t 17),none⟩] [3,17])
 (.ret)))))))
theorem ac9_ok : cFunc Tryd.prog [] [(0,[0],[]),(1,[],[]),(2,[4,5,6],[]),(3,[7,8,9],[]),(4,[10,11,12],[]),(5,[1,13,14,15,16],[]),(6,[3,17],[])] Tryd.f9 = some (ac9,[.cell 2 (some 4)],18) := by kernel_rfl
end Own
/-- what is handed out: rows in an array of their own -/
def HandsRows (rows : List (List D)) (r : A) (H : Heap) : Prop := ∃ v : Value, r = .c (.d (.v v)) ∧ H = [.tree v rows]
theorem HandsRows.handed {rows : List (List D)} {r : A} {H : Heap} (h : HandsRows rows r H) : Handed r H := by
  obtain ⟨v, rfl, rfl⟩ := h
  exact ⟨rfl, rfl⟩
/-- .. a term -/
def HandsTm (t : Tm) (r : A) (H : Heap) : Prop := ∃ v : Value, r = .agg [.d (.int .i64 t.k), .d (.int .i64 t.n), .d (.str t.s), .d (.v v)] ∧ H = [.tree v (t.kids.map Tm.row)]
theorem HandsTm.handed {t : Tm} {r : A} {H : Heap} (h : HandsTm t r H) : Handed r H := by
  obtain ⟨v, rfl, rfl⟩ := h
  exact ⟨rfl, rfl⟩
def zrow : List D := [.int .i64 0, .int .i64 0, .str [], .sl []]
/-- rows of which the first are made -/
def fillv (l : List Tm) (vs : List Value) : List (List D) := List.zipWith srow l vs ++ List.replicate (l.length - vs.length) zrow
theorem fillv_nil (l : List Tm) : fillv l [] = List.replicate l.length zrow := by simp [fillv]
theorem fillv_all {l : List Tm} {vs : List Value} (h : vs.length = l.length) : fillv l vs = List.zipWith srow l vs := by simp [fillv, h]
theorem fillv_get {l : List Tm} {vs : List Value} (h : vs.length < l.length) : (fillv l vs)[vs.length]? = some zrow := by
  rw [fillv, List.getElem?_append_right (by simp; omega)]
  have : vs.length - (List.zipWith srow l vs).length = 0 := by simp; omega
  rw [this, List.getElem?_replicate, if_pos (by omega)]
theorem zip_snoc {α β γ : Type} (f : α → β → γ) (l : List α) (vs : List β) (v : β) (h : vs.length < l.length) : List.zipWith f l (vs ++ [v]) = List.zipWith f l vs ++ [f l[vs.length] v] := by
  induction vs generalizing l with
  | nil => cases l with
    | nil => simp at h
    | cons x l => simp
  | cons w vs ih => cases l with
    | nil => simp at h
    | cons x l => simp only [List.cons_append, List.zipWith_cons_cons, List.length_cons, List.getElem_cons_succ]; rw [ih l (by simpa using h)]
theorem fillv_set {l : List Tm} {vs : List Value} (v : Value) (h : vs.length < l.length) : (fillv l vs).set vs.length (srow l[vs.length] v) = fillv l (vs ++ [v]) := by
  have e : l.length - vs.length = (l.length - (vs ++ [v]).length) + 1 := by simp; omega
  rw [fillv, fillv, List.set_append_right _ _ (by simp; omega), zip_snoc _ _ _ _ h, e, List.replicate_succ]
  have : vs.length - (List.zipWith srow l vs).length = 0 := by simp; omega
  rw [this]
  simp
def ToO (t : Tm) : Prop := ACalls Tryd.prog 9 [.agg (t.row.map .d)] [] (HandsTm t)
theorem toTermSOwn_of (l : List Tm) (hl : l.length ≤ 1048576) (h : ∀ t ∈ l, ToO t) : ACalls Tryd.prog 30 [.c (.d (.sl (l.map Tm.row)))] [] (HandsRows (l.map Tm.row)) := by
  refine acallsT Tryd.func30 (by kernel_rfl) Own.ac30_ok ?_
  have hli : inR .i64 (l.length : Int) := small_i64 (by omega) (by omega)
  simp -implicitDefEqProofs [Own.ac30, hli, go_sem, -List.set_cons_succ, -List.set_cons_zero]
  refine ⟨by unfold maxApp; omega, ?_⟩
  refine loop_set (σ := List Value) (fun vs => [(4, .c (.d (.int .i64 vs.length)))]) (fun _ => []) (fun vs => .rows (fillv l vs) :: List.zipWith ktree l vs) (fun vs => vs.length ≤ l.length) (fun vs => l.length - vs.length) [] (by simp [setAll, fillv_nil, zrow]) (Nat.zero_le _) ?_
  intro vs hi
  simp -implicitDefEqProofs [setAll, hli, go_sem, -List.set_cons_succ, -List.set_cons_zero]
  refine ⟨fun hlt => ?_, fun hge => ?_⟩
  · have hadd : inR .i64 ((vs.length : Int) + 1) := small_i64 (by omega) (by omega)
    refine row_of hlt (row_len _) ?_
    simp -implicitDefEqProofs [row_len, take_row, pure_d, re_d, go_sem, -List.set_cons_succ, -List.set_cons_zero]
    refine call_loc (J := []) (h l[vs.length] (List.getElem_mem hlt)) (fun r H' h => h.handed) (by simp [ktree, Ob.re, List.map_zipWith]) (.cons (.agg (fzCs_id _)) .nil) List.nodup_nil rfl rfl ?_
    rintro _ _ ⟨v, rfl, rfl⟩ _
    simp -implicitDefEqProofs [putAll, hadd, hlt, fillv_get hlt, zrow, go_sem, -List.set_cons_succ, -List.set_cons_zero]
    have hset := fillv_set v hlt
    rw [srow] at hset
    rw [hset]
    refine loop_back (vs ++ [v]) ?_ (by simp; omega) (by show l.length - (vs ++ [v]).length < l.length - vs.length; simp; omega)
    simp [setAll, zip_snoc ktree l vs v hlt]
    rfl
  · have hvl : vs.length = l.length := by omega
    have hn : (0 :: List.range' 1 vs.length).Nodup := List.nodup_cons.2 ⟨by simp, List.nodup_range'⟩
    refine finT_ret _ ⟨trivial, trivial⟩ rfl fun kv => ⟨_, _, _, .one (.c (.fsl (js := List.range' 1 vs.length) rfl (by rw [fillv_all hvl]; exact strip_terms l vs hvl) (by rw [fillv_all hvl, zip_lens hvl]) (fun m hm => ?_))), by simpa using hn, _, rfl, rfl⟩
    have hm' : m < vs.length := by simp at hm; omega
    exact ⟨1 + m, by simp [hm'], by rw [Nat.add_comm]; simp⟩
theorem toO_calls : ∀ t : Tm, t.fits → ToO t := by
  refine Tm.ind fun k n s l ih hfits => ?_
  obtain ⟨hk, hn, hs, hl, hkids⟩ := hfits
  refine acallsT Tryd.func9 (by kernel_rfl) Own.ac9_ok ?_
  simp -implicitDefEqProofs [Own.ac9, row_mk, go_sem, -List.set_cons_succ, -List.set_cons_zero]
  refine call_loc (J := []) (toTermSOwn_of l hl fun t ht => ih t ht (hkids t ht)) (fun r H' h => h.handed) rfl (.cons (.c .d) .nil) List.nodup_nil rfl rfl ?_
  rintro _ _ ⟨v, rfl, rfl⟩ _
  simp -implicitDefEqProofs [putAll, go_sem, -List.set_cons_succ, -List.set_cons_zero]
  exact finT_ret _ ⟨trivial, trivial⟩ rfl fun kv => ⟨_, _, _, .one (.agg (.cons (.leaf rfl) (.cons (.leaf rfl) (.cons (.leaf rfl) (.cons (.tree (j := 3) rfl) .nil))))), by simp, _, rfl, rfl⟩
theorem toTermSOwn_calls (l : List Tm) (hl : l.length ≤ 1048576) (h : ∀ t ∈ l, t.fits) : ACalls Tryd.prog 30 [.c (.d (.sl (l.map Tm.row)))] [] (HandsRows (l.map Tm.row)) :=
  toTermSOwn_of l hl fun t ht => toO_calls t (h t ht)
end Go.Proofs.YtnljciooabmogaaDoor

/-
  A term's kids are marked, and looked at again.
  Conditions: none.
-/
open Go Go.AM Go.Proofs
namespace Go.Proofs.YtnljciooabmogaaDoor
open Go.ChangeShapes Go.WideShapes Go.ChangeAt Go.RowKit
set_option linter.unusedVariables false
set_option linter.unusedSimpArgs false
set_option maxRecDepth 100000
-- 15 loop.example/prologserver/laws.markTerm params 2 ntmps 10
def ac15 : Cd := .seq (.region [⟨(some 2),.box (.t 0),none⟩,
 ⟨(some 4),.mv (.k (.c (.d (.int .i64 0)))),none⟩] [0,4])
 (.seq (.region [⟨(some 5),.fieldAddr 3 (.t 2),none⟩,
 ⟨(some 6),.load none (.t 5),none⟩,
 ⟨(some 7),.mv (.t 1),none⟩,
 ⟨(some 8),.call false 36 [(.t 6),(.t 7)],none⟩,
 ⟨(some 1),.mv (.t 8),none⟩] [2,5,6,7,8])
 (.seq (.region [⟨(some 9),.mv (.t 1),none⟩,
 ⟨(some 4),.mv (.t 9),none⟩] [1,9])
 (.ret)))
theorem ac15_ok : cFunc Tryd.prog [] [(0,[0,4],[]),(1,[2,5,6,7,8],[]),(2,[1,9],[])] Tryd.f15 = some (ac15,[.tmp 4],10) := by kernel_rfl
theorem markTerm_calls (t : Tm) (h : t.fits) (k : Int) (h0 : 0 ≤ k) (h1 : k + 3 * t.sub ≤ 500000000000000) (kv : Value) :
    ACalls Tryd.prog 15 [.agg [.d (.int .i64 t.k), .d (.int .i64 t.n), .d (.str t.s), .d (.v kv)], .c (.d (.int .i64 k))] [.tree kv (t.kids.map Tm.row)]
    (fun r H' => H' = [.tree kv ((mTms k t.kids).map Tm.row)] ∧ r = .c (.d (.int .i64 (k + 3 * t.sub)))) := by
  refine acalls Tryd.func15 (by kernel_rfl) ac15_ok fun hf => ?_
  simp -implicitDefEqProofs [ac15, go_sem, -List.set_cons_succ, -List.set_cons_zero]
  refine call_ext (J := [0]) (markT_calls t h k h0 h1 kv) (fun r H' ⟨h1, h2⟩ => by subst h1; subst h2; exact ⟨⟨rfl, rfl⟩, rfl⟩) rfl (.cons (.c .d) (.cons (.c .d) .nil)) (by simp) rfl rfl ⟨trivial, trivial⟩ ?_
  rintro _ _ ⟨rfl, rfl⟩
  simp -implicitDefEqProofs [putAll, go_sem, -List.set_cons_succ, -List.set_cons_zero]
theorem fz_tm {H : Heap} {i : Nat} {v : Value} {t : Tm} (h : H[i]? = some (.tree v (t.kids.map Tm.row))) : FzA H [] (.agg [.d (.int .i64 t.k), .d (.int .i64 t.n), .d (.str t.s), .d (.v v)]) (.agg (t.row.map .d)) := by
  rw [row_eq]
  exact .agg (.cons .d (.cons .d (.cons .d (.cons (.tree h (by simp)) .nil))))
theorem fz_row {H : Heap} {J : List Nat} {t : Tm} : FzA H J (.agg (t.row.map .d)) (.agg (t.row.map .d)) := .agg (fzCs_id _)
end Go.Proofs.YtnljciooabmogaaDoor

/-
  impl.Candidates: what it hands out stands in an array of its own.
  Conditions: none.
-/
open Go Go.AM Go.Proofs
namespace Go.Proofs.YtnljciooabmogaaDoor
open Go.ChangeShapes Go.WideShapes Go.ChangeAt Go.RowKit
set_option linter.unusedVariables false
set_option linter.unusedSimpArgs false
set_option maxRecDepth 100000
namespace Own
-- 10 loop.example/prologserver/impl.Candidates params 2 ntmps 11
def ac10 : Cd := .seq (.region [⟨(some 3),.box (.t 1),none⟩,
 ⟨(some 4),.mv (.k (.c (.full []))),none⟩] [1,4])
 (.seq (.region [⟨(some 5),.mv (.t 0),none⟩,
 ⟨(some 6),.mv (.t 0),none⟩,
 ⟨(some 7),.load (some 4) (.t 3),none⟩,
 ⟨(some 8),.qcall 32 [(.t 6),(.t 7)],none⟩,
 ⟨(some 9),.load (some 4) (.t 3),none⟩,
 ⟨(some 10),.call false 31 [(.t 5),(.t 8),(.t 9)],none⟩,
 ⟨(some 4),.mv (.t 10),none⟩] [0,3,5,6,7,8,9,10])
 (.ret))
theorem ac10_ok : cFunc Tryd.prog [1000032] [(0,[1,4],[]),(1,[0,3,5,6,7,8,9,10],[0,1,2,3,4,5,6])] Tryd.f10 = some (ac10,[.tmp 4],11) := by kernel_rfl
end Own
theorem leaf_ints (l : List Int) : ∀ x ∈ (intRows l).flatten, x.leaf = true := by
  intro x hx
  simp only [intRows, List.mem_flatten, List.mem_map] at hx
  obtain ⟨r, ⟨b, _, rfl⟩, hx⟩ := hx
  simp at hx
  subst hx
  rfl
theorem fitOwn_calls {g : Nat} {o : Obj} (hT : Tab g o) (p : List Cl) (hp : FitsC p) (t : Tm) (ht : t.fits) (l : List Int) (hll : l.length ≤ 1048576) (hl : ∀ x ∈ l, 0 ≤ x ∧ x < p.length) :
    ACalls Tryd.prog 31 [.c (.d (.sl (p.map Cl.row))), .c (.d (.sl (intRows l))), .agg (t.row.map .d)] [.tab g o] (fun r H' => ∃ L, H' = .tab g o :: L ∧ HandsRows (intRows (fitL p t.key l)) r L) := by
  refine acallsF Tryd.func31 (by kernel_rfl) ac31_ok ?_
  have hf : Obs.fits 1 0 [Ob.tab g o] := fits_tab
  simp -implicitDefEqProofs [ac31, row_len, take_row, pure_d, re_d, hf, go_sem, -List.set_cons_succ, -List.set_cons_zero]
  refine qcall_tab (key_calls hT t ht) hf rfl rfl ?_
  simp -implicitDefEqProofs [row_len, take_row, pure_d, re_d, hf, go_sem, -List.set_cons_succ, -List.set_cons_zero]
  refine ⟨trivial, ?_⟩
  refine (cloneI_calls l hll _).mono fun r H' hr => ?_
  rcases hr with ⟨rfl, rfl, rfl⟩ | ⟨hne, rfl, rfl⟩
  · refine ⟨[.tab g o], [.cells [.d (.sl (p.map Cl.row))], .cells (t.row.map .d), .cells [.d (.str t.key)]], .c (.full []), by simp [Ob.re, C.re, re_d], rfl, by simp, hf, rfl, ?_⟩
    simp -implicitDefEqProofs [hf, go_sem, -List.set_cons_succ, -List.set_cons_zero]
    refine call_same (delNil_calls _ _) (by simp [Ob.re, C.re, re_d]) rfl hf ?_
    simp -implicitDefEqProofs [go_sem, -List.set_cons_succ, -List.set_cons_zero]
    exact finF_ret _ _ ⟨trivial, trivial⟩ rfl rfl .nil fun v => ⟨v, rfl, rfl⟩
  · refine ⟨[.tab g o], [.cells [.d (.sl (p.map Cl.row))], .cells (t.row.map .d), .cells [.d (.str t.key)], .rows (intRows l)], .c (.fsl (.l 3) l.length 1), by simp [Ob.re, C.re, re_d], rfl, by simp, hf, by simp [A.re, C.re, Ref.re], ?_⟩
    simp -implicitDefEqProofs [hf, row_len, take_row, pure_d, re_d, go_sem, -List.set_cons_succ, -List.set_cons_zero]
    have hd := delI_calls (q := strikeK p t.key) (g := 57) (caps := [(1, 0), (3, 0)]) (H := [.tab g o, .cells [.d (.sl (p.map Cl.row))], .cells (t.row.map .d), .cells [.d (.str t.key)], .rows (intRows l)]) l hll 4 rfl (fun rs x hx => by
      exact fit1_calls hT p hp t.key x (hl x hx) _ 1 3 rfl rfl rfl)
    refine hd.mono fun r H' hr => ?_
    rcases hr with ⟨rfl, rfl, e3⟩ | ⟨rfl, rfl⟩
    · refine ⟨[.tab g o], [.cells [.d (.sl (p.map Cl.row))], .cells (t.row.map .d), .cells [.d (.str t.key)], .rows (intRows l)], .c (.fsl (.l 3) l.length 1), by simp [Ob.re, C.re, re_d], rfl, by simp, hf, by simp [A.re, C.re, Ref.re], ?_⟩
      have e4 : fitL p t.key l = l := e3
      simp -implicitDefEqProofs [e4, go_sem, -List.set_cons_succ, -List.set_cons_zero]
      exact finF_ret _ _ ⟨trivial, trivial⟩ rfl rfl (.fsl rfl (leaf_ints l)) fun v => ⟨v, rfl, rfl⟩
    · have hkl := keepI_len (strikeK p t.key) l
      have htk : (intRows (keepI (strikeK p t.key) l) ++ zerosI (l.length - (keepI (strikeK p t.key) l).length)).take (keepI (strikeK p t.key) l).length = intRows (keepI (strikeK p t.key) l) := by
        rw [List.take_append_of_le_length (by rw [intRows_len]; exact Nat.le_refl _), List.take_of_length_le (by rw [intRows_len]; exact Nat.le_refl _)]
      refine ⟨[.tab g o], [.cells [.d (.sl (p.map Cl.row))], .cells (t.row.map .d), .cells [.d (.str t.key)], .rows (intRows (keepI (strikeK p t.key) l) ++ zerosI (l.length - (keepI (strikeK p t.key) l).length))], .c (.psl (.l 3) 0 (keepI (strikeK p t.key) l).length 1), ?_, rfl, by simp, hf, by simp [A.re, C.re, Ref.re], ?_⟩
      · simp [Ob.re, C.re, re_d]
      · simp -implicitDefEqProofs [go_sem, -List.set_cons_succ, -List.set_cons_zero]
        refine finF_ret _ (intRows (fitL p t.key l)) ⟨trivial, trivial⟩ rfl rfl ?_ fun v => ⟨v, rfl, rfl⟩
        have hps := FlatC.psl (loc := [.cells [.d (.sl (p.map Cl.row))], .cells (t.row.map .d), .cells [.d (.str t.key)], .rows (intRows (keepI (strikeK p t.key) l) ++ zerosI (l.length - (keepI (strikeK p t.key) l).length))]) (i := 3) (m := (keepI (strikeK p t.key) l).length) (sz := 1) rfl (by rw [htk]; exact leaf_ints _)
        rw [htk] at hps
        exact hps
theorem candOwn_calls {g : Nat} {o : Obj} (hT : Tab g o) (p : List Cl) (hp : FitsC p) (t : Tm) (ht : t.fits) :
    ACalls Tryd.prog 10 [.c (.d (.sl (p.map Cl.row))), .agg (t.row.map .d)] [.tab g o] (fun r H' => ∃ L, H' = .tab g o :: L ∧ HandsRows (intRows (candB p t)) r L) := by
  have hpl := hp.1
  refine acallsF Tryd.func10 (by kernel_rfl) Own.ac10_ok ?_
  have hf : Obs.fits 1 0 [Ob.tab g o] := fits_tab
  simp -implicitDefEqProofs [Own.ac10, row_len, take_row, pure_d, re_d, hf, go_sem, -List.set_cons_succ, -List.set_cons_zero]
  refine qcall_pure (cfI_calls p hp t ht) hf rfl ?_
  simp -implicitDefEqProofs [row_len, take_row, pure_d, re_d, hf, go_sem, -List.set_cons_succ, -List.set_cons_zero]
  obtain ⟨h1, h2⟩ := forB_ok p t
  refine call_tabT (R := HandsRows (intRows (candB p t))) (fitOwn_calls hT p hp t ht _ (by omega) h2) (fun r L h => h.handed) (by simp [Ob.re, C.re, re_d]) (.cons (.c .d) (.cons (.c .d) (.cons fz_row .nil))) ?_
  rintro _ _ ⟨v, rfl, rfl⟩
  simp -implicitDefEqProofs [go_sem, -List.set_cons_succ, -List.set_cons_zero]
  exact finF_ret _ _ ⟨trivial, trivial⟩ rfl rfl (.tree (j := 1) rfl) fun v => ⟨v, rfl, rfl⟩
end Go.Proofs.YtnljciooabmogaaDoor

/-
  Rows of numbers: marked, held and compared.
  Conditions: none.
-/
open Go Go.AM Go.Proofs
namespace Go.Proofs.YtnljciooabmogaaDoor
open Go.ChangeShapes Go.WideShapes Go.ChangeAt Go.RowKit
set_option linter.unusedVariables false
set_option linter.unusedSimpArgs false
set_option maxRecDepth 100000
-- 16 loop.example/prologserver/laws.markIntS params 2 ntmps 19
-- loop head live: [0,1,5]
def ac16 : Cd := .seq (.region [⟨(some 4),.mv (.k (.c (.d (.int .i64 0)))),none⟩] [4])
 (.seq (.seq (.region [⟨(some 5),.mv (.k (.c (.d (.int .i64 0)))),none⟩] [])
 (.block 0 (.loop (.seq (.seq (.region [⟨(some 6),.mv (.t 5),none⟩,
 ⟨(some 7),.mv (.t 0),none⟩,
 ⟨(some 8),.len 1 (.t 7),none⟩,
 ⟨(some 9),.bin .lss (.t 6) (.t 8),none⟩] [6,7,8])
 (.cond (.t 9)
 (.skip)
 (.exit 0)))
 (.seq (.block 1 (.seq (.region [⟨(some 12),.mv (.t 0),none⟩,
 ⟨(some 13),.mv (.t 5),none⟩,
 ⟨(some 14),.mv (.t 1),none⟩,
 ⟨(some 15),.indexAddr 1 (.t 12) (.t 13),none⟩,
 ⟨none,.store 1 (.t 15) (.t 14),none⟩] [9,12,13,14,15])
 (.region [⟨(some 16),.mv (.t 1),none⟩,
 ⟨(some 17),.bin .add (.t 16) (.k (.c (.d (.int .i64 1)))),none⟩,
 ⟨(some 1),.mv (.t 17),none⟩] [16,17])))
 (.region [⟨(some 10),.mv (.t 5),none⟩,
 ⟨(some 11),.bin .add (.t 10) (.k (.c (.d (.int .i64 1)))),none⟩,
 ⟨(some 5),.mv (.t 11),none⟩] [10,11]))))))
 (.seq (.region [⟨(some 18),.mv (.t 1),none⟩,
 ⟨(some 4),.mv (.t 18),none⟩] [1,18])
 (.ret)))
theorem ac16_ok : cFunc Tryd.prog [] [(0,[4],[]),(1,[],[]),(2,[6,7,8],[]),(4,[9,12,13,14,15],[]),(5,[16,17],[]),(3,[10,11],[]),(6,[1,18],[])] Tryd.f16 = some (ac16,[.tmp 4],19) := by kernel_rfl
-- 17 loop.example/prologserver/laws.heldIntS params 2 ntmps 21
-- loop head live: [0,1,5]
def ac17 : Cd := .seq (.region [⟨(some 4),.mv (.k (.c (.d (.int .i64 0)))),none⟩] [4])
 (.seq (.seq (.region [⟨(some 5),.mv (.k (.c (.d (.int .i64 0)))),none⟩] [])
 (.block 0 (.loop (.seq (.seq (.region [⟨(some 6),.mv (.t 5),none⟩,
 ⟨(some 7),.mv (.t 0),none⟩,
 ⟨(some 8),.len 1 (.t 7),none⟩,
 ⟨(some 9),.bin .lss (.t 6) (.t 8),none⟩] [6,7,8])
 (.cond (.t 9)
 (.skip)
 (.exit 0)))
 (.seq (.block 1 (.seq (.seq (.region [⟨(some 12),.mv (.t 0),none⟩,
 ⟨(some 13),.mv (.t 5),none⟩,
 ⟨(some 14),.indexAddr 1 (.t 12) (.t 13),none⟩,
 ⟨(some 15),.load none (.t 14),none⟩,
 ⟨(some 16),.mv (.t 1),none⟩,
 ⟨(some 17),.bin .neq (.t 15) (.t 16),none⟩] [9,12,13,14,15,16])
 (.cond (.t 17)
 (.seq (.region [⟨(some 4),.mv (.k (.c (.d (.int .i64 (-1))))),none⟩] [0,1,5,17])
 (.ret))
 (.skip)))
 (.region [⟨(some 18),.mv (.t 1),none⟩,
 ⟨(some 19),.bin .add (.t 18) (.k (.c (.d (.int .i64 1)))),none⟩,
 ⟨(some 1),.mv (.t 19),none⟩] [4,17,18,19])))
 (.region [⟨(some 10),.mv (.t 5),none⟩,
 ⟨(some 11),.bin .add (.t 10) (.k (.c (.d (.int .i64 1)))),none⟩,
 ⟨(some 5),.mv (.t 11),none⟩] [10,11]))))))
 (.seq (.region [⟨(some 20),.mv (.t 1),none⟩,
 ⟨(some 4),.mv (.t 20),none⟩] [1,20])
 (.ret)))
theorem ac17_ok : cFunc Tryd.prog [] [(0,[4],[]),(1,[],[]),(2,[6,7,8],[]),(4,[9,12,13,14,15,16],[]),(5,[0,1,5,17],[]),(6,[4,17,18,19],[]),(3,[10,11],[]),(7,[1,20],[])] Tryd.f17 = some (ac17,[.tmp 4],21) := by kernel_rfl
-- 11 loop.example/prologserver/laws.eqIntS params 2 ntmps 26
-- loop head live: [0,1,5]
def ac11 : Cd := .seq (.region [⟨(some 4),.mv (.k (.c (.d (.bool false)))),none⟩] [4])
 (.seq (.seq (.region [⟨(some 6),.mv (.t 0),none⟩,
 ⟨(some 7),.len 1 (.t 6),none⟩,
 ⟨(some 8),.mv (.t 1),none⟩,
 ⟨(some 9),.len 1 (.t 8),none⟩,
 ⟨(some 10),.bin .neq (.t 7) (.t 9),none⟩] [6,7,8,9])
 (.cond (.t 10)
 (.seq (.region [⟨(some 4),.mv (.k (.c (.d (.bool false)))),none⟩] [0,1,10])
 (.ret))
 (.skip)))
 (.seq (.seq (.region [⟨(some 5),.mv (.k (.c (.d (.int .i64 0)))),none⟩] [4,10])
 (.block 0 (.loop (.seq (.seq (.region [⟨(some 11),.mv (.t 5),none⟩,
 ⟨(some 12),.mv (.t 0),none⟩,
 ⟨(some 13),.len 1 (.t 12),none⟩,
 ⟨(some 14),.bin .lss (.t 11) (.t 13),none⟩] [11,12,13])
 (.cond (.t 14)
 (.skip)
 (.exit 0)))
 (.seq (.block 1 (.seq (.region [⟨(some 17),.mv (.t 0),none⟩,
 ⟨(some 18),.mv (.t 5),none⟩,
 ⟨(some 19),.indexAddr 1 (.t 17) (.t 18),none⟩,
 ⟨(some 21),.mv (.t 1),none⟩,
 ⟨(some 22),.mv (.t 5),none⟩,
 ⟨(some 23),.indexAddr 1 (.t 21) (.t 22),none⟩,
 ⟨(some 20),.load none (.t 19),none⟩,
 ⟨(some 24),.load none (.t 23),none⟩,
 ⟨(some 25),.bin .neq (.t 20) (.t 24),none⟩] [14,17,18,19,20,21,22,23,24])
 (.cond (.t 25)
 (.seq (.region [⟨(some 4),.mv (.k (.c (.d (.bool false)))),none⟩] [0,1,5,25])
 (.ret))
 (.skip))))
 (.region [⟨(some 15),.mv (.t 5),none⟩,
 ⟨(some 16),.bin .add (.t 15) (.k (.c (.d (.int .i64 1)))),none⟩,
 ⟨(some 5),.mv (.t 16),none⟩] [4,15,16,25]))))))
 (.seq (.region [⟨(some 4),.mv (.k (.c (.d (.bool true)))),none⟩] [])
 (.ret))))
theorem ac11_ok : cFunc Tryd.prog [] [(0,[4],[]),(1,[6,7,8,9],[]),(2,[0,1,10],[]),(3,[4,10],[]),(4,[11,12,13],[]),(6,[14,17,18,19,20,21,22,23,24],[0,1,2,4,5,6,3,7,8]),(7,[0,1,5,25],[]),(5,[4,15,16,25],[]),(8,[],[])] Tryd.f11 = some (ac11,[.tmp 4],26) := by kernel_rfl
theorem flat_ints (l : List Int) : Flat (intRows l) := by
  intro x hx
  simp only [intRows, List.mem_flatten, List.mem_map] at hx
  obtain ⟨r, ⟨b, _, rfl⟩, hx⟩ := hx
  simp at hx
  subst hx
  rfl
def mInts (k : Int) (n : Nat) : List (List D) := (List.range n).map fun i : Nat => [.int .i64 (k + i)]
theorem mInts_len (k : Int) (n : Nat) : (mInts k n).length = n := by simp [mInts]
theorem markIntS_calls (l : List Int) (k : Int) (h0 : 0 ≤ k) (h1 : k + l.length ≤ 500000000000000) (kv : Value) : ACalls Tryd.prog 16 [.c (.d (.v kv)), .c (.d (.int .i64 k))] [.tree kv (intRows l)]
    (fun r H' => H' = [.tree kv (mInts k l.length)] ∧ r = .c (.d (.int .i64 (k + l.length)))) := by
  have hlen := intRows_len l
  refine (acalls_flat (f := 16) (pre := []) (post := [.c (.d (.int .i64 k))]) (rows := intRows l) (Q := fun r rows' => r = .c (.d (.int .i64 (k + l.length))) ∧ rows' = mInts k l.length) 1 (allLen_ints l) (flat_ints l) rfl rfl (fun he => ?_) ?_ kv).mono fun r H' ⟨rows', h1, _, h2, h3⟩ => ⟨by rw [h1, h3], h2⟩
  · have hs : l.length = 0 := by rw [← hlen, he]; rfl
    have hk0 : inR .i64 k := small_i64 (by omega) (by omega)
    have hz0 : inR .i64 0 := small_i64 (by omega) (by omega)
    refine acalls Tryd.func16 (by kernel_rfl) ac16_ok fun hf => ?_
    simp -implicitDefEqProofs [ac16, go_sem, -List.set_cons_succ, -List.set_cons_zero]
    refine loop_set (σ := Unit) (fun _ => [(5, .c (.d (.int .i64 0)))]) (fun _ => []) (fun _ => []) (fun _ => True) (fun _ => 0) () rfl trivial ?_
    intro _ _
    simp -implicitDefEqProofs [setAll, hs, hz0, mInts, A.portT, A.portB, C.portB, D.leaf, go_sem, -List.set_cons_succ, -List.set_cons_zero]
  · refine acalls Tryd.func16 (by kernel_rfl) ac16_ok fun hf => ?_
    have hl : inR .i64 (l.length : Int) := small_i64 (by omega) (by omega)
    simp -implicitDefEqProofs [ac16, hl, hlen, go_sem, -List.set_cons_succ, -List.set_cons_zero]
    refine loop_set (σ := Nat) (fun i => [(5, .c (.d (.int .i64 i))), (1, .c (.d (.int .i64 (k + i))))]) (fun i => [.rows (mixed (fun i : Nat => [.int .i64 (k + i)]) (intRows l) i)]) (fun _ => []) (fun i => i ≤ l.length) (fun i => l.length - i) 0 (by simp [setAll, mixed_zero]) (Nat.zero_le _) ?_
    intro i hi
    simp -implicitDefEqProofs [setAll, hl, hlen, go_sem, -List.set_cons_succ, -List.set_cons_zero]
    refine ⟨fun hlt => ?_, fun hge => ?_⟩
    · have hadd : inR .i64 ((i : Int) + 1) := small_i64 (by omega) (by omega)
      have hadk : inR .i64 (k + i + 1) := small_i64 (by omega) (by omega)
      have hlt' : i < (intRows l).length := by rw [hlen]; exact hlt
      have hget : (mixed (fun i : Nat => [D.int .i64 (k + i)]) (intRows l) i)[i]? = some [.int .i64 l[i]] := by rw [mixed_get _ _ hlt', ← List.getElem?_eq_getElem hlt']; simp [intRows, hlt]
      refine ⟨hlt, ?_⟩
      simp -implicitDefEqProofs [hget, hadd, hadk, go_sem, -List.set_cons_succ, -List.set_cons_zero]
      refine ⟨trivial, loop_back (i + 1) ?_ hlt (by show l.length - (i + 1) < l.length - i; omega)⟩
      have hset := mixed_set (fun i : Nat => [D.int .i64 (k + i)]) (intRows l) hlt'
      simp [setAll, ← hset]
      omega
    · obtain rfl : i = l.length := by omega
      refine ⟨mInts k l.length, ?_, mInts_len _ _, ?_, ?_, rfl, rfl, rfl⟩
      · intro x hx
        simp only [mInts, List.mem_flatten, List.mem_map] at hx
        obtain ⟨r, ⟨b, _, rfl⟩, hx⟩ := hx
        simp at hx
        subst hx
        rfl
      · intro r hr
        obtain ⟨b, _, rfl⟩ := List.mem_map.1 hr
        rfl
      · have := mixed_all (fun i : Nat => [D.int .i64 (k + i)]) (intRows l)
        rw [hlen] at this
        exact this
theorem heldIntS_calls (n : Nat) (k : Int) (h0 : 0 ≤ k) (h1 : k + n ≤ 500000000000000) (H : Heap) : ACalls Tryd.prog 17 [.c (.d (.sl (mInts k n))), .c (.d (.int .i64 k))] H
    (fun r H' => H' = H ∧ r = .c (.d (.int .i64 (k + n)))) := by
  refine acalls Tryd.func17 (by kernel_rfl) ac17_ok fun hf => ?_
  have hl : inR .i64 (n : Int) := small_i64 (by omega) (by omega)
  simp -implicitDefEqProofs [ac17, hl, mInts_len, go_sem, -List.set_cons_succ, -List.set_cons_zero]
  refine loop_set (σ := Nat) (fun i => [(5, .c (.d (.int .i64 i))), (1, .c (.d (.int .i64 (k + i))))]) (fun i => H) (fun _ => []) (fun i => i ≤ n) (fun i => n - i) 0 (by simp [setAll]) (Nat.zero_le _) ?_
  intro i hi
  simp -implicitDefEqProofs [setAll, hl, mInts_len, go_sem, -List.set_cons_succ, -List.set_cons_zero]
  refine ⟨fun hlt => ?_, fun hge => ?_⟩
  · have hadd : inR .i64 ((i : Int) + 1) := small_i64 (by omega) (by omega)
    have hadk : inR .i64 (k + i + 1) := small_i64 (by omega) (by omega)
    refine row_nat [.int .i64 (k + i)] (range_row (f := fun i : Nat => [D.int .i64 (k + i)]) hlt) rfl ?_
    simp -implicitDefEqProofs [hadd, hadk, go_sem, -List.set_cons_succ, -List.set_cons_zero]
    exact loop_back (i + 1) (by simp [setAll]; omega) hlt (by show n - (i + 1) < n - i; omega)
  · obtain rfl : i = n := by omega
    rfl
theorem eqIntS_calls (l : List Int) (hl : l.length ≤ 4000000) (H : Heap) : ACalls Tryd.prog 11 [.c (.d (.sl (intRows l))), .c (.d (.sl (intRows l)))] H (fun r H' => H' = H ∧ r = .c (.d (.bool true))) := by
  refine acalls Tryd.func11 (by kernel_rfl) ac11_ok fun hf => ?_
  have hli : inR .i64 (l.length : Int) := small_i64 (by omega) (by omega)
  simp -implicitDefEqProofs [ac11, hli, intRows_len, go_sem, -List.set_cons_succ, -List.set_cons_zero]
  refine loop_set (σ := Nat) (fun i => [(5, .c (.d (.int .i64 i)))]) (fun _ => H) (fun _ => []) (fun i => i ≤ l.length) (fun i => l.length - i) 0 rfl (Nat.zero_le _) ?_
  intro i hi
  simp -implicitDefEqProofs [setAll, hli, intRows_len, go_sem, -List.set_cons_succ, -List.set_cons_zero]
  intro hlt
  have hadd : inR .i64 ((i : Int) + 1) := small_i64 (by omega) (by omega)
  have hrow : (intRows l)[i]? = some [.int .i64 l[i]] := by simp [intRows, hlt]
  refine row_nat _ hrow rfl ?_
  simp -implicitDefEqProofs [go_sem, -List.set_cons_succ, -List.set_cons_zero]
  refine row_nat _ hrow rfl ?_
  simp -implicitDefEqProofs [hadd, go_sem, -List.set_cons_succ, -List.set_cons_zero]
  exact loop_back (i + 1) (by simp [setAll]) hlt (by show l.length - (i + 1) < l.length - i; omega)
end Go.Proofs.YtnljciooabmogaaDoor

/-
  Rows whose slices are cut off and stand as trees.
  Conditions: none.
-/
open Go Go.AM Go.Proofs
namespace Go.Proofs.YtnljciooabmogaaDoor
set_option linter.unusedVariables false
set_option linter.unusedSimpArgs false
/-- the slices of a row -/
def nsl : List D → Nat
  | [] => 0
  | .sl _ :: l => nsl l + 1
  | _ :: l => nsl l
/-- a row, its slices cut off -/
def cutR : List D → List Value → List D
  | .sl _ :: l, v :: vs => .v v :: cutR l vs
  | x :: l, vs => x :: cutR l vs
  | [], _ => []
/-- .. and these slices -/
def trs : List D → List Value → Heap
  | .sl d :: l, v :: vs => .tree v d :: trs l vs
  | _ :: l, vs => trs l vs
  | [], _ => []
theorem cut_sl (d : List (List D)) (l : List D) (v : Value) (vs : List Value) : cutR (.sl d :: l) (v :: vs) = .v v :: cutR l vs := rfl
theorem trs_sl (d : List (List D)) (l : List D) (v : Value) (vs : List Value) : trs (.sl d :: l) (v :: vs) = .tree v d :: trs l vs := rfl
theorem cut_ne {x : D} (h : x.isSl = false) (l : List D) (vs : List Value) : cutR (x :: l) vs = x :: cutR l vs := by cases x <;> first | rfl | cases h
theorem trs_ne {x : D} (h : x.isSl = false) (l : List D) (vs : List Value) : trs (x :: l) vs = trs l vs := by cases x <;> first | rfl | cases h
theorem nsl_ne {x : D} (h : x.isSl = false) (l : List D) : nsl (x :: l) = nsl l := by cases x <;> first | rfl | cases h
theorem cut_len : ∀ (l : List D) (vs : List Value), (cutR l vs).length = l.length
  | [], _ => rfl
  | x :: l, vs => by
    by_cases hx : x.isSl = false
    · rw [cut_ne hx, List.length_cons, cut_len l vs, List.length_cons]
    · cases x with
      | sl d => cases vs with
        | nil => show (D.sl d :: cutR l []).length = _; rw [List.length_cons, cut_len l, List.length_cons]
        | cons v vs => rw [cut_sl, List.length_cons, cut_len l vs, List.length_cons]
      | _ => simp [D.isSl] at hx
theorem trs_len : ∀ (l : List D) (vs : List Value), vs.length = nsl l → (trs l vs).length = nsl l
  | [], _, _ => rfl
  | x :: l, vs, h => by
    by_cases hx : x.isSl = false
    · rw [nsl_ne hx] at h ⊢; rw [trs_ne hx]; exact trs_len l vs h
    · cases x with
      | sl d => cases vs with
        | nil => simp [nsl] at h
        | cons v vs => rw [trs_sl, List.length_cons, trs_len l vs (by simpa [nsl] using h)]; rfl
      | _ => simp [D.isSl] at hx
theorem trs_trees : ∀ (l : List D) (vs : List Value), (trs l vs).all Ob.isTreeB = true
  | [], _ => rfl
  | x :: l, vs => by
    by_cases hx : x.isSl = false
    · rw [trs_ne hx]; exact trs_trees l vs
    · cases x with
      | sl d => cases vs with
        | nil => exact trs_trees l []
        | cons v vs => rw [trs_sl, List.all_cons, trs_trees l vs]; rfl
      | _ => simp [D.isSl] at hx
theorem cut_port : ∀ (l : List D) (vs : List Value), vs.length = nsl l → ((cutR l vs).map C.d).all C.portB = true
  | [], _, _ => rfl
  | x :: l, vs, h => by
    by_cases hx : x.isSl = false
    · rw [nsl_ne hx] at h
      rw [cut_ne hx, List.map_cons, List.all_cons, cut_port l vs h]
      cases x <;> first | rfl | (simp [D.isSl] at hx)
    · cases x with
      | sl d => cases vs with
        | nil => simp [nsl] at h
        | cons v vs => rw [cut_sl, List.map_cons, List.all_cons, cut_port l vs (by simpa [nsl] using h)]; rfl
      | _ => simp [D.isSl] at hx
theorem strip_app : ∀ (l : List D) (vs : List Value) (r c : List D) (t : Heap), vs.length = nsl l → Strip r c t → Strip (l ++ r) (cutR l vs ++ c) (trs l vs ++ t)
  | [], _, r, c, t, _, h => h
  | x :: l, vs, r, c, t, h, hs => by
    by_cases hx : x.isSl = false
    · rw [nsl_ne hx] at h
      rw [List.cons_append, cut_ne hx, trs_ne hx]
      exact (strip_cons hx).2 ⟨_, rfl, strip_app l vs r c t h hs⟩
    · cases x with
      | sl d => cases vs with
        | nil => simp [nsl] at h
        | cons v vs => exact ⟨v, _, _, rfl, rfl, strip_app l vs r c t (by simpa [nsl] using h) hs⟩
      | _ => simp [D.isSl] at hx
theorem strip_unapp : ∀ (l r c : List D) (t : Heap), Strip (l ++ r) c t → ∃ vs c' t', vs.length = nsl l ∧ c = cutR l vs ++ c' ∧ t = trs l vs ++ t' ∧ Strip r c' t'
  | [], r, c, t, h => ⟨[], c, t, rfl, rfl, rfl, h⟩
  | x :: l, r, c, t, h => by
    by_cases hx : x.isSl = false
    · obtain ⟨c1, rfl, h1⟩ := (strip_cons hx).1 h
      obtain ⟨vs, c', t', h2, rfl, rfl, h3⟩ := strip_unapp l r c1 t h1
      exact ⟨vs, c', t', by rw [nsl_ne hx]; exact h2, by rw [cut_ne hx]; rfl, by rw [trs_ne hx], h3⟩
    · cases x with
      | sl d =>
        obtain ⟨v, c1, t1, rfl, rfl, h1⟩ := h
        obtain ⟨vs, c', t', h2, rfl, rfl, h3⟩ := strip_unapp l r c1 t1 h1
        exact ⟨v :: vs, c', t', by simp [nsl, h2], rfl, rfl, h3⟩
      | _ => simp [D.isSl] at hx
/-- values for the slices of rows -/
def Vals (m : Nat) (rows : List (List D)) (vss : List (List Value)) : Prop := vss.length = rows.length ∧ (∀ r ∈ rows, nsl r = m) ∧ ∀ vs ∈ vss, vs.length = m
theorem strip_rows {m : Nat} : ∀ (rows : List (List D)) (vss : List (List Value)), Vals m rows vss → Strip rows.flatten (List.zipWith cutR rows vss).flatten (List.zipWith trs rows vss).flatten
  | [], [], _ => ⟨rfl, rfl⟩
  | [], _ :: _, h => by have := h.1; simp at this
  | _ :: _, [], h => by have := h.1; simp at this
  | r :: rows, vs :: vss, h => by
    simp only [List.zipWith_cons_cons, List.flatten_cons]
    refine strip_app r vs _ _ _ ?_ (strip_rows rows vss ⟨by simpa using h.1, fun r hr => h.2.1 r (by simp [hr]), fun vs hv => h.2.2 vs (by simp [hv])⟩)
    rw [h.2.1 r (by simp), h.2.2 vs (by simp)]
theorem rows_unstrip {m : Nat} : ∀ (rows : List (List D)) (c : List D) (t : Heap), (∀ r ∈ rows, nsl r = m) → Strip rows.flatten c t → ∃ vss, Vals m rows vss ∧ c = (List.zipWith cutR rows vss).flatten ∧ t = (List.zipWith trs rows vss).flatten
  | [], c, t, _, ⟨h1, h2⟩ => ⟨[], ⟨rfl, fun r h => by simp at h, fun r h => by simp at h⟩, h1, h2⟩
  | r :: rows, c, t, hm, h => by
    rw [List.flatten_cons] at h
    obtain ⟨vs, c', t', h1, rfl, rfl, h2⟩ := strip_unapp r _ c t h
    obtain ⟨vss, h3, rfl, rfl⟩ := rows_unstrip rows c' t' (fun r hr => hm r (by simp [hr])) h2
    refine ⟨vs :: vss, ⟨by simp [h3.1], hm, fun ws hw => ?_⟩, rfl, rfl⟩
    rcases List.mem_cons.1 hw with rfl | hw
    · rw [h1]; exact hm r (by simp)
    · exact h3.2.2 ws hw
theorem cut_lens {rows : List (List D)} {vss : List (List Value)} (h : vss.length = rows.length) : (List.zipWith cutR rows vss).map List.length = rows.map List.length := by
  refine List.ext_getElem? fun i => ?_
  rcases Nat.lt_or_ge i rows.length with hi | hi
  · simp [List.getElem?_zipWith, hi, h, cut_len]
  · rw [List.getElem?_eq_none (by simp [h]; omega), List.getElem?_eq_none (by simp; omega)]
theorem fl_get {α : Type} {L : List (List α)} {m : Nat} (h : ∀ p ∈ L, p.length = m) {i j : Nat} {p : List α} (hi : L[i]? = some p) (hj : j < m) : L.flatten[i * m + j]? = p[j]? := by
  induction L generalizing i with
  | nil => simp at hi
  | cons a l ih =>
    have ha : a.length = m := h a (by simp)
    cases i with
    | zero =>
      simp at hi; subst hi
      rw [List.flatten_cons, Nat.zero_mul, Nat.zero_add, List.getElem?_append_left (by omega)]
    | succ i =>
      rw [List.flatten_cons, List.getElem?_append_right (by rw [ha, Nat.succ_mul]; omega), ← ih (fun r hr => h r (by simp [hr])) (i := i) (by simpa using hi)]
      congr 1
      rw [ha, Nat.succ_mul]; omega
theorem fl_set {α : Type} {L : List (List α)} {m : Nat} (h : ∀ p ∈ L, p.length = m) {i j : Nat} {p : List α} (hi : L[i]? = some p) (hj : j < m) (x : α) : L.flatten.set (i * m + j) x = (L.set i (p.set j x)).flatten := by
  induction L generalizing i with
  | nil => simp at hi
  | cons a l ih =>
    have ha : a.length = m := h a (by simp)
    cases i with
    | zero =>
      simp at hi; subst hi
      rw [List.flatten_cons, Nat.zero_mul, Nat.zero_add, List.set_append_left _ _ (by omega)]
      rfl
    | succ i =>
      rw [List.flatten_cons, List.set_append_right _ _ (by rw [ha, Nat.succ_mul]; omega), List.set_cons_succ, List.flatten_cons, ← ih (fun r hr => h r (by simp [hr])) (i := i) (by simpa using hi)]
      congr 2
      rw [ha, Nat.succ_mul]; omega
theorem zipt_lens {m : Nat} {rows : List (List D)} {vss : List (List Value)} (h : Vals m rows vss) : ∀ p ∈ List.zipWith trs rows vss, p.length = m := by
  intro p hp
  obtain ⟨i, hi⟩ := List.mem_iff_getElem?.1 hp
  rw [List.getElem?_zipWith] at hi
  cases h1 : rows[i]? with
  | none => rw [h1] at hi; simp at hi
  | some r =>
    cases h2 : vss[i]? with
    | none => rw [h1, h2] at hi; simp at hi
    | some vs =>
      rw [h1, h2] at hi
      simp at hi
      have e1 := h.2.1 r (List.mem_of_getElem? h1)
      have e2 := h.2.2 vs (List.mem_of_getElem? h2)
      rw [← hi, trs_len _ _ (by omega), e1]
theorem zipt_trees (rows : List (List D)) (vss : List (List Value)) : ∀ p ∈ List.zipWith trs rows vss, p.all Ob.isTreeB = true := by
  intro p hp
  obtain ⟨i, hi⟩ := List.mem_iff_getElem?.1 hp
  rw [List.getElem?_zipWith] at hi
  cases h1 : rows[i]? with
  | none => rw [h1] at hi; simp at hi
  | some r =>
    cases h2 : vss[i]? with
    | none => rw [h1, h2] at hi; simp at hi
    | some vs =>
      rw [h1, h2] at hi
      simp at hi
      rw [← hi]; exact trs_trees r vs
/-- what is handed out: a row whose slices stand in arrays of their own -/
def HandsRow (row : List D) (r : A) (H : Heap) : Prop := ∃ vs : List Value, vs.length = nsl row ∧ r = .agg ((cutR row vs).map .d) ∧ H = trs row vs
theorem HandsRow.handed {row : List D} {r : A} {H : Heap} (h : HandsRow row r H) : Handed r H := by
  obtain ⟨vs, h1, rfl, rfl⟩ := h
  exact ⟨cut_port row vs h1, trs_trees row vs⟩
/-- rows of which the first are made -/
def fillR (rows : List (List D)) (vss : List (List Value)) (z : List D) : List (List D) := List.zipWith cutR rows vss ++ List.replicate (rows.length - vss.length) z
theorem fillR_nil (rows : List (List D)) (z : List D) : fillR rows [] z = List.replicate rows.length z := by simp [fillR]
theorem fillR_all {rows : List (List D)} {vss : List (List Value)} (z : List D) (h : vss.length = rows.length) : fillR rows vss z = List.zipWith cutR rows vss := by simp [fillR, h]
theorem fillR_get {rows : List (List D)} {vss : List (List Value)} (z : List D) (h : vss.length < rows.length) : (fillR rows vss z)[vss.length]? = some z := by
  rw [fillR, List.getElem?_append_right (by simp; omega)]
  have : vss.length - (List.zipWith cutR rows vss).length = 0 := by simp; omega
  rw [this, List.getElem?_replicate, if_pos (by omega)]
theorem zipR_snoc {α β γ : Type} (f : α → β → γ) (l : List α) (vs : List β) (v : β) (h : vs.length < l.length) : List.zipWith f l (vs ++ [v]) = List.zipWith f l vs ++ [f l[vs.length] v] := by
  induction vs generalizing l with
  | nil => cases l with
    | nil => simp at h
    | cons x l => simp
  | cons w vs ih => cases l with
    | nil => simp at h
    | cons x l => simp only [List.cons_append, List.zipWith_cons_cons, List.length_cons, List.getElem_cons_succ]; rw [ih l (by simpa using h)]
theorem fillR_set {rows : List (List D)} {vss : List (List Value)} (z : List D) (vs : List Value) (h : vss.length < rows.length) : (fillR rows vss z).set vss.length (cutR rows[vss.length] vs) = fillR rows (vss ++ [vs]) z := by
  have e : rows.length - vss.length = (rows.length - (vss ++ [vs]).length) + 1 := by simp; omega
  rw [fillR, fillR, List.set_append_right _ _ (by simp; omega), zipR_snoc _ _ _ _ h, e, List.replicate_succ]
  have : vss.length - (List.zipWith cutR rows vss).length = 0 := by simp; omega
  rw [this]
  simp
theorem trees_map_re {H : Heap} (h : H.all Ob.isTreeB = true) (n : Nat) : H.map (Ob.re n) = H := trees_re h n
theorem flat_trees {L : List Heap} (h : ∀ p ∈ L, p.all Ob.isTreeB = true) : L.flatten.all Ob.isTreeB = true := by
  rw [List.all_eq_true]
  intro o ho
  obtain ⟨p, h1, h2⟩ := List.mem_flatten.1 ho
  exact List.all_eq_true.1 (h p h1) o h2
theorem trees_fits {n : Nat} : ∀ {l : Heap}, l.all Ob.isTreeB = true → Obs.fits n 0 l
  | [], _ => trivial
  | o :: l, h => by
    simp only [List.all_cons, Bool.and_eq_true] at h
    refine ⟨?_, trees_fits h.2⟩
    cases o <;> first | trivial | cases h.1
/-- so many things, each with what is below it -/
def wsum {α : Type} (f : α → Nat) : List α → Nat
  | [] => 0
  | x :: l => 1 + f x + wsum f l
theorem wsum_append {α : Type} (f : α → Nat) (l r : List α) : wsum f (l ++ r) = wsum f l + wsum f r := by
  induction l with
  | nil => simp [wsum]
  | cons t l ih => simp only [List.cons_append, wsum, ih]; omega
theorem wsum_take_succ {α : Type} (f : α → Nat) (l : List α) {i : Nat} (h : i < l.length) : wsum f (l.take (i + 1)) = wsum f (l.take i) + 1 + f l[i] := by
  rw [List.take_succ_eq_append_getElem h, wsum_append]; simp only [wsum]; omega
theorem wsum_take_sub {α : Type} (f : α → Nat) (l : List α) {i : Nat} (h : i < l.length) : wsum f (l.take i) + 1 + f l[i] ≤ wsum f l := by
  rw [← wsum_take_succ f l h]
  have := wsum_append f (l.take (i + 1)) (l.drop (i + 1))
  rw [List.take_append_drop] at this
  omega
theorem wsum_le {α : Type} {f g : α → Nat} (h : ∀ x, f x ≤ g x) (l : List α) : wsum f l ≤ wsum g l := by
  induction l with
  | nil => simp [wsum]
  | cons t l ih => simp only [wsum]; have := h t; omega
theorem sum_len {α : Type} {L : List (List α)} {m : Nat} (h : ∀ p ∈ L, p.length = m) : (L.map List.length).sum = L.length * m := by
  induction L with
  | nil => simp
  | cons a l ih =>
    rw [List.map_cons, List.sum_cons, ih (fun p hp => h p (by simp [hp])), h a (by simp), List.length_cons, Nat.succ_mul]
    omega
end Go.Proofs.YtnljciooabmogaaDoor

/-
  Copies of clauses that stand in arrays of their own.
  Conditions: none.
-/
open Go Go.AM Go.Proofs
namespace Go.Proofs.YtnljciooabmogaaDoor
open Go.ChangeShapes Go.WideShapes Go.ChangeAt Go.RowKit
set_option linter.unusedVariables false
set_option linter.unusedSimpArgs false
set_option maxRecDepth 100000
namespace Own
-- 8 loop.example/prologserver/laws.toClauseS params 1 ntmps 23
-- loop head live: [0,3,4]
def ac8 : Cd := .seq (.region [⟨(some 2),.mv (.k (.c (.full []))),none⟩] [2])
 (.seq (.region [⟨(some 5),.mv (.t 0),none⟩,
 ⟨(some 6),.len 1 (.t 5),none⟩,
 ⟨(some 7),.mkSlice [(.int .i64 0),(.int .i64 0),(.str []),(.sl []),(.sl [])] (.t 6),none⟩,
 ⟨(some 3),.mv (.t 7),none⟩] [5,6,7])
 (.seq (.seq (.region [⟨(some 4),.mv (.k (.c (.d (.int .i64 0)))),none⟩] [])
 (.block 0 (.loop (.seq (.seq (.region [⟨(some 8),.mv (.t 4),none⟩,
 ⟨(some 9),.mv (.t 0),none⟩,
 ⟨(some 10),.len 1 (.t 9),none⟩,
 ⟨(some 11),.bin .lss (.t 8) (.t 10),none⟩] [8,9,10])
 (.cond (.t 11)
 (.skip)
 (.exit 0)))
 (.seq (.block 1 (.region [⟨(some 14),.mv (.t 3),none⟩,
 ⟨(some 15),.mv (.t 4),none⟩,
 ⟨(some 16),.mv (.t 0),none⟩,
 ⟨(some 17),.mv (.t 4),none⟩,
 ⟨(some 18),.indexAddr 5 (.t 16) (.t 17),none⟩,
 ⟨(some 19),.load (some 5) (.t 18),none⟩,
 ⟨(some 20),.call false 29 [(.t 19)],none⟩,
 ⟨(some 21),.indexAddr 5 (.t 14) (.t 15),none⟩,
 ⟨none,.store 5 (.t 21) (.t 20),none⟩] [11,14,15,16,17,18,19,20,21]))
 (.region [⟨(some 12),.mv (.t 4),none⟩,
 ⟨(some 13),.bin .add (.t 12) (.k (.c (.d (.int .i64 1)))),none⟩,
 ⟨(some 4),.mv (.t 13),none⟩] [12,13]))))))
 (.seq (.region [⟨(some 22),.mv (.t 3),none⟩,
 ⟨(some 2),.mv (.t 22),none⟩] [3,22])
 (.ret))))
theorem ac8_ok : cFunc Tryd.prog [] [(0,[2],[]),(1,[5,6,7],[]),(2,[],[]),(3,[8,9,10],[]),(5,[11,14,15,16,17,18,19,20,21],[]),(4,[12,13],[]),(6,[3,22],[])] Tryd.f8 = some (ac8,[.tmp 2],23) := by kernel_rfl
-- 29 loop.example/prologserver/laws.toClause params 1 ntmps 13
def ac29 : Cd := .seq (.region [⟨(some 1),.box (.t 0),none⟩,
 ⟨(some 2),.alloc [(.d (.int .i64 0)),(.d (.int .i64 0)),(.d (.str [])),(.full []),(.full [])],none⟩] [0])
 (.seq (.region [⟨(some 3),.alloc [(.d (.int .i64 0)),(.d (.int .i64 0)),(.d (.str [])),(.full []),(.full [])],none⟩] [])
 (.seq (.region [⟨(some 4),.fieldAddr 0 (.t 1),none⟩,
 ⟨(some 5),.load (some 4) (.t 4),none⟩,
 ⟨(some 6),.call false 9 [(.t 5)],none⟩,
 ⟨(some 7),.fieldAddr 0 (.t 3),none⟩,
 ⟨none,.store 4 (.t 7) (.t 6),none⟩] [4,5,6,7])
 (.seq (.region [⟨(some 8),.fieldAddr 4 (.t 1),none⟩,
 ⟨(some 9),.load none (.t 8),none⟩,
 ⟨(some 10),.call false 30 [(.t 9)],none⟩,
 ⟨(some 11),.fieldAddr 4 (.t 3),none⟩,
 ⟨none,.store 1 (.t 11) (.t 10),none⟩] [1,8,9,10,11])
 (.seq (.region [⟨(some 12),.load (some 5) (.t 3),none⟩,
 ⟨none,.store 5 (.t 2) (.t 12),none⟩] [3,12])
 (.ret)))))
theorem ac29_ok : cFunc Tryd.prog [] [(0,[0],[]),(1,[],[]),(2,[4,5,6,7],[]),(3,[1,8,9,10,11],[]),(4,[3,12],[])] Tryd.f29 = some (ac29,[.cell 2 (some 5)],13) := by kernel_rfl
end Own
theorem toClauseS_own (l : List Cl) (hl : l.length ≤ 1048576) (h : ∀ t ∈ l, ACalls Tryd.prog 29 [.agg ((Cl.row t).map .d)] [] (HandsRow (Cl.row t))) : ACalls Tryd.prog 8 [.c (.d (.sl (l.map Cl.row)))] [] (HandsRows (l.map Cl.row)) := by
  refine acallsT Tryd.func8 (by kernel_rfl) Own.ac8_ok ?_
  have hli : inR .i64 (l.length : Int) := small_i64 (by omega) (by omega)
  simp -implicitDefEqProofs [Own.ac8, hli, go_sem, -List.set_cons_succ, -List.set_cons_zero]
  refine ⟨by unfold maxApp; omega, ?_⟩
  refine loop_set (σ := List (List Value)) (fun vss => [(4, .c (.d (.int .i64 vss.length)))]) (fun _ => []) (fun vss => .rows (fillR (l.map Cl.row) vss [.int .i64 0, .int .i64 0, .str [], .sl [], .sl []]) :: (List.zipWith trs (l.map Cl.row) vss).flatten) (fun vss => vss.length ≤ l.length ∧ ∀ vs ∈ vss, vs.length = 2) (fun vss => l.length - vss.length) [] (by simp [setAll, fillR_nil]) ⟨Nat.zero_le _, by simp⟩ ?_
  rintro vss ⟨hi, hvm⟩
  have htr : ((List.zipWith trs (l.map Cl.row) vss).flatten).all Ob.isTreeB = true := flat_trees (zipt_trees _ _)
  generalize hTR : (List.zipWith trs (l.map Cl.row) vss).flatten = TR at htr ⊢
  have hre := trees_map_re htr 0
  simp -implicitDefEqProofs [setAll, hli, hre, go_sem, -List.set_cons_succ, -List.set_cons_zero]
  refine ⟨fun hlt => ?_, fun hge => ?_⟩
  · have hadd : inR .i64 ((vss.length : Int) + 1) := small_i64 (by omega) (by omega)
    refine row_of hlt (crow_len _) ?_
    simp -implicitDefEqProofs [crow_len, take_crow, pure_d, re_d, hre, go_sem, -List.set_cons_succ, -List.set_cons_zero]
    refine call_loc (J := []) (h l[vss.length] (List.getElem_mem hlt)) (fun r H' h => h.handed) (by simp [Ob.re, hre]) (.cons (.agg (fzCs_id _)) .nil) List.nodup_nil rfl rfl ?_
    rintro _ _ ⟨vs, hvl, rfl, rfl⟩ _
    have hlt' : vss.length < (l.map Cl.row).length := by simpa using hlt
    have hg := fillR_get [.int .i64 0, .int .i64 0, .str [], .sl [], .sl []] hlt'
    have hset := fillR_set [.int .i64 0, .int .i64 0, .str [], .sl [], .sl []] vs hlt'
    have hsn := zipR_snoc trs (l.map Cl.row) vss vs hlt'
    simp only [List.getElem_map] at hset hsn
    simp -implicitDefEqProofs [putAll, hadd, hlt, hg, toDs_map, cut_len, crow_len, go_sem, -List.set_cons_succ, -List.set_cons_zero]
    refine loop_back (vss ++ [vs]) ?_ ⟨by simp; omega, fun x hx => ?_⟩ (by show l.length - (vss ++ [vs]).length < l.length - vss.length; simp; omega)
    · simp only [hsn, List.flatten_append, hTR]
      simp [setAll, hset]
    · rcases List.mem_append.1 hx with hx | hx
      · exact hvm x hx
      · simp at hx; rw [hx, hvl]; rfl
  · have hvl : vss.length = (l.map Cl.row).length := by simp; omega
    have hV : Vals 2 (l.map Cl.row) vss := ⟨hvl, fun r hr => by obtain ⟨t, _, rfl⟩ := List.mem_map.1 hr; rfl, hvm⟩
    have hn : (0 :: List.range' 1 TR.length).Nodup := List.nodup_cons.2 ⟨by simp, List.nodup_range'⟩
    refine finT_ret _ ⟨trivial, trivial⟩ rfl fun kv => ⟨_, _, _, .one (.c (.fsl (trs := TR) (js := List.range' 1 TR.length) rfl (by rw [fillR_all _ hvl, ← hTR]; exact strip_rows _ _ hV) (by rw [fillR_all _ hvl, cut_lens hvl]) (fun m hm => ?_))), by simpa using hn, _, rfl, rfl⟩
    exact ⟨1 + m, by simp [hm], by rw [Nat.add_comm]; simp⟩

theorem toClauseOwn_calls (c : Cl) (hc : c.fits) : ACalls Tryd.prog 29 [.agg (c.row.map .d)] [] (HandsRow c.row) := by
  obtain ⟨h, b⟩ := c
  obtain ⟨hh, hl, hb⟩ := hc
  simp only at hh hl hb
  have c1 := toO_calls h hh
  unfold ToO at c1
  rw [row_eq] at c1
  simp only [List.map_cons, List.map_nil] at c1
  refine acallsT Tryd.func29 (by kernel_rfl) Own.ac29_ok ?_
  simp -implicitDefEqProofs [Own.ac29, Cl.row, go_sem, -List.set_cons_succ, -List.set_cons_zero]
  refine call_loc (J := []) c1 (fun r H' h => h.handed) rfl (.cons (.agg (fzCs_id [.int .i64 h.k, .int .i64 h.n, .str h.s, .sl (h.kids.map Tm.row)])) .nil) List.nodup_nil rfl rfl ?_
  rintro _ _ ⟨v, rfl, rfl⟩ _
  simp -implicitDefEqProofs [putAll, go_sem, -List.set_cons_succ, -List.set_cons_zero]
  refine call_loc (J := []) (toTermSOwn_calls b hl hb) (fun r H' h => h.handed) rfl (.cons (.c .d) .nil) List.nodup_nil rfl rfl ?_
  rintro _ _ ⟨w, rfl, rfl⟩ _
  simp -implicitDefEqProofs [putAll, go_sem, -List.set_cons_succ, -List.set_cons_zero]
  exact finT_ret _ ⟨trivial, trivial⟩ rfl fun kv => ⟨_, _, _, .one (.agg (.cons (.leaf rfl) (.cons (.leaf rfl) (.cons (.leaf rfl) (.cons (.tree (j := 3) rfl) (.cons (.tree (j := 4) rfl) .nil)))))), by simp, [_, _], rfl, rfl, rfl⟩
theorem toClauseSOwn_calls (l : List Cl) (h : FitsC l) : ACalls Tryd.prog 8 [.c (.d (.sl (l.map Cl.row)))] [] (HandsRows (l.map Cl.row)) :=
  toClauseS_own l h.1 fun c hc => toClauseOwn_calls c (h.2 c hc)
end Go.Proofs.YtnljciooabmogaaDoor

/-
  Clauses are counted.
  Conditions: none.
-/
open Go Go.AM Go.Proofs
namespace Go.Proofs.YtnljciooabmogaaDoor
open Go.ChangeShapes Go.WideShapes Go.ChangeAt Go.RowKit
set_option linter.unusedVariables false
set_option linter.unusedSimpArgs false
set_option maxRecDepth 100000
def Cl.wt (c : Cl) : Nat := c.head.wt + Tm.wts c.body
/-- the terms below a clause -/
def Cl.sub (c : Cl) : Nat := c.head.sub + Tm.cnt c.body
theorem csub_wt (c : Cl) : c.sub ≤ c.wt := by
  have h1 := sub_wt c.head
  have h2 := cnt_wts c.body
  simp only [Cl.sub, Cl.wt]; omega
def SzWC (t : Cl) : Prop := ∀ (m : Int), 0 ≤ m → m ≤ 1048576 → ∀ H, ACalls Tryd.prog 23 [.agg (t.row.map .d), .c (.d (.int .i64 m))] H (fun r H' => H' = H ∧ LeftW m t.fits t.wt r)
theorem szwClause_calls (c : Cl) (hc : c.fine) : SzWC c := fun m h0 h1 H => by
  obtain ⟨h, b⟩ := c
  obtain ⟨hh, hl, hb⟩ := hc
  have c1 := szwTerm_calls h hh m h0 h1
  rw [row_eq] at c1
  simp only [List.map_cons, List.map_nil] at c1
  refine acalls Tryd.func23 (by kernel_rfl) ac23_ok fun hf => ?_
  simp -implicitDefEqProofs [ac23, Cl.row, go_sem, -List.set_cons_succ, -List.set_cons_zero]
  refine call_some (c1 _) (by simp [Ob.re, C.re]) (fun r => LeftW.re) hf ?_
  rintro _ ⟨q, rfl, hq0, hq1, hq2⟩
  simp -implicitDefEqProofs [go_sem, -List.set_cons_succ, -List.set_cons_zero]
  refine ⟨fun _ => ⟨-1, rfl, by omega, by omega, fun h => by omega⟩, fun hq => ?_⟩
  refine call_some (szwTermS_calls b hl hb q hq (by omega) _) (by simp [Ob.re, C.re]) (fun r => LeftW.re) hf ?_
  rintro _ ⟨q2, rfl, hp0, hp1, hp2⟩
  simp -implicitDefEqProofs [go_sem, -List.set_cons_succ, -List.set_cons_zero]
  exact ⟨fun _ => ⟨-1, rfl, by omega, by omega, fun h => by omega⟩, fun hp => ⟨q2, rfl, by omega, by omega, fun _ => ⟨⟨(hq2 hq).1, (hp2 hp).1.1, (hp2 hp).1.2⟩, by have h1 := (hq2 hq).2; have h2 := (hp2 hp).2; simp only [Cl.wt]; omega⟩⟩⟩
end Go.Proofs.YtnljciooabmogaaDoor

/-
  Clauses are counted, marked, and looked at again.
  Conditions: none.
-/
open Go Go.AM Go.Proofs
namespace Go.Proofs.YtnljciooabmogaaDoor
open Go.ChangeShapes Go.WideShapes Go.ChangeAt Go.RowKit
set_option linter.unusedVariables false
set_option linter.unusedSimpArgs false
set_option maxRecDepth 100000
theorem szClauseS_w (l : List Cl) (hl : l.length ≤ reachBytes) (h : ∀ t ∈ l, SzWC t) (m : Int) (h0 : 0 ≤ m) (h1 : m ≤ 1048576) (H : Heap) :
    ACalls Tryd.prog 5 [.c (.d (.sl (l.map Cl.row))), .c (.d (.int .i64 m))] H (fun r H' => H' = H ∧ LeftW m (l.length ≤ 1048576 ∧ ∀ t ∈ l, Cl.fits t) (wsum Cl.wt l) r) := by
  refine acalls Tryd.func5 (by kernel_rfl) ac5_ok fun hf => ?_
  have hlen := reach_i64 hl
  have hsm := reach_small hl
  have hsub : inR .i64 (m - (l.length : Int)) := small_i64 (by omega) (by omega)
  simp -implicitDefEqProofs [ac5, hlen, hsub, go_sem, -List.set_cons_succ, -List.set_cons_zero]
  refine ⟨fun _ => ⟨-1, rfl, by omega, by omega, fun h => by omega⟩, fun hge => ?_⟩
  have hsmall : l.length ≤ 1048576 := by omega
  refine loop_set (σ := Nat × Int) (fun x => [(5, .c (.d (.int .i64 x.1))), (1, .c (.d (.int .i64 x.2)))]) (fun _ => H) (fun _ => []) (fun x => x.1 ≤ l.length ∧ 0 ≤ x.2 ∧ x.2 + wsum Cl.wt (l.take x.1) + (l.length - x.1 : Nat) ≤ m ∧ ∀ t ∈ l.take x.1, Cl.fits t) (fun x => l.length - x.1) (0, m - l.length) rfl ⟨Nat.zero_le _, by simp; omega, by simp [wsum], by simp⟩ ?_
  rintro ⟨i, k⟩ ⟨hi, hm0, hm1, hall⟩
  simp only at hi hm0 hm1 hall
  simp -implicitDefEqProofs [setAll, hlen, go_sem, -List.set_cons_succ, -List.set_cons_zero]
  refine ⟨fun hlt => ?_, fun hge => ⟨k, rfl, by omega, by omega, fun _ => ⟨⟨hsmall, by rw [List.take_of_length_le hge] at hall; exact hall⟩, by rw [List.take_of_length_le hge] at hm1; omega⟩⟩⟩
  refine row_of hlt (crow_len _) ?_
  simp -implicitDefEqProofs [crow_len, take_crow, pure_d, re_d, go_sem, -List.set_cons_succ, -List.set_cons_zero]
  refine call_some (h l[i] (List.getElem_mem hlt) k hm0 (by omega) _) (by simp) (fun r => LeftW.re) hf ?_
  rintro _ ⟨q, rfl, hq0, hq1, hq2⟩
  have hadd : inR .i64 ((i : Int) + 1) := small_i64 (by omega) (by omega)
  simp -implicitDefEqProofs [hadd, go_sem, -List.set_cons_succ, -List.set_cons_zero]
  refine ⟨fun _ => ⟨-1, rfl, by omega, by omega, fun h => by omega⟩, fun hk => ?_⟩
  have hw := wsum_take_succ Cl.wt l hlt
  have hq3 := (hq2 hk).2
  refine loop_back (i + 1, q) (by simp [setAll]) ⟨hlt, hk, by simp only [hw]; omega, fun t ht => ?_⟩ (by show l.length - (i + 1) < l.length - i; omega)
  rw [List.take_succ_eq_append_getElem hlt, List.mem_append] at ht
  rcases ht with ht | ht
  · exact hall t ht
  · simp at ht; subst ht; exact (hq2 hk).1

theorem szwClauseS_calls (l : List Cl) (hl : l.length ≤ reachBytes) (h : ∀ c ∈ l, c.fine) (m : Int) (h0 : 0 ≤ m) (h1 : m ≤ 1048576) (H : Heap) :
    ACalls Tryd.prog 5 [.c (.d (.sl (l.map Cl.row))), .c (.d (.int .i64 m))] H (fun r H' => H' = H ∧ LeftW m (FitsC l) (wsum Cl.wt l) r) :=
  szClauseS_w l hl (fun c hc => szwClause_calls c (h c hc)) m h0 h1 H
-- 14 loop.example/prologserver/laws.markClauseS params 2 ntmps 53
-- loop head live: [0,1,5]
def ac14 : Cd := .seq (.region [⟨(some 4),.mv (.k (.c (.d (.int .i64 0)))),none⟩] [4])
 (.seq (.seq (.region [⟨(some 5),.mv (.k (.c (.d (.int .i64 0)))),none⟩] [])
 (.block 0 (.loop (.seq (.seq (.region [⟨(some 6),.mv (.t 5),none⟩,
 ⟨(some 7),.mv (.t 0),none⟩,
 ⟨(some 8),.len 1 (.t 7),none⟩,
 ⟨(some 9),.bin .lss (.t 6) (.t 8),none⟩] [6,7,8])
 (.cond (.t 9)
 (.skip)
 (.exit 0)))
 (.seq (.block 1 (.seq (.region [⟨(some 12),.mv (.t 0),none⟩,
 ⟨(some 13),.mv (.t 5),none⟩,
 ⟨(some 14),.mv (.t 1),none⟩,
 ⟨(some 15),.indexAddr 5 (.t 12) (.t 13),none⟩,
 ⟨(some 16),.fieldAddr 0 (.t 15),none⟩,
 ⟨(some 17),.fieldAddr 0 (.t 16),none⟩,
 ⟨none,.store 1 (.t 17) (.t 14),none⟩] [9,12,13,14,15,16,17])
 (.seq (.region [⟨(some 18),.mv (.t 1),none⟩,
 ⟨(some 19),.bin .add (.t 18) (.k (.c (.d (.int .i64 1)))),none⟩,
 ⟨(some 1),.mv (.t 19),none⟩] [18,19])
 (.seq (.region [⟨(some 20),.mv (.t 0),none⟩,
 ⟨(some 21),.mv (.t 5),none⟩,
 ⟨(some 22),.mv (.t 1),none⟩,
 ⟨(some 23),.indexAddr 5 (.t 20) (.t 21),none⟩,
 ⟨(some 24),.fieldAddr 0 (.t 23),none⟩,
 ⟨(some 25),.fieldAddr 1 (.t 24),none⟩,
 ⟨none,.store 1 (.t 25) (.t 22),none⟩] [20,21,22,23,24,25])
 (.seq (.region [⟨(some 26),.mv (.t 1),none⟩,
 ⟨(some 27),.bin .add (.t 26) (.k (.c (.d (.int .i64 1)))),none⟩,
 ⟨(some 1),.mv (.t 27),none⟩] [26,27])
 (.seq (.region [⟨(some 28),.mv (.t 0),none⟩,
 ⟨(some 29),.mv (.t 5),none⟩,
 ⟨(some 30),.mv (.t 1),none⟩,
 ⟨(some 31),.qcall 35 [(.t 30)],none⟩,
 ⟨(some 32),.indexAddr 5 (.t 28) (.t 29),none⟩,
 ⟨(some 33),.fieldAddr 0 (.t 32),none⟩,
 ⟨(some 34),.fieldAddr 2 (.t 33),none⟩,
 ⟨none,.store 1 (.t 34) (.t 31),none⟩] [28,29,30,31,32,33,34])
 (.seq (.region [⟨(some 35),.mv (.t 1),none⟩,
 ⟨(some 36),.bin .add (.t 35) (.k (.c (.d (.int .i64 1)))),none⟩,
 ⟨(some 1),.mv (.t 36),none⟩] [35,36])
 (.seq (.region [⟨(some 37),.mv (.t 0),none⟩,
 ⟨(some 38),.mv (.t 5),none⟩,
 ⟨(some 39),.indexAddr 5 (.t 37) (.t 38),none⟩,
 ⟨(some 40),.fieldAddr 0 (.t 39),none⟩,
 ⟨(some 41),.fieldAddr 3 (.t 40),none⟩,
 ⟨(some 42),.load none (.t 41),none⟩,
 ⟨(some 43),.mv (.t 1),none⟩,
 ⟨(some 44),.call false 36 [(.t 42),(.t 43)],none⟩,
 ⟨(some 1),.mv (.t 44),none⟩] [37,38,39,40,41,42,43,44])
 (.region [⟨(some 45),.mv (.t 0),none⟩,
 ⟨(some 46),.mv (.t 5),none⟩,
 ⟨(some 47),.indexAddr 5 (.t 45) (.t 46),none⟩,
 ⟨(some 48),.fieldAddr 4 (.t 47),none⟩,
 ⟨(some 49),.load none (.t 48),none⟩,
 ⟨(some 50),.mv (.t 1),none⟩,
 ⟨(some 51),.call false 36 [(.t 49),(.t 50)],none⟩,
 ⟨(some 1),.mv (.t 51),none⟩] [45,46,47,48,49,50,51])))))))))
 (.region [⟨(some 10),.mv (.t 5),none⟩,
 ⟨(some 11),.bin .add (.t 10) (.k (.c (.d (.int .i64 1)))),none⟩,
 ⟨(some 5),.mv (.t 11),none⟩] [10,11]))))))
 (.seq (.region [⟨(some 52),.mv (.t 1),none⟩,
 ⟨(some 4),.mv (.t 52),none⟩] [1,52])
 (.ret)))
theorem ac14_ok : cFunc Tryd.prog [1000035] [(0,[4],[]),(1,[],[]),(2,[6,7,8],[]),(4,[9,12,13,14,15,16,17],[]),(5,[18,19],[]),(6,[20,21,22,23,24,25],[]),(7,[26,27],[]),(8,[28,29,30,31,32,33,34],[]),(9,[35,36],[]),(10,[37,38,39,40,41,42,43,44],[]),(11,[45,46,47,48,49,50,51],[]),(3,[10,11],[]),(12,[1,52],[])] Tryd.f14 = some (ac14,[.tmp 4],53) := by kernel_rfl
/-- a clause that bears marks -/
def mCl (k : Int) (c : Cl) : Cl := ⟨mTm k c.head, mTms (k + 3 + 3 * c.head.sub) c.body⟩
def mCls (k : Int) : List Cl → List Cl
  | [] => []
  | c :: l => mCl k c :: mCls (k + 3 + 3 * c.sub) l
theorem mCls_len : ∀ (k : Int) (l : List Cl), (mCls k l).length = l.length
  | k, [] => rfl
  | k, c :: l => by rw [mCls, List.length_cons, mCls_len, List.length_cons]
theorem mCls_get : ∀ (k : Int) (l : List Cl) (i : Nat) (h : i < l.length), (mCls k l)[i]? = some (mCl (k + 3 * wsum Cl.sub (l.take i)) l[i])
  | k, c :: l, 0, h => by rw [mCls]; simp [wsum]
  | k, c :: l, i + 1, h => by
    rw [mCls, List.getElem?_cons_succ, mCls_get _ l i (by simpa using h)]
    simp only [List.take_succ_cons, wsum, List.getElem_cons_succ]
    congr 2
    simp only [Int.natCast_add]
    omega
theorem mCl_row (k : Int) (c : Cl) : (mCl k c).row = [.int .i64 k, .int .i64 (k + 1), .str (mText (k + 1 + 1)), .sl ((mTms (k + 1 + 1 + 1) c.head.kids).map Tm.row), .sl ((mTms (k + 1 + 1 + 1 + 3 * c.head.sub) c.body).map Tm.row)] := by
  have h := mTm_row k c.head
  rw [row_eq] at h
  simp only [List.cons.injEq, D.int.injEq, D.str.injEq, D.sl.injEq, and_true, true_and] at h
  simp only [mCl, Cl.row]
  rw [h.1, h.2.1, h.2.2.1, h.2.2.2, show k + 1 + 1 = k + 2 by omega, show k + 2 + 1 = k + 3 by omega]
theorem cl_rows (l : List Cl) : ∀ r ∈ l.map Cl.row, r.length = 5 := fun r hr => by obtain ⟨t, _, rfl⟩ := List.mem_map.1 hr; rfl
theorem cl_nsl (l : List Cl) : ∀ r ∈ l.map Cl.row, nsl r = 2 := fun r hr => by obtain ⟨t, _, rfl⟩ := List.mem_map.1 hr; rfl
theorem markClauseS_calls (l : List Cl) (h : FitsC l) (k : Int) (h0 : 0 ≤ k) (h1 : k + 3 * wsum Cl.sub l ≤ 500000000000000) (kv : Value) :
    ACalls Tryd.prog 14 [.c (.d (.v kv)), .c (.d (.int .i64 k))] [.tree kv (l.map Cl.row)]
    (fun r H' => H' = [.tree kv ((mCls k l).map Cl.row)] ∧ r = .c (.d (.int .i64 (k + 3 * wsum Cl.sub l)))) := by
  have hl := h.1
  refine (acalls_tree (f := 14) (pre := []) (post := [.c (.d (.int .i64 k))]) (rows := l.map Cl.row) (Q := fun r rows' => r = .c (.d (.int .i64 (k + 3 * wsum Cl.sub l))) ∧ rows' = (mCls k l).map Cl.row) 5 (cl_rows l) rfl rfl (fun he => ?_) (fun hne srows trees hst hlens => ?_) kv).mono fun r H' ⟨rows', h1, _, h2, h3⟩ => ⟨by rw [h1, h3], h2⟩
  · obtain rfl : l = [] := by simpa using he
    have hk0 : inR .i64 k := small_i64 (by simp [wsum] at h1; omega) (by simp [wsum] at h1; omega)
    have hz0 : inR .i64 0 := small_i64 (by omega) (by omega)
    refine acalls Tryd.func14 (by kernel_rfl) ac14_ok fun hf => ?_
    simp -implicitDefEqProofs [ac14, go_sem, -List.set_cons_succ, -List.set_cons_zero]
    refine loop_set (σ := Unit) (fun _ => [(5, .c (.d (.int .i64 0)))]) (fun _ => []) (fun _ => []) (fun _ => True) (fun _ => 0) () rfl trivial ?_
    intro _ _
    simp -implicitDefEqProofs [setAll, hz0, mCls, wsum, A.portT, A.portB, C.portB, D.leaf, go_sem, -List.set_cons_succ, -List.set_cons_zero]
  · obtain ⟨vss, hV, hc, ht⟩ := rows_unstrip (m := 2) _ _ _ (cl_nsl l) hst
    obtain rfl := flatten_uniq hc (by rw [hlens, cut_lens hV.1])
    subst ht
    have hvl : vss.length = l.length := by rw [hV.1]; simp
    obtain ⟨kk, hkk⟩ : ∃ kk : Nat → Int, ∀ j, kk j = k + 3 * (wsum Cl.sub (l.take j) : Int) := ⟨_, fun _ => rfl⟩
    obtain ⟨fr, hfr⟩ : ∃ fr : Nat → List D, ∀ j, fr j = cutR (mCl (kk j) (l.getD j ⟨default, []⟩)).row (vss.getD j []) := ⟨_, fun _ => rfl⟩
    obtain ⟨ft, hft⟩ : ∃ ft : Nat → Heap, ∀ j, ft j = trs (mCl (kk j) (l.getD j ⟨default, []⟩)).row (vss.getD j []) := ⟨_, fun _ => rfl⟩
    obtain ⟨R, hR⟩ : ∃ R, R = List.zipWith cutR (l.map Cl.row) vss := ⟨_, rfl⟩
    obtain ⟨T, hT⟩ : ∃ T, T = List.zipWith trs (l.map Cl.row) vss := ⟨_, rfl⟩
    have hRl : R.length = l.length := by simp [hR, hvl]
    have hTl : T.length = l.length := by simp [hT, hvl]
    have hTm : ∀ p ∈ T, p.length = 2 := by rw [hT]; exact zipt_lens hV
    have hTt : ∀ p ∈ T, p.all Ob.isTreeB = true := by rw [hT]; exact zipt_trees _ _
    have hRi : ∀ i (hi : i < l.length), ∃ v w, vss[i]? = some [v, w] ∧ R[i]? = some [.int .i64 l[i].head.k, .int .i64 l[i].head.n, .str l[i].head.s, .v v, .v w] ∧ T[i]? = some [.tree v (l[i].head.kids.map Tm.row), .tree w (l[i].body.map Tm.row)] := fun i hi => by
      have h1 : vss[i]? = some (vss[i]'(by omega)) := List.getElem?_eq_getElem _
      have h2 := hV.2.2 _ (List.mem_of_getElem? h1)
      match hvi : vss[i]'(by omega), h2 with
      | [v, w], _ =>
        rw [hvi] at h1
        refine ⟨v, w, h1, ?_, ?_⟩
        · rw [hR, List.getElem?_zipWith, h1]; simp [hi]; rfl
        · rw [hT, List.getElem?_zipWith, h1]; simp [hi]; rfl
    have hmem : ∀ i (hi : i ≤ l.length), ∀ p ∈ mixed ft T i, p.length = 2 := fun i hi p hp => by
      rcases List.mem_append.1 hp with hp | hp
      · obtain ⟨j, hj, rfl⟩ := List.mem_map.1 hp
        have hjl : j < l.length := by simp at hj; omega
        obtain ⟨v, w, e1, _, _⟩ := hRi j hjl
        rw [hft, trs_len _ _ (by simp [List.getD, e1, Cl.row, nsl])]
        rfl
      · exact hTm p (List.mem_of_mem_drop hp)
    have hmt : ∀ i, (mixed ft T i).flatten.all Ob.isTreeB = true := fun i => flat_trees fun p hp => by
      rcases List.mem_append.1 hp with hp | hp
      · obtain ⟨j, hj, rfl⟩ := List.mem_map.1 hp
        rw [hft]; exact trs_trees _ _
      · exact hTt p (List.mem_of_mem_drop hp)
    rw [← hR, ← hT]
    refine acalls Tryd.func14 (by kernel_rfl) ac14_ok fun hf => ?_
    have hli : inR .i64 (l.length : Int) := small_i64 (by omega) (by omega)
    simp -implicitDefEqProofs [ac14, hli, go_sem, -List.set_cons_succ, -List.set_cons_zero]
    refine loop_set (σ := Nat) (fun i => [(5, .c (.d (.int .i64 i))), (1, .c (.d (.int .i64 (kk i))))]) (fun i => .rows (mixed fr R i) :: (mixed ft T i).flatten) (fun _ => []) (fun i => i ≤ l.length) (fun i => l.length - i) 0 (by simp [setAll, mixed_zero, hkk, wsum]) (Nat.zero_le _) ?_
    intro i hi
    obtain ⟨TT, hTT⟩ : ∃ TT, TT = (mixed ft T i).flatten := ⟨_, rfl⟩
    have hTa : TT.all Ob.isTreeB = true := by rw [hTT]; exact hmt i
    rw [← hTT]
    simp -implicitDefEqProofs [setAll, hli, go_sem, -List.set_cons_succ, -List.set_cons_zero]
    refine ⟨fun hlt => ⟨hlt, ?_⟩, fun hge => ?_⟩
    · have hs := wsum_take_sub Cl.sub l hlt
      have hki := hkk i
      obtain ⟨v, w, hv, hRv, hTv⟩ := hRi i hlt
      have hc := h.2 l[i] (List.getElem_mem hlt)
      have hcs : l[i].sub = l[i].head.sub + Tm.cnt l[i].body := rfl
      have hRlt : i < R.length := by omega
      have hTlt : i < T.length := by omega
      have hlm : i < (mixed fr R i).length := by rw [mixed_len _ _ (by omega)]; exact hRlt
      have hgs : ∀ r, ((mixed fr R i).set i r)[i]? = some r := fun r => List.getElem?_set_self hlm
      have hget : (mixed fr R i)[i]? = some [.int .i64 l[i].head.k, .int .i64 l[i].head.n, .str l[i].head.s, .v v, .v w] := by rw [mixed_get _ _ hRlt, ← List.getElem?_eq_getElem hRlt, hRv]
      have hTg : (mixed ft T i)[i]? = some [.tree v (l[i].head.kids.map Tm.row), .tree w (l[i].body.map Tm.row)] := by rw [mixed_get _ _ hTlt, ← List.getElem?_eq_getElem hTlt, hTv]
      have hg0 : TT[i * 2]? = some (.tree v (l[i].head.kids.map Tm.row)) := by rw [hTT]; exact fl_get (j := 0) (hmem i hi) hTg (by omega)
      have hg1 : TT[i * 2 + 1]? = some (.tree w (l[i].body.map Tm.row)) := by rw [hTT]; exact fl_get (j := 1) (hmem i hi) hTg (by omega)
      have i0 : inR .i64 (kk i) := small_i64 (by omega) (by omega)
      have i1 : inR .i64 (kk i + 1) := small_i64 (by omega) (by omega)
      have i2 : inR .i64 (kk i + 1 + 1) := small_i64 (by omega) (by omega)
      have i3 : inR .i64 (kk i + 1 + 1 + 1) := small_i64 (by omega) (by omega)
      have hadd : inR .i64 ((i : Int) + 1) := small_i64 (by omega) (by omega)
      have hfx : ∀ rs (T' : Heap), T'.all Ob.isTreeB = true → Obs.fits ((Ob.rows rs :: T').length) 0 (Ob.rows rs :: T') := fun rs T' h => ⟨trivial, trees_fits h⟩
      simp -implicitDefEqProofs [hget, hgs, hlt, i0, i1, i2, i3, hadd, go_sem, -List.set_cons_succ, -List.set_cons_zero]
      refine ⟨hfx _ _ hTa, hfx _ _ hTa, qcall_pure (markText_calls _ (by omega)) (hfx _ _ hTa) rfl ?_⟩
      simp -implicitDefEqProofs [hget, hgs, hlt, i0, i1, i2, i3, hadd, go_sem, -List.set_cons_succ, -List.set_cons_zero]
      have hca : ∀ (a : Ob) (l : Heap) (n : Nat) (b : Ob), (a :: l).set (n + 1) b = a :: l.set n b := fun _ _ _ _ => rfl
      have hTb : (TT.set (i * 2) (.tree v ((mTms (kk i + 1 + 1 + 1) l[i].head.kids).map Tm.row))).all Ob.isTreeB = true := by
        rw [List.all_eq_true] at hTa ⊢
        intro o ho
        rcases List.mem_or_eq_of_mem_set ho with ho | rfl
        · exact hTa o ho
        · rfl
      have hg2 : (TT.set (i * 2) (.tree v ((mTms (kk i + 1 + 1 + 1) l[i].head.kids).map Tm.row)))[i * 2 + 1]? = some (.tree w (l[i].body.map Tm.row)) := by rw [List.getElem?_set_ne (by omega)]; exact hg1
      refine ⟨hfx _ _ hTa, call_ext (J := [i * 2 + 1]) (markT_calls l[i].head hc.head (kk i + 1 + 1 + 1) (by omega) (by omega) v) (fun r H' ⟨h1, h2⟩ => by subst h1; subst h2; exact ⟨⟨rfl, rfl⟩, rfl⟩) (by simp) (.cons (.c .d) (.cons (.c .d) .nil)) (by simp) (by simp [hg0]) rfl (hfx _ _ hTa) ?_⟩
      rintro _ _ ⟨rfl, rfl⟩
      simp -implicitDefEqProofs [putAll, hca, hadd, hgs, go_sem, -List.set_cons_succ, -List.set_cons_zero]
      refine ⟨hlt, ?_⟩
      refine call_ext (loc := []) (J := [i * 2 + 1 + 1]) (markTermS_calls l[i].body hc.len hc.body (kk i + 1 + 1 + 1 + 3 * l[i].head.sub) (by omega) (by omega) w) (fun r H' ⟨h1, h2⟩ => by subst h1; subst h2; exact ⟨⟨rfl, rfl⟩, rfl⟩) (by simp) (.cons (.c .d) (.cons (.c .d) .nil)) (by simp) (by simp [hg2]) rfl (hfx _ _ hTb) ?_
      rintro _ _ ⟨rfl, rfl⟩
      simp -implicitDefEqProofs [putAll, hca, hadd, go_sem, -List.set_cons_succ, -List.set_cons_zero]
      have hk1 : kk (i + 1) = kk i + 1 + 1 + 1 + 3 * (l[i].head.sub : Int) + 3 * (Tm.cnt l[i].body : Int) := by
        have := wsum_take_succ Cl.sub l hlt
        rw [hkk, hkk]; omega
      have hvd : vss.getD i [] = [v, w] := by simp [List.getD, hv]
      have hld : l.getD i ⟨default, []⟩ = l[i] := by simp [hlt]
      have e1 := mixed_set fr R hRlt
      have e2 := mixed_set ft T hTlt
      rw [hfr, hld, hvd, mCl_row] at e1
      rw [hft, hld, hvd, mCl_row] at e2
      have hl2 := hmem i hi
      have s1 := fl_set (j := 0) hl2 hTg (by omega) (.tree v ((mTms (kk i + 1 + 1 + 1) l[i].head.kids).map Tm.row))
      have hTm1 : i < (mixed ft T i).length := by rw [mixed_len _ _ (by omega)]; exact hTlt
      have s2 := fl_set (L := (mixed ft T i).set i [.tree v ((mTms (kk i + 1 + 1 + 1) l[i].head.kids).map Tm.row), .tree w (l[i].body.map Tm.row)]) (m := 2) (i := i) (j := 1) (fun p hp => by
        rcases List.mem_or_eq_of_mem_set hp with hp | rfl
        · exact hl2 p hp
        · rfl) (List.getElem?_set_self hTm1) (by omega) (.tree w ((mTms (kk i + 1 + 1 + 1 + 3 * l[i].head.sub) l[i].body).map Tm.row))
      have s3 : (TT.set (i * 2) (.tree v ((mTms (kk i + 1 + 1 + 1) l[i].head.kids).map Tm.row))).set (i * 2 + 1) (.tree w ((mTms (kk i + 1 + 1 + 1 + 3 * l[i].head.sub) l[i].body).map Tm.row)) = (mixed ft T (i + 1)).flatten := by
        rw [← e2, hTT]
        refine (congrArg (fun x => List.set x (i * 2 + 1) _) s1).trans (s2.trans ?_)
        rw [List.set_set]
        rfl
      refine loop_back (i + 1) ?_ hlt (by show l.length - (i + 1) < l.length - i; omega)
      simp only [hk1, ← e1, ← s3]
      simp [setAll, cutR]
    · obtain rfl : i = l.length := by omega
      have hml := mCls_len k l
      have hV' : Vals 2 ((mCls k l).map Cl.row) vss := ⟨by simp [hml, hvl], cl_nsl _, hV.2.2⟩
      have e1 : mixed fr R l.length = List.zipWith cutR ((mCls k l).map Cl.row) vss := by
        refine List.ext_getElem? fun j => ?_
        rw [mixed_get' _ _ (by omega)]
        by_cases hj : j < l.length
        · obtain ⟨v, w, hv, _, _⟩ := hRi j hj
          rw [if_pos hj, hfr, List.getElem?_zipWith, List.getElem?_map, mCls_get k l j hj, hv, hkk]; simp [hj, List.getD, hv]
        · rw [if_neg hj, List.getElem?_eq_none (by omega), List.getElem?_eq_none (by simp [hml]; omega)]
      have e2 : mixed ft T l.length = List.zipWith trs ((mCls k l).map Cl.row) vss := by
        refine List.ext_getElem? fun j => ?_
        rw [mixed_get' _ _ (by omega)]
        by_cases hj : j < l.length
        · obtain ⟨v, w, hv, _, _⟩ := hRi j hj
          rw [if_pos hj, hft, List.getElem?_zipWith, List.getElem?_map, mCls_get k l j hj, hv, hkk]; simp [hj, List.getD, hv]
        · rw [if_neg hj, List.getElem?_eq_none (by omega), List.getElem?_eq_none (by simp [hml]; omega)]
      rw [e1, hTT, e2]
      refine ⟨_, _, _, strip_rows _ _ hV', by simp [hml], cl_rows _, cut_lens hV'.1, ?_, ⟨rfl, rfl⟩, rfl, by rw [hkk, List.take_length], rfl⟩
      rw [List.length_flatten, sum_len (zipt_lens hV'), sum_len hTm, hTl]
      simp [hml, hvl]
end Go.Proofs.YtnljciooabmogaaDoor
