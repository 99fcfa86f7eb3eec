/-
  The law FnExactPureProgram holds: spec.PureProgram and impl.PureProgram answer alike at all programs.
  Conditions: none.
-/
import Derived.Test.YtoipdmomgjdnaaaBundA
open Go Go.AM Go.Proofs
attribute [local go_sem] kw ew sw tw a_ b_ c_ A.ok A.val d_ e_ f_ g_ h_ i_ j_ k_ l_ m_ unA unD n_ AOp.total o_ p_ q_ r_ s_ t_ u_ v_ A.thaw C.thaw A.fits As.fits C.fits evs oks w_ A.pure C.pure A.re C.re x_ y_ cut A.cells C.rows? z_ A_ B_ C_ a0_ b0_ D_ Ob.re Cs.fits E_ F_ G_ H_ I_ J_ K_ L_ M_ N_ O_ C.toD P_ Q_ R_ S_ T_ Obs.fits U_ eqD V_ W_ X_ Y_ Z_
open Go Go.AM Go.Proofs
namespace Go.Proofs.Ytoipdmomgjdnaaa
open Go.ChangeShapes Go.WideShapes Go.ChangeAt Go.RowKit
set_option linter.unusedVariables false
set_option linter.unusedSimpArgs false
set_option maxRecDepth 100000
-- 28 loop.example/prologserver/impl.PureProgram$1 params 1 ntmps 13
def ac28 : Cd := .seq (.region [⟨(some 1),.box (.t 0),none⟩,
 ⟨(some 2),.mv (.k (.c (.d (.bool false)))),none⟩] [0,2])
 (.seq (.region [⟨(some 3),.load (some 4) (.t 1),none⟩,
 ⟨(some 4),.qcall 29 [(.t 3)],none⟩,
 ⟨(some 5),.un .not (.t 4),none⟩,
 ⟨(some 6),.mv (.t 5),none⟩,
 ⟨(some 7),.buildSlice 1 3 [(.str [])] [(0,(.k (.c (.d (.str [61]))))),(1,(.k (.c (.d (.str [116,114,117,101]))))),(2,(.k (.c (.d (.str [102,97,105,108])))))],some (6,true)⟩,
 ⟨(some 8),.fieldAddr 2 (.t 1),some (6,true)⟩,
 ⟨(some 9),.load none (.t 8),some (6,true)⟩,
 ⟨(some 10),.qcall 30 [(.t 7),(.t 9)],some (6,true)⟩,
 ⟨(some 11),.un .not (.t 10),some (6,true)⟩,
 ⟨(some 12),.pick (.t 6) (.t 11) (.k (.c (.d (.bool false)))),none⟩,
 ⟨(some 2),.mv (.t 12),none⟩] [1,3,4,5,6,7,8,9,10,11,12])
 (.ret))
theorem ac28_ok : cFunc Try.prog [1000029,1000030] [(0,[0,2],[]),(1,[1,3,4,5,6,7,8,9,10,11,12],[])] Try.f28 = some (ac28,[.tmp 2],13) := by kernel_rfl
-- 33 loop.example/prologserver/impl.PureProgram$2 params 1 ntmps 8
def ac33 : Cd := .seq (.region [⟨(some 2),.box (.t 0),none⟩,
 ⟨(some 3),.mv (.k (.c (.d (.bool false)))),none⟩] [0,3])
 (.seq (.region [⟨(some 4),.fieldAddr 4 (.t 2),none⟩,
 ⟨(some 5),.load none (.t 4),none⟩,
 ⟨(some 6),.load none (.t 1),none⟩,
 ⟨(some 7),.call false 34 [(.t 5),(.t 6)],none⟩,
 ⟨(some 3),.mv (.t 7),none⟩] [2,4,5,6,7])
 (.ret))
theorem ac33_ok : cFunc Try.prog [] [(0,[0,3],[]),(1,[2,4,5,6,7],[])] Try.f33 = some (ac33,[.tmp 3],8) := by kernel_rfl
-- 9 loop.example/prologserver/impl.PureProgram params 1 ntmps 12
def ac9 : Cd := .seq (.region [⟨(some 2),.mv (.k (.c (.d (.bool false)))),none⟩] [2])
 (.seq (.region [⟨(some 3),.alloc [(.d (.v .nilFunc))],none⟩,
 ⟨none,.store 1 (.t 3) (.k (.c (.fn 28 []))),none⟩] [])
 (.seq (.region [⟨(some 4),.mv (.t 0),none⟩,
 ⟨(some 5),.qcall 31 [(.t 4)],none⟩,
 ⟨(some 6),.mv (.t 5),none⟩,
 ⟨(some 7),.mv (.t 0),some (6,true)⟩,
 ⟨(some 8),.mkFunc 33 [(.t 3)],some (6,true)⟩,
 ⟨(some 9),.call false 32 [(.t 7),(.t 8)],some (6,true)⟩,
 ⟨(some 10),.un .not (.t 9),some (6,true)⟩,
 ⟨(some 11),.pick (.t 6) (.t 10) (.k (.c (.d (.bool false)))),none⟩,
 ⟨(some 2),.mv (.t 11),none⟩] [0,3,4,5,6,7,8,9,10,11])
 (.ret)))
theorem ac9_ok : cFunc Try.prog [1000031] [(0,[2],[]),(1,[],[]),(2,[0,3,4,5,6,7,8,9,10,11],[])] Try.f9 = some (ac9,[.tmp 2],12) := by kernel_rfl
-- 7 loop.example/prologserver/spec.PureProgram params 1 ntmps 73
-- loop head live: [0,3]
-- loop head live: [0,3,4]
def ac7 : Cd := .seq (.region [⟨(some 2),.mv (.k (.c (.d (.bool false)))),none⟩] [2])
 (.seq (.seq (.region [⟨(some 3),.mv (.k (.c (.d (.int .i64 0)))),none⟩] [])
 (.block 0 (.loop (.seq (.seq (.region [⟨(some 5),.mv (.t 3),none⟩,
 ⟨(some 6),.mv (.t 0),none⟩,
 ⟨(some 7),.len 1 (.t 6),none⟩,
 ⟨(some 8),.bin .lss (.t 5) (.t 7),none⟩,
 ⟨(some 9),.mv (.t 8),none⟩,
 ⟨(some 10),.mv (.t 0),some (9,true)⟩,
 ⟨(some 11),.qcall 25 [(.t 10)],some (9,true)⟩,
 ⟨(some 12),.pick (.t 9) (.t 11) (.k (.c (.d (.bool false)))),none⟩] [5,6,7,8,9,10,11])
 (.cond (.t 12)
 (.skip)
 (.exit 0)))
 (.seq (.block 1 (.seq (.region [⟨(some 4),.mv (.k (.c (.d (.int .i64 0)))),none⟩] [12])
 (.block 2 (.loop (.seq (.seq (.region [⟨(some 15),.mv (.t 4),none⟩,
 ⟨(some 16),.mv (.t 0),none⟩,
 ⟨(some 17),.mv (.t 3),none⟩,
 ⟨(some 18),.indexAddr 5 (.t 16) (.t 17),none⟩,
 ⟨(some 19),.fieldAddr 4 (.t 18),none⟩,
 ⟨(some 20),.load none (.t 19),none⟩,
 ⟨(some 21),.len 1 (.t 20),none⟩,
 ⟨(some 22),.bin .lss (.t 15) (.t 21),none⟩] [15,16,17,18,19,20,21])
 (.cond (.t 22)
 (.skip)
 (.exit 2)))
 (.seq (.block 3 (.seq (.region [⟨(some 25),.mv (.t 0),none⟩,
 ⟨(some 26),.mv (.t 3),none⟩,
 ⟨(some 27),.indexAddr 5 (.t 25) (.t 26),none⟩,
 ⟨(some 28),.fieldAddr 4 (.t 27),none⟩,
 ⟨(some 29),.load none (.t 28),none⟩,
 ⟨(some 30),.mv (.t 4),none⟩,
 ⟨(some 31),.indexAddr 4 (.t 29) (.t 30),none⟩,
 ⟨(some 32),.load (some 4) (.t 31),none⟩,
 ⟨(some 33),.qcall 26 [(.t 32)],none⟩,
 ⟨(some 34),.un .not (.t 33),none⟩,
 ⟨(some 35),.mv (.t 34),none⟩,
 ⟨(some 36),.mv (.t 0),some (35,true)⟩,
 ⟨(some 37),.mv (.t 3),some (35,true)⟩,
 ⟨(some 38),.indexAddr 5 (.t 36) (.t 37),some (35,true)⟩,
 ⟨(some 39),.fieldAddr 4 (.t 38),some (35,true)⟩,
 ⟨(some 40),.load none (.t 39),some (35,true)⟩,
 ⟨(some 41),.mv (.t 4),some (35,true)⟩,
 ⟨(some 42),.indexAddr 4 (.t 40) (.t 41),some (35,true)⟩,
 ⟨(some 43),.fieldAddr 2 (.t 42),some (35,true)⟩,
 ⟨(some 44),.load none (.t 43),some (35,true)⟩,
 ⟨(some 45),.bin .neq (.t 44) (.k (.c (.d (.str [61])))),some (35,true)⟩,
 ⟨(some 46),.pick (.t 35) (.t 45) (.k (.c (.d (.bool false)))),none⟩,
 ⟨(some 47),.mv (.t 46),none⟩,
 ⟨(some 48),.mv (.t 0),some (47,true)⟩,
 ⟨(some 49),.mv (.t 3),some (47,true)⟩,
 ⟨(some 50),.indexAddr 5 (.t 48) (.t 49),some (47,true)⟩,
 ⟨(some 51),.fieldAddr 4 (.t 50),some (47,true)⟩,
 ⟨(some 52),.load none (.t 51),some (47,true)⟩,
 ⟨(some 53),.mv (.t 4),some (47,true)⟩,
 ⟨(some 54),.indexAddr 4 (.t 52) (.t 53),some (47,true)⟩,
 ⟨(some 55),.fieldAddr 2 (.t 54),some (47,true)⟩,
 ⟨(some 56),.load none (.t 55),some (47,true)⟩,
 ⟨(some 57),.bin .neq (.t 56) (.k (.c (.d (.str [116,114,117,101])))),some (47,true)⟩,
 ⟨(some 58),.pick (.t 47) (.t 57) (.k (.c (.d (.bool false)))),none⟩,
 ⟨(some 59),.mv (.t 58),none⟩,
 ⟨(some 60),.mv (.t 0),some (59,true)⟩,
 ⟨(some 61),.mv (.t 3),some (59,true)⟩,
 ⟨(some 62),.indexAddr 5 (.t 60) (.t 61),some (59,true)⟩,
 ⟨(some 63),.fieldAddr 4 (.t 62),some (59,true)⟩,
 ⟨(some 64),.load none (.t 63),some (59,true)⟩,
 ⟨(some 65),.mv (.t 4),some (59,true)⟩,
 ⟨(some 66),.indexAddr 4 (.t 64) (.t 65),some (59,true)⟩,
 ⟨(some 67),.fieldAddr 2 (.t 66),some (59,true)⟩,
 ⟨(some 68),.load none (.t 67),some (59,true)⟩,
 ⟨(some 69),.bin .neq (.t 68) (.k (.c (.d (.str [102,97,105,108])))),some (59,true)⟩,
 ⟨(some 70),.pick (.t 59) (.t 69) (.k (.c (.d (.bool false)))),none⟩] [22,25,26,27,28,29,30,31,32,33,34,35,36,37,38,39,40,41,42,43,44,45,46,47,48,49,50,51,52,53,54,55,56,57,58,59,60,61,62,63,64,65,66,67,68,69])
 (.cond (.t 70)
 (.seq (.region [⟨(some 2),.mv (.k (.c (.d (.bool false)))),none⟩] [0,3,4,70])
 (.ret))
 (.skip))))
 (.region [⟨(some 23),.mv (.t 4),none⟩,
 ⟨(some 24),.bin .add (.t 23) (.k (.c (.d (.int .i64 1)))),none⟩,
 ⟨(some 4),.mv (.t 24),none⟩] [2,23,24,70])))))))
 (.region [⟨(some 13),.mv (.t 3),none⟩,
 ⟨(some 14),.bin .add (.t 13) (.k (.c (.d (.int .i64 1)))),none⟩,
 ⟨(some 3),.mv (.t 14),none⟩] [13,14]))))))
 (.seq (.region [⟨(some 71),.mv (.t 0),none⟩,
 ⟨(some 72),.qcall 25 [(.t 71)],none⟩,
 ⟨(some 2),.mv (.t 72),none⟩] [0,71,72])
 (.ret)))
theorem ac7_ok : cFunc Try.prog [1000025,1000026] [(0,[2],[]),(1,[],[]),(2,[5,6,7,8,9,10,11],[]),(4,[12],[]),(5,[15,16,17,18,19,20,21],[]),(7,[22,25,26,27,28,29,30,31,32,33,34,35,36,37,38,39,40,41,42,43,44,45,46,47,48,49,50,51,52,53,54,55,56,57,58,59,60,61,62,63,64,65,66,67,68,69],[]),(8,[0,3,4,70],[]),(6,[2,23,24,70],[]),(3,[13,14],[]),(9,[0,71,72],[])] Try.f7 = some (ac7,[.tmp 2],73) := by kernel_rfl
-- 3 loop.example/prologserver/laws.FnExactPureProgram params 1 ntmps 27
def ac3 : Cd := .seq (.region [⟨(some 2),.mv (.k (.c (.d (.bool false)))),none⟩] [2])
 (.seq (.region [⟨(some 3),.mv (.k (.c (.d (.int .i64 1048576)))),none⟩] [])
 (.seq (.region [⟨(some 7),.mv (.t 0),none⟩,
 ⟨(some 8),.mv (.t 3),none⟩,
 ⟨(some 9),.call false 6 [(.t 7),(.t 8)],none⟩,
 ⟨(some 3),.mv (.t 9),none⟩] [7,8,9])
 (.seq (.seq (.region [⟨(some 10),.mv (.t 3),none⟩,
 ⟨(some 11),.bin .lss (.t 10) (.k (.c (.d (.int .i64 0)))),none⟩] [3,10])
 (.cond (.t 11)
 (.seq (.region [⟨(some 2),.mv (.k (.c (.d (.bool true)))),none⟩] [0,11])
 (.ret))
 (.skip)))
 (.seq (.region [⟨(some 12),.mv (.t 0),none⟩,
 ⟨(some 13),.qcall 8 [(.t 12)],none⟩,
 ⟨(some 14),.qcall 7 [(.t 13)],none⟩,
 ⟨(some 4),.mv (.t 14),none⟩] [2,11,12,13,14])
 (.seq (.region [⟨(some 15),.mv (.t 0),none⟩,
 ⟨(some 16),.qcall 8 [(.t 15)],none⟩,
 ⟨(some 5),.mv (.t 16),none⟩] [15,16])
 (.seq (.region [⟨(some 17),.mv (.t 5),none⟩,
 ⟨(some 18),.qcall 9 [(.t 17)],none⟩,
 ⟨(some 6),.mv (.t 18),none⟩] [17,18])
 (.seq (.seq (.region [⟨(some 19),.mv (.t 6),none⟩,
 ⟨(some 20),.mv (.t 4),none⟩,
 ⟨(some 21),.binB true (.t 19) (.t 20),none⟩] [4,6,19,20])
 (.cond (.t 21)
 (.seq (.region [⟨(some 2),.mv (.k (.c (.d (.bool false)))),none⟩] [0,5,21])
 (.ret))
 (.skip)))
 (.seq (.seq (.region [⟨(some 22),.mv (.t 5),none⟩,
 ⟨(some 23),.mv (.t 0),none⟩,
 ⟨(some 24),.qcall 8 [(.t 23)],none⟩,
 ⟨(some 25),.qcall 10 [(.t 22),(.t 24)],none⟩,
 ⟨(some 26),.un .not (.t 25),none⟩] [0,2,5,21,22,23,24,25])
 (.cond (.t 26)
 (.seq (.region [⟨(some 2),.mv (.k (.c (.d (.bool false)))),none⟩] [26])
 (.ret))
 (.skip)))
 (.seq (.region [⟨(some 2),.mv (.k (.c (.d (.bool true)))),none⟩] [26])
 (.ret))))))))))
theorem ac3_ok : cFunc Try.prog [1000007,1000008,1000009,1000010] [(0,[2],[]),(1,[],[]),(2,[7,8,9],[]),(3,[3,10],[]),(4,[0,11],[]),(5,[2,11,12,13,14],[]),(6,[15,16],[]),(7,[17,18],[]),(8,[4,6,19,20],[]),(9,[0,5,21],[]),(10,[0,2,5,21,22,23,24,25],[]),(11,[26],[]),(12,[26],[])] Try.f3 = some (ac3,[.tmp 2],27) := by kernel_rfl
def pureNames : List (List UInt8) := [[61], [116, 114, 117, 101], [102, 97, 105, 108]]
/-- a goal that is plain, or =, true or fail -/
def Tm.pureB (t : Tm) : Bool := t.plain || pureNames.contains t.s
def Cl.pureB (c : Cl) : Bool := c.body.all Tm.pureB
def pureP (p : List Cl) : Bool := progB p && p.all Cl.pureB
theorem other_calls (t : Tm) (ht : t.fits) (H : Heap) : ACalls Try.prog 28 [.agg (t.row.map .d)] H (fun r H' => H' = H ∧ r = .c (.d (.bool (!t.pureB)))) := by
  have c1 := plainImpl_calls t ht
  have hp : t.pureB = (t.plain || pureNames.contains t.s) := rfl
  rw [hp]
  generalize t.plain = b at c1
  obtain ⟨k, n, s, l⟩ := t
  obtain ⟨_, _, hs, hl, hkids⟩ := ht
  rw [row_mk] at c1
  simp only [List.map_cons, List.map_nil] at c1
  refine acalls Try.func28 (by kernel_rfl) ac28_ok fun hf => ?_
  simp -implicitDefEqProofs [ac28, row_mk, go_sem, -List.set_cons_succ, -List.set_cons_zero]
  refine qcall_pure c1 hf rfl ?_
  cases b with
  | true => simp -implicitDefEqProofs [go_sem, -List.set_cons_succ, -List.set_cons_zero]
  | false =>
    simp -implicitDefEqProofs [go_sem, -List.set_cons_succ, -List.set_cons_zero]
    refine qcall_pure (contains_calls pureNames (by decide) s) hf rfl ?_
    simp -implicitDefEqProofs [Tm.s, go_sem, -List.set_cons_succ, -List.set_cons_zero]
    all_goals exact decide_eq_decide.2 Iff.rfl
theorem any_notP (l : List Tm) : (l.any fun t => !t.pureB) = !l.all Tm.pureB := by
  induction l with
  | nil => rfl
  | cons t l ih => simp only [List.any_cons, List.all_cons, ih, Bool.not_and]
theorem any_notPC (l : List Cl) : (l.any fun t => !t.pureB) = !l.all Cl.pureB := by
  induction l with
  | nil => rfl
  | cons t l ih => simp only [List.any_cons, List.all_cons, ih, Bool.not_and]
theorem pure2_calls (c : Cl) (hc : c.fits) (H : Heap) (hfit : Obs.fits (H.length + 1) 0 (H ++ [Ob.cells [.fn 28 []]])) : ACalls Try.prog 33 [.agg (c.row.map .d), .c (.ptr (.e H.length) 0)] (H ++ [Ob.cells [.fn 28 []]])
    (fun r H' => r = .c (.d (.bool (!c.pureB))) ∧ H' = H ++ [Ob.cells [.fn 28 []]]) := by
  obtain ⟨h, b⟩ := c
  obtain ⟨hh, hl, hb⟩ := hc
  simp only at hh hl hb
  refine acalls Try.func33 (by kernel_rfl) ac33_ok fun hf => ?_
  simp -implicitDefEqProofs [ac33, Cl.row, go_sem, -List.set_cons_succ, -List.set_cons_zero]
  refine call_same (tmF_any 28 (fun t => !t.pureB) b hl (fun t ht => other_calls t (hb t ht)) _) (by simp [Ob.re, C.re]) rfl hf ?_
  rw [any_notP]
  simp -implicitDefEqProofs [Cl.pureB, go_sem, -List.set_cons_succ, -List.set_cons_zero]
theorem ppImpl_calls (p : List Cl) (hp : FitsC p) (H : Heap) : ACalls Try.prog 9 [.c (.d (.sl (p.map Cl.row)))] H (fun r H' => H' = H ∧ r = .c (.d (.bool (pureP p)))) := by
  refine acalls Try.func9 (by kernel_rfl) ac9_ok fun hf => ?_
  have c1 := pvImpl_calls p hp
  simp -implicitDefEqProofs [ac9, hf, go_sem, -List.set_cons_succ, -List.set_cons_zero]
  refine qcall_pure c1 hf rfl ?_
  cases h1 : progB p with
  | false => simp -implicitDefEqProofs [h1, pureP, go_sem, -List.set_cons_succ, -List.set_cons_zero]
  | true =>
    simp -implicitDefEqProofs [h1, go_sem, -List.set_cons_succ, -List.set_cons_zero]
    have hfit : Obs.fits (H.length + 1) 0 (H ++ [Ob.cells [.fn 28 []]]) := fits_append (fits_mono (by omega) hf) ⟨⟨fun x hx => (by cases hx), trivial⟩, trivial⟩
    have con := clF_con (σ := Unit) (fun _ => H ++ [Ob.cells [.fn 28 []]]) (H.length + 1) (fun _ => by simp) (fun _ => hfit) 33 [(H.length, 0)] (fun _ c => (!c.pureB, ())) (fun _ => True) p hp.1
      (fun _ _ c hc => pure2_calls c (hp.2 c hc) H hfit) (fun _ _ _ _ _ => trivial) () trivial
    rw [anyS_const, any_notPC] at con
    refine con.mono fun r H' ⟨h5, h6⟩ => ⟨H, [Ob.cells [.fn 28 []]], .c (.d (.bool (!p.all Cl.pureB))), h6, rfl, Nat.le_refl _, hf, h5, ?_⟩
    simp -implicitDefEqProofs [h1, pureP, go_sem, -List.set_cons_succ, -List.set_cons_zero]
theorem pure_take {l : List Tm} {i : Nat} (h : i < l.length) (ha : ∀ t ∈ l.take i, t.pureB = true) (hb : l[i].pureB = true) : ∀ t ∈ l.take (i + 1), t.pureB = true := by
  intro t h'
  rw [List.take_succ_eq_append_getElem h, List.mem_append] at h'
  rcases h' with h' | h'
  · exact ha t h'
  · simp at h'; subst h'; exact hb
theorem pureC_take {l : List Cl} {i : Nat} (h : i < l.length) (ha : ∀ t ∈ l.take i, t.pureB = true) (hb : l[i].pureB = true) : ∀ t ∈ l.take (i + 1), t.pureB = true := by
  intro t h'
  rw [List.take_succ_eq_append_getElem h, List.mem_append] at h'
  rcases h' with h' | h'
  · exact ha t h'
  · simp at h'; subst h'; exact hb
theorem ppSpec_calls (p : List Cl) (hp : FitsC p) (H : Heap) : ACalls Try.prog 7 [.c (.d (.sl (p.map Cl.row)))] H (fun r H' => H' = H ∧ r = .c (.d (.bool (pureP p)))) := by
  refine acalls Try.func7 (by kernel_rfl) ac7_ok fun hf => ?_
  have c1 := pvSpec_calls p hp
  obtain ⟨hl, h⟩ := hp
  have hli : inR .i64 (p.length : Int) := small_i64 (by omega) (by omega)
  simp -implicitDefEqProofs [ac7, hli, go_sem, -List.set_cons_succ, -List.set_cons_zero]
  refine loop_set (σ := Nat) (fun i => [(3, .c (.d (.int .i64 i)))]) (fun _ => H) (fun _ => []) (fun i => i ≤ p.length ∧ ∀ t ∈ p.take i, t.pureB = true) (fun i => p.length - i) 0 rfl ⟨Nat.zero_le _, by simp⟩ ?_
  rintro i ⟨hi, hall⟩
  by_cases hlt : i < p.length
  · simp -implicitDefEqProofs [setAll, hli, hlt, go_sem, -List.set_cons_succ, -List.set_cons_zero]
    refine qcall_pure c1 hf rfl ?_
    cases h1 : progB p with
    | false =>
      simp -implicitDefEqProofs [h1, go_sem, -List.set_cons_succ, -List.set_cons_zero]
      refine qcall_pure c1 hf rfl ?_
      simp -implicitDefEqProofs [h1, pureP, go_sem, -List.set_cons_succ, -List.set_cons_zero]
    | true =>
      obtain ⟨hch, hcl, hcb⟩ := h p[i] (List.getElem_mem hlt)
      have hadd : inR .i64 ((i : Int) + 1) := small_i64 (by omega) (by omega)
      have hbi : inR .i64 (p[i].body.length : Int) := small_i64 (by omega) (by omega)
      simp -implicitDefEqProofs [h1, go_sem, -List.set_cons_succ, -List.set_cons_zero]
      refine loop_set (σ := Nat) (fun k => [(4, .c (.d (.int .i64 k)))]) (fun _ => H) (fun _ => []) (fun k => k ≤ p[i].body.length ∧ ∀ t ∈ p[i].body.take k, t.pureB = true) (fun k => p[i].body.length - k) 0 rfl ⟨Nat.zero_le _, by simp⟩ ?_
      rintro k ⟨hk, hkall⟩
      simp -implicitDefEqProofs [setAll, go_sem, -List.set_cons_succ, -List.set_cons_zero]
      refine row_of hlt (crow_len _) ?_
      simp -implicitDefEqProofs [Cl.row, hbi, go_sem, -List.set_cons_succ, -List.set_cons_zero]
      refine ⟨fun hklt => ?_, fun hkge => ?_⟩
      · refine row_of hlt (crow_len _) ?_
        simp -implicitDefEqProofs [Cl.row, go_sem, -List.set_cons_succ, -List.set_cons_zero]
        refine row_of hklt (row_len _) ?_
        simp -implicitDefEqProofs [row_len, take_row, pure_d, re_d, go_sem, -List.set_cons_succ, -List.set_cons_zero]
        refine qcall_pure (plainSpec_calls _ (hcb _ (List.getElem_mem hklt))) hf rfl ?_
        have hadd2 : inR .i64 ((k : Int) + 1) := small_i64 (by omega) (by omega)
        have hpu : (p[i].body[k]).pureB = (p[i].body[k].plain || pureNames.contains p[i].body[k].s) := rfl
        generalize hpl : (p[i].body[k]).plain = pl at hpu
        simp -implicitDefEqProofs [go_sem, -List.set_cons_succ, -List.set_cons_zero]
        refine row_g hlt (crow_len _) ?_
        simp -implicitDefEqProofs [Cl.row, go_sem, -List.set_cons_succ, -List.set_cons_zero]
        refine row_g hklt (row_len _) ?_
        simp -implicitDefEqProofs [row_eq, go_sem, -List.set_cons_succ, -List.set_cons_zero]
        refine row_g hlt (crow_len _) ?_
        simp -implicitDefEqProofs [Cl.row, go_sem, -List.set_cons_succ, -List.set_cons_zero]
        refine row_g hklt (row_len _) ?_
        simp -implicitDefEqProofs [row_eq, go_sem, -List.set_cons_succ, -List.set_cons_zero]
        refine row_g hlt (crow_len _) ?_
        simp -implicitDefEqProofs [Cl.row, go_sem, -List.set_cons_succ, -List.set_cons_zero]
        refine row_g hklt (row_len _) ?_
        simp -implicitDefEqProofs [row_eq, go_sem, -List.set_cons_succ, -List.set_cons_zero]
        refine ⟨fun q1 q2 q3 q4 => ?_, fun q => ⟨hadd2, loop_back (k + 1) (by simp [setAll]) ⟨hklt, pure_take hklt hkall ?_⟩ (by show p[i].body.length - (k + 1) < p[i].body.length - k; omega)⟩⟩
        · have hb : p[i].body[k].pureB = false := by
            rw [hpu, q1]
            simp [pureNames, q2, q3, q4]
          have hc : p[i].pureB = false := by
            unfold Cl.pureB
            rw [List.all_eq_false]
            exact ⟨_, List.getElem_mem hklt, by simp [hb]⟩
          have : p.all Cl.pureB = false := by
            rw [List.all_eq_false]
            exact ⟨_, List.getElem_mem hlt, by simp [hc]⟩
          simp [pureP, this]
        · rw [hpu]
          cases pl with
          | true => rfl
          | false =>
            simp [pureNames]
            have q := q rfl
            by_cases e1 : p[i].body[k].s = [61]
            · exact .inl e1
            · by_cases e2 : p[i].body[k].s = [116, 114, 117, 101]
              · exact .inr (.inl e2)
              · exact .inr (.inr (q e1 e2))
      · rw [List.take_of_length_le hkge] at hkall
        simp -implicitDefEqProofs [hadd, go_sem, -List.set_cons_succ, -List.set_cons_zero]
        exact loop_less (i + 1) (St.le_slots (by simp [setAll, Sl.le, A.le_refl_iff, A.le_u_iff, As.lo, A.lo, C.lo, Ref.lo, Cs.lo, Obs.lo, Ob.lo, setAll, and_true, true_and, List.length_nil, List.length_cons])) ⟨hlt, pureC_take hlt hall (List.all_eq_true.2 hkall)⟩ (by show p.length - (i + 1) < p.length - i; omega)
  · have hil : i = p.length := by omega
    subst hil
    rw [List.take_length] at hall
    have hal : p.all Cl.pureB = true := List.all_eq_true.2 hall
    simp -implicitDefEqProofs [setAll, hli, go_sem, -List.set_cons_succ, -List.set_cons_zero]
    refine qcall_pure c1 hf rfl ?_
    simp -implicitDefEqProofs [pureP, hal, go_sem, -List.set_cons_succ, -List.set_cons_zero]
theorem ppLaw_calls (l : List Cl) (hl : l.length ≤ reachBytes) (h : ∀ t ∈ l, t.fine) :
    ACalls Try.prog 3 [.c (.d (.sl (l.map Cl.row)))] [] (fun r _ => r = .c (.d (.bool true))) := by
  refine acalls Try.func3 (by kernel_rfl) ac3_ok fun hf => ?_
  simp -implicitDefEqProofs [ac3, go_sem, -List.set_cons_succ, -List.set_cons_zero]
  refine call_some (szClauseS_calls l hl h 1048576 (by omega) (by omega) _) (by simp [Ob.re, C.re]) (fun r => Left.re) hf ?_
  rintro _ ⟨q, rfl, hq0, hq1, hq2⟩
  simp -implicitDefEqProofs [go_sem, -List.set_cons_succ, -List.set_cons_zero]
  intro hq
  have h1 := hq2 hq
  refine qcall_pure (toClauseS_calls l h1) hf rfl ?_
  simp -implicitDefEqProofs [go_sem, -List.set_cons_succ, -List.set_cons_zero]
  refine qcall_pure (ppSpec_calls l h1) hf rfl ?_
  simp -implicitDefEqProofs [go_sem, -List.set_cons_succ, -List.set_cons_zero]
  refine qcall_pure (toClauseS_calls l h1) hf rfl ?_
  simp -implicitDefEqProofs [go_sem, -List.set_cons_succ, -List.set_cons_zero]
  refine qcall_pure (ppImpl_calls l h1) hf rfl ?_
  simp -implicitDefEqProofs [go_sem, -List.set_cons_succ, -List.set_cons_zero]
  refine qcall_pure (toClauseS_calls l h1) hf rfl ?_
  simp -implicitDefEqProofs [go_sem, -List.set_cons_succ, -List.set_cons_zero]
  refine qcall_pure (eqClauseS_calls l h1) hf rfl ?_
  simp -implicitDefEqProofs [go_sem, -List.set_cons_succ, -List.set_cons_zero]
theorem law_run3 (rows : List (List D)) (hr : HasTys Try.prog (#[22] : Array TypeId).toList rows) : ACalls Try.prog 3 (argsA Try.prog (#[22] : Array TypeId).toList rows) [] (fun r _ => r = .c (.d (.bool true))) := by
  obtain ⟨r, rs, rfl, h1, h2⟩ := hr.cons
  obtain rfl := h2.nil
  obtain ⟨l, rfl, hl, hfine⟩ := clauses_ty h1
  simp only [argsA, argA, Try.underlying22, List.headD_cons]
  exact ppLaw_calls l hl hfine
namespace fnExactPureProgram
theorem own : ownKnob Try.prog.godebug = none := by kernel_rfl
theorem contract (H : Type) (enc : TypeId × Value → H) (W : World) (base : Nat) (args : Array Value) (ds gs : List (DataW H)) (before : List MemPlace)
    (hval : ∀ (j : Nat) t v, Try.f3.params[j]? = some t → args[j]? = some v → Value.okWide Try.prog W .any base t v)
    (hW : DataW.Whole enc Try.prog Try.f3.params.toList Rows.fnExactPureProgramSpec.vars false W args.toList ds gs before)
    (hw : (DataW.weightsEach Try.prog (Try.f3.params.toList ++ Rows.fnExactPureProgramSpec.plain.varTypes Try.prog) (ds ++ gs)).all (· ≤ reachBytes) = true) :
    Calls Try.prog 3 args W fun e W' => ∃ v, e = .returned v ∧ Rows.fnExactPureProgramSpec.post enc Try.prog Try.f3 false true false false W args v W' := by
  refine law_contract (L := [3, 9, 44, 29, 46, 22]) (tb := 4) (by kernel_rfl) (by kernel_rfl) (by kernel_rfl) rfl ?_ (by kernel_rfl) Try.underlying4 ?_ W base args ds gs before hval hW hw
  · intro ds hl
    match ds, hl with
    | [d0], _ => rfl
  · intro rows hr
    rw [Try.params3] at hr ⊢
    exact law_run3 rows hr

theorem lifted (os : Os) (started : os.Started) (H : Type) (enc : TypeId × Value → H) :
    ReturnsInHanded {} Try.checked os 3 .any (Rows.fnExactPureProgramSpec.pre6 enc Try.prog Try.f3 Rows.fnExactPureProgramRow.domain false) (Rows.fnExactPureProgramSpec.post enc Try.prog Try.f3 false true false false) := by
  refine returnsInHanded_of_change_sized (C := Try.checked) own started (by kernel_rfl) Try.func3
    (ChangeSpec.witness6 (enc := enc) (C := Try.checked) false ⟨#[], #[.slice none 0 0], []⟩ 8 (by kernel_rfl) (by kernel_rfl) (by kernel_rfl) (by kernel_rfl)) ?_
  intro W base args ds gs before hval hW _ hw _
  exact contract H enc W base args ds gs before hval hW hw

theorem proved : Rows.FnExactPureProgramSaid :=
  OpenClaim.holds_of_wide 3 Try.f3 rfl rfl rfl rfl rfl rfl rfl ⟨rfl, rfl, rfl, rfl, rfl⟩ rfl rfl rfl rfl rfl (by kernel_rfl) Try.func3 (by kernel_rfl)
    (of_decide_eq_true (by kernel_rfl)) (by unfold Func.isWrapper; first | (rw [if_pos (by decide +kernel)]; kernel_rfl) | (rw [if_neg (by decide +kernel)]; exact ⟨rfl, rfl⟩))
    (fun os started H enc _ => lifted os started H enc)
end fnExactPureProgram

end Go.Proofs.Ytoipdmomgjdnaaa
