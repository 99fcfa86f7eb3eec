/-
  Contracts of functions that the law reaches, and plain lemmas: several texts in one.
  Conditions: none.
-/
import Derived.Test.YtoipdmomgjdnaaaBundA
open Go Go.AM Go.Proofs
attribute [local go_sem] kw ew sw tw a_ b_ c_ A.ok A.val d_ e_ f_ g_ h_ i_ j_ k_ l_ m_ unA unD n_ AOp.total o_ p_ q_ r_ s_ t_ u_ v_ A.thaw C.thaw A.fits As.fits C.fits evs oks w_ A.pure C.pure A.re C.re x_ y_ cut A.cells C.rows? z_ A_ B_ C_ a0_ b0_ D_ Ob.re Cs.fits E_ F_ G_ H_ I_ J_ K_ L_ M_ N_ O_ C.toD P_ Q_ R_ S_ T_ Obs.fits U_ eqD V_ W_ X_ Y_ Z_
/-
  Terms are marked, and looked at again.
  Conditions: none.
-/
open Go Go.AM Go.Proofs
namespace Go.Proofs.Ytoipdmomgjdnaaa
open Go.ChangeShapes Go.WideShapes Go.ChangeAt Go.RowKit
set_option linter.unusedVariables false
set_option linter.unusedSimpArgs false
set_option maxRecDepth 100000
mutual
/-- a term that bears marks -/
def mTm (k : Int) : Tm → Tm
  | .mk _ _ _ l => .mk k (k + 1) (mText (k + 2)) (mTms (k + 3) l)
def mTms (k : Int) : List Tm → List Tm
  | [] => []
  | t :: l => mTm k t :: mTms (k + 3 + 3 * t.sub) l
end
theorem mTms_nil (k : Int) : mTms k [] = [] := by rw [mTms]
theorem mTms_cons (k : Int) (t : Tm) (l : List Tm) : mTms k (t :: l) = mTm k t :: mTms (k + 3 + 3 * t.sub) l := by rw [mTms]
theorem mTms_len : ∀ (k : Int) (l : List Tm), (mTms k l).length = l.length
  | k, [] => by rw [mTms]
  | k, t :: l => by rw [mTms_cons, List.length_cons, mTms_len, List.length_cons]
theorem mTms_get : ∀ (k : Int) (l : List Tm) (i : Nat) (h : i < l.length), (mTms k l)[i]? = some (mTm (k + 3 * Tm.cnt (l.take i)) l[i])
  | k, t :: l, 0, h => by rw [mTms_cons]; simp [Tm.cnt]
  | k, t :: l, i + 1, h => by
    rw [mTms_cons, List.getElem?_cons_succ, mTms_get _ l i (by simpa using h)]
    simp only [List.take_succ_cons, cnt_cons, List.getElem_cons_succ]
    congr 2
    simp only [Int.natCast_add]
    omega
theorem mTm_row (k : Int) (t : Tm) : (mTm k t).row = [.int .i64 k, .int .i64 (k + 1), .str (mText (k + 2)), .sl ((mTms (k + 3) t.kids).map Tm.row)] := by
  obtain ⟨a, n, s, l⟩ := t
  rw [mTm, row_mk]
  rfl
/-- a term's cells, its kids cut off -/
def srow (t : Tm) (v : Value) : List D := [.int .i64 t.k, .int .i64 t.n, .str t.s, .v v]
def ktree (t : Tm) (v : Value) : Ob := .tree v (t.kids.map Tm.row)
theorem strip_terms : ∀ (l : List Tm) (vs : List Value), vs.length = l.length → Strip (l.map Tm.row).flatten (List.zipWith srow l vs).flatten (List.zipWith ktree l vs)
  | [], [], _ => ⟨rfl, rfl⟩
  | [], _ :: _, h => by simp at h
  | _ :: _, [], h => by simp at h
  | t :: l, v :: vs, h => by
    simp only [List.map_cons, List.flatten_cons, List.zipWith_cons_cons, row_eq, srow, List.cons_append, List.nil_append]
    exact ⟨_, rfl, _, rfl, _, rfl, _, _, _, rfl, rfl, strip_terms l vs (by simpa using h)⟩
theorem strip_inv : ∀ (l : List Tm) (c : List D) (t : Heap), Strip (l.map Tm.row).flatten c t → ∃ vs : List Value, vs.length = l.length ∧ c = (List.zipWith srow l vs).flatten ∧ t = List.zipWith ktree l vs
  | [], c, t, ⟨h1, h2⟩ => ⟨[], rfl, h1, h2⟩
  | x :: l, c, t, h => by
    simp only [List.map_cons, List.flatten_cons, row_eq, List.cons_append, List.nil_append] at h
    obtain ⟨c1, rfl, c2, rfl, c3, rfl, v, c4, t4, rfl, rfl, h5⟩ := h
    obtain ⟨vs, h6, rfl, rfl⟩ := strip_inv l c4 t4 h5
    exact ⟨v :: vs, by simp [h6], rfl, rfl⟩
theorem zip_lens {l : List Tm} {vs : List Value} (h : vs.length = l.length) : (List.zipWith srow l vs).map List.length = (l.map Tm.row).map List.length := by
  refine List.ext_getElem? fun i => ?_
  rcases Nat.lt_or_ge i l.length with hi | hi
  · simp [List.getElem?_zipWith, hi, h, row_len, srow]
  · rw [List.getElem?_eq_none (by simp [h]; omega), List.getElem?_eq_none (by simp; omega)]
theorem term_rows (l : List Tm) : ∀ r ∈ l.map Tm.row, r.length = 4 := fun r hr => by obtain ⟨t, _, rfl⟩ := List.mem_map.1 hr; exact row_len t
theorem fits_trees {n : Nat} : ∀ {l : Heap}, l.all Ob.isTreeB = true → Obs.fits n 0 l
  | [], _ => trivial
  | o :: l, h => by
    simp only [List.all_cons, Bool.and_eq_true] at h
    refine ⟨?_, fits_trees h.2⟩
    cases o <;> first | trivial | cases h.1
theorem all_mixed {f : Nat → Ob} {l : Heap} {i : Nat} (hf : ∀ j, (f j).isTreeB = true) (hl : l.all Ob.isTreeB = true) : (mixed f l i).all Ob.isTreeB = true := by
  rw [List.all_eq_true] at hl ⊢
  intro o ho
  rcases List.mem_append.1 ho with h | h
  · obtain ⟨j, _, rfl⟩ := List.mem_map.1 h; exact hf j
  · exact hl o (List.mem_of_mem_drop h)
theorem zip_trees (l : List Tm) (vs : List Value) : (List.zipWith ktree l vs).all Ob.isTreeB = true := by
  induction l generalizing vs with
  | nil => rfl
  | cons t l ih =>
    cases vs with
    | nil => rfl
    | cons v vs => simp only [List.zipWith_cons_cons, List.all_cons, ih, Bool.and_true]; rfl
-- 17 loop.example/prologserver/laws.markTermS params 2 ntmps 42
-- loop head live: [0,1,5]
def ac17 : Cd := .seq (.region [⟨(some 4),.mv (.k (.c (.d (.int .i64 0)))),none⟩] [4])
 (.seq (.seq (.region [⟨(some 5),.mv (.k (.c (.d (.int .i64 0)))),none⟩] [])
 (.block 0 (.loop (.seq (.seq (.region [⟨(some 6),.mv (.t 5),none⟩,
 ⟨(some 7),.mv (.t 0),none⟩,
 ⟨(some 8),.len 1 (.t 7),none⟩,
 ⟨(some 9),.bin .lss (.t 6) (.t 8),none⟩] [6,7,8])
 (.cond (.t 9)
 (.skip)
 (.exit 0)))
 (.seq (.block 1 (.seq (.region [⟨(some 12),.mv (.t 0),none⟩,
 ⟨(some 13),.mv (.t 5),none⟩,
 ⟨(some 14),.mv (.t 1),none⟩,
 ⟨(some 15),.indexAddr 4 (.t 12) (.t 13),none⟩,
 ⟨(some 16),.fieldAddr 0 (.t 15),none⟩,
 ⟨none,.store 1 (.t 16) (.t 14),none⟩] [9,12,13,14,15,16])
 (.seq (.region [⟨(some 17),.mv (.t 1),none⟩,
 ⟨(some 18),.bin .add (.t 17) (.k (.c (.d (.int .i64 1)))),none⟩,
 ⟨(some 1),.mv (.t 18),none⟩] [17,18])
 (.seq (.region [⟨(some 19),.mv (.t 0),none⟩,
 ⟨(some 20),.mv (.t 5),none⟩,
 ⟨(some 21),.mv (.t 1),none⟩,
 ⟨(some 22),.indexAddr 4 (.t 19) (.t 20),none⟩,
 ⟨(some 23),.fieldAddr 1 (.t 22),none⟩,
 ⟨none,.store 1 (.t 23) (.t 21),none⟩] [19,20,21,22,23])
 (.seq (.region [⟨(some 24),.mv (.t 1),none⟩,
 ⟨(some 25),.bin .add (.t 24) (.k (.c (.d (.int .i64 1)))),none⟩,
 ⟨(some 1),.mv (.t 25),none⟩] [24,25])
 (.seq (.region [⟨(some 26),.mv (.t 0),none⟩,
 ⟨(some 27),.mv (.t 5),none⟩,
 ⟨(some 28),.mv (.t 1),none⟩,
 ⟨(some 29),.qcall 43 [(.t 28)],none⟩,
 ⟨(some 30),.indexAddr 4 (.t 26) (.t 27),none⟩,
 ⟨(some 31),.fieldAddr 2 (.t 30),none⟩,
 ⟨none,.store 1 (.t 31) (.t 29),none⟩] [26,27,28,29,30,31])
 (.seq (.region [⟨(some 32),.mv (.t 1),none⟩,
 ⟨(some 33),.bin .add (.t 32) (.k (.c (.d (.int .i64 1)))),none⟩,
 ⟨(some 1),.mv (.t 33),none⟩] [32,33])
 (.region [⟨(some 34),.mv (.t 0),none⟩,
 ⟨(some 35),.mv (.t 5),none⟩,
 ⟨(some 36),.indexAddr 4 (.t 34) (.t 35),none⟩,
 ⟨(some 37),.fieldAddr 3 (.t 36),none⟩,
 ⟨(some 38),.load none (.t 37),none⟩,
 ⟨(some 39),.mv (.t 1),none⟩,
 ⟨(some 40),.call false 17 [(.t 38),(.t 39)],none⟩,
 ⟨(some 1),.mv (.t 40),none⟩] [34,35,36,37,38,39,40]))))))))
 (.region [⟨(some 10),.mv (.t 5),none⟩,
 ⟨(some 11),.bin .add (.t 10) (.k (.c (.d (.int .i64 1)))),none⟩,
 ⟨(some 5),.mv (.t 11),none⟩] [10,11]))))))
 (.seq (.region [⟨(some 41),.mv (.t 1),none⟩,
 ⟨(some 4),.mv (.t 41),none⟩] [1,41])
 (.ret)))
theorem ac17_ok : cFunc Try.prog [1000043] [(0,[4],[]),(1,[],[]),(2,[6,7,8],[]),(4,[9,12,13,14,15,16],[]),(5,[17,18],[]),(6,[19,20,21,22,23],[]),(7,[24,25],[]),(8,[26,27,28,29,30,31],[]),(9,[32,33],[]),(10,[34,35,36,37,38,39,40],[]),(3,[10,11],[]),(11,[1,41],[])] Try.f17 = some (ac17,[.tmp 4],42) := by kernel_rfl
-- 23 loop.example/prologserver/laws.heldTermS params 2 ntmps 50
-- loop head live: [0,1,5]
def ac23 : Cd := .seq (.region [⟨(some 4),.mv (.k (.c (.d (.int .i64 0)))),none⟩] [4])
 (.seq (.seq (.region [⟨(some 5),.mv (.k (.c (.d (.int .i64 0)))),none⟩] [])
 (.block 0 (.loop (.seq (.seq (.region [⟨(some 6),.mv (.t 5),none⟩,
 ⟨(some 7),.mv (.t 0),none⟩,
 ⟨(some 8),.len 1 (.t 7),none⟩,
 ⟨(some 9),.bin .lss (.t 6) (.t 8),none⟩] [6,7,8])
 (.cond (.t 9)
 (.skip)
 (.exit 0)))
 (.seq (.block 1 (.seq (.seq (.region [⟨(some 12),.mv (.t 0),none⟩,
 ⟨(some 13),.mv (.t 5),none⟩,
 ⟨(some 14),.indexAddr 4 (.t 12) (.t 13),none⟩,
 ⟨(some 15),.fieldAddr 0 (.t 14),none⟩,
 ⟨(some 16),.load none (.t 15),none⟩,
 ⟨(some 17),.mv (.t 1),none⟩,
 ⟨(some 18),.bin .neq (.t 16) (.t 17),none⟩] [9,12,13,14,15,16,17])
 (.cond (.t 18)
 (.seq (.region [⟨(some 4),.mv (.k (.c (.d (.int .i64 (-1))))),none⟩] [0,1,5,18])
 (.ret))
 (.skip)))
 (.seq (.region [⟨(some 19),.mv (.t 1),none⟩,
 ⟨(some 20),.bin .add (.t 19) (.k (.c (.d (.int .i64 1)))),none⟩,
 ⟨(some 1),.mv (.t 20),none⟩] [4,18,19,20])
 (.seq (.seq (.region [⟨(some 21),.mv (.t 0),none⟩,
 ⟨(some 22),.mv (.t 5),none⟩,
 ⟨(some 23),.indexAddr 4 (.t 21) (.t 22),none⟩,
 ⟨(some 24),.fieldAddr 1 (.t 23),none⟩,
 ⟨(some 25),.load none (.t 24),none⟩,
 ⟨(some 26),.mv (.t 1),none⟩,
 ⟨(some 27),.bin .neq (.t 25) (.t 26),none⟩] [21,22,23,24,25,26])
 (.cond (.t 27)
 (.seq (.region [⟨(some 4),.mv (.k (.c (.d (.int .i64 (-1))))),none⟩] [0,1,5,27])
 (.ret))
 (.skip)))
 (.seq (.region [⟨(some 28),.mv (.t 1),none⟩,
 ⟨(some 29),.bin .add (.t 28) (.k (.c (.d (.int .i64 1)))),none⟩,
 ⟨(some 1),.mv (.t 29),none⟩] [4,27,28,29])
 (.seq (.seq (.region [⟨(some 30),.mv (.t 0),none⟩,
 ⟨(some 31),.mv (.t 5),none⟩,
 ⟨(some 32),.indexAddr 4 (.t 30) (.t 31),none⟩,
 ⟨(some 33),.fieldAddr 2 (.t 32),none⟩,
 ⟨(some 35),.mv (.t 1),none⟩,
 ⟨(some 34),.load none (.t 33),none⟩,
 ⟨(some 36),.qcall 43 [(.t 35)],none⟩,
 ⟨(some 37),.bin .neq (.t 34) (.t 36),none⟩] [30,31,32,33,34,35,36])
 (.cond (.t 37)
 (.seq (.region [⟨(some 4),.mv (.k (.c (.d (.int .i64 (-1))))),none⟩] [0,1,5,37])
 (.ret))
 (.skip)))
 (.seq (.region [⟨(some 38),.mv (.t 1),none⟩,
 ⟨(some 39),.bin .add (.t 38) (.k (.c (.d (.int .i64 1)))),none⟩,
 ⟨(some 1),.mv (.t 39),none⟩] [4,37,38,39])
 (.seq (.region [⟨(some 40),.mv (.t 0),none⟩,
 ⟨(some 41),.mv (.t 5),none⟩,
 ⟨(some 42),.indexAddr 4 (.t 40) (.t 41),none⟩,
 ⟨(some 43),.fieldAddr 3 (.t 42),none⟩,
 ⟨(some 44),.load none (.t 43),none⟩,
 ⟨(some 45),.mv (.t 1),none⟩,
 ⟨(some 46),.call false 23 [(.t 44),(.t 45)],none⟩,
 ⟨(some 1),.mv (.t 46),none⟩] [40,41,42,43,44,45,46])
 (.seq (.region [⟨(some 47),.mv (.t 1),none⟩,
 ⟨(some 48),.bin .lss (.t 47) (.k (.c (.d (.int .i64 0)))),none⟩] [47])
 (.cond (.t 48)
 (.seq (.region [⟨(some 4),.mv (.k (.c (.d (.int .i64 (-1))))),none⟩] [0,1,5,48])
 (.ret))
 (.skip)))))))))))
 (.region [⟨(some 10),.mv (.t 5),none⟩,
 ⟨(some 11),.bin .add (.t 10) (.k (.c (.d (.int .i64 1)))),none⟩,
 ⟨(some 5),.mv (.t 11),none⟩] [4,10,11,48]))))))
 (.seq (.region [⟨(some 49),.mv (.t 1),none⟩,
 ⟨(some 4),.mv (.t 49),none⟩] [1,49])
 (.ret)))
theorem ac23_ok : cFunc Try.prog [1000043] [(0,[4],[]),(1,[],[]),(2,[6,7,8],[]),(4,[9,12,13,14,15,16,17],[]),(5,[0,1,5,18],[]),(6,[4,18,19,20],[]),(7,[21,22,23,24,25,26],[]),(8,[0,1,5,27],[]),(9,[4,27,28,29],[]),(10,[30,31,32,33,34,35,36],[0,1,2,3,5,4,6,7]),(11,[0,1,5,37],[]),(12,[4,37,38,39],[]),(13,[40,41,42,43,44,45,46],[]),(14,[47],[]),(15,[0,1,5,48],[]),(3,[4,10,11,48],[]),(16,[1,49],[])] Try.f23 = some (ac23,[.tmp 4],50) := by kernel_rfl
/-- a term's kids are marked -/
def MarkT (t : Tm) : Prop := ∀ (k : Int), 0 ≤ k → k + 3 * t.sub ≤ 500000000000000 → ∀ kv, ACalls Try.prog 17 [.c (.d (.v kv)), .c (.d (.int .i64 k))] [.tree kv (t.kids.map Tm.row)]
    (fun r H' => H' = [.tree kv ((mTms k t.kids).map Tm.row)] ∧ r = .c (.d (.int .i64 (k + 3 * t.sub))))
theorem markTermS_of (l : List Tm) (hl : l.length ≤ 1048576) (h : ∀ t ∈ l, MarkT t) (k : Int) (h0 : 0 ≤ k) (h1 : k + 3 * Tm.cnt l ≤ 500000000000000) (kv : Value) :
    ACalls Try.prog 17 [.c (.d (.v kv)), .c (.d (.int .i64 k))] [.tree kv (l.map Tm.row)]
    (fun r H' => H' = [.tree kv ((mTms k l).map Tm.row)] ∧ r = .c (.d (.int .i64 (k + 3 * Tm.cnt l)))) := by
  refine (acalls_tree (f := 17) (pre := []) (post := [.c (.d (.int .i64 k))]) (rows := l.map Tm.row) (Q := fun r rows' => r = .c (.d (.int .i64 (k + 3 * Tm.cnt l))) ∧ rows' = (mTms k l).map Tm.row) 4 (term_rows l) rfl rfl (fun he => ?_) (fun hne srows trs hst hlens => ?_) kv).mono fun r H' ⟨rows', h1, _, h2, h3⟩ => ⟨by rw [h1, h3], h2⟩
  · obtain rfl : l = [] := by simpa using he
    have hk0 : inR .i64 k := small_i64 (by simp [cnt_nil] at h1; omega) (by simp [cnt_nil] at h1; omega)
    have hz0 : inR .i64 0 := small_i64 (by omega) (by omega)
    refine acalls Try.func17 (by kernel_rfl) ac17_ok fun hf => ?_
    simp -implicitDefEqProofs [ac17, go_sem, -List.set_cons_succ, -List.set_cons_zero]
    refine loop_set (σ := Unit) (fun _ => [(5, .c (.d (.int .i64 0)))]) (fun _ => []) (fun _ => []) (fun _ => True) (fun _ => 0) () rfl trivial ?_
    intro _ _
    simp -implicitDefEqProofs [setAll, hz0, mTms_nil, cnt_nil, A.portT, A.portB, C.portB, D.leaf, go_sem, -List.set_cons_succ, -List.set_cons_zero]
  · obtain ⟨vs, hvl, hc, ht⟩ := strip_inv l _ _ hst
    obtain rfl := flatten_uniq hc (by rw [hlens, zip_lens hvl])
    subst ht
    obtain ⟨kk, hkk⟩ : ∃ kk : Nat → Int, ∀ j, kk j = k + 3 * (Tm.cnt (l.take j) : Int) := ⟨_, fun _ => rfl⟩
    have hvs : ∀ j (hj : j < l.length), vs[j]? = some (vs.getD j undef) := fun j hj => by simp [hvl, hj]
    obtain ⟨fr, hfr⟩ : ∃ fr : Nat → List D, ∀ j, fr j = srow (mTm (kk j) (l.getD j default)) (vs.getD j undef) := ⟨_, fun _ => rfl⟩
    obtain ⟨ft, hft⟩ : ∃ ft : Nat → Ob, ∀ j, ft j = ktree (mTm (kk j) (l.getD j default)) (vs.getD j undef) := ⟨_, fun _ => rfl⟩
    have hzl : (List.zipWith srow l vs).length = l.length := by simp [hvl]
    have hzt : (List.zipWith ktree l vs).length = l.length := by simp [hvl]
    refine acalls Try.func17 (by kernel_rfl) ac17_ok fun hf => ?_
    have hli : inR .i64 (l.length : Int) := small_i64 (by omega) (by omega)
    simp -implicitDefEqProofs [ac17, hli, go_sem, -List.set_cons_succ, -List.set_cons_zero]
    refine loop_set (σ := Nat) (fun i => [(5, .c (.d (.int .i64 i))), (1, .c (.d (.int .i64 (kk i))))]) (fun i => .rows (mixed fr (List.zipWith srow l vs) i) :: mixed ft (List.zipWith ktree l vs) i) (fun _ => []) (fun i => i ≤ l.length) (fun i => l.length - i) 0 (by simp [setAll, mixed_zero, hkk, cnt_nil]) (Nat.zero_le _) ?_
    intro i hi
    simp -implicitDefEqProofs [setAll, hli, go_sem, -List.set_cons_succ, -List.set_cons_zero]
    refine ⟨fun hlt => ⟨hlt, ?_⟩, fun hge => ?_⟩
    · have hs := cnt_take_sub l hlt
      have hki := hkk i
      have hlz : i < (List.zipWith srow l vs).length := by omega
      have hlt' : i < (List.zipWith ktree l vs).length := by omega
      have hlm : i < (mixed fr (List.zipWith srow l vs) i).length := by rw [mixed_len _ _ (by omega)]; exact hlz
      have hgs : ∀ r, ((mixed fr (List.zipWith srow l vs) i).set i r)[i]? = some r := fun r => List.getElem?_set_self hlm
      have hget : (mixed fr (List.zipWith srow l vs) i)[i]? = some [.int .i64 l[i].k, .int .i64 l[i].n, .str l[i].s, .v vs[i]] := by rw [mixed_get _ _ hlz]; simp [srow]
      have hgt : (mixed ft (List.zipWith ktree l vs) i)[i]? = some (.tree vs[i] (l[i].kids.map Tm.row)) := by rw [mixed_get _ _ hlt']; simp [ktree]
      have i0 : inR .i64 (kk i) := small_i64 (by omega) (by omega)
      have i1 : inR .i64 (kk i + 1) := small_i64 (by omega) (by omega)
      have i2 : inR .i64 (kk i + 1 + 1) := small_i64 (by omega) (by omega)
      have i3 : inR .i64 (kk i + 1 + 1 + 1) := small_i64 (by omega) (by omega)
      have hadd : inR .i64 ((i : Int) + 1) := small_i64 (by omega) (by omega)
      have hfx : ∀ rs, Obs.fits ((Ob.rows rs :: mixed ft (List.zipWith ktree l vs) i).length) 0 (Ob.rows rs :: mixed ft (List.zipWith ktree l vs) i) := fun rs => ⟨trivial, fits_trees (all_mixed (fun j => by rw [hft]; rfl) (zip_trees l vs))⟩
      simp -implicitDefEqProofs [hget, hgs, i0, i1, i2, i3, hadd, go_sem, -List.set_cons_succ, -List.set_cons_zero]
      refine ⟨hfx _, hlt, hfx _, qcall_pure (markText_calls _ (by omega)) (hfx _) rfl ?_⟩
      simp -implicitDefEqProofs [hget, hgs, hlt, i0, i1, i2, i3, hadd, go_sem, -List.set_cons_succ, -List.set_cons_zero]
      refine ⟨hfx _, call_ext (J := [i + 1]) (h l[i] (List.getElem_mem hlt) (kk i + 1 + 1 + 1) (by omega) (by omega) vs[i]) (fun r H' ⟨h1, h2⟩ => by subst h1; subst h2; exact ⟨⟨rfl, rfl⟩, rfl⟩) (by simp) (.cons (.c .d) (.cons (.c .d) .nil)) (by simp) (by simp [hgt]) rfl (hfx _) ?_⟩
      rintro _ _ ⟨rfl, rfl⟩
      simp -implicitDefEqProofs [putAll, hadd, go_sem, -List.set_cons_succ, -List.set_cons_zero]
      have hk1 : kk (i + 1) = kk i + 1 + 1 + 1 + 3 * (l[i].sub : Int) := by
        have := cnt_take_succ l hlt
        rw [hkk, hkk]; omega
      have hv : vs.getD i undef = vs[i] := by simp [hvl, hlt]
      have e1 := mixed_set fr (List.zipWith srow l vs) hlz
      have e2 := mixed_set ft (List.zipWith ktree l vs) hlt'
      have e3 : l.getD i default = l[i] := by simp [hlt]
      rw [hfr, e3, hv] at e1
      rw [hft, e3, hv] at e2
      have r1 : srow (mTm (kk i) l[i]) vs[i] = [.int .i64 (kk i), .int .i64 (kk i + 1), .str (mText (kk i + 1 + 1)), .v vs[i]] := by
        have := mTm_row (kk i) l[i]
        rw [row_eq] at this
        simp only [List.cons.injEq, D.int.injEq, D.str.injEq, D.sl.injEq, and_true, true_and] at this
        rw [srow, this.1, this.2.1, this.2.2.1, show kk i + 1 + 1 = kk i + 2 by omega]
      have r2 : ktree (mTm (kk i) l[i]) vs[i] = .tree vs[i] ((mTms (kk i + 1 + 1 + 1) l[i].kids).map Tm.row) := by
        have := mTm_row (kk i) l[i]
        rw [row_eq] at this
        simp only [List.cons.injEq, D.int.injEq, D.str.injEq, D.sl.injEq, and_true, true_and] at this
        rw [ktree, this.2.2.2, show kk i + 1 + 1 + 1 = kk i + 3 by omega]
      rw [r1] at e1
      rw [r2] at e2
      refine loop_back (i + 1) ?_ hlt (by show l.length - (i + 1) < l.length - i; omega)
      simp [setAll, hk1, ← e1, ← e2]
    · obtain rfl : i = l.length := by omega
      have e1 : mixed fr (List.zipWith srow l vs) l.length = List.zipWith srow (mTms k l) vs := by
        refine List.ext_getElem? fun j => ?_
        rw [mixed_get' _ _ (by omega)]
        by_cases hj : j < l.length
        · rw [if_pos hj, hfr, List.getElem?_zipWith, mTms_get k l j hj, hvs j hj, hkk]; simp [hj]
        · rw [if_neg hj, List.getElem?_eq_none (by omega), List.getElem?_eq_none (by simp [mTms_len]; omega)]
      have e2 : mixed ft (List.zipWith ktree l vs) l.length = List.zipWith ktree (mTms k l) vs := by
        refine List.ext_getElem? fun j => ?_
        rw [mixed_get' _ _ (by omega)]
        by_cases hj : j < l.length
        · rw [if_pos hj, hft, List.getElem?_zipWith, mTms_get k l j hj, hvs j hj, hkk]; simp [hj]
        · rw [if_neg hj, List.getElem?_eq_none (by omega), List.getElem?_eq_none (by simp [mTms_len]; omega)]
      have hml := mTms_len k l
      exact ⟨_, _, _, strip_terms (mTms k l) vs (by omega), by simp [hml], term_rows _, zip_lens (by omega), by simp [hml], ⟨e1, e2⟩, rfl, by rw [hkk, List.take_length], rfl⟩
theorem markT_calls : ∀ t : Tm, t.fits → MarkT t := by
  refine Tm.ind fun k n s l ih hfits a h0 h1 kv => ?_
  obtain ⟨_, _, _, hl, hkids⟩ := hfits
  rw [sub_mk] at h1 ⊢
  exact markTermS_of l hl (fun t ht => ih t ht (hkids t ht)) a h0 h1 kv
theorem markTermS_calls (l : List Tm) (hl : l.length ≤ 1048576) (h : ∀ t ∈ l, t.fits) (k : Int) (h0 : 0 ≤ k) (h1 : k + 3 * Tm.cnt l ≤ 500000000000000) (kv : Value) :
    ACalls Try.prog 17 [.c (.d (.v kv)), .c (.d (.int .i64 k))] [.tree kv (l.map Tm.row)]
    (fun r H' => H' = [.tree kv ((mTms k l).map Tm.row)] ∧ r = .c (.d (.int .i64 (k + 3 * Tm.cnt l)))) := markTermS_of l hl (fun t ht => markT_calls t (h t ht)) k h0 h1 kv
/-- marked kids are looked at -/
def HeldT (t : Tm) : Prop := ∀ (k : Int), 0 ≤ k → k + 3 * t.sub ≤ 500000000000000 → ∀ H, ACalls Try.prog 23 [.c (.d (.sl ((mTms k t.kids).map Tm.row))), .c (.d (.int .i64 k))] H
    (fun r H' => H' = H ∧ r = .c (.d (.int .i64 (k + 3 * t.sub))))
theorem heldTermS_of (l : List Tm) (hl : l.length ≤ 1048576) (h : ∀ t ∈ l, HeldT t) (k : Int) (h0 : 0 ≤ k) (h1 : k + 3 * Tm.cnt l ≤ 500000000000000) (H : Heap) :
    ACalls Try.prog 23 [.c (.d (.sl ((mTms k l).map Tm.row))), .c (.d (.int .i64 k))] H
    (fun r H' => H' = H ∧ r = .c (.d (.int .i64 (k + 3 * Tm.cnt l)))) := by
  refine acalls Try.func23 (by kernel_rfl) ac23_ok fun hf => ?_
  have hli : inR .i64 (l.length : Int) := small_i64 (by omega) (by omega)
  obtain ⟨kk, hkk⟩ : ∃ kk : Nat → Int, ∀ j, kk j = k + 3 * (Tm.cnt (l.take j) : Int) := ⟨_, fun _ => rfl⟩
  simp -implicitDefEqProofs [ac23, hli, mTms_len, go_sem, -List.set_cons_succ, -List.set_cons_zero]
  refine loop_set (σ := Nat) (fun i => [(5, .c (.d (.int .i64 i))), (1, .c (.d (.int .i64 (kk i))))]) (fun i => H) (fun _ => []) (fun i => i ≤ l.length) (fun i => l.length - i) 0 (by simp [setAll, hkk, cnt_nil]) (Nat.zero_le _) ?_
  intro i hi
  simp -implicitDefEqProofs [setAll, hli, mTms_len, go_sem, -List.set_cons_succ, -List.set_cons_zero]
  refine ⟨fun hlt => ?_, fun hge => ?_⟩
  · have hs := cnt_take_sub l hlt
    have hki := hkk i
    have hk1 : kk (i + 1) = kk i + 1 + 1 + 1 + 3 * (l[i].sub : Int) := by
      have := cnt_take_succ l hlt
      rw [hkk, hkk]; omega
    have i0 : inR .i64 (kk i) := small_i64 (by omega) (by omega)
    have i1 : inR .i64 (kk i + 1) := small_i64 (by omega) (by omega)
    have i2 : inR .i64 (kk i + 1 + 1) := small_i64 (by omega) (by omega)
    have i3 : inR .i64 (kk i + 1 + 1 + 1) := small_i64 (by omega) (by omega)
    have hadd : inR .i64 ((i : Int) + 1) := small_i64 (by omega) (by omega)
    have hrow : ((mTms k l).map Tm.row)[i]? = some [.int .i64 (kk i), .int .i64 (kk i + 1), .str (mText (kk i + 1 + 1)), .sl ((mTms (kk i + 1 + 1 + 1) l[i].kids).map Tm.row)] := by
      rw [List.getElem?_map, mTms_get k l i hlt, ← hkk, Option.map_some, mTm_row, show kk i + 1 + 1 + 1 = kk i + 3 by omega, show kk i + 1 + 1 = kk i + 2 by omega]
    have hp : ¬ (kk i + 1 + 1 + 1 + 3 * (l[i].sub : Int) < 0) := by omega
    refine row_nat _ hrow rfl ?_
    simp -implicitDefEqProofs [i0, i1, i2, i3, hadd, go_sem, -List.set_cons_succ, -List.set_cons_zero]
    refine row_nat _ hrow rfl ?_
    simp -implicitDefEqProofs [i0, i1, i2, i3, hadd, go_sem, -List.set_cons_succ, -List.set_cons_zero]
    refine row_nat _ hrow rfl ?_
    simp -implicitDefEqProofs [i0, i1, i2, i3, hadd, go_sem, -List.set_cons_succ, -List.set_cons_zero]
    refine qcall_pure (markText_calls _ (by omega)) hf rfl ?_
    simp -implicitDefEqProofs [i0, i1, i2, i3, hadd, go_sem, -List.set_cons_succ, -List.set_cons_zero]
    refine row_nat _ hrow rfl ?_
    simp -implicitDefEqProofs [i0, i1, i2, i3, hadd, go_sem, -List.set_cons_succ, -List.set_cons_zero]
    refine call_same (h l[i] (List.getElem_mem hlt) (kk i + 1 + 1 + 1) (by omega) (by omega) _) (by simp [Ob.re, C.re]) rfl hf ?_
    simp -implicitDefEqProofs [hp, hadd, go_sem, -List.set_cons_succ, -List.set_cons_zero]
    exact loop_back (i + 1) (by simp [setAll, hk1]) hlt (by show l.length - (i + 1) < l.length - i; omega)
  · obtain rfl : i = l.length := by omega
    rw [hkk, List.take_length]
theorem heldT_calls : ∀ t : Tm, t.fits → HeldT t := by
  refine Tm.ind fun k n s l ih hfits a h0 h1 H => ?_
  obtain ⟨_, _, _, hl, hkids⟩ := hfits
  rw [sub_mk] at h1 ⊢
  exact heldTermS_of l hl (fun t ht => ih t ht (hkids t ht)) a h0 h1 H
theorem heldTermS_calls (l : List Tm) (hl : l.length ≤ 1048576) (h : ∀ t ∈ l, t.fits) (k : Int) (h0 : 0 ≤ k) (h1 : k + 3 * Tm.cnt l ≤ 500000000000000) (H : Heap) :
    ACalls Try.prog 23 [.c (.d (.sl ((mTms k l).map Tm.row))), .c (.d (.int .i64 k))] H
    (fun r H' => H' = H ∧ r = .c (.d (.int .i64 (k + 3 * Tm.cnt l)))) := heldTermS_of l hl (fun t ht => heldT_calls t (h t ht)) k h0 h1 H
end Go.Proofs.Ytoipdmomgjdnaaa

/-
  Copies of terms that stand in arrays of their own.
  Conditions: none.
-/
open Go Go.AM Go.Proofs
namespace Go.Proofs.Ytoipdmomgjdnaaa
open Go.ChangeShapes Go.WideShapes Go.ChangeAt Go.RowKit
set_option linter.unusedVariables false
set_option linter.unusedSimpArgs false
set_option maxRecDepth 100000
namespace Own
-- 13 loop.example/prologserver/laws.toTermS params 1 ntmps 23
-- loop head live: [0,3,4]
def ac13 : Cd := .seq (.region [⟨(some 2),.mv (.k (.c (.full []))),none⟩] [2])
 (.seq (.region [⟨(some 5),.mv (.t 0),none⟩,
 ⟨(some 6),.len 1 (.t 5),none⟩,
 ⟨(some 7),.mkSlice [(.int .i64 0),(.int .i64 0),(.str []),(.sl [])] (.t 6),none⟩,
 ⟨(some 3),.mv (.t 7),none⟩] [5,6,7])
 (.seq (.seq (.region [⟨(some 4),.mv (.k (.c (.d (.int .i64 0)))),none⟩] [])
 (.block 0 (.loop (.seq (.seq (.region [⟨(some 8),.mv (.t 4),none⟩,
 ⟨(some 9),.mv (.t 0),none⟩,
 ⟨(some 10),.len 1 (.t 9),none⟩,
 ⟨(some 11),.bin .lss (.t 8) (.t 10),none⟩] [8,9,10])
 (.cond (.t 11)
 (.skip)
 (.exit 0)))
 (.seq (.block 1 (.region [⟨(some 14),.mv (.t 3),none⟩,
 ⟨(some 15),.mv (.t 4),none⟩,
 ⟨(some 16),.mv (.t 0),none⟩,
 ⟨(some 17),.mv (.t 4),none⟩,
 ⟨(some 18),.indexAddr 4 (.t 16) (.t 17),none⟩,
 ⟨(some 19),.load (some 4) (.t 18),none⟩,
 ⟨(some 20),.call false 39 [(.t 19)],none⟩,
 ⟨(some 21),.indexAddr 4 (.t 14) (.t 15),none⟩,
 ⟨none,.store 4 (.t 21) (.t 20),none⟩] [11,14,15,16,17,18,19,20,21]))
 (.region [⟨(some 12),.mv (.t 4),none⟩,
 ⟨(some 13),.bin .add (.t 12) (.k (.c (.d (.int .i64 1)))),none⟩,
 ⟨(some 4),.mv (.t 13),none⟩] [12,13]))))))
 (.seq (.region [⟨(some 22),.mv (.t 3),none⟩,
 ⟨(some 2),.mv (.t 22),none⟩] [3,22])
 (.ret))))
theorem ac13_ok : cFunc Try.prog [] [(0,[2],[]),(1,[5,6,7],[]),(2,[],[]),(3,[8,9,10],[]),(5,[11,14,15,16,17,18,19,20,21],[]),(4,[12,13],[]),(6,[3,22],[])] Try.f13 = some (ac13,[.tmp 2],23) := by kernel_rfl
-- 39 loop.example/prologserver/laws.toTerm params 1 ntmps 18
def ac39 : Cd := .seq (.region [⟨(some 1),.box (.t 0),none⟩,
 ⟨(some 2),.alloc [(.d (.int .i64 0)),(.d (.int .i64 0)),(.d (.str [])),(.full [])],none⟩] [0])
 (.seq (.region [⟨(some 3),.alloc [(.d (.int .i64 0)),(.d (.int .i64 0)),(.d (.str [])),(.full [])],none⟩] [])
 (.seq (.region [⟨(some 4),.fieldAddr 0 (.t 1),none⟩,
 ⟨(some 5),.load none (.t 4),none⟩,
 ⟨(some 6),.fieldAddr 0 (.t 3),none⟩,
 ⟨none,.store 1 (.t 6) (.t 5),none⟩] [4,5,6])
 (.seq (.region [⟨(some 7),.fieldAddr 1 (.t 1),none⟩,
 ⟨(some 8),.load none (.t 7),none⟩,
 ⟨(some 9),.fieldAddr 1 (.t 3),none⟩,
 ⟨none,.store 1 (.t 9) (.t 8),none⟩] [7,8,9])
 (.seq (.region [⟨(some 10),.fieldAddr 2 (.t 1),none⟩,
 ⟨(some 11),.load none (.t 10),none⟩,
 ⟨(some 12),.fieldAddr 2 (.t 3),none⟩,
 ⟨none,.store 1 (.t 12) (.t 11),none⟩] [10,11,12])
 (.seq (.region [⟨(some 13),.fieldAddr 3 (.t 1),none⟩,
 ⟨(some 14),.load none (.t 13),none⟩,
 ⟨(some 15),.call false 13 [(.t 14)],none⟩,
 ⟨(some 16),.fieldAddr 3 (.t 3),none⟩,
 ⟨none,.store 1 (.t 16) (.t 15),none⟩] [1,13,14,15,16])
 (.seq (.region [⟨(some 17),.load (some 4) (.t 3),none⟩,
 ⟨none,.store 4 (.t 2) (.t 17),none⟩] [3,17])
 (.ret)))))))
theorem ac39_ok : cFunc Try.prog [] [(0,[0],[]),(1,[],[]),(2,[4,5,6],[]),(3,[7,8,9],[]),(4,[10,11,12],[]),(5,[1,13,14,15,16],[]),(6,[3,17],[])] Try.f39 = some (ac39,[.cell 2 (some 4)],18) := by kernel_rfl
end Own
/-- what is handed out: rows in an array of their own -/
def HandsRows (rows : List (List D)) (r : A) (H : Heap) : Prop := ∃ v : Value, r = .c (.d (.v v)) ∧ H = [.tree v rows]
theorem HandsRows.handed {rows : List (List D)} {r : A} {H : Heap} (h : HandsRows rows r H) : Handed r H := by
  obtain ⟨v, rfl, rfl⟩ := h
  exact ⟨rfl, rfl⟩
/-- .. a term -/
def HandsTm (t : Tm) (r : A) (H : Heap) : Prop := ∃ v : Value, r = .agg [.d (.int .i64 t.k), .d (.int .i64 t.n), .d (.str t.s), .d (.v v)] ∧ H = [.tree v (t.kids.map Tm.row)]
theorem HandsTm.handed {t : Tm} {r : A} {H : Heap} (h : HandsTm t r H) : Handed r H := by
  obtain ⟨v, rfl, rfl⟩ := h
  exact ⟨rfl, rfl⟩
def zrow : List D := [.int .i64 0, .int .i64 0, .str [], .sl []]
/-- rows of which the first are made -/
def fillv (l : List Tm) (vs : List Value) : List (List D) := List.zipWith srow l vs ++ List.replicate (l.length - vs.length) zrow
theorem fillv_nil (l : List Tm) : fillv l [] = List.replicate l.length zrow := by simp [fillv]
theorem fillv_all {l : List Tm} {vs : List Value} (h : vs.length = l.length) : fillv l vs = List.zipWith srow l vs := by simp [fillv, h]
theorem fillv_get {l : List Tm} {vs : List Value} (h : vs.length < l.length) : (fillv l vs)[vs.length]? = some zrow := by
  rw [fillv, List.getElem?_append_right (by simp; omega)]
  have : vs.length - (List.zipWith srow l vs).length = 0 := by simp; omega
  rw [this, List.getElem?_replicate, if_pos (by omega)]
theorem zip_snoc {α β γ : Type} (f : α → β → γ) (l : List α) (vs : List β) (v : β) (h : vs.length < l.length) : List.zipWith f l (vs ++ [v]) = List.zipWith f l vs ++ [f l[vs.length] v] := by
  induction vs generalizing l with
  | nil => cases l with
    | nil => simp at h
    | cons x l => simp
  | cons w vs ih => cases l with
    | nil => simp at h
    | cons x l => simp only [List.cons_append, List.zipWith_cons_cons, List.length_cons, List.getElem_cons_succ]; rw [ih l (by simpa using h)]
theorem fillv_set {l : List Tm} {vs : List Value} (v : Value) (h : vs.length < l.length) : (fillv l vs).set vs.length (srow l[vs.length] v) = fillv l (vs ++ [v]) := by
  have e : l.length - vs.length = (l.length - (vs ++ [v]).length) + 1 := by simp; omega
  rw [fillv, fillv, List.set_append_right _ _ (by simp; omega), zip_snoc _ _ _ _ h, e, List.replicate_succ]
  have : vs.length - (List.zipWith srow l vs).length = 0 := by simp; omega
  rw [this]
  simp
def ToO (t : Tm) : Prop := ACalls Try.prog 39 [.agg (t.row.map .d)] [] (HandsTm t)
theorem toTermSOwn_of (l : List Tm) (hl : l.length ≤ 1048576) (h : ∀ t ∈ l, ToO t) : ACalls Try.prog 13 [.c (.d (.sl (l.map Tm.row)))] [] (HandsRows (l.map Tm.row)) := by
  refine acallsT Try.func13 (by kernel_rfl) Own.ac13_ok ?_
  have hli : inR .i64 (l.length : Int) := small_i64 (by omega) (by omega)
  simp -implicitDefEqProofs [Own.ac13, hli, go_sem, -List.set_cons_succ, -List.set_cons_zero]
  refine ⟨by unfold maxApp; omega, ?_⟩
  refine loop_set (σ := List Value) (fun vs => [(4, .c (.d (.int .i64 vs.length)))]) (fun _ => []) (fun vs => .rows (fillv l vs) :: List.zipWith ktree l vs) (fun vs => vs.length ≤ l.length) (fun vs => l.length - vs.length) [] (by simp [setAll, fillv_nil, zrow]) (Nat.zero_le _) ?_
  intro vs hi
  simp -implicitDefEqProofs [setAll, hli, go_sem, -List.set_cons_succ, -List.set_cons_zero]
  refine ⟨fun hlt => ?_, fun hge => ?_⟩
  · have hadd : inR .i64 ((vs.length : Int) + 1) := small_i64 (by omega) (by omega)
    refine row_of hlt (row_len _) ?_
    simp -implicitDefEqProofs [row_len, take_row, pure_d, re_d, go_sem, -List.set_cons_succ, -List.set_cons_zero]
    refine call_loc (J := []) (h l[vs.length] (List.getElem_mem hlt)) (fun r H' h => h.handed) (by simp [ktree, Ob.re, List.map_zipWith]) (.cons (.agg (fzCs_id _)) .nil) List.nodup_nil rfl rfl ?_
    rintro _ _ ⟨v, rfl, rfl⟩ _
    simp -implicitDefEqProofs [putAll, hadd, hlt, fillv_get hlt, zrow, go_sem, -List.set_cons_succ, -List.set_cons_zero]
    have hset := fillv_set v hlt
    rw [srow] at hset
    rw [hset]
    refine loop_back (vs ++ [v]) ?_ (by simp; omega) (by show l.length - (vs ++ [v]).length < l.length - vs.length; simp; omega)
    simp [setAll, zip_snoc ktree l vs v hlt]
    rfl
  · have hvl : vs.length = l.length := by omega
    have hn : (0 :: List.range' 1 vs.length).Nodup := List.nodup_cons.2 ⟨by simp, List.nodup_range'⟩
    refine finT_ret _ ⟨trivial, trivial⟩ rfl fun kv => ⟨_, _, _, .one (.c (.fsl (js := List.range' 1 vs.length) rfl (by rw [fillv_all hvl]; exact strip_terms l vs hvl) (by rw [fillv_all hvl, zip_lens hvl]) (fun m hm => ?_))), by simpa using hn, _, rfl, rfl⟩
    have hm' : m < vs.length := by simp at hm; omega
    exact ⟨1 + m, by simp [hm'], by rw [Nat.add_comm]; simp⟩
theorem toO_calls : ∀ t : Tm, t.fits → ToO t := by
  refine Tm.ind fun k n s l ih hfits => ?_
  obtain ⟨hk, hn, hs, hl, hkids⟩ := hfits
  refine acallsT Try.func39 (by kernel_rfl) Own.ac39_ok ?_
  simp -implicitDefEqProofs [Own.ac39, row_mk, go_sem, -List.set_cons_succ, -List.set_cons_zero]
  refine call_loc (J := []) (toTermSOwn_of l hl fun t ht => ih t ht (hkids t ht)) (fun r H' h => h.handed) rfl (.cons (.c .d) .nil) List.nodup_nil rfl rfl ?_
  rintro _ _ ⟨v, rfl, rfl⟩ _
  simp -implicitDefEqProofs [putAll, go_sem, -List.set_cons_succ, -List.set_cons_zero]
  exact finT_ret _ ⟨trivial, trivial⟩ rfl fun kv => ⟨_, _, _, .one (.agg (.cons (.leaf rfl) (.cons (.leaf rfl) (.cons (.leaf rfl) (.cons (.tree (j := 3) rfl) .nil))))), by simp, _, rfl, rfl⟩
theorem toTermSOwn_calls (l : List Tm) (hl : l.length ≤ 1048576) (h : ∀ t ∈ l, t.fits) : ACalls Try.prog 13 [.c (.d (.sl (l.map Tm.row)))] [] (HandsRows (l.map Tm.row)) :=
  toTermSOwn_of l hl fun t ht => toO_calls t (h t ht)
end Go.Proofs.Ytoipdmomgjdnaaa

/-
  The program's copies of terms stand in arrays of their own.
  Conditions: none.
-/
open Go Go.AM Go.Proofs
namespace Go.Proofs.Ytoipdmomgjdnaaa
open Go.ChangeShapes Go.WideShapes Go.ChangeAt Go.RowKit
set_option linter.unusedVariables false
set_option linter.unusedSimpArgs false
set_option maxRecDepth 100000
namespace Own
-- 65 loop.example/prologserver/impl.ownList params 1 ntmps 19
-- loop head live: [3,6,7,8]
def ac65 : Cd := .seq (.region [⟨(some 2),.mv (.k (.c (.full []))),none⟩] [2])
 (.seq (.region [⟨(some 3),.mv (.k (.c (.full []))),none⟩] [])
 (.seq (.seq (.region [⟨(some 6),.mv (.t 0),none⟩,
 ⟨(some 7),.len 1 (.t 6),none⟩,
 ⟨(some 8),.mv (.k (.c (.d (.int .i64 0)))),none⟩] [0])
 (.block 0 (.loop (.seq (.region [⟨(some 9),.bin .lss (.t 8) (.t 7),none⟩] [])
 (.seq (.cond (.t 9)
 (.skip)
 (.exit 0))
 (.seq (.block 1 (.seq (.region [⟨(some 10),.indexAddr 4 (.t 6) (.t 8),none⟩,
 ⟨(some 11),.load (some 4) (.t 10),none⟩,
 ⟨(some 5),.alloc [(.d (.int .i64 0)),(.d (.int .i64 0)),(.d (.str [])),(.full [])],none⟩,
 ⟨none,.store 4 (.t 5) (.t 11),none⟩] [9,10,11])
 (.region [⟨(some 12),.mv (.t 3),none⟩,
 ⟨(some 13),.load (some 4) (.t 5),none⟩,
 ⟨(some 14),.call false 48 [(.t 13)],none⟩,
 ⟨(some 15),.buildSlice 4 1 [(.int .i64 0),(.int .i64 0),(.str []),(.sl [])] [(0,(.t 14))],none⟩,
 ⟨(some 16),.append false 4 (.t 12) (.t 15),none⟩,
 ⟨(some 3),.mv (.t 16),none⟩] [5,12,13,14,15,16])))
 (.region [⟨(some 17),.bin .add (.t 8) (.k (.c (.d (.int .i64 1)))),none⟩,
 ⟨(some 8),.mv (.t 17),none⟩] [17])))))))
 (.seq (.region [⟨(some 18),.mv (.t 3),none⟩,
 ⟨(some 2),.mv (.t 18),none⟩] [3,18])
 (.ret))))
theorem ac65_ok : cFunc Try.prog [] [(0,[2],[]),(1,[],[]),(2,[0],[]),(3,[],[]),(4,[9,10,11],[]),(5,[5,12,13,14,15,16],[]),(6,[17],[]),(7,[3,18],[])] Try.f65 = some (ac65,[.tmp 2],19) := by kernel_rfl
-- 48 loop.example/prologserver/impl.own params 1 ntmps 8
def ac48 : Cd := .seq (.region [⟨(some 1),.box (.t 0),none⟩,
 ⟨(some 2),.alloc [(.d (.int .i64 0)),(.d (.int .i64 0)),(.d (.str [])),(.full [])],none⟩] [0])
 (.seq (.region [⟨(some 3),.fieldAddr 3 (.t 1),none⟩,
 ⟨(some 4),.load none (.t 3),none⟩,
 ⟨(some 5),.call false 65 [(.t 4)],none⟩,
 ⟨(some 6),.fieldAddr 3 (.t 1),none⟩,
 ⟨none,.store 1 (.t 6) (.t 5),none⟩] [3,4,5,6])
 (.seq (.region [⟨(some 7),.load (some 4) (.t 1),none⟩,
 ⟨none,.store 4 (.t 2) (.t 7),none⟩] [1,7])
 (.ret)))
theorem ac48_ok : cFunc Try.prog [] [(0,[0],[]),(1,[3,4,5,6],[]),(2,[1,7],[])] Try.f48 = some (ac48,[.cell 2 (some 4)],8) := by kernel_rfl
end Own
/-- dead objects and trees -/
def inter (l : List Tm) (vs : List Value) : Heap := (List.zipWith (fun t v => [Ob.dead, ktree t v]) l vs).flatten
theorem inter_snoc (l : List Tm) (vs : List Value) (v : Value) (h : vs.length < l.length) : inter l (vs ++ [v]) = inter l vs ++ [.dead, ktree l[vs.length] v] := by
  rw [inter, inter, zip_snoc _ _ _ _ h]; simp
theorem inter_get : ∀ (l : List Tm) (vs : List Value) (m : Nat), m < vs.length → vs.length ≤ l.length → (inter l vs)[2 * m + 1]? = (List.zipWith ktree l vs)[m]?
  | [], [], m, h, _ => by simp at h
  | [], _ :: _, m, h, h' => by simp at h'
  | _ :: _, [], m, h, _ => by simp at h
  | t :: l, v :: vs, 0, h, _ => by simp [inter]
  | t :: l, v :: vs, m + 1, h, h' => by
    have := inter_get l vs m (by simpa using h) (by simpa using h')
    simp only [inter] at this ⊢
    simp only [List.zipWith_cons_cons, List.flatten_cons, show 2 * (m + 1) + 1 = (2 * m + 1) + 1 + 1 by omega, List.cons_append, List.nil_append, List.getElem?_cons_succ, this]
theorem inter_re (l : List Tm) (vs : List Value) (n : Nat) : (inter l vs).map (Ob.re n) = inter l vs := by
  induction l generalizing vs with
  | nil => simp [inter]
  | cons t l ih =>
    cases vs with
    | nil => simp [inter]
    | cons v vs =>
      have := ih vs
      simp only [inter] at this ⊢
      simp only [List.zipWith_cons_cons, List.flatten_cons, List.map_append, this]
      rfl
theorem set_end (X : Heap) (a b : Ob) : (X ++ [a]).set X.length b = X ++ [b] := by rw [List.set_append_right _ _ (Nat.le_refl _)]; simp
theorem allLen_zip (l : List Tm) (vs : List Value) : allLen 4 (List.zipWith srow l vs) := by
  induction l generalizing vs with
  | nil => intro r hr; simp at hr
  | cons t l ih =>
    cases vs with
    | nil => intro r hr; simp at hr
    | cons v vs =>
      intro r hr
      rw [List.zipWith_cons_cons] at hr
      rcases List.mem_cons.1 hr with rfl | hr
      · rfl
      · exact ih vs r hr
def OwnO (t : Tm) : Prop := ACalls Try.prog 48 [.agg (t.row.map .d)] [] (HandsTm t)
theorem ownListOwn_of (l : List Tm) (hl : l.length ≤ 1048576) (h : ∀ t ∈ l, OwnO t) : ACalls Try.prog 65 [.c (.d (.sl (l.map Tm.row)))] [] (HandsRows (l.map Tm.row)) := by
  refine acallsT Try.func65 (by kernel_rfl) Own.ac65_ok ?_
  have hli : inR .i64 (l.length : Int) := small_i64 (by omega) (by omega)
  simp -implicitDefEqProofs [Own.ac65, hli, go_sem, -List.set_cons_succ, -List.set_cons_zero]
  refine loop_enter (St.le_token 3 4 rfl) ?_
  refine loop_set (σ := List Value) (fun vs => [(8, .c (.d (.int .i64 vs.length))), (3, .c (.own (.l 0) vs.length (List.zipWith srow l vs)))]) (fun _ => []) (fun vs => .grow vs.length 4 :: inter l vs) (fun vs => vs.length ≤ l.length) (fun vs => l.length - vs.length) [] (by simp [setAll, inter]) (Nat.zero_le _) ?_
  intro vs hi
  simp -implicitDefEqProofs [setAll, hli, go_sem, -List.set_cons_succ, -List.set_cons_zero]
  refine ⟨fun hlt => ?_, fun hge => ?_⟩
  · have hadd : inR .i64 ((vs.length : Int) + 1) := small_i64 (by omega) (by omega)
    refine row_of hlt (row_len _) ?_
    simp -implicitDefEqProofs [row_len, take_row, pure_d, re_d, inter_re, List.set_cons_succ, set_end, go_sem, -List.set_cons_succ, -List.set_cons_zero]
    refine call_loc (J := []) (h l[vs.length] (List.getElem_mem hlt)) (fun r H' h => h.handed) (by simp [inter_re, Ob.re, re_d]) (.cons (.agg (fzCs_id _)) .nil) List.nodup_nil rfl rfl ?_
    rintro _ _ ⟨v, rfl, rfl⟩ _
    simp -implicitDefEqProofs [putAll, hadd, go_sem, -List.set_cons_succ, -List.set_cons_zero]
    refine ⟨allLen_zip l vs, by unfold maxApp; omega, ?_⟩
    have hloc : ∀ (c d g g' t : Ob), ((g :: (inter l vs ++ [c])).set ((inter l vs).length + 1) d).set 0 g' ++ [t] = g' :: (inter l vs ++ [d, t]) := fun c d g g' t => by rw [List.set_cons_succ, set_end]; simp
    rw [hloc]
    have hs1 := zip_snoc srow l vs v hlt
    rw [srow] at hs1
    rw [← hs1]
    refine loop_less (vs ++ [v]) (St.le_more (by simp [setAll, Sl.le, A.le_refl_iff, A.le_u_iff, As.lo, A.lo, C.lo, Ref.lo, Cs.lo, Obs.lo, Ob.lo, setAll, and_true, true_and, List.length_nil, List.length_cons]) ?_) (by simp; omega) (by show l.length - (vs ++ [v]).length < l.length - vs.length; simp; omega)
    simp only [inter_snoc l vs v hlt, List.length_append, List.length_cons, List.length_nil]
    exact ⟨.refl _, Obs.le_append (Obs.le_refl _) ⟨.dead _, .refl _, trivial⟩⟩
  · have hvl : vs.length = l.length := by omega
    have hn : (0 :: (List.range vs.length).map fun m => 2 * m + 2).Nodup := by
      refine List.nodup_cons.2 ⟨by simp, ?_⟩
      exact List.Pairwise.map _ (fun a b (h : a ≠ b) => by simp; omega) List.nodup_range
    refine finT_ret _ ⟨trivial, trivial⟩ rfl fun kv => ⟨_, _, _, .one (.c (.own (js := (List.range vs.length).map fun m => 2 * m + 2) rfl (by simp [hvl]) (strip_terms l vs hvl) (by rw [zip_lens hvl]) (fun m hm => ?_))), hn, _, rfl, rfl⟩
    have hm' : m < vs.length := by simp at hm; omega
    exact ⟨2 * m + 2, by simp [hm'], by rw [List.getElem?_cons_succ]; exact inter_get l vs m hm' (by omega)⟩
theorem ownO_calls : ∀ t : Tm, t.fits → OwnO t := by
  refine Tm.ind fun k n s l ih hfits => ?_
  obtain ⟨hk, hn, hs, hl, hkids⟩ := hfits
  refine acallsT Try.func48 (by kernel_rfl) Own.ac48_ok ?_
  simp -implicitDefEqProofs [Own.ac48, row_mk, go_sem, -List.set_cons_succ, -List.set_cons_zero]
  refine call_loc (J := []) (ownListOwn_of l hl fun t ht => ih t ht (hkids t ht)) (fun r H' h => h.handed) rfl (.cons (.c .d) .nil) List.nodup_nil rfl rfl ?_
  rintro _ _ ⟨v, rfl, rfl⟩ _
  simp -implicitDefEqProofs [putAll, go_sem, -List.set_cons_succ, -List.set_cons_zero]
  exact finT_ret _ ⟨trivial, trivial⟩ rfl fun kv => ⟨_, _, _, .one (.agg (.cons (.leaf rfl) (.cons (.leaf rfl) (.cons (.leaf rfl) (.cons (.tree (j := 2) rfl) .nil))))), by simp, _, rfl, rfl⟩
end Go.Proofs.Ytoipdmomgjdnaaa

/-
  impl.UnknownGoals: what it hands out stands in an array of its own.
  Conditions: none.
-/
open Go Go.AM Go.Proofs
namespace Go.Proofs.Ytoipdmomgjdnaaa
open Go.ChangeShapes Go.WideShapes Go.ChangeAt Go.RowKit
set_option linter.unusedVariables false
set_option linter.unusedSimpArgs false
set_option maxRecDepth 100000
/-- objects among which the trees of terms stand -/
structure Acc (E : Heap) (us : List Tm) (vs : List Value) (js : List Nat) : Prop where
  vl : vs.length = us.length
  jl : js.length = us.length
  jn : js.Nodup
  jlt : ∀ j ∈ js, j < E.length
  get : ∀ m, m < us.length → ∃ j, js[m]? = some j ∧ E[j]? = (List.zipWith ktree us vs)[m]?
  re : E.map (Ob.re 0) = E
theorem Acc.nil : Acc [] [] [] [] := ⟨rfl, rfl, List.nodup_nil, fun j h => by simp at h, fun m h => by simp at h, rfl⟩
theorem Acc.more {E : Heap} {us : List Tm} {vs : List Value} {js : List Nat} (h : Acc E us vs js) : Acc (E ++ [.dead]) us vs js :=
  ⟨h.vl, h.jl, h.jn, fun j hj => by have := h.jlt j hj; simp; omega, fun m hm => by
    obtain ⟨j, h1, h2⟩ := h.get m hm
    exact ⟨j, h1, by rw [List.getElem?_append_left (h.jlt j (List.mem_of_getElem? h1))]; exact h2⟩, by rw [List.map_append, h.re]; rfl⟩
theorem Acc.push {E : Heap} {us : List Tm} {vs : List Value} {js : List Nat} (h : Acc E us vs js) (t : Tm) (v : Value) : Acc (E ++ [ktree t v]) (us ++ [t]) (vs ++ [v]) (js ++ [E.length]) := by
  have hz : List.zipWith ktree (us ++ [t]) (vs ++ [v]) = List.zipWith ktree us vs ++ [ktree t v] := by rw [List.zipWith_append h.vl.symm]; rfl
  refine ⟨by simp [h.vl], by simp [h.jl], ?_, fun j hj => ?_, fun m hm => ?_, by rw [List.map_append, h.re]; rfl⟩
  · refine List.nodup_append.2 ⟨h.jn, by simp, fun a ha b hb => ?_⟩
    simp at hb
    have := h.jlt a ha
    omega
  · rcases List.mem_append.1 hj with hj | hj
    · have := h.jlt j hj; simp; omega
    · simp at hj; simp; omega
  · rw [hz]
    rcases Nat.lt_or_ge m us.length with h1 | h1
    · obtain ⟨j, h2, h3⟩ := h.get m h1
      refine ⟨j, by rw [List.getElem?_append_left (by rw [h.jl]; exact h1)]; exact h2, ?_⟩
      rw [List.getElem?_append_left (h.jlt j (List.mem_of_getElem? h2)), List.getElem?_append_left (by simp [h.vl]; omega)]
      exact h3
    · have hm' : m = us.length := by simp at hm; omega
      subst hm'
      exact ⟨E.length, by rw [List.getElem?_append_right (by rw [h.jl]; exact Nat.le_refl _)]; simp [h.jl], by rw [List.getElem?_append_right (Nat.le_refl _), List.getElem?_append_right (by simp [h.vl])]; simp [h.vl]⟩
theorem sl_refl : ∀ l : List A, Sl.le l l
  | [] => trivial
  | a :: l => ⟨.refl a, sl_refl l⟩
theorem le_dead (sl : List A) (ext E : Heap) (g o : Ob) : St.le ⟨sl, ext, g :: (E ++ [o])⟩ ⟨sl, ext, g :: (E ++ [.dead])⟩ := St.le_more (sl_refl sl) ⟨.refl _, Obs.le_append (Obs.le_refl E) ⟨.dead _, trivial⟩⟩
namespace Own
-- 21 loop.example/prologserver/impl.UnknownGoals params 1 ntmps 42
-- loop head live: [0,3,11,12,13]
-- loop head live: [0,3,11,12,13,18,19,20]
def ac21 : Cd := .seq (.region [⟨(some 2),.mv (.k (.c (.full []))),none⟩] [2])
 (.seq (.seq (.region [⟨(some 8),.mv (.t 0),none⟩,
 ⟨(some 9),.qcall 31 [(.t 8)],none⟩,
 ⟨(some 10),.un .not (.t 9),none⟩] [8,9])
 (.cond (.t 10)
 (.seq (.region [⟨(some 2),.mv (.k (.c (.full []))),none⟩] [0,10])
 (.ret))
 (.skip)))
 (.seq (.region [⟨(some 3),.mv (.k (.c (.full []))),none⟩] [2,10])
 (.seq (.seq (.region [⟨(some 11),.mv (.t 0),none⟩,
 ⟨(some 12),.len 1 (.t 11),none⟩,
 ⟨(some 13),.mv (.k (.c (.d (.int .i64 0)))),none⟩] [])
 (.block 0 (.loop (.seq (.region [⟨(some 14),.bin .lss (.t 13) (.t 12),none⟩] [])
 (.seq (.cond (.t 14)
 (.skip)
 (.exit 0))
 (.seq (.block 1 (.seq (.region [⟨(some 15),.indexAddr 5 (.t 11) (.t 13),none⟩,
 ⟨(some 16),.load (some 5) (.t 15),none⟩,
 ⟨(some 5),.alloc [(.d (.int .i64 0)),(.d (.int .i64 0)),(.d (.str [])),(.full []),(.full [])],none⟩,
 ⟨none,.store 5 (.t 5) (.t 16),none⟩] [14,15,16])
 (.seq (.region [⟨(some 17),.fieldAddr 4 (.t 5),none⟩,
 ⟨(some 18),.load none (.t 17),none⟩,
 ⟨(some 19),.len 1 (.t 18),none⟩,
 ⟨(some 20),.mv (.k (.c (.d (.int .i64 0)))),none⟩] [5,17])
 (.block 2 (.loop (.seq (.region [⟨(some 21),.bin .lss (.t 20) (.t 19),none⟩] [])
 (.seq (.cond (.t 21)
 (.skip)
 (.exit 2))
 (.seq (.block 3 (.seq (.region [⟨(some 22),.indexAddr 4 (.t 18) (.t 20),none⟩,
 ⟨(some 23),.load (some 4) (.t 22),none⟩,
 ⟨(some 7),.alloc [(.d (.int .i64 0)),(.d (.int .i64 0)),(.d (.str [])),(.full [])],none⟩,
 ⟨none,.store 4 (.t 7) (.t 23),none⟩] [21,22,23])
 (.seq (.region [⟨(some 24),.load (some 4) (.t 7),none⟩,
 ⟨(some 25),.qcall 29 [(.t 24)],none⟩,
 ⟨(some 26),.mv (.t 25),none⟩,
 ⟨(some 27),.mv (.t 0),some (26,true)⟩,
 ⟨(some 28),.load (some 4) (.t 7),some (26,true)⟩,
 ⟨(some 29),.qcall 47 [(.t 28)],some (26,true)⟩,
 ⟨(some 30),.qcall 46 [(.t 27),(.t 29)],some (26,true)⟩,
 ⟨(some 31),.len 1 (.t 30),some (26,true)⟩,
 ⟨(some 32),.bin .eql (.t 31) (.k (.c (.d (.int .i64 0)))),some (26,true)⟩,
 ⟨(some 33),.pick (.t 26) (.t 32) (.k (.c (.d (.bool false)))),none⟩] [24,25,26,27,28,29,30,31,32])
 (.cond (.t 33)
 (.region [⟨(some 34),.mv (.t 3),none⟩,
 ⟨(some 35),.load (some 4) (.t 7),none⟩,
 ⟨(some 36),.call false 48 [(.t 35)],none⟩,
 ⟨(some 37),.buildSlice 4 1 [(.int .i64 0),(.int .i64 0),(.str []),(.sl [])] [(0,(.t 36))],none⟩,
 ⟨(some 38),.append false 4 (.t 34) (.t 37),none⟩,
 ⟨(some 3),.mv (.t 38),none⟩] [7,33,34,35,36,37,38])
 (.skip)))))
 (.region [⟨(some 39),.bin .add (.t 20) (.k (.c (.d (.int .i64 1)))),none⟩,
 ⟨(some 20),.mv (.t 39),none⟩] [7,33,39])))))))))
 (.region [⟨(some 40),.bin .add (.t 13) (.k (.c (.d (.int .i64 1)))),none⟩,
 ⟨(some 13),.mv (.t 40),none⟩] [40])))))))
 (.seq (.region [⟨(some 41),.mv (.t 3),none⟩,
 ⟨(some 2),.mv (.t 41),none⟩] [3,41])
 (.ret)))))
theorem ac21_ok : cFunc Try.prog [1000029,1000031,1000046,1000047] [(0,[2],[]),(1,[8,9],[]),(2,[0,10],[]),(3,[2,10],[]),(4,[],[]),(5,[],[]),(6,[14,15,16],[]),(7,[5,17],[]),(8,[],[]),(9,[21,22,23],[]),(10,[24,25,26,27,28,29,30,31,32],[]),(11,[7,33,34,35,36,37,38],[]),(12,[7,33,39],[]),(13,[40],[]),(14,[3,41],[])] Try.f21 = some (ac21,[.tmp 2],42) := by kernel_rfl
end Own
theorem unkOwn_calls (p : List Cl) (hp : FitsC p) : ACalls Try.prog 21 [.c (.d (.sl (p.map Cl.row)))] [] (HandsRows ((unkP p).map Tm.row)) := by
  have hl := hp.1
  have hli : inR .i64 (p.length : Int) := small_i64 (by omega) (by omega)
  refine acallsT Try.func21 (by kernel_rfl) Own.ac21_ok ?_
  simp -implicitDefEqProofs [Own.ac21, hli, go_sem, -List.set_cons_succ, -List.set_cons_zero]
  have hpv := pvImpl_calls p hp
  cases hb : progB p with
  | false =>
    simp only [hb] at hpv
    refine qcall_pure hpv trivial rfl ?_
    simp -implicitDefEqProofs [go_sem, -List.set_cons_succ, -List.set_cons_zero]
    have : unkP p = [] := by rw [unkP, hb]; rfl
    rw [this]
    exact finT_ret _ ⟨trivial, trivial⟩ rfl fun kv => ⟨_, _, _, .one (.c .full), by simp, _, rfl, rfl⟩
  | true =>
    simp only [hb] at hpv
    have hpl := prog_len hb
    refine qcall_pure hpv trivial rfl ?_
    simp -implicitDefEqProofs [hli, go_sem, -List.set_cons_succ, -List.set_cons_zero]
    refine loop_enter (St.le_token 3 4 rfl) ?_
    refine loop_set (σ := Nat × Heap × List Value × List Nat) (fun x => [(13, .c (.d (.int .i64 x.1))), (3, .c (.own (.l 0) (unkT p x.1).length (List.zipWith srow (unkT p x.1) x.2.2.1)))]) (fun _ => []) (fun x => .grow (unkT p x.1).length 4 :: x.2.1) (fun x => x.1 ≤ p.length ∧ Acc x.2.1 (unkT p x.1) x.2.2.1 x.2.2.2) (fun x => p.length - x.1) (0, [], [], []) (by simp [setAll, unkT]) ⟨Nat.zero_le _, Acc.nil⟩ ?_
    rintro ⟨i, E, vs, js⟩ ⟨hi, ha⟩
    simp only at hi ha
    simp -implicitDefEqProofs [setAll, hli, go_sem, -List.set_cons_succ, -List.set_cons_zero]
    refine ⟨fun hlt => ?_, fun hge => ?_⟩
    · have hbl := body_len hb hlt
      have hbi : inR .i64 (p[i].body.length : Int) := small_i64 (by omega) (by omega)
      have hul := unk_len hb i hi
      have hc := hp.2 p[i] (List.getElem_mem hlt)
      obtain ⟨V, hV⟩ : ∃ V : Nat → List Tm, ∀ j, V j = unkT p i ++ (p[i].body.take j).filter (unkB p) := ⟨_, fun _ => rfl⟩
      refine row_of hlt rfl ?_
      simp -implicitDefEqProofs [Cl.row, hbi, go_sem, -List.set_cons_succ, -List.set_cons_zero]
      have hloc : ∀ (E : Heap) (c d g : Ob), (g :: (E ++ [c])).set (E.length + 1) d = g :: (E ++ [d]) := fun E c d g => by rw [List.set_cons_succ, set_end]
      rw [hloc]
      refine loop_enter (le_dead _ _ E _ _) ?_
      refine loop_set (σ := Nat × Heap × List Value × List Nat) (fun x => [(20, .c (.d (.int .i64 x.1))), (3, .c (.own (.l 0) (V x.1).length (List.zipWith srow (V x.1) x.2.2.1)))]) (fun _ => []) (fun x => .grow (V x.1).length 4 :: x.2.1) (fun x => x.1 ≤ p[i].body.length ∧ Acc x.2.1 (V x.1) x.2.2.1 x.2.2.2) (fun x => p[i].body.length - x.1) (0, E ++ [.dead], vs, js) (by simp [setAll, hV]) ⟨Nat.zero_le _, by simpa [hV] using ha.more⟩ ?_
      rintro ⟨j, E, vs, js⟩ ⟨hj, ha⟩
      simp only at hj ha
      obtain ⟨U, hU⟩ : ∃ U, U = V j := ⟨_, rfl⟩
      have hUl : U.length ≤ 6 * i + j := by
        have : ((p[i].body.take j).filter (unkB p)).length ≤ (p[i].body.take j).length := List.length_filter_le _ _
        rw [hU, hV, List.length_append]; simp at this; omega
      rw [← hU] at ha ⊢
      have hEr := ha.re
      simp -implicitDefEqProofs [setAll, hli, hbi, go_sem, -List.set_cons_succ, -List.set_cons_zero]
      refine ⟨fun hjl => ?_, fun hje => ?_⟩
      · have hadd : inR .i64 ((j : Int) + 1) := small_i64 (by omega) (by omega)
        have hg := hc.body p[i].body[j] (List.getElem_mem hjl)
        have hfs := filt_succ (unkB p) p[i].body hjl
        refine row_of hjl (row_len _) ?_
        simp -implicitDefEqProofs [row_len, take_row, pure_d, re_d, go_sem, -List.set_cons_succ, -List.set_cons_zero]
        rw [hloc]
        have hps := plainImpl_calls _ hg
        have nextF : unkB p p[i].body[j] = false → V (j + 1) = U := fun hq => by rw [hV, hfs, ← List.append_assoc, ← hV, ← hU, hq]; simp
        have nextT : unkB p p[i].body[j] = true → V (j + 1) = U ++ [p[i].body[j]] := fun hq => by rw [hV, hfs, ← List.append_assoc, ← hV, ← hU, hq]; simp
        cases hpn : p[i].body[j].plain with
        | false =>
          simp only [hpn] at hps
          refine qcall_pure hps trivial rfl ?_
          have hnx := nextF (by simp [unkB, hpn])
          simp -implicitDefEqProofs [row_len, take_row, pure_d, re_d, hadd, go_sem, -List.set_cons_succ, -List.set_cons_zero]
          refine loop_less (j + 1, E ++ [.dead], vs, js) (St.le_more ?_ ?_) ⟨hjl, by show Acc _ (V (j + 1)) _ _; rw [hnx]; exact ha.more⟩ (by show p[i].body.length - (j + 1) < p[i].body.length - j; omega)
          · simp only [hnx]; simp [setAll, Sl.le, A.le_refl_iff, A.le_u_iff, As.lo, A.lo, C.lo, Ref.lo, Cs.lo, Obs.lo, Ob.lo, setAll, and_true, true_and, List.length_nil, List.length_cons]
          · show Obs.le _ (.grow (V (j + 1)).length 4 :: (E ++ [.dead])); rw [hnx]; exact ⟨.refl _, Obs.le_append (Obs.le_refl E) ⟨.dead _, trivial⟩⟩
        | true =>
          simp only [hpn] at hps
          refine qcall_pure hps trivial rfl ?_
          simp -implicitDefEqProofs [row_len, take_row, pure_d, re_d, hadd, go_sem, -List.set_cons_succ, -List.set_cons_zero]
          refine qcall_pure (pred_calls _ hg) trivial rfl ?_
          simp -implicitDefEqProofs [row_len, take_row, pure_d, re_d, hadd, go_sem, -List.set_cons_succ, -List.set_cons_zero]
          refine qcall_pure (cfor_calls p hp _ hg) trivial rfl ?_
          have hfl := forI_len p p[i].body[j] p.length
          have hfi : inR .i64 ((forI p p[i].body[j] p.length).length : Int) := small_i64 (by omega) (by omega)
          simp -implicitDefEqProofs [row_len, take_row, pure_d, re_d, hadd, hfi, hEr, intRows_len, go_sem, -List.set_cons_succ, -List.set_cons_zero]
          refine ⟨fun he => ?_, fun he => ?_⟩
          · have hnx := nextT (by simp [unkB, hpn]; exact he)
            refine call_loc (J := []) (ownO_calls _ hg) (fun r H' h => h.handed) (by simp [Ob.re, hEr, re_d]) (.cons (.agg (fzCs_id _)) .nil) List.nodup_nil rfl rfl ?_
            rintro _ _ ⟨v, rfl, rfl⟩ _
            simp -implicitDefEqProofs [putAll, hadd, go_sem, -List.set_cons_succ, -List.set_cons_zero]
            refine ⟨allLen_zip U vs, by have := ha.vl; unfold maxApp; omega, ?_⟩
            have hsn : List.zipWith srow (U ++ [p[i].body[j]]) (vs ++ [v]) = List.zipWith srow U vs ++ [[.int .i64 p[i].body[j].k, .int .i64 p[i].body[j].n, .str p[i].body[j].s, .v v]] := by rw [List.zipWith_append ha.vl.symm]; rfl
            refine loop_less (j + 1, (E ++ [.dead]) ++ [ktree p[i].body[j] v], vs ++ [v], js ++ [(E ++ [Ob.dead]).length]) (St.le_more ?_ ?_) ⟨hjl, by show Acc _ (V (j + 1)) _ _; rw [hnx]; exact ha.more.push _ v⟩ (by show p[i].body.length - (j + 1) < p[i].body.length - j; omega)
            · simp only [hnx, hsn]; simp [setAll, Sl.le, A.le_refl_iff, A.le_u_iff, As.lo, A.lo, C.lo, Ref.lo, Cs.lo, Obs.lo, Ob.lo, setAll, and_true, true_and, List.length_nil, List.length_cons]
            · show Obs.le _ (.grow (V (j + 1)).length 4 :: ((E ++ [.dead]) ++ [ktree p[i].body[j] v]))
              rw [hnx, List.append_assoc, List.length_append]
              exact ⟨.refl _, Obs.le_append (Obs.le_refl E) ⟨.dead _, .refl _, trivial⟩⟩
          · have hnx := nextF (by simp [unkB, hpn]; exact he)
            refine loop_less (j + 1, E ++ [.dead], vs, js) (St.le_more ?_ ?_) ⟨hjl, by show Acc _ (V (j + 1)) _ _; rw [hnx]; exact ha.more⟩ (by show p[i].body.length - (j + 1) < p[i].body.length - j; omega)
            · simp only [hnx]; simp [setAll, Sl.le, A.le_refl_iff, A.le_u_iff, As.lo, A.lo, C.lo, Ref.lo, Cs.lo, Obs.lo, Ob.lo, setAll, and_true, true_and, List.length_nil, List.length_cons]
            · show Obs.le _ (.grow (V (j + 1)).length 4 :: (E ++ [.dead])); rw [hnx]; exact ⟨.refl _, Obs.le_append (Obs.le_refl E) ⟨.dead _, trivial⟩⟩
      · obtain rfl : j = p[i].body.length := by omega
        have hadd : inR .i64 ((i : Int) + 1) := small_i64 (by omega) (by omega)
        have hU2 : U = unkT p (i + 1) := by rw [hU, hV, unk_succ p hlt, List.take_length]; rfl
        rw [hU2] at ha ⊢
        exact ⟨hadd, loop_less (i + 1, E, vs, js) (St.le_slots (by simp [setAll, Sl.le, A.le_refl_iff, A.le_u_iff, As.lo, A.lo, C.lo, Ref.lo, Cs.lo, Obs.lo, Ob.lo, setAll, and_true, true_and, List.length_nil, List.length_cons])) ⟨hlt, ha⟩ (by show p.length - (i + 1) < p.length - i; omega)⟩
    · obtain rfl : i = p.length := by omega
      have hn : (0 :: js.map (· + 1)).Nodup := by
        refine List.nodup_cons.2 ⟨by simp, ?_⟩
        exact List.Pairwise.map _ (fun a b (h : a ≠ b) => by simp; omega) ha.jn
      have : unkP p = unkT p p.length := by rw [unkP, hb]; rfl
      rw [this]
      refine finT_ret _ ⟨trivial, trivial⟩ rfl fun kv => ⟨_, _, _, .one (.c (.own (js := js.map (· + 1)) rfl (by simp [ha.vl]) (strip_terms _ vs ha.vl) (by rw [zip_lens ha.vl]) (fun m hm => ?_))), hn, _, rfl, rfl⟩
      obtain ⟨j, h1, h2⟩ := ha.get m (by simp [ha.vl] at hm; exact hm)
      exact ⟨j + 1, by simp [h1], by rw [List.getElem?_cons_succ]; exact h2⟩
end Go.Proofs.Ytoipdmomgjdnaaa

/-
  A term's kids are marked, and looked at again.
  Conditions: none.
-/
open Go Go.AM Go.Proofs
namespace Go.Proofs.Ytoipdmomgjdnaaa
open Go.ChangeShapes Go.WideShapes Go.ChangeAt Go.RowKit
set_option linter.unusedVariables false
set_option linter.unusedSimpArgs false
set_option maxRecDepth 100000
end Go.Proofs.Ytoipdmomgjdnaaa

/-
  Rows whose slices are cut off and stand as trees.
  Conditions: none.
-/
open Go Go.AM Go.Proofs
namespace Go.Proofs.Ytoipdmomgjdnaaa
set_option linter.unusedVariables false
set_option linter.unusedSimpArgs false
/-- the slices of a row -/
def nsl : List D → Nat
  | [] => 0
  | .sl _ :: l => nsl l + 1
  | _ :: l => nsl l
/-- a row, its slices cut off -/
def cutR : List D → List Value → List D
  | .sl _ :: l, v :: vs => .v v :: cutR l vs
  | x :: l, vs => x :: cutR l vs
  | [], _ => []
/-- .. and these slices -/
def trs : List D → List Value → Heap
  | .sl d :: l, v :: vs => .tree v d :: trs l vs
  | _ :: l, vs => trs l vs
  | [], _ => []
theorem cut_sl (d : List (List D)) (l : List D) (v : Value) (vs : List Value) : cutR (.sl d :: l) (v :: vs) = .v v :: cutR l vs := rfl
theorem trs_sl (d : List (List D)) (l : List D) (v : Value) (vs : List Value) : trs (.sl d :: l) (v :: vs) = .tree v d :: trs l vs := rfl
theorem cut_ne {x : D} (h : x.isSl = false) (l : List D) (vs : List Value) : cutR (x :: l) vs = x :: cutR l vs := by cases x <;> first | rfl | cases h
theorem trs_ne {x : D} (h : x.isSl = false) (l : List D) (vs : List Value) : trs (x :: l) vs = trs l vs := by cases x <;> first | rfl | cases h
theorem nsl_ne {x : D} (h : x.isSl = false) (l : List D) : nsl (x :: l) = nsl l := by cases x <;> first | rfl | cases h
theorem cut_len : ∀ (l : List D) (vs : List Value), (cutR l vs).length = l.length
  | [], _ => rfl
  | x :: l, vs => by
    by_cases hx : x.isSl = false
    · rw [cut_ne hx, List.length_cons, cut_len l vs, List.length_cons]
    · cases x with
      | sl d => cases vs with
        | nil => show (D.sl d :: cutR l []).length = _; rw [List.length_cons, cut_len l, List.length_cons]
        | cons v vs => rw [cut_sl, List.length_cons, cut_len l vs, List.length_cons]
      | _ => simp [D.isSl] at hx
theorem trs_len : ∀ (l : List D) (vs : List Value), vs.length = nsl l → (trs l vs).length = nsl l
  | [], _, _ => rfl
  | x :: l, vs, h => by
    by_cases hx : x.isSl = false
    · rw [nsl_ne hx] at h ⊢; rw [trs_ne hx]; exact trs_len l vs h
    · cases x with
      | sl d => cases vs with
        | nil => simp [nsl] at h
        | cons v vs => rw [trs_sl, List.length_cons, trs_len l vs (by simpa [nsl] using h)]; rfl
      | _ => simp [D.isSl] at hx
theorem trs_trees : ∀ (l : List D) (vs : List Value), (trs l vs).all Ob.isTreeB = true
  | [], _ => rfl
  | x :: l, vs => by
    by_cases hx : x.isSl = false
    · rw [trs_ne hx]; exact trs_trees l vs
    · cases x with
      | sl d => cases vs with
        | nil => exact trs_trees l []
        | cons v vs => rw [trs_sl, List.all_cons, trs_trees l vs]; rfl
      | _ => simp [D.isSl] at hx
theorem cut_port : ∀ (l : List D) (vs : List Value), vs.length = nsl l → ((cutR l vs).map C.d).all C.portB = true
  | [], _, _ => rfl
  | x :: l, vs, h => by
    by_cases hx : x.isSl = false
    · rw [nsl_ne hx] at h
      rw [cut_ne hx, List.map_cons, List.all_cons, cut_port l vs h]
      cases x <;> first | rfl | (simp [D.isSl] at hx)
    · cases x with
      | sl d => cases vs with
        | nil => simp [nsl] at h
        | cons v vs => rw [cut_sl, List.map_cons, List.all_cons, cut_port l vs (by simpa [nsl] using h)]; rfl
      | _ => simp [D.isSl] at hx
theorem strip_app : ∀ (l : List D) (vs : List Value) (r c : List D) (t : Heap), vs.length = nsl l → Strip r c t → Strip (l ++ r) (cutR l vs ++ c) (trs l vs ++ t)
  | [], _, r, c, t, _, h => h
  | x :: l, vs, r, c, t, h, hs => by
    by_cases hx : x.isSl = false
    · rw [nsl_ne hx] at h
      rw [List.cons_append, cut_ne hx, trs_ne hx]
      exact (strip_cons hx).2 ⟨_, rfl, strip_app l vs r c t h hs⟩
    · cases x with
      | sl d => cases vs with
        | nil => simp [nsl] at h
        | cons v vs => exact ⟨v, _, _, rfl, rfl, strip_app l vs r c t (by simpa [nsl] using h) hs⟩
      | _ => simp [D.isSl] at hx
theorem strip_unapp : ∀ (l r c : List D) (t : Heap), Strip (l ++ r) c t → ∃ vs c' t', vs.length = nsl l ∧ c = cutR l vs ++ c' ∧ t = trs l vs ++ t' ∧ Strip r c' t'
  | [], r, c, t, h => ⟨[], c, t, rfl, rfl, rfl, h⟩
  | x :: l, r, c, t, h => by
    by_cases hx : x.isSl = false
    · obtain ⟨c1, rfl, h1⟩ := (strip_cons hx).1 h
      obtain ⟨vs, c', t', h2, rfl, rfl, h3⟩ := strip_unapp l r c1 t h1
      exact ⟨vs, c', t', by rw [nsl_ne hx]; exact h2, by rw [cut_ne hx]; rfl, by rw [trs_ne hx], h3⟩
    · cases x with
      | sl d =>
        obtain ⟨v, c1, t1, rfl, rfl, h1⟩ := h
        obtain ⟨vs, c', t', h2, rfl, rfl, h3⟩ := strip_unapp l r c1 t1 h1
        exact ⟨v :: vs, c', t', by simp [nsl, h2], rfl, rfl, h3⟩
      | _ => simp [D.isSl] at hx
/-- values for the slices of rows -/
def Vals (m : Nat) (rows : List (List D)) (vss : List (List Value)) : Prop := vss.length = rows.length ∧ (∀ r ∈ rows, nsl r = m) ∧ ∀ vs ∈ vss, vs.length = m
theorem strip_rows {m : Nat} : ∀ (rows : List (List D)) (vss : List (List Value)), Vals m rows vss → Strip rows.flatten (List.zipWith cutR rows vss).flatten (List.zipWith trs rows vss).flatten
  | [], [], _ => ⟨rfl, rfl⟩
  | [], _ :: _, h => by have := h.1; simp at this
  | _ :: _, [], h => by have := h.1; simp at this
  | r :: rows, vs :: vss, h => by
    simp only [List.zipWith_cons_cons, List.flatten_cons]
    refine strip_app r vs _ _ _ ?_ (strip_rows rows vss ⟨by simpa using h.1, fun r hr => h.2.1 r (by simp [hr]), fun vs hv => h.2.2 vs (by simp [hv])⟩)
    rw [h.2.1 r (by simp), h.2.2 vs (by simp)]
theorem rows_unstrip {m : Nat} : ∀ (rows : List (List D)) (c : List D) (t : Heap), (∀ r ∈ rows, nsl r = m) → Strip rows.flatten c t → ∃ vss, Vals m rows vss ∧ c = (List.zipWith cutR rows vss).flatten ∧ t = (List.zipWith trs rows vss).flatten
  | [], c, t, _, ⟨h1, h2⟩ => ⟨[], ⟨rfl, fun r h => by simp at h, fun r h => by simp at h⟩, h1, h2⟩
  | r :: rows, c, t, hm, h => by
    rw [List.flatten_cons] at h
    obtain ⟨vs, c', t', h1, rfl, rfl, h2⟩ := strip_unapp r _ c t h
    obtain ⟨vss, h3, rfl, rfl⟩ := rows_unstrip rows c' t' (fun r hr => hm r (by simp [hr])) h2
    refine ⟨vs :: vss, ⟨by simp [h3.1], hm, fun ws hw => ?_⟩, rfl, rfl⟩
    rcases List.mem_cons.1 hw with rfl | hw
    · rw [h1]; exact hm r (by simp)
    · exact h3.2.2 ws hw
theorem cut_lens {rows : List (List D)} {vss : List (List Value)} (h : vss.length = rows.length) : (List.zipWith cutR rows vss).map List.length = rows.map List.length := by
  refine List.ext_getElem? fun i => ?_
  rcases Nat.lt_or_ge i rows.length with hi | hi
  · simp [List.getElem?_zipWith, hi, h, cut_len]
  · rw [List.getElem?_eq_none (by simp [h]; omega), List.getElem?_eq_none (by simp; omega)]
theorem fl_get {α : Type} {L : List (List α)} {m : Nat} (h : ∀ p ∈ L, p.length = m) {i j : Nat} {p : List α} (hi : L[i]? = some p) (hj : j < m) : L.flatten[i * m + j]? = p[j]? := by
  induction L generalizing i with
  | nil => simp at hi
  | cons a l ih =>
    have ha : a.length = m := h a (by simp)
    cases i with
    | zero =>
      simp at hi; subst hi
      rw [List.flatten_cons, Nat.zero_mul, Nat.zero_add, List.getElem?_append_left (by omega)]
    | succ i =>
      rw [List.flatten_cons, List.getElem?_append_right (by rw [ha, Nat.succ_mul]; omega), ← ih (fun r hr => h r (by simp [hr])) (i := i) (by simpa using hi)]
      congr 1
      rw [ha, Nat.succ_mul]; omega
theorem fl_set {α : Type} {L : List (List α)} {m : Nat} (h : ∀ p ∈ L, p.length = m) {i j : Nat} {p : List α} (hi : L[i]? = some p) (hj : j < m) (x : α) : L.flatten.set (i * m + j) x = (L.set i (p.set j x)).flatten := by
  induction L generalizing i with
  | nil => simp at hi
  | cons a l ih =>
    have ha : a.length = m := h a (by simp)
    cases i with
    | zero =>
      simp at hi; subst hi
      rw [List.flatten_cons, Nat.zero_mul, Nat.zero_add, List.set_append_left _ _ (by omega)]
      rfl
    | succ i =>
      rw [List.flatten_cons, List.set_append_right _ _ (by rw [ha, Nat.succ_mul]; omega), List.set_cons_succ, List.flatten_cons, ← ih (fun r hr => h r (by simp [hr])) (i := i) (by simpa using hi)]
      congr 2
      rw [ha, Nat.succ_mul]; omega
theorem zipt_lens {m : Nat} {rows : List (List D)} {vss : List (List Value)} (h : Vals m rows vss) : ∀ p ∈ List.zipWith trs rows vss, p.length = m := by
  intro p hp
  obtain ⟨i, hi⟩ := List.mem_iff_getElem?.1 hp
  rw [List.getElem?_zipWith] at hi
  cases h1 : rows[i]? with
  | none => rw [h1] at hi; simp at hi
  | some r =>
    cases h2 : vss[i]? with
    | none => rw [h1, h2] at hi; simp at hi
    | some vs =>
      rw [h1, h2] at hi
      simp at hi
      have e1 := h.2.1 r (List.mem_of_getElem? h1)
      have e2 := h.2.2 vs (List.mem_of_getElem? h2)
      rw [← hi, trs_len _ _ (by omega), e1]
theorem zipt_trees (rows : List (List D)) (vss : List (List Value)) : ∀ p ∈ List.zipWith trs rows vss, p.all Ob.isTreeB = true := by
  intro p hp
  obtain ⟨i, hi⟩ := List.mem_iff_getElem?.1 hp
  rw [List.getElem?_zipWith] at hi
  cases h1 : rows[i]? with
  | none => rw [h1] at hi; simp at hi
  | some r =>
    cases h2 : vss[i]? with
    | none => rw [h1, h2] at hi; simp at hi
    | some vs =>
      rw [h1, h2] at hi
      simp at hi
      rw [← hi]; exact trs_trees r vs
/-- what is handed out: a row whose slices stand in arrays of their own -/
def HandsRow (row : List D) (r : A) (H : Heap) : Prop := ∃ vs : List Value, vs.length = nsl row ∧ r = .agg ((cutR row vs).map .d) ∧ H = trs row vs
theorem HandsRow.handed {row : List D} {r : A} {H : Heap} (h : HandsRow row r H) : Handed r H := by
  obtain ⟨vs, h1, rfl, rfl⟩ := h
  exact ⟨cut_port row vs h1, trs_trees row vs⟩
/-- rows of which the first are made -/
def fillR (rows : List (List D)) (vss : List (List Value)) (z : List D) : List (List D) := List.zipWith cutR rows vss ++ List.replicate (rows.length - vss.length) z
theorem fillR_nil (rows : List (List D)) (z : List D) : fillR rows [] z = List.replicate rows.length z := by simp [fillR]
theorem fillR_all {rows : List (List D)} {vss : List (List Value)} (z : List D) (h : vss.length = rows.length) : fillR rows vss z = List.zipWith cutR rows vss := by simp [fillR, h]
theorem fillR_get {rows : List (List D)} {vss : List (List Value)} (z : List D) (h : vss.length < rows.length) : (fillR rows vss z)[vss.length]? = some z := by
  rw [fillR, List.getElem?_append_right (by simp; omega)]
  have : vss.length - (List.zipWith cutR rows vss).length = 0 := by simp; omega
  rw [this, List.getElem?_replicate, if_pos (by omega)]
theorem zipR_snoc {α β γ : Type} (f : α → β → γ) (l : List α) (vs : List β) (v : β) (h : vs.length < l.length) : List.zipWith f l (vs ++ [v]) = List.zipWith f l vs ++ [f l[vs.length] v] := by
  induction vs generalizing l with
  | nil => cases l with
    | nil => simp at h
    | cons x l => simp
  | cons w vs ih => cases l with
    | nil => simp at h
    | cons x l => simp only [List.cons_append, List.zipWith_cons_cons, List.length_cons, List.getElem_cons_succ]; rw [ih l (by simpa using h)]
theorem fillR_set {rows : List (List D)} {vss : List (List Value)} (z : List D) (vs : List Value) (h : vss.length < rows.length) : (fillR rows vss z).set vss.length (cutR rows[vss.length] vs) = fillR rows (vss ++ [vs]) z := by
  have e : rows.length - vss.length = (rows.length - (vss ++ [vs]).length) + 1 := by simp; omega
  rw [fillR, fillR, List.set_append_right _ _ (by simp; omega), zipR_snoc _ _ _ _ h, e, List.replicate_succ]
  have : vss.length - (List.zipWith cutR rows vss).length = 0 := by simp; omega
  rw [this]
  simp
theorem trees_map_re {H : Heap} (h : H.all Ob.isTreeB = true) (n : Nat) : H.map (Ob.re n) = H := trees_re h n
theorem flat_trees {L : List Heap} (h : ∀ p ∈ L, p.all Ob.isTreeB = true) : L.flatten.all Ob.isTreeB = true := by
  rw [List.all_eq_true]
  intro o ho
  obtain ⟨p, h1, h2⟩ := List.mem_flatten.1 ho
  exact List.all_eq_true.1 (h p h1) o h2
theorem trees_fits {n : Nat} : ∀ {l : Heap}, l.all Ob.isTreeB = true → Obs.fits n 0 l
  | [], _ => trivial
  | o :: l, h => by
    simp only [List.all_cons, Bool.and_eq_true] at h
    refine ⟨?_, trees_fits h.2⟩
    cases o <;> first | trivial | cases h.1
/-- so many things, each with what is below it -/
def wsum {α : Type} (f : α → Nat) : List α → Nat
  | [] => 0
  | x :: l => 1 + f x + wsum f l
theorem wsum_append {α : Type} (f : α → Nat) (l r : List α) : wsum f (l ++ r) = wsum f l + wsum f r := by
  induction l with
  | nil => simp [wsum]
  | cons t l ih => simp only [List.cons_append, wsum, ih]; omega
theorem wsum_take_succ {α : Type} (f : α → Nat) (l : List α) {i : Nat} (h : i < l.length) : wsum f (l.take (i + 1)) = wsum f (l.take i) + 1 + f l[i] := by
  rw [List.take_succ_eq_append_getElem h, wsum_append]; simp only [wsum]; omega
theorem wsum_take_sub {α : Type} (f : α → Nat) (l : List α) {i : Nat} (h : i < l.length) : wsum f (l.take i) + 1 + f l[i] ≤ wsum f l := by
  rw [← wsum_take_succ f l h]
  have := wsum_append f (l.take (i + 1)) (l.drop (i + 1))
  rw [List.take_append_drop] at this
  omega
theorem wsum_le {α : Type} {f g : α → Nat} (h : ∀ x, f x ≤ g x) (l : List α) : wsum f l ≤ wsum g l := by
  induction l with
  | nil => simp [wsum]
  | cons t l ih => simp only [wsum]; have := h t; omega
theorem sum_len {α : Type} {L : List (List α)} {m : Nat} (h : ∀ p ∈ L, p.length = m) : (L.map List.length).sum = L.length * m := by
  induction L with
  | nil => simp
  | cons a l ih =>
    rw [List.map_cons, List.sum_cons, ih (fun p hp => h p (by simp [hp])), h a (by simp), List.length_cons, Nat.succ_mul]
    omega
end Go.Proofs.Ytoipdmomgjdnaaa

/-
  Copies of clauses that stand in arrays of their own.
  Conditions: none.
-/
open Go Go.AM Go.Proofs
namespace Go.Proofs.Ytoipdmomgjdnaaa
open Go.ChangeShapes Go.WideShapes Go.ChangeAt Go.RowKit
set_option linter.unusedVariables false
set_option linter.unusedSimpArgs false
set_option maxRecDepth 100000
namespace Own
-- 8 loop.example/prologserver/laws.toClauseS params 1 ntmps 23
-- loop head live: [0,3,4]
def ac8 : Cd := .seq (.region [⟨(some 2),.mv (.k (.c (.full []))),none⟩] [2])
 (.seq (.region [⟨(some 5),.mv (.t 0),none⟩,
 ⟨(some 6),.len 1 (.t 5),none⟩,
 ⟨(some 7),.mkSlice [(.int .i64 0),(.int .i64 0),(.str []),(.sl []),(.sl [])] (.t 6),none⟩,
 ⟨(some 3),.mv (.t 7),none⟩] [5,6,7])
 (.seq (.seq (.region [⟨(some 4),.mv (.k (.c (.d (.int .i64 0)))),none⟩] [])
 (.block 0 (.loop (.seq (.seq (.region [⟨(some 8),.mv (.t 4),none⟩,
 ⟨(some 9),.mv (.t 0),none⟩,
 ⟨(some 10),.len 1 (.t 9),none⟩,
 ⟨(some 11),.bin .lss (.t 8) (.t 10),none⟩] [8,9,10])
 (.cond (.t 11)
 (.skip)
 (.exit 0)))
 (.seq (.block 1 (.region [⟨(some 14),.mv (.t 3),none⟩,
 ⟨(some 15),.mv (.t 4),none⟩,
 ⟨(some 16),.mv (.t 0),none⟩,
 ⟨(some 17),.mv (.t 4),none⟩,
 ⟨(some 18),.indexAddr 5 (.t 16) (.t 17),none⟩,
 ⟨(some 19),.load (some 5) (.t 18),none⟩,
 ⟨(some 20),.call false 27 [(.t 19)],none⟩,
 ⟨(some 21),.indexAddr 5 (.t 14) (.t 15),none⟩,
 ⟨none,.store 5 (.t 21) (.t 20),none⟩] [11,14,15,16,17,18,19,20,21]))
 (.region [⟨(some 12),.mv (.t 4),none⟩,
 ⟨(some 13),.bin .add (.t 12) (.k (.c (.d (.int .i64 1)))),none⟩,
 ⟨(some 4),.mv (.t 13),none⟩] [12,13]))))))
 (.seq (.region [⟨(some 22),.mv (.t 3),none⟩,
 ⟨(some 2),.mv (.t 22),none⟩] [3,22])
 (.ret))))
theorem ac8_ok : cFunc Try.prog [] [(0,[2],[]),(1,[5,6,7],[]),(2,[],[]),(3,[8,9,10],[]),(5,[11,14,15,16,17,18,19,20,21],[]),(4,[12,13],[]),(6,[3,22],[])] Try.f8 = some (ac8,[.tmp 2],23) := by kernel_rfl
-- 27 loop.example/prologserver/laws.toClause params 1 ntmps 13
def ac27 : Cd := .seq (.region [⟨(some 1),.box (.t 0),none⟩,
 ⟨(some 2),.alloc [(.d (.int .i64 0)),(.d (.int .i64 0)),(.d (.str [])),(.full []),(.full [])],none⟩] [0])
 (.seq (.region [⟨(some 3),.alloc [(.d (.int .i64 0)),(.d (.int .i64 0)),(.d (.str [])),(.full []),(.full [])],none⟩] [])
 (.seq (.region [⟨(some 4),.fieldAddr 0 (.t 1),none⟩,
 ⟨(some 5),.load (some 4) (.t 4),none⟩,
 ⟨(some 6),.call false 39 [(.t 5)],none⟩,
 ⟨(some 7),.fieldAddr 0 (.t 3),none⟩,
 ⟨none,.store 4 (.t 7) (.t 6),none⟩] [4,5,6,7])
 (.seq (.region [⟨(some 8),.fieldAddr 4 (.t 1),none⟩,
 ⟨(some 9),.load none (.t 8),none⟩,
 ⟨(some 10),.call false 13 [(.t 9)],none⟩,
 ⟨(some 11),.fieldAddr 4 (.t 3),none⟩,
 ⟨none,.store 1 (.t 11) (.t 10),none⟩] [1,8,9,10,11])
 (.seq (.region [⟨(some 12),.load (some 5) (.t 3),none⟩,
 ⟨none,.store 5 (.t 2) (.t 12),none⟩] [3,12])
 (.ret)))))
theorem ac27_ok : cFunc Try.prog [] [(0,[0],[]),(1,[],[]),(2,[4,5,6,7],[]),(3,[1,8,9,10,11],[]),(4,[3,12],[])] Try.f27 = some (ac27,[.cell 2 (some 5)],13) := by kernel_rfl
end Own
theorem toClauseS_own (l : List Cl) (hl : l.length ≤ 1048576) (h : ∀ t ∈ l, ACalls Try.prog 27 [.agg ((Cl.row t).map .d)] [] (HandsRow (Cl.row t))) : ACalls Try.prog 8 [.c (.d (.sl (l.map Cl.row)))] [] (HandsRows (l.map Cl.row)) := by
  refine acallsT Try.func8 (by kernel_rfl) Own.ac8_ok ?_
  have hli : inR .i64 (l.length : Int) := small_i64 (by omega) (by omega)
  simp -implicitDefEqProofs [Own.ac8, hli, go_sem, -List.set_cons_succ, -List.set_cons_zero]
  refine ⟨by unfold maxApp; omega, ?_⟩
  refine loop_set (σ := List (List Value)) (fun vss => [(4, .c (.d (.int .i64 vss.length)))]) (fun _ => []) (fun vss => .rows (fillR (l.map Cl.row) vss [.int .i64 0, .int .i64 0, .str [], .sl [], .sl []]) :: (List.zipWith trs (l.map Cl.row) vss).flatten) (fun vss => vss.length ≤ l.length ∧ ∀ vs ∈ vss, vs.length = 2) (fun vss => l.length - vss.length) [] (by simp [setAll, fillR_nil]) ⟨Nat.zero_le _, by simp⟩ ?_
  rintro vss ⟨hi, hvm⟩
  have htr : ((List.zipWith trs (l.map Cl.row) vss).flatten).all Ob.isTreeB = true := flat_trees (zipt_trees _ _)
  generalize hTR : (List.zipWith trs (l.map Cl.row) vss).flatten = TR at htr ⊢
  have hre := trees_map_re htr 0
  simp -implicitDefEqProofs [setAll, hli, hre, go_sem, -List.set_cons_succ, -List.set_cons_zero]
  refine ⟨fun hlt => ?_, fun hge => ?_⟩
  · have hadd : inR .i64 ((vss.length : Int) + 1) := small_i64 (by omega) (by omega)
    refine row_of hlt (crow_len _) ?_
    simp -implicitDefEqProofs [crow_len, take_crow, pure_d, re_d, hre, go_sem, -List.set_cons_succ, -List.set_cons_zero]
    refine call_loc (J := []) (h l[vss.length] (List.getElem_mem hlt)) (fun r H' h => h.handed) (by simp [Ob.re, hre]) (.cons (.agg (fzCs_id _)) .nil) List.nodup_nil rfl rfl ?_
    rintro _ _ ⟨vs, hvl, rfl, rfl⟩ _
    have hlt' : vss.length < (l.map Cl.row).length := by simpa using hlt
    have hg := fillR_get [.int .i64 0, .int .i64 0, .str [], .sl [], .sl []] hlt'
    have hset := fillR_set [.int .i64 0, .int .i64 0, .str [], .sl [], .sl []] vs hlt'
    have hsn := zipR_snoc trs (l.map Cl.row) vss vs hlt'
    simp only [List.getElem_map] at hset hsn
    simp -implicitDefEqProofs [putAll, hadd, hlt, hg, toDs_map, cut_len, crow_len, go_sem, -List.set_cons_succ, -List.set_cons_zero]
    refine loop_back (vss ++ [vs]) ?_ ⟨by simp; omega, fun x hx => ?_⟩ (by show l.length - (vss ++ [vs]).length < l.length - vss.length; simp; omega)
    · simp only [hsn, List.flatten_append, hTR]
      simp [setAll, hset]
    · rcases List.mem_append.1 hx with hx | hx
      · exact hvm x hx
      · simp at hx; rw [hx, hvl]; rfl
  · have hvl : vss.length = (l.map Cl.row).length := by simp; omega
    have hV : Vals 2 (l.map Cl.row) vss := ⟨hvl, fun r hr => by obtain ⟨t, _, rfl⟩ := List.mem_map.1 hr; rfl, hvm⟩
    have hn : (0 :: List.range' 1 TR.length).Nodup := List.nodup_cons.2 ⟨by simp, List.nodup_range'⟩
    refine finT_ret _ ⟨trivial, trivial⟩ rfl fun kv => ⟨_, _, _, .one (.c (.fsl (trs := TR) (js := List.range' 1 TR.length) rfl (by rw [fillR_all _ hvl, ← hTR]; exact strip_rows _ _ hV) (by rw [fillR_all _ hvl, cut_lens hvl]) (fun m hm => ?_))), by simpa using hn, _, rfl, rfl⟩
    exact ⟨1 + m, by simp [hm], by rw [Nat.add_comm]; simp⟩

theorem toClauseOwn_calls (c : Cl) (hc : c.fits) : ACalls Try.prog 27 [.agg (c.row.map .d)] [] (HandsRow c.row) := by
  obtain ⟨h, b⟩ := c
  obtain ⟨hh, hl, hb⟩ := hc
  simp only at hh hl hb
  have c1 := toO_calls h hh
  unfold ToO at c1
  rw [row_eq] at c1
  simp only [List.map_cons, List.map_nil] at c1
  refine acallsT Try.func27 (by kernel_rfl) Own.ac27_ok ?_
  simp -implicitDefEqProofs [Own.ac27, Cl.row, go_sem, -List.set_cons_succ, -List.set_cons_zero]
  refine call_loc (J := []) c1 (fun r H' h => h.handed) rfl (.cons (.agg (fzCs_id [.int .i64 h.k, .int .i64 h.n, .str h.s, .sl (h.kids.map Tm.row)])) .nil) List.nodup_nil rfl rfl ?_
  rintro _ _ ⟨v, rfl, rfl⟩ _
  simp -implicitDefEqProofs [putAll, go_sem, -List.set_cons_succ, -List.set_cons_zero]
  refine call_loc (J := []) (toTermSOwn_calls b hl hb) (fun r H' h => h.handed) rfl (.cons (.c .d) .nil) List.nodup_nil rfl rfl ?_
  rintro _ _ ⟨w, rfl, rfl⟩ _
  simp -implicitDefEqProofs [putAll, go_sem, -List.set_cons_succ, -List.set_cons_zero]
  exact finT_ret _ ⟨trivial, trivial⟩ rfl fun kv => ⟨_, _, _, .one (.agg (.cons (.leaf rfl) (.cons (.leaf rfl) (.cons (.leaf rfl) (.cons (.tree (j := 3) rfl) (.cons (.tree (j := 4) rfl) .nil)))))), by simp, [_, _], rfl, rfl, rfl⟩
theorem toClauseSOwn_calls (l : List Cl) (h : FitsC l) : ACalls Try.prog 8 [.c (.d (.sl (l.map Cl.row)))] [] (HandsRows (l.map Cl.row)) :=
  toClauseS_own l h.1 fun c hc => toClauseOwn_calls c (h.2 c hc)
end Go.Proofs.Ytoipdmomgjdnaaa

/-
  Clauses are counted.
  Conditions: none.
-/
open Go Go.AM Go.Proofs
namespace Go.Proofs.Ytoipdmomgjdnaaa
open Go.ChangeShapes Go.WideShapes Go.ChangeAt Go.RowKit
set_option linter.unusedVariables false
set_option linter.unusedSimpArgs false
set_option maxRecDepth 100000
def Cl.wt (c : Cl) : Nat := c.head.wt + Tm.wts c.body
/-- the terms below a clause -/
def Cl.sub (c : Cl) : Nat := c.head.sub + Tm.cnt c.body
theorem csub_wt (c : Cl) : c.sub ≤ c.wt := by
  have h1 := sub_wt c.head
  have h2 := cnt_wts c.body
  simp only [Cl.sub, Cl.wt]; omega
def SzWC (t : Cl) : Prop := ∀ (m : Int), 0 ≤ m → m ≤ 1048576 → ∀ H, ACalls Try.prog 24 [.agg (t.row.map .d), .c (.d (.int .i64 m))] H (fun r H' => H' = H ∧ LeftW m t.fits t.wt r)
theorem szwClause_calls (c : Cl) (hc : c.fine) : SzWC c := fun m h0 h1 H => by
  obtain ⟨h, b⟩ := c
  obtain ⟨hh, hl, hb⟩ := hc
  have c1 := szwTerm_calls h hh m h0 h1
  rw [row_eq] at c1
  simp only [List.map_cons, List.map_nil] at c1
  refine acalls Try.func24 (by kernel_rfl) ac24_ok fun hf => ?_
  simp -implicitDefEqProofs [ac24, Cl.row, go_sem, -List.set_cons_succ, -List.set_cons_zero]
  refine call_some (c1 _) (by simp [Ob.re, C.re]) (fun r => LeftW.re) hf ?_
  rintro _ ⟨q, rfl, hq0, hq1, hq2⟩
  simp -implicitDefEqProofs [go_sem, -List.set_cons_succ, -List.set_cons_zero]
  refine ⟨fun _ => ⟨-1, rfl, by omega, by omega, fun h => by omega⟩, fun hq => ?_⟩
  refine call_some (szwTermS_calls b hl hb q hq (by omega) _) (by simp [Ob.re, C.re]) (fun r => LeftW.re) hf ?_
  rintro _ ⟨q2, rfl, hp0, hp1, hp2⟩
  simp -implicitDefEqProofs [go_sem, -List.set_cons_succ, -List.set_cons_zero]
  exact ⟨fun _ => ⟨-1, rfl, by omega, by omega, fun h => by omega⟩, fun hp => ⟨q2, rfl, by omega, by omega, fun _ => ⟨⟨(hq2 hq).1, (hp2 hp).1.1, (hp2 hp).1.2⟩, by have h1 := (hq2 hq).2; have h2 := (hp2 hp).2; simp only [Cl.wt]; omega⟩⟩⟩
end Go.Proofs.Ytoipdmomgjdnaaa

/-
  Clauses are counted, marked, and looked at again.
  Conditions: none.
-/
open Go Go.AM Go.Proofs
namespace Go.Proofs.Ytoipdmomgjdnaaa
open Go.ChangeShapes Go.WideShapes Go.ChangeAt Go.RowKit
set_option linter.unusedVariables false
set_option linter.unusedSimpArgs false
set_option maxRecDepth 100000
theorem szClauseS_w (l : List Cl) (hl : l.length ≤ reachBytes) (h : ∀ t ∈ l, SzWC t) (m : Int) (h0 : 0 ≤ m) (h1 : m ≤ 1048576) (H : Heap) :
    ACalls Try.prog 6 [.c (.d (.sl (l.map Cl.row))), .c (.d (.int .i64 m))] H (fun r H' => H' = H ∧ LeftW m (l.length ≤ 1048576 ∧ ∀ t ∈ l, Cl.fits t) (wsum Cl.wt l) r) := by
  refine acalls Try.func6 (by kernel_rfl) ac6_ok fun hf => ?_
  have hlen := reach_i64 hl
  have hsm := reach_small hl
  have hsub : inR .i64 (m - (l.length : Int)) := small_i64 (by omega) (by omega)
  simp -implicitDefEqProofs [ac6, hlen, hsub, go_sem, -List.set_cons_succ, -List.set_cons_zero]
  refine ⟨fun _ => ⟨-1, rfl, by omega, by omega, fun h => by omega⟩, fun hge => ?_⟩
  have hsmall : l.length ≤ 1048576 := by omega
  refine loop_set (σ := Nat × Int) (fun x => [(5, .c (.d (.int .i64 x.1))), (1, .c (.d (.int .i64 x.2)))]) (fun _ => H) (fun _ => []) (fun x => x.1 ≤ l.length ∧ 0 ≤ x.2 ∧ x.2 + wsum Cl.wt (l.take x.1) + (l.length - x.1 : Nat) ≤ m ∧ ∀ t ∈ l.take x.1, Cl.fits t) (fun x => l.length - x.1) (0, m - l.length) rfl ⟨Nat.zero_le _, by simp; omega, by simp [wsum], by simp⟩ ?_
  rintro ⟨i, k⟩ ⟨hi, hm0, hm1, hall⟩
  simp only at hi hm0 hm1 hall
  simp -implicitDefEqProofs [setAll, hlen, go_sem, -List.set_cons_succ, -List.set_cons_zero]
  refine ⟨fun hlt => ?_, fun hge => ⟨k, rfl, by omega, by omega, fun _ => ⟨⟨hsmall, by rw [List.take_of_length_le hge] at hall; exact hall⟩, by rw [List.take_of_length_le hge] at hm1; omega⟩⟩⟩
  refine row_of hlt (crow_len _) ?_
  simp -implicitDefEqProofs [crow_len, take_crow, pure_d, re_d, go_sem, -List.set_cons_succ, -List.set_cons_zero]
  refine call_some (h l[i] (List.getElem_mem hlt) k hm0 (by omega) _) (by simp) (fun r => LeftW.re) hf ?_
  rintro _ ⟨q, rfl, hq0, hq1, hq2⟩
  have hadd : inR .i64 ((i : Int) + 1) := small_i64 (by omega) (by omega)
  simp -implicitDefEqProofs [hadd, go_sem, -List.set_cons_succ, -List.set_cons_zero]
  refine ⟨fun _ => ⟨-1, rfl, by omega, by omega, fun h => by omega⟩, fun hk => ?_⟩
  have hw := wsum_take_succ Cl.wt l hlt
  have hq3 := (hq2 hk).2
  refine loop_back (i + 1, q) (by simp [setAll]) ⟨hlt, hk, by simp only [hw]; omega, fun t ht => ?_⟩ (by show l.length - (i + 1) < l.length - i; omega)
  rw [List.take_succ_eq_append_getElem hlt, List.mem_append] at ht
  rcases ht with ht | ht
  · exact hall t ht
  · simp at ht; subst ht; exact (hq2 hk).1

theorem szwClauseS_calls (l : List Cl) (hl : l.length ≤ reachBytes) (h : ∀ c ∈ l, c.fine) (m : Int) (h0 : 0 ≤ m) (h1 : m ≤ 1048576) (H : Heap) :
    ACalls Try.prog 6 [.c (.d (.sl (l.map Cl.row))), .c (.d (.int .i64 m))] H (fun r H' => H' = H ∧ LeftW m (FitsC l) (wsum Cl.wt l) r) :=
  szClauseS_w l hl (fun c hc => szwClause_calls c (h c hc)) m h0 h1 H
-- 22 loop.example/prologserver/laws.markClauseS params 2 ntmps 53
-- loop head live: [0,1,5]
def ac22 : Cd := .seq (.region [⟨(some 4),.mv (.k (.c (.d (.int .i64 0)))),none⟩] [4])
 (.seq (.seq (.region [⟨(some 5),.mv (.k (.c (.d (.int .i64 0)))),none⟩] [])
 (.block 0 (.loop (.seq (.seq (.region [⟨(some 6),.mv (.t 5),none⟩,
 ⟨(some 7),.mv (.t 0),none⟩,
 ⟨(some 8),.len 1 (.t 7),none⟩,
 ⟨(some 9),.bin .lss (.t 6) (.t 8),none⟩] [6,7,8])
 (.cond (.t 9)
 (.skip)
 (.exit 0)))
 (.seq (.block 1 (.seq (.region [⟨(some 12),.mv (.t 0),none⟩,
 ⟨(some 13),.mv (.t 5),none⟩,
 ⟨(some 14),.mv (.t 1),none⟩,
 ⟨(some 15),.indexAddr 5 (.t 12) (.t 13),none⟩,
 ⟨(some 16),.fieldAddr 0 (.t 15),none⟩,
 ⟨(some 17),.fieldAddr 0 (.t 16),none⟩,
 ⟨none,.store 1 (.t 17) (.t 14),none⟩] [9,12,13,14,15,16,17])
 (.seq (.region [⟨(some 18),.mv (.t 1),none⟩,
 ⟨(some 19),.bin .add (.t 18) (.k (.c (.d (.int .i64 1)))),none⟩,
 ⟨(some 1),.mv (.t 19),none⟩] [18,19])
 (.seq (.region [⟨(some 20),.mv (.t 0),none⟩,
 ⟨(some 21),.mv (.t 5),none⟩,
 ⟨(some 22),.mv (.t 1),none⟩,
 ⟨(some 23),.indexAddr 5 (.t 20) (.t 21),none⟩,
 ⟨(some 24),.fieldAddr 0 (.t 23),none⟩,
 ⟨(some 25),.fieldAddr 1 (.t 24),none⟩,
 ⟨none,.store 1 (.t 25) (.t 22),none⟩] [20,21,22,23,24,25])
 (.seq (.region [⟨(some 26),.mv (.t 1),none⟩,
 ⟨(some 27),.bin .add (.t 26) (.k (.c (.d (.int .i64 1)))),none⟩,
 ⟨(some 1),.mv (.t 27),none⟩] [26,27])
 (.seq (.region [⟨(some 28),.mv (.t 0),none⟩,
 ⟨(some 29),.mv (.t 5),none⟩,
 ⟨(some 30),.mv (.t 1),none⟩,
 ⟨(some 31),.qcall 43 [(.t 30)],none⟩,
 ⟨(some 32),.indexAddr 5 (.t 28) (.t 29),none⟩,
 ⟨(some 33),.fieldAddr 0 (.t 32),none⟩,
 ⟨(some 34),.fieldAddr 2 (.t 33),none⟩,
 ⟨none,.store 1 (.t 34) (.t 31),none⟩] [28,29,30,31,32,33,34])
 (.seq (.region [⟨(some 35),.mv (.t 1),none⟩,
 ⟨(some 36),.bin .add (.t 35) (.k (.c (.d (.int .i64 1)))),none⟩,
 ⟨(some 1),.mv (.t 36),none⟩] [35,36])
 (.seq (.region [⟨(some 37),.mv (.t 0),none⟩,
 ⟨(some 38),.mv (.t 5),none⟩,
 ⟨(some 39),.indexAddr 5 (.t 37) (.t 38),none⟩,
 ⟨(some 40),.fieldAddr 0 (.t 39),none⟩,
 ⟨(some 41),.fieldAddr 3 (.t 40),none⟩,
 ⟨(some 42),.load none (.t 41),none⟩,
 ⟨(some 43),.mv (.t 1),none⟩,
 ⟨(some 44),.call false 17 [(.t 42),(.t 43)],none⟩,
 ⟨(some 1),.mv (.t 44),none⟩] [37,38,39,40,41,42,43,44])
 (.region [⟨(some 45),.mv (.t 0),none⟩,
 ⟨(some 46),.mv (.t 5),none⟩,
 ⟨(some 47),.indexAddr 5 (.t 45) (.t 46),none⟩,
 ⟨(some 48),.fieldAddr 4 (.t 47),none⟩,
 ⟨(some 49),.load none (.t 48),none⟩,
 ⟨(some 50),.mv (.t 1),none⟩,
 ⟨(some 51),.call false 17 [(.t 49),(.t 50)],none⟩,
 ⟨(some 1),.mv (.t 51),none⟩] [45,46,47,48,49,50,51])))))))))
 (.region [⟨(some 10),.mv (.t 5),none⟩,
 ⟨(some 11),.bin .add (.t 10) (.k (.c (.d (.int .i64 1)))),none⟩,
 ⟨(some 5),.mv (.t 11),none⟩] [10,11]))))))
 (.seq (.region [⟨(some 52),.mv (.t 1),none⟩,
 ⟨(some 4),.mv (.t 52),none⟩] [1,52])
 (.ret)))
theorem ac22_ok : cFunc Try.prog [1000043] [(0,[4],[]),(1,[],[]),(2,[6,7,8],[]),(4,[9,12,13,14,15,16,17],[]),(5,[18,19],[]),(6,[20,21,22,23,24,25],[]),(7,[26,27],[]),(8,[28,29,30,31,32,33,34],[]),(9,[35,36],[]),(10,[37,38,39,40,41,42,43,44],[]),(11,[45,46,47,48,49,50,51],[]),(3,[10,11],[]),(12,[1,52],[])] Try.f22 = some (ac22,[.tmp 4],53) := by kernel_rfl
/-- a clause that bears marks -/
def mCl (k : Int) (c : Cl) : Cl := ⟨mTm k c.head, mTms (k + 3 + 3 * c.head.sub) c.body⟩
def mCls (k : Int) : List Cl → List Cl
  | [] => []
  | c :: l => mCl k c :: mCls (k + 3 + 3 * c.sub) l
theorem mCls_len : ∀ (k : Int) (l : List Cl), (mCls k l).length = l.length
  | k, [] => rfl
  | k, c :: l => by rw [mCls, List.length_cons, mCls_len, List.length_cons]
theorem mCls_get : ∀ (k : Int) (l : List Cl) (i : Nat) (h : i < l.length), (mCls k l)[i]? = some (mCl (k + 3 * wsum Cl.sub (l.take i)) l[i])
  | k, c :: l, 0, h => by rw [mCls]; simp [wsum]
  | k, c :: l, i + 1, h => by
    rw [mCls, List.getElem?_cons_succ, mCls_get _ l i (by simpa using h)]
    simp only [List.take_succ_cons, wsum, List.getElem_cons_succ]
    congr 2
    simp only [Int.natCast_add]
    omega
theorem mCl_row (k : Int) (c : Cl) : (mCl k c).row = [.int .i64 k, .int .i64 (k + 1), .str (mText (k + 1 + 1)), .sl ((mTms (k + 1 + 1 + 1) c.head.kids).map Tm.row), .sl ((mTms (k + 1 + 1 + 1 + 3 * c.head.sub) c.body).map Tm.row)] := by
  have h := mTm_row k c.head
  rw [row_eq] at h
  simp only [List.cons.injEq, D.int.injEq, D.str.injEq, D.sl.injEq, and_true, true_and] at h
  simp only [mCl, Cl.row]
  rw [h.1, h.2.1, h.2.2.1, h.2.2.2, show k + 1 + 1 = k + 2 by omega, show k + 2 + 1 = k + 3 by omega]
theorem cl_rows (l : List Cl) : ∀ r ∈ l.map Cl.row, r.length = 5 := fun r hr => by obtain ⟨t, _, rfl⟩ := List.mem_map.1 hr; rfl
theorem cl_nsl (l : List Cl) : ∀ r ∈ l.map Cl.row, nsl r = 2 := fun r hr => by obtain ⟨t, _, rfl⟩ := List.mem_map.1 hr; rfl
theorem markClauseS_calls (l : List Cl) (h : FitsC l) (k : Int) (h0 : 0 ≤ k) (h1 : k + 3 * wsum Cl.sub l ≤ 500000000000000) (kv : Value) :
    ACalls Try.prog 22 [.c (.d (.v kv)), .c (.d (.int .i64 k))] [.tree kv (l.map Cl.row)]
    (fun r H' => H' = [.tree kv ((mCls k l).map Cl.row)] ∧ r = .c (.d (.int .i64 (k + 3 * wsum Cl.sub l)))) := by
  have hl := h.1
  refine (acalls_tree (f := 22) (pre := []) (post := [.c (.d (.int .i64 k))]) (rows := l.map Cl.row) (Q := fun r rows' => r = .c (.d (.int .i64 (k + 3 * wsum Cl.sub l))) ∧ rows' = (mCls k l).map Cl.row) 5 (cl_rows l) rfl rfl (fun he => ?_) (fun hne srows trees hst hlens => ?_) kv).mono fun r H' ⟨rows', h1, _, h2, h3⟩ => ⟨by rw [h1, h3], h2⟩
  · obtain rfl : l = [] := by simpa using he
    have hk0 : inR .i64 k := small_i64 (by simp [wsum] at h1; omega) (by simp [wsum] at h1; omega)
    have hz0 : inR .i64 0 := small_i64 (by omega) (by omega)
    refine acalls Try.func22 (by kernel_rfl) ac22_ok fun hf => ?_
    simp -implicitDefEqProofs [ac22, go_sem, -List.set_cons_succ, -List.set_cons_zero]
    refine loop_set (σ := Unit) (fun _ => [(5, .c (.d (.int .i64 0)))]) (fun _ => []) (fun _ => []) (fun _ => True) (fun _ => 0) () rfl trivial ?_
    intro _ _
    simp -implicitDefEqProofs [setAll, hz0, mCls, wsum, A.portT, A.portB, C.portB, D.leaf, go_sem, -List.set_cons_succ, -List.set_cons_zero]
  · obtain ⟨vss, hV, hc, ht⟩ := rows_unstrip (m := 2) _ _ _ (cl_nsl l) hst
    obtain rfl := flatten_uniq hc (by rw [hlens, cut_lens hV.1])
    subst ht
    have hvl : vss.length = l.length := by rw [hV.1]; simp
    obtain ⟨kk, hkk⟩ : ∃ kk : Nat → Int, ∀ j, kk j = k + 3 * (wsum Cl.sub (l.take j) : Int) := ⟨_, fun _ => rfl⟩
    obtain ⟨fr, hfr⟩ : ∃ fr : Nat → List D, ∀ j, fr j = cutR (mCl (kk j) (l.getD j ⟨default, []⟩)).row (vss.getD j []) := ⟨_, fun _ => rfl⟩
    obtain ⟨ft, hft⟩ : ∃ ft : Nat → Heap, ∀ j, ft j = trs (mCl (kk j) (l.getD j ⟨default, []⟩)).row (vss.getD j []) := ⟨_, fun _ => rfl⟩
    obtain ⟨R, hR⟩ : ∃ R, R = List.zipWith cutR (l.map Cl.row) vss := ⟨_, rfl⟩
    obtain ⟨T, hT⟩ : ∃ T, T = List.zipWith trs (l.map Cl.row) vss := ⟨_, rfl⟩
    have hRl : R.length = l.length := by simp [hR, hvl]
    have hTl : T.length = l.length := by simp [hT, hvl]
    have hTm : ∀ p ∈ T, p.length = 2 := by rw [hT]; exact zipt_lens hV
    have hTt : ∀ p ∈ T, p.all Ob.isTreeB = true := by rw [hT]; exact zipt_trees _ _
    have hRi : ∀ i (hi : i < l.length), ∃ v w, vss[i]? = some [v, w] ∧ R[i]? = some [.int .i64 l[i].head.k, .int .i64 l[i].head.n, .str l[i].head.s, .v v, .v w] ∧ T[i]? = some [.tree v (l[i].head.kids.map Tm.row), .tree w (l[i].body.map Tm.row)] := fun i hi => by
      have h1 : vss[i]? = some (vss[i]'(by omega)) := List.getElem?_eq_getElem _
      have h2 := hV.2.2 _ (List.mem_of_getElem? h1)
      match hvi : vss[i]'(by omega), h2 with
      | [v, w], _ =>
        rw [hvi] at h1
        refine ⟨v, w, h1, ?_, ?_⟩
        · rw [hR, List.getElem?_zipWith, h1]; simp [hi]; rfl
        · rw [hT, List.getElem?_zipWith, h1]; simp [hi]; rfl
    have hmem : ∀ i (hi : i ≤ l.length), ∀ p ∈ mixed ft T i, p.length = 2 := fun i hi p hp => by
      rcases List.mem_append.1 hp with hp | hp
      · obtain ⟨j, hj, rfl⟩ := List.mem_map.1 hp
        have hjl : j < l.length := by simp at hj; omega
        obtain ⟨v, w, e1, _, _⟩ := hRi j hjl
        rw [hft, trs_len _ _ (by simp [List.getD, e1, Cl.row, nsl])]
        rfl
      · exact hTm p (List.mem_of_mem_drop hp)
    have hmt : ∀ i, (mixed ft T i).flatten.all Ob.isTreeB = true := fun i => flat_trees fun p hp => by
      rcases List.mem_append.1 hp with hp | hp
      · obtain ⟨j, hj, rfl⟩ := List.mem_map.1 hp
        rw [hft]; exact trs_trees _ _
      · exact hTt p (List.mem_of_mem_drop hp)
    rw [← hR, ← hT]
    refine acalls Try.func22 (by kernel_rfl) ac22_ok fun hf => ?_
    have hli : inR .i64 (l.length : Int) := small_i64 (by omega) (by omega)
    simp -implicitDefEqProofs [ac22, hli, go_sem, -List.set_cons_succ, -List.set_cons_zero]
    refine loop_set (σ := Nat) (fun i => [(5, .c (.d (.int .i64 i))), (1, .c (.d (.int .i64 (kk i))))]) (fun i => .rows (mixed fr R i) :: (mixed ft T i).flatten) (fun _ => []) (fun i => i ≤ l.length) (fun i => l.length - i) 0 (by simp [setAll, mixed_zero, hkk, wsum]) (Nat.zero_le _) ?_
    intro i hi
    obtain ⟨TT, hTT⟩ : ∃ TT, TT = (mixed ft T i).flatten := ⟨_, rfl⟩
    have hTa : TT.all Ob.isTreeB = true := by rw [hTT]; exact hmt i
    rw [← hTT]
    simp -implicitDefEqProofs [setAll, hli, go_sem, -List.set_cons_succ, -List.set_cons_zero]
    refine ⟨fun hlt => ⟨hlt, ?_⟩, fun hge => ?_⟩
    · have hs := wsum_take_sub Cl.sub l hlt
      have hki := hkk i
      obtain ⟨v, w, hv, hRv, hTv⟩ := hRi i hlt
      have hc := h.2 l[i] (List.getElem_mem hlt)
      have hcs : l[i].sub = l[i].head.sub + Tm.cnt l[i].body := rfl
      have hRlt : i < R.length := by omega
      have hTlt : i < T.length := by omega
      have hlm : i < (mixed fr R i).length := by rw [mixed_len _ _ (by omega)]; exact hRlt
      have hgs : ∀ r, ((mixed fr R i).set i r)[i]? = some r := fun r => List.getElem?_set_self hlm
      have hget : (mixed fr R i)[i]? = some [.int .i64 l[i].head.k, .int .i64 l[i].head.n, .str l[i].head.s, .v v, .v w] := by rw [mixed_get _ _ hRlt, ← List.getElem?_eq_getElem hRlt, hRv]
      have hTg : (mixed ft T i)[i]? = some [.tree v (l[i].head.kids.map Tm.row), .tree w (l[i].body.map Tm.row)] := by rw [mixed_get _ _ hTlt, ← List.getElem?_eq_getElem hTlt, hTv]
      have hg0 : TT[i * 2]? = some (.tree v (l[i].head.kids.map Tm.row)) := by rw [hTT]; exact fl_get (j := 0) (hmem i hi) hTg (by omega)
      have hg1 : TT[i * 2 + 1]? = some (.tree w (l[i].body.map Tm.row)) := by rw [hTT]; exact fl_get (j := 1) (hmem i hi) hTg (by omega)
      have i0 : inR .i64 (kk i) := small_i64 (by omega) (by omega)
      have i1 : inR .i64 (kk i + 1) := small_i64 (by omega) (by omega)
      have i2 : inR .i64 (kk i + 1 + 1) := small_i64 (by omega) (by omega)
      have i3 : inR .i64 (kk i + 1 + 1 + 1) := small_i64 (by omega) (by omega)
      have hadd : inR .i64 ((i : Int) + 1) := small_i64 (by omega) (by omega)
      have hfx : ∀ rs (T' : Heap), T'.all Ob.isTreeB = true → Obs.fits ((Ob.rows rs :: T').length) 0 (Ob.rows rs :: T') := fun rs T' h => ⟨trivial, trees_fits h⟩
      simp -implicitDefEqProofs [hget, hgs, hlt, i0, i1, i2, i3, hadd, go_sem, -List.set_cons_succ, -List.set_cons_zero]
      refine ⟨hfx _ _ hTa, hfx _ _ hTa, qcall_pure (markText_calls _ (by omega)) (hfx _ _ hTa) rfl ?_⟩
      simp -implicitDefEqProofs [hget, hgs, hlt, i0, i1, i2, i3, hadd, go_sem, -List.set_cons_succ, -List.set_cons_zero]
      have hca : ∀ (a : Ob) (l : Heap) (n : Nat) (b : Ob), (a :: l).set (n + 1) b = a :: l.set n b := fun _ _ _ _ => rfl
      have hTb : (TT.set (i * 2) (.tree v ((mTms (kk i + 1 + 1 + 1) l[i].head.kids).map Tm.row))).all Ob.isTreeB = true := by
        rw [List.all_eq_true] at hTa ⊢
        intro o ho
        rcases List.mem_or_eq_of_mem_set ho with ho | rfl
        · exact hTa o ho
        · rfl
      have hg2 : (TT.set (i * 2) (.tree v ((mTms (kk i + 1 + 1 + 1) l[i].head.kids).map Tm.row)))[i * 2 + 1]? = some (.tree w (l[i].body.map Tm.row)) := by rw [List.getElem?_set_ne (by omega)]; exact hg1
      refine ⟨hfx _ _ hTa, call_ext (J := [i * 2 + 1]) (markT_calls l[i].head hc.head (kk i + 1 + 1 + 1) (by omega) (by omega) v) (fun r H' ⟨h1, h2⟩ => by subst h1; subst h2; exact ⟨⟨rfl, rfl⟩, rfl⟩) (by simp) (.cons (.c .d) (.cons (.c .d) .nil)) (by simp) (by simp [hg0]) rfl (hfx _ _ hTa) ?_⟩
      rintro _ _ ⟨rfl, rfl⟩
      simp -implicitDefEqProofs [putAll, hca, hadd, hgs, go_sem, -List.set_cons_succ, -List.set_cons_zero]
      refine ⟨hlt, ?_⟩
      refine call_ext (loc := []) (J := [i * 2 + 1 + 1]) (markTermS_calls l[i].body hc.len hc.body (kk i + 1 + 1 + 1 + 3 * l[i].head.sub) (by omega) (by omega) w) (fun r H' ⟨h1, h2⟩ => by subst h1; subst h2; exact ⟨⟨rfl, rfl⟩, rfl⟩) (by simp) (.cons (.c .d) (.cons (.c .d) .nil)) (by simp) (by simp [hg2]) rfl (hfx _ _ hTb) ?_
      rintro _ _ ⟨rfl, rfl⟩
      simp -implicitDefEqProofs [putAll, hca, hadd, go_sem, -List.set_cons_succ, -List.set_cons_zero]
      have hk1 : kk (i + 1) = kk i + 1 + 1 + 1 + 3 * (l[i].head.sub : Int) + 3 * (Tm.cnt l[i].body : Int) := by
        have := wsum_take_succ Cl.sub l hlt
        rw [hkk, hkk]; omega
      have hvd : vss.getD i [] = [v, w] := by simp [List.getD, hv]
      have hld : l.getD i ⟨default, []⟩ = l[i] := by simp [hlt]
      have e1 := mixed_set fr R hRlt
      have e2 := mixed_set ft T hTlt
      rw [hfr, hld, hvd, mCl_row] at e1
      rw [hft, hld, hvd, mCl_row] at e2
      have hl2 := hmem i hi
      have s1 := fl_set (j := 0) hl2 hTg (by omega) (.tree v ((mTms (kk i + 1 + 1 + 1) l[i].head.kids).map Tm.row))
      have hTm1 : i < (mixed ft T i).length := by rw [mixed_len _ _ (by omega)]; exact hTlt
      have s2 := fl_set (L := (mixed ft T i).set i [.tree v ((mTms (kk i + 1 + 1 + 1) l[i].head.kids).map Tm.row), .tree w (l[i].body.map Tm.row)]) (m := 2) (i := i) (j := 1) (fun p hp => by
        rcases List.mem_or_eq_of_mem_set hp with hp | rfl
        · exact hl2 p hp
        · rfl) (List.getElem?_set_self hTm1) (by omega) (.tree w ((mTms (kk i + 1 + 1 + 1 + 3 * l[i].head.sub) l[i].body).map Tm.row))
      have s3 : (TT.set (i * 2) (.tree v ((mTms (kk i + 1 + 1 + 1) l[i].head.kids).map Tm.row))).set (i * 2 + 1) (.tree w ((mTms (kk i + 1 + 1 + 1 + 3 * l[i].head.sub) l[i].body).map Tm.row)) = (mixed ft T (i + 1)).flatten := by
        rw [← e2, hTT]
        refine (congrArg (fun x => List.set x (i * 2 + 1) _) s1).trans (s2.trans ?_)
        rw [List.set_set]
        rfl
      refine loop_back (i + 1) ?_ hlt (by show l.length - (i + 1) < l.length - i; omega)
      simp only [hk1, ← e1, ← s3]
      simp [setAll, cutR]
    · obtain rfl : i = l.length := by omega
      have hml := mCls_len k l
      have hV' : Vals 2 ((mCls k l).map Cl.row) vss := ⟨by simp [hml, hvl], cl_nsl _, hV.2.2⟩
      have e1 : mixed fr R l.length = List.zipWith cutR ((mCls k l).map Cl.row) vss := by
        refine List.ext_getElem? fun j => ?_
        rw [mixed_get' _ _ (by omega)]
        by_cases hj : j < l.length
        · obtain ⟨v, w, hv, _, _⟩ := hRi j hj
          rw [if_pos hj, hfr, List.getElem?_zipWith, List.getElem?_map, mCls_get k l j hj, hv, hkk]; simp [hj, List.getD, hv]
        · rw [if_neg hj, List.getElem?_eq_none (by omega), List.getElem?_eq_none (by simp [hml]; omega)]
      have e2 : mixed ft T l.length = List.zipWith trs ((mCls k l).map Cl.row) vss := by
        refine List.ext_getElem? fun j => ?_
        rw [mixed_get' _ _ (by omega)]
        by_cases hj : j < l.length
        · obtain ⟨v, w, hv, _, _⟩ := hRi j hj
          rw [if_pos hj, hft, List.getElem?_zipWith, List.getElem?_map, mCls_get k l j hj, hv, hkk]; simp [hj, List.getD, hv]
        · rw [if_neg hj, List.getElem?_eq_none (by omega), List.getElem?_eq_none (by simp [hml]; omega)]
      rw [e1, hTT, e2]
      refine ⟨_, _, _, strip_rows _ _ hV', by simp [hml], cl_rows _, cut_lens hV'.1, ?_, ⟨rfl, rfl⟩, rfl, by rw [hkk, List.take_length], rfl⟩
      rw [List.length_flatten, sum_len (zipt_lens hV'), sum_len hTm, hTl]
      simp [hml, hvl]
end Go.Proofs.Ytoipdmomgjdnaaa
