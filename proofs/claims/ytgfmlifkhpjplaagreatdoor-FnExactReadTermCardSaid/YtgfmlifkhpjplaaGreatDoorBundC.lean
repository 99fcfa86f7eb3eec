/-
  Contracts of functions that the law reaches, and plain lemmas: several texts in one.
  Conditions: none.
-/
import Derived.Test.YtgfmlifkhpjplaaGreatDoorBundB
import Derived.Test.YtgfmlifkhpjplaaGreatDoorBundA
import Derived.Test.YtgfmlifkhpjplaaGreatDoorAbsN
open Go Go.AM Go.Proofs
attribute [local go_sem] kw ew sw tw a_ b_ c_ A.ok A.val d_ e_ f_ g_ h_ i_ j_ k_ l_ m_ unA unD n_ AOp.total o_ p_ q_ r_ s_ t_ u_ v_ A.thaw C.thaw A.fits As.fits C.fits evs oks w_ A.pure C.pure A.re C.re x_ y_ cut A.cells C.rows? z_ A_ B_ C_ a0_ b0_ D_ Ob.re Cs.fits E_ F_ G_ H_ I_ J_ K_ L_ M_ N_ O_ C.toD P_ Q_ R_ S_ T_ Obs.fits U_ eqD V_ W_ X_ Y_ Z_
/-
  The program's reader hands out terms that stand in arrays of their own: lists.
  Conditions: none.
-/
open Go Go.AM Go.Proofs
namespace Go.Proofs.YtgfmlifkhpjplaaGreatDoor
open Go.ChangeShapes Go.WideShapes Go.ChangeAt Go.RowKit
set_option linter.unusedVariables false
set_option linter.unusedSimpArgs false
set_option maxRecDepth 100000
namespace Own
-- 117 (*loop.example/prologserver/impl.reader).list params 2 ntmps 52
-- loop head live: [0,1,4,5,6]
def ac117 : Cd := .seq (.region [⟨(some 4),.alloc [(.d (.int .i64 0)),(.d (.int .i64 0)),(.d (.str [])),(.full [])],none⟩] [])
 (.seq (.region [⟨(some 5),.mv (.k (.c (.full []))),none⟩] [])
 (.seq (.seq (.region [⟨(some 6),.mv (.k (.c (.d (.bool true)))),none⟩] [])
 (.block 0 (.loop (.seq (.seq (.region [⟨(some 8),.mv (.t 6),none⟩] [6])
 (.cond (.t 8)
 (.skip)
 (.exit 0)))
 (.block 1 (.seq (.region [⟨(some 9),.mv (.t 5),none⟩,
 ⟨(some 10),.mv (.t 0),none⟩,
 ⟨(some 11),.mv (.t 1),none⟩,
 ⟨(some 12),.bin .add (.t 11) (.k (.c (.d (.int .i64 1)))),none⟩,
 ⟨(some 13),.mv (.t 5),none⟩,
 ⟨(some 14),.len 1 (.t 13),none⟩,
 ⟨(some 15),.bin .add (.t 12) (.t 14),none⟩,
 ⟨(some 16),.call false 120 [(.t 10),(.t 15)],none⟩,
 ⟨(some 17),.buildSlice 4 1 [(.int .i64 0),(.int .i64 0),(.str []),(.sl [])] [(0,(.t 16))],none⟩,
 ⟨(some 18),.append false 4 (.t 9) (.t 17),none⟩,
 ⟨(some 5),.mv (.t 18),none⟩] [8,9,10,11,12,13,14,15,16,17,18])
 (.seq (.region [⟨(some 19),.mv (.t 0),none⟩,
 ⟨(some 20),.call false 111 [(.t 19)],none⟩,
 ⟨(some 21),.bin .eql (.t 20) (.k (.c (.d (.int .u8 44)))),none⟩,
 ⟨(some 6),.mv (.t 21),none⟩] [19,20,21])
 (.seq (.region [⟨(some 22),.mv (.t 6),none⟩] [])
 (.cond (.t 22)
 (.region [⟨(some 23),.mv (.t 0),none⟩,
 ⟨(some 24),.nilCheck (.t 23),none⟩,
 ⟨(some 25),.fieldAddr 1 (.t 24),none⟩,
 ⟨(some 26),.load none (.t 25),none⟩,
 ⟨(some 27),.bin .add (.t 26) (.k (.c (.d (.int .i64 1)))),none⟩,
 ⟨(some 28),.nilCheck (.t 23),none⟩,
 ⟨(some 29),.fieldAddr 1 (.t 28),none⟩,
 ⟨none,.store 1 (.t 29) (.t 27),none⟩] [22,23,24,25,26,27,28,29])
 (.skip))))))))))
 (.seq (.region [⟨(some 30),.call false 118 [(.k (.c (.d (.str [91,93]))))],none⟩,
 ⟨(some 7),.alloc [(.d (.int .i64 0)),(.d (.int .i64 0)),(.d (.str [])),(.full [])],none⟩,
 ⟨none,.store 4 (.t 7) (.t 30),none⟩] [30])
 (.seq (.seq (.region [⟨(some 31),.mv (.t 0),none⟩,
 ⟨(some 32),.call false 111 [(.t 31)],none⟩,
 ⟨(some 33),.bin .eql (.t 32) (.k (.c (.d (.int .u8 124)))),none⟩] [31,32])
 (.cond (.t 33)
 (.seq (.region [⟨(some 34),.mv (.t 0),none⟩,
 ⟨(some 35),.nilCheck (.t 34),none⟩,
 ⟨(some 36),.fieldAddr 1 (.t 35),none⟩,
 ⟨(some 37),.load none (.t 36),none⟩,
 ⟨(some 38),.bin .add (.t 37) (.k (.c (.d (.int .i64 1)))),none⟩,
 ⟨(some 39),.nilCheck (.t 34),none⟩,
 ⟨(some 40),.fieldAddr 1 (.t 39),none⟩,
 ⟨none,.store 1 (.t 40) (.t 38),none⟩] [33,34,35,36,37,38,39,40])
 (.region [⟨(some 41),.mv (.t 0),none⟩,
 ⟨(some 42),.mv (.t 1),none⟩,
 ⟨(some 43),.mv (.t 5),none⟩,
 ⟨(some 44),.len 1 (.t 43),none⟩,
 ⟨(some 45),.bin .add (.t 42) (.t 44),none⟩,
 ⟨(some 46),.call false 120 [(.t 41),(.t 45)],none⟩,
 ⟨none,.store 4 (.t 7) (.t 46),none⟩] [1,41,42,43,44,45,46]))
 (.skip)))
 (.seq (.region [⟨(some 47),.mv (.t 0),none⟩,
 ⟨(some 48),.call false 115 [(.t 47),(.k (.c (.d (.int .u8 93))))],none⟩] [0,1,33,47,48])
 (.seq (.region [⟨(some 49),.mv (.t 5),none⟩,
 ⟨(some 50),.load (some 4) (.t 7),none⟩,
 ⟨(some 51),.call false 132 [(.t 49),(.t 50)],none⟩,
 ⟨none,.store 4 (.t 4) (.t 51),none⟩] [5,7,49,50,51])
 (.ret)))))))
theorem ac117_ok : cFunc Tryz.prog [] [(0,[],[]),(1,[],[]),(2,[],[]),(3,[6],[]),(4,[8,9,10,11,12,13,14,15,16,17,18],[]),(5,[19,20,21],[]),(6,[],[]),(7,[22,23,24,25,26,27,28,29],[]),(8,[30],[]),(9,[31,32],[]),(10,[33,34,35,36,37,38,39,40],[]),(11,[1,41,42,43,44,45,46],[]),(12,[0,1,33,47,48],[]),(13,[5,7,49,50,51],[])] Tryz.f117 = some (ac117,[.cell 4 (some 4)],52) := by kernel_rfl
-- 118 loop.example/prologserver/impl.atom params 1 ntmps 5
def ac118 : Cd := .seq (.region [⟨(some 2),.alloc [(.d (.int .i64 0)),(.d (.int .i64 0)),(.d (.str [])),(.full [])],none⟩] [])
 (.seq (.region [⟨(some 3),.mv (.t 0),none⟩,
 ⟨(some 4),.build [(.d (.int .i64 0)),(.d (.int .i64 0)),(.d (.str [])),(.full [])] [(0,1,(.k (.c (.d (.int .i64 3))))),(2,1,(.t 3))],none⟩,
 ⟨none,.store 4 (.t 2) (.t 4),none⟩] [0,3,4])
 (.ret))
theorem ac118_ok : cFunc Tryz.prog [] [(0,[],[]),(1,[0,3,4],[])] Tryz.f118 = some (ac118,[.cell 2 (some 4)],5) := by kernel_rfl
end Own
theorem HandsTm.srow {t : Tm} {r : A} {H : Heap} (h : HandsTm t r H) : ∃ x, r = .agg ((YtgfmlifkhpjplaaGreatDoor.srow t x).map .d) ∧ H = [ktree t x] := h
theorem atomOwn_calls (n : List UInt8) : ACalls Tryz.prog 118 [.c (.d (.str n))] [] (HandsTm (.mk 3 0 n [])) := by
  refine acallsG Tryz.func118 (by kernel_rfl) Own.ac118_ok fun hf => ?_
  simp -implicitDefEqProofs [Own.ac118, go_sem, -List.set_cons_succ, -List.set_cons_zero]
  exact finG_ret _ ⟨trivial, trivial⟩ ⟨rfl, fun i o o' h => by simp at h⟩ rfl fun kv => ⟨_, _, _, [], [], .one (.agg (.cons (.leaf rfl) (.cons (.leaf rfl) (.cons (.leaf rfl) (.cons .full .nil))))), rfl, rfl, by simp, ⟨_, rfl, rfl⟩⟩
theorem Regroup.nil (l : Heap) : Regroup l [] := ⟨rfl, fun w ι hs => ⟨[], ⟨rfl, fun i o k h => by simp at h, fun i j k k' b h => by simp at h, fun k b h => by simp at h⟩, fun k b h => by simp at h⟩⟩
def sq (q : Tm × Value) : List D := srow q.1 q.2
def OutF (out : List (Tm × Value)) : Prop := ∀ q ∈ out, q.1.fits
def kq1 (q : Tm × Value) : Ob := ktree q.1 q.2
theorem kq_all (out : List (Tm × Value)) : (out.map kq1).all Ob.isTreeB = true := by
  rw [List.all_eq_true]
  intro o ho
  obtain ⟨q, _, rfl⟩ := List.mem_map.1 ho
  rfl
theorem all_filter {l : Heap} (h : l.all Ob.isTreeB = true) : l.filter Ob.isTreeB = l := by
  rw [List.filter_eq_self]
  exact fun o ho => List.all_eq_true.1 h o ho
theorem chain_regroup2 (t : Tm) (x : Value) (out : List (Tm × Value)) (F : Heap) (v : List D) (h : ChF (out.map sq) (srow t x) F v) :
    ∃ y, v = srow (chainT (out.map Prod.fst) t) y ∧ Regroup (out.map kq1 ++ (ktree t x :: F)) [ktree (chainT (out.map Prod.fst) t) y] := by
  have e1 : List.zipWith srow (out.map Prod.fst) (out.map Prod.snd) = out.map sq := by rw [List.zipWith_map, List.zipWith_self]; rfl
  have e2 : List.zipWith ktree (out.map Prod.fst) (out.map Prod.snd) = out.map kq1 := by rw [List.zipWith_map, List.zipWith_self]; rfl
  have := chain_regroup t x (out.map Prod.fst) (out.map Prod.snd) (by simp) F v (by rw [e1]; exact h)
  rwa [e2] at this
/-- .. where a tree more stands in front of the tail -/
theorem chain_regroup3 (u : Tm) (z : Value) (t : Tm) (x : Value) (out : List (Tm × Value)) (F : Heap) (v : List D) (h : ChF (out.map sq) (srow t x) F v) :
    ∃ y, v = srow (chainT (out.map Prod.fst) t) y ∧ Regroup (out.map kq1 ++ (ktree u z :: ktree t x :: F)) [ktree (chainT (out.map Prod.fst) t) y] := by
  obtain ⟨y, h1, h2⟩ := chain_regroup2 t x out F v h
  refine ⟨y, h1, Regroup.trans ?_ h2⟩
  have hF : (ktree t x :: F).all Ob.isTreeB = true := by rw [List.all_cons, (h.leaf (leafR_srow t x)).2]; rfl
  refine Regroup.app (kq_all out) (by rw [List.all_cons, hF]; rfl) (.refl (kq_all out)) ?_
  exact Regroup.app (a := [ktree u z]) (a' := []) rfl hF (YtgfmlifkhpjplaaGreatDoor.Regroup.nil _) (.refl hF)
/-- the end of a function whose trees are grouped anew -/
theorem fin_group {H : Heap} {rs : List Rv} {Q : A → Heap → Prop} {sl : List A} {ext l2 : Heap} {c0 : Ob} {t : Tm} {y : Value} (hg : Regroup (l2.filter Ob.isTreeB) [ktree t y]) (hsl : As.lo ext.length 1 sl) (hc : c0.lo ext.length 1)
    (hok : r_ ⟨sl, ext, [c0, ktree t y]⟩ rs) (hgo : Goes H ext) (hr : resRaw ⟨sl, ext, [c0, ktree t y]⟩ rs = some (.agg ((srow t y).map .d))) (hq : Q (.agg ((srow t y).map .d)) (ext ++ [ktree t y])) : FinG H rs Q .ret ⟨sl, ext, c0 :: l2⟩ :=
  ⟨⟨sl, ext, [c0] ++ [ktree t y]⟩, St.le_regroup (l1 := [c0]) hg hsl ⟨hc, trivial⟩, hok, hgo, _, hr, fun kv => ⟨_, [], [], [ktree t y], [1], .one (.agg (.cons (.leaf rfl) (.cons (.leaf rfl) (.cons (.leaf rfl) (.cons (.leaf rfl) .nil))))), by simp, rfl, by simp, hq⟩⟩
theorem set_cell (c0 g : Ob) (out : List (Tm × Value)) (x y z : Ob) (L : Heap) : (c0 :: g :: (out.map kq1 ++ x :: y :: L)).set (out.length + 1 + 1 + 1) z = c0 :: g :: (out.map kq1 ++ x :: z :: L) := by
  have e : out.length + 1 + 1 + 1 = (out.length + 1) + 1 + 1 := rfl
  rw [e, List.set_cons_succ, List.set_cons_succ, List.set_append_right _ _ (by simp), show out.length + 1 - (out.map kq1).length = 1 by simp]
  rfl
theorem get_cell (c0 g : Ob) (out : List (Tm × Value)) (x y : Ob) (L : Heap) : (c0 :: g :: (out.map kq1 ++ x :: y :: L))[out.length + 1 + 1 + 1]? = some y := by
  rw [List.getElem?_cons_succ, List.getElem?_cons_succ, List.getElem?_append_right (by simp), show out.length + 1 - (out.map kq1).length = 1 by simp]
  rfl
theorem kq1_re {n : Nat} : Ob.re n ∘ kq1 = kq1 := rfl
/-- a closing byte is taken, or missed -/
theorem skip_rqo {H : Heap} {i a : Nat} {s : List UInt8} {t : Tm} {x : Value} {c : UInt8} {r : Rs} (h : (if sgn s a c then some (Rs.ok [t] (a + 1)) else some (Rs.bad a)) = some r) (ht : t.fits) (ha : a ≤ s.length) (hc : c ≠ 0 := by decide) :
    RQo H i s r (.agg ((srow t x).map .d)) (ro H i s (if nxt s a (-1) = c then a + 1 else a) (if nxt s a (-1) = c then -1 else if (-1 : Int) < 0 then (a : Int) else -1) ++ [ktree t x]) := by
  have e := nxt_sgn s a c hc
  cases hsg : sgn s a c with
  | true =>
    rw [hsg] at h e
    cases h
    rw [if_pos (beq_iff_eq.1 e), if_pos (beq_iff_eq.1 e)]
    exact rqo_ok ht
  | false =>
    rw [hsg] at h e
    cases h
    have hn : ¬ nxt s a (-1) = c := fun h => by rw [beq_iff_eq.2 h] at e; cases e
    rw [if_neg hn, if_neg hn, if_pos (by decide)]
    exact rqo_bad ht ha
section
variable {s : List UInt8} (hs : s.length ≤ 1000000) {f : Nat}
include hs
set_option maxHeartbeats 3200000 in
theorem listO_of (h : ∀ g, g ≤ f → Pro s g) (d a : Nat) (r : Rs) (ha : a ≤ s.length) (hd : d ≤ 1000) (hr : thn (rp s f (.items d 0 a)) (listK s f d) = some r) : Rdo 117 [.c (.d (.int .i64 d))] s a r := fun H i hp htl h2 hi => by
  refine acallsG Tryz.func117 (by kernel_rfl) Own.ac117_ok fun hf => ?_
  rw [ro_len] at hf
  have hf1 := fun a' b' => ro_fits (s' := s) (a' := a') (b' := b') hf
  have hfr : ∀ a' b', Obs.fits (ro H i s a' b').length 0 (ro H i s a' b') := fun a' b' => by rw [ro_len]; exact hf1 a' b'
  have hg0 := fun a' b' => ro_goes htl i s a a' (-1) b' hi
  obtain ⟨R, hR⟩ : ∃ R, rp s f (.items d 0 a) = some R := by
    rcases thn_some hr with ⟨e, h1, _⟩ | ⟨ts, j, h1, _⟩
    · exact ⟨_, h1⟩
    · exact ⟨_, h1⟩
  have pR := rp_post hs (j := .items d 0 a) ha hR
  rw [hR] at hr
  simp -implicitDefEqProofs [Own.ac117, ro_len, Ref.re, go_sem, -List.set_cons_succ, -List.set_cons_zero]
  refine loop_enter (St.le_token 5 4 rfl) ?_
  refine loop_set (σ := Nat × Int × List (Tm × Value) × Nat × Rs × Bool) (fun x => [(5, .c (.own (.l 1) x.2.2.1.length (x.2.2.1.map sq))), (6, .c (.d (.bool x.2.2.2.2.2)))]) (fun x => ro H i s x.1 x.2.1)
    (fun x => [.cells [.d (.int .i64 0), .d (.int .i64 0), .d (.str []), .full []], .grow x.2.2.1.length 4] ++ x.2.2.1.map kq1)
    (fun x => x.1 ≤ s.length ∧ x.2.2.1.length ≤ 1000001 ∧ OutF x.2.2.1 ∧
      ((x.2.2.2.2.2 = true ∧ x.2.1 = -1 ∧ x.2.2.1.length ≤ x.1 ∧ x.2.2.2.1 ≤ f ∧ rp s x.2.2.2.1 (.items d x.2.2.1.length x.1) = some x.2.2.2.2.1 ∧ x.2.2.2.2.1.app2 (x.2.2.1.map Prod.fst) = R) ∨
       (x.2.2.2.2.2 = false ∧ ((x.2.1 = -1 ∧ R = .ok (x.2.2.1.map Prod.fst) x.1) ∨ ∃ e : Nat, x.2.1 = e ∧ R = .bad e))))
    (fun x => if x.2.2.2.2.2 then x.2.2.2.1 + 1 else 0) (a, -1, [], f, R, true) (by simp [setAll]) ⟨ha, by simp, fun q hq => by simp at hq, .inl ⟨rfl, rfl, by simp, Nat.le_refl _, hR, by cases R <;> rfl⟩⟩ ?_
  rintro ⟨p, b, out, g, q, more⟩ ⟨hpl, hol, hof, hst⟩
  simp only at hpl hol hof hst
  simp -implicitDefEqProofs [setAll, ro_len, go_sem, -List.set_cons_succ, -List.set_cons_zero]
  rcases hst with ⟨rfl, rfl, hop, hg, hq, happ⟩ | ⟨rfl, hst⟩
  · cases g with
    | zero => cases hq
    | succ g =>
      have hq : pstep s (rp s g) (.items d out.length p) = some q := hq
      simp only [pstep] at hq
      obtain ⟨w, hw⟩ : ∃ w, rp s g (.term 3 (d + 1 + out.length) p) = some w := by
        rcases thn_some hq with ⟨e, h1, _⟩ | ⟨ts, j, h1, _⟩
        · exact ⟨_, h1⟩
        · exact ⟨_, h1⟩
      have c1 := partO_of (h g (by omega)) (d + 1 + out.length) p w hpl (by omega) hw
      have p1 := rp_post hs (j := .term 3 (d + 1 + out.length) p) ⟨hpl, by omega⟩ hw
      rw [hw] at hq
      have e1 : ((d + 1 + out.length : Nat) : Int) = (d : Int) + 1 + (out.length : Int) := by omega
      rw [e1] at c1
      have i1 : inR .i64 ((d : Int) + 1) := small_i64 (by omega) (by omega)
      have i2 : inR .i64 ((d : Int) + 1 + (out.length : Int)) := small_i64 (by omega) (by omega)
      have i3 : inR .i64 (out.length : Int) := small_i64 (by omega) (by omega)
      simp -implicitDefEqProofs [ro_len, i1, i2, i3, go_sem, -List.set_cons_succ, -List.set_cons_zero]
      refine call_rdo c1 (by simp [A.portB, C.portB, D.leaf]) hp htl h2 hi (by simp [Ob.re, C.re, kq1_re]) (hf1 _ _) ?_
      rintro t x a' b' ⟨ht, hm⟩
      have ha' : a' ≤ s.length ∧ (∀ e : Nat, w = .bad e → b' = e) := by
        cases w with
        | bad e => exact ⟨hm.1, fun e' he => by cases he; exact hm.2⟩
        | ok ts k => exact ⟨by rw [hm.2.1]; exact p1.2.1, fun e' he => by cases he⟩
      simp -implicitDefEqProofs [srow, ro_len, hfr, hf1, go_sem, -List.set_cons_succ, -List.set_cons_zero]
      refine ⟨allLen_map (fun q => rfl), by unfold maxApp; omega, ?_⟩
      refine call_mv (next_mv s hs a' b' (by omega)) hp h2 hi (by simp [Ob.re, C.re, kq1_re, ktree]) rfl (hf1 _ _) ?_
      simp -implicitDefEqProofs [ro_len, go_sem, -List.set_cons_succ, -List.set_cons_zero]
      have hfo : OutF (out ++ [(t, x)]) := fun q hx => by
        rcases List.mem_append.1 hx with hx | hx
        · exact hof q hx
        · rw [List.mem_singleton.1 hx]; exact ht
      cases w with
      | bad e =>
        obtain ⟨g1, g2⟩ := hm
        subst g2
        rw [nxt_bad]
        cases hq
        have hRe : R = .bad e := by rw [← happ]; rfl
        simp -implicitDefEqProofs [ro_len, go_sem, -List.set_cons_succ, -List.set_cons_zero]
        refine loop_less (a', (e : Int), out ++ [(t, x)], 0, .bad e, false) (St.le_more ?_ (by simp [kq1]; exact Obs.le_refl _)) ⟨g1, by simp; omega, hfo, .inr ⟨rfl, .inr ⟨e, rfl, hRe⟩⟩⟩ (by show 0 < g + 1 + 1; omega)
        simp [setAll, sq, srow, kq1, Sl.le, A.le_refl_iff, A.le_u_iff, As.lo, A.lo, C.lo, Ref.lo, Cs.lo, Obs.lo, Ob.lo, setAll, and_true, true_and, List.length_nil, List.length_cons]
      | ok ts k =>
        obtain ⟨g1, g2, g3⟩ := hm
        subst g2
        subst g3
        obtain ⟨q1, q2, q3⟩ := p1
        have e44 := nxt_eq s a' 44 (by decide)
        have e44 : (((nxt s a' (-1)).toNat : Int) == 44) = sgn s a' 44 := e44
        rw [thn_ok, ← g1] at hq
        cases hsg : sgn s a' 44 with
        | true =>
          rw [hsg] at hq e44
          simp only [if_true] at hq
          have he : ((nxt s a' (-1)).toNat : Int) = 44 := beq_iff_eq.1 e44
          have hlt := sgn_lt hsg
          have i4 : inR .i64 ((a' : Int) + 1) := small_i64 (by omega) (by omega)
          obtain ⟨v, hv, hva⟩ : ∃ v, rp s g (.items d (out.length + 1) (a' + 1)) = some v ∧ v.app2 (out.map Prod.fst ++ [t]) = R := by
            rcases thn_some hq with ⟨e, h1, h3⟩ | ⟨us, k2, h1, h3⟩
            · exact ⟨_, h1, by rw [← happ, h3]; rfl⟩
            · cases h3
              exact ⟨_, h1, by rw [← happ]; simp [Rs.app2]⟩
          simp -implicitDefEqProofs [he, ro_len, ro_get hi, ro_up, i4, Ref.re, hf1, go_sem, -List.set_cons_succ, -List.set_cons_zero]
          exact loop_back (a' + 1, -1, out ++ [(t, x)], g, v, true) (by simp [setAll, sq, srow, kq1]) ⟨by show a' + 1 ≤ s.length; omega, by simp; omega, hfo, .inl ⟨rfl, rfl, by simp; omega, by show g ≤ f; omega, by simpa using hv, by simpa using hva⟩⟩ (by show g + 1 < g + 1 + 1; omega)
        | false =>
          rw [hsg] at hq e44
          simp only [Bool.false_eq_true, if_false, Option.some.injEq] at hq
          have he : ¬ ((nxt s a' (-1)).toNat : Int) = 44 := fun h => by rw [beq_iff_eq.2 h] at e44; cases e44
          simp -implicitDefEqProofs [he, ro_len, go_sem, -List.set_cons_succ, -List.set_cons_zero]
          refine loop_less (a', -1, out ++ [(t, x)], 0, q, false) (St.le_more ?_ (by simp [kq1]; exact Obs.le_refl _)) ⟨ha'.1, by simp; omega, hfo, .inr ⟨rfl, .inl ⟨rfl, by rw [← happ, ← hq]; simp [Rs.app2]⟩⟩⟩ (by show 0 < g + 1 + 1; omega)
          simp [setAll, sq, srow, kq1, he, Sl.le, A.le_refl_iff, A.le_u_iff, As.lo, A.lo, C.lo, Ref.lo, Cs.lo, Obs.lo, Ob.lo, setAll, and_true, true_and, List.length_nil, List.length_cons]
          rw [e44]
          exact .refl _
  · have hil : inR .i64 (out.length : Int) := small_i64 (by omega) (by omega)
    have hlr : ∀ r ∈ out.map sq, leafR r := fun r hr => by
      obtain ⟨q, _, rfl⟩ := List.mem_map.1 hr
      exact leafR_srow _ _
    have hof2 : ∀ t ∈ out.map Prod.fst, t.fits := fun t ht => by
      obtain ⟨q, hq, rfl⟩ := List.mem_map.1 ht
      exact hof q hq
    simp -implicitDefEqProofs [ro_len, go_sem, -List.set_cons_succ, -List.set_cons_zero]
    refine call_none (atomOwn_calls [91, 93]) (fun r H' h => h.handed) (by simp [Ob.re, C.re, kq1_re]) (.cons (.c .d) .nil) (hfr _ _) ?_
    rintro _ _ ⟨x0, rfl, rfl⟩
    simp -implicitDefEqProofs [Tm.k, Tm.n, Tm.s, Tm.kids, ro_len, set_cell, hfr, hf1, go_sem, -List.set_cons_succ, -List.set_cons_zero]
    refine call_mv (next_mv s hs p b (by omega)) hp h2 hi (by simp [Ob.re, C.re, kq1_re]) rfl (hf1 _ _) ?_
    simp -implicitDefEqProofs [ro_len, go_sem, -List.set_cons_succ, -List.set_cons_zero]
    rcases hst with ⟨rfl, hRo⟩ | ⟨e, rfl, hRe⟩
    · subst hRo
      have hr : listK s f d (out.map Prod.fst) p = some r := hr
      unfold listK at hr
      have e124 : (((nxt s p (-1)).toNat : Int) == 124) = sgn s p 124 := nxt_eq s p 124 (by decide)
      cases hsg : sgn s p 124 with
      | true =>
        rw [hsg] at hr e124
        have he : ((nxt s p (-1)).toNat : Int) = 124 := beq_iff_eq.1 e124
        have hlt := sgn_lt hsg
        have i4 : inR .i64 ((p : Int) + 1) := small_i64 (by omega) (by omega)
        have i5 : inR .i64 ((d : Int) + (out.length : Int)) := small_i64 (by omega) (by omega)
        simp only [if_true, List.length_map] at hr
        obtain ⟨w, hw⟩ : ∃ w, rp s f (.term 3 (d + out.length) (p + 1)) = some w := by
          rcases thn_some hr with ⟨e, h1, _⟩ | ⟨ts, j, h1, _⟩
          · exact ⟨_, h1⟩
          · exact ⟨_, h1⟩
        have c1 := partO_of (h f (Nat.le_refl _)) (d + out.length) (p + 1) w (by omega) (by omega) hw
        have p1 := rp_post hs (j := .term 3 (d + out.length) (p + 1)) ⟨by omega, by omega⟩ hw
        rw [hw] at hr
        have e1 : ((d + out.length : Nat) : Int) = (d : Int) + (out.length : Int) := by omega
        rw [e1] at c1
        simp -implicitDefEqProofs [he, ro_len, ro_get hi, ro_up, i4, i5, hil, Ref.re, hf1, go_sem, -List.set_cons_succ, -List.set_cons_zero]
        refine call_rdo c1 (by simp [A.portB, C.portB, D.leaf]) hp htl h2 hi (by simp [Ob.re, C.re, kq1_re]) (hf1 _ _) ?_
        rintro t x a' b' ⟨ht, hm⟩
        have ha' : a' ≤ s.length := by
          cases w with
          | bad e => exact hm.1
          | ok ts k => rw [hm.2.1]; exact p1.2.1
        simp -implicitDefEqProofs [srow, ro_len, set_cell, hfr, hf1, go_sem, -List.set_cons_succ, -List.set_cons_zero]
        refine call_mv (skip_mv s hs a' b' (by omega) 93) hp h2 hi (by simp [Ob.re, C.re, kq1_re, ktree]) rfl (hf1 _ _) ?_
        simp -implicitDefEqProofs [ro_len, get_cell, hfr, hf1, go_sem, -List.set_cons_succ, -List.set_cons_zero]
        refine call_none (chainOwn_calls (out.map sq) (by simp; omega) hlr (srow t x) (leafR_srow t x)) (fun r H' h => h.handed (leafR_srow t x)) (by simp [Ob.re, C.re, kq1_re, ktree]) (.cons (.c .d) (.cons (fz_agg (srow t x)) .nil)) (hfr _ _) ?_
        rintro _ F ⟨v, hch, hlv, rfl⟩
        obtain ⟨y, rfl, hrg⟩ := chain_regroup3 (.mk 3 0 [91, 93] []) x0 t x out F v hch
        have hF := (hch.leaf (leafR_srow t x)).2
        simp -implicitDefEqProofs [srow, ro_len, hfr, hf1, go_sem, -List.set_cons_succ, -List.set_cons_zero]
        refine fin_group (t := chainT (out.map Prod.fst) t) (y := y) ?_ (by simp [Sl.le, A.le_refl_iff, A.le_u_iff, As.lo, A.lo, C.lo, Ref.lo, Cs.lo, Obs.lo, Ob.lo, setAll, and_true, true_and, List.length_nil, List.length_cons]) (by simp [Sl.le, A.le_refl_iff, A.le_u_iff, As.lo, A.lo, C.lo, Ref.lo, Cs.lo, Obs.lo, Ob.lo, setAll, and_true, true_and, List.length_nil, List.length_cons]) ⟨trivial, trivial⟩ (hg0 _ _) rfl ?_
        · have hfl : (Ob.grow out.length 4 :: (out.map kq1 ++ Ob.tree x0 [] :: Ob.cells [.d (.int .i64 t.k), .d (.int .i64 t.n), .d (.str t.s), .d (.v x)] :: ktree t x :: F)).filter Ob.isTreeB = out.map kq1 ++ (ktree (.mk 3 0 [91, 93] []) x0 :: ktree t x :: F) := by
            simp [List.filter_append, List.filter_cons, all_filter (kq_all out), all_filter hF, Ob.isTreeB, ktree, Tm.kids]
          rw [hfl]
          exact hrg
        · cases w with
          | bad e =>
            obtain ⟨g1, g2⟩ := hm
            subst g2
            cases hr
            rw [nxt_bad, if_neg (by decide), if_neg (by decide), if_neg (by omega)]
            exact rqo_bad (fits_chain _ _ hof2 ht) ha'
          | ok ts k =>
            obtain ⟨g1, g2, g3⟩ := hm
            subst g2
            subst g3
            rw [thn_ok, ← g1] at hr
            exact skip_rqo hr (fits_chain _ _ hof2 ht) ha'
      | false =>
        rw [hsg] at hr e124
        have he : ¬ ((nxt s p (-1)).toNat : Int) = 124 := fun h => by rw [beq_iff_eq.2 h] at e124; cases e124
        simp only [Bool.false_eq_true, if_false] at hr
        simp -implicitDefEqProofs [he, ro_len, go_sem, -List.set_cons_succ, -List.set_cons_zero]
        refine call_mv (skip_mv s hs p (-1) (by omega) 93) hp h2 hi (by simp [Ob.re, C.re, kq1_re]) rfl (hf1 _ _) ?_
        simp -implicitDefEqProofs [ro_len, get_cell, hfr, hf1, go_sem, -List.set_cons_succ, -List.set_cons_zero]
        refine call_none (chainOwn_calls (out.map sq) (by simp; omega) hlr (srow nilT x0) (leafR_srow nilT x0)) (fun r H' h => h.handed (leafR_srow nilT x0)) (by simp [Ob.re, C.re, kq1_re, ktree]) (.cons (.c .d) (.cons (fz_agg (srow nilT x0)) .nil)) (hfr _ _) ?_
        rintro _ F ⟨v, hch, hlv, rfl⟩
        obtain ⟨y, rfl, hrg⟩ := chain_regroup2 nilT x0 out F v hch
        have hF := (hch.leaf (leafR_srow nilT x0)).2
        simp -implicitDefEqProofs [srow, ro_len, hfr, hf1, go_sem, -List.set_cons_succ, -List.set_cons_zero]
        refine fin_group (t := chainT (out.map Prod.fst) nilT) (y := y) ?_ (by simp [Sl.le, A.le_refl_iff, A.le_u_iff, As.lo, A.lo, C.lo, Ref.lo, Cs.lo, Obs.lo, Ob.lo, setAll, and_true, true_and, List.length_nil, List.length_cons]) (by simp [Sl.le, A.le_refl_iff, A.le_u_iff, As.lo, A.lo, C.lo, Ref.lo, Cs.lo, Obs.lo, Ob.lo, setAll, and_true, true_and, List.length_nil, List.length_cons]) ⟨trivial, trivial⟩ (hg0 _ _) rfl ?_
        · have hfl : (Ob.grow out.length 4 :: (out.map kq1 ++ Ob.tree x0 [] :: Ob.cells [.d (.int .i64 3), .d (.int .i64 0), .d (.str [91, 93]), .d (.v x0)] :: F)).filter Ob.isTreeB = out.map kq1 ++ (ktree nilT x0 :: F) := by
            simp [List.filter_append, List.filter_cons, all_filter (kq_all out), all_filter hF, Ob.isTreeB, ktree, Tm.kids, nilT]
          rw [hfl]
          exact hrg
        · exact skip_rqo hr (fits_chain _ _ hof2 fits_nil) hpl
    · subst hRe
      cases hr
      rw [nxt_bad]
      simp -implicitDefEqProofs [ro_len, go_sem, -List.set_cons_succ, -List.set_cons_zero]
      refine call_mv (skip_mv s hs p e (by omega) 93) hp h2 hi (by simp [Ob.re, C.re, kq1_re]) rfl (hf1 _ _) ?_
      simp -implicitDefEqProofs [ro_len, get_cell, hfr, hf1, go_sem, -List.set_cons_succ, -List.set_cons_zero]
      refine call_none (chainOwn_calls (out.map sq) (by simp; omega) hlr (srow nilT x0) (leafR_srow nilT x0)) (fun r H' h => h.handed (leafR_srow nilT x0)) (by simp [Ob.re, C.re, kq1_re, ktree]) (.cons (.c .d) (.cons (fz_agg (srow nilT x0)) .nil)) (hfr _ _) ?_
      rintro _ F ⟨v, hch, hlv, rfl⟩
      obtain ⟨y, rfl, hrg⟩ := chain_regroup2 nilT x0 out F v hch
      have hF := (hch.leaf (leafR_srow nilT x0)).2
      simp -implicitDefEqProofs [srow, ro_len, hfr, hf1, go_sem, -List.set_cons_succ, -List.set_cons_zero]
      refine fin_group (t := chainT (out.map Prod.fst) nilT) (y := y) ?_ (by simp [Sl.le, A.le_refl_iff, A.le_u_iff, As.lo, A.lo, C.lo, Ref.lo, Cs.lo, Obs.lo, Ob.lo, setAll, and_true, true_and, List.length_nil, List.length_cons]) (by simp [Sl.le, A.le_refl_iff, A.le_u_iff, As.lo, A.lo, C.lo, Ref.lo, Cs.lo, Obs.lo, Ob.lo, setAll, and_true, true_and, List.length_nil, List.length_cons]) ⟨trivial, trivial⟩ (hg0 _ _) rfl ?_
      · have hfl : (Ob.grow out.length 4 :: (out.map kq1 ++ Ob.tree x0 [] :: Ob.cells [.d (.int .i64 3), .d (.int .i64 0), .d (.str [91, 93]), .d (.v x0)] :: F)).filter Ob.isTreeB = out.map kq1 ++ (ktree nilT x0 :: F) := by
          simp [List.filter_append, List.filter_cons, all_filter (kq_all out), all_filter hF, Ob.isTreeB, ktree, Tm.kids, nilT]
        rw [hfl]
        exact hrg
      · rw [nxt_bad, if_neg (by decide), if_neg (by decide), if_neg (by omega)]
        exact rqo_bad (fits_chain _ _ hof2 fits_nil) hpl
end
end Go.Proofs.YtgfmlifkhpjplaaGreatDoor

/-
  The program's reader hands out terms that stand in arrays of their own: terms without operators.
  Conditions: none.
-/
open Go Go.AM Go.Proofs
namespace Go.Proofs.YtgfmlifkhpjplaaGreatDoor
open Go.ChangeShapes Go.WideShapes Go.ChangeAt Go.RowKit
set_option linter.unusedVariables false
set_option linter.unusedSimpArgs false
set_option maxRecDepth 100000
/-- a struct without arguments is handed out -/
theorem fin_full {H : Heap} {rs : List Rv} {Q : A → Heap → Prop} {st : St} {n : List UInt8} (hok : r_ st rs) (hg : Goes H st.ext) (hr : resRaw st rs = some (.agg [.d (.int .i64 3), .d (.int .i64 0), .d (.str n), .full []]))
    (hq : ∀ x, Q (.agg ((srow (.mk 3 0 n []) x).map .d)) (st.ext ++ [ktree (.mk 3 0 n []) x])) : FinG H rs Q .ret st :=
  finG_ret _ hok hg hr fun kv => ⟨_, _, _, [], [], .one (.agg (.cons (.leaf rfl) (.cons (.leaf rfl) (.cons (.leaf rfl) (.cons .full .nil))))), rfl, rfl, by simp, hq _⟩
theorem OutF.nil : OutF [] := fun q hq => by simp at hq
theorem strip_out : ∀ out : List (Tm × Value), Strip (out.map fun q => q.1.row).flatten (out.map sq).flatten (out.map kq1)
  | [] => ⟨rfl, rfl⟩
  | q :: out => by
    have h := strip_terms ((q :: out).map Prod.fst) ((q :: out).map Prod.snd) (by simp)
    have e1 : List.zipWith srow ((q :: out).map Prod.fst) ((q :: out).map Prod.snd) = (q :: out).map sq := by rw [List.zipWith_map, List.zipWith_self]; rfl
    have e2 : List.zipWith ktree ((q :: out).map Prod.fst) ((q :: out).map Prod.snd) = (q :: out).map kq1 := by rw [List.zipWith_map, List.zipWith_self]; rfl
    rw [e1, e2, List.map_map] at h
    exact h
/-- .. with arguments -/
theorem fin_own {H : Heap} {rs : List Rv} {Q : A → Heap → Prop} {sl : List A} {ext : Heap} {o0 o1 o2 : Ob} {n : List UInt8} {out : List (Tm × Value)} (hok : r_ ⟨sl, ext, o0 :: o1 :: o2 :: .grow out.length 4 :: out.map kq1⟩ rs) (hg : Goes H ext)
    (hr : resRaw ⟨sl, ext, o0 :: o1 :: o2 :: .grow out.length 4 :: out.map kq1⟩ rs = some (.agg [.d (.int .i64 3), .d (.int .i64 0), .d (.str n), .own (.l 3) out.length (out.map sq)]))
    (hq : ∀ x, Q (.agg ((srow (.mk 3 0 n (out.map Prod.fst)) x).map .d)) (ext ++ [ktree (.mk 3 0 n (out.map Prod.fst)) x])) : FinG H rs Q .ret ⟨sl, ext, o0 :: o1 :: o2 :: .grow out.length 4 :: out.map kq1⟩ := by
  refine finG_ret _ hok hg hr fun kv => ⟨_, _, _, [], [], .one (.agg (.cons (.leaf rfl) (.cons (.leaf rfl) (.cons (.leaf rfl) (.cons (.own (i := 3) (pos := out.length) (sz := 4) (rows' := out.map fun q => q.1.row) (trs := out.map kq1) (js := (List.range out.length).map (4 + ·)) rfl (by simp) (strip_out out) (by simp [row_len, sq, srow]) fun m hm => ?_) .nil))))), rfl, rfl, ?_, ?_⟩
  · have hm : m < out.length := by simpa using hm
    refine ⟨4 + m, by simp [hm], ?_⟩
    have hl : ∀ o ∈ out.map kq1, Ob.lf o = o := fun o ho => by
      obtain ⟨q, _, rfl⟩ := List.mem_map.1 ho
      rfl
    simp only [List.map_cons]
    rw [show 4 + m = m + 1 + 1 + 1 + 1 by omega, List.getElem?_cons_succ, List.getElem?_cons_succ, List.getElem?_cons_succ, List.getElem?_cons_succ]
    rw [show (out.map kq1).map Ob.lf = out.map kq1 by simpa using List.map_congr_left hl]
  · simp only [List.append_nil, List.nil_append, List.cons_append]
    refine List.nodup_cons.2 ⟨fun h => ?_, List.Pairwise.map _ (fun a b h e => h (by omega)) List.nodup_range⟩
    obtain ⟨a, _, h⟩ := List.mem_map.1 h
    omega
  · have := hq (kv 0 3)
    simpa [ktree, Tm.kids, srow, Tm.k, Tm.n, Tm.s, List.map_map, Function.comp_def] using this
section
variable {s : List UInt8} (hs : s.length ≤ 1000000) {f : Nat}
include hs
set_option maxHeartbeats 6400000 in
theorem primeO_of (h : ∀ g, g ≤ f → Pro s g) (d a : Nat) (r : Rs) (ha : a ≤ s.length) (hd : d ≤ 2000000) (hr : rp s (f + 1) (.prime d a) = some r) : Rdo 85 [.c (.d (.int .i64 d))] s a r := fun H i hp htl h2 hi => by
  refine acallsG Tryz.func85 (by kernel_rfl) Full.ac85_ok fun hf => ?_
  rw [ro_len] at hf
  have hf1 := fun a' b' => ro_fits (s' := s) (a' := a') (b' := b') hf
  have hfr : ∀ a' b', Obs.fits (ro H i s a' b').length 0 (ro H i s a' b') := fun a' b' => by rw [ro_len]; exact hf1 a' b'
  have hg0 := fun a' b' => ro_goes htl i s a a' (-1) b' hi
  have hr : pstep s (rp s f) (.prime d a) = some r := hr
  have zf : (Tm.mk 0 0 [] []).fits := .mk (small_i64 (by omega) (by omega)) (small_i64 (by omega) (by omega)) (by simp) (by simp) (by simp)
  simp only [pstep] at hr
  by_cases hd30 : 30 < d
  · rw [if_pos hd30] at hr
    cases hr
    have hd30' : (30 : Int) < d := by omega
    simp -implicitDefEqProofs [Full.ac85, ro_get hi, ro_len, hd30', Ref.re, go_sem, -List.set_cons_succ, -List.set_cons_zero]
    refine call_mv (stop_mv s a (-1) a) hp h2 hi (by simp [Ob.re, C.re]) (zeroA_re _) (hf1 _ _) ?_
    simp -implicitDefEqProofs [zeroA, ro_len, row_len, take_row, drop_row, pure_d, re_d, thaw_d, fits_map, hfr, hf1, go_sem, -List.set_cons_succ, -List.set_cons_zero]
    exact fin_nil rfl ⟨trivial, trivial⟩ (hg0 _ _) rfl fun x => rqo_bad zf ha
  · rw [if_neg hd30] at hr
    have hd30' : ¬ (30 : Int) < d := by omega
    simp -implicitDefEqProofs [Full.ac85, ro_get hi, ro_len, hd30', Ref.re, go_sem, -List.set_cons_succ, -List.set_cons_zero]
    refine call_mv (next_mv s hs a (-1) (by omega)) hp h2 hi (by simp [Ob.re, C.re]) rfl (hf1 _ _) ?_
    have bad0 : nxt s a (-1) = 0 → some (Rs.bad a) = some r → (?stop : Prop) := ?stopP
    cases hb : s[a]? with
    | none =>
      rw [hb] at hr
      have hn : nxt s a (-1) = 0 := by unfold nxt; rw [if_neg (by decide), hb]
      exact bad0 hn hr
    | some b =>
      have hlt := (List.getElem?_eq_some_iff.1 hb).1
      have hn : nxt s a (-1) = b := by unfold nxt; rw [if_neg (by decide), hb]
      rw [hb] at hr
      simp only at hr
      by_cases hb0 : b = 0
      · subst hb0
        rw [name_zero ha hb] at hr
        exact bad0 hn (by simpa [bigB, digB] using hr)
      · have hb0' : ¬ ((b.toNat : Int) = 0) := fun e => hb0 (UInt8.toNat_inj.1 (by simpa using e))
        rw [hn]
        simp -implicitDefEqProofs [hb0', ro_len, go_sem, -List.set_cons_succ, -List.set_cons_zero]
        have hbz : ¬ b.toNat = 0 := fun e => hb0 (UInt8.toNat_inj.1 (by simpa using e))
        have hb255 := b.toNat_lt
        have i4 : inR .i64 ((a : Int) + 1) := small_i64 (by omega) (by omega)
        refine ⟨fun h => absurd h hbz, fun _ => ⟨fun q1 q2 => ?_, fun q1 => ?_⟩⟩
        · have hbig : bigB b = true := by simp [bigB]; omega
          rw [if_pos hbig] at hr
          cases hr
          have i5 : inR .u8 ((b.toNat : Int) - 65) := by simp [inR, IntKind.min, IntKind.max, IntKind.signed, IntKind.bits]; omega
          have i6 : IntKind.wrap .i64 ((b.toNat : Int) - 65) = (b.toNat : Int) - 65 := wrap_inR (small_i64 (by omega) (by omega))
          have e1 : (b.toNat : Int) - 65 = ((b.toNat - 65 : Nat) : Int) := by omega
          simp -implicitDefEqProofs [ro_get hi, ro_len, ro_up, i4, i5, i6, Ref.re, hf1, hfr, go_sem, -List.set_cons_succ, -List.set_cons_zero]
          refine qcall_pure (variableR_calls _) (hfr _ _) (by simp [A.re, re_d]) ?_
          rw [e1]
          simp -implicitDefEqProofs [ro_len, row_len, take_row, drop_row, pure_d, re_d, thaw_d, fits_map, hfr, hf1, go_sem, -List.set_cons_succ, -List.set_cons_zero]
          exact fin_nil (t := .mk 1 ((b.toNat - 65 : Nat) : Int) [] []) rfl ⟨trivial, trivial⟩ (hg0 _ _) rfl fun x => rqo_ok (.mk (by decide) (small_i64 (by omega) (by omega)) (by simp) (by simp) (by simp))
        · have hbig : ¬ bigB b = true := by simp [bigB]; omega
          rw [if_neg hbig] at hr
          refine call_mv (isNumber_mv s hs a (by omega)) hp h2 hi (by simp [Ob.re, C.re]) rfl (hf1 _ _) ?_
          have hdg : digAt s a = digB b := by unfold digAt; rw [hb]
          have hsg45 : sgn s a 45 = (b == 45) := by unfold sgn; rw [hb]
          rw [hdg, hsg45]
          by_cases hnum : (digB b || b == 45 && digAt s (a + 1)) = true
          · rw [if_pos hnum] at hr
            have hnum' : digAt s a = true ∨ (sgn s a 45 = true ∧ digAt s (a + 1) = true) := by
              rw [hdg, hsg45]
              simp only [Bool.or_eq_true, Bool.and_eq_true] at hnum
              exact hnum
            rw [hnum]
            simp -implicitDefEqProofs [ro_len, go_sem, -List.set_cons_succ, -List.set_cons_zero]
            refine call_mv (number_mv s hs a ha hnum') hp h2 hi (by simp [Ob.re, C.re]) (by unfold numV2; split <;> simp [zeroA, A.re, re_d]) (hf1 _ _) ?_
            obtain ⟨l1, l2, l3, l4⟩ := number_law ha hnum'
            cases hn4 : numR s a with
            | none =>
              rw [hn4] at hr
              cases hr
              simp -implicitDefEqProofs [numV2, numB, hn4, zeroA, ro_len, row_len, take_row, drop_row, pure_d, re_d, thaw_d, fits_map, hfr, hf1, go_sem, -List.set_cons_succ, -List.set_cons_zero]
              exact fin_nil rfl ⟨trivial, trivial⟩ (hg0 _ _) rfl fun x => rqo_bad zf l2
            | some x =>
              obtain ⟨n, j⟩ := x
              rw [hn4] at hr l4
              cases hr
              obtain ⟨_, _, w3, w4, w5⟩ := l4
              simp -implicitDefEqProofs [numV2, numB, hn4, w3, ro_len, row_len, take_row, drop_row, pure_d, re_d, thaw_d, fits_map, hfr, hf1, go_sem, -List.set_cons_succ, -List.set_cons_zero]
              exact fin_nil (t := .mk 2 n [] []) rfl ⟨trivial, trivial⟩ (hg0 _ _) rfl fun x => rqo_ok (.mk (by decide) (small_i64 (by omega) (by omega)) (by simp) (by simp) (by simp))
          · rw [if_neg hnum] at hr
            have hnum2 : (digB b || b == 45 && digAt s (a + 1)) = false := by simpa using hnum
            rw [hnum2]
            have nameK : (match nameR s a with
              | none => some (Rs.bad a)
              | some (n, j) => if sgn s j 40 then thn (rp s f (.args d j)) fun ts k => if sgn s k 41 then some (Rs.ok [.mk 3 0 n ts] (k + 1)) else some (Rs.bad k)
                else some (Rs.ok [.mk 3 0 n []] j)) = some r → (?nm : Prop) := ?nmP
            by_cases h40 : b = 40
            · subst h40
              rw [if_pos rfl] at hr
              obtain ⟨w, hw⟩ : ∃ w, rp s f (.term 3 d (a + 1)) = some w := by
                rcases thn_some hr with ⟨e, h1, _⟩ | ⟨ts, j, h1, _⟩
                · exact ⟨_, h1⟩
                · exact ⟨_, h1⟩
              have c1 := (h f (Nat.le_refl _)).term 3 d (a + 1) w (by omega) (by omega) hd hw
              have p1 := rp_post hs (j := .term 3 d (a + 1)) ⟨by omega, by omega⟩ hw
              rw [hw] at hr
              simp -implicitDefEqProofs [ro_get hi, ro_len, ro_up, i4, Ref.re, hf1, go_sem, -List.set_cons_succ, -List.set_cons_zero]
              refine call_rdo c1 (by simp [A.portB, C.portB, D.leaf]) hp htl h2 hi (by simp [Ob.re, C.re]) (hf1 _ _) ?_
              rintro t x a' b' ⟨ht, hm⟩
              have ha' : a' ≤ s.length := by
                cases w with
                | bad e => exact hm.1
                | ok ts k => rw [hm.2.1]; exact p1.2.1
              simp -implicitDefEqProofs [ro_len, srow, hfr, hf1, go_sem, -List.set_cons_succ, -List.set_cons_zero]
              refine call_mv (skip_mv s hs a' b' (by omega) 41) hp h2 hi (by simp [Ob.re, C.re]) rfl (hf1 _ _) ?_
              simp -implicitDefEqProofs [ro_len, row_len, take_row, drop_row, pure_d, re_d, thaw_d, fits_map, hfr, hf1, go_sem, -List.set_cons_succ, -List.set_cons_zero]
              refine fin_tok 1 ⟨trivial, trivial⟩ (hg0 _ _) rfl rfl ?_
              cases w with
              | bad e =>
                obtain ⟨g1, g2⟩ := hm
                subst g2
                cases hr
                rw [nxt_bad, if_neg (by decide), if_neg (by decide), if_neg (by omega)]
                exact rqo_bad ht ha'
              | ok ts k =>
                obtain ⟨g1, g2, g3⟩ := hm
                subst g2
                subst g3
                rw [thn_ok, ← g1] at hr
                exact skip_rqo hr ht ha'
            · rw [if_neg h40] at hr
              have h40' : ¬ b.toNat = 40 := fun e => h40 (UInt8.toNat_inj.1 (by simpa using e))
              by_cases h91 : b = 91
              · subst h91
                have hrest : s.drop a = 91 :: s.drop (a + 1) := by
                  obtain ⟨g1, g2⟩ := List.getElem?_eq_some_iff.1 hb
                  rw [List.drop_eq_getElem_cons g1, g2]
                have hpre : ((s.drop a).take ([91, 93] : List UInt8).length == [91, 93]) = sgn s (a + 1) 93 := by
                  rw [hrest]
                  unfold sgn
                  cases hr1 : s.drop (a + 1) with
                  | nil =>
                    have : s[a + 1]? = none := by rw [List.getElem?_eq_none_iff]; have := List.drop_eq_nil_iff.1 hr1; omega
                    rw [this]; rfl
                  | cons c w =>
                    have : s[a + 1]? = some c := at_dr hr1
                    rw [this]
                    simp [Bool.eq_iff_iff]
                simp -implicitDefEqProofs [ro_get hi, ro_len, Ref.re, go_sem, -List.set_cons_succ, -List.set_cons_zero]
                refine ⟨ha, qcall_pure (hasPrefix_calls (s.drop a) [91, 93] (by simp; omega) (by simp)) (hfr _ _) rfl ?_⟩
                rw [hpre]
                cases hsg : sgn s (a + 1) 93 with
                | true =>
                  rw [if_neg (fun h => by rw [hsg] at h; cases h.2)] at hr
                  simp -implicitDefEqProofs [ro_get hi, ro_len, Ref.re, go_sem, -List.set_cons_succ, -List.set_cons_zero]
                  exact nameK hr
                | false =>
                  rw [if_pos ⟨rfl, hsg⟩] at hr
                  have c1 := listO_of hs h d (a + 1) r (by omega) (by omega) hr
                  simp -implicitDefEqProofs [ro_get hi, ro_len, ro_up, i4, Ref.re, hf1, go_sem, -List.set_cons_succ, -List.set_cons_zero]
                  refine call_rdo c1 (by simp [A.portB, C.portB, D.leaf]) hp htl h2 hi (by simp [Ob.re, C.re]) (hf1 _ _) ?_
                  rintro t x a' b' ⟨ht, hm⟩
                  simp -implicitDefEqProofs [srow, ro_len, row_len, take_row, drop_row, pure_d, re_d, thaw_d, fits_map, hfr, hf1, go_sem, -List.set_cons_succ, -List.set_cons_zero]
                  exact fin_tok 1 ⟨trivial, trivial⟩ (hg0 _ _) rfl rfl ⟨t, x, a', b', ⟨ht, hm⟩, rfl, rfl⟩
              · have h91' : ¬ b.toNat = 91 := fun e => h91 (UInt8.toNat_inj.1 (by simpa using e))
                rw [if_neg (fun h => h91 h.1)] at hr
                simp -implicitDefEqProofs [ro_get hi, ro_len, h40', h91', Ref.re, go_sem, -List.set_cons_succ, -List.set_cons_zero]
                refine ⟨fun h => absurd h (by omega), fun _ => ⟨fun _ => ha, fun h => absurd h (by omega), fun _ => ?_⟩⟩
                exact nameK hr
            case nmP =>
              intro hr
              refine call_mv (name_mv s hs a ha) hp h2 hi (by simp [Ob.re, C.re]) (by unfold nameV; split <;> simp [A.re, C.re]) (hf1 _ _) ?_
              cases hn : nameR s a with
              | none =>
                rw [hn] at hr
                cases hr
                simp -implicitDefEqProofs [nameV, nameJ, nameF, hn, ro_len, go_sem, -List.set_cons_succ, -List.set_cons_zero]
                refine call_newR (atom_full []) (by simp [Ob.re, C.re]) (by simp [A.re, C.re]) (hfr _ _) (by simp [Ob.re, C.re]) ?_
                simp -implicitDefEqProofs [ro_len, hf1, go_sem, -List.set_cons_succ, -List.set_cons_zero]
                refine call_mv (next_mv s hs a a (by omega)) hp h2 hi (by simp [Ob.re, C.re]) rfl (hf1 _ _) ?_
                rw [nxt_bad]
                simp -implicitDefEqProofs [ro_len, hfr, hf1, go_sem, -List.set_cons_succ, -List.set_cons_zero]
                exact fin_full (n := []) ⟨trivial, trivial⟩ (hg0 _ _) rfl fun x => rqo_bad (fits_st (by simp) (by simp) (by simp)) ha
              | some x =>
                obtain ⟨n, j⟩ := x
                rw [hn] at hr
                simp only at hr
                obtain ⟨n1, n2, n3⟩ := nameR_ok ha hn
                have hnf : (Tm.mk 3 0 n []).fits := fits_st n3 (by simp) (by simp)
                simp -implicitDefEqProofs [nameV, nameJ, nameF, hn, ro_len, go_sem, -List.set_cons_succ, -List.set_cons_zero]
                refine call_newR (atom_full n) (by simp [Ob.re, C.re]) (by simp [A.re, C.re]) (hfr _ _) (by simp [Ob.re, C.re]) ?_
                simp -implicitDefEqProofs [ro_len, hf1, go_sem, -List.set_cons_succ, -List.set_cons_zero]
                refine call_mv (next_mv s hs j (-1) (by omega)) hp h2 hi (by simp [Ob.re, C.re]) rfl (hf1 _ _) ?_
                have e40 : (((nxt s j (-1)).toNat : Int) == 40) = sgn s j 40 := nxt_eq s j 40 (by decide)
                cases hsg : sgn s j 40 with
                | false =>
                  rw [hsg] at hr e40
                  have he : ¬ ((nxt s j (-1)).toNat : Int) = 40 := fun h => by rw [beq_iff_eq.2 h] at e40; cases e40
                  cases hr
                  simp -implicitDefEqProofs [he, ro_len, hfr, hf1, go_sem, -List.set_cons_succ, -List.set_cons_zero]
                  exact fin_full (n := n) ⟨trivial, trivial⟩ (hg0 _ _) rfl fun x => rqo_ok hnf
                | true =>
                  rw [hsg] at hr e40
                  have he : ((nxt s j (-1)).toNat : Int) = 40 := beq_iff_eq.1 e40
                  simp only [if_true] at hr
                  have hjl := sgn_lt hsg
                  obtain ⟨R, hR⟩ : ∃ R, rp s f (.args d j) = some R := by
                    rcases thn_some hr with ⟨e, h1, _⟩ | ⟨ts, j, h1, _⟩
                    · exact ⟨_, h1⟩
                    · exact ⟨_, h1⟩
                  have pR := rp_post hs (j := .args d j) hjl hR
                  rw [hR] at hr
                  simp -implicitDefEqProofs [he, ro_len, hfr, hf1, go_sem, -List.set_cons_succ, -List.set_cons_zero]
                  refine loop_enter (St.le_tokenC 2 3 4 rfl rfl) ?_
                  refine loop_set (σ := Nat × Int × List (Tm × Value) × Nat × Rs × Bool) (fun x => [(8, .c (.d (.bool x.2.2.2.2.2)))]) (fun x => ro H i s x.1 x.2.1)
                    (fun x => [.cells [.d (.int .i64 0), .d (.int .i64 0), .d (.str []), .full []], .cells [.d (.int .i64 3), .d (.int .i64 0), .d (.str n), .full []], .cells [.d (.int .i64 3), .d (.int .i64 0), .d (.str n), .own (.l 3) x.2.2.1.length (x.2.2.1.map sq)], .grow x.2.2.1.length 4] ++ x.2.2.1.map kq1)
                    (fun x => x.1 ≤ s.length ∧ x.2.2.1.length ≤ 1000001 ∧ OutF x.2.2.1 ∧
                      ((x.2.2.2.2.2 = true ∧ x.2.1 = -1 ∧ x.2.2.1.length ≤ x.1 ∧ x.1 < s.length ∧ x.2.2.2.1 ≤ f ∧ rp s x.2.2.2.1 (.args d x.1) = some x.2.2.2.2.1 ∧ x.2.2.2.2.1.app2 (x.2.2.1.map Prod.fst) = R) ∨
                       (x.2.2.2.2.2 = false ∧ ((x.2.1 = -1 ∧ R = .ok (x.2.2.1.map Prod.fst) x.1) ∨ ∃ e : Nat, x.2.1 = e ∧ R = .bad e))))
                    (fun x => if x.2.2.2.2.2 then x.2.2.2.1 + 1 else 0) (j, -1, [], f, R, true) (by simp [setAll, sq, srow, kq1]) ⟨n2, by simp, OutF.nil, .inl ⟨rfl, rfl, by simp, hjl, Nat.le_refl _, hR, by cases R <;> rfl⟩⟩ ?_
                  rintro ⟨p, b2, out, g, q, more⟩ ⟨hpl, hol, hof, hst⟩
                  simp only at hpl hol hof hst
                  simp -implicitDefEqProofs [setAll, ro_len, go_sem, -List.set_cons_succ, -List.set_cons_zero]
                  refine ⟨fun hmore => ?_, fun hmore => ?_⟩
                  · rcases hst with ⟨_, rfl, hop, hpl2, hg, hq, happ⟩ | ⟨hmf, _⟩
                    · subst hmore
                      cases g with
                      | zero => cases hq
                      | succ g =>
                        have hq : pstep s (rp s g) (.args d p) = some q := hq
                        simp only [pstep] at hq
                        obtain ⟨w, hw⟩ : ∃ w, rp s g (.term 3 (d + 1) (p + 1)) = some w := by
                          rcases thn_some hq with ⟨e, h1, _⟩ | ⟨ts, j, h1, _⟩
                          · exact ⟨_, h1⟩
                          · exact ⟨_, h1⟩
                        have c1 := partO_of (h g (by omega)) (d + 1) (p + 1) w (by omega) (by omega) hw
                        have p1 := rp_post hs (j := .term 3 (d + 1) (p + 1)) ⟨by omega, by omega⟩ hw
                        rw [hw] at hq
                        have e1 : ((d + 1 : Nat) : Int) = (d : Int) + 1 := by omega
                        rw [e1] at c1
                        have i1 : inR .i64 ((d : Int) + 1) := small_i64 (by omega) (by omega)
                        have i5 : inR .i64 ((p : Int) + 1) := small_i64 (by omega) (by omega)
                        simp -implicitDefEqProofs [ro_len, ro_get hi, ro_up, i1, i5, Ref.re, hf1, go_sem, -List.set_cons_succ, -List.set_cons_zero]
                        refine call_rdo c1 (by simp [A.portB, C.portB, D.leaf]) hp htl h2 hi (by simp [Ob.re, C.re, Ref.re, kq1_re]) (hf1 _ _) ?_
                        rintro t x a' b' ⟨ht, hm⟩
                        refine ⟨LocSame.push _ _, ?_⟩
                        have ha' : a' ≤ s.length ∧ (∀ e : Nat, w = .bad e → b' = e) := by
                          cases w with
                          | bad e => exact ⟨hm.1, fun e' he => by cases he; exact hm.2⟩
                          | ok ts k => exact ⟨by rw [hm.2.1]; exact p1.2.1, fun e' he => by cases he⟩
                        simp -implicitDefEqProofs [ro_len, srow, hfr, hf1, go_sem, -List.set_cons_succ, -List.set_cons_zero]
                        refine ⟨allLen_map (fun q => rfl), by unfold maxApp; omega, ?_⟩
                        refine call_mv (next_mv s hs a' b' (by omega)) hp h2 hi (by simp [Ob.re, C.re, Ref.re, kq1_re, ktree]) rfl (hf1 _ _) ?_
                        simp -implicitDefEqProofs [ro_len, go_sem, -List.set_cons_succ, -List.set_cons_zero]
                        have hfo : OutF (out ++ [(t, x)]) := fun q hx => by
                          rcases List.mem_append.1 hx with hx | hx
                          · exact hof q hx
                          · rw [List.mem_singleton.1 hx]; exact ht
                        cases w with
                        | bad e =>
                          obtain ⟨g1, g2⟩ := hm
                          subst g2
                          rw [nxt_bad]
                          cases hq
                          have hRe : R = .bad e := by rw [← happ]; rfl
                          exact loop_back (a', (e : Int), out ++ [(t, x)], 0, .bad e, false) (by simp [setAll, sq, srow, kq1]) ⟨g1, by simp; omega, hfo, .inr ⟨rfl, .inr ⟨e, rfl, hRe⟩⟩⟩ (by show 0 < g + 1 + 1; omega)
                        | ok ts k =>
                          obtain ⟨g1, g2, g3⟩ := hm
                          subst g2
                          subst g3
                          obtain ⟨q1, q2, q3⟩ := p1
                          have e44 : (((nxt s a' (-1)).toNat : Int) == 44) = sgn s a' 44 := nxt_eq s a' 44 (by decide)
                          rw [thn_ok, ← g1] at hq
                          cases hsg : sgn s a' 44 with
                          | true =>
                            rw [hsg] at hq e44
                            simp only [if_true] at hq
                            have hlt := sgn_lt hsg
                            obtain ⟨v, hv, hva⟩ : ∃ v, rp s g (.args d a') = some v ∧ v.app2 (out.map Prod.fst ++ [t]) = R := by
                              rcases thn_some hq with ⟨e, h1, h3⟩ | ⟨us, k2, h1, h3⟩
                              · exact ⟨_, h1, by rw [← happ, h3]; rfl⟩
                              · cases h3
                                exact ⟨_, h1, by rw [← happ]; simp [Rs.app2]⟩
                            rw [e44]
                            exact loop_back (a', -1, out ++ [(t, x)], g, v, true) (by simp [setAll, sq, srow, kq1]) ⟨q2, by simp; omega, hfo, .inl ⟨rfl, rfl, by simp; omega, hlt, by show g ≤ f; omega, hv, by simpa using hva⟩⟩ (by show g + 1 < g + 1 + 1; omega)
                          | false =>
                            rw [hsg] at hq e44
                            simp only [Bool.false_eq_true, if_false, Option.some.injEq] at hq
                            rw [e44]
                            exact loop_back (a', -1, out ++ [(t, x)], 0, q, false) (by simp [setAll, sq, srow, kq1]) ⟨q2, by simp; omega, hfo, .inr ⟨rfl, .inl ⟨rfl, by rw [← happ, ← hq]; simp [Rs.app2]⟩⟩⟩ (by show 0 < g + 1 + 1; omega)
                    · rw [hmore] at hmf; cases hmf
                  · rcases hst with ⟨hmt, _⟩ | ⟨_, hst⟩
                    · rw [hmore] at hmt; cases hmt
                    · subst hmore
                      refine call_mv (skip_mv s hs p b2 (by omega) 41) hp h2 hi (by simp [Ob.re, C.re, Ref.re, kq1_re, ktree]) rfl (hf1 _ _) ?_
                      simp -implicitDefEqProofs [srow, ro_len, hfr, hf1, go_sem, -List.set_cons_succ, -List.set_cons_zero]
                      have hof2 : (Tm.mk 3 0 n (out.map Prod.fst)).fits := fits_st n3 (by simp; omega) fun t ht => by
                        obtain ⟨q, hq, rfl⟩ := List.mem_map.1 ht
                        exact hof q hq
                      refine fin_own (n := n) (out := out) ⟨trivial, trivial⟩ (hg0 _ _) rfl fun x => ?_
                      rcases hst with ⟨rfl, hRo⟩ | ⟨e, rfl, hRe⟩
                      · subst hRo
                        rw [thn_ok] at hr
                        exact skip_rqo hr hof2 hpl
                      · subst hRe
                        cases hr
                        rw [nxt_bad, if_neg (by decide), if_neg (by decide), if_neg (by omega)]
                        exact rqo_bad hof2 hpl
    case stopP =>
      intro hn hr
      cases hr
      rw [hn]
      simp -implicitDefEqProofs [ro_get hi, ro_len, Ref.re, go_sem, -List.set_cons_succ, -List.set_cons_zero]
      refine call_mv (stop_mv s a (-1) a) hp h2 hi (by simp [Ob.re, C.re]) (zeroA_re _) (hf1 _ _) ?_
      simp -implicitDefEqProofs [zeroA, ro_len, row_len, take_row, drop_row, pure_d, re_d, thaw_d, fits_map, hfr, hf1, go_sem, -List.set_cons_succ, -List.set_cons_zero]
      exact fin_nil rfl ⟨trivial, trivial⟩ (hg0 _ _) rfl fun x => rqo_bad zf ha
end
/-- the program's reader does what it is said to do -/
theorem pro (s : List UInt8) (hs : s.length ≤ 1000000) : ∀ f, Pro s f := by
  intro f
  induction f using Nat.strongRecOn with
  | ind f ih =>
    cases f with
    | zero => exact ⟨fun _ _ _ _ _ _ _ h => (by cases h), fun _ _ _ _ _ h => (by cases h)⟩
    | succ f =>
      have h : ∀ g, g ≤ f → Pro s g := fun g hg => ih g (by omega)
      exact ⟨fun l d a r ha hl hd hr => termO_of hs h l d a r ha hl hd hr, fun d a r ha hd hr => primeO_of hs h d a r ha hd hr⟩
end Go.Proofs.YtgfmlifkhpjplaaGreatDoor

/-
  Names and operators as the reference reads them.
  Conditions: none.
-/
open Go Go.AM Go.Proofs
namespace Go.Proofs.YtgfmlifkhpjplaaGreatDoor
open Go.ChangeShapes Go.WideShapes Go.ChangeAt Go.RowKit
set_option linter.unusedVariables false
set_option linter.unusedSimpArgs false
set_option maxRecDepth 100000
-- 82 loop.example/prologserver/spec.l1Name params 2 ntmps 77
-- loop head live: [0,1,6]
-- loop head live: [0,1,7,8,9]
def ac82 : Cd := .seq (.region [⟨(some 4),.mv (.k (.c (.d (.str [])))),none⟩,
 ⟨(some 5),.mv (.k (.c (.d (.int .i64 0)))),none⟩] [4,5])
 (.seq (.region [⟨(some 11),.mv (.t 1),none⟩,
 ⟨(some 6),.mv (.t 11),none⟩] [11])
 (.seq (.block 0 (.loop (.seq (.seq (.region [⟨(some 12),.mv (.t 0),none⟩,
 ⟨(some 13),.mv (.t 6),none⟩,
 ⟨(some 14),.qcall 107 [(.t 12),(.t 13)],none⟩] [12,13])
 (.cond (.t 14)
 (.skip)
 (.exit 0)))
 (.block 1 (.region [⟨(some 15),.mv (.t 6),none⟩,
 ⟨(some 16),.bin .add (.t 15) (.k (.c (.d (.int .i64 1)))),none⟩,
 ⟨(some 6),.mv (.t 16),none⟩] [14,15,16])))))
 (.seq (.seq (.region [⟨(some 17),.mv (.t 6),none⟩,
 ⟨(some 18),.mv (.t 1),none⟩,
 ⟨(some 19),.bin .add (.t 18) (.k (.c (.d (.int .i64 6)))),none⟩,
 ⟨(some 20),.bin .gtr (.t 17) (.t 19),none⟩] [17,18,19])
 (.cond (.t 20)
 (.seq (.region [⟨(some 4),.mv (.k (.c (.d (.str [])))),none⟩,
 ⟨(some 5),.mv (.k (.c (.d (.int .i64 (-1))))),none⟩] [0,1,6,20])
 (.ret))
 (.skip)))
 (.seq (.seq (.region [⟨(some 21),.mv (.t 6),none⟩,
 ⟨(some 22),.mv (.t 1),none⟩,
 ⟨(some 23),.bin .gtr (.t 21) (.t 22),none⟩] [4,5,20,21,22])
 (.cond (.t 23)
 (.seq (.region [⟨(some 24),.mv (.t 0),none⟩,
 ⟨(some 25),.mv (.t 1),none⟩,
 ⟨(some 26),.mv (.t 6),none⟩,
 ⟨(some 27),.slice 0 (.t 24) (some (.t 25)) (some (.t 26)) none,none⟩,
 ⟨(some 28),.mv (.t 6),none⟩,
 ⟨(some 4),.mv (.t 27),none⟩,
 ⟨(some 5),.mv (.t 28),none⟩] [0,1,6,23,24,25,26,27,28])
 (.ret))
 (.skip)))
 (.seq (.region [⟨(some 7),.mv (.k (.c (.d (.str [])))),none⟩] [4,5,6,23])
 (.seq (.region [⟨(some 29),.qcall 108 [],none⟩,
 ⟨(some 8),.mv (.t 29),none⟩] [29])
 (.seq (.seq (.region [⟨(some 9),.mv (.k (.c (.d (.int .i64 0)))),none⟩] [])
 (.block 2 (.loop (.seq (.seq (.region [⟨(some 30),.mv (.t 9),none⟩,
 ⟨(some 31),.mv (.t 8),none⟩,
 ⟨(some 32),.len 1 (.t 31),none⟩,
 ⟨(some 33),.bin .lss (.t 30) (.t 32),none⟩] [30,31,32])
 (.cond (.t 33)
 (.skip)
 (.exit 2)))
 (.seq (.block 3 (.seq (.region [⟨(some 36),.mv (.t 8),none⟩,
 ⟨(some 37),.mv (.t 9),none⟩,
 ⟨(some 38),.indexAddr 1 (.t 36) (.t 37),none⟩,
 ⟨(some 39),.load none (.t 38),none⟩,
 ⟨(some 40),.len 0 (.t 39),none⟩,
 ⟨(some 10),.mv (.t 40),none⟩] [33,36,37,38,39,40])
 (.seq (.region [⟨(some 41),.mv (.t 1),none⟩,
 ⟨(some 42),.mv (.t 10),none⟩,
 ⟨(some 43),.bin .add (.t 41) (.t 42),none⟩,
 ⟨(some 44),.mv (.t 0),none⟩,
 ⟨(some 45),.len 0 (.t 44),none⟩,
 ⟨(some 46),.bin .leq (.t 43) (.t 45),none⟩,
 ⟨(some 47),.mv (.t 46),none⟩,
 ⟨(some 48),.mv (.t 0),some (47,true)⟩,
 ⟨(some 49),.mv (.t 1),some (47,true)⟩,
 ⟨(some 50),.mv (.t 1),some (47,true)⟩,
 ⟨(some 51),.mv (.t 10),some (47,true)⟩,
 ⟨(some 52),.bin .add (.t 50) (.t 51),some (47,true)⟩,
 ⟨(some 53),.slice 0 (.t 48) (some (.t 49)) (some (.t 52)) none,some (47,true)⟩,
 ⟨(some 54),.mv (.t 8),some (47,true)⟩,
 ⟨(some 55),.mv (.t 9),some (47,true)⟩,
 ⟨(some 56),.indexAddr 1 (.t 54) (.t 55),some (47,true)⟩,
 ⟨(some 57),.load none (.t 56),some (47,true)⟩,
 ⟨(some 58),.bin .eql (.t 53) (.t 57),some (47,true)⟩,
 ⟨(some 59),.pick (.t 47) (.t 58) (.k (.c (.d (.bool false)))),none⟩,
 ⟨(some 60),.mv (.t 59),none⟩,
 ⟨(some 61),.mv (.t 10),some (60,true)⟩,
 ⟨(some 62),.mv (.t 7),some (60,true)⟩,
 ⟨(some 63),.len 0 (.t 62),some (60,true)⟩,
 ⟨(some 64),.bin .gtr (.t 61) (.t 63),some (60,true)⟩,
 ⟨(some 65),.pick (.t 60) (.t 64) (.k (.c (.d (.bool false)))),none⟩] [10,41,42,43,44,45,46,47,48,49,50,51,52,53,54,55,56,57,58,59,60,61,62,63,64])
 (.cond (.t 65)
 (.region [⟨(some 66),.mv (.t 8),none⟩,
 ⟨(some 67),.mv (.t 9),none⟩,
 ⟨(some 68),.indexAddr 1 (.t 66) (.t 67),none⟩,
 ⟨(some 69),.load none (.t 68),none⟩,
 ⟨(some 7),.mv (.t 69),none⟩] [65,66,67,68,69])
 (.skip)))))
 (.region [⟨(some 34),.mv (.t 9),none⟩,
 ⟨(some 35),.bin .add (.t 34) (.k (.c (.d (.int .i64 1)))),none⟩,
 ⟨(some 9),.mv (.t 35),none⟩] [34,35,65]))))))
 (.seq (.seq (.region [⟨(some 70),.mv (.t 7),none⟩,
 ⟨(some 71),.bin .eql (.t 70) (.k (.c (.d (.str [])))),none⟩] [70])
 (.cond (.t 71)
 (.seq (.region [⟨(some 4),.mv (.k (.c (.d (.str [])))),none⟩,
 ⟨(some 5),.mv (.k (.c (.d (.int .i64 (-1))))),none⟩] [1,7,71])
 (.ret))
 (.skip)))
 (.seq (.region [⟨(some 72),.mv (.t 7),none⟩,
 ⟨(some 73),.mv (.t 1),none⟩,
 ⟨(some 74),.mv (.t 7),none⟩,
 ⟨(some 75),.len 0 (.t 74),none⟩,
 ⟨(some 76),.bin .add (.t 73) (.t 75),none⟩,
 ⟨(some 4),.mv (.t 72),none⟩,
 ⟨(some 5),.mv (.t 76),none⟩] [1,7,71,72,73,74,75,76])
 (.ret))))))))))
theorem ac82_ok : cFunc Tryz.prog [1000107,1000108] [(0,[4,5],[]),(1,[11],[]),(2,[12,13],[]),(3,[14,15,16],[]),(4,[17,18,19],[]),(5,[0,1,6,20],[]),(6,[4,5,20,21,22],[]),(7,[0,1,6,23,24,25,26,27,28],[]),(8,[4,5,6,23],[]),(9,[29],[]),(10,[],[]),(11,[30,31,32],[]),(13,[33,36,37,38,39,40],[]),(14,[10,41,42,43,44,45,46,47,48,49,50,51,52,53,54,55,56,57,58,59,60,61,62,63,64],[0,1,2,3,4,5,6,7,8,9,10,11,12,13,14,15,16,17,18,19,20,21,22,23,24]),(15,[65,66,67,68,69],[]),(12,[34,35,65],[]),(16,[70],[]),(17,[1,7,71],[]),(18,[1,7,71,72,73,74,75,76],[])] Tryz.f82 = some (ac82,[.tmp 4,.tmp 5],77) := by kernel_rfl
-- 46 loop.example/prologserver/spec.l2Op params 2 ntmps 61
def ac46 : Cd := .seq (.region [⟨(some 4),.mv (.k (.c (.d (.str [])))),none⟩,
 ⟨(some 5),.mv (.k (.c (.d (.int .i64 0)))),none⟩] [4,5])
 (.seq (.region [⟨(some 10),.mv (.t 1),none⟩,
 ⟨(some 6),.mv (.t 10),none⟩] [10])
 (.seq (.seq (.region [⟨(some 11),.mv (.t 0),none⟩,
 ⟨(some 12),.mv (.t 1),none⟩,
 ⟨(some 13),.qcall 77 [(.t 11),(.t 12),(.k (.c (.d (.int .u8 32))))],none⟩] [11,12])
 (.cond (.t 13)
 (.region [⟨(some 14),.mv (.t 1),none⟩,
 ⟨(some 15),.bin .add (.t 14) (.k (.c (.d (.int .i64 1)))),none⟩,
 ⟨(some 6),.mv (.t 15),none⟩] [13,14,15])
 (.skip)))
 (.seq (.seq (.region [⟨(some 16),.mv (.t 6),none⟩,
 ⟨(some 17),.mv (.t 0),none⟩,
 ⟨(some 18),.len 0 (.t 17),none⟩,
 ⟨(some 19),.bin .geq (.t 16) (.t 18),none⟩] [13,16,17,18])
 (.cond (.t 19)
 (.seq (.region [⟨(some 20),.mv (.t 1),none⟩,
 ⟨(some 4),.mv (.k (.c (.d (.str [])))),none⟩,
 ⟨(some 5),.mv (.t 20),none⟩] [0,1,6,19,20])
 (.ret))
 (.skip)))
 (.seq (.region [⟨(some 22),.mv (.t 0),none⟩,
 ⟨(some 23),.mv (.t 6),none⟩,
 ⟨(some 24),.qcall 82 [(.t 22),(.t 23)],none⟩,
 ⟨(some 21),.mv (.t 24),none⟩,
 ⟨(some 25),.extract 0 (.t 21),none⟩,
 ⟨(some 26),.extract 1 (.t 21),none⟩,
 ⟨(some 7),.mv (.t 25),none⟩,
 ⟨(some 8),.mv (.t 26),none⟩] [4,5,19,21,22,23,24,25,26])
 (.seq (.seq (.region [⟨(some 27),.mv (.t 8),none⟩,
 ⟨(some 28),.bin .lss (.t 27) (.k (.c (.d (.int .i64 0)))),none⟩,
 ⟨(some 29),.mv (.t 28),none⟩,
 ⟨(some 30),.mv (.t 7),some (29,false)⟩,
 ⟨(some 31),.qcall 47 [(.t 30)],some (29,false)⟩,
 ⟨(some 32),.bin .eql (.t 31) (.k (.c (.d (.int .i64 0)))),some (29,false)⟩,
 ⟨(some 33),.pick (.t 29) (.k (.c (.d (.bool true)))) (.t 32),none⟩] [27,28,29,30,31,32])
 (.cond (.t 33)
 (.seq (.region [⟨(some 34),.mv (.t 1),none⟩,
 ⟨(some 4),.mv (.k (.c (.d (.str [])))),none⟩,
 ⟨(some 5),.mv (.t 34),none⟩] [0,1,6,7,8,33,34])
 (.ret))
 (.skip)))
 (.seq (.region [⟨(some 35),.mv (.t 7),none⟩,
 ⟨(some 36),.bin .eql (.t 35) (.k (.c (.d (.str [105,115])))),none⟩,
 ⟨(some 37),.mv (.t 36),none⟩,
 ⟨(some 38),.mv (.t 7),some (37,false)⟩,
 ⟨(some 39),.bin .eql (.t 38) (.k (.c (.d (.str [109,111,100])))),some (37,false)⟩,
 ⟨(some 40),.pick (.t 37) (.k (.c (.d (.bool true)))) (.t 39),none⟩,
 ⟨(some 9),.mv (.t 40),none⟩] [4,5,33,35,36,37,38,39,40])
 (.seq (.seq (.region [⟨(some 41),.mv (.t 9),none⟩,
 ⟨(some 42),.mv (.t 6),none⟩,
 ⟨(some 43),.mv (.t 1),none⟩,
 ⟨(some 44),.bin .gtr (.t 42) (.t 43),none⟩,
 ⟨(some 45),.binB true (.t 41) (.t 44),none⟩,
 ⟨(some 46),.mv (.t 45),none⟩,
 ⟨(some 47),.mv (.t 9),some (46,false)⟩,
 ⟨(some 48),.mv (.t 47),some (46,false)⟩,
 ⟨(some 49),.mv (.t 0),some (48,true)⟩,
 ⟨(some 50),.mv (.t 8),some (48,true)⟩,
 ⟨(some 51),.qcall 77 [(.t 49),(.t 50),(.k (.c (.d (.int .u8 32))))],some (48,true)⟩,
 ⟨(some 52),.un .not (.t 51),some (48,true)⟩,
 ⟨(some 53),.pick (.t 48) (.t 52) (.k (.c (.d (.bool false)))),some (46,false)⟩,
 ⟨(some 54),.pick (.t 46) (.k (.c (.d (.bool true)))) (.t 53),none⟩] [0,6,41,42,43,44,45,46,47,48,49,50,51,52,53])
 (.cond (.t 54)
 (.seq (.region [⟨(some 55),.mv (.t 1),none⟩,
 ⟨(some 4),.mv (.k (.c (.d (.str [])))),none⟩,
 ⟨(some 5),.mv (.t 55),none⟩] [1,7,8,9,54,55])
 (.ret))
 (.skip)))
 (.seq (.seq (.region [⟨(some 56),.mv (.t 9),none⟩] [1,4,5,9,54])
 (.cond (.t 56)
 (.region [⟨(some 57),.mv (.t 8),none⟩,
 ⟨(some 58),.bin .add (.t 57) (.k (.c (.d (.int .i64 1)))),none⟩,
 ⟨(some 8),.mv (.t 58),none⟩] [56,57,58])
 (.skip)))
 (.seq (.region [⟨(some 59),.mv (.t 7),none⟩,
 ⟨(some 60),.mv (.t 8),none⟩,
 ⟨(some 4),.mv (.t 59),none⟩,
 ⟨(some 5),.mv (.t 60),none⟩] [7,8,56,59,60])
 (.ret))))))))))
theorem ac46_ok : cFunc Tryz.prog [1000047,1000077,1000082] [(0,[4,5],[]),(1,[10],[]),(2,[11,12],[]),(3,[13,14,15],[]),(4,[13,16,17,18],[]),(5,[0,1,6,19,20],[]),(6,[4,5,19,21,22,23,24,25,26],[]),(7,[27,28,29,30,31,32],[]),(8,[0,1,6,7,8,33,34],[]),(9,[4,5,33,35,36,37,38,39,40],[]),(10,[0,6,41,42,43,44,45,46,47,48,49,50,51,52,53],[]),(11,[1,7,8,9,54,55],[]),(12,[1,4,5,9,54],[]),(13,[56,57,58],[]),(14,[7,8,56,59,60],[])] Tryz.f46 = some (ac46,[.tmp 4,.tmp 5],61) := by kernel_rfl
def nameA : Option (List UInt8 × Nat) → A
  | some (n, j) => .tup [.c (.d (.str n)), .c (.d (.int .i64 j))]
  | none => .tup [.c (.d (.str [])), .c (.d (.int .i64 (-1)))]
set_option maxHeartbeats 1600000 in
theorem name_calls (s : List UInt8) (hs : s.length ≤ 1000000) (i : Nat) (hi : i ≤ s.length) (H : Heap) : ACalls Tryz.prog 82 [.c (.d (.str s)), .c (.d (.int .i64 i))] H (fun r H' => H' = H ∧ r = nameA (nameR s i)) := by
  refine acalls Tryz.func82 (by kernel_rfl) ac82_ok fun hf => ?_
  have hli : inR .i64 (s.length : Int) := small_i64 (by omega) (by omega)
  simp -implicitDefEqProofs [ac82, go_sem, -List.set_cons_succ, -List.set_cons_zero]
  refine loop_set (σ := Nat) (fun k => [(6, .c (.d (.int .i64 ((i + k : Nat) : Int))))]) (fun _ => H) (fun _ => []) (fun k => i + k ≤ s.length ∧ ∀ m, m < k → smaAt s (i + m) = true) (fun k => s.length - (i + k)) 0 (by simp [setAll]) ⟨by omega, by simp⟩ ?_
  rintro k ⟨hkl, hkd⟩
  have hk1 : inR .i64 ((i : Int) + (k : Int) + 1) := small_i64 (by omega) (by omega)
  simp -implicitDefEqProofs [setAll, go_sem, -List.set_cons_succ, -List.set_cons_zero]
  have cd := small_calls s hs (i + k) (by omega)
  simp only [Int.natCast_add] at cd
  refine qcall_pure cd hf rfl ?_
  cases hsm : smaAt s (i + k) with
  | true =>
    have hlt := sma_lt _ hsm
    simp -implicitDefEqProofs [hk1, go_sem, -List.set_cons_succ, -List.set_cons_zero]
    exact loop_back (k + 1) (by simp [setAll, Int.add_assoc]) ⟨by omega, fun m hm => by
      rcases Nat.lt_or_ge m k with h | h
      · exact hkd m h
      · obtain rfl : m = k := by omega
        exact hsm⟩ (by show s.length - (i + (k + 1)) < s.length - (i + k); omega)
  | false =>
    have he : runE smaAt s s.length i = i + k := runE_stop s.length i k (by omega) hkd (.inr hsm)
    have hi6 : inR .i64 ((i : Int) + 6) := small_i64 (by omega) (by omega)
    unfold nameR
    rw [he]
    by_cases h6 : i + 6 < i + k
    · have h6' : (i : Int) + 6 < (i : Int) + k := by omega
      simp -implicitDefEqProofs [hi6, h6, h6', nameA, go_sem, -List.set_cons_succ, -List.set_cons_zero]
    · have h6' : ¬ (i : Int) + 6 < (i : Int) + k := by omega
      rw [if_neg h6]
      by_cases h0 : i < i + k
      · have h0' : (i : Int) < (i : Int) + k := by omega
        rw [if_pos h0]
        simp -implicitDefEqProofs [hi6, h6', h0', nameA, go_sem, -List.set_cons_succ, -List.set_cons_zero]
        have hnat : ((i : Int) + (k : Int)).toNat = i + k := by omega
        rw [hnat]
        exact ⟨by omega, rfl⟩
      · obtain rfl : k = 0 := by omega
        rw [if_neg h0]
        have h6n : ¬ (i : Int) + 6 < (i : Int) := by omega
        simp -implicitDefEqProofs [hi6, h6n, go_sem, -List.set_cons_succ, -List.set_cons_zero]
        refine qcall_pure l1Signs_calls hf rfl ?_
        simp -implicitDefEqProofs [go_sem, -List.set_cons_succ, -List.set_cons_zero]
        obtain ⟨G, hG⟩ : ∃ G, G = bestS s i signs [] := ⟨_, rfl⟩
        rw [← hG]
        have hsl : signs.length = 15 := rfl
        have hs15 : inR .i64 (15 : Int) := small_i64 (by omega) (by omega)
        refine loop_set (σ := Nat × List UInt8) (fun x => [(9, .c (.d (.int .i64 x.1))), (7, .c (.d (.str x.2)))]) (fun _ => H) (fun _ => []) (fun x => x.1 ≤ 15 ∧ bestS s i (signs.drop x.1) x.2 = G ∧ x.2.length ≤ 3) (fun x => 15 - x.1) (0, []) (by simp [setAll]) ⟨by omega, by rw [hG]; rfl, by simp⟩ ?_
        rintro ⟨j, b⟩ ⟨hj, h1, h2⟩
        simp only at hj h1 h2
        simp -implicitDefEqProofs [setAll, hsl, hs15, go_sem, -List.set_cons_succ, -List.set_cons_zero]
        refine ⟨fun hlt => ?_, fun hge => ?_⟩
        · have hlt' : j < signs.length := by rw [hsl]; omega
          have hd : signs.drop j = signs[j] :: signs.drop (j + 1) := List.drop_eq_getElem_cons hlt'
          rw [hd, bestS] at h1
          have h3 : signs[j].length ≤ 3 := by
            have : ∀ n ∈ signs, n.length ≤ 3 := by decide
            exact this _ (List.getElem_mem hlt')
          have hrow : (signs.map strRow)[j]? = some [.str signs[j]] := by simp [hlt', strRow]
          obtain ⟨w, hw⟩ : ∃ w, w = signs[j] := ⟨_, rfl⟩
          rw [← hw] at h1 h3 hrow
          have hwl : inR .i64 (w.length : Int) := small_i64 (by omega) (by omega)
          have hbl : inR .i64 (b.length : Int) := small_i64 (by omega) (by omega)
          have hiw : inR .i64 ((i : Int) + (w.length : Int)) := small_i64 (by omega) (by omega)
          have hadd : inR .i64 ((j : Int) + 1) := small_i64 (by omega) (by omega)
          have hnat : ((i : Int) + (w.length : Int)).toNat = i + w.length := by omega
          have hcut : (s.take (i + w.length)).drop i = cutS s i (i + w.length) := rfl
          refine row_nat _ hrow rfl ?_
          by_cases hle : i + w.length ≤ s.length
          · have hle' : (i : Int) + (w.length : Int) ≤ (s.length : Int) := by omega
            simp -implicitDefEqProofs [hwl, hiw, hli, hnat, hcut, hle', go_sem, -List.set_cons_succ, -List.set_cons_zero]
            refine ⟨by omega, row_nat _ hrow rfl ?_⟩
            cases heq : cutS s i (i + w.length) == w with
            | true =>
              by_cases hbw : b.length < w.length
              · have hbw' : (b.length : Int) < (w.length : Int) := by omega
                simp only [hle, hbw, heq, decide_true, Bool.and_self, if_true] at h1
                simp -implicitDefEqProofs [hbl, hbw', heq, go_sem, -List.set_cons_succ, -List.set_cons_zero]
                refine row_nat _ hrow rfl ?_
                simp -implicitDefEqProofs [hadd, go_sem, -List.set_cons_succ, -List.set_cons_zero]
                exact loop_back (j + 1, w) (by simp [setAll]) ⟨by omega, h1, h3⟩ (by show 15 - (j + 1) < 15 - j; omega)
              · have hbw' : ¬ (b.length : Int) < (w.length : Int) := by omega
                simp only [hle, hbw, heq, decide_true, decide_false, Bool.and_false, Bool.false_eq_true, if_false] at h1
                simp -implicitDefEqProofs [hbl, hbw', heq, hadd, go_sem, -List.set_cons_succ, -List.set_cons_zero]
                exact loop_back (j + 1, b) (by simp [setAll]) ⟨by omega, h1, h2⟩ (by show 15 - (j + 1) < 15 - j; omega)
            | false =>
              simp only [heq, Bool.and_false, Bool.false_and, Bool.false_eq_true, if_false] at h1
              simp -implicitDefEqProofs [hbl, heq, hadd, go_sem, -List.set_cons_succ, -List.set_cons_zero]
              exact loop_back (j + 1, b) (by simp [setAll]) ⟨by omega, h1, h2⟩ (by show 15 - (j + 1) < 15 - j; omega)
          · have hle' : ¬ (i : Int) + (w.length : Int) ≤ (s.length : Int) := by omega
            simp only [hle, decide_false, Bool.false_and, Bool.false_eq_true, if_false] at h1
            simp -implicitDefEqProofs [hwl, hiw, hli, hnat, hcut, hle', go_sem, -List.set_cons_succ, -List.set_cons_zero]
            refine row_off [.str []] ?_
            simp -implicitDefEqProofs [hbl, hadd, go_sem, -List.set_cons_succ, -List.set_cons_zero]
            exact loop_back (j + 1, b) (by simp [setAll]) ⟨by omega, h1, h2⟩ (by show 15 - (j + 1) < 15 - j; omega)
        · obtain rfl : j = 15 := by omega
          have h15 : signs.drop 15 = [] := rfl
          rw [h15, bestS] at h1
          subst h1
          have hbl : inR .i64 (b.length : Int) := small_i64 (by omega) (by omega)
          have hib : inR .i64 ((i : Int) + (b.length : Int)) := small_i64 (by omega) (by omega)
          cases hb : b with
          | nil => simp -implicitDefEqProofs [hb, nameA, go_sem, -List.set_cons_succ, -List.set_cons_zero]
          | cons c r =>
            rw [hb] at hbl hib
            simp at hbl hib
            simp -implicitDefEqProofs [hb, nameA, hbl, hib, go_sem, -List.set_cons_succ, -List.set_cons_zero]
/-- what an operator is told by -/
def opA (i : Nat) : Option (List UInt8 × Nat) → A
  | some (n, j) => .tup [.c (.d (.str n)), .c (.d (.int .i64 j))]
  | none => .tup [.c (.d (.str [])), .c (.d (.int .i64 i))]
set_option maxHeartbeats 1600000 in
theorem op_calls (s : List UInt8) (hs : s.length ≤ 1000000) (i : Nat) (hi : i ≤ s.length) (H : Heap) : ACalls Tryz.prog 46 [.c (.d (.str s)), .c (.d (.int .i64 i))] H (fun r H' => H' = H ∧ r = opA i (opR s i)) := by
  refine acalls Tryz.func46 (by kernel_rfl) ac46_ok fun hf => ?_
  have hli : inR .i64 (s.length : Int) := small_i64 (by omega) (by omega)
  have hi1 : inR .i64 ((i : Int) + 1) := small_i64 (by omega) (by omega)
  simp -implicitDefEqProofs [ac46, go_sem, -List.set_cons_succ, -List.set_cons_zero]
  refine qcall_pure (sign_calls s hs i (by omega) 32) hf rfl ?_
  unfold opR
  cases hsg : sgn s i 32 with
  | true =>
    have hlt := sgn_lt hsg
    simp -implicitDefEqProofs [hi1, hli, go_sem, -List.set_cons_succ, -List.set_cons_zero]
    refine ⟨fun h => ?_, fun h => ?_⟩
    · have h' : s.length ≤ i + 1 := by omega
      simp -implicitDefEqProofs [h', opA, go_sem, -List.set_cons_succ, -List.set_cons_zero]
    have hP : ¬ s.length ≤ i + 1 := by omega
    have cn := name_calls s hs (i + 1) (by omega)
    try simp only [Int.natCast_add, Int.cast_ofNat_Int] at cn
    rw [if_neg hP]
    cases hn : nameR s (i + 1) with
    | none =>
      rw [hn] at cn
      refine qcall_pure cn hf rfl ?_
      simp -implicitDefEqProofs [nameA, opA, go_sem, -List.set_cons_succ, -List.set_cons_zero]
    | some q =>
      obtain ⟨w, j⟩ := q
      rw [hn] at cn
      have ho := nameR_ok (by omega) hn
      have hj1 : inR .i64 ((j : Int) + 1) := small_i64 (by omega) (by omega)
      have hj0 : ¬ (j : Int) < 0 := by omega
      refine qcall_pure cn hf rfl ?_
      simp -implicitDefEqProofs [nameA, hj0, go_sem, -List.set_cons_succ, -List.set_cons_zero]
      refine qcall_pure (level_calls w) hf rfl ?_
      by_cases hl : levelN w = 0
      · simp -implicitDefEqProofs [hl, opA, go_sem, -List.set_cons_succ, -List.set_cons_zero]
      · have hl' : (levelN w == 0) = false := by simp [hl]
        have hii : (i : Int) < (i : Int) + 1 := by omega
        have cs := sign_calls s hs j (by omega) 32
        by_cases e1 : w = [105, 115]
        · subst e1
          have hwb : wordB [105, 115] = true := rfl
          simp -implicitDefEqProofs [hl, hl', hii, hwb, go_sem, -List.set_cons_succ, -List.set_cons_zero]
          refine qcall_pure cs hf rfl ?_
          cases hs2 : sgn s j 32 <;> simp -implicitDefEqProofs [opA, hj1, hf, go_sem, -List.set_cons_succ, -List.set_cons_zero]
        · by_cases e2 : w = [109, 111, 100]
          · subst e2
            have hwb : wordB [109, 111, 100] = true := rfl
            simp -implicitDefEqProofs [hl, hl', hii, hwb, go_sem, -List.set_cons_succ, -List.set_cons_zero]
            refine qcall_pure cs hf rfl ?_
            cases hs2 : sgn s j 32 <;> simp -implicitDefEqProofs [opA, hj1, hf, go_sem, -List.set_cons_succ, -List.set_cons_zero]
          · have hwb : wordB w = false := by simp [wordB, e1, e2]
            have e1' : (w == [105, 115]) = false := by simp [e1]
            have e2' : (w == [109, 111, 100]) = false := by simp [e2]
            simp -implicitDefEqProofs [hl, hl', hii, hwb, e1, e2, e1', e2', opA, hf, go_sem, -List.set_cons_succ, -List.set_cons_zero]
  | false =>
    simp -implicitDefEqProofs [hi1, hli, go_sem, -List.set_cons_succ, -List.set_cons_zero]
    refine ⟨fun h => ?_, fun h => ?_⟩
    · have h' : s.length ≤ i := by omega
      simp -implicitDefEqProofs [h', opA, go_sem, -List.set_cons_succ, -List.set_cons_zero]
    have hP : ¬ s.length ≤ i := by omega
    have cn := name_calls s hs (i) (by omega)
    try simp only [Int.natCast_add, Int.cast_ofNat_Int] at cn
    rw [if_neg hP]
    cases hn : nameR s (i) with
    | none =>
      rw [hn] at cn
      refine qcall_pure cn hf rfl ?_
      simp -implicitDefEqProofs [nameA, opA, go_sem, -List.set_cons_succ, -List.set_cons_zero]
    | some q =>
      obtain ⟨w, j⟩ := q
      rw [hn] at cn
      have ho := nameR_ok (by omega) hn
      have hj1 : inR .i64 ((j : Int) + 1) := small_i64 (by omega) (by omega)
      have hj0 : ¬ (j : Int) < 0 := by omega
      refine qcall_pure cn hf rfl ?_
      simp -implicitDefEqProofs [nameA, hj0, go_sem, -List.set_cons_succ, -List.set_cons_zero]
      refine qcall_pure (level_calls w) hf rfl ?_
      by_cases hl : levelN w = 0
      · simp -implicitDefEqProofs [hl, opA, go_sem, -List.set_cons_succ, -List.set_cons_zero]
      · have hl' : (levelN w == 0) = false := by simp [hl]
        have hii : (i : Int) < (i : Int) + 1 := by omega
        have cs := sign_calls s hs j (by omega) 32
        by_cases e1 : w = [105, 115]
        · subst e1
          have hwb : wordB [105, 115] = true := rfl
          simp -implicitDefEqProofs [hl, hl', hii, hwb, go_sem, -List.set_cons_succ, -List.set_cons_zero]
          simp -implicitDefEqProofs [opA, hf, go_sem, -List.set_cons_succ, -List.set_cons_zero]
        · by_cases e2 : w = [109, 111, 100]
          · subst e2
            have hwb : wordB [109, 111, 100] = true := rfl
            simp -implicitDefEqProofs [hl, hl', hii, hwb, go_sem, -List.set_cons_succ, -List.set_cons_zero]
            simp -implicitDefEqProofs [opA, hf, go_sem, -List.set_cons_succ, -List.set_cons_zero]
          · have hwb : wordB w = false := by simp [wordB, e1, e2]
            have e1' : (w == [105, 115]) = false := by simp [e1]
            have e2' : (w == [109, 111, 100]) = false := by simp [e2]
            simp -implicitDefEqProofs [hl, hl', hii, hwb, e1, e2, e1', e2', opA, hf, go_sem, -List.set_cons_succ, -List.set_cons_zero]
end Go.Proofs.YtgfmlifkhpjplaaGreatDoor

/-
  The reference's parser does what it is said to do: terms, lists, operators.
  Conditions: none.
-/
open Go Go.AM Go.Proofs
namespace Go.Proofs.YtgfmlifkhpjplaaGreatDoor
open Go.ChangeShapes Go.WideShapes Go.ChangeAt Go.RowKit
set_option linter.unusedVariables false
set_option linter.unusedSimpArgs false
set_option maxRecDepth 100000
-- 76 loop.example/prologserver/spec.l2Fails params 1 ntmps 7
def ac76 : Cd := .seq (.region [⟨(some 2),.alloc [(.d (.int .i64 0)),(.d (.int .i64 0)),(.d (.str [])),(.full [])],none⟩,
 ⟨(some 3),.mv (.k (.c (.d (.int .i64 0)))),none⟩] [3])
 (.seq (.region [⟨(some 4),.build [(.d (.int .i64 0)),(.d (.int .i64 0)),(.d (.str [])),(.full [])] [],none⟩,
 ⟨(some 5),.mv (.t 0),none⟩,
 ⟨(some 6),.bin .sub (.k (.c (.d (.int .i64 (-1))))) (.t 5),none⟩,
 ⟨none,.store 4 (.t 2) (.t 4),none⟩,
 ⟨(some 3),.mv (.t 6),none⟩] [0,4,5,6])
 (.ret))
theorem ac76_ok : cFunc Tryz.prog [] [(0,[3],[]),(1,[0,4,5,6],[])] Tryz.f76 = some (ac76,[.cell 2 (some 4),.tmp 3],7) := by kernel_rfl
-- 83 loop.example/prologserver/spec.l2Terms params 5 ntmps 50
-- loop head live: [0,1,2,3,4,12]
def ac83 : Cd := .seq (.region [⟨(some 10),.mv (.k (.c (.full []))),none⟩,
 ⟨(some 11),.mv (.k (.c (.d (.int .i64 0)))),none⟩] [10,11])
 (.seq (.region [⟨(some 15),.buildSlice 4 0 [(.int .i64 0),(.int .i64 0),(.str []),(.sl [])] [],none⟩,
 ⟨(some 12),.mv (.t 15),none⟩] [15])
 (.block 0 (.loop (.block 1 (.seq (.region [⟨(some 17),.mv (.t 0),none⟩,
 ⟨(some 18),.mv (.t 1),none⟩,
 ⟨(some 19),.mv (.t 2),none⟩,
 ⟨(some 20),.qcall 27 [(.t 17),(.t 18),(.t 19),(.k (.c (.d (.int .i64 3))))],none⟩,
 ⟨(some 16),.mv (.t 20),none⟩,
 ⟨(some 21),.extract 0 (.t 16),none⟩,
 ⟨(some 22),.extract 1 (.t 16),none⟩,
 ⟨(some 13),.alloc [(.d (.int .i64 0)),(.d (.int .i64 0)),(.d (.str [])),(.full [])],none⟩,
 ⟨none,.store 4 (.t 13) (.t 21),none⟩,
 ⟨(some 14),.mv (.t 22),none⟩] [1,16,17,18,19,20,21,22])
 (.seq (.seq (.region [⟨(some 23),.mv (.t 14),none⟩,
 ⟨(some 24),.bin .lss (.t 23) (.k (.c (.d (.int .i64 0)))),none⟩] [23])
 (.cond (.t 24)
 (.seq (.region [⟨(some 25),.mv (.t 14),none⟩,
 ⟨(some 10),.mv (.k (.c (.full []))),none⟩,
 ⟨(some 11),.mv (.t 25),none⟩] [0,2,3,4,12,13,14,24,25])
 (.ret))
 (.skip)))
 (.seq (.region [⟨(some 26),.mv (.t 12),none⟩,
 ⟨(some 27),.load (some 4) (.t 13),none⟩,
 ⟨(some 28),.buildSlice 4 1 [(.int .i64 0),(.int .i64 0),(.str []),(.sl [])] [(0,(.t 27))],none⟩,
 ⟨(some 29),.append false 4 (.t 26) (.t 28),none⟩,
 ⟨(some 12),.mv (.t 29),none⟩] [10,11,13,24,26,27,28,29])
 (.seq (.seq (.region [⟨(some 30),.mv (.t 0),none⟩,
 ⟨(some 31),.mv (.t 14),none⟩,
 ⟨(some 32),.mv (.t 3),none⟩,
 ⟨(some 33),.qcall 77 [(.t 30),(.t 31),(.t 32)],none⟩,
 ⟨(some 34),.mv (.t 33),none⟩,
 ⟨(some 35),.mv (.t 0),some (34,false)⟩,
 ⟨(some 36),.mv (.t 14),some (34,false)⟩,
 ⟨(some 37),.mv (.t 4),some (34,false)⟩,
 ⟨(some 38),.qcall 77 [(.t 35),(.t 36),(.t 37)],some (34,false)⟩,
 ⟨(some 39),.pick (.t 34) (.k (.c (.d (.bool true)))) (.t 38),none⟩] [30,31,32,33,34,35,36,37,38])
 (.cond (.t 39)
 (.seq (.region [⟨(some 40),.mv (.t 12),none⟩,
 ⟨(some 41),.mv (.t 14),none⟩,
 ⟨(some 10),.mv (.t 40),none⟩,
 ⟨(some 11),.mv (.t 41),none⟩] [0,2,3,4,12,14,39,40,41])
 (.ret))
 (.skip)))
 (.seq (.seq (.region [⟨(some 42),.mv (.t 0),none⟩,
 ⟨(some 43),.mv (.t 14),none⟩,
 ⟨(some 44),.qcall 77 [(.t 42),(.t 43),(.k (.c (.d (.int .u8 44))))],none⟩,
 ⟨(some 45),.un .not (.t 44),none⟩] [10,11,39,42,43,44])
 (.cond (.t 45)
 (.seq (.region [⟨(some 46),.mv (.t 14),none⟩,
 ⟨(some 47),.bin .sub (.k (.c (.d (.int .i64 (-1))))) (.t 46),none⟩,
 ⟨(some 10),.mv (.k (.c (.full []))),none⟩,
 ⟨(some 11),.mv (.t 47),none⟩] [0,2,3,4,12,14,45,46,47])
 (.ret))
 (.skip)))
 (.region [⟨(some 48),.mv (.t 14),none⟩,
 ⟨(some 49),.bin .add (.t 48) (.k (.c (.d (.int .i64 1)))),none⟩,
 ⟨(some 1),.mv (.t 49),none⟩] [10,11,14,45,48,49]))))))))))
theorem ac83_ok : cFunc Tryz.prog [1000027,1000077] [(0,[10,11],[]),(1,[15],[]),(2,[1,16,17,18,19,20,21,22],[]),(3,[23],[]),(4,[0,2,3,4,12,13,14,24,25],[]),(5,[10,11,13,24,26,27,28,29],[]),(6,[30,31,32,33,34,35,36,37,38],[]),(7,[0,2,3,4,12,14,39,40,41],[]),(8,[10,11,39,42,43,44],[]),(9,[0,2,3,4,12,14,45,46,47],[]),(10,[10,11,14,45,48,49],[])] Tryz.f83 = some (ac83,[.tmp 10,.tmp 11],50) := by kernel_rfl
-- 78 loop.example/prologserver/spec.l2Items params 3 ntmps 56
def ac78 : Cd := .seq (.region [⟨(some 6),.alloc [(.d (.int .i64 0)),(.d (.int .i64 0)),(.d (.str [])),(.full [])],none⟩,
 ⟨(some 7),.mv (.k (.c (.d (.int .i64 0)))),none⟩] [7])
 (.seq (.region [⟨(some 13),.mv (.t 0),none⟩,
 ⟨(some 14),.mv (.t 1),none⟩,
 ⟨(some 15),.mv (.t 2),none⟩,
 ⟨(some 16),.qcall 83 [(.t 13),(.t 14),(.t 15),(.k (.c (.d (.int .u8 93)))),(.k (.c (.d (.int .u8 124))))],none⟩,
 ⟨(some 12),.mv (.t 16),none⟩,
 ⟨(some 17),.extract 0 (.t 12),none⟩,
 ⟨(some 18),.extract 1 (.t 12),none⟩,
 ⟨(some 8),.mv (.t 17),none⟩,
 ⟨(some 9),.mv (.t 18),none⟩] [1,12,13,14,15,16,17,18])
 (.seq (.seq (.region [⟨(some 19),.mv (.t 9),none⟩,
 ⟨(some 20),.bin .lss (.t 19) (.k (.c (.d (.int .i64 0)))),none⟩] [19])
 (.cond (.t 20)
 (.seq (.region [⟨(some 21),.build [(.d (.int .i64 0)),(.d (.int .i64 0)),(.d (.str [])),(.full [])] [],none⟩,
 ⟨(some 22),.mv (.t 9),none⟩,
 ⟨none,.store 4 (.t 6) (.t 21),none⟩,
 ⟨(some 7),.mv (.t 22),none⟩] [0,2,8,9,20,21,22])
 (.ret))
 (.skip)))
 (.seq (.seq (.region [⟨(some 23),.mv (.t 0),none⟩,
 ⟨(some 24),.mv (.t 9),none⟩,
 ⟨(some 25),.qcall 77 [(.t 23),(.t 24),(.k (.c (.d (.int .u8 93))))],none⟩] [7,20,23,24])
 (.cond (.t 25)
 (.seq (.region [⟨(some 26),.mv (.t 8),none⟩,
 ⟨(some 27),.qcall 48 [(.k (.c (.d (.str [91,93])))),(.k (.c (.full [])))],none⟩,
 ⟨(some 28),.qcall 105 [(.t 26),(.t 27)],none⟩,
 ⟨(some 29),.mv (.t 9),none⟩,
 ⟨(some 30),.bin .add (.t 29) (.k (.c (.d (.int .i64 1)))),none⟩,
 ⟨none,.store 4 (.t 6) (.t 28),none⟩,
 ⟨(some 7),.mv (.t 30),none⟩] [0,2,8,9,25,26,27,28,29,30])
 (.ret))
 (.skip)))
 (.seq (.region [⟨(some 32),.mv (.t 0),none⟩,
 ⟨(some 33),.mv (.t 9),none⟩,
 ⟨(some 34),.bin .add (.t 33) (.k (.c (.d (.int .i64 1)))),none⟩,
 ⟨(some 35),.mv (.t 2),none⟩,
 ⟨(some 36),.qcall 27 [(.t 32),(.t 34),(.t 35),(.k (.c (.d (.int .i64 3))))],none⟩,
 ⟨(some 31),.mv (.t 36),none⟩,
 ⟨(some 37),.extract 0 (.t 31),none⟩,
 ⟨(some 38),.extract 1 (.t 31),none⟩,
 ⟨(some 10),.alloc [(.d (.int .i64 0)),(.d (.int .i64 0)),(.d (.str [])),(.full [])],none⟩,
 ⟨none,.store 4 (.t 10) (.t 37),none⟩,
 ⟨(some 11),.mv (.t 38),none⟩] [2,7,9,25,31,32,33,34,35,36,37,38])
 (.seq (.seq (.region [⟨(some 39),.mv (.t 11),none⟩,
 ⟨(some 40),.bin .lss (.t 39) (.k (.c (.d (.int .i64 0)))),none⟩] [39])
 (.cond (.t 40)
 (.seq (.region [⟨(some 41),.build [(.d (.int .i64 0)),(.d (.int .i64 0)),(.d (.str [])),(.full [])] [],none⟩,
 ⟨(some 42),.mv (.t 11),none⟩,
 ⟨none,.store 4 (.t 6) (.t 41),none⟩,
 ⟨(some 7),.mv (.t 42),none⟩] [0,8,10,11,40,41,42])
 (.ret))
 (.skip)))
 (.seq (.seq (.region [⟨(some 43),.mv (.t 0),none⟩,
 ⟨(some 44),.mv (.t 11),none⟩,
 ⟨(some 45),.qcall 77 [(.t 43),(.t 44),(.k (.c (.d (.int .u8 93))))],none⟩,
 ⟨(some 46),.un .not (.t 45),none⟩] [0,7,40,43,44,45])
 (.cond (.t 46)
 (.seq (.region [⟨(some 47),.mv (.t 11),none⟩,
 ⟨(some 48),.qcall 76 [(.t 47)],none⟩,
 ⟨(some 49),.extract 0 (.t 48),none⟩,
 ⟨(some 50),.extract 1 (.t 48),none⟩,
 ⟨none,.store 4 (.t 6) (.t 49),none⟩,
 ⟨(some 7),.mv (.t 50),none⟩] [8,10,11,46,47,48,49,50])
 (.ret))
 (.skip)))
 (.seq (.region [⟨(some 51),.mv (.t 8),none⟩,
 ⟨(some 52),.load (some 4) (.t 10),none⟩,
 ⟨(some 53),.qcall 105 [(.t 51),(.t 52)],none⟩,
 ⟨(some 54),.mv (.t 11),none⟩,
 ⟨(some 55),.bin .add (.t 54) (.k (.c (.d (.int .i64 1)))),none⟩,
 ⟨none,.store 4 (.t 6) (.t 53),none⟩,
 ⟨(some 7),.mv (.t 55),none⟩] [8,10,11,46,51,52,53,54,55])
 (.ret))))))))
theorem ac78_ok : cFunc Tryz.prog [1000027,1000048,1000076,1000077,1000083,1000105] [(0,[7],[]),(1,[1,12,13,14,15,16,17,18],[]),(2,[19],[]),(3,[0,2,8,9,20,21,22],[]),(4,[7,20,23,24],[]),(5,[0,2,8,9,25,26,27,28,29,30],[]),(6,[2,7,9,25,31,32,33,34,35,36,37,38],[]),(7,[39],[]),(8,[0,8,10,11,40,41,42],[]),(9,[0,7,40,43,44,45],[]),(10,[8,10,11,46,47,48,49,50],[]),(11,[8,10,11,46,51,52,53,54,55],[])] Tryz.f78 = some (ac78,[.cell 6 (some 4),.tmp 7],56) := by kernel_rfl
-- 45 loop.example/prologserver/spec.l2Prime params 3 ntmps 158
def ac45 : Cd := .seq (.region [⟨(some 6),.alloc [(.d (.int .i64 0)),(.d (.int .i64 0)),(.d (.str [])),(.full [])],none⟩,
 ⟨(some 7),.mv (.k (.c (.d (.int .i64 0)))),none⟩] [7])
 (.seq (.seq (.region [⟨(some 16),.mv (.t 2),none⟩,
 ⟨(some 17),.bin .lss (.t 16) (.k (.c (.d (.int .i64 1)))),none⟩,
 ⟨(some 18),.mv (.t 17),none⟩,
 ⟨(some 19),.mv (.t 1),some (18,false)⟩,
 ⟨(some 20),.mv (.t 0),some (18,false)⟩,
 ⟨(some 21),.len 0 (.t 20),some (18,false)⟩,
 ⟨(some 22),.bin .geq (.t 19) (.t 21),some (18,false)⟩,
 ⟨(some 23),.pick (.t 18) (.k (.c (.d (.bool true)))) (.t 22),none⟩] [16,17,18,19,20,21,22])
 (.cond (.t 23)
 (.seq (.region [⟨(some 24),.mv (.t 1),none⟩,
 ⟨(some 25),.qcall 76 [(.t 24)],none⟩,
 ⟨(some 26),.extract 0 (.t 25),none⟩,
 ⟨(some 27),.extract 1 (.t 25),none⟩,
 ⟨none,.store 4 (.t 6) (.t 26),none⟩,
 ⟨(some 7),.mv (.t 27),none⟩] [0,1,2,23,24,25,26,27])
 (.ret))
 (.skip)))
 (.seq (.seq (.region [⟨(some 28),.mv (.t 0),none⟩,
 ⟨(some 29),.mv (.t 1),none⟩,
 ⟨(some 30),.index (.t 28) (.t 29),none⟩,
 ⟨(some 31),.bin .eql (.t 30) (.k (.c (.d (.int .u8 40)))),none⟩] [7,23,28,29,30])
 (.cond (.t 31)
 (.seq (.region [⟨(some 33),.mv (.t 0),none⟩,
 ⟨(some 34),.mv (.t 1),none⟩,
 ⟨(some 35),.bin .add (.t 34) (.k (.c (.d (.int .i64 1)))),none⟩,
 ⟨(some 36),.mv (.t 2),none⟩,
 ⟨(some 37),.qcall 27 [(.t 33),(.t 35),(.t 36),(.k (.c (.d (.int .i64 3))))],none⟩,
 ⟨(some 32),.mv (.t 37),none⟩,
 ⟨(some 38),.extract 0 (.t 32),none⟩,
 ⟨(some 39),.extract 1 (.t 32),none⟩,
 ⟨(some 8),.alloc [(.d (.int .i64 0)),(.d (.int .i64 0)),(.d (.str [])),(.full [])],none⟩,
 ⟨none,.store 4 (.t 8) (.t 38),none⟩,
 ⟨(some 9),.mv (.t 39),none⟩] [1,2,31,32,33,34,35,36,37,38,39])
 (.seq (.seq (.region [⟨(some 40),.mv (.t 9),none⟩,
 ⟨(some 41),.bin .lss (.t 40) (.k (.c (.d (.int .i64 0)))),none⟩] [40])
 (.cond (.t 41)
 (.seq (.region [⟨(some 42),.build [(.d (.int .i64 0)),(.d (.int .i64 0)),(.d (.str [])),(.full [])] [],none⟩,
 ⟨(some 43),.mv (.t 9),none⟩,
 ⟨none,.store 4 (.t 6) (.t 42),none⟩,
 ⟨(some 7),.mv (.t 43),none⟩] [0,8,9,41,42,43])
 (.ret))
 (.skip)))
 (.seq (.seq (.region [⟨(some 44),.mv (.t 0),none⟩,
 ⟨(some 45),.mv (.t 9),none⟩,
 ⟨(some 46),.qcall 77 [(.t 44),(.t 45),(.k (.c (.d (.int .u8 41))))],none⟩,
 ⟨(some 47),.un .not (.t 46),none⟩] [0,7,41,44,45,46])
 (.cond (.t 47)
 (.seq (.region [⟨(some 48),.mv (.t 9),none⟩,
 ⟨(some 49),.qcall 76 [(.t 48)],none⟩,
 ⟨(some 50),.extract 0 (.t 49),none⟩,
 ⟨(some 51),.extract 1 (.t 49),none⟩,
 ⟨none,.store 4 (.t 6) (.t 50),none⟩,
 ⟨(some 7),.mv (.t 51),none⟩] [8,9,47,48,49,50,51])
 (.ret))
 (.skip)))
 (.seq (.region [⟨(some 52),.load (some 4) (.t 8),none⟩,
 ⟨(some 53),.mv (.t 9),none⟩,
 ⟨(some 54),.bin .add (.t 53) (.k (.c (.d (.int .i64 1)))),none⟩,
 ⟨none,.store 4 (.t 6) (.t 52),none⟩,
 ⟨(some 7),.mv (.t 54),none⟩] [8,9,47,52,53,54])
 (.ret)))))
 (.skip)))
 (.seq (.seq (.region [⟨(some 55),.mv (.t 0),none⟩,
 ⟨(some 56),.mv (.t 1),none⟩,
 ⟨(some 57),.index (.t 55) (.t 56),none⟩,
 ⟨(some 58),.bin .eql (.t 57) (.k (.c (.d (.int .u8 91)))),none⟩,
 ⟨(some 59),.mv (.t 58),none⟩,
 ⟨(some 60),.mv (.t 0),some (59,true)⟩,
 ⟨(some 61),.mv (.t 1),some (59,true)⟩,
 ⟨(some 62),.bin .add (.t 61) (.k (.c (.d (.int .i64 1)))),some (59,true)⟩,
 ⟨(some 63),.qcall 77 [(.t 60),(.t 62),(.k (.c (.d (.int .u8 93))))],some (59,true)⟩,
 ⟨(some 64),.un .not (.t 63),some (59,true)⟩,
 ⟨(some 65),.pick (.t 59) (.t 64) (.k (.c (.d (.bool false)))),none⟩] [7,31,55,56,57,58,59,60,61,62,63,64])
 (.cond (.t 65)
 (.seq (.region [⟨(some 66),.mv (.t 0),none⟩,
 ⟨(some 67),.mv (.t 1),none⟩,
 ⟨(some 68),.bin .add (.t 67) (.k (.c (.d (.int .i64 1)))),none⟩,
 ⟨(some 69),.mv (.t 2),none⟩,
 ⟨(some 70),.bin .sub (.t 69) (.k (.c (.d (.int .i64 1)))),none⟩,
 ⟨(some 71),.qcall 78 [(.t 66),(.t 68),(.t 70)],none⟩,
 ⟨(some 72),.extract 0 (.t 71),none⟩,
 ⟨(some 73),.extract 1 (.t 71),none⟩,
 ⟨none,.store 4 (.t 6) (.t 72),none⟩,
 ⟨(some 7),.mv (.t 73),none⟩] [0,1,2,65,66,67,68,69,70,71,72,73])
 (.ret))
 (.skip)))
 (.seq (.seq (.region [⟨(some 74),.mv (.t 0),none⟩,
 ⟨(some 75),.mv (.t 1),none⟩,
 ⟨(some 76),.index (.t 74) (.t 75),none⟩,
 ⟨(some 77),.bin .geq (.t 76) (.k (.c (.d (.int .u8 65)))),none⟩,
 ⟨(some 78),.mv (.t 77),none⟩,
 ⟨(some 79),.mv (.t 0),some (78,true)⟩,
 ⟨(some 80),.mv (.t 1),some (78,true)⟩,
 ⟨(some 81),.index (.t 79) (.t 80),some (78,true)⟩,
 ⟨(some 82),.bin .leq (.t 81) (.k (.c (.d (.int .u8 90)))),some (78,true)⟩,
 ⟨(some 83),.pick (.t 78) (.t 82) (.k (.c (.d (.bool false)))),none⟩] [7,65,74,75,76,77,78,79,80,81,82])
 (.cond (.t 83)
 (.seq (.region [⟨(some 84),.mv (.t 0),none⟩,
 ⟨(some 85),.mv (.t 1),none⟩,
 ⟨(some 86),.index (.t 84) (.t 85),none⟩,
 ⟨(some 87),.bin .sub (.t 86) (.k (.c (.d (.int .u8 65)))),none⟩,
 ⟨(some 88),.cvInt .i64 (.t 87),none⟩,
 ⟨(some 89),.qcall 79 [(.t 88)],none⟩,
 ⟨(some 90),.mv (.t 1),none⟩,
 ⟨(some 91),.bin .add (.t 90) (.k (.c (.d (.int .i64 1)))),none⟩,
 ⟨none,.store 4 (.t 6) (.t 89),none⟩,
 ⟨(some 7),.mv (.t 91),none⟩] [0,1,2,83,84,85,86,87,88,89,90,91])
 (.ret))
 (.skip)))
 (.seq (.seq (.region [⟨(some 92),.mv (.t 0),none⟩,
 ⟨(some 93),.mv (.t 1),none⟩,
 ⟨(some 94),.qcall 80 [(.t 92),(.t 93)],none⟩,
 ⟨(some 95),.mv (.t 94),none⟩,
 ⟨(some 96),.mv (.t 0),some (95,false)⟩,
 ⟨(some 97),.mv (.t 1),some (95,false)⟩,
 ⟨(some 98),.index (.t 96) (.t 97),some (95,false)⟩,
 ⟨(some 99),.bin .eql (.t 98) (.k (.c (.d (.int .u8 45)))),some (95,false)⟩,
 ⟨(some 100),.mv (.t 99),some (95,false)⟩,
 ⟨(some 101),.mv (.t 0),some (100,true)⟩,
 ⟨(some 102),.mv (.t 1),some (100,true)⟩,
 ⟨(some 103),.bin .add (.t 102) (.k (.c (.d (.int .i64 1)))),some (100,true)⟩,
 ⟨(some 104),.qcall 80 [(.t 101),(.t 103)],some (100,true)⟩,
 ⟨(some 105),.pick (.t 100) (.t 104) (.k (.c (.d (.bool false)))),some (95,false)⟩,
 ⟨(some 106),.pick (.t 95) (.k (.c (.d (.bool true)))) (.t 105),none⟩] [7,83,92,93,94,95,96,97,98,99,100,101,102,103,104,105])
 (.cond (.t 106)
 (.seq (.region [⟨(some 108),.mv (.t 0),none⟩,
 ⟨(some 109),.mv (.t 1),none⟩,
 ⟨(some 110),.qcall 81 [(.t 108),(.t 109)],none⟩,
 ⟨(some 107),.mv (.t 110),none⟩,
 ⟨(some 111),.extract 0 (.t 107),none⟩,
 ⟨(some 112),.extract 1 (.t 107),none⟩,
 ⟨(some 10),.alloc [(.d (.int .i64 0)),(.d (.int .i64 0)),(.d (.str [])),(.full [])],none⟩,
 ⟨none,.store 4 (.t 10) (.t 111),none⟩,
 ⟨(some 11),.mv (.t 112),none⟩] [0,2,106,107,108,109,110,111,112])
 (.seq (.seq (.region [⟨(some 113),.mv (.t 11),none⟩,
 ⟨(some 114),.bin .lss (.t 113) (.k (.c (.d (.int .i64 0)))),none⟩] [113])
 (.cond (.t 114)
 (.seq (.region [⟨(some 115),.mv (.t 1),none⟩,
 ⟨(some 116),.qcall 76 [(.t 115)],none⟩,
 ⟨(some 117),.extract 0 (.t 116),none⟩,
 ⟨(some 118),.extract 1 (.t 116),none⟩,
 ⟨none,.store 4 (.t 6) (.t 117),none⟩,
 ⟨(some 7),.mv (.t 118),none⟩] [1,10,11,114,115,116,117,118])
 (.ret))
 (.skip)))
 (.seq (.region [⟨(some 119),.load (some 4) (.t 10),none⟩,
 ⟨(some 120),.mv (.t 11),none⟩,
 ⟨none,.store 4 (.t 6) (.t 119),none⟩,
 ⟨(some 7),.mv (.t 120),none⟩] [1,10,11,114,119,120])
 (.ret))))
 (.skip)))
 (.seq (.region [⟨(some 122),.mv (.t 0),none⟩,
 ⟨(some 123),.mv (.t 1),none⟩,
 ⟨(some 124),.qcall 82 [(.t 122),(.t 123)],none⟩,
 ⟨(some 121),.mv (.t 124),none⟩,
 ⟨(some 125),.extract 0 (.t 121),none⟩,
 ⟨(some 126),.extract 1 (.t 121),none⟩,
 ⟨(some 12),.mv (.t 125),none⟩,
 ⟨(some 13),.mv (.t 126),none⟩] [7,106,121,122,123,124,125,126])
 (.seq (.seq (.region [⟨(some 127),.mv (.t 13),none⟩,
 ⟨(some 128),.bin .lss (.t 127) (.k (.c (.d (.int .i64 0)))),none⟩] [127])
 (.cond (.t 128)
 (.seq (.region [⟨(some 129),.mv (.t 1),none⟩,
 ⟨(some 130),.qcall 76 [(.t 129)],none⟩,
 ⟨(some 131),.extract 0 (.t 130),none⟩,
 ⟨(some 132),.extract 1 (.t 130),none⟩,
 ⟨none,.store 4 (.t 6) (.t 131),none⟩,
 ⟨(some 7),.mv (.t 132),none⟩] [0,1,2,12,13,128,129,130,131,132])
 (.ret))
 (.skip)))
 (.seq (.seq (.region [⟨(some 133),.mv (.t 0),none⟩,
 ⟨(some 134),.mv (.t 13),none⟩,
 ⟨(some 135),.qcall 77 [(.t 133),(.t 134),(.k (.c (.d (.int .u8 40))))],none⟩,
 ⟨(some 136),.un .not (.t 135),none⟩] [1,7,128,133,134,135])
 (.cond (.t 136)
 (.seq (.region [⟨(some 137),.mv (.t 12),none⟩,
 ⟨(some 138),.qcall 48 [(.t 137),(.k (.c (.full [])))],none⟩,
 ⟨(some 139),.mv (.t 13),none⟩,
 ⟨none,.store 4 (.t 6) (.t 138),none⟩,
 ⟨(some 7),.mv (.t 139),none⟩] [0,2,12,13,136,137,138,139])
 (.ret))
 (.skip)))
 (.seq (.region [⟨(some 141),.mv (.t 0),none⟩,
 ⟨(some 142),.mv (.t 13),none⟩,
 ⟨(some 143),.bin .add (.t 142) (.k (.c (.d (.int .i64 1)))),none⟩,
 ⟨(some 144),.mv (.t 2),none⟩,
 ⟨(some 145),.bin .sub (.t 144) (.k (.c (.d (.int .i64 1)))),none⟩,
 ⟨(some 146),.qcall 83 [(.t 141),(.t 143),(.t 145),(.k (.c (.d (.int .u8 41)))),(.k (.c (.d (.int .u8 41))))],none⟩,
 ⟨(some 140),.mv (.t 146),none⟩,
 ⟨(some 147),.extract 0 (.t 140),none⟩,
 ⟨(some 148),.extract 1 (.t 140),none⟩,
 ⟨(some 14),.mv (.t 147),none⟩,
 ⟨(some 15),.mv (.t 148),none⟩] [0,2,7,13,136,140,141,142,143,144,145,146,147,148])
 (.seq (.seq (.region [⟨(some 149),.mv (.t 15),none⟩,
 ⟨(some 150),.bin .lss (.t 149) (.k (.c (.d (.int .i64 0)))),none⟩] [149])
 (.cond (.t 150)
 (.seq (.region [⟨(some 151),.build [(.d (.int .i64 0)),(.d (.int .i64 0)),(.d (.str [])),(.full [])] [],none⟩,
 ⟨(some 152),.mv (.t 15),none⟩,
 ⟨none,.store 4 (.t 6) (.t 151),none⟩,
 ⟨(some 7),.mv (.t 152),none⟩] [12,14,15,150,151,152])
 (.ret))
 (.skip)))
 (.seq (.region [⟨(some 153),.mv (.t 12),none⟩,
 ⟨(some 154),.mv (.t 14),none⟩,
 ⟨(some 155),.build [(.d (.int .i64 0)),(.d (.int .i64 0)),(.d (.str [])),(.full [])] [(0,1,(.k (.c (.d (.int .i64 3))))),(2,1,(.t 153)),(3,1,(.t 154))],none⟩,
 ⟨(some 156),.mv (.t 15),none⟩,
 ⟨(some 157),.bin .add (.t 156) (.k (.c (.d (.int .i64 1)))),none⟩,
 ⟨none,.store 4 (.t 6) (.t 155),none⟩,
 ⟨(some 7),.mv (.t 157),none⟩] [12,14,15,150,153,154,155,156,157])
 (.ret))))))))))))
theorem ac45_ok : cFunc Tryz.prog [1000027,1000048,1000076,1000077,1000078,1000079,1000080,1000081,1000082,1000083] [(0,[7],[]),(1,[16,17,18,19,20,21,22],[]),(2,[0,1,2,23,24,25,26,27],[]),(3,[7,23,28,29,30],[]),(4,[1,2,31,32,33,34,35,36,37,38,39],[]),(5,[40],[]),(6,[0,8,9,41,42,43],[]),(7,[0,7,41,44,45,46],[]),(8,[8,9,47,48,49,50,51],[]),(9,[8,9,47,52,53,54],[]),(10,[7,31,55,56,57,58,59,60,61,62,63,64],[]),(11,[0,1,2,65,66,67,68,69,70,71,72,73],[]),(12,[7,65,74,75,76,77,78,79,80,81,82],[]),(13,[0,1,2,83,84,85,86,87,88,89,90,91],[]),(14,[7,83,92,93,94,95,96,97,98,99,100,101,102,103,104,105],[]),(15,[0,2,106,107,108,109,110,111,112],[]),(16,[113],[]),(17,[1,10,11,114,115,116,117,118],[]),(18,[1,10,11,114,119,120],[]),(19,[7,106,121,122,123,124,125,126],[]),(20,[127],[]),(21,[0,1,2,12,13,128,129,130,131,132],[]),(22,[1,7,128,133,134,135],[]),(23,[0,2,12,13,136,137,138,139],[]),(24,[0,2,7,13,136,140,141,142,143,144,145,146,147,148],[]),(25,[149],[]),(26,[12,14,15,150,151,152],[]),(27,[12,14,15,150,153,154,155,156,157],[])] Tryz.f45 = some (ac45,[.cell 6 (some 4),.tmp 7],158) := by kernel_rfl
-- 27 loop.example/prologserver/spec.l2Read params 4 ntmps 76
-- loop head live: [0,2,3,8,10,11]
def ac27 : Cd := .seq (.region [⟨(some 8),.alloc [(.d (.int .i64 0)),(.d (.int .i64 0)),(.d (.str [])),(.full [])],none⟩,
 ⟨(some 9),.mv (.k (.c (.d (.int .i64 0)))),none⟩] [9])
 (.seq (.seq (.region [⟨(some 16),.mv (.t 3),none⟩,
 ⟨(some 17),.bin .eql (.t 16) (.k (.c (.d (.int .i64 0)))),none⟩] [16])
 (.cond (.t 17)
 (.seq (.region [⟨(some 18),.mv (.t 0),none⟩,
 ⟨(some 19),.mv (.t 1),none⟩,
 ⟨(some 20),.mv (.t 2),none⟩,
 ⟨(some 21),.qcall 45 [(.t 18),(.t 19),(.t 20)],none⟩,
 ⟨(some 22),.extract 0 (.t 21),none⟩,
 ⟨(some 23),.extract 1 (.t 21),none⟩,
 ⟨none,.store 4 (.t 8) (.t 22),none⟩,
 ⟨(some 9),.mv (.t 23),none⟩] [0,1,2,3,17,18,19,20,21,22,23])
 (.ret))
 (.skip)))
 (.seq (.region [⟨(some 25),.mv (.t 0),none⟩,
 ⟨(some 26),.mv (.t 1),none⟩,
 ⟨(some 27),.mv (.t 2),none⟩,
 ⟨(some 28),.mv (.t 3),none⟩,
 ⟨(some 29),.bin .sub (.t 28) (.k (.c (.d (.int .i64 1)))),none⟩,
 ⟨(some 30),.qcall 27 [(.t 25),(.t 26),(.t 27),(.t 29)],none⟩,
 ⟨(some 24),.mv (.t 30),none⟩,
 ⟨(some 31),.extract 0 (.t 24),none⟩,
 ⟨(some 32),.extract 1 (.t 24),none⟩,
 ⟨(some 10),.alloc [(.d (.int .i64 0)),(.d (.int .i64 0)),(.d (.str [])),(.full [])],none⟩,
 ⟨none,.store 4 (.t 10) (.t 31),none⟩,
 ⟨(some 11),.mv (.t 32),none⟩] [1,9,17,24,25,26,27,28,29,30,31,32])
 (.seq (.block 0 (.loop (.seq (.seq (.region [⟨(some 33),.mv (.t 11),none⟩,
 ⟨(some 34),.bin .geq (.t 33) (.k (.c (.d (.int .i64 0)))),none⟩] [33])
 (.cond (.t 34)
 (.skip)
 (.exit 0)))
 (.block 1 (.seq (.region [⟨(some 36),.mv (.t 0),none⟩,
 ⟨(some 37),.mv (.t 11),none⟩,
 ⟨(some 38),.qcall 46 [(.t 36),(.t 37)],none⟩,
 ⟨(some 35),.mv (.t 38),none⟩,
 ⟨(some 39),.extract 0 (.t 35),none⟩,
 ⟨(some 40),.extract 1 (.t 35),none⟩,
 ⟨(some 12),.mv (.t 39),none⟩,
 ⟨(some 13),.mv (.t 40),none⟩] [34,35,36,37,38,39,40])
 (.seq (.seq (.region [⟨(some 41),.mv (.t 12),none⟩,
 ⟨(some 42),.bin .eql (.t 41) (.k (.c (.d (.str [])))),none⟩,
 ⟨(some 43),.mv (.t 42),none⟩,
 ⟨(some 44),.mv (.t 12),some (43,false)⟩,
 ⟨(some 45),.qcall 47 [(.t 44)],some (43,false)⟩,
 ⟨(some 46),.mv (.t 3),some (43,false)⟩,
 ⟨(some 47),.bin .neq (.t 45) (.t 46),some (43,false)⟩,
 ⟨(some 48),.pick (.t 43) (.k (.c (.d (.bool true)))) (.t 47),none⟩] [41,42,43,44,45,46,47])
 (.cond (.t 48)
 (.seq (.region [⟨(some 49),.load (some 4) (.t 10),none⟩,
 ⟨(some 50),.mv (.t 11),none⟩,
 ⟨none,.store 4 (.t 8) (.t 49),none⟩,
 ⟨(some 9),.mv (.t 50),none⟩] [0,2,3,10,11,12,13,48,49,50])
 (.ret))
 (.skip)))
 (.seq (.region [⟨(some 52),.mv (.t 0),none⟩,
 ⟨(some 53),.mv (.t 13),none⟩,
 ⟨(some 54),.mv (.t 2),none⟩,
 ⟨(some 55),.mv (.t 3),none⟩,
 ⟨(some 56),.bin .sub (.t 55) (.k (.c (.d (.int .i64 1)))),none⟩,
 ⟨(some 57),.qcall 27 [(.t 52),(.t 53),(.t 54),(.t 56)],none⟩,
 ⟨(some 51),.mv (.t 57),none⟩,
 ⟨(some 58),.extract 0 (.t 51),none⟩,
 ⟨(some 59),.extract 1 (.t 51),none⟩,
 ⟨(some 14),.alloc [(.d (.int .i64 0)),(.d (.int .i64 0)),(.d (.str [])),(.full [])],none⟩,
 ⟨none,.store 4 (.t 14) (.t 58),none⟩,
 ⟨(some 15),.mv (.t 59),none⟩] [9,11,13,48,51,52,53,54,55,56,57,58,59])
 (.seq (.seq (.region [⟨(some 60),.mv (.t 15),none⟩,
 ⟨(some 61),.bin .lss (.t 60) (.k (.c (.d (.int .i64 0)))),none⟩] [60])
 (.cond (.t 61)
 (.seq (.region [⟨(some 62),.build [(.d (.int .i64 0)),(.d (.int .i64 0)),(.d (.str [])),(.full [])] [],none⟩,
 ⟨(some 63),.mv (.t 15),none⟩,
 ⟨none,.store 4 (.t 8) (.t 62),none⟩,
 ⟨(some 9),.mv (.t 63),none⟩] [0,2,3,10,12,14,15,61,62,63])
 (.ret))
 (.skip)))
 (.seq (.region [⟨(some 64),.mv (.t 12),none⟩,
 ⟨(some 65),.load (some 4) (.t 10),none⟩,
 ⟨(some 66),.load (some 4) (.t 14),none⟩,
 ⟨(some 67),.buildSlice 4 2 [(.int .i64 0),(.int .i64 0),(.str []),(.sl [])] [(0,(.t 65)),(1,(.t 66))],none⟩,
 ⟨(some 68),.qcall 48 [(.t 64),(.t 67)],none⟩,
 ⟨none,.store 4 (.t 10) (.t 68),none⟩] [9,12,14,61,64,65,66,67,68])
 (.seq (.region [⟨(some 69),.mv (.t 15),none⟩,
 ⟨(some 11),.mv (.t 69),none⟩] [15,69])
 (.seq (.region [⟨(some 70),.mv (.t 3),none⟩,
 ⟨(some 71),.bin .eql (.t 70) (.k (.c (.d (.int .i64 3)))),none⟩] [70])
 (.cond (.t 71)
 (.seq (.region [⟨(some 72),.load (some 4) (.t 10),none⟩,
 ⟨(some 73),.mv (.t 11),none⟩,
 ⟨none,.store 4 (.t 8) (.t 72),none⟩,
 ⟨(some 9),.mv (.t 73),none⟩] [0,2,3,10,11,71,72,73])
 (.ret))
 (.skip)))))))))))))
 (.seq (.region [⟨(some 74),.build [(.d (.int .i64 0)),(.d (.int .i64 0)),(.d (.str [])),(.full [])] [],none⟩,
 ⟨(some 75),.mv (.t 11),none⟩,
 ⟨none,.store 4 (.t 8) (.t 74),none⟩,
 ⟨(some 9),.mv (.t 75),none⟩] [11,74,75])
 (.ret)))))
theorem ac27_ok : cFunc Tryz.prog [1000027,1000045,1000046,1000047,1000048] [(0,[9],[]),(1,[16],[]),(2,[0,1,2,3,17,18,19,20,21,22,23],[]),(3,[1,9,17,24,25,26,27,28,29,30,31,32],[]),(4,[33],[]),(5,[34,35,36,37,38,39,40],[]),(6,[41,42,43,44,45,46,47],[]),(7,[0,2,3,10,11,12,13,48,49,50],[]),(8,[9,11,13,48,51,52,53,54,55,56,57,58,59],[]),(9,[60],[]),(10,[0,2,3,10,12,14,15,61,62,63],[]),(11,[9,12,14,61,64,65,66,67,68],[]),(12,[15,69],[]),(13,[70],[]),(14,[0,2,3,10,11,71,72,73],[]),(15,[11,74,75],[])] Tryz.f27 = some (ac27,[.cell 8 (some 4),.tmp 9],76) := by kernel_rfl
theorem fails_calls (i : Nat) (hi : i ≤ 2000000) (H : Heap) : ACalls Tryz.prog 76 [.c (.d (.int .i64 i))] H (fun r H' => H' = H ∧ r = .tup [.agg ((Tm.mk 0 0 [] []).row.map .d), .c (.d (.int .i64 (-1 - (i : Int))))]) := by
  refine acalls Tryz.func76 (by kernel_rfl) ac76_ok fun hf => ?_
  have h1 : inR .i64 (-1 - (i : Int)) := small_i64 (by omega) (by omega)
  simp -implicitDefEqProofs [ac76, h1, row_mk, hf, go_sem, -List.set_cons_succ, -List.set_cons_zero]
def readA : Rs → A
  | .ok ts j => .tup [.agg ((Rs.tm ts).row.map .d), .c (.d (.int .i64 j))]
  | .bad e => .tup [.agg ((Tm.mk 0 0 [] []).row.map .d), .c (.d (.int .i64 (-1 - (e : Int))))]
def termsA : Rs → A
  | .ok ts j => .tup [.c (.d (.sl (ts.map Tm.row))), .c (.d (.int .i64 j))]
  | .bad e => .tup [.c (.d (.sl [])), .c (.d (.int .i64 (-1 - (e : Int))))]
theorem readA_re (r : Rs) (n : Nat) : A.re n (readA r) = readA r := by cases r <;> simp [readA, A.re, A.res, C.re, re_d]
theorem termsA_re (r : Rs) (n : Nat) : A.re n (termsA r) = termsA r := by cases r <;> simp [termsA, A.re, A.res, C.re]
/-- the parser's functions at so many steps -/
structure Par (s : List UInt8) (f : Nat) : Prop where
  read : ∀ (i d l : Nat) (r : Rs), i ≤ s.length → d ≤ 1000 → l ≤ 3 → rd s f (.read i d l) = some r → ∀ H : Heap, ACalls Tryz.prog 27 [.c (.d (.str s)), .c (.d (.int .i64 i)), .c (.d (.int .i64 d)), .c (.d (.int .i64 l))] H (fun r' H' => H' = H ∧ r' = readA r)
  prime : ∀ (i d : Nat) (r : Rs), i ≤ s.length → d ≤ 1000 → rd s f (.prime i d) = some r → ∀ H : Heap, ACalls Tryz.prog 45 [.c (.d (.str s)), .c (.d (.int .i64 i)), .c (.d (.int .i64 d))] H (fun r' H' => H' = H ∧ r' = readA r)
  terms : ∀ (i d : Nat) (e o : UInt8) (r : Rs), i ≤ s.length → d ≤ 1000 → rd s f (.terms i d e o) = some r → ∀ H : Heap, ACalls Tryz.prog 83 [.c (.d (.str s)), .c (.d (.int .i64 i)), .c (.d (.int .i64 d)), .c (.d (.int .u8 e.toNat)), .c (.d (.int .u8 o.toNat))] H (fun r' H' => H' = H ∧ r' = termsA r)
section
variable {s : List UInt8} (hs : s.length ≤ 1000000) {f : Nat}
include hs
theorem items_step (h : Par s f) (i d : Nat) (hi : i ≤ s.length) (hd : d ≤ 1000) (r : Rs) (hr : (match rd s f (.terms i d 93 124) with
        | none => none
        | some (.bad e) => some (.bad e)
        | some (.ok ts j) => if sgn s j 93 then some (.ok [chainT ts nilT] (j + 1))
          else match rd s f (.read (j + 1) d 3) with
            | none => none
            | some (.bad e) => some (.bad e)
            | some (.ok us k) => if sgn s k 93 then some (.ok [chainT ts (Rs.tm us)] (k + 1)) else some (.bad k)) = some r) (H : Heap) :
    ACalls Tryz.prog 78 [.c (.d (.str s)), .c (.d (.int .i64 i)), .c (.d (.int .i64 d))] H (fun r' H' => H' = H ∧ r' = readA r) := by
  refine acalls Tryz.func78 (by kernel_rfl) ac78_ok fun hf => ?_
  cases hx : rd s f (.terms i d 93 124) with
  | none => rw [hx] at hr; cases hr
  | some v =>
    rw [hx] at hr
    have c1 := h.terms i d 93 124 v hi hd hx
    have p1 := rd_post hs (j := .terms i d 93 124) hi hx
    simp -implicitDefEqProofs [ac78, go_sem, -List.set_cons_succ, -List.set_cons_zero]
    refine qcall_pure c1 hf (termsA_re _ _) ?_
    cases v with
    | bad e =>
      have he : e ≤ s.length := p1
      cases hr
      have hneg : (-1 - (e : Int)) < 0 := by omega
      simp -implicitDefEqProofs [termsA, readA, hneg, row_mk, hf, go_sem, -List.set_cons_succ, -List.set_cons_zero]
    | ok ts j =>
      obtain ⟨g1, g2, g3, g4, g5⟩ := p1
      simp only at hr
      have hj0 : ¬ (j : Int) < 0 := by omega
      simp -implicitDefEqProofs [termsA, hj0, hf, go_sem, -List.set_cons_succ, -List.set_cons_zero]
      refine qcall_pure (sign_calls s hs j (by omega) 93) hf rfl ?_
      have hj1 : inR .i64 ((j : Int) + 1) := small_i64 (by omega) (by omega)
      cases hsg : sgn s j 93 with
      | true =>
        rw [hsg] at hr
        simp only [if_true, Option.some.injEq] at hr
        subst hr
        have hst := struct_calls [91, 93] [] (by simp)
        simp only [List.map_nil] at hst
        have hch := chainSpec_calls ts (by omega) nilT
        simp -implicitDefEqProofs [hf, go_sem, -List.set_cons_succ, -List.set_cons_zero]
        refine qcall_pure hst hf (by simp [A.re, re_d]) ?_
        simp -implicitDefEqProofs [row_len, take_row, pure_d, re_d, hf, go_sem, -List.set_cons_succ, -List.set_cons_zero]
        refine qcall_pure hch hf (by simp [A.re, re_d]) ?_
        simp -implicitDefEqProofs [hj1, readA, Rs.tm, row_len, take_row, pure_d, re_d, thaw_d, fits_map, hf, go_sem, -List.set_cons_succ, -List.set_cons_zero]
      | false =>
        rw [hsg] at hr
        simp only [Bool.false_eq_true, if_false] at hr
        have hjl : j < s.length := by
          rw [Bool.or_eq_true] at g5
          rcases g5 with g5 | g5 <;> exact sgn_lt g5
        cases hy : rd s f (.read (j + 1) d 3) with
        | none => rw [hy] at hr; cases hr
        | some w =>
          rw [hy] at hr
          have c2 := h.read (j + 1) d 3 w (by omega) hd (by omega) hy
          have p2 := rd_post hs (j := .read (j + 1) d 3) ⟨by omega, by omega⟩ hy
          simp only [Int.natCast_add, Int.cast_ofNat_Int] at c2
          simp -implicitDefEqProofs [hj1, hf, go_sem, -List.set_cons_succ, -List.set_cons_zero]
          refine qcall_pure c2 hf (readA_re _ _) ?_
          cases w with
          | bad e =>
            have he : e ≤ s.length := p2
            cases hr
            have hneg : (-1 - (e : Int)) < 0 := by omega
            simp -implicitDefEqProofs [readA, hneg, row_mk, hf, go_sem, -List.set_cons_succ, -List.set_cons_zero]
          | ok us k =>
            obtain ⟨q1, q2, u, rfl, q3⟩ := p2
            simp only at hr
            have hk0 : ¬ (k : Int) < 0 := by omega
            have hk1 : inR .i64 ((k : Int) + 1) := small_i64 (by omega) (by omega)
            have hch := chainSpec_calls ts (by omega) u
            simp -implicitDefEqProofs [readA, Rs.tm, hk0, row_len, take_row, pure_d, re_d, hf, go_sem, -List.set_cons_succ, -List.set_cons_zero]
            refine qcall_pure (sign_calls s hs k (by omega) 93) hf rfl ?_
            cases hsk : sgn s k 93 with
            | true =>
              rw [hsk] at hr
              simp only [if_true, Option.some.injEq] at hr
              subst hr
              simp -implicitDefEqProofs [row_len, take_row, pure_d, re_d, hf, go_sem, -List.set_cons_succ, -List.set_cons_zero]
              refine qcall_pure hch hf (by simp [A.re, re_d]) ?_
              simp -implicitDefEqProofs [hk1, readA, Rs.tm, row_len, take_row, pure_d, re_d, thaw_d, fits_map, hf, go_sem, -List.set_cons_succ, -List.set_cons_zero]
            | false =>
              rw [hsk] at hr
              simp only [Bool.false_eq_true, if_false, Option.some.injEq] at hr
              subst hr
              simp -implicitDefEqProofs [row_len, take_row, pure_d, re_d, hf, go_sem, -List.set_cons_succ, -List.set_cons_zero]
              refine qcall_pure (fails_calls k (by omega)) hf (by simp [A.re, A.res, C.re, re_d]) ?_
              simp -implicitDefEqProofs [readA, row_mk, hf, go_sem, -List.set_cons_succ, -List.set_cons_zero]
theorem prime_step (h : Par s f) (i d : Nat) (hi : i ≤ s.length) (hd : d ≤ 1000) (r : Rs) (hr : rd s (f + 1) (.prime i d) = some r) (H : Heap) :
    ACalls Tryz.prog 45 [.c (.d (.str s)), .c (.d (.int .i64 i)), .c (.d (.int .i64 d))] H (fun r' H' => H' = H ∧ r' = readA r) := by
  have hit := items_step hs h
  have hr : step s (rd s f) (.prime i d) = some r := hr
  simp only [step] at hr
  refine acalls Tryz.func45 (by kernel_rfl) ac45_ok fun hf => ?_
  have hli : inR .i64 (s.length : Int) := small_i64 (by omega) (by omega)
  have hi1 : inR .i64 ((i : Int) + 1) := small_i64 (by omega) (by omega)
  have bad : ∀ (K : A → St → Prop) (st : St), Obs.fits st.ext.length 0 st.ext → K (.tup [.agg ((Tm.mk 0 0 [] []).row.map .d), .c (.d (.int .i64 (-1 - (i : Int))))]) st → QCallK Tryz.prog 76 [.c (.d (.int .i64 i))] st K := fun K st h1 h2 => qcall_pure (fails_calls i (by omega)) h1 (by simp [A.re, A.res, C.re, re_d]) h2
  cases hb : s[i]? with
  | none =>
    rw [hb] at hr
    simp only [Option.some.injEq] at hr
    subst hr
    have hge : ¬ i < s.length := fun h => by simp [h] at hb
    have hge' : (s.length : Int) ≤ (i : Int) := by omega
    by_cases hd1 : (d : Int) < 1
    · simp -implicitDefEqProofs [ac45, hd1, hli, go_sem, -List.set_cons_succ, -List.set_cons_zero]
      refine bad _ _ hf ?_
      simp -implicitDefEqProofs [readA, row_mk, hf, go_sem, -List.set_cons_succ, -List.set_cons_zero]
    · simp -implicitDefEqProofs [ac45, hd1, hge', hli, go_sem, -List.set_cons_succ, -List.set_cons_zero]
      refine bad _ _ hf ?_
      simp -implicitDefEqProofs [readA, row_mk, hf, go_sem, -List.set_cons_succ, -List.set_cons_zero]
  | some b =>
    rw [hb] at hr
    have hlt : i < s.length := (List.getElem?_eq_some_iff.1 hb).1
    have hsb : s[i] = b := by have := List.getElem?_eq_getElem hlt; rw [hb] at this; exact (Option.some.inj this).symm
    have hge' : ¬ (s.length : Int) ≤ (i : Int) := by omega
    have byte : ∀ (K : A → St → Prop) (st : St), K (.c (.d (.int .u8 b.toNat))) st → ByteK true s (i : Int) K st := fun K st h1 => byte_nat hlt (by rw [hsb]; exact h1)
    have boff : ∀ (K : A → St → Prop) (st : St), K (.c (.d (.int .u8 b.toNat))) st → ByteK false s (i : Int) K st := fun K st h1 => byte_off b h1
    simp only at hr
    by_cases hd1 : d < 1
    · rw [if_pos hd1] at hr
      cases hr
      have hd1' : (d : Int) < 1 := by omega
      simp -implicitDefEqProofs [ac45, hd1', hli, go_sem, -List.set_cons_succ, -List.set_cons_zero]
      refine bad _ _ hf ?_
      simp -implicitDefEqProofs [readA, row_mk, hf, go_sem, -List.set_cons_succ, -List.set_cons_zero]
    · rw [if_neg hd1] at hr
      have hd1' : ¬ (d : Int) < 1 := by omega
      have hdd : inR .i64 ((d : Int) - 1) := small_i64 (by omega) (by omega)
      have hdn : ((d : Int) - 1) = ((d - 1 : Nat) : Int) := by omega
      simp -implicitDefEqProofs [ac45, hd1', hge', hli, go_sem, -List.set_cons_succ, -List.set_cons_zero]
      refine byte _ _ ?_
      by_cases h40 : b = 40
      · rw [if_pos h40] at hr
        have h40' : (b.toNat : Int) = 40 := by rw [h40]; rfl
        simp -implicitDefEqProofs [h40', hi1, hf, go_sem, -List.set_cons_succ, -List.set_cons_zero]
        cases hx : rd s f (.read (i + 1) d 3) with
        | none => rw [hx] at hr; cases hr
        | some v =>
          rw [hx] at hr
          have c1 := h.read (i + 1) d 3 v (by omega) hd (by omega) hx
          have p1 := rd_post hs (j := .read (i + 1) d 3) ⟨by omega, by omega⟩ hx
          simp only [Int.natCast_add, Int.cast_ofNat_Int] at c1
          refine qcall_pure c1 hf (readA_re _ _) ?_
          cases v with
          | bad e =>
            have he : e ≤ s.length := p1
            cases hr
            have hneg : (-1 - (e : Int)) < 0 := by omega
            simp -implicitDefEqProofs [readA, hneg, row_mk, hf, go_sem, -List.set_cons_succ, -List.set_cons_zero]
          | ok ts j =>
            obtain ⟨g1, g2, t, rfl, g3⟩ := p1
            simp only at hr
            have hj0 : ¬ (j : Int) < 0 := by omega
            have hj1 : inR .i64 ((j : Int) + 1) := small_i64 (by omega) (by omega)
            simp -implicitDefEqProofs [readA, Rs.tm, hj0, row_len, take_row, pure_d, re_d, hf, go_sem, -List.set_cons_succ, -List.set_cons_zero]
            refine qcall_pure (sign_calls s hs j (by omega) 41) hf rfl ?_
            cases hsg : sgn s j 41 with
            | true =>
              rw [hsg] at hr
              simp only [if_true, Option.some.injEq] at hr
              subst hr
              simp -implicitDefEqProofs [hj1, readA, Rs.tm, row_len, take_row, pure_d, re_d, thaw_d, fits_map, hf, go_sem, -List.set_cons_succ, -List.set_cons_zero]
            | false =>
              rw [hsg] at hr
              simp only [Bool.false_eq_true, if_false, Option.some.injEq] at hr
              subst hr
              simp -implicitDefEqProofs [row_len, take_row, pure_d, re_d, hf, go_sem, -List.set_cons_succ, -List.set_cons_zero]
              refine qcall_pure (fails_calls j (by omega)) hf (by simp [A.re, A.res, C.re, re_d]) ?_
              simp -implicitDefEqProofs [readA, row_mk, hf, go_sem, -List.set_cons_succ, -List.set_cons_zero]
      · rw [if_neg h40] at hr
        have h40' : ¬ (b.toNat : Int) = 40 := fun h => h40 (UInt8.toNat_inj.1 (by have : (40 : UInt8).toNat = 40 := rfl; omega))
        simp -implicitDefEqProofs [h40', hi1, hf, go_sem, -List.set_cons_succ, -List.set_cons_zero]
        refine byte _ _ ?_
        refine (fun (key : (if bigB b then some (Rs.ok [.mk 1 (b.toNat - 65 : Nat) [] []] (i + 1))
      else if digB b || b == 45 && digAt s (i + 1) then match numR s i with
        | none => some (.bad i)
        | some (n, j) => some (.ok [.mk 2 n [] []] j)
      else match nameR s i with
        | none => some (.bad i)
        | some (n, j) => if sgn s j 40 then match rd s f (.terms (j + 1) (d - 1) 41 41) with
            | none => none
            | some (.bad e) => some (.bad e)
            | some (.ok ts k) => some (.ok [.mk 3 0 n ts] (k + 1))
          else some (.ok [.mk 3 0 n []] j)) = some r → (?tail : Prop)) => ?main) ?rest
        case main =>
          by_cases h91 : b = 91
          · have h91' : (b.toNat : Int) = 91 := by rw [h91]; rfl
            have cs := sign_calls s hs (i + 1) (by omega) 93
            simp only [Int.natCast_add, Int.cast_ofNat_Int] at cs
            simp -implicitDefEqProofs [h91', hi1, hf, go_sem, -List.set_cons_succ, -List.set_cons_zero]
            refine qcall_pure cs hf rfl ?_
            cases hsg : sgn s (i + 1) 93 with
            | false =>
              rw [if_pos ⟨h91, hsg⟩] at hr
              have c1 := hit (i + 1) (d - 1) (by omega) (by omega) r hr
              rw [← hdn] at c1
              simp only [Int.natCast_add, Int.cast_ofNat_Int] at c1
              simp -implicitDefEqProofs [hi1, hdd, hf, go_sem, -List.set_cons_succ, -List.set_cons_zero]
              refine qcall_pure c1 hf (readA_re _ _) ?_
              cases r with
              | bad e => simp -implicitDefEqProofs [readA, row_mk, hf, go_sem, -List.set_cons_succ, -List.set_cons_zero]
              | ok ts j => simp -implicitDefEqProofs [readA, row_len, take_row, pure_d, re_d, thaw_d, fits_map, hf, go_sem, -List.set_cons_succ, -List.set_cons_zero]
            | true =>
              rw [if_neg (fun h => by rw [hsg] at h; exact absurd h.2 (by simp))] at hr
              simp -implicitDefEqProofs [hf, go_sem, -List.set_cons_succ, -List.set_cons_zero]
              exact key hr
          · have h91' : ¬ (b.toNat : Int) = 91 := fun h => h91 (UInt8.toNat_inj.1 (by have : (91 : UInt8).toNat = 91 := rfl; omega))
            have h91'' : ((b.toNat : Int) == 91) = false := by simp; omega
            rw [if_neg (fun h => h91 h.1)] at hr
            simp -implicitDefEqProofs [h91', h91'', hi1, hf, go_sem, -List.set_cons_succ, -List.set_cons_zero]
            exact key hr
        case rest =>
          intro hr
          refine byte _ _ ?_
          refine (fun (key : (if digB b || b == 45 && digAt s (i + 1) then match numR s i with
        | none => some (.bad i)
        | some (n, j) => some (.ok [.mk 2 n [] []] j)
      else match nameR s i with
        | none => some (.bad i)
        | some (n, j) => if sgn s j 40 then match rd s f (.terms (j + 1) (d - 1) 41 41) with
            | none => none
            | some (.bad e) => some (.bad e)
            | some (.ok ts k) => some (.ok [.mk 3 0 n ts] (k + 1))
          else some (.ok [.mk 3 0 n []] j)) = some r → (?tail2 : Prop)) => ?main2) ?rest2
          case main2 =>
            by_cases h65 : (65 : Int) ≤ b.toNat
            · simp -implicitDefEqProofs [h65, go_sem, -List.set_cons_succ, -List.set_cons_zero]
              refine byte _ _ ?_
              by_cases h90 : (b.toNat : Int) ≤ 90
              · have hbg : bigB b = true := by simp [bigB]; omega
                rw [if_pos hbg] at hr
                cases hr
                have hsub : inR .u8 ((b.toNat : Int) - 65) := by simp [inR, IntKind.min, IntKind.max, IntKind.signed, IntKind.bits]; omega
                have hw : IntKind.i64.wrap ((b.toNat : Int) - 65) = ((b.toNat - 65 : Nat) : Int) := by rw [IntKind.wrap_i64]; omega
                simp -implicitDefEqProofs [h90, go_sem, -List.set_cons_succ, -List.set_cons_zero]
                refine byte _ _ ?_
                simp -implicitDefEqProofs [hsub, hw, hi1, go_sem, -List.set_cons_succ, -List.set_cons_zero]
                refine qcall_pure (var_calls ((b.toNat - 65 : Nat) : Int)) hf (by simp [A.re, re_d]) ?_
                simp -implicitDefEqProofs [hi1, readA, Rs.tm, row_len, take_row, pure_d, re_d, thaw_d, fits_map, hf, go_sem, -List.set_cons_succ, -List.set_cons_zero]
              · have hbg : ¬ bigB b = true := by simp [bigB]; omega
                rw [if_neg hbg] at hr
                simp -implicitDefEqProofs [h90, go_sem, -List.set_cons_succ, -List.set_cons_zero]
                exact key hr
            · have hbg : ¬ bigB b = true := by simp [bigB]; omega
              rw [if_neg hbg] at hr
              simp -implicitDefEqProofs [h65, go_sem, -List.set_cons_succ, -List.set_cons_zero]
              refine boff _ _ ?_
              simp -implicitDefEqProofs [go_sem, -List.set_cons_succ, -List.set_cons_zero]
              exact key hr
          case rest2 =>
            intro hr
            have hda : digAt s i = digB b := by simp [digAt, hb]
            have cdg := digit_calls s hs i (by omega)
            rw [hda] at cdg
            refine qcall_pure cdg hf rfl ?_
            refine (fun (key1 : (match numR s i with
        | none => some (.bad i)
        | some (n, j) => some (.ok [.mk 2 n [] []] j)) = some r → (?num : Prop)) (key2 : (match nameR s i with
        | none => some (.bad i)
        | some (n, j) => if sgn s j 40 then match rd s f (.terms (j + 1) (d - 1) 41 41) with
            | none => none
            | some (.bad e) => some (.bad e)
            | some (.ok ts k) => some (.ok [.mk 3 0 n ts] (k + 1))
          else some (.ok [.mk 3 0 n []] j)) = some r → (?name : Prop)) => ?main3) ?rest3 ?rest4
            case main3 =>
              cases hdb : digB b with
              | true =>
                rw [hdb] at hr
                simp only [Bool.true_or, if_true] at hr
                have hb2 : 48 ≤ b.toNat ∧ b.toNat ≤ 57 := by simpa [digB] using hdb
                have h45' : ((b.toNat : Int) == 45) = false := by simp; omega
                simp -implicitDefEqProofs [go_sem, -List.set_cons_succ, -List.set_cons_zero]
                refine boff _ _ ?_
                simp -implicitDefEqProofs [h45', hi1, go_sem, -List.set_cons_succ, -List.set_cons_zero]
                exact key1 hr
              | false =>
                rw [hdb] at hr
                simp only [Bool.false_or] at hr
                simp -implicitDefEqProofs [go_sem, -List.set_cons_succ, -List.set_cons_zero]
                refine byte _ _ ?_
                by_cases h45 : b = 45
                · have h45' : (b.toNat : Int) = 45 := by rw [h45]; rfl
                  have cd2 := digit_calls s hs (i + 1) (by omega)
                  simp only [Int.natCast_add, Int.cast_ofNat_Int] at cd2
                  simp -implicitDefEqProofs [h45', hi1, go_sem, -List.set_cons_succ, -List.set_cons_zero]
                  refine qcall_pure cd2 hf rfl ?_
                  cases hd2 : digAt s (i + 1) with
                  | true =>
                    rw [if_pos (by rw [hd2, h45]; rfl)] at hr
                    simp -implicitDefEqProofs [go_sem, -List.set_cons_succ, -List.set_cons_zero]
                    exact key1 hr
                  | false =>
                    rw [if_neg (by rw [hd2]; simp)] at hr
                    simp -implicitDefEqProofs [go_sem, -List.set_cons_succ, -List.set_cons_zero]
                    exact key2 hr
                · have h45' : ((b.toNat : Int) == 45) = false := by
                    simp
                    exact fun h => h45 (UInt8.toNat_inj.1 (by have : (45 : UInt8).toNat = 45 := rfl; omega))
                  rw [if_neg (by simp [h45])] at hr
                  simp -implicitDefEqProofs [h45', hi1, go_sem, -List.set_cons_succ, -List.set_cons_zero]
                  exact key2 hr
            case rest3 =>
              intro hr
              have cn := number_calls s hs i hi
              cases hn : numR s i with
              | none =>
                rw [hn] at hr cn
                cases hr
                refine qcall_pure cn hf (by simp [numA, A.re, A.res, C.re, re_d]) ?_
                simp -implicitDefEqProofs [numA, row_mk, hf, go_sem, -List.set_cons_succ, -List.set_cons_zero]
                refine bad _ _ hf ?_
                simp -implicitDefEqProofs [readA, row_mk, hf, go_sem, -List.set_cons_succ, -List.set_cons_zero]
              | some q =>
                obtain ⟨x, j⟩ := q
                rw [hn] at hr cn
                cases hr
                have hj0 : ¬ (j : Int) < 0 := by omega
                refine qcall_pure cn hf (by simp [numA, A.re, A.res, C.re, re_d]) ?_
                simp -implicitDefEqProofs [numA, hj0, row_mk, hf, go_sem, -List.set_cons_succ, -List.set_cons_zero]
                simp -implicitDefEqProofs [readA, Rs.tm, row_mk, hf, go_sem, -List.set_cons_succ, -List.set_cons_zero]
            case rest4 =>
              intro hr
              have cn := name_calls s hs i hi
              cases hn : nameR s i with
              | none =>
                rw [hn] at hr cn
                cases hr
                refine qcall_pure cn hf (by simp [nameA, A.re, A.res, C.re]) ?_
                simp -implicitDefEqProofs [nameA, hf, go_sem, -List.set_cons_succ, -List.set_cons_zero]
                refine bad _ _ hf ?_
                simp -implicitDefEqProofs [readA, row_mk, hf, go_sem, -List.set_cons_succ, -List.set_cons_zero]
              | some q =>
                obtain ⟨w, j⟩ := q
                rw [hn] at hr cn
                have ho := nameR_ok hi hn
                have hj0 : ¬ (j : Int) < 0 := by omega
                have hj1 : inR .i64 ((j : Int) + 1) := small_i64 (by omega) (by omega)
                refine qcall_pure cn hf (by simp [nameA, A.re, A.res, C.re]) ?_
                simp -implicitDefEqProofs [nameA, hj0, hf, go_sem, -List.set_cons_succ, -List.set_cons_zero]
                refine qcall_pure (sign_calls s hs j (by omega) 40) hf rfl ?_
                simp only at hr
                cases hsg : sgn s j 40 with
                | false =>
                  rw [hsg] at hr
                  simp only [Bool.false_eq_true, if_false, Option.some.injEq] at hr
                  subst hr
                  have hst := struct_calls w [] (by simp)
                  simp only [List.map_nil] at hst
                  simp -implicitDefEqProofs [hf, go_sem, -List.set_cons_succ, -List.set_cons_zero]
                  refine qcall_pure hst hf (by simp [A.re, re_d]) ?_
                  simp -implicitDefEqProofs [readA, Rs.tm, row_mk, hf, go_sem, -List.set_cons_succ, -List.set_cons_zero]
                | true =>
                  rw [hsg] at hr
                  simp only [if_true] at hr
                  have hjl := sgn_lt hsg
                  simp -implicitDefEqProofs [hj1, hdd, hf, go_sem, -List.set_cons_succ, -List.set_cons_zero]
                  cases hx : rd s f (.terms (j + 1) (d - 1) 41 41) with
                  | none => rw [hx] at hr; cases hr
                  | some v =>
                    rw [hx] at hr
                    have c1 := h.terms (j + 1) (d - 1) 41 41 v (by omega) (by omega) hx
                    have p1 := rd_post hs (j := .terms (j + 1) (d - 1) 41 41) (by show j + 1 ≤ s.length; omega) hx
                    rw [← hdn] at c1
                    simp only [Int.natCast_add, Int.cast_ofNat_Int] at c1
                    refine qcall_pure c1 hf (termsA_re _ _) ?_
                    cases v with
                    | bad e =>
                      cases hr
                      have hneg : (-1 - (e : Int)) < 0 := by omega
                      simp -implicitDefEqProofs [termsA, readA, hneg, row_mk, hf, go_sem, -List.set_cons_succ, -List.set_cons_zero]
                    | ok ts k =>
                      cases hr
                      obtain ⟨g1, g2, g3, g4, g5⟩ := p1
                      have hk0 : ¬ (k : Int) < 0 := by omega
                      have hk1 : inR .i64 ((k : Int) + 1) := small_i64 (by omega) (by omega)
                      simp -implicitDefEqProofs [termsA, readA, Rs.tm, hk0, hk1, row_mk, hf, go_sem, -List.set_cons_succ, -List.set_cons_zero]
end
end Go.Proofs.YtgfmlifkhpjplaaGreatDoor

/-
  The reference's parser does what it is said to do: the whole.
  Conditions: none.
-/
open Go Go.AM Go.Proofs
namespace Go.Proofs.YtgfmlifkhpjplaaGreatDoor
open Go.ChangeShapes Go.WideShapes Go.ChangeAt Go.RowKit
set_option linter.unusedVariables false
set_option linter.unusedSimpArgs false
set_option maxRecDepth 100000
def Rs.app (out : List Tm) : Rs → Rs
  | .ok us k => .ok (out ++ us) k
  | .bad e => .bad e
theorem opR_lv {s : List UInt8} {i j : Nat} {n : List UInt8} (h : opR s i = some (n, j)) : ¬ levelN n = 0 := by
  unfold opR at h
  generalize (if sgn s i 32 then i + 1 else i) = p at h
  split at h
  · cases h
  · cases hn : nameR s p with
    | none => rw [hn] at h; cases h
    | some q =>
      obtain ⟨m, k⟩ := q
      rw [hn] at h
      simp only at h
      split at h
      · cases h
      · rename_i hl
        split at h
        · cases h
        · simp only [Option.some.injEq, Prod.mk.injEq] at h
          rw [← h.1]; exact hl
section
variable {s : List UInt8} (hs : s.length ≤ 1000000) {f : Nat} (h : ∀ g, g ≤ f → Par s g)
include hs h
theorem terms_step (i d : Nat) (e o : UInt8) (r : Rs) (hi : i ≤ s.length) (hd : d ≤ 1000) (hr : rd s (f + 1) (.terms i d e o) = some r) (H : Heap) :
    ACalls Tryz.prog 83 [.c (.d (.str s)), .c (.d (.int .i64 i)), .c (.d (.int .i64 d)), .c (.d (.int .u8 e.toNat)), .c (.d (.int .u8 o.toNat))] H (fun r' H' => H' = H ∧ r' = termsA r) := by
  refine acalls Tryz.func83 (by kernel_rfl) ac83_ok fun hf => ?_
  simp -implicitDefEqProofs [ac83, go_sem, -List.set_cons_succ, -List.set_cons_zero]
  refine loop_enter (St.le_token 12 4 rfl) ?_
  refine loop_set (σ := Nat × List Tm × Nat × Rs) (fun x => [(1, .c (.d (.int .i64 x.1))), (12, .c (.own (.l 0) x.2.1.length (x.2.1.map Tm.row)))]) (fun _ => H) (fun x => [.grow x.2.1.length 4])
    (fun x => x.1 ≤ s.length ∧ x.2.1.length ≤ x.1 ∧ x.2.2.1 ≤ f + 1 ∧ rd s x.2.2.1 (.terms x.1 d e o) = some x.2.2.2 ∧ x.2.2.2.app x.2.1 = r) (fun x => x.2.2.1) (i, [], f + 1, r) (by simp [setAll]) ⟨hi, by simp, Nat.le_refl _, hr, by cases r <;> rfl⟩ ?_
  rintro ⟨p, out, g, q⟩ ⟨hp, hol, hg, hq, happ⟩
  simp only at hp hol hg hq happ
  cases g with
  | zero => cases hq
  | succ g =>
    have hq : step s (rd s g) (.terms p d e o) = some q := hq
    simp only [step] at hq
    have hpar := h g (by omega)
    simp -implicitDefEqProofs [setAll, hf, go_sem, -List.set_cons_succ, -List.set_cons_zero]
    cases hx : rd s g (.read p d 3) with
    | none => rw [hx] at hq; cases hq
    | some v =>
      rw [hx] at hq
      have c1 := hpar.read p d 3 v hp hd (by omega) hx
      have p1 := rd_post hs (j := .read p d 3) ⟨hp, by omega⟩ hx
      refine qcall_pure c1 hf (readA_re _ _) ?_
      cases v with
      | bad x =>
        cases hq
        have hx2 : x ≤ s.length := p1
        have hneg : (-1 - (x : Int)) < 0 := by omega
        subst happ
        simp -implicitDefEqProofs [readA, termsA, Rs.app, hneg, row_mk, hf, go_sem, -List.set_cons_succ, -List.set_cons_zero]
      | ok ts j =>
        obtain ⟨g1, g2, t, rfl, g3⟩ := p1
        simp only at hq
        have hj0 : ¬ (j : Int) < 0 := by omega
        have hj1 : inR .i64 ((j : Int) + 1) := small_i64 (by omega) (by omega)
        have hjm : inR .i64 (-1 - (j : Int)) := small_i64 (by omega) (by omega)
        simp -implicitDefEqProofs [readA, Rs.tm, hj0, row_len, take_row, pure_d, re_d, toDs_map, hf, go_sem, -List.set_cons_succ, -List.set_cons_zero]
        refine ⟨allLen_map row_len, by unfold maxApp; omega, ?_⟩
        refine qcall_pure (sign_calls s hs j (by omega) e) hf rfl ?_
        refine (fun (key1 : some (Rs.ok [t] j) = some q → (?done : Prop)) (key2 : (if sgn s j 44 then match rd s g (.terms (j + 1) d e o) with
        | none => none
        | some (.bad x) => some (.bad x)
        | some (.ok us k) => some (.ok (t :: us) k)
      else some (.bad j)) = some q → (?more : Prop)) => ?main) ?rest1 ?rest2
        case main =>
          cases he : sgn s j e with
          | true =>
            rw [he] at hq
            simp only [Bool.true_or, if_true] at hq
            simp -implicitDefEqProofs [hf, go_sem, -List.set_cons_succ, -List.set_cons_zero]
            exact key1 hq
          | false =>
            rw [he] at hq
            simp only [Bool.false_or] at hq
            simp -implicitDefEqProofs [hf, go_sem, -List.set_cons_succ, -List.set_cons_zero]
            refine qcall_pure (sign_calls s hs j (by omega) o) hf rfl ?_
            cases ho : sgn s j o with
            | true =>
              rw [ho] at hq
              simp only [if_true] at hq
              simp -implicitDefEqProofs [hf, go_sem, -List.set_cons_succ, -List.set_cons_zero]
              exact key1 hq
            | false =>
              rw [ho] at hq
              simp only [Bool.false_eq_true, if_false] at hq
              simp -implicitDefEqProofs [hf, go_sem, -List.set_cons_succ, -List.set_cons_zero]
              exact key2 hq
        case rest1 =>
          intro hq
          cases hq
          subst happ
          simp [termsA, Rs.app]
        case rest2 =>
          intro hq
          refine qcall_pure (sign_calls s hs j (by omega) 44) hf rfl ?_
          cases hsg : sgn s j 44 with
          | false =>
            rw [hsg] at hq
            simp only [Bool.false_eq_true, if_false] at hq
            cases hq
            subst happ
            simp -implicitDefEqProofs [hjm, termsA, Rs.app, hf, go_sem, -List.set_cons_succ, -List.set_cons_zero]
          | true =>
            rw [hsg] at hq
            simp only [if_true] at hq
            have hjl := sgn_lt hsg
            simp -implicitDefEqProofs [hj1, hf, go_sem, -List.set_cons_succ, -List.set_cons_zero]
            have hq2 : ∃ w, rd s g (.terms (j + 1) d e o) = some w ∧ w.app (out ++ [t]) = r := by
              cases hy : rd s g (.terms (j + 1) d e o) with
              | none => rw [hy] at hq; cases hq
              | some w =>
                rw [hy] at hq
                refine ⟨w, rfl, ?_⟩
                cases w with
                | bad x => cases hq; exact happ
                | ok us k => cases hq; rw [← happ]; simp [Rs.app]
            obtain ⟨w, hw, hwa⟩ := hq2
            refine loop_less (j + 1, out ++ [t], g, w) (St.le_cut [_] ?_ (by simp [Sl.le, A.le_refl_iff, A.le_u_iff, As.lo, A.lo, C.lo, Ref.lo, Cs.lo, Obs.lo, Ob.lo, setAll, and_true, true_and, List.length_nil, List.length_cons]) (by simp; rfl) (by simp [Sl.le, A.le_refl_iff, A.le_u_iff, As.lo, A.lo, C.lo, Ref.lo, Cs.lo, Obs.lo, Ob.lo, setAll, and_true, true_and, List.length_nil, List.length_cons])) ⟨by dsimp only; omega, by simp; omega, by dsimp only; omega, hw, hwa⟩ (by show g < g + 1; omega)
            simp [setAll, Sl.le, A.le_refl_iff, A.le_u_iff, As.lo, A.lo, C.lo, Ref.lo, Cs.lo, Obs.lo, Ob.lo, setAll, and_true, true_and, List.length_nil, List.length_cons]
theorem read_step (i d l : Nat) (r : Rs) (hi : i ≤ s.length) (hd : d ≤ 1000) (hl : l ≤ 3) (hr : rd s (f + 1) (.read i d l) = some r) (H : Heap) :
    ACalls Tryz.prog 27 [.c (.d (.str s)), .c (.d (.int .i64 i)), .c (.d (.int .i64 d)), .c (.d (.int .i64 l))] H (fun r' H' => H' = H ∧ r' = readA r) := by
  refine acalls Tryz.func27 (by kernel_rfl) ac27_ok fun hf => ?_
  have hpar := h f (Nat.le_refl _)
  have hr : step s (rd s f) (.read i d l) = some r := hr
  cases l with
  | zero =>
    have c1 := hpar.prime i d r hi hd hr
    simp -implicitDefEqProofs [ac27, go_sem, -List.set_cons_succ, -List.set_cons_zero]
    refine qcall_pure c1 hf (readA_re _ _) ?_
    cases r with
    | bad e => simp -implicitDefEqProofs [readA, row_mk, hf, go_sem, -List.set_cons_succ, -List.set_cons_zero]
    | ok ts j => simp -implicitDefEqProofs [readA, row_len, take_row, pure_d, re_d, thaw_d, fits_map, hf, go_sem, -List.set_cons_succ, -List.set_cons_zero]
  | succ l =>
    simp only [step] at hr
    have hl1 : ¬ ((l : Int) + 1 = 0) := by omega
    have hl2 : ((l : Int) + 1 == 0) = false := by simp; omega
    have hl3 : inR .i64 ((l : Int) + 1 - 1) := small_i64 (by omega) (by omega)
    have hl4 : (l : Int) + 1 - 1 = l := by omega
    cases hx : rd s f (.read i d l) with
    | none => rw [hx] at hr; cases hr
    | some v =>
      rw [hx] at hr
      have c1 := hpar.read i d l v hi hd (by omega) hx
      have p1 := rd_post hs (j := .read i d l) ⟨hi, by omega⟩ hx
      have hli : inR .i64 (l : Int) := small_i64 (by omega) (by omega)
      simp -implicitDefEqProofs [ac27, hl1, hl2, hl3, hl4, hli, go_sem, -List.set_cons_succ, -List.set_cons_zero]
      refine qcall_pure c1 hf (readA_re _ _) ?_
      cases v with
      | bad e =>
        cases hr
        have he : e ≤ s.length := p1
        have hneg : ¬ (0 : Int) ≤ -1 - (e : Int) := by omega
        simp -implicitDefEqProofs [readA, row_mk, hf, go_sem, -List.set_cons_succ, -List.set_cons_zero]
        refine loop_set (σ := Unit) (fun _ => []) (fun _ => H) (fun _ => [.cells [.d (.int .i64 0), .d (.int .i64 0), .d (.str []), .full []], .cells [.d (.int .i64 0), .d (.int .i64 0), .d (.str []), .d (.sl [])]]) (fun _ => True) (fun _ => 0) () rfl trivial ?_
        intro _ _
        simp -implicitDefEqProofs [setAll, hneg, row_mk, hf, go_sem, -List.set_cons_succ, -List.set_cons_zero]
        intro he2
        omega
      | ok ts j =>
        obtain ⟨g1, g2, t0, rfl, g3⟩ := p1
        simp only at hr
        simp -implicitDefEqProofs [readA, Rs.tm, row_len, take_row, pure_d, re_d, hf, go_sem, -List.set_cons_succ, -List.set_cons_zero]
        refine loop_set (σ := Nat × Tm × Nat) (fun x => [(11, .c (.d (.int .i64 x.1)))]) (fun _ => H) (fun x => [.cells [.d (.int .i64 0), .d (.int .i64 0), .d (.str []), .full []], .cells (x.2.1.row.map .d)])
          (fun x => x.1 ≤ s.length ∧ x.2.1.fits ∧ x.2.2 ≤ f ∧ rd s x.2.2 (.ops x.2.1 x.1 d (l + 1)) = some r) (fun x => x.2.2) (j, t0, f) (by simp [setAll]) ⟨g2, g3, Nat.le_refl _, hr⟩ ?_
        rintro ⟨p, t, g⟩ ⟨hp, htf, hg, hq⟩
        simp only at hp htf hg hq
        cases g with
        | zero => cases hq
        | succ g =>
          have hq : step s (rd s g) (.ops t p d (l + 1)) = some r := hq
          simp only [step] at hq
          have hp0 : (0 : Int) ≤ (p : Int) := by omega
          have co := op_calls s hs p hp
          simp -implicitDefEqProofs [setAll, hp0, hf, go_sem, -List.set_cons_succ, -List.set_cons_zero]
          cases ho : opR s p with
          | none =>
            rw [ho] at hq co
            cases hq
            refine qcall_pure co hf (by simp [opA, A.re, A.res, C.re]) ?_
            simp -implicitDefEqProofs [opA, readA, Rs.tm, row_len, take_row, pure_d, re_d, thaw_d, fits_map, hf, go_sem, -List.set_cons_succ, -List.set_cons_zero]
          | some q =>
            obtain ⟨n, k⟩ := q
            rw [ho] at hq co
            have hlv := opR_lv ho
            have hok := opR_ok hp ho
            have hne : n ≠ [] := fun e => hlv (by rw [e]; rfl)
            have hne2 : (n == []) = false := by simp [hne]
            simp only at hq
            refine qcall_pure co hf (by simp [opA, A.re, A.res, C.re]) ?_
            simp -implicitDefEqProofs [opA, hne, hne2, hf, go_sem, -List.set_cons_succ, -List.set_cons_zero]
            refine qcall_pure (level_calls n) hf rfl ?_
            by_cases hll : levelN n = (l + 1 : Nat)
            · rw [if_pos hll] at hq
              have hll1 : levelN n = (l : Int) + 1 := by rw [hll]; simp
              simp only [Nat.add_sub_cancel] at hq
              simp -implicitDefEqProofs [hll1, hl3, hl4, hli, hf, go_sem, -List.set_cons_succ, -List.set_cons_zero]
              cases hy : rd s g (.read k d l) with
              | none => rw [hy] at hq; cases hq
              | some w =>
                rw [hy] at hq
                have hpg := h g (by omega)
                have c2 := hpg.read k d l w hok.2.1 hd (by omega) hy
                have p2 := rd_post hs (j := .read k d l) ⟨hok.2.1, by omega⟩ hy
                refine qcall_pure c2 hf (readA_re _ _) ?_
                cases w with
                | bad e =>
                  cases hq
                  have he : e ≤ s.length := p2
                  have hneg : (-1 - (e : Int)) < 0 := by omega
                  simp -implicitDefEqProofs [readA, hneg, row_mk, hf, go_sem, -List.set_cons_succ, -List.set_cons_zero]
                | ok us m =>
                  obtain ⟨q1, q2, u, rfl, q3⟩ := p2
                  simp only at hq
                  have hm0 : ¬ (m : Int) < 0 := by omega
                  have hst := struct_calls n [t, u] (by simp)
                  simp only [List.map_cons, List.map_nil] at hst
                  simp -implicitDefEqProofs [readA, Rs.tm, hm0, row_len, take_row, pure_d, re_d, toDs_map, hf, go_sem, -List.set_cons_succ, -List.set_cons_zero]
                  refine qcall_pure hst hf (by simp [A.re, re_d]) ?_
                  simp -implicitDefEqProofs [row_len, take_row, pure_d, re_d, hf, go_sem, -List.set_cons_succ, -List.set_cons_zero]
                  by_cases h3 : l + 1 = 3
                  · have h3' : (l : Int) + 1 = 3 := by omega
                    rw [if_pos h3] at hq
                    cases hq
                    simp -implicitDefEqProofs [h3', readA, Rs.tm, row_len, take_row, pure_d, re_d, thaw_d, fits_map, hf, go_sem, -List.set_cons_succ, -List.set_cons_zero]
                  · have h3' : ¬ (l : Int) + 1 = 3 := by omega
                    have h3'' : ((l : Int) + 1 == 3) = false := by simp; omega
                    rw [if_neg h3] at hq
                    simp -implicitDefEqProofs [h3', h3'', row_len, take_row, pure_d, re_d, hf, go_sem, -List.set_cons_succ, -List.set_cons_zero]
                    refine loop_less (m, .mk 3 0 n [t, u], g) (St.le_cut [_] ?_ (by simp [Sl.le, A.le_refl_iff, A.le_u_iff, As.lo, A.lo, C.lo, Ref.lo, Cs.lo, Obs.lo, Ob.lo, setAll, and_true, true_and, List.length_nil, List.length_cons]) (by simp [row_len]; rfl) (by simp [row_mk, Sl.le, A.le_refl_iff, A.le_u_iff, As.lo, A.lo, C.lo, Ref.lo, Cs.lo, Obs.lo, Ob.lo, setAll, and_true, true_and, List.length_nil, List.length_cons])) ⟨q2, fits_st hok.2.2 (by simp) (by simp [htf, q3]), by dsimp only; omega, hq⟩ (by show g < g + 1; omega)
                    simp [setAll, Sl.le, A.le_refl_iff, A.le_u_iff, As.lo, A.lo, C.lo, Ref.lo, Cs.lo, Obs.lo, Ob.lo, setAll, and_true, true_and, List.length_nil, List.length_cons]
            · rw [if_neg hll] at hq
              cases hq
              have hll1 : ¬ levelN n = (l : Int) + 1 := fun e => hll (by rw [e]; simp)
              have hll2 : (levelN n != (l : Int) + 1) = true := by simpa using hll1
              simp -implicitDefEqProofs [hll1, hll2, readA, Rs.tm, row_len, take_row, pure_d, re_d, thaw_d, fits_map, hf, go_sem, -List.set_cons_succ, -List.set_cons_zero]
end
/-- the parser does what it is said to do -/
theorem par (s : List UInt8) (hs : s.length ≤ 1000000) : ∀ f, Par s f := by
  intro f
  induction f using Nat.strongRecOn with
  | ind f ih =>
    cases f with
    | zero => exact ⟨fun _ _ _ _ _ _ _ h => (by cases h), fun _ _ _ _ _ h => (by cases h), fun _ _ _ _ _ _ _ h => (by cases h)⟩
    | succ f =>
      have h : ∀ g, g ≤ f → Par s g := fun g hg => ih g (by omega)
      exact ⟨fun i d l r hi hd hl hr H => read_step hs h i d l r hi hd hl hr H, fun i d r hi hd hr H => prime_step hs (h f (Nat.le_refl _)) i d hi hd r hr H, fun i d e o r hi hd hr H => terms_step hs h i d e o r hi hd hr H⟩
end Go.Proofs.YtgfmlifkhpjplaaGreatDoor

/-
  ReadTerm, the program's and the reference's: both read the same.
  Conditions: none.
-/
open Go Go.AM Go.Proofs
namespace Go.Proofs.YtgfmlifkhpjplaaGreatDoor
open Go.ChangeShapes Go.WideShapes Go.ChangeAt Go.RowKit
set_option linter.unusedVariables false
set_option linter.unusedSimpArgs false
set_option maxRecDepth 100000
-- 30 loop.example/prologserver/impl.read params 1 ntmps 43
def ac30 : Cd := .seq (.region [⟨(some 2),.alloc [(.d (.int .i64 0)),(.d (.int .i64 0)),(.d (.str [])),(.full [])],none⟩,
 ⟨(some 3),.mv (.k (.c (.d (.int .i64 0)))),none⟩] [3])
 (.seq (.region [⟨(some 6),.mv (.t 0),none⟩,
 ⟨(some 7),.build [(.d (.str [])),(.d (.int .i64 0)),(.d (.int .i64 0)),(.d (.bool false))] [(0,1,(.t 6)),(2,1,(.k (.c (.d (.int .i64 (-1)))))),(3,1,(.k (.c (.d (.bool true)))))],none⟩,
 ⟨(some 8),.box (.t 7),none⟩,
 ⟨(some 4),.mv (.t 8),none⟩] [6,7,8])
 (.seq (.region [⟨(some 9),.mv (.t 4),none⟩,
 ⟨(some 10),.call false 51 [(.t 9),(.k (.c (.d (.int .i64 3)))),(.k (.c (.d (.int .i64 1))))],none⟩,
 ⟨(some 5),.alloc [(.d (.int .i64 0)),(.d (.int .i64 0)),(.d (.str [])),(.full [])],none⟩,
 ⟨none,.store 4 (.t 5) (.t 10),none⟩] [9,10])
 (.seq (.block 0 (.seq (.region [⟨(some 12),.mv (.t 4),none⟩,
 ⟨(some 13),.nilCheck (.t 12),none⟩,
 ⟨(some 14),.fieldAddr 2 (.t 13),none⟩,
 ⟨(some 15),.load none (.t 14),none⟩,
 ⟨(some 16),.bin .geq (.t 15) (.k (.c (.d (.int .i64 0)))),none⟩,
 ⟨(some 11),.mv (.t 16),none⟩] [12,13,14,15,16])
 (.cond (.t 11)
 (.seq (.weak (.region [⟨(some 17),.build [(.d (.int .i64 0)),(.d (.int .i64 0)),(.d (.str [])),(.full [])] [],none⟩,
 ⟨(some 18),.mv (.t 4),none⟩,
 ⟨(some 19),.nilCheck (.t 18),none⟩,
 ⟨(some 20),.fieldAddr 2 (.t 19),none⟩,
 ⟨(some 21),.loadI none (.t 20),none⟩,
 ⟨none,.store 4 (.t 2) (.t 17),none⟩,
 ⟨(some 3),.mv (.t 21),none⟩] [0,4,5,11,17,18,19,20,21]))
 (.ret))
 (.seq (.region [⟨(some 23),.mv (.t 4),none⟩,
 ⟨(some 24),.nilCheck (.t 23),none⟩,
 ⟨(some 25),.fieldAddr 1 (.t 24),none⟩,
 ⟨(some 26),.load none (.t 25),none⟩,
 ⟨(some 27),.mv (.t 0),none⟩,
 ⟨(some 28),.len 0 (.t 27),none⟩,
 ⟨(some 29),.bin .lss (.t 26) (.t 28),none⟩,
 ⟨(some 22),.mv (.t 29),none⟩] [11,23,24,25,26,27,28,29])
 (.cond (.t 22)
 (.seq (.weak (.region [⟨(some 30),.build [(.d (.int .i64 0)),(.d (.int .i64 0)),(.d (.str [])),(.full [])] [],none⟩,
 ⟨(some 31),.mv (.t 4),none⟩,
 ⟨(some 32),.nilCheck (.t 31),none⟩,
 ⟨(some 33),.fieldAddr 1 (.t 32),none⟩,
 ⟨(some 34),.loadI none (.t 33),none⟩,
 ⟨none,.store 4 (.t 2) (.t 30),none⟩,
 ⟨(some 3),.mv (.t 34),none⟩] [0,4,5,22,30,31,32,33,34]))
 (.ret))
 (.seq (.region [⟨(some 36),.load (some 4) (.t 5),none⟩,
 ⟨(some 37),.qcall 17 [(.t 36)],none⟩,
 ⟨(some 38),.un .not (.t 37),none⟩,
 ⟨(some 35),.mv (.t 38),none⟩] [4,22,36,37,38])
 (.cond (.t 35)
 (.seq (.region [⟨(some 39),.build [(.d (.int .i64 0)),(.d (.int .i64 0)),(.d (.str [])),(.full [])] [],none⟩,
 ⟨(some 40),.mv (.t 0),none⟩,
 ⟨(some 41),.len 0 (.t 40),none⟩,
 ⟨none,.store 4 (.t 2) (.t 39),none⟩,
 ⟨(some 3),.mv (.t 41),none⟩] [0,5,35,39,40,41])
 (.ret))
 (.skip))))))))
 (.seq (.region [⟨(some 42),.load (some 4) (.t 5),none⟩,
 ⟨none,.store 4 (.t 2) (.t 42),none⟩,
 ⟨(some 3),.mv (.k (.c (.d (.int .i64 (-1))))),none⟩] [0,5,35,42])
 (.ret)))))
theorem ac30_ok : cFunc Tryz.prog [1000017,2000020,2000033,4000004,4000006] [(0,[3],[]),(1,[6,7,8],[]),(2,[9,10],[]),(3,[12,13,14,15,16],[]),(4,[0,4,5,11,17,18,19,20,21],[0,1,2,3,4,5,6]),(5,[11,23,24,25,26,27,28,29],[]),(6,[0,4,5,22,30,31,32,33,34],[0,1,2,3,4,5,6]),(7,[4,22,36,37,38],[]),(8,[0,5,35,39,40,41],[]),(9,[0,5,35,42],[])] Tryz.f30 = some (ac30,[.cell 2 (some 4),.tmp 3],43) := by kernel_rfl
-- 10 loop.example/prologserver/impl.ReadTerm params 1 ntmps 18
def ac10 : Cd := .seq (.region [⟨(some 2),.alloc [(.d (.int .i64 0)),(.d (.int .i64 0)),(.d (.str [])),(.full [])],none⟩,
 ⟨(some 3),.mv (.k (.c (.d (.bool false)))),none⟩] [3])
 (.seq (.seq (.region [⟨(some 6),.mv (.t 0),none⟩,
 ⟨(some 7),.len 0 (.t 6),none⟩,
 ⟨(some 8),.bin .gtr (.t 7) (.k (.c (.d (.int .i64 1000)))),none⟩] [6,7])
 (.cond (.t 8)
 (.seq (.region [⟨(some 9),.build [(.d (.int .i64 0)),(.d (.int .i64 0)),(.d (.str [])),(.full [])] [],none⟩,
 ⟨none,.store 4 (.t 2) (.t 9),none⟩,
 ⟨(some 3),.mv (.k (.c (.d (.bool false)))),none⟩] [0,8,9])
 (.ret))
 (.skip)))
 (.seq (.region [⟨(some 11),.mv (.t 0),none⟩,
 ⟨(some 12),.call false 30 [(.t 11)],none⟩,
 ⟨(some 10),.mv (.t 12),none⟩,
 ⟨(some 13),.extract 0 (.t 10),none⟩,
 ⟨(some 14),.extract 1 (.t 10),none⟩,
 ⟨(some 4),.alloc [(.d (.int .i64 0)),(.d (.int .i64 0)),(.d (.str [])),(.full [])],none⟩,
 ⟨none,.store 4 (.t 4) (.t 13),none⟩,
 ⟨(some 5),.mv (.t 14),none⟩] [0,3,8,10,11,12,13,14])
 (.seq (.region [⟨(some 15),.load (some 4) (.t 4),none⟩,
 ⟨(some 16),.mv (.t 5),none⟩,
 ⟨(some 17),.bin .lss (.t 16) (.k (.c (.d (.int .i64 0)))),none⟩,
 ⟨none,.store 4 (.t 2) (.t 15),none⟩,
 ⟨(some 3),.mv (.t 17),none⟩] [4,5,15,16,17])
 (.ret))))
theorem ac10_ok : cFunc Tryz.prog [] [(0,[3],[]),(1,[6,7],[]),(2,[0,8,9],[]),(3,[0,3,8,10,11,12,13,14],[]),(4,[4,5,15,16,17],[])] Tryz.f10 = some (ac10,[.cell 2 (some 4),.tmp 3],18) := by kernel_rfl
-- 9 loop.example/prologserver/spec.ReadTerm params 1 ntmps 27
def ac9 : Cd := .seq (.region [⟨(some 2),.alloc [(.d (.int .i64 0)),(.d (.int .i64 0)),(.d (.str [])),(.full [])],none⟩,
 ⟨(some 3),.mv (.k (.c (.d (.bool false)))),none⟩] [3])
 (.seq (.seq (.region [⟨(some 6),.mv (.t 0),none⟩,
 ⟨(some 7),.len 0 (.t 6),none⟩,
 ⟨(some 8),.bin .gtr (.t 7) (.k (.c (.d (.int .i64 1000)))),none⟩] [6,7])
 (.cond (.t 8)
 (.seq (.region [⟨(some 9),.build [(.d (.int .i64 0)),(.d (.int .i64 0)),(.d (.str [])),(.full [])] [],none⟩,
 ⟨none,.store 4 (.t 2) (.t 9),none⟩,
 ⟨(some 3),.mv (.k (.c (.d (.bool false)))),none⟩] [0,8,9])
 (.ret))
 (.skip)))
 (.seq (.region [⟨(some 11),.mv (.t 0),none⟩,
 ⟨(some 12),.qcall 27 [(.t 11),(.k (.c (.d (.int .i64 0)))),(.k (.c (.d (.int .i64 30)))),(.k (.c (.d (.int .i64 3))))],none⟩,
 ⟨(some 10),.mv (.t 12),none⟩,
 ⟨(some 13),.extract 0 (.t 10),none⟩,
 ⟨(some 14),.extract 1 (.t 10),none⟩,
 ⟨(some 4),.alloc [(.d (.int .i64 0)),(.d (.int .i64 0)),(.d (.str [])),(.full [])],none⟩,
 ⟨none,.store 4 (.t 4) (.t 13),none⟩,
 ⟨(some 5),.mv (.t 14),none⟩] [3,8,10,11,12,13,14])
 (.seq (.seq (.region [⟨(some 15),.mv (.t 5),none⟩,
 ⟨(some 16),.mv (.t 0),none⟩,
 ⟨(some 17),.len 0 (.t 16),none⟩,
 ⟨(some 18),.bin .neq (.t 15) (.t 17),none⟩,
 ⟨(some 19),.mv (.t 18),none⟩,
 ⟨(some 20),.load (some 4) (.t 4),some (19,false)⟩,
 ⟨(some 21),.qcall 28 [(.t 20)],some (19,false)⟩,
 ⟨(some 22),.un .not (.t 21),some (19,false)⟩,
 ⟨(some 23),.pick (.t 19) (.k (.c (.d (.bool true)))) (.t 22),none⟩] [0,5,15,16,17,18,19,20,21,22])
 (.cond (.t 23)
 (.seq (.region [⟨(some 24),.build [(.d (.int .i64 0)),(.d (.int .i64 0)),(.d (.str [])),(.full [])] [],none⟩,
 ⟨none,.store 4 (.t 2) (.t 24),none⟩,
 ⟨(some 3),.mv (.k (.c (.d (.bool false)))),none⟩] [4,23,24])
 (.ret))
 (.skip)))
 (.seq (.region [⟨(some 25),.load (some 4) (.t 4),none⟩,
 ⟨(some 26),.qcall 29 [(.t 25)],none⟩,
 ⟨none,.store 4 (.t 2) (.t 26),none⟩,
 ⟨(some 3),.mv (.k (.c (.d (.bool true)))),none⟩] [4,23,25,26])
 (.ret)))))
theorem ac9_ok : cFunc Tryz.prog [1000027,1000028,1000029] [(0,[3],[]),(1,[6,7],[]),(2,[0,8,9],[]),(3,[3,8,10,11,12,13,14],[]),(4,[0,5,15,16,17,18,19,20,21,22],[]),(5,[4,23,24],[]),(6,[4,23,25,26],[])] Tryz.f9 = some (ac9,[.cell 2 (some 4),.tmp 3],27) := by kernel_rfl
def zeroT : Tm := .mk 0 0 [] []
/-- the term that a text is read as -/
def okT (s : List UInt8) : Option Tm := match rdF s (.read 0 30 3) with
  | some (.ok ts k) => if k = s.length ∧ (Rs.tm ts).valid = true then some (Rs.tm ts) else none
  | _ => none
def okR (s : List UInt8) : Option Tm := if 1000 < s.length then none else okT s
def okA : Option Tm → A
  | some t => .tup [.agg (t.row.map .d), .c (.d (.bool true))]
  | none => .tup [.agg (zeroT.row.map .d), .c (.d (.bool false))]
/-- what read gives -/
def rdPl (s : List UInt8) : Rs → Tm × Int
  | .bad e => (zeroT, e)
  | .ok ts k => if k < s.length then (zeroT, k) else if (Rs.tm ts).valid then (Rs.tm ts, -1) else (zeroT, s.length)
end Go.Proofs.YtgfmlifkhpjplaaGreatDoor

/-
  What the calls of the library read, as the rows list it.
  Conditions: none.
-/
open Go Go.AM Go.Proofs
namespace Go.Proofs.YtgfmlifkhpjplaaGreatDoor
open Go.Lib Go.RowKit
set_option linter.unusedVariables false
set_option linter.unusedSimpArgs false
set_option maxRecDepth 100000
theorem lib_laid {W : World} (h : laidMetH Tryz.prog laid W) : ∃ ts : List (Nat × Obj), (ts.map Prod.fst).Nodup ∧ (∀ x ∈ ts, W.heap[x.1]? = some x.2) ∧ Lib2 ts := by
  rw [MakeChecks.laidMetH_plain _ _ _ (by kernel_rfl)] at h
  obtain ⟨ps, ⟨_, _, _, _, _, _, _, _, _, _, ⟨_, _, _, _, _, _, _, _, _, _, ⟨g2, t2, cs2, f2, p2, q2, hg2, ht2, hv2, hd2, ⟨g3, t3, cs3, f3, p3, q3, hg3, ht3, hv3, hd3, _, _⟩, _⟩, _⟩, _⟩, _, _⟩ := h
  have n2 : Tryz.prog.globalNamed (laid[2]).1 = some 0 := by kernel_rfl
  have n3 : Tryz.prog.globalNamed (laid[3]).1 = some 3 := by kernel_rfl
  have e1 : g2 = 0 := (Option.some.inj (n2.symm.trans hg2)).symm
  subst e1
  have e2 : t2 = 129 := by
    have ht : (Tryz.prog.globals[0]?).map (·.type) = some 129 := by kernel_rfl
    exact (Option.some.inj (ht.symm.trans ht2)).symm
  subst e2
  have e3 := cells_of_tab (k := .u64) (zs := Lib.pow10Tab) Tryz.underlying129 Tryz.underlying114 (by kernel_rfl) (by kernel_rfl) hd2
  have e4 : cs2 = (Lib.pow10Tab.map fun z => Value.int .u64 z).toArray := by
    rw [← e3]
  have e5 : g3 = 3 := (Option.some.inj (n3.symm.trans hg3)).symm
  subst e5
  have e6 : t3 = 105 := by
    have ht : (Tryz.prog.globals[3]?).map (·.type) = some 105 := by kernel_rfl
    exact (Option.some.inj (ht.symm.trans ht3)).symm
  subst e6
  obtain ⟨_, u, v, e7, _, _⟩ := iface_of_trod Tryz.underlying105 hd3
  have e8 : cs3 = #[.iface u v] := by rw [← Array.toArray_toList (xs := cs3), e7]
  obtain ⟨o, h1, h2⟩ := tab_of_at n2 (show Lib.TabIs Tryz.prog W (laid[2]).1 .u64 Lib.pow10Tab from hv2.trans (congrArg some e4))
  obtain ⟨o2, h3, h4⟩ := one_of_at n3 (hv3.trans (congrArg some e8))
  refine ⟨[(0, o), (3, o2)], (show ([0, 3] : List Nat).Nodup by decide), fun x hx => ?_, o, o2, rfl, fun w hw n h5 h6 => Any.strconv_Itoa Tryz.laysM171 n h5 h6 w (h2 w hw), fun w hw => ⟨u, v, h4 w hw⟩⟩
  rcases List.mem_cons.1 hx with rfl | hx
  · exact h1
  · rw [List.mem_singleton.1 hx]; exact h3
end Go.Proofs.YtgfmlifkhpjplaaGreatDoor

/-
  ReadTerm, the program's and the reference's: both read the same.
  Conditions: none.
-/
open Go Go.AM Go.Proofs
namespace Go.Proofs.YtgfmlifkhpjplaaGreatDoor
open Go.ChangeShapes Go.WideShapes Go.ChangeAt Go.RowKit
set_option linter.unusedVariables false
set_option linter.unusedSimpArgs false
set_option maxRecDepth 100000
def okO (s : List UInt8) : Rs → Option Tm
  | .ok ts k => if k = s.length ∧ (Rs.tm ts).valid = true then some (Rs.tm ts) else none
  | _ => none
theorem okT_ok {s : List UInt8} {t : Tm} (h : okT s = some t) : ∃ ts k, rdF s (.read 0 30 3) = some (.ok ts k) ∧ k = s.length ∧ t.valid = true ∧ t = Rs.tm ts := by
  unfold okT at h
  split at h
  · rename_i ts k he
    split at h
    · rename_i hc; cases h; exact ⟨ts, k, he, hc.1, hc.2, rfl⟩
    · cases h
  · cases h
theorem rd_eq {s : List UInt8} (hs : s.length ≤ 1000000) {F : Nat} {r : Rs} (hr : rp s F (.term 3 1 0) = some r) : ((rdPl s r).2 < 0 ∧ okT s = some (rdPl s r).1) ∨ (¬ (rdPl s r).2 < 0 ∧ (rdPl s r).1 = zeroT ∧ okT s = none) := by
  have ht := rp_tells hs F (.term 3 1 0) r hr ⟨Nat.zero_le _, Nat.le_refl _⟩ 30 (Nat.le_refl _)
  have p1 := rp_post hs (j := .term 3 1 0) ⟨Nat.zero_le _, Nat.le_refl _⟩ hr
  cases r with
  | bad e =>
    refine .inr ⟨by show ¬ ((e : Int) < 0); omega, rfl, ?_⟩
    cases ho : okT s with
    | none => rfl
    | some t =>
      obtain ⟨ts, k, h1, h2, h3, h4⟩ := okT_ok ho
      obtain ⟨u, hu, hsh⟩ := ht ts k h1
      have h5 := (read_one hs (Nat.zero_le _) (Nat.le_refl _) h1).1
      rw [h5] at hu
      rw [List.mem_singleton.1 hu, ← h4] at hsh
      have h3' : t.shape 30 = true := by
        unfold Tm.valid at h3
        rw [Bool.and_eq_true] at h3
        exact h3.1
      have hsh : t.shape 30 = false := hsh
      rw [h3'] at hsh
      cases hsh
  | ok ts k =>
    have ht : rdF s (.read 0 30 3) = some (.ok ts k) := ht
    obtain ⟨q1, q2, q3⟩ := p1
    by_cases hlt : k < s.length
    · refine .inr ⟨?_, ?_, ?_⟩
      · simp only [rdPl, if_pos hlt]; omega
      · simp only [rdPl, if_pos hlt]
      · simp only [okT, ht]; rw [if_neg (by omega)]
    · cases hv : (Rs.tm ts).valid with
      | true =>
        refine .inl ⟨?_, ?_⟩
        · simp only [rdPl, if_neg hlt, hv, if_true]; decide
        · simp only [rdPl, if_neg hlt, hv, if_true, okT, ht]; rw [if_pos ⟨by omega, trivial⟩]
      | false =>
        refine .inr ⟨?_, ?_, ?_⟩
        · simp only [rdPl, if_neg hlt, hv, Bool.false_eq_true, if_false]; omega
        · simp only [rdPl, if_neg hlt, hv, Bool.false_eq_true, if_false]
        · simp only [okT, ht, hv]; rw [if_neg (by simp)]
theorem readTermS_calls (s : List UInt8) (hs : s.length ≤ 1000000) (H : Heap) : ACalls Tryz.prog 9 [.c (.d (.str s))] H (fun r H' => H' = H ∧ r = okA (okR s)) := by
  refine acalls Tryz.func9 (by kernel_rfl) ac9_ok fun hf => ?_
  have hli : inR .i64 (s.length : Int) := small_i64 (by omega) (by omega)
  by_cases hl : 1000 < s.length
  · have hl' : (1000 : Int) < s.length := by omega
    simp -implicitDefEqProofs [ac9, hli, hl', okR, hl, okA, zeroT, row_mk, hf, go_sem, -List.set_cons_succ, -List.set_cons_zero]
  · have hl' : ¬ (1000 : Int) < s.length := by omega
    have hpre : (Job.read 0 30 3).pre s := ⟨Nat.zero_le _, Nat.le_refl _⟩
    obtain ⟨r, hr, p1⟩ := rdF_some hs hpre
    have c1 := (par s hs _).read 0 30 3 r (Nat.zero_le _) (by omega) (Nat.le_refl _) hr
    have hok : okR s = okT s := by unfold okR; rw [if_neg hl]
    rw [hok]
    simp -implicitDefEqProofs [ac9, hli, hl', hf, go_sem, -List.set_cons_succ, -List.set_cons_zero]
    refine qcall_pure c1 hf (readA_re _ _) ?_
    have hT : okT s = okO s r := by
      unfold okT; rw [hr]; cases r <;> rfl
    cases r with
    | bad e =>
      have hne : ¬ (-1 - (e : Int)) = s.length := by omega
      simp -implicitDefEqProofs [hT, okO, readA, okA, zeroT, row_mk, hli, hne, hf, go_sem, -List.set_cons_succ, -List.set_cons_zero]
    | ok ts k =>
      obtain ⟨g1, g2, t, rfl, g3⟩ := p1
      by_cases hk : k = s.length
      · subst hk
        simp -implicitDefEqProofs [hT, okO, readA, Rs.tm, row_len, take_row, drop_row, pure_d, re_d, hli, hf, go_sem, -List.set_cons_succ, -List.set_cons_zero]
        refine qcall_pure (tvSpec_calls t g3) hf rfl ?_
        cases hv : t.valid with
        | true =>
          simp -implicitDefEqProofs [hv, row_len, take_row, drop_row, pure_d, re_d, hf, go_sem, -List.set_cons_succ, -List.set_cons_zero]
          refine qcall_pure (copy_calls t g3) hf (by simp [A.re, re_d]) ?_
          simp -implicitDefEqProofs [okA, row_len, take_row, drop_row, pure_d, re_d, thaw_d, fits_map, hf, go_sem, -List.set_cons_succ, -List.set_cons_zero]
        | false =>
          simp -implicitDefEqProofs [hv, okA, zeroT, row_mk, hf, go_sem, -List.set_cons_succ, -List.set_cons_zero]
      · have hne : ¬ (k : Int) = s.length := by omega
        simp -implicitDefEqProofs [hT, okO, readA, Rs.tm, okA, zeroT, row_mk, hli, hne, hk, row_len, take_row, drop_row, pure_d, re_d, hf, go_sem, -List.set_cons_succ, -List.set_cons_zero]
end Go.Proofs.YtgfmlifkhpjplaaGreatDoor

/-
  A term's kids are marked, and looked at again.
  Conditions: none.
-/
open Go Go.AM Go.Proofs
namespace Go.Proofs.YtgfmlifkhpjplaaGreatDoor
open Go.ChangeShapes Go.WideShapes Go.ChangeAt Go.RowKit
set_option linter.unusedVariables false
set_option linter.unusedSimpArgs false
set_option maxRecDepth 100000
-- 12 loop.example/prologserver/laws.markTerm params 2 ntmps 10
def ac12 : Cd := .seq (.region [⟨(some 2),.box (.t 0),none⟩,
 ⟨(some 4),.mv (.k (.c (.d (.int .i64 0)))),none⟩] [0,4])
 (.seq (.region [⟨(some 5),.fieldAddr 3 (.t 2),none⟩,
 ⟨(some 6),.load none (.t 5),none⟩,
 ⟨(some 7),.mv (.t 1),none⟩,
 ⟨(some 8),.call false 32 [(.t 6),(.t 7)],none⟩,
 ⟨(some 1),.mv (.t 8),none⟩] [2,5,6,7,8])
 (.seq (.region [⟨(some 9),.mv (.t 1),none⟩,
 ⟨(some 4),.mv (.t 9),none⟩] [1,9])
 (.ret)))
theorem ac12_ok : cFunc Tryz.prog [] [(0,[0,4],[]),(1,[2,5,6,7,8],[]),(2,[1,9],[])] Tryz.f12 = some (ac12,[.tmp 4],10) := by kernel_rfl
-- 13 loop.example/prologserver/laws.heldTerm params 2 ntmps 12
def ac13 : Cd := .seq (.region [⟨(some 2),.box (.t 0),none⟩,
 ⟨(some 4),.mv (.k (.c (.d (.int .i64 0)))),none⟩] [0,4])
 (.seq (.region [⟨(some 5),.fieldAddr 3 (.t 2),none⟩,
 ⟨(some 6),.load none (.t 5),none⟩,
 ⟨(some 7),.mv (.t 1),none⟩,
 ⟨(some 8),.qcall 33 [(.t 6),(.t 7)],none⟩,
 ⟨(some 1),.mv (.t 8),none⟩] [2,5,6,7,8])
 (.seq (.seq (.region [⟨(some 9),.mv (.t 1),none⟩,
 ⟨(some 10),.bin .lss (.t 9) (.k (.c (.d (.int .i64 0)))),none⟩] [9])
 (.cond (.t 10)
 (.seq (.region [⟨(some 4),.mv (.k (.c (.d (.int .i64 (-1))))),none⟩] [1,10])
 (.ret))
 (.skip)))
 (.seq (.region [⟨(some 11),.mv (.t 1),none⟩,
 ⟨(some 4),.mv (.t 11),none⟩] [1,10,11])
 (.ret))))
theorem ac13_ok : cFunc Tryz.prog [1000033] [(0,[0,4],[]),(1,[2,5,6,7,8],[]),(2,[9],[]),(3,[1,10],[]),(4,[1,10,11],[])] Tryz.f13 = some (ac13,[.tmp 4],12) := by kernel_rfl
theorem markTerm_calls (t : Tm) (h : t.fits) (k : Int) (h0 : 0 ≤ k) (h1 : k + 3 * t.sub ≤ 500000000000000) (kv : Value) :
    ACalls Tryz.prog 12 [.agg [.d (.int .i64 t.k), .d (.int .i64 t.n), .d (.str t.s), .d (.v kv)], .c (.d (.int .i64 k))] [.tree kv (t.kids.map Tm.row)]
    (fun r H' => H' = [.tree kv ((mTms k t.kids).map Tm.row)] ∧ r = .c (.d (.int .i64 (k + 3 * t.sub)))) := by
  refine acalls Tryz.func12 (by kernel_rfl) ac12_ok fun hf => ?_
  simp -implicitDefEqProofs [ac12, go_sem, -List.set_cons_succ, -List.set_cons_zero]
  refine call_ext (J := [0]) (markT_calls t h k h0 h1 kv) (fun r H' ⟨h1, h2⟩ => by subst h1; subst h2; exact ⟨⟨rfl, rfl⟩, rfl⟩) rfl (.cons (.c .d) (.cons (.c .d) .nil)) (by simp) rfl rfl ⟨trivial, trivial⟩ ?_
  rintro _ _ ⟨rfl, rfl⟩
  simp -implicitDefEqProofs [putAll, go_sem, -List.set_cons_succ, -List.set_cons_zero]
theorem heldTerm_calls (t : Tm) (h : t.fits) (a b : Int) (s : List UInt8) (k : Int) (h0 : 0 ≤ k) (h1 : k + 3 * t.sub ≤ 500000000000000) (H : Heap) :
    ACalls Tryz.prog 13 [.agg [.d (.int .i64 a), .d (.int .i64 b), .d (.str s), .d (.sl ((mTms k t.kids).map Tm.row))], .c (.d (.int .i64 k))] H
    (fun r H' => H' = H ∧ r = .c (.d (.int .i64 (k + 3 * t.sub)))) := by
  refine acalls Tryz.func13 (by kernel_rfl) ac13_ok fun hf => ?_
  simp -implicitDefEqProofs [ac13, go_sem, -List.set_cons_succ, -List.set_cons_zero]
  refine qcall_pure (heldT_calls t h k h0 h1) hf rfl ?_
  have : ¬ (k + 3 * (t.sub : Int) < 0) := by omega
  simp -implicitDefEqProofs [this, go_sem, -List.set_cons_succ, -List.set_cons_zero]
theorem fz_tm {H : Heap} {i : Nat} {v : Value} {t : Tm} (h : H[i]? = some (.tree v (t.kids.map Tm.row))) : FzA H [] (.agg [.d (.int .i64 t.k), .d (.int .i64 t.n), .d (.str t.s), .d (.v v)]) (.agg (t.row.map .d)) := by
  rw [row_eq]
  exact .agg (.cons .d (.cons .d (.cons .d (.cons (.tree h (by simp)) .nil))))
theorem fz_row {H : Heap} {J : List Nat} {t : Tm} : FzA H J (.agg (t.row.map .d)) (.agg (t.row.map .d)) := .agg (fzCs_id _)
end Go.Proofs.YtgfmlifkhpjplaaGreatDoor

/-
  ReadTerm hands out a term that stands in arrays of its own.
  Conditions: none.
-/
open Go Go.AM Go.Proofs
namespace Go.Proofs.YtgfmlifkhpjplaaGreatDoor
open Go.ChangeShapes Go.WideShapes Go.ChangeAt Go.RowKit
set_option linter.unusedVariables false
set_option linter.unusedSimpArgs false
set_option maxRecDepth 100000
namespace Own
-- 30 loop.example/prologserver/impl.read params 1 ntmps 43
def ac30 : Cd := .seq (.region [⟨(some 2),.alloc [(.d (.int .i64 0)),(.d (.int .i64 0)),(.d (.str [])),(.full [])],none⟩,
 ⟨(some 3),.mv (.k (.c (.d (.int .i64 0)))),none⟩] [3])
 (.seq (.region [⟨(some 6),.mv (.t 0),none⟩,
 ⟨(some 7),.build [(.d (.str [])),(.d (.int .i64 0)),(.d (.int .i64 0)),(.d (.bool false))] [(0,1,(.t 6)),(2,1,(.k (.c (.d (.int .i64 (-1)))))),(3,1,(.k (.c (.d (.bool true)))))],none⟩,
 ⟨(some 8),.box (.t 7),none⟩,
 ⟨(some 4),.mv (.t 8),none⟩] [6,7,8])
 (.seq (.region [⟨(some 9),.mv (.t 4),none⟩,
 ⟨(some 10),.call false 51 [(.t 9),(.k (.c (.d (.int .i64 3)))),(.k (.c (.d (.int .i64 1))))],none⟩,
 ⟨(some 5),.alloc [(.d (.int .i64 0)),(.d (.int .i64 0)),(.d (.str [])),(.full [])],none⟩,
 ⟨none,.store 4 (.t 5) (.t 10),none⟩] [9,10])
 (.seq (.block 0 (.seq (.region [⟨(some 12),.mv (.t 4),none⟩,
 ⟨(some 13),.nilCheck (.t 12),none⟩,
 ⟨(some 14),.fieldAddr 2 (.t 13),none⟩,
 ⟨(some 15),.load none (.t 14),none⟩,
 ⟨(some 16),.bin .geq (.t 15) (.k (.c (.d (.int .i64 0)))),none⟩,
 ⟨(some 11),.mv (.t 16),none⟩] [12,13,14,15,16])
 (.cond (.t 11)
 (.seq (.weak (.region [⟨(some 17),.build [(.d (.int .i64 0)),(.d (.int .i64 0)),(.d (.str [])),(.full [])] [],none⟩,
 ⟨(some 18),.mv (.t 4),none⟩,
 ⟨(some 19),.nilCheck (.t 18),none⟩,
 ⟨(some 20),.fieldAddr 2 (.t 19),none⟩,
 ⟨(some 21),.loadI none (.t 20),none⟩,
 ⟨none,.store 4 (.t 2) (.t 17),none⟩,
 ⟨(some 3),.mv (.t 21),none⟩] [0,4,5,11,17,18,19,20,21]))
 (.ret))
 (.seq (.region [⟨(some 23),.mv (.t 4),none⟩,
 ⟨(some 24),.nilCheck (.t 23),none⟩,
 ⟨(some 25),.fieldAddr 1 (.t 24),none⟩,
 ⟨(some 26),.load none (.t 25),none⟩,
 ⟨(some 27),.mv (.t 0),none⟩,
 ⟨(some 28),.len 0 (.t 27),none⟩,
 ⟨(some 29),.bin .lss (.t 26) (.t 28),none⟩,
 ⟨(some 22),.mv (.t 29),none⟩] [11,23,24,25,26,27,28,29])
 (.cond (.t 22)
 (.seq (.weak (.region [⟨(some 30),.build [(.d (.int .i64 0)),(.d (.int .i64 0)),(.d (.str [])),(.full [])] [],none⟩,
 ⟨(some 31),.mv (.t 4),none⟩,
 ⟨(some 32),.nilCheck (.t 31),none⟩,
 ⟨(some 33),.fieldAddr 1 (.t 32),none⟩,
 ⟨(some 34),.loadI none (.t 33),none⟩,
 ⟨none,.store 4 (.t 2) (.t 30),none⟩,
 ⟨(some 3),.mv (.t 34),none⟩] [0,4,5,22,30,31,32,33,34]))
 (.ret))
 (.seq (.region [⟨(some 36),.load (some 4) (.t 5),none⟩,
 ⟨(some 37),.qcall 17 [(.t 36)],none⟩,
 ⟨(some 38),.un .not (.t 37),none⟩,
 ⟨(some 35),.mv (.t 38),none⟩] [4,22,36,37,38])
 (.cond (.t 35)
 (.seq (.region [⟨(some 39),.build [(.d (.int .i64 0)),(.d (.int .i64 0)),(.d (.str [])),(.full [])] [],none⟩,
 ⟨(some 40),.mv (.t 0),none⟩,
 ⟨(some 41),.len 0 (.t 40),none⟩,
 ⟨none,.store 4 (.t 2) (.t 39),none⟩,
 ⟨(some 3),.mv (.t 41),none⟩] [0,5,35,39,40,41])
 (.ret))
 (.skip))))))))
 (.seq (.region [⟨(some 42),.load (some 4) (.t 5),none⟩,
 ⟨none,.store 4 (.t 2) (.t 42),none⟩,
 ⟨(some 3),.mv (.k (.c (.d (.int .i64 (-1))))),none⟩] [0,5,35,42])
 (.ret)))))
theorem ac30_ok : cFunc Tryz.prog [1000017,2000020,2000033,4000004,4000006] [(0,[3],[]),(1,[6,7,8],[]),(2,[9,10],[]),(3,[12,13,14,15,16],[]),(4,[0,4,5,11,17,18,19,20,21],[0,1,2,3,4,5,6]),(5,[11,23,24,25,26,27,28,29],[]),(6,[0,4,5,22,30,31,32,33,34],[0,1,2,3,4,5,6]),(7,[4,22,36,37,38],[]),(8,[0,5,35,39,40,41],[]),(9,[0,5,35,42],[])] Tryz.f30 = some (ac30,[.cell 2 (some 4),.tmp 3],43) := by kernel_rfl
-- 10 loop.example/prologserver/impl.ReadTerm params 1 ntmps 18
def ac10 : Cd := .seq (.region [⟨(some 2),.alloc [(.d (.int .i64 0)),(.d (.int .i64 0)),(.d (.str [])),(.full [])],none⟩,
 ⟨(some 3),.mv (.k (.c (.d (.bool false)))),none⟩] [3])
 (.seq (.seq (.region [⟨(some 6),.mv (.t 0),none⟩,
 ⟨(some 7),.len 0 (.t 6),none⟩,
 ⟨(some 8),.bin .gtr (.t 7) (.k (.c (.d (.int .i64 1000)))),none⟩] [6,7])
 (.cond (.t 8)
 (.seq (.region [⟨(some 9),.build [(.d (.int .i64 0)),(.d (.int .i64 0)),(.d (.str [])),(.full [])] [],none⟩,
 ⟨none,.store 4 (.t 2) (.t 9),none⟩,
 ⟨(some 3),.mv (.k (.c (.d (.bool false)))),none⟩] [0,8,9])
 (.ret))
 (.skip)))
 (.seq (.region [⟨(some 11),.mv (.t 0),none⟩,
 ⟨(some 12),.call false 30 [(.t 11)],none⟩,
 ⟨(some 10),.mv (.t 12),none⟩,
 ⟨(some 13),.extract 0 (.t 10),none⟩,
 ⟨(some 14),.extract 1 (.t 10),none⟩,
 ⟨(some 4),.alloc [(.d (.int .i64 0)),(.d (.int .i64 0)),(.d (.str [])),(.full [])],none⟩,
 ⟨none,.store 4 (.t 4) (.t 13),none⟩,
 ⟨(some 5),.mv (.t 14),none⟩] [0,3,8,10,11,12,13,14])
 (.seq (.region [⟨(some 15),.load (some 4) (.t 4),none⟩,
 ⟨(some 16),.mv (.t 5),none⟩,
 ⟨(some 17),.bin .lss (.t 16) (.k (.c (.d (.int .i64 0)))),none⟩,
 ⟨none,.store 4 (.t 2) (.t 15),none⟩,
 ⟨(some 3),.mv (.t 17),none⟩] [4,5,15,16,17])
 (.ret))))
theorem ac10_ok : cFunc Tryz.prog [] [(0,[3],[]),(1,[6,7],[]),(2,[0,8,9],[]),(3,[0,3,8,10,11,12,13,14],[]),(4,[4,5,15,16,17],[])] Tryz.f10 = some (ac10,[.cell 2 (some 4),.tmp 3],18) := by kernel_rfl
end Own
/-- a pair of a term and a datum is handed out -/
theorem fin_tok2 {H : Heap} {rs : List Rv} {Q : A → Heap → Prop} {st : St} {t : Tm} {x : Value} {y : D} (j : Nat) (hy : y.leaf = true) (hok : r_ st rs) (hg : Goes H st.ext) (hr : resRaw st rs = some (.tup [.agg ((srow t x).map .d), .c (.d y)])) (hj : st.loc[j]? = some (ktree t x))
    (hq : Q (.tup [.agg ((srow t x).map .d), .c (.d y)]) (st.ext ++ [ktree t x])) : FinG H rs Q .ret st :=
  finG_ret _ hok hg hr fun kv => ⟨_, [], [], [ktree t x], [j], .tup (.cons (.agg (.cons (.leaf rfl) (.cons (.leaf rfl) (.cons (.leaf rfl) (.cons (.leaf rfl) .nil))))) (.cons (.c (.leaf hy)) .nil)), by simp [hj], rfl, by simp, hq⟩
theorem fin_full2 {H : Heap} {rs : List Rv} {Q : A → Heap → Prop} {st : St} {t : Tm} {y : D} (hk : t.kids = []) (hy : y.leaf = true) (hok : r_ st rs) (hg : Goes H st.ext) (hr : resRaw st rs = some (.tup [.agg [.d (.int .i64 t.k), .d (.int .i64 t.n), .d (.str t.s), .full []], .c (.d y)]))
    (hq : ∀ x, Q (.tup [.agg ((srow t x).map .d), .c (.d y)]) (st.ext ++ [ktree t x])) : FinG H rs Q .ret st := by
  obtain ⟨k, n, s, l⟩ := t
  obtain rfl : l = [] := hk
  exact finG_ret _ hok hg hr fun kv => ⟨_, _, _, [], [], .tup (.cons (.agg (.cons (.leaf rfl) (.cons (.leaf rfl) (.cons (.leaf rfl) (.cons .full .nil))))) (.cons (.c (.leaf hy)) .nil)), rfl, rfl, by simp, hq _⟩
/-- a function that hands out a term and a datum, beside what is told -/
def HandsTD (f : FuncId) (xs : List A) (t : Tm) (y : D) : Prop := ∀ H, Hp H → H.all Ob.tellB = true → ACalls Tryz.prog f xs H (fun r H' => ∃ x, r = .tup [.agg ((srow t x).map .d), .c (.d y)] ∧ H' = H ++ [ktree t x])
theorem call_td {f : FuncId} {xs : List A} {t : Tm} {y : D} (hc : HandsTD f xs t y) {sl : List A} {ext loc H₂ : Heap} {K : A → St → Prop} (hp : Hp ext) (ht : ext.all Ob.tellB = true) (hl : (loc.map (Ob.re ext.length)).all Ob.tellB = true) (hf : Obs.fits ext.length 0 ext)
    (hH : H₂ = ext ++ loc.map (Ob.re ext.length)) (hk : ∀ x, K (.tup [.agg ((srow t x).map .d), .c (.d y)]) ⟨sl, ext, loc ++ [ktree t x]⟩) : ACalls Tryz.prog f xs H₂ (CallK K ⟨sl, ext, loc⟩) := by
  subst hH
  refine (hc _ (hp_append hp _) (by rw [List.all_append, ht, hl]; rfl)).mono fun r H' ⟨x, h1, h2⟩ => ?_
  subst h1
  refine ⟨ext, loc ++ [ktree t x], _, ?_, rfl, by simp, hf, ?_, hk x⟩
  · rw [h2, List.map_append, List.append_assoc]; rfl
  · simp [A.re, A.res, C.re, srow]
theorem call_ownO {f : FuncId} {xs : List A} {s : List UInt8} {a : Nat} {r : Rs} (hd : Rdo f xs s a r) {ext : Heap} {sl : List A} {z : Ob} {H₂ : Heap} {K : A → St → Prop} (hp : Hp ext) (ht : ext.all Ob.tellB = true) (hzt : z.tellB = true) (hz : Ob.re ext.length z = z)
    (hH : H₂ = ext ++ [z, rdO s a (-1)]) (hf : Obs.fits ext.length 0 ext) (hk : ∀ t x a' b', RPo s r t a' b' → K (.agg ((srow t x).map .d)) ⟨sl, ext, [z, rdO s a' b', ktree t x]⟩) :
    ACalls Tryz.prog f (.c (.ptr (.e (ext.length + 1)) 0) :: xs) H₂ (CallK K ⟨sl, ext, [z, rdO s a (-1)]⟩) := by
  subst hH
  have hl : 2 ≤ ext.length := by
    obtain ⟨o, o2, _, h2, _⟩ := hp
    have := (List.getElem?_eq_some_iff.1 h2).1
    omega
  have hro : ∀ a' b', ro (ext ++ [z, rdO s a (-1)]) (ext.length + 1) s a' b' = ext ++ [z, rdO s a' b'] := fun a' b' => by
    unfold ro
    rw [List.set_append_right _ _ (by omega), Nat.add_sub_cancel_left]
    rfl
  have h := hd (ext ++ [z, rdO s a (-1)]) (ext.length + 1) (hp_append hp _) (by rw [List.all_append, ht]; simp [hzt]; rfl) (by omega) (by simp)
  rw [hro] at h
  refine h.mono fun r' H' ⟨t, x, a', b', hrp, h2, h3⟩ => ?_
  rw [hro] at h3
  refine ⟨ext, [z, rdO s a' b', ktree t x], r', by rw [h3]; show _ = ext ++ [Ob.re ext.length z, Ob.re ext.length (rdO s a' b'), Ob.re ext.length (ktree t x)]; rw [hz, List.append_assoc]; rfl, rfl, by simp, hf, ?_, by rw [h2]; exact hk _ _ _ _ hrp⟩
  rw [h2]
  simp [A.re, re_d]
theorem le_read2 {sl : List A} {ext : Heap} {z : Ob} (row : List D) (x : Heap) (h1 : Sl.le sl (sl.set 5 .u)) (h2 : As.lo ext.length 2 (sl.set 5 .u)) (h3 : Obs.lo ext.length 2 [z, .cells (row.map .d)]) (h4 : (sl.set 5 .u)[4]? = some (.c (.ptr (.l 1) 0)))
    (h5 : As.lo ext.length 1 ((sl.set 5 .u).set 4 .u)) (h6 : Obs.lo ext.length 1 [z]) : St.le ⟨sl, ext, z :: .cells (row.map .d) :: x⟩ ⟨(sl.set 5 .u).set 4 (.c (.el row 0)), ext, [z]⟩ :=
  St.le_trans (St.le_cut (loc' := [z, .cells (row.map .d)]) x h1 h2 rfl h3) (St.le_el (loc := [z]) 4 h4 h5 h6)
set_option maxHeartbeats 1600000 in
theorem readOwn_calls (s : List UInt8) (hs : s.length ≤ 1000) {F : Nat} {r : Rs} (hr : rp s F (.term 3 1 0) = some r) : HandsTD 30 [.c (.d (.str s))] (rdPl s r).1 (.int .i64 (rdPl s r).2) := fun H hp htl => by
  refine acallsG Tryz.func30 (by kernel_rfl) Own.ac30_ok fun hf => ?_
  have hs6 : s.length ≤ 1000000 := by omega
  have c1 := (pro s hs6 F).term 3 1 0 r (Nat.zero_le _) (Nat.le_refl _) (by omega) hr
  have p1 := rp_post hs6 (j := .term 3 1 0) ⟨Nat.zero_le _, Nat.le_refl _⟩ hr
  have hli : inR .i64 (s.length : Int) := small_i64 (by omega) (by omega)
  have hgo := Goes.refl (tells_free htl)
  simp -implicitDefEqProofs [Own.ac30, hf, go_sem, -List.set_cons_succ, -List.set_cons_zero]
  refine call_ownO c1 hp htl rfl (by simp [Ob.re, C.re]) rfl hf ?_
  rintro t x a b ⟨ht, hm⟩
  cases r with
  | bad e =>
    obtain ⟨g1, g2⟩ := hm
    subst g2
    simp -implicitDefEqProofs [srow, rdO, rdPl, hf, go_sem, -List.set_cons_succ, -List.set_cons_zero]
    refine weak_le (le_read2 [.str s, .int .i64 a, .int .i64 e, .bool true] _ ?_ ?_ ?_ ?_ ?_ ?_) ?_
    · simp [Sl.le, A.le_refl_iff, A.le_u_iff, As.lo, A.lo, C.lo, Ref.lo, Cs.lo, Obs.lo, Ob.lo, setAll, and_true, true_and, List.length_nil, List.length_cons]
    · simp [Sl.le, A.le_refl_iff, A.le_u_iff, As.lo, A.lo, C.lo, Ref.lo, Cs.lo, Obs.lo, Ob.lo, setAll, and_true, true_and, List.length_nil, List.length_cons]
    · simp [Sl.le, A.le_refl_iff, A.le_u_iff, As.lo, A.lo, C.lo, Ref.lo, Cs.lo, Obs.lo, Ob.lo, setAll, and_true, true_and, List.length_nil, List.length_cons]
    · rfl
    · simp [Sl.le, A.le_refl_iff, A.le_u_iff, As.lo, A.lo, C.lo, Ref.lo, Cs.lo, Obs.lo, Ob.lo, setAll, and_true, true_and, List.length_nil, List.length_cons]
    · simp [Sl.le, A.le_refl_iff, A.le_u_iff, As.lo, A.lo, C.lo, Ref.lo, Cs.lo, Obs.lo, Ob.lo, setAll, and_true, true_and, List.length_nil, List.length_cons]
    · simp -implicitDefEqProofs [hf, go_sem, -List.set_cons_succ, -List.set_cons_zero]
      exact fin_full2 (t := zeroT) rfl rfl ⟨trivial, trivial, trivial⟩ hgo rfl fun x => ⟨x, rfl, rfl⟩
  | ok ts k =>
    obtain ⟨g1, g2, g3⟩ := hm
    subst g2
    subst g3
    obtain ⟨q1, q2, q3⟩ := p1
    by_cases hlt : a < s.length
    · have hlt' : (a : Int) < s.length := by omega
      simp -implicitDefEqProofs [srow, rdO, rdPl, hli, hlt, hlt', hf, go_sem, -List.set_cons_succ, -List.set_cons_zero]
      refine weak_le (le_read2 [.str s, .int .i64 a, .int .i64 (-1), .bool true] _ ?_ ?_ ?_ ?_ ?_ ?_) ?_
      · simp [Sl.le, A.le_refl_iff, A.le_u_iff, As.lo, A.lo, C.lo, Ref.lo, Cs.lo, Obs.lo, Ob.lo, setAll, and_true, true_and, List.length_nil, List.length_cons]
      · simp [Sl.le, A.le_refl_iff, A.le_u_iff, As.lo, A.lo, C.lo, Ref.lo, Cs.lo, Obs.lo, Ob.lo, setAll, and_true, true_and, List.length_nil, List.length_cons]
      · simp [Sl.le, A.le_refl_iff, A.le_u_iff, As.lo, A.lo, C.lo, Ref.lo, Cs.lo, Obs.lo, Ob.lo, setAll, and_true, true_and, List.length_nil, List.length_cons]
      · rfl
      · simp [Sl.le, A.le_refl_iff, A.le_u_iff, As.lo, A.lo, C.lo, Ref.lo, Cs.lo, Obs.lo, Ob.lo, setAll, and_true, true_and, List.length_nil, List.length_cons]
      · simp [Sl.le, A.le_refl_iff, A.le_u_iff, As.lo, A.lo, C.lo, Ref.lo, Cs.lo, Obs.lo, Ob.lo, setAll, and_true, true_and, List.length_nil, List.length_cons]
      · simp -implicitDefEqProofs [hf, go_sem, -List.set_cons_succ, -List.set_cons_zero]
        exact fin_full2 (t := zeroT) rfl rfl ⟨trivial, trivial, trivial⟩ hgo rfl fun x => ⟨x, rfl, rfl⟩
    · have hlt' : ¬ (a : Int) < s.length := by omega
      simp -implicitDefEqProofs [srow, rdO, rdPl, hli, hlt, hlt', hf, go_sem, -List.set_cons_succ, -List.set_cons_zero]
      refine qcall_read (tvImpl_calls t ht []) rfl hf (.cons (fz_tm (i := H.length + 2) (by simp [ktree, Ob.re])) .nil) ?_
      rw [g1]
      cases hv : (Rs.tm ts).valid with
      | true =>
        simp -implicitDefEqProofs [hv, hf, go_sem, -List.set_cons_succ, -List.set_cons_zero]
        exact fin_tok2 2 rfl ⟨trivial, trivial, trivial⟩ hgo rfl rfl ⟨x, rfl, rfl⟩
      | false =>
        simp -implicitDefEqProofs [hv, hli, hf, go_sem, -List.set_cons_succ, -List.set_cons_zero]
        exact fin_full2 (t := zeroT) rfl rfl ⟨trivial, trivial, trivial⟩ hgo rfl fun x => ⟨x, rfl, rfl⟩
/-- what ReadTerm gives -/
def okP (o : Option Tm) : Tm × Bool := (o.getD zeroT, o.isSome)
theorem readTermOL_calls (s : List UInt8) (hs : s.length ≤ 100000000) : HandsTD 10 [.c (.d (.str s))] (okP (okR s)).1 (.bool (okP (okR s)).2) := fun H hp htl => by
  refine acallsG Tryz.func10 (by kernel_rfl) Own.ac10_ok fun hf => ?_
  have hli : inR .i64 (s.length : Int) := small_i64 (by omega) (by omega)
  have hgo := Goes.refl (tells_free htl)
  by_cases hl : 1000 < s.length
  · have hl' : (1000 : Int) < s.length := by omega
    simp -implicitDefEqProofs [Own.ac10, hli, hl', okR, hl, okP, hf, go_sem, -List.set_cons_succ, -List.set_cons_zero]
    exact fin_full2 (t := zeroT) rfl rfl ⟨trivial, trivial, trivial⟩ hgo rfl fun x => ⟨x, rfl, rfl⟩
  · have hl' : ¬ (1000 : Int) < s.length := by omega
    have hs6 : s.length ≤ 1000000 := by omega
    obtain ⟨r, hr, _⟩ := rp_total s hs6 (8 * (s.length + 1) + 5) (.term 3 1 0) (by simp [PJ.m]) ⟨Nat.zero_le _, Nat.le_refl _⟩
    have c1 := readOwn_calls s (by omega) hr
    have hk := rd_eq hs6 hr
    generalize rdPl s r = x at c1 hk
    obtain ⟨t, n⟩ := x
    simp only at c1 hk
    have hok : okR s = okT s := by unfold okR; rw [if_neg hl]
    rw [hok]
    simp -implicitDefEqProofs [Own.ac10, hli, hl', hf, go_sem, -List.set_cons_succ, -List.set_cons_zero]
    refine call_td c1 hp htl rfl hf (by simp [Ob.re, C.re]) ?_
    intro x
    rcases hk with ⟨h1, h2⟩ | ⟨h1, h2, h3⟩
    · rw [h2]
      simp -implicitDefEqProofs [okP, h1, srow, hf, go_sem, -List.set_cons_succ, -List.set_cons_zero]
      exact fin_tok2 1 rfl ⟨trivial, trivial, trivial⟩ hgo rfl rfl ⟨x, rfl, rfl⟩
    · rw [h3, h2]
      simp -implicitDefEqProofs [okP, h1, srow, hf, go_sem, -List.set_cons_succ, -List.set_cons_zero]
      exact fin_tok2 1 rfl ⟨trivial, trivial, trivial⟩ hgo rfl rfl ⟨x, rfl, rfl⟩
end Go.Proofs.YtgfmlifkhpjplaaGreatDoor

/-
  Terms that are handed to a law.
  Conditions: none.
-/
open Go Go.AM Go.Proofs
namespace Go.Proofs.YtgfmlifkhpjplaaGreatDoor
open Go.ChangeShapes Go.WideShapes Go.ChangeAt Go.RowKit
set_option linter.unusedVariables false
set_option linter.unusedSimpArgs false
set_option maxRecDepth 100000
end Go.Proofs.YtgfmlifkhpjplaaGreatDoor
