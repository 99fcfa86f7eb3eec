/-
  The card FnExactParseQuery holds: impl.ParseQuery answers as spec.ParseQuery does, with memory of its own.
  Conditions: none.
-/
import Derived.Test.YtbblefjbgbocoaaGreatDoorBundD
import Derived.Test.YtbblefjbgbocoaaGreatDoorBundC
import Derived.Test.YtbblefjbgbocoaaGreatDoorCards
import Derived.Test.YtbblefjbgbocoaaGreatDoorTie
import Derived.ProofKit
import Derived.OpenShut
import Derived.Stop.Joined
import Derived.SevenTiedAt
open Go Go.AM Go.Proofs
attribute [local go_sem] kw ew sw tw a_ b_ c_ A.ok A.val d_ e_ f_ g_ h_ i_ j_ k_ l_ m_ unA unD n_ AOp.total o_ p_ q_ r_ s_ t_ u_ v_ A.thaw C.thaw A.fits As.fits C.fits evs oks w_ A.pure C.pure A.re C.re x_ y_ cut A.cells C.rows? z_ A_ B_ C_ a0_ b0_ D_ Ob.re Cs.fits E_ F_ G_ H_ I_ J_ K_ L_ M_ N_ O_ C.toD P_ Q_ R_ S_ T_ Obs.fits U_ eqD V_ W_ X_ Y_ Z_
open Go Go.AM Go.Proofs
namespace Go.Proofs.YtbblefjbgbocoaaGreatDoor
open Go.ChangeShapes Go.WideShapes Go.ChangeAt Go.WideElems Go.RowKit
set_option linter.unusedVariables false
set_option linter.unusedSimpArgs false
set_option maxRecDepth 100000
-- 4 loop.example/prologserver/laws.FnExactParseQuery params 1 ntmps 66
def ac4 : Cd := .seq (.region [⟨(some 2),.mv (.k (.c (.d (.bool false)))),none⟩] [2])
 (.seq (.seq (.region [⟨(some 11),.mv (.t 0),none⟩,
 ⟨(some 12),.len 0 (.t 11),none⟩,
 ⟨(some 13),.bin .gtr (.t 12) (.k (.c (.d (.int .i64 1048576)))),none⟩] [11,12])
 (.cond (.t 13)
 (.seq (.region [⟨(some 2),.mv (.k (.c (.d (.bool true)))),none⟩] [0,13])
 (.ret))
 (.skip)))
 (.seq (.region [⟨(some 15),.mv (.t 0),none⟩,
 ⟨(some 16),.qcall 14 [(.t 15)],none⟩,
 ⟨(some 14),.mv (.t 16),none⟩,
 ⟨(some 17),.extract 0 (.t 14),none⟩,
 ⟨(some 18),.extract 1 (.t 14),none⟩,
 ⟨(some 3),.mv (.t 17),none⟩,
 ⟨(some 4),.mv (.t 18),none⟩] [2,13,14,15,16,17,18])
 (.seq (.region [⟨(some 20),.mv (.t 0),none⟩,
 ⟨(some 21),.call false 15 [(.t 20)],none⟩,
 ⟨(some 19),.mv (.t 21),none⟩,
 ⟨(some 22),.extract 0 (.t 19),none⟩,
 ⟨(some 23),.extract 1 (.t 19),none⟩,
 ⟨(some 5),.mv (.t 22),none⟩,
 ⟨(some 6),.mv (.t 23),none⟩] [19,20,21,22,23])
 (.seq (.seq (.region [⟨(some 24),.mv (.t 5),none⟩,
 ⟨(some 25),.mv (.t 3),none⟩,
 ⟨(some 26),.qcall 16 [(.t 24),(.t 25)],none⟩,
 ⟨(some 27),.un .not (.t 26),none⟩,
 ⟨(some 28),.mv (.t 27),none⟩,
 ⟨(some 29),.mv (.t 6),some (28,false)⟩,
 ⟨(some 30),.mv (.t 4),some (28,false)⟩,
 ⟨(some 31),.binB true (.t 29) (.t 30),some (28,false)⟩,
 ⟨(some 32),.pick (.t 28) (.k (.c (.d (.bool true)))) (.t 31),none⟩] [6,24,25,26,27,28,29,30,31])
 (.cond (.t 32)
 (.seq (.region [⟨(some 2),.mv (.k (.c (.d (.bool false)))),none⟩] [0,3,4,5,32])
 (.ret))
 (.skip)))
 (.seq (.region [⟨(some 7),.mv (.k (.c (.d (.int .i64 1)))),none⟩] [2,32])
 (.seq (.region [⟨(some 33),.mv (.t 5),none⟩,
 ⟨(some 34),.mv (.t 7),none⟩,
 ⟨(some 35),.call false 17 [(.t 33),(.t 34)],none⟩,
 ⟨(some 7),.mv (.t 35),none⟩] [33,34,35])
 (.seq (.region [⟨(some 8),.mv (.k (.c (.d (.int .i64 1)))),none⟩] [])
 (.seq (.region [⟨(some 36),.mv (.t 5),none⟩,
 ⟨(some 37),.mv (.t 8),none⟩,
 ⟨(some 38),.qcall 18 [(.t 36),(.t 37)],none⟩,
 ⟨(some 8),.mv (.t 38),none⟩] [36,37,38])
 (.seq (.seq (.region [⟨(some 39),.mv (.t 8),none⟩,
 ⟨(some 40),.bin .lss (.t 39) (.k (.c (.d (.int .i64 0)))),none⟩] [39])
 (.cond (.t 40)
 (.seq (.region [⟨(some 2),.mv (.k (.c (.d (.bool false)))),none⟩] [0,3,4,5,7,8,40])
 (.ret))
 (.skip)))
 (.seq (.seq (.region [⟨(some 41),.mv (.t 8),none⟩,
 ⟨(some 42),.mv (.t 7),none⟩,
 ⟨(some 43),.bin .neq (.t 41) (.t 42),none⟩] [2,8,40,41,42])
 (.cond (.t 43)
 (.seq (.region [⟨(some 2),.mv (.k (.c (.d (.bool false)))),none⟩] [0,3,4,5,7,43])
 (.ret))
 (.skip)))
 (.seq (.region [⟨(some 45),.mv (.t 0),none⟩,
 ⟨(some 46),.call false 15 [(.t 45)],none⟩,
 ⟨(some 44),.mv (.t 46),none⟩,
 ⟨(some 47),.extract 0 (.t 44),none⟩,
 ⟨(some 48),.extract 1 (.t 44),none⟩,
 ⟨(some 9),.mv (.t 47),none⟩,
 ⟨(some 10),.mv (.t 48),none⟩] [0,2,43,44,45,46,47,48])
 (.seq (.seq (.region [⟨(some 49),.mv (.t 9),none⟩,
 ⟨(some 50),.mv (.t 3),none⟩,
 ⟨(some 51),.qcall 16 [(.t 49),(.t 50)],none⟩,
 ⟨(some 52),.un .not (.t 51),none⟩,
 ⟨(some 53),.mv (.t 52),none⟩,
 ⟨(some 54),.mv (.t 10),some (53,false)⟩,
 ⟨(some 55),.mv (.t 4),some (53,false)⟩,
 ⟨(some 56),.binB true (.t 54) (.t 55),some (53,false)⟩,
 ⟨(some 57),.pick (.t 53) (.k (.c (.d (.bool true)))) (.t 56),none⟩] [3,4,9,10,49,50,51,52,53,54,55,56])
 (.cond (.t 57)
 (.seq (.region [⟨(some 2),.mv (.k (.c (.d (.bool false)))),none⟩] [5,7,57])
 (.ret))
 (.skip)))
 (.seq (.region [⟨(some 8),.mv (.k (.c (.d (.int .i64 1)))),none⟩] [2,57])
 (.seq (.region [⟨(some 58),.mv (.t 5),none⟩,
 ⟨(some 59),.mv (.t 8),none⟩,
 ⟨(some 60),.qcall 18 [(.t 58),(.t 59)],none⟩,
 ⟨(some 8),.mv (.t 60),none⟩] [5,58,59,60])
 (.seq (.seq (.region [⟨(some 61),.mv (.t 8),none⟩,
 ⟨(some 62),.bin .lss (.t 61) (.k (.c (.d (.int .i64 0)))),none⟩] [61])
 (.cond (.t 62)
 (.seq (.region [⟨(some 2),.mv (.k (.c (.d (.bool false)))),none⟩] [7,8,62])
 (.ret))
 (.skip)))
 (.seq (.seq (.region [⟨(some 63),.mv (.t 8),none⟩,
 ⟨(some 64),.mv (.t 7),none⟩,
 ⟨(some 65),.bin .neq (.t 63) (.t 64),none⟩] [2,7,8,62,63,64])
 (.cond (.t 65)
 (.seq (.region [⟨(some 2),.mv (.k (.c (.d (.bool false)))),none⟩] [65])
 (.ret))
 (.skip)))
 (.seq (.region [⟨(some 2),.mv (.k (.c (.d (.bool true)))),none⟩] [65])
 (.ret))))))))))))))))))
theorem ac4_ok : cFunc Tryz.prog [1000014,1000016,1000018] [(0,[2],[]),(1,[11,12],[]),(2,[0,13],[]),(3,[2,13,14,15,16,17,18],[]),(4,[19,20,21,22,23],[]),(5,[6,24,25,26,27,28,29,30,31],[]),(6,[0,3,4,5,32],[]),(7,[2,32],[]),(8,[33,34,35],[]),(9,[],[]),(10,[36,37,38],[]),(11,[39],[]),(12,[0,3,4,5,7,8,40],[]),(13,[2,8,40,41,42],[]),(14,[0,3,4,5,7,43],[]),(15,[0,2,43,44,45,46,47,48],[]),(16,[3,4,9,10,49,50,51,52,53,54,55,56],[]),(17,[5,7,57],[]),(18,[2,57],[]),(19,[5,58,59,60],[]),(20,[61],[]),(21,[7,8,62],[]),(22,[2,7,8,62,63,64],[]),(23,[65],[]),(24,[65],[])] Tryz.f4 = some (ac4,[.tmp 2],66) := by kernel_rfl
/-- spec.ParseQuery for all texts -/
theorem pqSpecL_calls (s : List UInt8) (hs : s.length ≤ 100000000) (H : Heap) : ACalls Tryz.prog 14 [.c (.d (.str s))] H (fun r H' => H' = H ∧ r = .tup [.c (.d (.sl ((queryR s).1.map Tm.row))), .c (.d (.bool (queryR s).2))]) := by
  by_cases hl : 1000 < s.length
  · refine acalls Tryz.func14 (by kernel_rfl) ac14_ok fun hf => ?_
    have hli : inR .i64 (s.length : Int) := small_i64 (by omega) (by omega)
    have hl' : (1000 : Int) < s.length := by omega
    have hq : queryR s = ([], false) := by unfold queryR; rw [if_pos hl]
    rw [hq]
    simp -implicitDefEqProofs [ac14, hli, hl', hf, go_sem, -List.set_cons_succ, -List.set_cons_zero]
  · exact pqSpec_calls s (by omega) H
theorem queryR_small (s : List UInt8) : (queryR s).1.length ≤ 7 ∧ (∀ t ∈ (queryR s).1, t.fits) ∧ Tm.cnt (queryR s).1 ≤ 726 := by
  by_cases hl : 1000 < s.length
  · have hq : queryR s = ([], false) := by unfold queryR; rw [if_pos hl]
    rw [hq]
    exact ⟨by simp, by simp, by simp [cnt_nil]⟩
  · obtain ⟨h1, h2⟩ := queryR_fits s (by omega)
    refine ⟨h1, h2, ?_⟩
    have key : (queryR s).1 = [] ∨ goalsB (queryR s).1 = true := by
      unfold queryR
      rw [if_neg hl]
      cases hq : goalsR s 7 0 with
      | none => exact .inl rfl
      | some q =>
        obtain ⟨l, k⟩ := q
        simp only
        split
        · rename_i hc
          exact .inr (by first | exact hc.2 | (simp at hc; exact hc.2))
        · exact .inl rfl
    rcases key with h | h
    · rw [h]; simp [cnt_nil]
    · exact (goals_ok h).1
theorem putAll_shiftE : ∀ {J : List Nat} {E L H : Heap}, (∀ j ∈ J, j < L.length) → putAll (E ++ L) (J.map (E.length + ·)) H = E ++ putAll L J H
  | [], E, L, H, _ => by simp [putAll]
  | j :: J, E, L, [], _ => by simp [putAll]
  | j :: J, E, L, o :: H, h => by
    simp only [List.map_cons, putAll]
    rw [List.set_append_right _ _ (by omega), Nat.add_sub_cancel_left]
    exact putAll_shiftE fun i hi => by simpa using h i (by simp [hi])
/-- a call of a function that is told of own trees alone -/
theorem call_locE {P : Program} {f : FuncId} {args args₀ : List A} {sl : List A} {ext loc H H₀ : Heap} {J : List Nat} {Q₀ : A → Heap → Prop} {K : A → St → Prop} (hc : ACalls P f args₀ H₀ Q₀) (hQ : ∀ r H', Q₀ r H' → Handed r H')
    (hH : H = ext ++ loc.map (Ob.re ext.length)) (hz : FzL H (J.map (ext.length + ·)) args args₀) (hJ : J.Nodup) (hJH : J.map (fun i => loc[i]?) = H₀.map some) (hT : H₀.all Ob.isTreeB = true) (hf : Obs.fits ext.length 0 ext)
    (hk : ∀ r H', Q₀ r H' → H₀.length ≤ H'.length → K r ⟨sl, ext, putAll loc J H'⟩) : ACalls P f args H (CallK K ⟨sl, ext, loc⟩) := by
  have hJ2 : (J.map (ext.length + ·)).Nodup := List.Pairwise.map _ (fun a b h e => h (by simpa using e)) hJ
  have hJl : J.length = H₀.length := by simpa using congrArg List.length hJH
  have hJlt : ∀ j ∈ J, j < (loc.map (Ob.re ext.length)).length := fun j hj => by
    obtain ⟨i, hi⟩ := List.mem_iff_getElem?.1 hj
    have hm : (J.map fun i => loc[i]?)[i]? = some (loc[j]?) := by simp [hi]
    rw [hJH, List.getElem?_map, Option.map_eq_some_iff] at hm
    obtain ⟨o, _, h2⟩ := hm
    have := (List.getElem?_eq_some_iff.1 h2.symm).1
    simpa using this
  have hJH2 : (J.map (ext.length + ·)).map (fun i => H[i]?) = H₀.map some := by
    rw [List.map_map]
    have : ((fun i => H[i]?) ∘ (ext.length + ·)) = fun i => (loc[i]?).map (Ob.re ext.length) := by
      funext i
      simp only [Function.comp, hH]
      rw [List.getElem?_append_right (by omega), Nat.add_sub_cancel_left, List.getElem?_map]
    rw [this]
    have h2 := congrArg (List.map (Option.map (Ob.re ext.length))) hJH
    rw [List.map_map, List.map_map] at h2
    have h3 : (Option.map (Ob.re ext.length) ∘ some) = fun o => some (Ob.re ext.length o) := rfl
    rw [h3] at h2
    refine h2.trans ?_
    have h4 := trees_re hT ext.length
    conv => rhs; rw [← h4, List.map_map]
    rfl
  refine (acalls_frame hJ2 hJH2 (fun o ho => Ob.isTree_of (List.all_eq_true.1 hT o ho)) hz hc (fun r H' h => ⟨A.port_of (hQ r H' h).1, fun o ho => Ob.isTree_of (List.all_eq_true.1 (hQ r H' h).2 o ho)⟩)).mono fun r H' ⟨H₁, h1, h2, h3⟩ => ?_
  refine ⟨ext, putAll loc J H₁, r, ?_, rfl, ?_, hf, (A.re_of (hQ r H₁ h1).1 _).symm, hk r H₁ h1 h2⟩
  · rw [h3, hH, putAll_shiftE hJlt, putAll_map, trees_re (hQ r H₁ h1).2]
  · show loc.length ≤ (putAll loc J H₁).length
    rw [putAll_len (by omega)]; omega
/-- a call that is told of the library's variables alone, and hands out rows and a datum -/
theorem call_rd2 {f : FuncId} {xs : List A} {rows : List (List D)} {y : D} (hc : HandsRD f xs rows y) (hy : y.leaf = true) {g1 g2 : Nat} {o1 o2 : Obj} {sl : List A} {loc H₂ : Heap} {K : A → St → Prop} (hp : Hp [.tab g1 o1, .tab g2 o2]) (hx : FzL H₂ [0, 1] xs xs)
    (hH : H₂ = .tab g1 o1 :: .tab g2 o2 :: loc.map (Ob.re 2)) (hk : ∀ x, K (.tup [.c (.d (.v x)), .c (.d y)]) ⟨sl, [.tab g1 o1, .tab g2 o2], loc ++ [.tree x rows]⟩) : ACalls Tryz.prog f xs H₂ (CallK K ⟨sl, [.tab g1 o1, .tab g2 o2], loc⟩) := by
  have hport : ∀ x : Value, A.portT (.tup [.c (.d (.v x)), .c (.d y)]) = true := fun x => by
    have h1 : A.portB (.c (.d (.v x))) = true := rfl
    have h2 : A.portB (.c (.d y)) = true := hy
    simp only [A.portT, List.all_cons, List.all_nil, h1, h2, Bool.and_self]
  refine (acalls_frameT (J := [0, 1]) (H₀ := [.tab g1 o1, .tab g2 o2]) (by simp) (by simp [hH]) (fun o ho => ?_) hx (hc _ hp rfl) (fun r H' ⟨x, h1, h2⟩ => ?_)).mono fun r H' ⟨H₁, ⟨x, h1, h2⟩, _, h3⟩ => ?_
  · simp at ho
    rcases ho with rfl | rfl <;> rfl
  · subst h1; subst h2
    refine ⟨A.port_of (hport x), fun o ho => ?_, fun m g o hm => ?_⟩
    · simp at ho
      rcases ho with rfl | rfl | rfl <;> rfl
    · match m with
      | 0 => simpa using hm
      | 1 => simpa using hm
      | m + 2 => simp at hm
  · subst h1; subst h2
    refine ⟨[.tab g1 o1, .tab g2 o2], loc ++ [.tree x rows], _, ?_, rfl, by simp, ⟨trivial, trivial, trivial⟩, (A.re_of (hport x) _).symm, hk x⟩
    rw [h3, hH]
    simp [putAll, Ob.re]
theorem tab_fits {n m g : Nat} {o : Obj} : Ob.fits n m (.tab g o) ↔ True := iff_true_intro trivial
theorem pqxLaw_calls (s : List UInt8) (hs : s.length ≤ reachBytes) {g1 g2 : Nat} {o1 o2 : Obj} (hp : Hp [.tab g1 o1, .tab g2 o2]) : ACalls Tryz.prog 4 [.c (.d (.str s))] [.tab g1 o1, .tab g2 o2] (fun r H' => H' = [.tab g1 o1, .tab g2 o2] ∧ r = .c (.d (.bool true))) := by
  refine acalls Tryz.func4 (by kernel_rfl) ac4_ok fun hf => ?_
  have hli : inR .i64 (s.length : Int) := reach_i64 hs
  simp -implicitDefEqProofs [ac4, hli, hf, tab_fits, go_sem, -List.set_cons_succ, -List.set_cons_zero]
  intro hle
  have hs6 : s.length ≤ 100000000 := by omega
  have cs := pqSpecL_calls s hs6
  have ci := pqOwn_calls s hs6
  obtain ⟨hl7, hfit, hcnt⟩ := queryR_small s
  generalize queryR s = q at cs ci hl7 hfit hcnt
  obtain ⟨l, b⟩ := q
  simp only at cs ci hl7 hfit hcnt
  have cet := eqTermS_calls l (by omega) hfit []
  have hp1 : ¬ (1 + 3 * (Tm.cnt l : Int) < 0) := by omega
  have zl : ∀ {H : Heap} {i : Nat} {v : Value}, H[i]? = some (.tree v (l.map Tm.row)) → FzL H [] [.c (.d (.v v)), .c (.d (.sl (l.map Tm.row)))] [.c (.d (.sl (l.map Tm.row))), .c (.d (.sl (l.map Tm.row)))] := fun {H i v} h =>
    .cons (.c (.tree (i := i) h (by simp))) (.cons (.c .d) .nil)
  refine qcall_pure cs hf rfl ?_
  simp -implicitDefEqProofs [row_len, take_row, pure_d, re_d, hf, tab_fits, go_sem, -List.set_cons_succ, -List.set_cons_zero]
  refine call_rd2 ci rfl hp (.cons (.c .d) .nil) (by first | rfl | simp [Ob.re, C.re, re_d]) ?_
  intro x
  simp -implicitDefEqProofs [row_len, take_row, pure_d, re_d, hf, tab_fits, go_sem, -List.set_cons_succ, -List.set_cons_zero]
  refine qcall_read cet rfl hf (zl (i := 2) rfl) ?_
  simp -implicitDefEqProofs [row_len, take_row, pure_d, re_d, hf, tab_fits, go_sem, -List.set_cons_succ, -List.set_cons_zero]
  refine call_locE (J := [0]) (markTermS_calls l (by omega) hfit 1 (by omega) (by omega) x) (fun r H' ⟨h1, h2⟩ => by subst h1; subst h2; exact ⟨rfl, rfl⟩) (by simp [Ob.re, re_d, C.re]) (.cons (.c .d) (.cons (.c .d) .nil)) (by simp) rfl rfl hf ?_
  rintro _ _ ⟨rfl, rfl⟩ _
  simp -implicitDefEqProofs [putAll, hp1, row_len, take_row, pure_d, re_d, hf, tab_fits, go_sem, -List.set_cons_succ, -List.set_cons_zero]
  have zg : ∀ {H : Heap}, H[2]? = some (.tree x ((mTms 1 l).map Tm.row)) → FzL H [] [.c (.d (.v x)), .c (.d (.int .i64 1))] [.c (.d (.sl ((mTms 1 l).map Tm.row))), .c (.d (.int .i64 1))] := fun h =>
    .cons (.c (.tree (i := 2) h (by simp))) (.cons (.c .d) .nil)
  refine qcall_read (heldTermS_calls l (by omega) hfit 1 (by omega) (by omega) []) rfl hf (zg rfl) ?_
  simp -implicitDefEqProofs [hp1, row_len, take_row, pure_d, re_d, hf, tab_fits, go_sem, -List.set_cons_succ, -List.set_cons_zero]
  refine call_rd2 ci rfl hp (.cons (.c .d) .nil) (by first | rfl | simp [Ob.re, C.re, re_d]) ?_
  intro z
  simp -implicitDefEqProofs [row_len, take_row, pure_d, re_d, hf, tab_fits, go_sem, -List.set_cons_succ, -List.set_cons_zero]
  refine qcall_read cet rfl hf (zl (i := 3) rfl) ?_
  simp -implicitDefEqProofs [row_len, take_row, pure_d, re_d, hf, tab_fits, go_sem, -List.set_cons_succ, -List.set_cons_zero]
  refine qcall_read (heldTermS_calls l (by omega) hfit 1 (by omega) (by omega) []) rfl hf (zg rfl) ?_
  simp -implicitDefEqProofs [hp1, row_len, take_row, pure_d, re_d, hf, tab_fits, go_sem, -List.set_cons_succ, -List.set_cons_zero]
theorem law_run4 {gs : List (Nat × Obj)} (hT : Lib2 gs) (rows : List (List D)) (hr : HasTys Tryz.prog (#[9] : Array TypeId).toList rows) : ACalls Tryz.prog 4 (argsA Tryz.prog (#[9] : Array TypeId).toList rows) (tabsH gs) (fun r H' => H' = tabsH gs ∧ r = .c (.d (.bool true))) := by
  obtain ⟨r, rs, rfl, h1, h2⟩ := hr.cons
  obtain rfl := h2.nil
  obtain ⟨s, rfl, hs⟩ := h1.str_inv Tryz.underlying9
  simp only [argsA, argA, Tryz.underlying9, List.headD_cons]
  obtain ⟨o, o2, rfl, q1, q2⟩ := hT
  exact pqxLaw_calls s hs ⟨o, o2, rfl, rfl, q1, q2⟩
namespace fnExactParseQuery
theorem own : ownKnob Tryz.prog.godebug = none := by kernel_rfl
theorem door_met (os : Os) (args : Array Value) : laidMetH Tryz.prog laid ((World.doorLaid Tryz.prog 400 os).forCall (fun _ _ => 0) ⟨#[], args, []⟩).memory :=
  laidMetH_of_parts3 (fuel := 8) (laidMet_of_run' 8 (by kernel_rfl) (by kernel_rfl)) (by kernel_rfl) (by kernel_rfl)
theorem contract (H : Type) (enc : TypeId × Value → H) (W : World) (base : Nat) (args : Array Value) (ds gs : List (DataW H)) (before : List MemPlace) (hL : laidMetH Tryz.prog laid W)
    (hval : ∀ (j : Nat) t v, Tryz.f4.params[j]? = some t → args[j]? = some v → Value.okWide Tryz.prog W .any base t v)
    (hW : DataW.Whole enc Tryz.prog Tryz.f4.params.toList Rows.fnExactParseQuerySpec.vars false W args.toList ds gs before)
    (hw : (DataW.weightsEach Tryz.prog (Tryz.f4.params.toList ++ Rows.fnExactParseQuerySpec.plain.varTypes Tryz.prog) (ds ++ gs)).all (· ≤ reachBytes) = true) :
    Calls Tryz.prog 4 args W fun e W' => ∃ v, e = .returned v ∧ Rows.fnExactParseQuerySpec.post enc Tryz.prog Tryz.f4 false true false false W args v W' := by
  refine law_contract_tabs (T := Lib2) (L := [9]) (tb := 4) (by kernel_rfl) (by kernel_rfl) (by kernel_rfl) rfl ?_ (by kernel_rfl) Tryz.underlying4 ?_ W base args ds gs before (lib_laid hL) hval hW hw
  · intro ds hl
    match ds, hl with
    | [d0], _ => rfl
  · intro gs hT rows hr
    rw [Tryz.params4] at hr ⊢
    exact law_run4 hT rows hr

theorem lifted (os : Os) (started : os.Started) (H : Type) (enc : TypeId × Value → H) :
    ReturnsInHanded {} Tryz.checked os 4 .any (fun w args => (Rows.fnExactParseQuerySpec.pre enc Tryz.prog Tryz.f4 [] false w args ∧ laidMetH Tryz.prog laid w) ∧ sizedMet enc Tryz.prog Tryz.f4 (OpenSpec.ofChange Rows.fnExactParseQuerySpec) false w args)
      (Rows.fnExactParseQuerySpec.post enc Tryz.prog Tryz.f4 false true false false) := by
  refine returnsInHanded_of_change_and (C := Tryz.checked) (X := fun w _ => laidMetH Tryz.prog laid w) (fun _ _ _ hh h => h.of_heap hh) own started (by kernel_rfl) Tryz.func4
    (ChangeSpec.witness_shaped (enc := enc) (C := Tryz.checked) (os := os) (X := fun w _ => laidMetH Tryz.prog laid w) false (World.doorLaid Tryz.prog 400 os) #[.string ByteArray.empty] 8 rfl (World.shaped_of_RefB (by kernel_rfl) (by kernel_rfl)) (by kernel_rfl) (by kernel_rfl) (by kernel_rfl) (door_met os _)) ?_
  intro W base args ds gs before hval hW _ hw hL _
  exact contract H enc W base args ds gs before hL hval hW hw

theorem said : Rows.FnExactParseQuerySaid :=
  OpenClaim.holds_of_wide 4 Tryz.f4 rfl rfl rfl rfl rfl rfl rfl ⟨rfl, rfl, rfl, rfl, rfl⟩ rfl rfl rfl rfl rfl (by kernel_rfl) Tryz.func4 (by kernel_rfl)
    (of_decide_eq_true (by kernel_rfl)) (by unfold Func.isWrapper; first | (rw [if_pos (by decide +kernel)]; kernel_rfl) | (rw [if_neg (by decide +kernel)]; exact ⟨rfl, rfl⟩))
    (fun os started H enc _ => lifted os started H enc)

theorem proved : Rows.FnExactParseQueryCardSaid :=
  Claim7.holds_tied_plain_at .later [] [.data, .data, .data, .sentinel, .sentinel] true Rows.fnExactParseQueryCard.stood.harness true
    said (fun _ h => by cases h) (by kernel_rfl) (fun _ h => by cases h) fnExactParseQuery_row_tie rfl ⟨rfl, rfl⟩ (by kernel_rfl) rfl
    (fun f fn hf hfn => by
      obtain rfl : f = 4 := Option.some.inj ((show Tryz.prog.funcNamed Rows.fnExactParseQueryRow.func = some 4 by kernel_rfl).symm.trans hf) |>.symm
      obtain rfl : fn = Tryz.f4 := (Option.some.inj (Tryz.func4.symm.trans hfn)).symm
      exact ⟨by kernel_rfl, fun j t ht => by
        rw [Tryz.params4] at ht
        have hall : (Tryz.f4.params.toList.all fun u => !Tryz.prog.wantsStandIn u) = true := by kernel_rfl
        have hm : t ∈ Tryz.f4.params.toList := by
          rw [Tryz.params4]
          simpa using Array.mem_of_getElem? ht
        exact (show Tryz.prog.wantsStandIn t = false by simpa using List.all_eq_true.1 hall t hm)⟩)
    (by kernel_rfl)
end fnExactParseQuery

end Go.Proofs.YtbblefjbgbocoaaGreatDoor
