/-
  The card FnDeterminate holds: for a goal whose key is known, a determinate name has at most one candidate.
  Conditions: none.
-/
import Derived.Test.YteighafofbohcaaGreatDoorBundB
import Derived.Test.YteighafofbohcaaGreatDoorBundD
import Derived.Test.YteighafofbohcaaGreatDoorBundA
import Derived.Test.YteighafofbohcaaGreatDoorCards
import Derived.Test.YteighafofbohcaaGreatDoorTie
import Derived.ProofKit
import Derived.OpenShut
import Derived.Stop.Joined
import Derived.SevenTiedAt
open Go Go.AM Go.Proofs
attribute [local go_sem] kw ew sw tw a_ b_ c_ A.ok A.val d_ e_ f_ g_ h_ i_ j_ k_ l_ m_ unA unD n_ AOp.total o_ p_ q_ r_ s_ t_ u_ v_ A.thaw C.thaw A.fits As.fits C.fits evs oks w_ A.pure C.pure A.re C.re x_ y_ cut A.cells C.rows? z_ A_ B_ C_ a0_ b0_ D_ Ob.re Cs.fits E_ F_ G_ H_ I_ J_ K_ L_ M_ N_ O_ C.toD P_ Q_ R_ S_ T_ Obs.fits U_ eqD V_ W_ X_ Y_ Z_
open Go Go.AM Go.Proofs
namespace Go.Proofs.YteighafofbohcaaGreatDoor
open Go.ChangeShapes Go.WideShapes Go.ChangeAt Go.WideElems Go.RowKit
set_option linter.unusedVariables false
set_option linter.unusedSimpArgs false
set_option maxRecDepth 100000
-- 4 loop.example/prologserver/laws.FnDeterminate params 2 ntmps 78
def ac4 : Cd := .seq (.region [⟨(some 4),.mv (.k (.c (.d (.bool false)))),none⟩] [4])
 (.seq (.seq (.region [⟨(some 11),.mv (.t 0),none⟩,
 ⟨(some 12),.len 1 (.t 11),none⟩,
 ⟨(some 13),.bin .gtr (.t 12) (.k (.c (.d (.int .i64 1048576)))),none⟩,
 ⟨(some 14),.mv (.t 13),none⟩,
 ⟨(some 15),.mv (.t 1),some (14,false)⟩,
 ⟨(some 16),.len 1 (.t 15),some (14,false)⟩,
 ⟨(some 17),.bin .gtr (.t 16) (.k (.c (.d (.int .i64 1048576)))),some (14,false)⟩,
 ⟨(some 18),.pick (.t 14) (.k (.c (.d (.bool true)))) (.t 17),none⟩] [11,12,13,14,15,16,17])
 (.cond (.t 18)
 (.seq (.region [⟨(some 4),.mv (.k (.c (.d (.bool true)))),none⟩] [0,1,18])
 (.ret))
 (.skip)))
 (.seq (.region [⟨(some 20),.mv (.t 0),none⟩,
 ⟨(some 21),.call false 10 [(.t 20)],none⟩,
 ⟨(some 19),.mv (.t 21),none⟩,
 ⟨(some 22),.extract 0 (.t 19),none⟩,
 ⟨(some 23),.extract 1 (.t 19),none⟩,
 ⟨(some 24),.extract 2 (.t 19),none⟩,
 ⟨(some 5),.mv (.t 22),none⟩,
 ⟨(some 6),.mv (.t 23),none⟩,
 ⟨(some 7),.mv (.t 24),none⟩] [0,4,18,19,20,21,22,23,24])
 (.seq (.region [⟨(some 25),.mv (.t 5),none⟩,
 ⟨(some 26),.mv (.t 6),none⟩,
 ⟨(some 27),.mv (.t 7),none⟩,
 ⟨(some 28),.qcall 11 [(.t 25),(.t 26),(.t 27)],none⟩,
 ⟨(some 8),.mv (.t 28),none⟩] [25,26,27,28])
 (.seq (.region [⟨(some 30),.mv (.t 1),none⟩,
 ⟨(some 31),.call false 6 [(.t 30)],none⟩,
 ⟨(some 29),.mv (.t 31),none⟩,
 ⟨(some 32),.extract 0 (.t 29),none⟩,
 ⟨(some 33),.extract 1 (.t 29),none⟩,
 ⟨(some 10),.alloc [(.d (.int .i64 0)),(.d (.int .i64 0)),(.d (.str [])),(.full [])],none⟩,
 ⟨(some 9),.mv (.t 32),none⟩,
 ⟨none,.store 4 (.t 10) (.t 33),none⟩] [1,9,29,30,31,32,33])
 (.seq (.seq (.region [⟨(some 34),.mv (.t 8),none⟩,
 ⟨(some 35),.mv (.t 5),none⟩,
 ⟨(some 36),.mv (.t 6),none⟩,
 ⟨(some 37),.mv (.t 7),none⟩,
 ⟨(some 38),.qcall 12 [(.t 35),(.t 36),(.t 37)],none⟩,
 ⟨(some 39),.binB true (.t 34) (.t 38),none⟩,
 ⟨(some 40),.mv (.t 39),none⟩,
 ⟨(some 41),.mv (.t 8),some (40,false)⟩,
 ⟨(some 42),.un .not (.t 41),some (40,false)⟩,
 ⟨(some 43),.pick (.t 40) (.k (.c (.d (.bool true)))) (.t 42),none⟩,
 ⟨(some 44),.mv (.t 43),none⟩,
 ⟨(some 45),.load (some 4) (.t 10),some (44,false)⟩,
 ⟨(some 46),.qcall 13 [(.t 45)],some (44,false)⟩,
 ⟨(some 47),.un .not (.t 46),some (44,false)⟩,
 ⟨(some 48),.pick (.t 44) (.k (.c (.d (.bool true)))) (.t 47),none⟩,
 ⟨(some 49),.mv (.t 48),none⟩,
 ⟨(some 50),.fieldAddr 2 (.t 10),some (49,false)⟩,
 ⟨(some 51),.load none (.t 50),some (49,false)⟩,
 ⟨(some 52),.mv (.t 6),some (49,false)⟩,
 ⟨(some 53),.bin .neq (.t 51) (.t 52),some (49,false)⟩,
 ⟨(some 54),.pick (.t 49) (.k (.c (.d (.bool true)))) (.t 53),none⟩,
 ⟨(some 55),.mv (.t 54),none⟩,
 ⟨(some 56),.fieldAddr 3 (.t 10),some (55,false)⟩,
 ⟨(some 57),.load none (.t 56),some (55,false)⟩,
 ⟨(some 58),.len 1 (.t 57),some (55,false)⟩,
 ⟨(some 59),.mv (.t 7),some (55,false)⟩,
 ⟨(some 60),.bin .neq (.t 58) (.t 59),some (55,false)⟩,
 ⟨(some 61),.pick (.t 55) (.k (.c (.d (.bool true)))) (.t 60),none⟩,
 ⟨(some 62),.mv (.t 61),none⟩,
 ⟨(some 63),.load (some 4) (.t 10),some (62,false)⟩,
 ⟨(some 64),.qcall 14 [(.t 63)],some (62,false)⟩,
 ⟨(some 65),.bin .eql (.t 64) (.k (.c (.d (.str [])))),some (62,false)⟩,
 ⟨(some 66),.pick (.t 62) (.k (.c (.d (.bool true)))) (.t 65),none⟩] [34,35,36,37,38,39,40,41,42,43,44,45,46,47,48,49,50,51,52,53,54,55,56,57,58,59,60,61,62,63,64,65])
 (.cond (.t 66)
 (.seq (.region [⟨(some 67),.mv (.t 8),none⟩,
 ⟨(some 68),.mv (.t 5),none⟩,
 ⟨(some 69),.mv (.t 6),none⟩,
 ⟨(some 70),.mv (.t 7),none⟩,
 ⟨(some 71),.qcall 12 [(.t 68),(.t 69),(.t 70)],none⟩,
 ⟨(some 72),.binB false (.t 67) (.t 71),none⟩,
 ⟨(some 4),.mv (.t 72),none⟩] [5,6,7,8,10,66,67,68,69,70,71,72])
 (.ret))
 (.skip)))
 (.seq (.region [⟨(some 73),.mv (.t 5),none⟩,
 ⟨(some 74),.load (some 4) (.t 10),none⟩,
 ⟨(some 75),.qcall 7 [(.t 73),(.t 74)],none⟩,
 ⟨(some 76),.len 1 (.t 75),none⟩,
 ⟨(some 77),.bin .leq (.t 76) (.k (.c (.d (.int .i64 1)))),none⟩,
 ⟨(some 4),.mv (.t 77),none⟩] [5,6,7,8,10,66,73,74,75,76,77])
 (.ret)))))))
theorem ac4_ok : cFunc Tryz.prog [1000007,1000011,1000012,1000013,1000014] [(0,[4],[]),(1,[11,12,13,14,15,16,17],[]),(2,[0,1,18],[]),(3,[0,4,18,19,20,21,22,23,24],[]),(4,[25,26,27,28],[]),(5,[1,9,29,30,31,32,33],[]),(6,[34,35,36,37,38,39,40,41,42,43,44,45,46,47,48,49,50,51,52,53,54,55,56,57,58,59,60,61,62,63,64,65],[]),(7,[5,6,7,8,10,66,67,68,69,70,71,72],[]),(8,[5,6,7,8,10,66,73,74,75,76,77],[])] Tryz.f4 = some (ac4,[.tmp 4],78) := by kernel_rfl
theorem forI_same (p : List Cl) (g h : Tm) (hs : g.s = h.s) (hl : g.kids.length = h.kids.length) : ∀ i, forI p g i = forI p h i
  | 0 => rfl
  | i + 1 => by
    rw [forI, forI, forI_same p g h hs hl i]
    cases p[i]? with
    | none => rfl
    | some c =>
      have e : hits c g = hits c h := by unfold hits; congr 1 <;> (rw [Bool.eq_iff_iff]; simp [hs, hl])
      simp only [e]
theorem forI_nodup (p : List Cl) (g : Tm) : ∀ i, (forI p g i).Pairwise (· < ·) ∧ ∀ x ∈ forI p g i, x < i
  | 0 => by simp [forI]
  | i + 1 => by
    obtain ⟨h1, h2⟩ := forI_nodup p g i
    rw [forI]
    cases p[i]? with
    | none => simp; exact ⟨h1, fun x hx => by have := h2 x hx; omega⟩
    | some c =>
      simp only
      split
      · refine ⟨List.pairwise_append.2 ⟨h1, by simp, fun a ha b hb => by simp at hb; subst hb; exact h2 a ha⟩, fun x hx => ?_⟩
        rcases List.mem_append.1 hx with hx | hx
        · have := h2 x hx; omega
        · simp at hx; omega
      · simp; exact ⟨h1, fun x hx => by have := h2 x hx; omega⟩
theorem kfit_known {x y k : List UInt8} (hk : k ≠ []) (hx : kfit x k = true) (hy : kfit y k = true) : kfit x y = true := by
  have hke : k.isEmpty = false := by cases k with | nil => exact absurd rfl hk | cons a l => rfl
  simp only [kfit, hke, Bool.or_false, Bool.or_eq_true, beq_iff_eq] at hx hy ⊢
  rcases hx with hx | rfl
  · exact .inl (.inl hx)
  · rcases hy with hy | rfl
    · exact .inl (.inr hy)
    · exact .inr rfl
theorem det_one (p : List Cl) (s : List UInt8) (n : Int) (t : Tm) (hd : detB p s n = true) (hs : t.s = s) (hn : (t.kids.length : Int) = n) (hk : t.key ≠ []) : (candB p t).length ≤ 1 := by
  subst hs; subst hn
  simp only [detB, Bool.and_eq_true] at hd
  unfold candB forB
  split
  case isFalse => simp [fitL, keepI]
  have e : forI p t p.length = forI p (predT t.s t.kids.length) p.length := forI_same p t (predT t.s t.kids.length) rfl (by simp [predT, Tm.kids]) _
  rw [e]
  have hdl := hd.2
  simp only [Int.toNat_natCast] at hdl
  obtain ⟨hp, _⟩ := forI_nodup p (predT t.s t.kids.length) p.length
  generalize forI p (predT t.s t.kids.length) p.length = l at hdl hp
  rcases Nat.lt_or_ge 1 (fitL p t.key l).length with h2 | h2
  case inr => exact h2
  exfalso
  have hsub : (fitL p t.key l).Sublist l := List.filter_sublist
  have hmem : ∀ x ∈ fitL p t.key l, x ∈ l ∧ kfit (keyAt p x) t.key = true := fun x hx => by
    obtain ⟨h1, h3⟩ := List.mem_filter.1 hx
    exact ⟨h1, by simpa [strikeK] using h3⟩
  obtain ⟨a1, a2⟩ := hmem _ (List.getElem_mem (show 0 < (fitL p t.key l).length by omega))
  obtain ⟨b1, b2⟩ := hmem _ (List.getElem_mem h2)
  have hlt : (fitL p t.key l)[0] < (fitL p t.key l)[1] := List.pairwise_iff_getElem.1 (hp.sublist hsub) 0 1 (by omega) h2 (by omega)
  generalize (fitL p t.key l)[0] = x at a1 a2 hlt
  generalize (fitL p t.key l)[1] = y at b1 b2 hlt
  obtain ⟨i, hi, rfl⟩ := List.mem_iff_getElem.1 a1
  obtain ⟨j, hj, rfl⟩ := List.mem_iff_getElem.1 b1
  have hij : i < j := by
    rcases Nat.lt_or_ge i j with h | h
    · exact h
    · rcases Nat.lt_or_eq_of_le h with h | h
      · have := List.pairwise_iff_getElem.1 hp j i hj hi h
        omega
      · subst h; omega
  simp only [detL, List.all_eq_true, List.mem_range] at hdl
  have := hdl j hj i hij
  simp only [fitAt, Bool.not_eq_true'] at this
  rw [show l.getD j 0 = l[j] by simp [hj], show l.getD i 0 = l[i] by simp [hi], kfit_known hk b2 a2] at this
  cases this
theorem candB_len (p : List Cl) (t : Tm) : (candB p t).length ≤ p.length := by
  have h2 := (forB_ok p t).1
  have h3 := keepI_len (strikeK p t.key) (forB p t)
  unfold candB fitL; omega
theorem dmLaw_calls {g : Nat} {o : Obj} (hT : Tab g o) (s s2 : List UInt8) (hs : s.length ≤ reachBytes) (hs2 : s2.length ≤ reachBytes) (H : Heap) (hH : H[0]? = some (.tab g o)) :
    ACalls Tryz.prog 4 [.c (.d (.sl (bytesRows s))), .c (.d (.sl (bytesRows s2)))] H (fun r H' => H' = H ∧ r = .c (.d (.bool true))) := by
  refine acalls Tryz.func4 (by kernel_rfl) ac4_ok fun hf => ?_
  have hsl := reach_i64 hs
  have hsl2 := reach_i64 hs2
  simp -implicitDefEqProofs [ac4, hsl, hsl2, bytesRows_len, hf, go_sem, -List.set_cons_succ, -List.set_cons_zero]
  intro hs1 hs3
  refine call_some (drawDt_calls s (by omega) _) (by simp [Ob.re, C.re]) (fun r => PgDetR.re) hf ?_
  rintro _ ⟨p, nm, n, rfl, ⟨hp, hpf⟩, hnm, hn0, hn1⟩
  have hpp : FitsC p := ⟨by omega, hpf⟩
  have hni : inR .i64 n := small_i64 (by omega) (by omega)
  simp -implicitDefEqProofs [hf, go_sem, -List.set_cons_succ, -List.set_cons_zero]
  refine qcall_tab (detImpl_calls hT p hpp nm hnm n hni) hf hH rfl ?_
  simp -implicitDefEqProofs [hf, go_sem, -List.set_cons_succ, -List.set_cons_zero]
  refine call_some (drawCa_calls s2 (by omega) _) (by simp [Ob.re, C.re]) (fun r => PgGoalR.re) hf ?_
  rintro _ ⟨p2, ⟨k, m, ts, l⟩, rfl, ⟨hp2, hpf2⟩, ht⟩
  have hpp2 : FitsC p2 := ⟨by omega, hpf2⟩
  have hgl := goalImpl_calls _ ht
  have hky := fky_calls hT _ ht
  have hcd := candI_calls hT p hpp _ ht
  have hone := det_one p nm n (.mk k m ts l)
  have hkk : (Tm.mk k m ts l).fkey = [] ∨ (Tm.mk k m ts l).fkey = (Tm.mk k m ts l).key := by unfold Tm.fkey; split; exact .inr rfl; exact .inl rfl
  have hcl := (candB_len p (.mk k m ts l))
  generalize candB p (.mk k m ts l) = cs at hone hcd hcl
  generalize (Tm.mk k m ts l).fkey = fk at hky hkk
  generalize (Tm.mk k m ts l).key = kk at hone hkk
  generalize (Tm.mk k m ts l).goal = gl at hgl
  obtain ⟨hk, hm, hts, hl, hkids⟩ := ht
  have hli : inR .i64 (l.length : Int) := small_i64 (by omega) (by omega)
  have hci : inR .i64 (cs.length : Int) := small_i64 (by omega) (by omega)
  simp only [row_mk, List.map_cons, List.map_nil] at hgl hky hcd ⊢
  simp -implicitDefEqProofs [hf, splice_all, cut_all, go_sem, -List.set_cons_succ, -List.set_cons_zero]
  have hds := detSpec_calls p hpp nm n hni
  refine qcall_pure hds hf rfl ?_
  cases hd : detB p nm n with
  | false =>
    rw [hd] at hds
    simp -implicitDefEqProofs [hli, hf, splice_all, cut_all, go_sem, -List.set_cons_succ, -List.set_cons_zero]
    refine qcall_pure hds hf rfl ?_
    simp -implicitDefEqProofs [go_sem, -List.set_cons_succ, -List.set_cons_zero]
  | true =>
    rw [hd] at hds
    simp -implicitDefEqProofs [hli, hf, splice_all, cut_all, go_sem, -List.set_cons_succ, -List.set_cons_zero]
    refine qcall_pure hgl hf rfl ?_
    cases gl with
    | false =>
      simp -implicitDefEqProofs [hli, hf, splice_all, cut_all, go_sem, -List.set_cons_succ, -List.set_cons_zero]
      refine qcall_pure hds hf rfl ?_
      simp -implicitDefEqProofs [go_sem, -List.set_cons_succ, -List.set_cons_zero]
    | true =>
      by_cases hsn : ts = nm
      case neg =>
        have hsb : (ts != nm) = true := by simpa using hsn
        simp -implicitDefEqProofs [hsn, hsb, hli, hf, splice_all, cut_all, go_sem, -List.set_cons_succ, -List.set_cons_zero]
        refine qcall_pure hds hf rfl ?_
        simp -implicitDefEqProofs [go_sem, -List.set_cons_succ, -List.set_cons_zero]
      case pos =>
        subst hsn
        by_cases hln : (l.length : Int) = n
        case neg =>
          have hlb : ((l.length : Int) != n) = true := by simpa using hln
          simp -implicitDefEqProofs [hln, hlb, hli, hf, splice_all, cut_all, go_sem, -List.set_cons_succ, -List.set_cons_zero]
          refine qcall_pure hds hf rfl ?_
          simp -implicitDefEqProofs [go_sem, -List.set_cons_succ, -List.set_cons_zero]
        case pos =>
          subst hln
          simp -implicitDefEqProofs [hli, hf, splice_all, cut_all, go_sem, -List.set_cons_succ, -List.set_cons_zero]
          refine qcall_tab hky hf hH rfl ?_
          by_cases hfe : fk = []
          · subst hfe
            simp -implicitDefEqProofs [hli, hf, splice_all, cut_all, go_sem, -List.set_cons_succ, -List.set_cons_zero]
            refine qcall_pure hds hf rfl ?_
            simp -implicitDefEqProofs [go_sem, -List.set_cons_succ, -List.set_cons_zero]
          · have hfb : (fk == []) = false := by simpa using hfe
            simp -implicitDefEqProofs [hfe, hfb, hli, hf, splice_all, cut_all, go_sem, -List.set_cons_succ, -List.set_cons_zero]
            refine qcall_tab hcd hf hH rfl ?_
            have hkne : kk ≠ [] := by
              rcases hkk with h | h
              · exact absurd h hfe
              · rw [← h]; exact hfe
            have h1 := hone hd rfl rfl hkne
            simp -implicitDefEqProofs [hci, intRows_len, go_sem, -List.set_cons_succ, -List.set_cons_zero]
            omega
theorem law_run4 {g : Nat} {o : Obj} (hT : Tab g o) (rows : List (List D)) (hr : HasTys Tryz.prog (#[22, 22] : Array TypeId).toList rows) : ACalls Tryz.prog 4 (argsA Tryz.prog (#[22, 22] : Array TypeId).toList rows) [.tab g o] (fun r H' => H' = [.tab g o] ∧ r = .c (.d (.bool true))) := by
  obtain ⟨r, rs, rfl, h1, h2⟩ := hr.cons
  obtain ⟨r2, rs2, rfl, h3, h4⟩ := h2.cons
  obtain rfl := h4.nil
  obtain ⟨s, rfl, hs⟩ := bytes_ty h1
  obtain ⟨s2, rfl, hs2⟩ := bytes_ty h3
  simp only [argsA, argA, Tryz.underlying22, List.headD_cons]
  exact dmLaw_calls hT s s2 hs hs2 _ rfl
namespace fnDeterminate
theorem own : ownKnob Tryz.prog.godebug = none := by kernel_rfl
theorem door_met (os : Os) (args : Array Value) : laidMetH Tryz.prog laid ((World.doorLaid Tryz.prog 400 os).forCall (fun _ _ => 0) ⟨#[], args, []⟩).memory :=
  laidMetH_of_parts3 (fuel := 8) (laidMet_of_run' 8 (by kernel_rfl) (by kernel_rfl)) (by kernel_rfl) (by kernel_rfl)
theorem contract (H : Type) (enc : TypeId × Value → H) (W : World) (base : Nat) (args : Array Value) (ds gs : List (DataW H)) (before : List MemPlace) (hL : laidMetH Tryz.prog laid W)
    (hval : ∀ (j : Nat) t v, Tryz.f4.params[j]? = some t → args[j]? = some v → Value.okWide Tryz.prog W .any base t v)
    (hW : DataW.Whole enc Tryz.prog Tryz.f4.params.toList Rows.fnDeterminateSpec.vars false W args.toList ds gs before)
    (hw : (DataW.weightsEach Tryz.prog (Tryz.f4.params.toList ++ Rows.fnDeterminateSpec.plain.varTypes Tryz.prog) (ds ++ gs)).all (· ≤ reachBytes) = true) :
    Calls Tryz.prog 4 args W fun e W' => ∃ v, e = .returned v ∧ Rows.fnDeterminateSpec.post enc Tryz.prog Tryz.f4 false true false false W args v W' := by
  refine law_contract_tab (T := Tab) (L := [5, 22]) (tb := 4) (by kernel_rfl) (by kernel_rfl) (by kernel_rfl) rfl ?_ (by kernel_rfl) Tryz.underlying4 ?_ W base args ds gs before (tab_laid hL) hval hW hw
  · intro ds hl
    match ds, hl with
    | [d0, d1], _ => rfl
  · intro g o hT rows hr
    rw [Tryz.params4] at hr ⊢
    exact law_run4 hT rows hr

theorem lifted (os : Os) (started : os.Started) (H : Type) (enc : TypeId × Value → H) :
    ReturnsInHanded {} Tryz.checked os 4 .any (fun w args => (Rows.fnDeterminateSpec.pre enc Tryz.prog Tryz.f4 [] false w args ∧ laidMetH Tryz.prog laid w) ∧ sizedMet enc Tryz.prog Tryz.f4 (OpenSpec.ofChange Rows.fnDeterminateSpec) false w args)
      (Rows.fnDeterminateSpec.post enc Tryz.prog Tryz.f4 false true false false) := by
  refine returnsInHanded_of_change_and (C := Tryz.checked) (X := fun w _ => laidMetH Tryz.prog laid w) (fun _ _ _ hh h => h.of_heap hh) own started (by kernel_rfl) Tryz.func4
    (ChangeSpec.witness_shaped (enc := enc) (C := Tryz.checked) (os := os) (X := fun w _ => laidMetH Tryz.prog laid w) false (World.doorLaid Tryz.prog 400 os) #[.slice none 0 0, .slice none 0 0] 8 rfl (World.shaped_of_RefB (by kernel_rfl) (by kernel_rfl)) (by kernel_rfl) (by kernel_rfl) (by kernel_rfl) (door_met os _)) ?_
  intro W base args ds gs before hval hW _ hw hL _
  exact contract H enc W base args ds gs before hL hval hW hw

theorem said : Rows.FnDeterminateSaid :=
  OpenClaim.holds_of_wide 4 Tryz.f4 rfl rfl rfl rfl rfl rfl rfl ⟨rfl, rfl, rfl, rfl, rfl⟩ rfl rfl rfl rfl rfl (by kernel_rfl) Tryz.func4 (by kernel_rfl)
    (of_decide_eq_true (by kernel_rfl)) (by unfold Func.isWrapper; first | (rw [if_pos (by decide +kernel)]; kernel_rfl) | (rw [if_neg (by decide +kernel)]; exact ⟨rfl, rfl⟩))
    (fun os started H enc _ => lifted os started H enc)

theorem proved : Rows.FnDeterminateCardSaid :=
  Claim7.holds_tied_plain_at .later [] [.data, .data, .data] true Rows.fnDeterminateCard.stood.harness false
    said (fun _ h => by cases h) (by kernel_rfl) (fun _ h => by cases h) fnDeterminate_row_tie rfl ⟨rfl, rfl⟩ (by kernel_rfl) rfl
    (fun f fn hf hfn => by
      obtain rfl : f = 4 := Option.some.inj ((show Tryz.prog.funcNamed Rows.fnDeterminateRow.func = some 4 by kernel_rfl).symm.trans hf) |>.symm
      obtain rfl : fn = Tryz.f4 := (Option.some.inj (Tryz.func4.symm.trans hfn)).symm
      exact ⟨by kernel_rfl, fun j t ht => by
        rw [Tryz.params4] at ht
        have hall : (Tryz.f4.params.toList.all fun u => !Tryz.prog.wantsStandIn u) = true := by kernel_rfl
        have hm : t ∈ Tryz.f4.params.toList := by
          rw [Tryz.params4]
          simpa using Array.mem_of_getElem? ht
        exact (show Tryz.prog.wantsStandIn t = false by simpa using List.all_eq_true.1 hall t hm)⟩)
    (by kernel_rfl)
end fnDeterminate

end Go.Proofs.YteighafofbohcaaGreatDoor
