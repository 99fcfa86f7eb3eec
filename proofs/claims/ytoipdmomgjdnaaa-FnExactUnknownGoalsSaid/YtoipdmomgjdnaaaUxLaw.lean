/-
  The law FnExactUnknownGoals holds: impl.UnknownGoals answers as spec.UnknownGoals does, with memory of its own.
  Conditions: none.
-/
import Derived.Test.YtoipdmomgjdnaaaBundB
open Go Go.AM Go.Proofs
attribute [local go_sem] kw ew sw tw a_ b_ c_ A.ok A.val d_ e_ f_ g_ h_ i_ j_ k_ l_ m_ unA unD n_ AOp.total o_ p_ q_ r_ s_ t_ u_ v_ A.thaw C.thaw A.fits As.fits C.fits evs oks w_ A.pure C.pure A.re C.re x_ y_ cut A.cells C.rows? z_ A_ B_ C_ a0_ b0_ D_ Ob.re Cs.fits E_ F_ G_ H_ I_ J_ K_ L_ M_ N_ O_ C.toD P_ Q_ R_ S_ T_ Obs.fits U_ eqD V_ W_ X_ Y_ Z_
open Go Go.AM Go.Proofs
namespace Go.Proofs.Ytoipdmomgjdnaaa
open Go.ChangeShapes Go.WideShapes Go.ChangeAt Go.RowKit
set_option linter.unusedVariables false
set_option linter.unusedSimpArgs false
set_option maxRecDepth 100000
-- 5 loop.example/prologserver/laws.FnExactUnknownGoals params 1 ntmps 69
def ac5 : Cd := .seq (.region [⟨(some 2),.mv (.k (.c (.d (.bool false)))),none⟩] [2])
 (.seq (.region [⟨(some 3),.mv (.k (.c (.d (.int .i64 1048576)))),none⟩] [])
 (.seq (.region [⟨(some 11),.mv (.t 0),none⟩,
 ⟨(some 12),.mv (.t 3),none⟩,
 ⟨(some 13),.call false 6 [(.t 11),(.t 12)],none⟩,
 ⟨(some 3),.mv (.t 13),none⟩] [11,12,13])
 (.seq (.seq (.region [⟨(some 14),.mv (.t 3),none⟩,
 ⟨(some 15),.bin .lss (.t 14) (.k (.c (.d (.int .i64 0)))),none⟩] [3,14])
 (.cond (.t 15)
 (.seq (.region [⟨(some 2),.mv (.k (.c (.d (.bool true)))),none⟩] [0,15])
 (.ret))
 (.skip)))
 (.seq (.region [⟨(some 16),.mv (.t 0),none⟩,
 ⟨(some 17),.qcall 8 [(.t 16)],none⟩,
 ⟨(some 18),.qcall 20 [(.t 17)],none⟩,
 ⟨(some 4),.mv (.t 18),none⟩] [2,15,16,17,18])
 (.seq (.region [⟨(some 19),.mv (.t 0),none⟩,
 ⟨(some 20),.call false 8 [(.t 19)],none⟩,
 ⟨(some 5),.mv (.t 20),none⟩] [19,20])
 (.seq (.region [⟨(some 21),.mv (.t 5),none⟩,
 ⟨(some 22),.call false 21 [(.t 21)],none⟩,
 ⟨(some 6),.mv (.t 22),none⟩] [21,22])
 (.seq (.seq (.region [⟨(some 23),.mv (.t 6),none⟩,
 ⟨(some 24),.mv (.t 4),none⟩,
 ⟨(some 25),.qcall 16 [(.t 23),(.t 24)],none⟩,
 ⟨(some 26),.un .not (.t 25),none⟩] [23,24,25])
 (.cond (.t 26)
 (.seq (.region [⟨(some 2),.mv (.k (.c (.d (.bool false)))),none⟩] [0,4,5,6,26])
 (.ret))
 (.skip)))
 (.seq (.seq (.region [⟨(some 27),.mv (.t 5),none⟩,
 ⟨(some 28),.mv (.t 0),none⟩,
 ⟨(some 29),.qcall 8 [(.t 28)],none⟩,
 ⟨(some 30),.qcall 10 [(.t 27),(.t 29)],none⟩,
 ⟨(some 31),.un .not (.t 30),none⟩] [2,26,27,28,29,30])
 (.cond (.t 31)
 (.seq (.region [⟨(some 2),.mv (.k (.c (.d (.bool false)))),none⟩] [0,4,5,6,31])
 (.ret))
 (.skip)))
 (.seq (.region [⟨(some 7),.mv (.k (.c (.d (.int .i64 1)))),none⟩] [2,31])
 (.seq (.region [⟨(some 32),.mv (.t 5),none⟩,
 ⟨(some 33),.mv (.t 7),none⟩,
 ⟨(some 34),.call false 22 [(.t 32),(.t 33)],none⟩,
 ⟨(some 7),.mv (.t 34),none⟩] [5,32,33,34])
 (.seq (.seq (.region [⟨(some 35),.mv (.t 7),none⟩,
 ⟨(some 36),.bin .lss (.t 35) (.k (.c (.d (.int .i64 0)))),none⟩,
 ⟨(some 37),.mv (.t 36),none⟩,
 ⟨(some 38),.mv (.t 6),some (37,false)⟩,
 ⟨(some 39),.mv (.t 4),some (37,false)⟩,
 ⟨(some 40),.qcall 16 [(.t 38),(.t 39)],some (37,false)⟩,
 ⟨(some 41),.un .not (.t 40),some (37,false)⟩,
 ⟨(some 42),.pick (.t 37) (.k (.c (.d (.bool true)))) (.t 41),none⟩] [7,35,36,37,38,39,40,41])
 (.cond (.t 42)
 (.seq (.region [⟨(some 2),.mv (.k (.c (.d (.bool false)))),none⟩] [0,4,6,42])
 (.ret))
 (.skip)))
 (.seq (.region [⟨(some 8),.mv (.k (.c (.d (.int .i64 1)))),none⟩] [2,42])
 (.seq (.region [⟨(some 43),.mv (.t 6),none⟩,
 ⟨(some 44),.mv (.t 8),none⟩,
 ⟨(some 45),.call false 17 [(.t 43),(.t 44)],none⟩,
 ⟨(some 8),.mv (.t 45),none⟩] [43,44,45])
 (.seq (.region [⟨(some 9),.mv (.k (.c (.d (.int .i64 1)))),none⟩] [])
 (.seq (.region [⟨(some 46),.mv (.t 6),none⟩,
 ⟨(some 47),.mv (.t 9),none⟩,
 ⟨(some 48),.qcall 23 [(.t 46),(.t 47)],none⟩,
 ⟨(some 9),.mv (.t 48),none⟩] [46,47,48])
 (.seq (.seq (.region [⟨(some 49),.mv (.t 9),none⟩,
 ⟨(some 50),.bin .lss (.t 49) (.k (.c (.d (.int .i64 0)))),none⟩] [49])
 (.cond (.t 50)
 (.seq (.region [⟨(some 2),.mv (.k (.c (.d (.bool false)))),none⟩] [0,4,6,8,9,50])
 (.ret))
 (.skip)))
 (.seq (.seq (.region [⟨(some 51),.mv (.t 9),none⟩,
 ⟨(some 52),.mv (.t 8),none⟩,
 ⟨(some 53),.bin .neq (.t 51) (.t 52),none⟩] [2,9,50,51,52])
 (.cond (.t 53)
 (.seq (.region [⟨(some 2),.mv (.k (.c (.d (.bool false)))),none⟩] [0,4,6,8,53])
 (.ret))
 (.skip)))
 (.seq (.region [⟨(some 54),.mv (.t 0),none⟩,
 ⟨(some 55),.qcall 8 [(.t 54)],none⟩,
 ⟨(some 56),.call false 21 [(.t 55)],none⟩,
 ⟨(some 10),.mv (.t 56),none⟩] [0,2,53,54,55,56])
 (.seq (.seq (.region [⟨(some 57),.mv (.t 10),none⟩,
 ⟨(some 58),.mv (.t 4),none⟩,
 ⟨(some 59),.qcall 16 [(.t 57),(.t 58)],none⟩,
 ⟨(some 60),.un .not (.t 59),none⟩] [4,10,57,58,59])
 (.cond (.t 60)
 (.seq (.region [⟨(some 2),.mv (.k (.c (.d (.bool false)))),none⟩] [6,8,60])
 (.ret))
 (.skip)))
 (.seq (.region [⟨(some 9),.mv (.k (.c (.d (.int .i64 1)))),none⟩] [2,60])
 (.seq (.region [⟨(some 61),.mv (.t 6),none⟩,
 ⟨(some 62),.mv (.t 9),none⟩,
 ⟨(some 63),.qcall 23 [(.t 61),(.t 62)],none⟩,
 ⟨(some 9),.mv (.t 63),none⟩] [6,61,62,63])
 (.seq (.seq (.region [⟨(some 64),.mv (.t 9),none⟩,
 ⟨(some 65),.bin .lss (.t 64) (.k (.c (.d (.int .i64 0)))),none⟩] [64])
 (.cond (.t 65)
 (.seq (.region [⟨(some 2),.mv (.k (.c (.d (.bool false)))),none⟩] [8,9,65])
 (.ret))
 (.skip)))
 (.seq (.seq (.region [⟨(some 66),.mv (.t 9),none⟩,
 ⟨(some 67),.mv (.t 8),none⟩,
 ⟨(some 68),.bin .neq (.t 66) (.t 67),none⟩] [2,8,9,65,66,67])
 (.cond (.t 68)
 (.seq (.region [⟨(some 2),.mv (.k (.c (.d (.bool false)))),none⟩] [68])
 (.ret))
 (.skip)))
 (.seq (.region [⟨(some 2),.mv (.k (.c (.d (.bool true)))),none⟩] [68])
 (.ret)))))))))))))))))))))))))
theorem ac5_ok : cFunc Try.prog [1000008,1000010,1000016,1000020,1000023,7000019] [(0,[2],[]),(1,[],[]),(2,[11,12,13],[]),(3,[3,14],[]),(4,[0,15],[]),(5,[2,15,16,17,18],[]),(6,[19,20],[]),(7,[21,22],[]),(8,[23,24,25],[]),(9,[0,4,5,6,26],[]),(10,[2,26,27,28,29,30],[]),(11,[0,4,5,6,31],[]),(12,[2,31],[]),(13,[5,32,33,34],[]),(14,[7,35,36,37,38,39,40,41],[]),(15,[0,4,6,42],[]),(16,[2,42],[]),(17,[43,44,45],[]),(18,[],[]),(19,[46,47,48],[]),(20,[49],[]),(21,[0,4,6,8,9,50],[]),(22,[2,9,50,51,52],[]),(23,[0,4,6,8,53],[]),(24,[0,2,53,54,55,56],[]),(25,[4,10,57,58,59],[]),(26,[6,8,60],[]),(27,[2,60],[]),(28,[6,61,62,63],[]),(29,[64],[]),(30,[8,9,65],[]),(31,[2,8,9,65,66,67],[]),(32,[68],[]),(33,[68],[])] Try.f5 = some (ac5,[.tmp 2],69) := by kernel_rfl
theorem sub_size : ∀ t : Tm, t.sub + 1 ≤ t.size := by
  refine Tm.ind fun k n s l ih => ?_
  simp only [sub_mk, Tm.size]
  have : Tm.cnt l ≤ sizes l := by
    clear k n s
    induction l with
    | nil => simp [cnt_nil]
    | cons t l ih2 =>
      rw [cnt_cons]
      have h1 := ih t (by simp)
      have h2 := ih2 fun t ht => ih t (by simp [ht])
      simp only [sizes]
      omega
  omega
theorem cnt_le {B : Nat} : ∀ (l : List Tm), (∀ t ∈ l, t.sub ≤ B) → Tm.cnt l ≤ l.length * (B + 1)
  | [], _ => by simp [cnt_nil]
  | t :: l, h => by
    have h1 := cnt_le l fun t ht => h t (by simp [ht])
    have h2 := h t (by simp)
    rw [cnt_cons, List.length_cons, Nat.succ_mul]
    omega
theorem unkT_mem (p : List Cl) : ∀ (i : Nat) (g : Tm), g ∈ unkT p i → ∃ c ∈ p, g ∈ c.body
  | 0, g, h => by simp [unkT] at h
  | i + 1, g, h => by
    rw [unkT, List.mem_append] at h
    rcases h with h | h
    · exact unkT_mem p i g h
    · split at h
      · rename_i c hc
        exact ⟨c, List.mem_of_getElem? hc, (List.mem_filter.1 h).1⟩
      · simp at h
theorem unkP_ok (p : List Cl) (hp : FitsC p) : (∀ g ∈ unkP p, g.fits) ∧ (unkP p).length ≤ 120 ∧ Tm.cnt (unkP p) ≤ 120 * 121 := by
  unfold unkP
  split
  · rename_i hb
    have hpl := prog_len hb
    have hul := unk_len hb p.length (Nat.le_refl _)
    have key : ∀ g ∈ unkT p p.length, g.fits ∧ g.sub ≤ 120 := fun g hg => by
      obtain ⟨c, hc, hgc⟩ := unkT_mem p _ g hg
      have h1 : c.validB = true := by simp only [progB, Bool.and_eq_true, List.all_eq_true] at hb; exact hb.2 c hc
      simp only [Cl.validB, goalsB, Bool.and_eq_true, List.all_eq_true] at h1
      have h2 := h1.2.2 g hgc
      simp only [Tm.goal, Tm.valid, Bool.and_eq_true, decide_eq_true_eq] at h2
      have h3 := sub_size g
      exact ⟨(hp.2 c hc).body g hgc, by omega⟩
    have h4 := cnt_le (B := 120) _ fun g hg => (key g hg).2
    refine ⟨fun g hg => (key g hg).1, by omega, ?_⟩
    refine Nat.le_trans h4 ?_
    exact Nat.mul_le_mul_right 121 (by omega)
  · simp [cnt_nil]
theorem uxLaw_calls (p : List Cl) (hl : p.length ≤ reachBytes) (hfine : ∀ c ∈ p, c.fine) : ACalls Try.prog 5 [.c (.d (.sl (p.map Cl.row)))] [] (fun r _ => r = .c (.d (.bool true))) := by
  refine acalls Try.func5 (by kernel_rfl) ac5_ok fun hf => ?_
  simp -implicitDefEqProofs [ac5, go_sem, -List.set_cons_succ, -List.set_cons_zero]
  refine call_some (szwClauseS_calls p hl hfine 1048576 (by omega) (by omega) _) (by simp [Ob.re, C.re]) (fun r => LeftW.re) hf ?_
  rintro _ ⟨k, rfl, _, _, hk⟩
  simp -implicitDefEqProofs [go_sem, -List.set_cons_succ, -List.set_cons_zero]
  intro h0
  have hfit : FitsC p := (hk h0).1
  have hw := (hk h0).2
  have hsw := wsum_le csub_wt p
  obtain ⟨g1, g2, g3⟩ := unkP_ok p hfit
  have cs := unkSpec_calls p hfit
  have ci := unkOwn_calls p hfit
  generalize unkP p = u at g1 g2 g3 cs ci
  have ctc := toClauseS_calls p hfit
  have ctco := toClauseSOwn_calls p hfit
  have ceu := eqTermS_calls u (by omega) g1 []
  have cec := eqClauseS_calls p hfit []
  have hp1 : ¬ (1 + 3 * (wsum Cl.sub p : Int) < 0) := by omega
  have hp2 : ¬ (1 + 3 * (Tm.cnt u : Int) < 0) := by omega
  have zu : ∀ {H : Heap} {v : Value} {i : Nat}, H[i]? = some (.tree v (u.map Tm.row)) → FzL H [] [.c (.d (.v v)), .c (.d (.sl (u.map Tm.row)))] [.c (.d (.sl (u.map Tm.row))), .c (.d (.sl (u.map Tm.row)))] := fun h =>
    .cons (.c (.tree h (by simp))) (.cons (.c .d) .nil)
  refine qcall_pure ctc hf rfl ?_
  simp -implicitDefEqProofs [go_sem, -List.set_cons_succ, -List.set_cons_zero]
  refine qcall_pure cs hf rfl ?_
  simp -implicitDefEqProofs [go_sem, -List.set_cons_succ, -List.set_cons_zero]
  refine call_loc (J := []) ctco (fun r H' h => h.handed) rfl (.cons (.c .d) .nil) List.nodup_nil rfl rfl ?_
  rintro _ _ ⟨vp, rfl, rfl⟩ _
  simp -implicitDefEqProofs [putAll, go_sem, -List.set_cons_succ, -List.set_cons_zero]
  refine call_loc (J := []) ci (fun r H' h => h.handed) rfl (.cons (.c (.tree (i := 0) rfl (by simp))) .nil) List.nodup_nil rfl rfl ?_
  rintro _ _ ⟨vu, rfl, rfl⟩ _
  simp -implicitDefEqProofs [putAll, go_sem, -List.set_cons_succ, -List.set_cons_zero]
  refine qcall_read ceu rfl hf (zu (i := 1) rfl) ?_
  simp -implicitDefEqProofs [go_sem, -List.set_cons_succ, -List.set_cons_zero]
  refine qcall_pure ctc hf rfl ?_
  simp -implicitDefEqProofs [go_sem, -List.set_cons_succ, -List.set_cons_zero]
  refine qcall_read cec rfl hf (.cons (.c (.tree (i := 0) rfl (by simp))) (.cons (.c .d) .nil)) ?_
  simp -implicitDefEqProofs [go_sem, -List.set_cons_succ, -List.set_cons_zero]
  refine call_loc (J := [0]) (markClauseS_calls p hfit 1 (by omega) (by omega) vp) (fun r H' ⟨h1, h2⟩ => by subst h1; subst h2; exact ⟨rfl, rfl⟩) rfl (.cons (.c .d) (.cons (.c .d) .nil)) (by simp) rfl rfl ?_
  rintro _ _ ⟨rfl, rfl⟩ _
  simp -implicitDefEqProofs [putAll, hp1, go_sem, -List.set_cons_succ, -List.set_cons_zero]
  refine qcall_read ceu rfl hf (zu (i := 1) rfl) ?_
  simp -implicitDefEqProofs [go_sem, -List.set_cons_succ, -List.set_cons_zero]
  refine call_loc (J := [1]) (markTermS_calls u (by omega) g1 1 (by omega) (by omega) vu) (fun r H' ⟨h1, h2⟩ => by subst h1; subst h2; exact ⟨rfl, rfl⟩) rfl (.cons (.c .d) (.cons (.c .d) .nil)) (by simp) rfl rfl ?_
  rintro _ _ ⟨rfl, rfl⟩ _
  simp -implicitDefEqProofs [putAll, go_sem, -List.set_cons_succ, -List.set_cons_zero]
  have zg : ∀ {H : Heap}, H[1]? = some (.tree vu ((mTms 1 u).map Tm.row)) → FzL H [] [.c (.d (.v vu)), .c (.d (.int .i64 1))] [.c (.d (.sl ((mTms 1 u).map Tm.row))), .c (.d (.int .i64 1))] := fun h =>
    .cons (.c (.tree (i := 1) h (by simp))) (.cons (.c .d) .nil)
  refine qcall_read (heldTermS_calls u (by omega) g1 1 (by omega) (by omega) []) rfl hf (zg rfl) ?_
  simp -implicitDefEqProofs [hp2, go_sem, -List.set_cons_succ, -List.set_cons_zero]
  refine qcall_pure ctc hf rfl ?_
  simp -implicitDefEqProofs [go_sem, -List.set_cons_succ, -List.set_cons_zero]
  refine call_loc (J := []) ci (fun r H' h => h.handed) rfl (.cons (.c .d) .nil) List.nodup_nil rfl rfl ?_
  rintro _ _ ⟨vh, rfl, rfl⟩ _
  simp -implicitDefEqProofs [putAll, go_sem, -List.set_cons_succ, -List.set_cons_zero]
  refine qcall_read ceu rfl hf (zu (i := 2) rfl) ?_
  simp -implicitDefEqProofs [go_sem, -List.set_cons_succ, -List.set_cons_zero]
  refine qcall_read (heldTermS_calls u (by omega) g1 1 (by omega) (by omega) []) rfl hf (zg rfl) ?_
  simp -implicitDefEqProofs [hp2, go_sem, -List.set_cons_succ, -List.set_cons_zero]
theorem law_run5 (rows : List (List D)) (hr : HasTys Try.prog (#[22] : Array TypeId).toList rows) : ACalls Try.prog 5 (argsA Try.prog (#[22] : Array TypeId).toList rows) [] (fun r _ => r = .c (.d (.bool true))) := by
  obtain ⟨r, rs, rfl, h1, h2⟩ := hr.cons
  obtain rfl := h2.nil
  obtain ⟨p, rfl, hb, hl⟩ := clauses_ty h1
  simp only [argsA, argA, Try.underlying22, List.headD_cons]
  exact uxLaw_calls p hb hl
namespace fnExactUnknownGoals
theorem own : ownKnob Try.prog.godebug = none := by kernel_rfl
theorem contract (H : Type) (enc : TypeId × Value → H) (W : World) (base : Nat) (args : Array Value) (ds gs : List (DataW H)) (before : List MemPlace)
    (hval : ∀ (j : Nat) t v, Try.f5.params[j]? = some t → args[j]? = some v → Value.okWide Try.prog W .any base t v)
    (hW : DataW.Whole enc Try.prog Try.f5.params.toList Rows.fnExactUnknownGoalsSpec.vars false W args.toList ds gs before)
    (hw : (DataW.weightsEach Try.prog (Try.f5.params.toList ++ Rows.fnExactUnknownGoalsSpec.plain.varTypes Try.prog) (ds ++ gs)).all (· ≤ reachBytes) = true) :
    Calls Try.prog 5 args W fun e W' => ∃ v, e = .returned v ∧ Rows.fnExactUnknownGoalsSpec.post enc Try.prog Try.f5 false true false false W args v W' := by
  refine law_contract (L := [3, 9, 44, 29, 46, 22]) (tb := 4) (by kernel_rfl) (by kernel_rfl) (by kernel_rfl) rfl ?_ (by kernel_rfl) Try.underlying4 ?_ W base args ds gs before hval hW hw
  · intro ds hl
    match ds, hl with
    | [d0], _ => rfl
  · intro rows hr
    rw [Try.params5] at hr ⊢
    exact law_run5 rows hr

theorem lifted (os : Os) (started : os.Started) (H : Type) (enc : TypeId × Value → H) :
    ReturnsInHanded {} Try.checked os 5 .any (Rows.fnExactUnknownGoalsSpec.pre6 enc Try.prog Try.f5 Rows.fnExactUnknownGoalsRow.domain false) (Rows.fnExactUnknownGoalsSpec.post enc Try.prog Try.f5 false true false false) := by
  refine returnsInHanded_of_change_sized (C := Try.checked) own started (by kernel_rfl) Try.func5
    (ChangeSpec.witness6 (enc := enc) (C := Try.checked) false ⟨#[], #[.slice none 0 0], []⟩ 8 (by kernel_rfl) (by kernel_rfl) (by kernel_rfl) (by kernel_rfl)) ?_
  intro W base args ds gs before hval hW _ hw _
  exact contract H enc W base args ds gs before hval hW hw

theorem proved : Rows.FnExactUnknownGoalsSaid :=
  OpenClaim.holds_of_wide 5 Try.f5 rfl rfl rfl rfl rfl rfl rfl ⟨rfl, rfl, rfl, rfl, rfl⟩ rfl rfl rfl rfl rfl (by kernel_rfl) Try.func5 (by kernel_rfl)
    (of_decide_eq_true (by kernel_rfl)) (by unfold Func.isWrapper; first | (rw [if_pos (by decide +kernel)]; kernel_rfl) | (rw [if_neg (by decide +kernel)]; exact ⟨rfl, rfl⟩))
    (fun os started H enc _ => lifted os started H enc)
end fnExactUnknownGoals

end Go.Proofs.Ytoipdmomgjdnaaa
