/-
  The law FnCodeSlots holds: the code of a clause takes few slots.
  Conditions: none.
-/
import Derived.Test.YteighafofbohcaaGreatBundD
open Go Go.AM Go.Proofs
attribute [local go_sem] kw ew sw tw a_ b_ c_ A.ok A.val d_ e_ f_ g_ h_ i_ j_ k_ l_ m_ unA unD n_ AOp.total o_ p_ q_ r_ s_ t_ u_ v_ A.thaw C.thaw A.fits As.fits C.fits evs oks w_ A.pure C.pure A.re C.re x_ y_ cut A.cells C.rows? z_ A_ B_ C_ D_ Ob.re Cs.fits E_ F_ G_ H_ I_ J_ K_ L_ M_ N_ O_ C.toD P_ Q_ R_ S_ T_ Obs.fits U_ eqD V_ W_ X_ Y_ Z_
open Go Go.AM Go.Proofs
namespace Go.Proofs.YteighafofbohcaaGreat
open Go.ChangeShapes Go.WideShapes Go.ChangeAt Go.RowKit
set_option linter.unusedVariables false
set_option linter.unusedSimpArgs false
set_option maxRecDepth 100000
-- 4 loop.example/prologserver/laws.FnCodeSlots params 2 ntmps 83
-- loop head live: [5,9,10,11]
def ac4 : Cd := .seq (.region [⟨(some 4),.mv (.k (.c (.d (.bool false)))),none⟩] [4])
 (.seq (.seq (.region [⟨(some 12),.mv (.t 0),none⟩,
 ⟨(some 13),.len 1 (.t 12),none⟩,
 ⟨(some 14),.bin .gtr (.t 13) (.k (.c (.d (.int .i64 1048576)))),none⟩,
 ⟨(some 15),.mv (.t 14),none⟩,
 ⟨(some 16),.mv (.t 1),some (15,false)⟩,
 ⟨(some 17),.len 1 (.t 16),some (15,false)⟩,
 ⟨(some 18),.bin .gtr (.t 17) (.k (.c (.d (.int .i64 1048576)))),some (15,false)⟩,
 ⟨(some 19),.pick (.t 15) (.k (.c (.d (.bool true)))) (.t 18),none⟩] [12,13,14,15,16,17,18])
 (.cond (.t 19)
 (.seq (.region [⟨(some 4),.mv (.k (.c (.d (.bool true)))),none⟩] [0,1,19])
 (.ret))
 (.skip)))
 (.seq (.region [⟨(some 20),.mv (.t 0),none⟩,
 ⟨(some 21),.call false 5 [(.t 20)],none⟩,
 ⟨(some 5),.alloc [(.d (.int .i64 0)),(.d (.int .i64 0)),(.d (.str [])),(.full []),(.full [])],none⟩,
 ⟨none,.store 5 (.t 5) (.t 21),none⟩] [0,4,19,20,21])
 (.seq (.region [⟨(some 22),.mv (.t 1),none⟩,
 ⟨(some 23),.call false 9 [(.t 22)],none⟩,
 ⟨(some 6),.mv (.t 23),none⟩] [1,22,23])
 (.seq (.region [⟨(some 25),.load (some 5) (.t 5),none⟩,
 ⟨(some 26),.qcall 6 [(.t 25)],none⟩,
 ⟨(some 24),.mv (.t 26),none⟩,
 ⟨(some 27),.extract 0 (.t 24),none⟩,
 ⟨(some 28),.extract 1 (.t 24),none⟩,
 ⟨(some 7),.mv (.t 27),none⟩,
 ⟨(some 8),.mv (.t 28),none⟩] [24,25,26,27,28])
 (.seq (.region [⟨(some 29),.mv (.t 7),none⟩,
 ⟨(some 30),.qcall 10 [(.t 29)],none⟩,
 ⟨(some 9),.mv (.t 30),none⟩] [29,30])
 (.seq (.seq (.region [⟨(some 31),.mv (.t 6),none⟩,
 ⟨(some 32),.qcall 10 [(.t 31)],none⟩,
 ⟨(some 33),.mv (.t 6),none⟩,
 ⟨(some 34),.qcall 11 [(.t 33)],none⟩,
 ⟨(some 35),.bin .neq (.t 32) (.t 34),none⟩,
 ⟨(some 36),.mv (.t 35),none⟩,
 ⟨(some 37),.mv (.t 9),some (36,false)⟩,
 ⟨(some 38),.mv (.t 7),some (36,false)⟩,
 ⟨(some 39),.qcall 11 [(.t 38)],some (36,false)⟩,
 ⟨(some 40),.bin .neq (.t 37) (.t 39),some (36,false)⟩,
 ⟨(some 41),.pick (.t 36) (.k (.c (.d (.bool true)))) (.t 40),none⟩,
 ⟨(some 42),.mv (.t 41),none⟩,
 ⟨(some 43),.mv (.t 8),some (42,false)⟩,
 ⟨(some 44),.un .not (.t 43),some (42,false)⟩,
 ⟨(some 45),.pick (.t 42) (.k (.c (.d (.bool true)))) (.t 44),none⟩] [8,31,32,33,34,35,36,37,38,39,40,41,42,43,44])
 (.cond (.t 45)
 (.seq (.region [⟨(some 46),.mv (.t 6),none⟩,
 ⟨(some 47),.qcall 10 [(.t 46)],none⟩,
 ⟨(some 48),.mv (.t 6),none⟩,
 ⟨(some 49),.qcall 11 [(.t 48)],none⟩,
 ⟨(some 50),.bin .eql (.t 47) (.t 49),none⟩,
 ⟨(some 51),.mv (.t 50),none⟩,
 ⟨(some 52),.mv (.t 9),some (51,true)⟩,
 ⟨(some 53),.mv (.t 7),some (51,true)⟩,
 ⟨(some 54),.qcall 11 [(.t 53)],some (51,true)⟩,
 ⟨(some 55),.bin .eql (.t 52) (.t 54),some (51,true)⟩,
 ⟨(some 56),.pick (.t 51) (.t 55) (.k (.c (.d (.bool false)))),none⟩,
 ⟨(some 4),.mv (.t 56),none⟩] [5,6,7,9,45,46,47,48,49,50,51,52,53,54,55,56])
 (.ret))
 (.skip)))
 (.seq (.region [⟨(some 57),.fieldAddr 0 (.t 5),none⟩,
 ⟨(some 58),.load (some 4) (.t 57),none⟩,
 ⟨(some 59),.qcall 12 [(.t 58)],none⟩,
 ⟨(some 10),.mv (.t 59),none⟩] [4,6,7,45,57,58,59])
 (.seq (.seq (.region [⟨(some 11),.mv (.k (.c (.d (.int .i64 0)))),none⟩] [])
 (.block 0 (.loop (.seq (.seq (.region [⟨(some 60),.mv (.t 11),none⟩,
 ⟨(some 61),.fieldAddr 4 (.t 5),none⟩,
 ⟨(some 62),.load none (.t 61),none⟩,
 ⟨(some 63),.len 1 (.t 62),none⟩,
 ⟨(some 64),.bin .lss (.t 60) (.t 63),none⟩] [60,61,62,63])
 (.cond (.t 64)
 (.skip)
 (.exit 0)))
 (.seq (.block 1 (.region [⟨(some 67),.mv (.t 10),none⟩,
 ⟨(some 68),.fieldAddr 4 (.t 5),none⟩,
 ⟨(some 69),.load none (.t 68),none⟩,
 ⟨(some 70),.mv (.t 11),none⟩,
 ⟨(some 71),.indexAddr 4 (.t 69) (.t 70),none⟩,
 ⟨(some 72),.load (some 4) (.t 71),none⟩,
 ⟨(some 73),.qcall 12 [(.t 72)],none⟩,
 ⟨(some 74),.bin .add (.t 67) (.t 73),none⟩,
 ⟨(some 10),.mv (.t 74),none⟩] [64,67,68,69,70,71,72,73,74]))
 (.region [⟨(some 65),.mv (.t 11),none⟩,
 ⟨(some 66),.bin .add (.t 65) (.k (.c (.d (.int .i64 1)))),none⟩,
 ⟨(some 11),.mv (.t 66),none⟩] [65,66]))))))
 (.seq (.region [⟨(some 75),.mv (.t 9),none⟩,
 ⟨(some 76),.bin .geq (.t 75) (.k (.c (.d (.int .i64 4)))),none⟩,
 ⟨(some 77),.mv (.t 76),none⟩,
 ⟨(some 78),.mv (.t 9),some (77,true)⟩,
 ⟨(some 79),.mv (.t 10),some (77,true)⟩,
 ⟨(some 80),.bin .add (.k (.c (.d (.int .i64 4)))) (.t 79),some (77,true)⟩,
 ⟨(some 81),.bin .leq (.t 78) (.t 80),some (77,true)⟩,
 ⟨(some 82),.pick (.t 77) (.t 81) (.k (.c (.d (.bool false)))),none⟩,
 ⟨(some 4),.mv (.t 82),none⟩] [9,10,75,76,77,78,79,80,81,82])
 (.ret))))))))))
theorem ac4_ok : cFunc Tryz.prog [1000006,1000010,1000011,1000012] [(0,[4],[]),(1,[12,13,14,15,16,17,18],[]),(2,[0,1,19],[]),(3,[0,4,19,20,21],[]),(4,[1,22,23],[]),(5,[24,25,26,27,28],[]),(6,[29,30],[]),(7,[8,31,32,33,34,35,36,37,38,39,40,41,42,43,44],[]),(8,[5,6,7,9,45,46,47,48,49,50,51,52,53,54,55,56],[]),(9,[4,6,7,45,57,58,59],[]),(10,[],[]),(11,[60,61,62,63],[]),(13,[64,67,68,69,70,71,72,73,74],[]),(12,[65,66],[]),(14,[9,10,75,76,77,78,79,80,81,82],[])] Tryz.f4 = some (ac4,[.tmp 4],83) := by kernel_rfl
theorem slots_le {K : Int} : ∀ (L : List Ins) (n : Int), n ≤ K → (∀ x ∈ L, x.slot < K) → L.foldl Ins.next n ≤ K
  | [], n, h, _ => h
  | x :: L, n, h, hx => by
    have h1 := hx x (by simp)
    refine slots_le L _ ?_ fun y hy => hx y (by simp [hy])
    unfold Ins.next
    split
    · split <;> omega
    · exact h
theorem slots_ge {L : List Ins} (hx : ∀ x ∈ L, x.ab) : inR .i64 (slotsOf L) ∧ 4 ≤ slotsOf L := by
  have := fold_i64 L hx L.length
  rwa [List.take_length] at this
theorem cslLaw_calls (c e : List UInt8) (hc : c.length ≤ reachBytes) (he : e.length ≤ reachBytes) : ACalls Tryz.prog 4 [.c (.d (.sl (bytesRows c))), .c (.d (.sl (bytesRows e)))] [] (fun r _ => r = .c (.d (.bool true))) := by
  refine acalls Tryz.func4 (by kernel_rfl) ac4_ok fun hf => ?_
  have hli := reach_i64 hc
  have hei := reach_i64 he
  by_cases hc1 : 1048576 < c.length
  · have hc1' : (1048576 : Int) < c.length := by omega
    simp -implicitDefEqProofs [ac4, hli, hei, hc1, hc1', bytesRows_len, go_sem, -List.set_cons_succ, -List.set_cons_zero]
  by_cases he1 : 1048576 < e.length
  · have he1' : (1048576 : Int) < e.length := by omega
    have hc1' : ¬ (1048576 : Int) < c.length := by omega
    simp -implicitDefEqProofs [ac4, hli, hei, hc1, hc1', he1, he1', bytesRows_len, go_sem, -List.set_cons_succ, -List.set_cons_zero]
  have hc1' : ¬ (1048576 : Int) < c.length := by omega
  have he1' : ¬ (1048576 : Int) < e.length := by omega
  simp -implicitDefEqProofs [ac4, hli, hei, hc1, hc1', he1, he1', bytesRows_len, go_sem, -List.set_cons_succ, -List.set_cons_zero]
  refine call_some (drawCc_calls c (by omega) _) (by simp) (fun r => ClR.re) hf ?_
  rintro _ ⟨⟨⟨k, n, s, l⟩, b⟩, rfl, hd, hdl⟩
  simp -implicitDefEqProofs [Cl.row, Tm.k, Tm.n, Tm.s, Tm.kids, hf, go_sem, -List.set_cons_succ, -List.set_cons_zero]
  refine call_some (drawCs_calls e (by omega) _) (by simp [Ob.re, C.re]) (fun r => CodeR.re) hf ?_
  rintro _ ⟨L, rfl, hL, hLx⟩
  have ci := ccImpl_calls _ hd
  simp only [Cl.row, Tm.k, Tm.n, Tm.s, Tm.kids, List.map_cons, List.map_nil] at ci
  simp -implicitDefEqProofs [hf, go_sem, -List.set_cons_succ, -List.set_cons_zero]
  refine qcall_pure ci hf (by simp [A.re, A.res, C.re]) ?_
  have hLr : L.length ≤ reachBytes := by simp only [reachBytes]; omega
  have iL := implCs_calls L hLr hLx
  have sL := specCs_calls L hLr hLx
  obtain ⟨gL, _⟩ := slots_ge hLx
  obtain ⟨W, hW, hWl, hWx, hWs⟩ : ∃ W : List Ins, (if Cl.validB ⟨.mk k n s l, b⟩ = true then codeC ⟨.mk k n s l, b⟩ else []) = W.map Ins.row ∧ W.length ≤ 1000000 ∧ (∀ x ∈ W, x.ab) ∧ (Cl.validB ⟨.mk k n s l, b⟩ = true → ∀ x ∈ W, x.slot < 4 + sizes l + sizes b) := by
    cases hv : Cl.validB ⟨.mk k n s l, b⟩ with
    | false => exact ⟨[], by simp, by simp, by simp, by simp⟩
    | true =>
      obtain ⟨W, h1, h2⟩ := code_slots hd hv
      obtain ⟨BB, hB, hfit⟩ := codeC_fit _ hv
      have hcl : (codeC ⟨.mk k n s l, b⟩).length ≤ _ := hfit.code
      exact ⟨W, by simpa using h1, by rw [h1] at hcl; simp at hcl; omega, fun x hx => (h2 x hx).2, fun _ x hx => (h2 x hx).1⟩
  rw [hW]
  have hWr : W.length ≤ reachBytes := by simp only [reachBytes]; omega
  have iW := implCs_calls W hWr hWx
  have sW := specCs_calls W hWr hWx
  obtain ⟨gW, gW4⟩ := slots_ge hWx
  simp -implicitDefEqProofs [hf, go_sem, -List.set_cons_succ, -List.set_cons_zero]
  refine qcall_pure iW hf rfl ?_
  simp -implicitDefEqProofs [hf, go_sem, -List.set_cons_succ, -List.set_cons_zero]
  refine qcall_pure iL hf rfl ?_
  simp -implicitDefEqProofs [hf, go_sem, -List.set_cons_succ, -List.set_cons_zero]
  refine qcall_pure sL hf rfl ?_
  simp -implicitDefEqProofs [hf, go_sem, -List.set_cons_succ, -List.set_cons_zero]
  refine qcall_pure sW hf rfl ?_
  cases hv : Cl.validB ⟨.mk k n s l, b⟩ with
  | false =>
    simp -implicitDefEqProofs [hf, go_sem, -List.set_cons_succ, -List.set_cons_zero]
    refine qcall_pure iL hf rfl ?_
    simp -implicitDefEqProofs [hf, go_sem, -List.set_cons_succ, -List.set_cons_zero]
    refine qcall_pure sL hf rfl ?_
    simp -implicitDefEqProofs [hf, go_sem, -List.set_cons_succ, -List.set_cons_zero]
    refine qcall_pure sW hf rfl ?_
    simp -implicitDefEqProofs [hf, go_sem, -List.set_cons_succ, -List.set_cons_zero]
  | true =>
    obtain ⟨v1, v2, v3⟩ := Cl.validB.parts hv
    simp only at v1 v2 v3
    have cn := cn_calls _ hd.head v1
    rw [row_mk] at cn
    simp only [List.map_cons, List.map_nil] at cn
    simp -implicitDefEqProofs [hf, go_sem, -List.set_cons_succ, -List.set_cons_zero]
    refine qcall_pure cn hf rfl ?_
    have hsz : (Tm.mk k n s l).size ≤ 120 := by
      simp only [Tm.valid, Bool.and_eq_true, decide_eq_true_eq] at v1
      exact v1.2
    have hbz : ∀ t ∈ b, t.size ≤ 120 := fun t ht => by
      have := v3 t ht
      simp only [Tm.valid, Bool.and_eq_true, decide_eq_true_eq] at this
      exact this.2
    have hbl : inR .i64 (b.length : Int) := small_i64 (by omega) (by omega)
    simp -implicitDefEqProofs [hf, go_sem, -List.set_cons_succ, -List.set_cons_zero]
    refine loop_set (σ := Nat) (fun i => [(11, .c (.d (.int .i64 i))), (10, .c (.d (.int .i64 ((Tm.mk k n s l).size + sizes (b.take i) : Nat))))]) (fun _ => []) (fun _ => [.cells [.d (.int .i64 k), .d (.int .i64 n), .d (.str s), .d (.sl (l.map Tm.row)), .d (.sl (b.map Tm.row))]]) (fun i => i ≤ b.length) (fun i => b.length - i) 0 (by simp [setAll, sizes]) (Nat.zero_le _) ?_
    intro i hi
    have hbs : sizes (b.take i) ≤ 720 := by
      have h1 := sizes_of (l := b.take i) (n := 120) fun t ht => hbz t (List.mem_of_mem_take ht)
      have h2 : (b.take i).length ≤ 6 := by simp; omega
      omega
    simp -implicitDefEqProofs [setAll, hbl, go_sem, -List.set_cons_succ, -List.set_cons_zero]
    refine ⟨fun hlt => ?_, fun hge => ?_⟩
    · have hadd : inR .i64 ((i : Int) + 1) := small_i64 (by omega) (by omega)
      have hti := hbz _ (List.getElem_mem hlt)
      have hst := sizes_take hlt
      have hsum : inR .i64 (((Tm.mk k n s l).size : Int) + (sizes (b.take i) : Int) + (b[i].size : Int)) := small_i64 (by omega) (by omega)
      refine row_of hlt (row_len _) ?_
      simp -implicitDefEqProofs [row_len, take_row, pure_d, re_d, hf, go_sem, -List.set_cons_succ, -List.set_cons_zero]
      refine qcall_pure (cn_calls b[i] (hd.body _ (List.getElem_mem hlt)) (v3 _ (List.getElem_mem hlt))) hf rfl ?_
      simp -implicitDefEqProofs [hadd, hsum, hf, go_sem, -List.set_cons_succ, -List.set_cons_zero]
      refine loop_back (i + 1) ?_ hlt (by show b.length - (i + 1) < b.length - i; omega)
      simp [setAll, hst, Int.add_assoc]
    · obtain rfl : i = b.length := by omega
      have h4 : slotsOf W ≤ 4 + (sizes l : Int) + sizes b := slots_le W 4 (by omega) (hWs hv)
      have h5 : (Tm.mk k n s l).size = 1 + sizes l := by rw [Tm.size]
      have hadd4 : inR .i64 (4 + (((Tm.mk k n s l).size : Int) + (sizes b : Int))) := by
        rw [List.take_length] at hbs
        exact small_i64 (by omega) (by omega)
      simp -implicitDefEqProofs [hadd4, go_sem, -List.set_cons_succ, -List.set_cons_zero]
      exact ⟨gW4, by omega⟩
theorem law_run4 (rows : List (List D)) (hr : HasTys Tryz.prog (#[22, 22] : Array TypeId).toList rows) : ACalls Tryz.prog 4 (argsA Tryz.prog (#[22, 22] : Array TypeId).toList rows) [] (fun r _ => r = .c (.d (.bool true))) := by
  obtain ⟨r, rs, rfl, h1, h2⟩ := hr.cons
  obtain ⟨r2, rs2, rfl, h3, h4⟩ := h2.cons
  obtain rfl := h4.nil
  obtain ⟨s, rfl, hs⟩ := bytes_ty h1
  obtain ⟨s2, rfl, hs2⟩ := bytes_ty h3
  simp only [argsA, argA, Tryz.underlying22, List.headD_cons]
  exact cslLaw_calls s s2 hs hs2
namespace fnCodeSlots
theorem own : ownKnob Tryz.prog.godebug = none := by kernel_rfl
theorem contract (H : Type) (enc : TypeId × Value → H) (W : World) (base : Nat) (args : Array Value) (ds gs : List (DataW H)) (before : List MemPlace)
    (hval : ∀ (j : Nat) t v, Tryz.f4.params[j]? = some t → args[j]? = some v → Value.okWide Tryz.prog W .any base t v)
    (hW : DataW.Whole enc Tryz.prog Tryz.f4.params.toList Rows.fnCodeSlotsSpec.vars false W args.toList ds gs before)
    (hw : (DataW.weightsEach Tryz.prog (Tryz.f4.params.toList ++ Rows.fnCodeSlotsSpec.plain.varTypes Tryz.prog) (ds ++ gs)).all (· ≤ reachBytes) = true) :
    Calls Tryz.prog 4 args W fun e W' => ∃ v, e = .returned v ∧ Rows.fnCodeSlotsSpec.post enc Tryz.prog Tryz.f4 false true false false W args v W' := by
  refine law_contract (L := [5, 22]) (tb := 4) (by kernel_rfl) (by kernel_rfl) (by kernel_rfl) rfl ?_ (by kernel_rfl) Tryz.underlying4 ?_ W base args ds gs before hval hW hw
  · intro ds hl
    match ds, hl with
    | [d0, d1], _ => rfl
  · intro rows hr
    rw [Tryz.params4] at hr ⊢
    exact law_run4 rows hr

theorem lifted (os : Os) (started : os.Started) (H : Type) (enc : TypeId × Value → H) :
    ReturnsInHanded {} Tryz.checked os 4 .any (Rows.fnCodeSlotsSpec.pre6 enc Tryz.prog Tryz.f4 Rows.fnCodeSlotsRow.domain false) (Rows.fnCodeSlotsSpec.post enc Tryz.prog Tryz.f4 false true false false) := by
  refine returnsInHanded_of_change_sized (C := Tryz.checked) own started (by kernel_rfl) Tryz.func4
    (ChangeSpec.witness6 (enc := enc) (C := Tryz.checked) false ⟨#[], #[.slice none 0 0, .slice none 0 0], []⟩ 8 (by kernel_rfl) (by kernel_rfl) (by kernel_rfl) (by kernel_rfl)) ?_
  intro W base args ds gs before hval hW _ hw _
  exact contract H enc W base args ds gs before hval hW hw

theorem proved : Rows.FnCodeSlotsSaid :=
  OpenClaim.holds_of_wide 4 Tryz.f4 rfl rfl rfl rfl rfl rfl rfl ⟨rfl, rfl, rfl, rfl, rfl⟩ rfl rfl rfl rfl rfl (by kernel_rfl) Tryz.func4 (by kernel_rfl)
    (of_decide_eq_true (by kernel_rfl)) (by unfold Func.isWrapper; first | (rw [if_pos (by decide +kernel)]; kernel_rfl) | (rw [if_neg (by decide +kernel)]; exact ⟨rfl, rfl⟩))
    (fun os started H enc _ => lifted os started H enc)
end fnCodeSlots

end Go.Proofs.YteighafofbohcaaGreat
