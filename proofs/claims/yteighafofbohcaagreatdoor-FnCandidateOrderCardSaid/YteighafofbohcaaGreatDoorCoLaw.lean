/-
  The card FnCandidateOrder holds: candidates are in the order of the program.
  Conditions: none.
-/
import Derived.Test.YteighafofbohcaaGreatDoorBundB
import Derived.Test.YteighafofbohcaaGreatDoorBundD
import Derived.Test.YteighafofbohcaaGreatDoorBundA
import Derived.Test.YteighafofbohcaaGreatDoorCards
import Derived.Test.YteighafofbohcaaGreatDoorTie
import Derived.ProofKit
import Derived.OpenShut
import Derived.Stop.Joined
import Derived.SevenTiedAt
open Go Go.AM Go.Proofs
attribute [local go_sem] kw ew sw tw a_ b_ c_ A.ok A.val d_ e_ f_ g_ h_ i_ j_ k_ l_ m_ unA unD n_ AOp.total o_ p_ q_ r_ s_ t_ u_ v_ A.thaw C.thaw A.fits As.fits C.fits evs oks w_ A.pure C.pure A.re C.re x_ y_ cut A.cells C.rows? z_ A_ B_ C_ a0_ b0_ D_ Ob.re Cs.fits E_ F_ G_ H_ I_ J_ K_ L_ M_ N_ O_ C.toD P_ Q_ R_ S_ T_ Obs.fits U_ eqD V_ W_ X_ Y_ Z_
open Go Go.AM Go.Proofs
namespace Go.Proofs.YteighafofbohcaaGreatDoor
open Go.ChangeShapes Go.WideShapes Go.ChangeAt Go.WideElems Go.RowKit
set_option linter.unusedVariables false
set_option linter.unusedSimpArgs false
set_option maxRecDepth 100000
-- 8 loop.example/prologserver/laws.pgInts params 2 ntmps 26
-- loop head live: [0,1,5]
def ac8 : Cd := .seq (.region [⟨(some 4),.mv (.k (.c (.d (.bool false)))),none⟩] [4])
 (.seq (.seq (.region [⟨(some 6),.mv (.t 0),none⟩,
 ⟨(some 7),.len 1 (.t 6),none⟩,
 ⟨(some 8),.mv (.t 1),none⟩,
 ⟨(some 9),.len 1 (.t 8),none⟩,
 ⟨(some 10),.bin .neq (.t 7) (.t 9),none⟩] [6,7,8,9])
 (.cond (.t 10)
 (.seq (.region [⟨(some 4),.mv (.k (.c (.d (.bool false)))),none⟩] [0,1,10])
 (.ret))
 (.skip)))
 (.seq (.seq (.region [⟨(some 5),.mv (.k (.c (.d (.int .i64 0)))),none⟩] [4,10])
 (.block 0 (.loop (.seq (.seq (.region [⟨(some 11),.mv (.t 5),none⟩,
 ⟨(some 12),.mv (.t 0),none⟩,
 ⟨(some 13),.len 1 (.t 12),none⟩,
 ⟨(some 14),.bin .lss (.t 11) (.t 13),none⟩] [11,12,13])
 (.cond (.t 14)
 (.skip)
 (.exit 0)))
 (.seq (.block 1 (.seq (.region [⟨(some 17),.mv (.t 0),none⟩,
 ⟨(some 18),.mv (.t 5),none⟩,
 ⟨(some 19),.indexAddr 1 (.t 17) (.t 18),none⟩,
 ⟨(some 21),.mv (.t 1),none⟩,
 ⟨(some 22),.mv (.t 5),none⟩,
 ⟨(some 23),.indexAddr 1 (.t 21) (.t 22),none⟩,
 ⟨(some 20),.load none (.t 19),none⟩,
 ⟨(some 24),.load none (.t 23),none⟩,
 ⟨(some 25),.bin .neq (.t 20) (.t 24),none⟩] [14,17,18,19,20,21,22,23,24])
 (.cond (.t 25)
 (.seq (.region [⟨(some 4),.mv (.k (.c (.d (.bool false)))),none⟩] [0,1,5,25])
 (.ret))
 (.skip))))
 (.region [⟨(some 15),.mv (.t 5),none⟩,
 ⟨(some 16),.bin .add (.t 15) (.k (.c (.d (.int .i64 1)))),none⟩,
 ⟨(some 5),.mv (.t 16),none⟩] [4,15,16,25]))))))
 (.seq (.region [⟨(some 4),.mv (.k (.c (.d (.bool true)))),none⟩] [])
 (.ret))))
theorem ac8_ok : cFunc Tryz.prog [] [(0,[4],[]),(1,[6,7,8,9],[]),(2,[0,1,10],[]),(3,[4,10],[]),(4,[11,12,13],[]),(6,[14,17,18,19,20,21,22,23,24],[0,1,2,4,5,6,3,7,8]),(7,[0,1,5,25],[]),(5,[4,15,16,25],[]),(8,[],[])] Tryz.f8 = some (ac8,[.tmp 4],26) := by kernel_rfl
-- 3 loop.example/prologserver/laws.FnCandidateOrder params 1 ntmps 45
-- loop head live: [3,5,6]
def ac3 : Cd := .seq (.region [⟨(some 2),.mv (.k (.c (.d (.bool false)))),none⟩] [2])
 (.seq (.seq (.region [⟨(some 7),.mv (.t 0),none⟩,
 ⟨(some 8),.len 1 (.t 7),none⟩,
 ⟨(some 9),.bin .gtr (.t 8) (.k (.c (.d (.int .i64 1048576)))),none⟩] [7,8])
 (.cond (.t 9)
 (.seq (.region [⟨(some 2),.mv (.k (.c (.d (.bool true)))),none⟩] [0,9])
 (.ret))
 (.skip)))
 (.seq (.region [⟨(some 11),.mv (.t 0),none⟩,
 ⟨(some 12),.call false 6 [(.t 11)],none⟩,
 ⟨(some 10),.mv (.t 12),none⟩,
 ⟨(some 13),.extract 0 (.t 10),none⟩,
 ⟨(some 14),.extract 1 (.t 10),none⟩,
 ⟨(some 4),.alloc [(.d (.int .i64 0)),(.d (.int .i64 0)),(.d (.str [])),(.full [])],none⟩,
 ⟨(some 3),.mv (.t 13),none⟩,
 ⟨none,.store 4 (.t 4) (.t 14),none⟩] [0,2,9,10,11,12,13,14])
 (.seq (.region [⟨(some 15),.mv (.t 3),none⟩,
 ⟨(some 16),.load (some 4) (.t 4),none⟩,
 ⟨(some 17),.qcall 7 [(.t 15),(.t 16)],none⟩,
 ⟨(some 5),.mv (.t 17),none⟩] [15,16,17])
 (.seq (.seq (.region [⟨(some 18),.mv (.t 5),none⟩,
 ⟨(some 19),.mv (.t 3),none⟩,
 ⟨(some 20),.load (some 4) (.t 4),none⟩,
 ⟨(some 21),.qcall 9 [(.t 19),(.t 20)],none⟩,
 ⟨(some 22),.qcall 8 [(.t 18),(.t 21)],none⟩,
 ⟨(some 23),.un .not (.t 22),none⟩] [4,18,19,20,21,22])
 (.cond (.t 23)
 (.seq (.region [⟨(some 2),.mv (.k (.c (.d (.bool false)))),none⟩] [3,5,23])
 (.ret))
 (.skip)))
 (.seq (.seq (.region [⟨(some 6),.mv (.k (.c (.d (.int .i64 1)))),none⟩] [2,23])
 (.block 0 (.loop (.seq (.seq (.region [⟨(some 24),.mv (.t 6),none⟩,
 ⟨(some 25),.mv (.t 5),none⟩,
 ⟨(some 26),.len 1 (.t 25),none⟩,
 ⟨(some 27),.bin .lss (.t 24) (.t 26),none⟩] [24,25,26])
 (.cond (.t 27)
 (.skip)
 (.exit 0)))
 (.seq (.block 1 (.seq (.region [⟨(some 30),.mv (.t 5),none⟩,
 ⟨(some 31),.mv (.t 6),none⟩,
 ⟨(some 32),.bin .sub (.t 31) (.k (.c (.d (.int .i64 1)))),none⟩,
 ⟨(some 33),.indexAddr 1 (.t 30) (.t 32),none⟩,
 ⟨(some 35),.mv (.t 5),none⟩,
 ⟨(some 36),.mv (.t 6),none⟩,
 ⟨(some 37),.indexAddr 1 (.t 35) (.t 36),none⟩,
 ⟨(some 34),.load none (.t 33),none⟩,
 ⟨(some 38),.load none (.t 37),none⟩,
 ⟨(some 39),.bin .geq (.t 34) (.t 38),none⟩] [27,30,31,32,33,34,35,36,37,38])
 (.cond (.t 39)
 (.seq (.region [⟨(some 2),.mv (.k (.c (.d (.bool false)))),none⟩] [3,5,6,39])
 (.ret))
 (.skip))))
 (.region [⟨(some 28),.mv (.t 6),none⟩,
 ⟨(some 29),.bin .add (.t 28) (.k (.c (.d (.int .i64 1)))),none⟩,
 ⟨(some 6),.mv (.t 29),none⟩] [2,28,29,39]))))))
 (.seq (.region [⟨(some 40),.mv (.t 5),none⟩,
 ⟨(some 41),.len 1 (.t 40),none⟩,
 ⟨(some 42),.mv (.t 3),none⟩,
 ⟨(some 43),.len 1 (.t 42),none⟩,
 ⟨(some 44),.bin .leq (.t 41) (.t 43),none⟩,
 ⟨(some 2),.mv (.t 44),none⟩] [3,5,40,41,42,43,44])
 (.ret)))))))
theorem ac3_ok : cFunc Tryz.prog [1000007,1000008,1000009] [(0,[2],[]),(1,[7,8],[]),(2,[0,9],[]),(3,[0,2,9,10,11,12,13,14],[]),(4,[15,16,17],[]),(5,[4,18,19,20,21,22],[]),(6,[3,5,23],[]),(7,[2,23],[]),(8,[24,25,26],[]),(10,[27,30,31,32,33,34,35,36,37,38],[0,1,2,3,5,6,7,4,8,9]),(11,[3,5,6,39],[]),(9,[2,28,29,39],[]),(12,[3,5,40,41,42,43,44],[])] Tryz.f3 = some (ac3,[.tmp 2],45) := by kernel_rfl
theorem forI_sorted (p : List Cl) (g : Tm) : ∀ i, (forI p g i).Pairwise (· < ·) ∧ ∀ x ∈ forI p g i, x < i
  | 0 => by simp [forI]
  | i + 1 => by
    obtain ⟨h1, h2⟩ := forI_sorted p g i
    rw [forI]
    cases p[i]? with
    | none => simp; exact ⟨h1, fun x hx => by have := h2 x hx; omega⟩
    | some c =>
      simp only
      split
      · refine ⟨List.pairwise_append.2 ⟨h1, by simp, fun a ha b hb => by simp at hb; subst hb; exact h2 a ha⟩, fun x hx => ?_⟩
        rcases List.mem_append.1 hx with hx | hx
        · have := h2 x hx; omega
        · simp at hx; omega
      · simp; exact ⟨h1, fun x hx => by have := h2 x hx; omega⟩
theorem candB_ok (p : List Cl) (t : Tm) : (candB p t).Pairwise (· < ·) ∧ (candB p t).length ≤ p.length := by
  have h1 : (forB p t).Pairwise (· < ·) := by
    unfold forB
    split
    · exact (forI_sorted p t _).1
    · exact .nil
  have h2 := (forB_ok p t).1
  have h3 := keepI_len (strikeK p t.key) (forB p t)
  exact ⟨h1.filter _, by unfold candB fitL; omega⟩
theorem pgInts_calls (l : List Int) (hl : l.length ≤ 1048576) (H : Heap) : ACalls Tryz.prog 8 [.c (.d (.sl (intRows l))), .c (.d (.sl (intRows l)))] H (fun r H' => H' = H ∧ r = .c (.d (.bool true))) := by
  have hli : inR .i64 (l.length : Int) := small_i64 (by omega) (by omega)
  refine acalls Tryz.func8 (by kernel_rfl) ac8_ok fun hf => ?_
  simp -implicitDefEqProofs [ac8, intRows_len, hli, go_sem, -List.set_cons_succ, -List.set_cons_zero]
  refine loop_set (σ := Nat) (fun i => [(5, .c (.d (.int .i64 i)))]) (fun _ => H) (fun _ => []) (fun i => i ≤ l.length) (fun i => l.length - i) 0 rfl (Nat.zero_le _) ?_
  intro i hi
  simp -implicitDefEqProofs [setAll, intRows_len, hli, go_sem, -List.set_cons_succ, -List.set_cons_zero]
  intro hlt
  have hadd : inR .i64 ((i : Int) + 1) := small_i64 (by omega) (by omega)
  refine row_int [.int .i64 l[i]] (by omega) (by simp [intRows, hlt]) rfl ?_
  simp -implicitDefEqProofs [go_sem, -List.set_cons_succ, -List.set_cons_zero]
  refine row_int [.int .i64 l[i]] (by omega) (by simp [intRows, hlt]) rfl ?_
  simp -implicitDefEqProofs [hadd, go_sem, -List.set_cons_succ, -List.set_cons_zero]
  exact loop_back (i + 1) (by simp [setAll]) hlt (by show l.length - (i + 1) < l.length - i; omega)
theorem coLaw_calls {g : Nat} {o : Obj} (hT : Tab g o) (s : List UInt8) (hs : s.length ≤ reachBytes) (H : Heap) (hH : H[0]? = some (.tab g o)) :
    ACalls Tryz.prog 3 [.c (.d (.sl (bytesRows s)))] H (fun r H' => H' = H ∧ r = .c (.d (.bool true))) := by
  refine acalls Tryz.func3 (by kernel_rfl) ac3_ok fun hf => ?_
  have hsl := reach_i64 hs
  simp -implicitDefEqProofs [ac3, hsl, bytesRows_len, hf, go_sem, -List.set_cons_succ, -List.set_cons_zero]
  intro hs1
  refine call_some (drawCa_calls s (by omega) _) (by simp [Ob.re, C.re]) (fun r => PgGoalR.re) hf ?_
  rintro _ ⟨p, t, rfl, ⟨hp, hpf⟩, ht⟩
  have hpp : FitsC p := ⟨by omega, hpf⟩
  obtain ⟨k1, k2⟩ := candB_ok p t
  simp -implicitDefEqProofs [row_len, take_row, pure_d, re_d, hf, splice_all, cut_all, go_sem, -List.set_cons_succ, -List.set_cons_zero]
  refine qcall_tab (candI_calls hT p hpp t ht) hf hH rfl ?_
  simp -implicitDefEqProofs [row_len, take_row, pure_d, re_d, hf, splice_all, cut_all, go_sem, -List.set_cons_succ, -List.set_cons_zero]
  refine qcall_pure (candS_calls p hpp t ht) hf rfl ?_
  simp -implicitDefEqProofs [row_len, take_row, pure_d, re_d, hf, splice_all, cut_all, go_sem, -List.set_cons_succ, -List.set_cons_zero]
  generalize candB p t = l at k1 k2
  have hli : inR .i64 (l.length : Int) := small_i64 (by omega) (by omega)
  have hpi : inR .i64 (p.length : Int) := small_i64 (by omega) (by omega)
  refine qcall_pure (pgInts_calls l (by omega)) hf rfl ?_
  simp -implicitDefEqProofs [go_sem, -List.set_cons_succ, -List.set_cons_zero]
  refine loop_set (σ := Nat) (fun i => [(6, .c (.d (.int .i64 ((i : Int) + 1))))]) (fun _ => H) (fun _ => [.cells (t.row.map .d)]) (fun i => i ≤ l.length) (fun i => l.length - i) 0 (by simp [setAll]) (Nat.zero_le _) ?_
  intro i hi
  simp -implicitDefEqProofs [setAll, intRows_len, hli, hpi, go_sem, -List.set_cons_succ, -List.set_cons_zero]
  refine ⟨fun hlt => ?_, fun hge => by omega⟩
  have hlt : i + 1 < l.length := by omega
  have hadd : inR .i64 ((i : Int) + 1 + 1) := small_i64 (by omega) (by omega)
  have hsub : inR .i64 (i : Int) := small_i64 (by omega) (by omega)
  have hlt2 : l[i] < l[i + 1] := List.pairwise_iff_getElem.1 k1 i (i + 1) (by omega) hlt (by omega)
  refine ⟨hsub, row_int [.int .i64 l[i]] (by omega) (by simp [intRows, show i < l.length by omega]) rfl ?_⟩
  simp -implicitDefEqProofs [go_sem, -List.set_cons_succ, -List.set_cons_zero]
  refine row_int [.int .i64 l[i + 1]] (by omega) (by rw [show ((i : Int) + 1).toNat = i + 1 by omega]; simp [intRows, hlt]) rfl ?_
  have hnlt : ¬ l[i + 1] ≤ l[i] := by omega
  simp -implicitDefEqProofs [hadd, hnlt, go_sem, -List.set_cons_succ, -List.set_cons_zero]
  exact loop_back (i + 1) (by simp [setAll]) (by show i + 1 ≤ l.length; omega) (by show l.length - (i + 1) < l.length - i; omega)
theorem law_run3 {g : Nat} {o : Obj} (hT : Tab g o) (rows : List (List D)) (hr : HasTys Tryz.prog (#[22] : Array TypeId).toList rows) : ACalls Tryz.prog 3 (argsA Tryz.prog (#[22] : Array TypeId).toList rows) [.tab g o] (fun r H' => H' = [.tab g o] ∧ r = .c (.d (.bool true))) := by
  obtain ⟨r, rs, rfl, h1, h2⟩ := hr.cons
  obtain rfl := h2.nil
  obtain ⟨s, rfl, hs⟩ := bytes_ty h1
  simp only [argsA, argA, Tryz.underlying22, List.headD_cons]
  exact coLaw_calls hT s hs _ rfl
namespace fnCandidateOrder
theorem own : ownKnob Tryz.prog.godebug = none := by kernel_rfl
theorem door_met (os : Os) (args : Array Value) : laidMetH Tryz.prog laid ((World.doorLaid Tryz.prog 400 os).forCall (fun _ _ => 0) ⟨#[], args, []⟩).memory :=
  laidMetH_of_parts3 (fuel := 8) (laidMet_of_run' 8 (by kernel_rfl) (by kernel_rfl)) (by kernel_rfl) (by kernel_rfl)
theorem contract (H : Type) (enc : TypeId × Value → H) (W : World) (base : Nat) (args : Array Value) (ds gs : List (DataW H)) (before : List MemPlace) (hL : laidMetH Tryz.prog laid W)
    (hval : ∀ (j : Nat) t v, Tryz.f3.params[j]? = some t → args[j]? = some v → Value.okWide Tryz.prog W .any base t v)
    (hW : DataW.Whole enc Tryz.prog Tryz.f3.params.toList Rows.fnCandidateOrderSpec.vars false W args.toList ds gs before)
    (hw : (DataW.weightsEach Tryz.prog (Tryz.f3.params.toList ++ Rows.fnCandidateOrderSpec.plain.varTypes Tryz.prog) (ds ++ gs)).all (· ≤ reachBytes) = true) :
    Calls Tryz.prog 3 args W fun e W' => ∃ v, e = .returned v ∧ Rows.fnCandidateOrderSpec.post enc Tryz.prog Tryz.f3 false true false false W args v W' := by
  refine law_contract_tab (T := Tab) (L := [5, 22]) (tb := 4) (by kernel_rfl) (by kernel_rfl) (by kernel_rfl) rfl ?_ (by kernel_rfl) Tryz.underlying4 ?_ W base args ds gs before (tab_laid hL) hval hW hw
  · intro ds hl
    match ds, hl with
    | [d0], _ => rfl
  · intro g o hT rows hr
    rw [Tryz.params3] at hr ⊢
    exact law_run3 hT rows hr

theorem lifted (os : Os) (started : os.Started) (H : Type) (enc : TypeId × Value → H) :
    ReturnsInHanded {} Tryz.checked os 3 .any (fun w args => (Rows.fnCandidateOrderSpec.pre enc Tryz.prog Tryz.f3 [] false w args ∧ laidMetH Tryz.prog laid w) ∧ sizedMet enc Tryz.prog Tryz.f3 (OpenSpec.ofChange Rows.fnCandidateOrderSpec) false w args)
      (Rows.fnCandidateOrderSpec.post enc Tryz.prog Tryz.f3 false true false false) := by
  refine returnsInHanded_of_change_and (C := Tryz.checked) (X := fun w _ => laidMetH Tryz.prog laid w) (fun _ _ _ hh h => h.of_heap hh) own started (by kernel_rfl) Tryz.func3
    (ChangeSpec.witness_shaped (enc := enc) (C := Tryz.checked) (os := os) (X := fun w _ => laidMetH Tryz.prog laid w) false (World.doorLaid Tryz.prog 400 os) #[.slice none 0 0] 8 rfl (World.shaped_of_RefB (by kernel_rfl) (by kernel_rfl)) (by kernel_rfl) (by kernel_rfl) (by kernel_rfl) (door_met os _)) ?_
  intro W base args ds gs before hval hW _ hw hL _
  exact contract H enc W base args ds gs before hL hval hW hw

theorem said : Rows.FnCandidateOrderSaid :=
  OpenClaim.holds_of_wide 3 Tryz.f3 rfl rfl rfl rfl rfl rfl rfl ⟨rfl, rfl, rfl, rfl, rfl⟩ rfl rfl rfl rfl rfl (by kernel_rfl) Tryz.func3 (by kernel_rfl)
    (of_decide_eq_true (by kernel_rfl)) (by unfold Func.isWrapper; first | (rw [if_pos (by decide +kernel)]; kernel_rfl) | (rw [if_neg (by decide +kernel)]; exact ⟨rfl, rfl⟩))
    (fun os started H enc _ => lifted os started H enc)

theorem proved : Rows.FnCandidateOrderCardSaid :=
  Claim7.holds_tied_plain_at .later [] [.data, .data, .data] true Rows.fnCandidateOrderCard.stood.harness false
    said (fun _ h => by cases h) (by kernel_rfl) (fun _ h => by cases h) fnCandidateOrder_row_tie rfl ⟨rfl, rfl⟩ (by kernel_rfl) rfl
    (fun f fn hf hfn => by
      obtain rfl : f = 3 := Option.some.inj ((show Tryz.prog.funcNamed Rows.fnCandidateOrderRow.func = some 3 by kernel_rfl).symm.trans hf) |>.symm
      obtain rfl : fn = Tryz.f3 := (Option.some.inj (Tryz.func3.symm.trans hfn)).symm
      exact ⟨by kernel_rfl, fun j t ht => by
        rw [Tryz.params3] at ht
        have hall : (Tryz.f3.params.toList.all fun u => !Tryz.prog.wantsStandIn u) = true := by kernel_rfl
        have hm : t ∈ Tryz.f3.params.toList := by
          rw [Tryz.params3]
          simpa using Array.mem_of_getElem? ht
        exact (show Tryz.prog.wantsStandIn t = false by simpa using List.all_eq_true.1 hall t hm)⟩)
    (by kernel_rfl)
end fnCandidateOrder

end Go.Proofs.YteighafofbohcaaGreatDoor
