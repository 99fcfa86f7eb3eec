/-
  Contracts of functions that the law reaches, and plain lemmas: several texts in one.
  Conditions: none.
-/
import Derived.Test.YteighafofbohcaaGreatDoorBundC
import Derived.Test.YteighafofbohcaaGreatDoorBundA
open Go Go.AM Go.Proofs
attribute [local go_sem] kw ew sw tw a_ b_ c_ A.ok A.val d_ e_ f_ g_ h_ i_ j_ k_ l_ m_ unA unD n_ AOp.total o_ p_ q_ r_ s_ t_ u_ v_ A.thaw C.thaw A.fits As.fits C.fits evs oks w_ A.pure C.pure A.re C.re x_ y_ cut A.cells C.rows? z_ A_ B_ C_ a0_ b0_ D_ Ob.re Cs.fits E_ F_ G_ H_ I_ J_ K_ L_ M_ N_ O_ C.toD P_ Q_ R_ S_ T_ Obs.fits U_ eqD V_ W_ X_ Y_ Z_
/-
  Programs and goals that are drawn for the laws of candidates.
  Conditions: none.
-/
open Go Go.AM Go.Proofs
namespace Go.Proofs.YteighafofbohcaaGreatDoor
open Go.ChangeShapes Go.WideShapes Go.ChangeAt Go.RowKit
set_option linter.unusedVariables false
set_option linter.unusedSimpArgs false
set_option maxRecDepth 100000
-- 50 loop.example/prologserver/spec.l4MutateAll params 2 ntmps 40
-- loop head live: [0,1,5,6]
-- loop head live: [5]
def ac50 : Cd := .seq (.region [⟨(some 4),.mv (.k (.c (.full []))),none⟩] [4])
 (.seq (.region [⟨(some 7),.buildSlice 5 0 [(.int .i64 0),(.int .i64 0),(.str []),(.sl []),(.sl [])] [],none⟩,
 ⟨(some 5),.mv (.t 7),none⟩] [7])
 (.seq (.seq (.region [⟨(some 6),.mv (.k (.c (.d (.int .i64 0)))),none⟩] [])
 (.block 0 (.loop (.seq (.seq (.region [⟨(some 8),.mv (.t 6),none⟩,
 ⟨(some 9),.mv (.t 1),none⟩,
 ⟨(some 10),.len 1 (.t 9),none⟩,
 ⟨(some 11),.bin .lss (.t 8) (.t 10),none⟩] [8,9,10])
 (.cond (.t 11)
 (.skip)
 (.exit 0)))
 (.seq (.block 1 (.region [⟨(some 14),.mv (.t 5),none⟩,
 ⟨(some 15),.mv (.t 0),none⟩,
 ⟨(some 16),.mv (.t 1),none⟩,
 ⟨(some 17),.mv (.t 6),none⟩,
 ⟨(some 18),.indexAddr 5 (.t 16) (.t 17),none⟩,
 ⟨(some 19),.load (some 5) (.t 18),none⟩,
 ⟨(some 20),.call false 88 [(.t 15),(.t 19)],none⟩,
 ⟨(some 21),.buildSlice 5 1 [(.int .i64 0),(.int .i64 0),(.str []),(.sl []),(.sl [])] [(0,(.t 20))],none⟩,
 ⟨(some 22),.append false 5 (.t 14) (.t 21),none⟩,
 ⟨(some 5),.mv (.t 22),none⟩] [11,14,15,16,17,18,19,20,21,22]))
 (.region [⟨(some 12),.mv (.t 6),none⟩,
 ⟨(some 13),.bin .add (.t 12) (.k (.c (.d (.int .i64 1)))),none⟩,
 ⟨(some 6),.mv (.t 13),none⟩] [12,13]))))))
 (.seq (.seq (.region [⟨(some 23),.mv (.t 0),none⟩,
 ⟨(some 24),.call false 20 [(.t 23),(.k (.c (.d (.int .i64 30))))],none⟩] [0,23])
 (.block 2 (.seq (.region [⟨(some 26),.bin .eql (.t 24) (.k (.c (.d (.int .i64 0)))),none⟩,
 ⟨(some 25),.mv (.t 26),none⟩] [26])
 (.cond (.t 25)
 (.block 3 (.loop (.seq (.seq (.region [⟨(some 27),.mv (.t 5),none⟩,
 ⟨(some 28),.len 1 (.t 27),none⟩,
 ⟨(some 29),.bin .leq (.t 28) (.k (.c (.d (.int .i64 20)))),none⟩] [27,28])
 (.cond (.t 29)
 (.skip)
 (.exit 3)))
 (.block 4 (.region [⟨(some 30),.mv (.t 5),none⟩,
 ⟨(some 31),.qcall 56 [(.k (.c (.d (.str [122])))),(.k (.c (.full [])))],none⟩,
 ⟨(some 32),.build [(.d (.int .i64 0)),(.d (.int .i64 0)),(.d (.str [])),(.full []),(.full [])] [(0,4,(.t 31))],none⟩,
 ⟨(some 33),.buildSlice 5 1 [(.int .i64 0),(.int .i64 0),(.str []),(.sl []),(.sl [])] [(0,(.t 32))],none⟩,
 ⟨(some 34),.append false 5 (.t 30) (.t 33),none⟩,
 ⟨(some 5),.mv (.t 34),none⟩] [29,30,31,32,33,34])))))
 (.seq (.region [⟨(some 36),.bin .eql (.t 24) (.k (.c (.d (.int .i64 1)))),none⟩,
 ⟨(some 35),.mv (.t 36),none⟩] [24,25,36])
 (.cond (.t 35)
 (.region [⟨(some 37),.mv (.t 5),none⟩,
 ⟨(some 38),.slice 5 (.t 37) (some (.k (.c (.d (.int .i64 1))))) none none,none⟩,
 ⟨(some 5),.mv (.t 38),none⟩] [35,37,38])
 (.skip)))))))
 (.seq (.region [⟨(some 39),.mv (.t 5),none⟩,
 ⟨(some 4),.mv (.t 39),none⟩] [5,35,39])
 (.ret)))))
theorem ac50_ok : cFunc Tryz.prog [1000056] [(0,[4],[]),(1,[7],[]),(2,[],[]),(3,[8,9,10],[]),(5,[11,14,15,16,17,18,19,20,21,22],[]),(4,[12,13],[]),(6,[0,23],[]),(7,[26],[]),(8,[27,28],[]),(9,[29,30,31,32,33,34],[]),(10,[24,25,36],[]),(11,[35,37,38],[]),(12,[5,35,39],[])] Tryz.f50 = some (ac50,[.tmp 4],40) := by kernel_rfl
-- 18 loop.example/prologserver/spec.DrawClausesFor params 1 ntmps 36
def ac18 : Cd := .seq (.region [⟨(some 2),.mv (.k (.c (.full []))),none⟩,
 ⟨(some 3),.alloc [(.d (.int .i64 0)),(.d (.int .i64 0)),(.d (.str [])),(.full [])],none⟩] [2])
 (.seq (.region [⟨(some 6),.mv (.t 0),none⟩,
 ⟨(some 7),.call false 19 [(.t 6)],none⟩,
 ⟨(some 4),.mv (.t 7),none⟩] [0,6,7])
 (.seq (.region [⟨(some 8),.mv (.t 4),none⟩,
 ⟨(some 9),.mv (.t 4),none⟩,
 ⟨(some 10),.call false 51 [(.t 9)],none⟩,
 ⟨(some 11),.call false 50 [(.t 8),(.t 10)],none⟩,
 ⟨(some 5),.mv (.t 11),none⟩] [8,9,10,11])
 (.seq (.seq (.region [⟨(some 12),.mv (.t 5),none⟩,
 ⟨(some 13),.len 1 (.t 12),none⟩,
 ⟨(some 14),.bin .eql (.t 13) (.k (.c (.d (.int .i64 0)))),none⟩,
 ⟨(some 15),.mv (.t 14),none⟩,
 ⟨(some 16),.mv (.t 4),some (15,false)⟩,
 ⟨(some 17),.call false 20 [(.t 16),(.k (.c (.d (.int .i64 4))))],some (15,false)⟩,
 ⟨(some 18),.bin .eql (.t 17) (.k (.c (.d (.int .i64 0)))),some (15,false)⟩,
 ⟨(some 19),.pick (.t 15) (.k (.c (.d (.bool true)))) (.t 18),none⟩] [12,13,14,15,16,17,18])
 (.cond (.t 19)
 (.seq (.region [⟨(some 20),.mv (.t 5),none⟩,
 ⟨(some 21),.mv (.t 4),none⟩,
 ⟨(some 22),.mv (.t 4),none⟩,
 ⟨(some 23),.call false 53 [(.t 22)],none⟩,
 ⟨(some 24),.call false 52 [(.t 21),(.t 23)],none⟩,
 ⟨(some 2),.mv (.t 20),none⟩,
 ⟨none,.store 4 (.t 3) (.t 24),none⟩] [4,5,19,20,21,22,23,24])
 (.ret))
 (.skip)))
 (.seq (.region [⟨(some 25),.mv (.t 5),none⟩,
 ⟨(some 26),.mv (.t 4),none⟩,
 ⟨(some 27),.mv (.t 5),none⟩,
 ⟨(some 28),.mv (.t 4),none⟩,
 ⟨(some 29),.mv (.t 5),none⟩,
 ⟨(some 30),.len 1 (.t 29),none⟩,
 ⟨(some 31),.call false 20 [(.t 28),(.t 30)],none⟩,
 ⟨(some 32),.indexAddr 5 (.t 27) (.t 31),none⟩,
 ⟨(some 33),.fieldAddr 0 (.t 32),none⟩,
 ⟨(some 34),.load (some 4) (.t 33),none⟩,
 ⟨(some 35),.call false 52 [(.t 26),(.t 34)],none⟩,
 ⟨(some 2),.mv (.t 25),none⟩,
 ⟨none,.store 4 (.t 3) (.t 35),none⟩] [4,5,19,25,26,27,28,29,30,31,32,33,34,35])
 (.ret)))))
theorem ac18_ok : cFunc Tryz.prog [] [(0,[2],[]),(1,[0,6,7],[]),(2,[8,9,10,11],[]),(3,[12,13,14,15,16,17,18],[]),(4,[4,5,19,20,21,22,23,24],[]),(5,[4,5,19,25,26,27,28,29,30,31,32,33,34,35],[])] Tryz.f18 = some (ac18,[.tmp 2,.cell 3 (some 4)],36) := by kernel_rfl
def ClsR (n : Nat) (r : A) : Prop := ∃ p : List Cl, r = .c (.d (.sl (p.map Cl.row))) ∧ p.length ≤ n ∧ ∀ c ∈ p, c.fits
theorem ClsR.re {m n : Nat} {r : A} (h : ClsR m r) : A.re n r = r := by
  obtain ⟨l, rfl, _⟩ := h
  rfl
def clZ : Cl := ⟨.mk 3 0 [122] [], []⟩
theorem clZ_fits : clZ.fits := ⟨fits_st (by decide) (by simp) (by simp), by simp [clZ], by simp [clZ]⟩
theorem mutAllC_draws (l : List Cl) (hl : 1 ≤ l.length ∧ l.length ≤ 20) (hft : ∀ c ∈ l, c.fits ∧ c.body.length ≤ 900) : Draws 50 [.c (.d (.sl (l.map Cl.row)))] 26000 (ClsR 21) := fun c p H i hc hp hp1 hi => by
  refine acalls Tryz.func50 (by kernel_rfl) ac50_ok fun hf => ?_
  simp only [List.length_set] at hf
  have hf0 : ∀ q, Obs.fits H.length 0 (H.set i (Rd c q)) := fun q => fits_reset (b := Rd c q) hf ⟨trivial, trivial, trivial⟩
  have hf1 : ∀ q, Obs.fits (H.set i (Rd c q)).length 0 (H.set i (Rd c q)) := fun q => by simpa using hf0 q
  have hli : inR .i64 (l.length : Int) := small_i64 (by omega) (by omega)
  simp -implicitDefEqProofs [ac50, hf0, go_sem, -List.set_cons_succ, -List.set_cons_zero]
  refine loop_enter (St.le_token 5 5 rfl) ?_
  refine loop_set (σ := Nat × List Cl × Int) (fun x => [(6, .c (.d (.int .i64 x.1))), (5, .c (.own (.l 0) x.2.1.length (x.2.1.map Cl.row)))]) (fun x => H.set i (Rd c x.2.2)) (fun x => [.grow x.2.1.length 5])
    (fun x => x.1 ≤ l.length ∧ x.2.1.length = x.1 ∧ p ≤ x.2.2 ∧ x.2.2 ≤ p + 1284 * x.1 ∧ ∀ t ∈ x.2.1, t.fits) (fun x => l.length - x.1) (0, [], p) (by simp [setAll]) ⟨Nat.zero_le _, rfl, Int.le_refl _, by simp, by simp⟩ ?_
  rintro ⟨k, out, q⟩ ⟨hk, hol, hq1, hq2, hout⟩
  simp only at hk hol hq1 hq2 hout
  simp -implicitDefEqProofs [setAll, hli, hf0, go_sem, -List.set_cons_succ, -List.set_cons_zero]
  refine ⟨fun hlt => ?_, fun hge => ?_⟩
  · have hadd : inR .i64 ((k : Int) + 1) := small_i64 (by omega) (by omega)
    obtain ⟨hcf, hcb⟩ := hft _ (List.getElem_mem hlt)
    refine row_of hlt rfl ?_
    simp -implicitDefEqProofs [crow_len, hf0, go_sem, -List.set_cons_succ, -List.set_cons_zero]
    rw [show (l[k].row.map C.d).take 5 = l[k].row.map C.d from rfl]
    refine call_drawE (mutC_draws l[k] hcf hcb) hc (by omega) (by omega) hi (by simp [Ob.re, C.re]) (fun r => ClR.re) (hf0 _) ?_
    rintro _ q2 ⟨t, rfl, ht, _⟩ h5 h6
    simp -implicitDefEqProofs [hadd, crow_len, toDs_map, hf0, go_sem, -List.set_cons_succ, -List.set_cons_zero]
    refine ⟨allLen_map crow_len, by unfold maxApp; omega, ?_⟩
    refine loop_back (k + 1, out ++ [t], q2) (by simp [setAll]) ⟨hlt, by simp; omega, by dsimp only; omega, by dsimp only; omega, fun x hx => ?_⟩ (by show l.length - (k + 1) < l.length - k; omega)
    rcases List.mem_append.1 hx with hx | hx
    · exact hout x hx
    · simp at hx; subst hx; exact ht
  · refine call_drawE (pick_draws 30 (by omega)) hc (by omega) (by omega) hi (by simp [Ob.re, C.re]) (fun r => IntIn.re) (hf0 _) ?_
    rintro _ q2 ⟨m, rfl, m0, m1⟩ h5 h6
    have done : ∀ (out : List Cl), out.length ≤ 21 → (∀ t ∈ out, t.fits) → ∀ r, r = .c (.d (.sl (out.map Cl.row))) → Drew (ClsR 21) 26000 c p H i r (H.set i (Rd c q2)) := fun out a1 a2 r hr => ⟨⟨out, hr, a1, a2⟩, q2, by omega, by omega, rfl⟩
    simp -implicitDefEqProofs [hf0, go_sem, -List.set_cons_succ, -List.set_cons_zero]
    refine ⟨fun h0 => ?_, fun h0 => ⟨fun h1 => ⟨allLen_map crow_len, by omega, ?_⟩, fun h1 => done out (by omega) hout _ rfl⟩⟩
    · refine loop_set (σ := List Cl) (fun x => [(5, .c (.own (.l 0) x.length (x.map Cl.row)))]) (fun x => H.set i (Rd c q2)) (fun x => [.grow x.length 5]) (fun x => x.length ≤ 21 ∧ ∀ t ∈ x, t.fits) (fun x => 21 - x.length) out (by simp [setAll]) ⟨by omega, hout⟩ ?_
      rintro x ⟨hx, hxf⟩
      have hxl : inR .i64 (x.length : Int) := small_i64 (by omega) (by omega)
      simp -implicitDefEqProofs [setAll, hxl, hf0, go_sem, -List.set_cons_succ, -List.set_cons_zero]
      have hst := struct_calls [122] [] (by simp)
      simp only [List.map_nil] at hst
      refine ⟨fun hlt => ?_, fun hge => ?_⟩
      · refine qcall_pure hst (hf1 _) (by simp [A.re, re_d]) ?_
        simp -implicitDefEqProofs [row_mk, hf0, go_sem, -List.set_cons_succ, -List.set_cons_zero]
        refine ⟨allLen_map crow_len, by unfold maxApp; omega, ?_⟩
        refine loop_back (x ++ [clZ]) (by simp [setAll, clZ, Cl.row, Tm.k, Tm.n, Tm.s, Tm.kids]) ⟨by simp; omega, fun t ht => ?_⟩ (by show 21 - (x ++ [clZ]).length < 21 - x.length; simp; omega)
        rcases List.mem_append.1 ht with ht | ht
        · exact hxf t ht
        · simp at ht; subst ht; exact clZ_fits
      · exact done x hx hxf _ rfl
    · refine done out.tail (by simp; omega) (fun t ht => hout t (List.mem_of_mem_tail ht)) _ (by rw [List.map_tail])
/-- a program and a goal -/
def PgGoalR (r : A) : Prop := ∃ (p : List Cl) (t : Tm), r = .tup [.c (.d (.sl (p.map Cl.row))), .agg (t.row.map .d)] ∧ (p.length ≤ 21 ∧ ∀ c ∈ p, c.fits) ∧ t.fits
theorem PgGoalR.re {n : Nat} {r : A} (h : PgGoalR r) : A.re n r = r := by
  obtain ⟨p, t, rfl, _⟩ := h
  simp [A.re, A.res, C.re, re_d]
theorem valid_body {c : Cl} (h : c.validB = true) : c.body.length ≤ 900 := by
  simp only [Cl.validB, Bool.and_eq_true, goalsB, decide_eq_true_eq] at h
  omega
theorem drawCf_calls (c : List UInt8) (hc : c.length ≤ 1048576) (H : Heap) : ACalls Tryz.prog 18 [.c (.d (.sl (bytesRows c)))] H (fun r H' => H' = H ∧ PgGoalR r) := by
  refine acalls Tryz.func18 (by kernel_rfl) ac18_ok fun hf => ?_
  simp -implicitDefEqProofs [ac18, hf, go_sem, -List.set_cons_succ, -List.set_cons_zero]
  refine (open_calls c hc _).mono fun r H' ⟨h1, c', hc', h2⟩ => ⟨H, [.cells [.d (.int .i64 0), .d (.int .i64 0), .d (.str []), .full []], Rd c' 0], .c (.ptr (.l 1) 0), by rw [h2]; simp [Rd, Ob.re, C.re], rfl, by simp, hf, by rw [h1]; simp [A.re, C.re, Ref.re], ?_⟩
  simp -implicitDefEqProofs [hf, go_sem, -List.set_cons_succ, -List.set_cons_zero]
  refine call_drawL (j := 1) program_draws hc' (by omega) (by omega) rfl (by simp [Rd, Ob.re, C.re]) (fun r => PgR.re) hf ?_
  rintro _ p1 ⟨l, rfl, hl1, hl5, hft⟩ h3 h4
  simp -implicitDefEqProofs [hf, go_sem, -List.set_cons_succ, -List.set_cons_zero]
  refine call_drawL (j := 1) (mutAllC_draws l ⟨hl1, by omega⟩ fun c hcm => ⟨(hft c hcm).1, valid_body (hft c hcm).2⟩) hc' (by omega) (by omega) rfl (by simp [Rd, Ob.re, C.re]) (fun r => ClsR.re) hf ?_
  rintro _ p2 ⟨q, rfl, hq, hqf⟩ h5 h6
  have hqi : inR .i64 (q.length : Int) := small_i64 (by omega) (by omega)
  simp -implicitDefEqProofs [hf, hqi, go_sem, -List.set_cons_succ, -List.set_cons_zero]
  refine ⟨fun hne => ⟨hne, ?_⟩, fun he => ?_⟩
  · refine call_drawL (j := 1) (pick_draws 4 (by omega)) hc' (by omega) (by omega) rfl (by simp [Rd, Ob.re, C.re]) (fun r => IntIn.re) hf ?_
    rintro _ p3 ⟨m, rfl, m0, m1⟩ g1 g2
    have hql : 1 ≤ q.length := by cases q with | nil => exact absurd rfl hne | cons a l => simp
    have hne0 : ((q.length : Int) == 0) = false := by simp; omega
    simp -implicitDefEqProofs [hf, hqi, hne, hne0, go_sem, -List.set_cons_succ, -List.set_cons_zero]
    refine ⟨fun hm0 => ?_, fun hm0 => ?_⟩
    · refine call_drawL (j := 1) l1Some_draws hc' (by omega) (by omega) rfl (by simp [Rd, Ob.re, C.re]) (fun r => TmR.re) hf ?_
      rintro _ p4 ⟨t, rfl, ht⟩ g3 g4
      simp -implicitDefEqProofs [row_len, take_row, pure_d, re_d, hf, go_sem, -List.set_cons_succ, -List.set_cons_zero]
      refine call_drawL (j := 1) (l1Mutate_draws t ht) hc' (by omega) (by omega) rfl (by simp [Rd, Ob.re, C.re]) (fun r => TmR.re) hf ?_
      rintro _ p5 ⟨t2, rfl, ht2⟩ g5 g6
      simp -implicitDefEqProofs [row_len, take_row, pure_d, re_d, thaw_d, fits_map, hf, splice_all, cut_all, go_sem, -List.set_cons_succ, -List.set_cons_zero]
      exact ⟨q, t2, rfl, ⟨hq, hqf⟩, ht2⟩
    · refine call_drawL (j := 1) (pick_draws q.length (by omega)) hc' (by omega) (by omega) rfl (by simp [Rd, Ob.re, C.re]) (fun r => IntIn.re) hf ?_
      rintro _ p4 ⟨k, rfl, k0, k1⟩ g3 g4
      have hkl : k.toNat < q.length := by omega
      simp -implicitDefEqProofs [hf, go_sem, -List.set_cons_succ, -List.set_cons_zero]
      refine row_int q[k.toNat].row k0 (by simp [hkl]) rfl ?_
      simp -implicitDefEqProofs [Cl.row, hf, go_sem, -List.set_cons_succ, -List.set_cons_zero]
      have hd := l1Mutate_draws q[k.toNat].head (hqf _ (List.getElem_mem hkl)).head
      rw [row_eq] at hd
      simp only [List.map_cons, List.map_nil] at hd
      refine call_drawL (j := 1) hd hc' (by omega) (by omega) rfl (by simp [Rd, Ob.re, C.re]) (fun r => TmR.re) hf ?_
      rintro _ p5 ⟨t2, rfl, ht2⟩ g5 g6
      simp -implicitDefEqProofs [row_len, take_row, pure_d, re_d, thaw_d, fits_map, hf, splice_all, cut_all, go_sem, -List.set_cons_succ, -List.set_cons_zero]
      exact ⟨q, t2, rfl, ⟨hq, hqf⟩, ht2⟩
  · refine call_drawL (j := 1) l1Some_draws hc' (by omega) (by omega) rfl (by simp [Rd, Ob.re, C.re]) (fun r => TmR.re) hf ?_
    rintro _ p4 ⟨t, rfl, ht⟩ g3 g4
    simp -implicitDefEqProofs [row_len, take_row, pure_d, re_d, hf, go_sem, -List.set_cons_succ, -List.set_cons_zero]
    refine call_drawL (j := 1) (l1Mutate_draws t ht) hc' (by omega) (by omega) rfl (by simp [Rd, Ob.re, C.re]) (fun r => TmR.re) hf ?_
    rintro _ p5 ⟨t2, rfl, ht2⟩ g5 g6
    simp -implicitDefEqProofs [row_len, take_row, pure_d, re_d, thaw_d, fits_map, hf, splice_all, cut_all, go_sem, -List.set_cons_succ, -List.set_cons_zero]
    exact ⟨q, t2, rfl, ⟨hq, hqf⟩, ht2⟩
end Go.Proofs.YteighafofbohcaaGreatDoor

/-
  What is drawn for the laws of candidates.
  Conditions: none.
-/
open Go Go.AM Go.Proofs
namespace Go.Proofs.YteighafofbohcaaGreatDoor
open Go.ChangeShapes Go.WideShapes Go.ChangeAt Go.RowKit
set_option linter.unusedVariables false
set_option linter.unusedSimpArgs false
set_option maxRecDepth 100000
-- 6 loop.example/prologserver/spec.DrawCandidates params 1 ntmps 32
def ac6 : Cd := .seq (.region [⟨(some 2),.mv (.k (.c (.full []))),none⟩,
 ⟨(some 3),.alloc [(.d (.int .i64 0)),(.d (.int .i64 0)),(.d (.str [])),(.full [])],none⟩] [2])
 (.seq (.region [⟨(some 8),.mv (.t 0),none⟩,
 ⟨(some 9),.call false 18 [(.t 8)],none⟩,
 ⟨(some 7),.mv (.t 9),none⟩,
 ⟨(some 10),.extract 0 (.t 7),none⟩,
 ⟨(some 11),.extract 1 (.t 7),none⟩,
 ⟨(some 5),.alloc [(.d (.int .i64 0)),(.d (.int .i64 0)),(.d (.str [])),(.full [])],none⟩,
 ⟨(some 4),.mv (.t 10),none⟩,
 ⟨none,.store 4 (.t 5) (.t 11),none⟩] [7,8,9,10,11])
 (.seq (.region [⟨(some 12),.mv (.t 0),none⟩,
 ⟨(some 13),.call false 19 [(.t 12)],none⟩,
 ⟨(some 6),.mv (.t 13),none⟩] [0,12,13])
 (.seq (.seq (.region [⟨(some 14),.fieldAddr 3 (.t 5),none⟩,
 ⟨(some 15),.load none (.t 14),none⟩,
 ⟨(some 16),.len 1 (.t 15),none⟩,
 ⟨(some 17),.bin .gtr (.t 16) (.k (.c (.d (.int .i64 0)))),none⟩,
 ⟨(some 18),.mv (.t 17),none⟩,
 ⟨(some 19),.mv (.t 6),some (18,true)⟩,
 ⟨(some 20),.call false 20 [(.t 19),(.k (.c (.d (.int .i64 2))))],some (18,true)⟩,
 ⟨(some 21),.bin .eql (.t 20) (.k (.c (.d (.int .i64 0)))),some (18,true)⟩,
 ⟨(some 22),.pick (.t 18) (.t 21) (.k (.c (.d (.bool false)))),none⟩] [14,15,16,17,18,19,20,21])
 (.cond (.t 22)
 (.seq (.region [⟨(some 23),.load (some 4) (.t 5),none⟩,
 ⟨(some 24),.call false 21 [(.t 23)],none⟩,
 ⟨none,.store 4 (.t 5) (.t 24),none⟩] [22,23,24])
 (.region [⟨(some 25),.fieldAddr 3 (.t 5),none⟩,
 ⟨(some 27),.mv (.t 6),none⟩,
 ⟨(some 26),.loadL false none (.t 25),none⟩,
 ⟨(some 28),.callL false false 22 [(.t 27),(.k (.c (.d (.int .i64 2))))],none⟩,
 ⟨(some 29),.indexAddr 4 (.t 26) (.k (.c (.d (.int .i64 0)))),none⟩,
 ⟨none,.store 4 (.t 29) (.t 28),none⟩] [6,25,26,27,28,29]))
 (.skip)))
 (.seq (.region [⟨(some 30),.mv (.t 4),none⟩,
 ⟨(some 2),.mv (.t 30),none⟩,
 ⟨(some 31),.load (some 4) (.t 5),none⟩,
 ⟨none,.store 4 (.t 3) (.t 31),none⟩] [4,5,6,22,30,31])
 (.ret)))))
theorem ac6_ok : cFunc Tryz.prog [5000025,6000022] [(0,[2],[]),(1,[7,8,9,10,11],[]),(2,[0,12,13],[]),(3,[14,15,16,17,18,19,20,21],[]),(4,[22,23,24],[]),(5,[6,25,26,27,28,29],[0,2,1,3,4,5]),(6,[4,5,6,22,30,31],[0,2,1,3])] Tryz.f6 = some (ac6,[.tmp 2,.cell 3 (some 4)],32) := by kernel_rfl
-- 10 loop.example/prologserver/spec.DrawDeterminate params 1 ntmps 30
def ac10 : Cd := .seq (.region [⟨(some 2),.mv (.k (.c (.full []))),none⟩,
 ⟨(some 3),.mv (.k (.c (.d (.str [])))),none⟩,
 ⟨(some 4),.mv (.k (.c (.d (.int .i64 0)))),none⟩] [2,3,4])
 (.seq (.region [⟨(some 9),.mv (.t 0),none⟩,
 ⟨(some 10),.call false 18 [(.t 9)],none⟩,
 ⟨(some 8),.mv (.t 10),none⟩,
 ⟨(some 11),.extract 0 (.t 8),none⟩,
 ⟨(some 12),.extract 1 (.t 8),none⟩,
 ⟨(some 6),.alloc [(.d (.int .i64 0)),(.d (.int .i64 0)),(.d (.str [])),(.full [])],none⟩,
 ⟨(some 5),.mv (.t 11),none⟩,
 ⟨none,.store 4 (.t 6) (.t 12),none⟩] [8,9,10,11,12])
 (.seq (.region [⟨(some 13),.mv (.t 0),none⟩,
 ⟨(some 14),.call false 19 [(.t 13)],none⟩,
 ⟨(some 7),.mv (.t 14),none⟩] [0,13,14])
 (.seq (.seq (.region [⟨(some 15),.mv (.t 7),none⟩,
 ⟨(some 16),.call false 20 [(.t 15),(.k (.c (.d (.int .i64 8))))],none⟩,
 ⟨(some 17),.bin .eql (.t 16) (.k (.c (.d (.int .i64 0)))),none⟩] [15,16])
 (.cond (.t 17)
 (.seq (.region [⟨(some 18),.mv (.t 5),none⟩,
 ⟨(some 19),.fieldAddr 2 (.t 6),none⟩,
 ⟨(some 21),.mv (.t 7),none⟩,
 ⟨(some 22),.buildSlice 1 4 [(.int .i64 0)] [(0,(.k (.c (.d (.int .i64 (-1)))))),(1,(.k (.c (.d (.int .i64 5))))),(2,(.k (.c (.d (.int .i64 0))))),(3,(.k (.c (.d (.int .i64 2)))))],none⟩,
 ⟨(some 20),.loadL false none (.t 19),none⟩,
 ⟨(some 23),.callL false false 29 [(.t 21),(.t 22)],none⟩,
 ⟨(some 2),.mv (.t 18),none⟩,
 ⟨(some 3),.mv (.t 20),none⟩,
 ⟨(some 4),.mv (.t 23),none⟩] [5,6,7,17,18,19,20,21,22,23])
 (.ret))
 (.skip)))
 (.seq (.region [⟨(some 24),.mv (.t 5),none⟩,
 ⟨(some 25),.fieldAddr 2 (.t 6),none⟩,
 ⟨(some 27),.fieldAddr 3 (.t 6),none⟩,
 ⟨(some 2),.mv (.t 24),none⟩,
 ⟨(some 26),.load none (.t 25),none⟩,
 ⟨(some 3),.mv (.t 26),none⟩,
 ⟨(some 28),.load none (.t 27),none⟩,
 ⟨(some 29),.len 1 (.t 28),none⟩,
 ⟨(some 4),.mv (.t 29),none⟩] [5,6,7,17,24,25,26,27,28,29])
 (.ret)))))
theorem ac10_ok : cFunc Tryz.prog [5000019,6000029] [(0,[2,3,4],[]),(1,[8,9,10,11,12],[]),(2,[0,13,14],[]),(3,[15,16],[]),(4,[5,6,7,17,18,19,20,21,22,23],[0,1,3,4,2,5,6,7,8]),(5,[5,6,7,17,24,25,26,27,28,29],[0,1,3,6,2,7,4,5,8])] Tryz.f10 = some (ac10,[.tmp 2,.tmp 3,.tmp 4],30) := by kernel_rfl
theorem drawCa_calls (c : List UInt8) (hc : c.length ≤ 1048576) (H : Heap) : ACalls Tryz.prog 6 [.c (.d (.sl (bytesRows c)))] H (fun r H' => H' = H ∧ PgGoalR r) := by
  refine acalls Tryz.func6 (by kernel_rfl) ac6_ok fun hf => ?_
  simp -implicitDefEqProofs [ac6, hf, go_sem, -List.set_cons_succ, -List.set_cons_zero]
  refine call_some (drawCf_calls c hc _) (by simp [Ob.re, C.re]) (fun r => PgGoalR.re) hf ?_
  rintro _ ⟨p, ⟨k, n, s, l⟩, rfl, hp, ht⟩
  have hfits := ht
  obtain ⟨hk, hn, hs, hl, hkids⟩ := ht
  have hli : inR .i64 (l.length : Int) := small_i64 (by omega) (by omega)
  simp -implicitDefEqProofs [row_mk, hf, splice_all, cut_all, go_sem, -List.set_cons_succ, -List.set_cons_zero]
  refine (open_calls c hc _).mono fun r H' ⟨h1, c', hc', h2⟩ => ⟨H, [.cells [.d (.int .i64 0), .d (.int .i64 0), .d (.str []), .full []], .cells [.d (.int .i64 k), .d (.int .i64 n), .d (.str s), .d (.sl (l.map Tm.row))], Rd c' 0], .c (.ptr (.l 2) 0), by rw [h2]; simp [Rd, Ob.re, C.re], rfl, by simp, hf, by rw [h1]; simp [A.re, C.re, Ref.re], ?_⟩
  simp -implicitDefEqProofs [hf, hli, go_sem, -List.set_cons_succ, -List.set_cons_zero]
  have plain : ∀ t : Tm, t.fits → PgGoalR (.tup [.c (.d (.sl (p.map Cl.row))), .agg (t.row.map .d)]) := fun t ht => ⟨p, t, rfl, hp, ht⟩
  refine ⟨fun hl0 => ⟨hl0, ?_⟩, fun _ => by have := plain _ hfits; simpa [row_mk] using this⟩
  have hne : l ≠ [] := fun e => by subst e; simp at hl0
  refine call_drawL (j := 2) (pick_draws 2 (by omega)) hc' (by omega) (by omega) rfl (by simp [Rd, Ob.re, C.re]) (fun r => IntIn.re) hf ?_
  rintro _ p1 ⟨m, rfl, m0, m1⟩ g1 g2
  have hd1 : decide (0 < l.length) = true := by simpa using hl0
  simp -implicitDefEqProofs [hf, hli, hl0, hd1, hne, go_sem, -List.set_cons_succ, -List.set_cons_zero]
  refine ⟨fun hm => ?_, fun hm => by have := plain _ hfits; simpa [row_mk] using this⟩
  have hcp := copyF_calls k n s l hfits hne
  simp only [row_mk, List.map_cons, List.map_nil] at hcp
  refine (hcp _).mono fun r H' ⟨h1, h2⟩ => ⟨H, [.cells [.d (.int .i64 0), .d (.int .i64 0), .d (.str []), .full []], .cells [.d (.int .i64 k), .d (.int .i64 n), .d (.str s), .d (.sl (l.map Tm.row))], Rd c' p1, .rows (l.map Tm.row)], .agg [.d (.int .i64 k), .d (.int .i64 n), .d (.str s), .fsl (.l 3) l.length 4], by rw [h1]; simp [Rd, Ob.re, C.re], rfl, by simp, hf, by rw [h2]; simp [A.re, C.re, Ref.re], ?_⟩
  simp -implicitDefEqProofs [hf, hli, splice_all, cut_all, go_sem, -List.set_cons_succ, -List.set_cons_zero]
  refine call_drawL (j := 2) (l1Draw_draws 2 (by omega)) hc' (by omega) (by omega) rfl (by simp [Rd, Ob.re, C.re]) (fun r => TmR.re) hf ?_
  rintro _ p2 ⟨t, rfl, ht⟩ g3 g4
  refine ⟨LocSame.set (j := 2) rfl (by simp [b0_, Rd]), ?_⟩
  obtain ⟨l0, hl1⟩ : ∃ x, l[0]? = some x := ⟨l[0], by simp [hl0]⟩
  have hrow : (l.map Tm.row)[0]? = some l0.row := by simp [hl1]
  simp -implicitDefEqProofs [hl0, hrow, row_len, take_row, toDs_map, pure_d, re_d, thaw_d, fits_map, hf, spliceD_all, splice_all, cut_all, go_sem, -List.set_cons_succ, -List.set_cons_zero]
  have hft : (Tm.mk k n s (l.set 0 t)).fits := .mk hk hn hs (by simpa using hl) fun x hx => by
    rcases List.mem_or_eq_of_mem_set hx with h | rfl
    · exact hkids x h
    · exact ht
  have hd4 : List.drop 4 l[0].row = [] := List.drop_of_length_le (by rw [row_len]; exact Nat.le_refl _)
  have := plain _ hft
  simpa [row_mk, hd4, List.map_set] using this
/-- a program, a name, and a number of arguments -/
def PgDetR (r : A) : Prop := ∃ (p : List Cl) (s : List UInt8) (n : Int), r = .tup [.c (.d (.sl (p.map Cl.row))), .c (.d (.str s)), .c (.d (.int .i64 n))] ∧ (p.length ≤ 21 ∧ ∀ c ∈ p, c.fits) ∧ s.length ≤ 1048576 ∧ -1 ≤ n ∧ n ≤ 1048576
theorem PgDetR.re {n : Nat} {r : A} (h : PgDetR r) : A.re n r = r := by
  obtain ⟨p, s, m, rfl, _⟩ := h
  simp [A.re, A.res, C.re]
theorem drawDt_calls (c : List UInt8) (hc : c.length ≤ 1048576) (H : Heap) : ACalls Tryz.prog 10 [.c (.d (.sl (bytesRows c)))] H (fun r H' => H' = H ∧ PgDetR r) := by
  refine acalls Tryz.func10 (by kernel_rfl) ac10_ok fun hf => ?_
  simp -implicitDefEqProofs [ac10, hf, go_sem, -List.set_cons_succ, -List.set_cons_zero]
  refine call_some (drawCf_calls c hc _) (by simp [Ob.re, C.re]) (fun r => PgGoalR.re) hf ?_
  rintro _ ⟨p, ⟨k, n, s, l⟩, rfl, hp, ht⟩
  obtain ⟨hk, hn, hs, hl, hkids⟩ := ht
  have hli : inR .i64 (l.length : Int) := small_i64 (by omega) (by omega)
  simp -implicitDefEqProofs [row_mk, hf, splice_all, cut_all, go_sem, -List.set_cons_succ, -List.set_cons_zero]
  refine (open_calls c hc _).mono fun r H' ⟨h1, c', hc', h2⟩ => ⟨H, [.cells [.d (.int .i64 k), .d (.int .i64 n), .d (.str s), .d (.sl (l.map Tm.row))], Rd c' 0], .c (.ptr (.l 1) 0), by rw [h2]; simp [Rd, Ob.re, C.re], rfl, by simp, hf, by rw [h1]; simp [A.re, C.re, Ref.re], ?_⟩
  simp -implicitDefEqProofs [hf, hli, go_sem, -List.set_cons_succ, -List.set_cons_zero]
  refine call_drawL (j := 1) (pick_draws 8 (by omega)) hc' (by omega) (by omega) rfl (by simp [Rd, Ob.re, C.re]) (fun r => IntIn.re) hf ?_
  rintro _ p1 ⟨m, rfl, m0, m1⟩ g1 g2
  simp -implicitDefEqProofs [hf, hli, go_sem, -List.set_cons_succ, -List.set_cons_zero]
  refine ⟨fun hm => ?_, fun hm => ⟨p, s, l.length, by simp, hp, hs, by omega, by omega⟩⟩
  have hnd := num_draws [-1, 5, 0, 2] (by decide)
  simp only [List.map_cons, List.map_nil] at hnd
  refine call_drawL (j := 1) hnd hc' (by omega) (by omega) rfl (by simp [Rd, Ob.re, C.re]) (fun r ⟨n, _, h⟩ => by subst h; rfl) hf ?_
  rintro _ p2 ⟨q, hq, rfl⟩ g3 g4
  refine ⟨LocSame.set (j := 1) rfl (by simp [b0_, Rd]), ?_⟩
  simp -implicitDefEqProofs [hf, go_sem, -List.set_cons_succ, -List.set_cons_zero]
  have hqr : -1 ≤ q ∧ q ≤ 5 := by simp at hq; omega
  exact ⟨p, s, q, rfl, hp, hs, hqr.1, by omega⟩
end Go.Proofs.YteighafofbohcaaGreatDoor

/-
  impl.FirstKey, as a value.
  Conditions: none.
-/
open Go Go.AM Go.Proofs
namespace Go.Proofs.YteighafofbohcaaGreatDoor
set_option linter.unusedVariables false
set_option linter.unusedSimpArgs false
set_option maxRecDepth 100000
/-- the first key of a term -/
def Tm.fkey (t : Tm) : List UInt8 := if t.valid then t.key else []
theorem fky_calls {g : Nat} {o : Obj} (hT : Tab g o) (t : Tm) (ht : t.fits) (H : Heap) (hH : H[0]? = some (.tab g o)) : ACalls Tryz.prog 14 [.agg (t.row.map .d)] H (fun r H' => H' = H ∧ r = .c (.d (.str t.fkey))) := by
  refine acalls Tryz.func14 (by kernel_rfl) ac14_ok fun hf => ?_
  simp -implicitDefEqProofs [ac14, row_len, take_row, pure_d, re_d, go_sem, -List.set_cons_succ, -List.set_cons_zero]
  refine qcall_pure (tvImpl_calls t ht) hf rfl ?_
  cases h : t.valid with
  | false => simp -implicitDefEqProofs [h, Tm.fkey, row_len, take_row, go_sem, -List.set_cons_succ, -List.set_cons_zero]
  | true =>
    simp -implicitDefEqProofs [h, Tm.fkey, row_len, take_row, pure_d, re_d, go_sem, -List.set_cons_succ, -List.set_cons_zero]
    refine qcall_tab (key_calls hT t ht) hf hH rfl ?_
    simp -implicitDefEqProofs [go_sem, -List.set_cons_succ, -List.set_cons_zero]
end Go.Proofs.YteighafofbohcaaGreatDoor
