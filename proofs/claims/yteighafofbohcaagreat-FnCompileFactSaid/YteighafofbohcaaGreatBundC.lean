/-
  Contracts of functions that the law reaches, and plain lemmas: several texts in one.
  Conditions: none.
-/
import Derived.Test.YteighafofbohcaaGreatBundB
import Derived.Test.YteighafofbohcaaGreatBundA
open Go Go.AM Go.Proofs
attribute [local go_sem] kw ew sw tw a_ b_ c_ A.ok A.val d_ e_ f_ g_ h_ i_ j_ k_ l_ m_ unA unD n_ AOp.total o_ p_ q_ r_ s_ t_ u_ v_ A.thaw C.thaw A.fits As.fits C.fits evs oks w_ A.pure C.pure A.re C.re x_ y_ cut A.cells C.rows? z_ A_ B_ C_ D_ Ob.re Cs.fits E_ F_ G_ H_ I_ J_ K_ L_ M_ N_ O_ C.toD P_ Q_ R_ S_ T_ Obs.fits U_ eqD V_ W_ X_ Y_ Z_
/-
  Clauses as the reference reads them.
  Conditions: none.
-/
open Go Go.AM Go.Proofs
namespace Go.Proofs.YteighafofbohcaaGreat
open Go.ChangeShapes Go.WideShapes Go.ChangeAt Go.RowKit
set_option linter.unusedVariables false
set_option linter.unusedSimpArgs false
set_option maxRecDepth 100000
-- 86 loop.example/prologserver/spec.ParseClause params 1 ntmps 58
def ac86 : Cd := .seq (.region [⟨(some 2), .alloc [(.d (.int .i64 0)), (.d (.int .i64 0)), (.d (.str [])), (.full []), (.full [])], none⟩,
 ⟨(some 3), .mv (.k (.c (.d (.bool false)))), none⟩] [3])
 (.seq (.seq (.region [⟨(some 7), .mv (.t 0), none⟩,
 ⟨(some 8), .len 0 (.t 7), none⟩,
 ⟨(some 9), .bin .gtr (.t 8) (.k (.c (.d (.int .i64 1000)))), none⟩] [7, 8])
 (.cond (.t 9)
 (.seq (.region [⟨(some 10), .build [(.d (.int .i64 0)), (.d (.int .i64 0)), (.d (.str [])), (.full []), (.full [])] [], none⟩,
 ⟨none, .store 5 (.t 2) (.t 10), none⟩,
 ⟨(some 3), .mv (.k (.c (.d (.bool false)))), none⟩] [0, 9, 10])
 (.ret))
 (.skip)))
 (.seq (.region [⟨(some 12), .mv (.t 0), none⟩,
 ⟨(some 13), .qcall 89 [(.t 12), (.k (.c (.d (.int .i64 0)))), (.k (.c (.d (.int .i64 30)))), (.k (.c (.d (.int .i64 3))))], none⟩,
 ⟨(some 11), .mv (.t 13), none⟩,
 ⟨(some 14), .extract 0 (.t 11), none⟩,
 ⟨(some 15), .extract 1 (.t 11), none⟩,
 ⟨(some 4), .alloc [(.d (.int .i64 0)), (.d (.int .i64 0)), (.d (.str [])), (.full [])], none⟩,
 ⟨none, .store 4 (.t 4) (.t 14), none⟩,
 ⟨(some 5), .mv (.t 15), none⟩] [3, 9, 11, 12, 13, 14, 15])
 (.seq (.seq (.region [⟨(some 16), .mv (.t 5), none⟩,
 ⟨(some 17), .bin .lss (.t 16) (.k (.c (.d (.int .i64 0)))), none⟩] [16])
 (.cond (.t 17)
 (.seq (.region [⟨(some 18), .build [(.d (.int .i64 0)), (.d (.int .i64 0)), (.d (.str [])), (.full []), (.full [])] [], none⟩,
 ⟨none, .store 5 (.t 2) (.t 18), none⟩,
 ⟨(some 3), .mv (.k (.c (.d (.bool false)))), none⟩] [0, 4, 5, 17, 18])
 (.ret))
 (.skip)))
 (.seq (.region [⟨(some 19), .load (some 4) (.t 4), none⟩,
 ⟨(some 20), .build [(.d (.int .i64 0)), (.d (.int .i64 0)), (.d (.str [])), (.full []), (.full [])] [(0, 4, (.t 19))], none⟩,
 ⟨(some 6), .alloc [(.d (.int .i64 0)), (.d (.int .i64 0)), (.d (.str [])), (.full []), (.full [])], none⟩,
 ⟨none, .store 5 (.t 6) (.t 20), none⟩] [3, 4, 17, 19, 20])
 (.seq (.seq (.region [⟨(some 21), .mv (.t 0), none⟩,
 ⟨(some 22), .mv (.t 5), none⟩,
 ⟨(some 23), .qcall 90 [(.t 21), (.t 22), (.k (.c (.d (.int .u8 58))))], none⟩,
 ⟨(some 24), .mv (.t 23), none⟩,
 ⟨(some 25), .mv (.t 0), some (24, true)⟩,
 ⟨(some 26), .mv (.t 5), some (24, true)⟩,
 ⟨(some 27), .bin .add (.t 26) (.k (.c (.d (.int .i64 1)))), some (24, true)⟩,
 ⟨(some 28), .qcall 90 [(.t 25), (.t 27), (.k (.c (.d (.int .u8 45))))], some (24, true)⟩,
 ⟨(some 29), .pick (.t 24) (.t 28) (.k (.c (.d (.bool false)))), none⟩] [21, 22, 23, 24, 25, 26, 27, 28])
 (.cond (.t 29)
 (.region [⟨(some 31), .mv (.t 0), none⟩,
 ⟨(some 32), .mv (.t 5), none⟩,
 ⟨(some 33), .bin .add (.t 32) (.k (.c (.d (.int .i64 2)))), none⟩,
 ⟨(some 34), .qcall 91 [(.t 31), (.t 33)], none⟩,
 ⟨(some 30), .mv (.t 34), none⟩,
 ⟨(some 35), .extract 0 (.t 30), none⟩,
 ⟨(some 36), .extract 1 (.t 30), none⟩,
 ⟨(some 37), .fieldAddr 4 (.t 6), none⟩,
 ⟨none, .store 1 (.t 37) (.t 35), none⟩,
 ⟨(some 5), .mv (.t 36), none⟩] [29, 30, 31, 32, 33, 34, 35, 36, 37])
 (.skip)))
 (.seq (.seq (.region [⟨(some 38), .mv (.t 5), none⟩,
 ⟨(some 39), .mv (.t 0), none⟩,
 ⟨(some 40), .len 0 (.t 39), none⟩,
 ⟨(some 41), .bin .sub (.t 40) (.k (.c (.d (.int .i64 1)))), none⟩,
 ⟨(some 42), .bin .neq (.t 38) (.t 41), none⟩,
 ⟨(some 43), .mv (.t 42), none⟩,
 ⟨(some 44), .mv (.t 0), some (43, false)⟩,
 ⟨(some 45), .mv (.t 5), some (43, false)⟩,
 ⟨(some 46), .qcall 90 [(.t 44), (.t 45), (.k (.c (.d (.int .u8 46))))], some (43, false)⟩,
 ⟨(some 47), .un .not (.t 46), some (43, false)⟩,
 ⟨(some 48), .pick (.t 43) (.k (.c (.d (.bool true)))) (.t 47), none⟩,
 ⟨(some 49), .mv (.t 48), none⟩,
 ⟨(some 50), .load (some 5) (.t 6), some (49, false)⟩,
 ⟨(some 51), .qcall 92 [(.t 50)], some (49, false)⟩,
 ⟨(some 52), .mv (.t 0), some (49, false)⟩,
 ⟨(some 53), .bin .neq (.t 51) (.t 52), some (49, false)⟩,
 ⟨(some 54), .pick (.t 49) (.k (.c (.d (.bool true)))) (.t 53), none⟩] [0, 5, 29, 38, 39, 40, 41, 42, 43, 44, 45, 46, 47, 48, 49, 50, 51, 52, 53])
 (.cond (.t 54)
 (.seq (.region [⟨(some 55), .build [(.d (.int .i64 0)), (.d (.int .i64 0)), (.d (.str [])), (.full []), (.full [])] [], none⟩,
 ⟨none, .store 5 (.t 2) (.t 55), none⟩,
 ⟨(some 3), .mv (.k (.c (.d (.bool false)))), none⟩] [6, 54, 55])
 (.ret))
 (.skip)))
 (.seq (.region [⟨(some 56), .load (some 5) (.t 6), none⟩,
 ⟨(some 57), .qcall 41 [(.t 56)], none⟩,
 ⟨none, .store 5 (.t 2) (.t 57), none⟩,
 ⟨(some 3), .mv (.k (.c (.d (.bool true)))), none⟩] [6, 54, 56, 57])
 (.ret))))))))
theorem ac86_ok : cFunc Tryz.prog [1000041, 1000089, 1000090, 1000091, 1000092] [(0, [3], []), (1, [7, 8], []), (2, [0, 9, 10], []), (3, [3, 9, 11, 12, 13, 14, 15], []), (4, [16], []), (5, [0, 4, 5, 17, 18], []), (6, [3, 4, 17, 19, 20], []), (7, [21, 22, 23, 24, 25, 26, 27, 28], []), (8, [29, 30, 31, 32, 33, 34, 35, 36, 37], []), (9, [0, 5, 29, 38, 39, 40, 41, 42, 43, 44, 45, 46, 47, 48, 49, 50, 51, 52, 53], []), (10, [6, 54, 55], []), (11, [6, 54, 56, 57], [])] Tryz.f86 = some (ac86, [.cell 2 (some 5), .tmp 3], 58) := by kernel_rfl
def zCl : Cl := ⟨.mk 0 0 [] [], []⟩
def clA : Option Cl → A
  | some c => .tup [.agg (c.row.map .d), .c (.d (.bool true))]
  | none => .tup [.agg (zCl.row.map .d), .c (.d (.bool false))]
theorem goalsR_ok2 (s : List UInt8) (hs : s.length ≤ 1000000) (i : Nat) (hi : i ≤ s.length) {ts : List Tm} {k : Nat} (h : goalsR s 7 i = some (ts, k)) : k ≤ s.length ∧ ts.length ≤ 7 ∧ (∀ t ∈ ts, t.fits) :=
  let ⟨a, b, c, _⟩ := goalsR_ok s hs 7 i ts k hi h
  ⟨a, b, c⟩
theorem clauseR_fits (s : List UInt8) (hs : s.length ≤ 1000000) {c : Cl} (h : clauseR Tm.wr s = some c) : c.fits ∧ c.validB = true := by
  unfold clauseR at h
  have key : ∀ (c0 : Cl) (j : Nat), c0.fits → clauseB Tm.wr s c0 j = some c → c.fits ∧ c.validB = true := by
    intro c0 j h0 h1
    unfold clauseB at h1
    split at h1
    · rename_i hc
      simp only [Bool.and_eq_true] at hc
      cases h1
      exact ⟨h0, hc.1.2⟩
    · cases h1
  split at h
  · cases h
  · obtain ⟨r, hr, hpost⟩ := rdF_ok s hs 0 30 (by omega)
    rw [hr] at h
    cases r with
    | bad e => cases h
    | ok us j =>
      obtain ⟨g1, g2, t, rfl, g3⟩ := hpost
      simp only [Rs.tm] at h
      split at h
      · rename_i hsg
        have hj : j + 1 < s.length := by
          simp only [Bool.and_eq_true] at hsg
          exact sgn_lt hsg.2
        split at h
        · rename_i b k hg
          obtain ⟨q1, q2, q3⟩ := goalsR_ok2 s hs (j + 2) (by omega) hg
          exact key ⟨t, b⟩ k ⟨g3, by show b.length ≤ 1048576; omega, q3⟩ h
        · cases h
      · exact key ⟨t, []⟩ j ⟨g3, by simp, by simp⟩ h
theorem pcSpec_calls (s : List UInt8) (hs : s.length ≤ 1000000) (H : Heap) : ACalls Tryz.prog 86 [.c (.d (.str s))] H (fun r H' => H' = H ∧ r = clA (clauseR Tm.wr s)) := by
  refine acalls Tryz.func86 (by kernel_rfl) ac86_ok fun hf => ?_
  have hli : inR .i64 (s.length : Int) := small_i64 (by omega) (by omega)
  have hl1 : inR .i64 ((s.length : Int) - 1) := small_i64 (by omega) (by omega)
  unfold clauseR
  by_cases h1000 : 1000 < s.length
  · have h1 : (1000 : Int) < s.length := by omega
    simp -implicitDefEqProofs [ac86, hli, h1, h1000, hf, clA, zCl, Cl.row, Tm.k, Tm.n, Tm.s, Tm.kids, go_sem, -List.set_cons_succ, -List.set_cons_zero]
  · have h1 : ¬ (1000 : Int) < s.length := by omega
    rw [if_neg h1000]
    obtain ⟨r, hr, hpost⟩ := rdF_ok s hs 0 30 (by omega)
    have c1 := (par s hs _).read 0 30 3 r (by omega) (by omega) (by omega) hr
    simp only [Int.cast_ofNat_Int] at c1
    rw [hr]
    simp -implicitDefEqProofs [ac86, hli, h1, go_sem, -List.set_cons_succ, -List.set_cons_zero]
    refine qcall_pure c1 hf (readA_re _ _) ?_
    cases r with
    | bad e =>
      have he : e ≤ s.length := hpost
      have hneg : (-1 - (e : Int)) < 0 := by omega
      simp -implicitDefEqProofs [readA, hneg, row_mk, clA, zCl, Cl.row, Tm.k, Tm.n, Tm.s, Tm.kids, hf, go_sem, -List.set_cons_succ, -List.set_cons_zero]
    | ok us j =>
      obtain ⟨g1, g2, t, rfl, g3⟩ := hpost
      obtain ⟨k, n, nm, l⟩ := t
      have hj0 : ¬ (j : Int) < 0 := by omega
      have hj1 : inR .i64 ((j : Int) + 1) := small_i64 (by omega) (by omega)
      have hj2 : inR .i64 ((j : Int) + 2) := small_i64 (by omega) (by omega)
      simp -implicitDefEqProofs [readA, Rs.tm, hj0, row_mk, hf, go_sem, -List.set_cons_succ, -List.set_cons_zero]
      refine qcall_pure (sign_calls s hs j (by omega) 58) hf rfl ?_
      have cd2 := sign_calls s hs (j + 1) (by omega) 45
      simp only [Int.natCast_add, Int.cast_ofNat_Int] at cd2
      cases hsg : sgn s j 58 with
      | false =>
        simp -implicitDefEqProofs [hj1, hf, hl1, hli, go_sem, -List.set_cons_succ, -List.set_cons_zero]
        have hft : (⟨.mk k n nm l, []⟩ : Cl).fits := ⟨g3, by simp, by simp⟩
        have cf := fmtC_calls _ hft
        have cc := clCopy_calls _ hft
        simp only [Cl.row, Tm.k, Tm.n, Tm.s, Tm.kids, List.map_cons, List.map_nil] at cf cc
        refine ⟨fun he => ⟨he, ?_⟩, fun he => ?_⟩
        · have he2 : j + 1 = s.length := by omega
          refine qcall_pure (sign_calls s hs j (by omega) 46) hf rfl ?_
          cases hs4 : sgn s j 46 with
          | false => simp -implicitDefEqProofs [clauseB, hs4, clA, zCl, Cl.row, Tm.k, Tm.n, Tm.s, Tm.kids, hf, go_sem, -List.set_cons_succ, -List.set_cons_zero]
          | true =>
            simp -implicitDefEqProofs [hf, go_sem, -List.set_cons_succ, -List.set_cons_zero]
            refine qcall_pure cf hf rfl ?_
            cases hv : Cl.validB ⟨.mk k n nm l, []⟩ with
            | false =>
              have hne : ¬ ([] : List UInt8) = s := fun h => by
                rw [← h] at he2
                simp at he2
              have hne2 : ¬ s = ([] : List UInt8) := fun h => hne h.symm
              simp -implicitDefEqProofs [clauseB, hs4, hv, hne, hne2, clA, zCl, Cl.row, Tm.k, Tm.n, Tm.s, Tm.kids, hf, go_sem, -List.set_cons_succ, -List.set_cons_zero]
            | true =>
              simp -implicitDefEqProofs [hf, go_sem, -List.set_cons_succ, -List.set_cons_zero]
              refine ⟨fun hw => ?_, fun hw => ?_⟩
              · simp -implicitDefEqProofs [clauseB, hs4, hv, hw, he2, clA, zCl, Cl.row, Tm.k, Tm.n, Tm.s, Tm.kids, hf, go_sem, -List.set_cons_succ, -List.set_cons_zero]
              · refine qcall_pure cc hf (by simp [A.re, C.re]) ?_
                simp -implicitDefEqProofs [clauseB, hs4, hv, hw, he2, clA, zCl, Cl.row, Tm.k, Tm.n, Tm.s, Tm.kids, hf, go_sem, -List.set_cons_succ, -List.set_cons_zero]
        · have he2 : ¬ j + 1 = s.length := by omega
          simp [clauseB, he2, clA, zCl, Cl.row, Tm.k, Tm.n, Tm.s, Tm.kids]
      | true =>
        simp -implicitDefEqProofs [hj1, hf, go_sem, -List.set_cons_succ, -List.set_cons_zero]
        refine qcall_pure cd2 hf rfl ?_
        cases hsg2 : sgn s (j + 1) 45 with
        | false =>
          simp -implicitDefEqProofs [hf, hl1, hli, go_sem, -List.set_cons_succ, -List.set_cons_zero]
          have hft : (⟨.mk k n nm l, []⟩ : Cl).fits := ⟨g3, by simp, by simp⟩
          have cf := fmtC_calls _ hft
          have cc := clCopy_calls _ hft
          simp only [Cl.row, Tm.k, Tm.n, Tm.s, Tm.kids, List.map_cons, List.map_nil] at cf cc
          refine ⟨fun he => ⟨he, ?_⟩, fun he => ?_⟩
          · have he2 : j + 1 = s.length := by omega
            refine qcall_pure (sign_calls s hs j (by omega) 46) hf rfl ?_
            cases hs4 : sgn s j 46 with
            | false => simp -implicitDefEqProofs [clauseB, hs4, clA, zCl, Cl.row, Tm.k, Tm.n, Tm.s, Tm.kids, hf, go_sem, -List.set_cons_succ, -List.set_cons_zero]
            | true =>
              simp -implicitDefEqProofs [hf, go_sem, -List.set_cons_succ, -List.set_cons_zero]
              refine qcall_pure cf hf rfl ?_
              cases hv : Cl.validB ⟨.mk k n nm l, []⟩ with
              | false =>
                have hne : ¬ ([] : List UInt8) = s := fun h => by
                  rw [← h] at he2
                  simp at he2
                have hne2 : ¬ s = ([] : List UInt8) := fun h => hne h.symm
                simp -implicitDefEqProofs [clauseB, hs4, hv, hne, hne2, clA, zCl, Cl.row, Tm.k, Tm.n, Tm.s, Tm.kids, hf, go_sem, -List.set_cons_succ, -List.set_cons_zero]
              | true =>
                simp -implicitDefEqProofs [hf, go_sem, -List.set_cons_succ, -List.set_cons_zero]
                refine ⟨fun hw => ?_, fun hw => ?_⟩
                · simp -implicitDefEqProofs [clauseB, hs4, hv, hw, he2, clA, zCl, Cl.row, Tm.k, Tm.n, Tm.s, Tm.kids, hf, go_sem, -List.set_cons_succ, -List.set_cons_zero]
                · refine qcall_pure cc hf (by simp [A.re, C.re]) ?_
                  simp -implicitDefEqProofs [clauseB, hs4, hv, hw, he2, clA, zCl, Cl.row, Tm.k, Tm.n, Tm.s, Tm.kids, hf, go_sem, -List.set_cons_succ, -List.set_cons_zero]
          · have he2 : ¬ j + 1 = s.length := by omega
            simp [clauseB, he2, clA, zCl, Cl.row, Tm.k, Tm.n, Tm.s, Tm.kids]
        | true =>
          have hjl := sgn_lt hsg2
          have cg := l4Goals_calls s hs (j + 2) (by omega)
          simp only [Int.natCast_add, Int.cast_ofNat_Int] at cg
          simp -implicitDefEqProofs [hj2, hf, go_sem, -List.set_cons_succ, -List.set_cons_zero]
          cases hg : goalsR s 7 (j + 2) with
          | none =>
            rw [hg] at cg
            refine qcall_pure cg hf (by simp [goalsA, A.re, A.res, C.re]) ?_
            have hm : ¬ (-1 : Int) = (s.length : Int) - 1 := by omega
            simp -implicitDefEqProofs [goalsA, hf, hl1, hli, hm, clA, zCl, Cl.row, Tm.k, Tm.n, Tm.s, Tm.kids, go_sem, -List.set_cons_succ, -List.set_cons_zero]
          | some q =>
            obtain ⟨b, e⟩ := q
            rw [hg] at cg
            obtain ⟨q1, q2, q3⟩ := goalsR_ok2 s hs (j + 2) (by omega) hg
            refine qcall_pure cg hf (by simp [goalsA, A.re, A.res, C.re]) ?_
            simp -implicitDefEqProofs [goalsA, hf, hl1, hli, go_sem, -List.set_cons_succ, -List.set_cons_zero]
            have hft : (⟨.mk k n nm l, b⟩ : Cl).fits := ⟨g3, by show b.length ≤ 1048576; omega, q3⟩
            have cf := fmtC_calls _ hft
            have cc := clCopy_calls _ hft
            simp only [Cl.row, Tm.k, Tm.n, Tm.s, Tm.kids, List.map_cons, List.map_nil] at cf cc
            refine ⟨fun he => ⟨he, ?_⟩, fun he => ?_⟩
            · have he2 : e + 1 = s.length := by omega
              refine qcall_pure (sign_calls s hs e (by omega) 46) hf rfl ?_
              cases hs4 : sgn s e 46 with
              | false => simp -implicitDefEqProofs [clauseB, hs4, clA, zCl, Cl.row, Tm.k, Tm.n, Tm.s, Tm.kids, hf, go_sem, -List.set_cons_succ, -List.set_cons_zero]
              | true =>
                simp -implicitDefEqProofs [hf, go_sem, -List.set_cons_succ, -List.set_cons_zero]
                refine qcall_pure cf hf rfl ?_
                cases hv : Cl.validB ⟨.mk k n nm l, b⟩ with
                | false =>
                  have hne : ¬ ([] : List UInt8) = s := fun h => by
                    rw [← h] at he2
                    simp at he2
                  have hne2 : ¬ s = ([] : List UInt8) := fun h => hne h.symm
                  simp -implicitDefEqProofs [clauseB, hs4, hv, hne, hne2, clA, zCl, Cl.row, Tm.k, Tm.n, Tm.s, Tm.kids, hf, go_sem, -List.set_cons_succ, -List.set_cons_zero]
                | true =>
                  simp -implicitDefEqProofs [hf, go_sem, -List.set_cons_succ, -List.set_cons_zero]
                  refine ⟨fun hw => ?_, fun hw => ?_⟩
                  · simp -implicitDefEqProofs [clauseB, hs4, hv, hw, he2, clA, zCl, Cl.row, Tm.k, Tm.n, Tm.s, Tm.kids, hf, go_sem, -List.set_cons_succ, -List.set_cons_zero]
                  · refine qcall_pure cc hf (by simp [A.re, C.re]) ?_
                    simp -implicitDefEqProofs [clauseB, hs4, hv, hw, he2, clA, zCl, Cl.row, Tm.k, Tm.n, Tm.s, Tm.kids, hf, go_sem, -List.set_cons_succ, -List.set_cons_zero]
            · have he2 : ¬ e + 1 = s.length := by omega
              simp [clauseB, he2, clA, zCl, Cl.row, Tm.k, Tm.n, Tm.s, Tm.kids]
end Go.Proofs.YteighafofbohcaaGreat

/-
  Programs as the reference reads them.
  Conditions: none.
-/
open Go Go.AM Go.Proofs
namespace Go.Proofs.YteighafofbohcaaGreat
open Go.ChangeShapes Go.WideShapes Go.ChangeAt Go.RowKit
set_option linter.unusedVariables false
set_option linter.unusedSimpArgs false
set_option maxRecDepth 100000
-- 85 loop.example/prologserver/spec.l18Cut params 2 ntmps 36
-- loop head live: [0, 1, 5, 6, 7]
def ac85 : Cd := .seq (.region [⟨(some 4), .mv (.k (.c (.full []))), none⟩] [4])
 (.seq (.region [⟨(some 8), .buildSlice 1 0 [(.str [])] [], none⟩,
 ⟨(some 5), .mv (.t 8), none⟩] [8])
 (.seq (.region [⟨(some 6), .mv (.k (.c (.d (.int .i64 0)))), none⟩] [])
 (.seq (.seq (.region [⟨(some 7), .mv (.k (.c (.d (.int .i64 0)))), none⟩] [])
 (.block 0 (.loop (.seq (.seq (.region [⟨(some 9), .mv (.t 7), none⟩,
 ⟨(some 10), .mv (.t 0), none⟩,
 ⟨(some 11), .len 0 (.t 10), none⟩,
 ⟨(some 12), .bin .leq (.t 9) (.t 11), none⟩] [9, 10, 11])
 (.cond (.t 12)
 (.skip)
 (.exit 0)))
 (.seq (.block 1 (.seq (.region [⟨(some 15), .mv (.t 7), none⟩,
 ⟨(some 16), .mv (.t 0), none⟩,
 ⟨(some 17), .len 0 (.t 16), none⟩,
 ⟨(some 18), .bin .eql (.t 15) (.t 17), none⟩,
 ⟨(some 19), .mv (.t 18), none⟩,
 ⟨(some 20), .mv (.t 0), some (19, false)⟩,
 ⟨(some 21), .mv (.t 7), some (19, false)⟩,
 ⟨(some 22), .index (.t 20) (.t 21), some (19, false)⟩,
 ⟨(some 23), .mv (.t 1), some (19, false)⟩,
 ⟨(some 24), .bin .eql (.t 22) (.t 23), some (19, false)⟩,
 ⟨(some 25), .pick (.t 19) (.k (.c (.d (.bool true)))) (.t 24), none⟩] [12, 15, 16, 17, 18, 19, 20, 21, 22, 23, 24])
 (.cond (.t 25)
 (.seq (.region [⟨(some 26), .mv (.t 5), none⟩,
 ⟨(some 27), .mv (.t 0), none⟩,
 ⟨(some 28), .mv (.t 6), none⟩,
 ⟨(some 29), .mv (.t 7), none⟩,
 ⟨(some 30), .slice 0 (.t 27) (some (.t 28)) (some (.t 29)) none, none⟩,
 ⟨(some 31), .buildSlice 1 1 [(.str [])] [(0, (.t 30))], none⟩,
 ⟨(some 32), .append false 1 (.t 26) (.t 31), none⟩,
 ⟨(some 5), .mv (.t 32), none⟩] [6, 25, 26, 27, 28, 29, 30, 31, 32])
 (.region [⟨(some 33), .mv (.t 7), none⟩,
 ⟨(some 34), .bin .add (.t 33) (.k (.c (.d (.int .i64 1)))), none⟩,
 ⟨(some 6), .mv (.t 34), none⟩] [33, 34]))
 (.skip))))
 (.region [⟨(some 13), .mv (.t 7), none⟩,
 ⟨(some 14), .bin .add (.t 13) (.k (.c (.d (.int .i64 1)))), none⟩,
 ⟨(some 7), .mv (.t 14), none⟩] [13, 14, 25]))))))
 (.seq (.region [⟨(some 35), .mv (.t 5), none⟩,
 ⟨(some 4), .mv (.t 35), none⟩] [5, 35])
 (.ret)))))
theorem ac85_ok : cFunc Tryz.prog [] [(0, [4], []), (1, [8], []), (2, [], []), (3, [], []), (4, [9, 10, 11], []), (6, [12, 15, 16, 17, 18, 19, 20, 21, 22, 23, 24], []), (7, [6, 25, 26, 27, 28, 29, 30, 31, 32], []), (8, [33, 34], []), (5, [13, 14, 25], []), (9, [5, 35], [])] Tryz.f85 = some (ac85, [.tmp 4], 36) := by kernel_rfl
-- 76 loop.example/prologserver/spec.ParseProgram params 1 ntmps 48
-- loop head live: [4, 5, 6]
def ac76 : Cd := .seq (.region [⟨(some 2), .mv (.k (.c (.full []))), none⟩,
 ⟨(some 3), .mv (.k (.c (.d (.bool false)))), none⟩] [2, 3])
 (.seq (.region [⟨(some 9), .buildSlice 5 0 [(.int .i64 0), (.int .i64 0), (.str []), (.sl []), (.sl [])] [], none⟩,
 ⟨(some 4), .mv (.t 9), none⟩] [9])
 (.seq (.region [⟨(some 10), .mv (.t 0), none⟩,
 ⟨(some 11), .qcall 85 [(.t 10), (.k (.c (.d (.int .u8 10))))], none⟩,
 ⟨(some 5), .mv (.t 11), none⟩] [0, 10, 11])
 (.seq (.seq (.region [⟨(some 12), .mv (.t 5), none⟩,
 ⟨(some 13), .len 1 (.t 12), none⟩,
 ⟨(some 14), .bin .gtr (.t 13) (.k (.c (.d (.int .i64 21)))), none⟩,
 ⟨(some 15), .mv (.t 14), none⟩,
 ⟨(some 16), .mv (.t 5), some (15, false)⟩,
 ⟨(some 17), .mv (.t 5), some (15, false)⟩,
 ⟨(some 18), .len 1 (.t 17), some (15, false)⟩,
 ⟨(some 19), .bin .sub (.t 18) (.k (.c (.d (.int .i64 1)))), some (15, false)⟩,
 ⟨(some 20), .indexAddr 1 (.t 16) (.t 19), some (15, false)⟩,
 ⟨(some 21), .load none (.t 20), some (15, false)⟩,
 ⟨(some 22), .bin .neq (.t 21) (.k (.c (.d (.str [])))), some (15, false)⟩,
 ⟨(some 23), .pick (.t 15) (.k (.c (.d (.bool true)))) (.t 22), none⟩] [12, 13, 14, 15, 16, 17, 18, 19, 20, 21, 22])
 (.cond (.t 23)
 (.seq (.region [⟨(some 24), .mv (.t 4), none⟩,
 ⟨(some 2), .mv (.t 24), none⟩,
 ⟨(some 3), .mv (.k (.c (.d (.bool false)))), none⟩] [4, 5, 23, 24])
 (.ret))
 (.skip)))
 (.seq (.seq (.region [⟨(some 6), .mv (.k (.c (.d (.int .i64 0)))), none⟩] [2, 3, 23])
 (.block 0 (.loop (.seq (.seq (.region [⟨(some 25), .mv (.t 6), none⟩,
 ⟨(some 26), .bin .add (.t 25) (.k (.c (.d (.int .i64 1)))), none⟩,
 ⟨(some 27), .mv (.t 5), none⟩,
 ⟨(some 28), .len 1 (.t 27), none⟩,
 ⟨(some 29), .bin .lss (.t 26) (.t 28), none⟩] [25, 26, 27, 28])
 (.cond (.t 29)
 (.skip)
 (.exit 0)))
 (.seq (.block 1 (.seq (.region [⟨(some 33), .mv (.t 5), none⟩,
 ⟨(some 34), .mv (.t 6), none⟩,
 ⟨(some 35), .indexAddr 1 (.t 33) (.t 34), none⟩,
 ⟨(some 36), .load none (.t 35), none⟩,
 ⟨(some 37), .qcall 86 [(.t 36)], none⟩,
 ⟨(some 32), .mv (.t 37), none⟩,
 ⟨(some 38), .extract 0 (.t 32), none⟩,
 ⟨(some 39), .extract 1 (.t 32), none⟩,
 ⟨(some 7), .alloc [(.d (.int .i64 0)), (.d (.int .i64 0)), (.d (.str [])), (.full []), (.full [])], none⟩,
 ⟨none, .store 5 (.t 7) (.t 38), none⟩,
 ⟨(some 8), .mv (.t 39), none⟩] [29, 32, 33, 34, 35, 36, 37, 38, 39])
 (.seq (.seq (.region [⟨(some 40), .mv (.t 8), none⟩,
 ⟨(some 41), .un .not (.t 40), none⟩] [8, 40])
 (.cond (.t 41)
 (.seq (.region [⟨(some 42), .buildSlice 5 0 [(.int .i64 0), (.int .i64 0), (.str []), (.sl []), (.sl [])] [], none⟩,
 ⟨(some 2), .mv (.t 42), none⟩,
 ⟨(some 3), .mv (.k (.c (.d (.bool false)))), none⟩] [4, 5, 6, 7, 41, 42])
 (.ret))
 (.skip)))
 (.region [⟨(some 43), .mv (.t 4), none⟩,
 ⟨(some 44), .load (some 5) (.t 7), none⟩,
 ⟨(some 45), .buildSlice 5 1 [(.int .i64 0), (.int .i64 0), (.str []), (.sl []), (.sl [])] [(0, (.t 44))], none⟩,
 ⟨(some 46), .append false 5 (.t 43) (.t 45), none⟩,
 ⟨(some 4), .mv (.t 46), none⟩] [2, 3, 7, 41, 43, 44, 45, 46]))))
 (.region [⟨(some 30), .mv (.t 6), none⟩,
 ⟨(some 31), .bin .add (.t 30) (.k (.c (.d (.int .i64 1)))), none⟩,
 ⟨(some 6), .mv (.t 31), none⟩] [30, 31]))))))
 (.seq (.region [⟨(some 47), .mv (.t 4), none⟩,
 ⟨(some 2), .mv (.t 47), none⟩,
 ⟨(some 3), .mv (.k (.c (.d (.bool true)))), none⟩] [4, 47])
 (.ret))))))
theorem ac76_ok : cFunc Tryz.prog [1000085, 1000086] [(0, [2, 3], []), (1, [9], []), (2, [0, 10, 11], []), (3, [12, 13, 14, 15, 16, 17, 18, 19, 20, 21, 22], []), (4, [4, 5, 23, 24], []), (5, [2, 3, 23], []), (6, [25, 26, 27, 28], []), (8, [29, 32, 33, 34, 35, 36, 37, 38, 39], []), (9, [8, 40], []), (10, [4, 5, 6, 7, 41, 42], []), (11, [2, 3, 7, 41, 43, 44, 45, 46], []), (7, [30, 31], []), (12, [4, 47], [])] Tryz.f76 = some (ac76, [.tmp 2, .tmp 3], 48) := by kernel_rfl
def glue (p : List UInt8) : List (List UInt8) → List (List UInt8)
  | l :: r => (p ++ l) :: r
  | [] => [p]
theorem cutAt_ne (c : UInt8) : ∀ s : List UInt8, cutAt c s ≠ []
  | [] => by simp [cutAt]
  | b :: s => by
    unfold cutAt
    split
    · simp
    · split <;> simp
theorem glue_nil (l : List (List UInt8)) (h : l ≠ []) : glue [] l = l := by
  cases l with
  | nil => exact absurd rfl h
  | cons a l => rfl
theorem glue_cut (c b : UInt8) (p s : List UInt8) : glue p (cutAt c (b :: s)) = if b = c then p :: cutAt c s else glue (p ++ [b]) (cutAt c s) := by
  rw [cutAt]
  by_cases h : b = c
  · simp [h, glue]
  · simp only [if_neg h]
    cases hc : cutAt c s with
    | nil => exact absurd hc (cutAt_ne c s)
    | cons l r => simp [glue]
theorem byte_off2 {g : Bool} {s : List UInt8} {i : Int} (b : UInt8) {K : A → St → Prop} {st : St} (hg : g = false) (hk : K (.c (.d (.int .u8 b.toNat))) st) : ByteK g s i K st := ⟨b, fun h => absurd (hg ▸ h) (by simp), hk⟩
theorem byte_nat2 {g : Bool} {s : List UInt8} {i : Nat} {K : A → St → Prop} {st : St} (h : i < s.length) (hg : g = true) (hk : K (.c (.d (.int .u8 s[i].toNat))) st) : ByteK g s i K st := by
  subst hg
  exact byte_nat h hk
theorem cut_calls (s : List UInt8) (hs : s.length ≤ 1000000) (c : UInt8) (H : Heap) : ACalls Tryz.prog 85 [.c (.d (.str s)), .c (.d (.int .u8 c.toNat))] H (fun r H' => H' = H ∧ r = .c (.d (.sl ((cutAt c s).map strRow)))) := by
  refine acalls Tryz.func85 (by kernel_rfl) ac85_ok fun hf => ?_
  have hli : inR .i64 (s.length : Int) := small_i64 (by omega) (by omega)
  simp -implicitDefEqProofs [ac85, go_sem, -List.set_cons_succ, -List.set_cons_zero]
  refine loop_enter (St.le_token 5 1 rfl) ?_
  refine loop_set (σ := Nat × Nat × List (List UInt8)) (fun x => [(7, .c (.d (.int .i64 x.1))), (6, .c (.d (.int .i64 x.2.1))), (5, .c (.own (.l 0) x.2.2.length (x.2.2.map strRow)))]) (fun _ => H) (fun x => [.grow x.2.2.length 1])
    (fun x => x.2.2.length ≤ x.1 ∧ ((x.1 ≤ s.length ∧ x.2.1 ≤ x.1 ∧ x.2.2 ++ glue ((s.take x.1).drop x.2.1) (cutAt c (s.drop x.1)) = cutAt c s) ∨ (x.1 = s.length + 1 ∧ x.2.2 = cutAt c s))) (fun x => s.length + 1 - x.1) (0, 0, []) (by simp [setAll]) ⟨Nat.zero_le _, .inl ⟨Nat.zero_le _, Nat.zero_le _, by simp [glue_nil _ (cutAt_ne c s)]⟩⟩ ?_
  rintro ⟨i, fr, out⟩ ⟨hol, hI⟩
  simp only at hol hI
  simp -implicitDefEqProofs [setAll, hli, go_sem, -List.set_cons_succ, -List.set_cons_zero]
  refine ⟨fun hle => ?_, fun hgt => ?_⟩
  · obtain ⟨_, hfr, hcut⟩ := hI.resolve_right (by omega)
    have hadd : inR .i64 ((i : Int) + 1) := small_i64 (by omega) (by omega)
    by_cases he : i = s.length
    · subst he
      refine byte_off2 0 (by simp) ?_
      simp -implicitDefEqProofs [hadd, go_sem, -List.set_cons_succ, -List.set_cons_zero]
      refine ⟨hfr, fun r hr => ?_, by unfold maxApp; omega, ?_⟩
      · obtain ⟨y, _, rfl⟩ := List.mem_map.1 hr; rfl
      refine loop_back (s.length + 1, s.length + 1, out ++ [s.drop fr]) (by simp [setAll, strRow]) ⟨by simp; omega, .inr ⟨rfl, ?_⟩⟩ (by show s.length + 1 - (s.length + 1) < _; omega)
      rw [← hcut]
      simp [cutAt, glue]
    · have he2 : ¬ (i : Int) = s.length := by omega
      have hlt : i < s.length := by omega
      refine byte_nat2 hlt (by simp [he2]) ?_
      simp -implicitDefEqProofs [he, he2, hadd, go_sem, -List.set_cons_succ, -List.set_cons_zero]
      have hdr : s.drop i = s[i] :: s.drop (i + 1) := List.drop_eq_getElem_cons hlt
      rw [hdr, glue_cut] at hcut
      refine ⟨fun hb => ⟨⟨hfr, by omega⟩, fun r hr => ?_, by unfold maxApp; omega, ?_⟩, fun hb => ?_⟩
      · obtain ⟨y, _, rfl⟩ := List.mem_map.1 hr; rfl
      · have hb2 : s[i] = c := UInt8.toNat_inj.1 (by omega)
        rw [if_pos hb2] at hcut
        refine loop_back (i + 1, i + 1, out ++ [(s.take i).drop fr]) (by simp [setAll, strRow]) ⟨by simp; omega, .inl ⟨hlt, Nat.le_refl _, ?_⟩⟩ (by show s.length + 1 - (i + 1) < s.length + 1 - i; omega)
        rw [← hcut]
        simp [glue_nil _ (cutAt_ne c _)]
      · have hb2 : ¬ s[i] = c := fun h => hb (by rw [h])
        rw [if_neg hb2] at hcut
        refine loop_back (i + 1, fr, out) (by simp [setAll]) ⟨by dsimp only; omega, .inl ⟨hlt, by dsimp only; omega, ?_⟩⟩ (by show s.length + 1 - (i + 1) < s.length + 1 - i; omega)
        rw [← hcut]
        simp only
        rw [List.take_succ_eq_append_getElem hlt, List.drop_append_of_le_length (by simp; omega)]
  · obtain ⟨_, hcut⟩ := hI.resolve_left (by omega)
    simp -implicitDefEqProofs [hcut, hf, go_sem, -List.set_cons_succ, -List.set_cons_zero]
theorem linesR_cons (W : Tm → List UInt8) (a b : List UInt8) (l : List (List UInt8)) : linesR W (a :: b :: l) = match clauseR W a, linesR W (b :: l) with | some c, some p => some (c :: p) | _, _ => none := rfl
def progA (x : List Cl × Bool) : A := .tup [.c (.d (.sl (x.1.map Cl.row))), .c (.d (.bool x.2))]
def pre (out : List Cl) : Option (List Cl) → List Cl × Bool
  | some p => (out ++ p, true)
  | none => ([], false)
theorem cut_mem (c : UInt8) : ∀ s : List UInt8, ∀ l ∈ cutAt c s, l.length ≤ s.length
  | [], l, h => by
    simp [cutAt] at h
    subst h
    simp
  | b :: s, l, h => by
    have ih := cut_mem c s
    rw [cutAt] at h
    split at h
    · rcases List.mem_cons.1 h with rfl | h
      · simp
      · have := ih l h; simp; omega
    · cases hc : cutAt c s with
      | nil => exact absurd hc (cutAt_ne c s)
      | cons x r =>
        rw [hc] at h ih
        rcases List.mem_cons.1 h with rfl | h
        · have := ih x (by simp); simp; omega
        · have := ih l (by simp [h]); simp; omega
theorem cutAt_len (c : UInt8) : ∀ s : List UInt8, (cutAt c s).length ≤ s.length + 1
  | [] => by simp [cutAt]
  | b :: s => by
    have ih := cutAt_len c s
    rw [cutAt]
    split
    · simp; omega
    · cases hc : cutAt c s with
      | nil => simp
      | cons x r => rw [hc] at ih; simp at ih ⊢; omega
set_option maxHeartbeats 1600000 in
theorem ppSpec_calls (s : List UInt8) (hs : s.length ≤ 1000000) (H : Heap) : ACalls Tryz.prog 76 [.c (.d (.str s))] H (fun r H' => H' = H ∧ r = progA (progR Tm.wr s)) := by
  refine acalls Tryz.func76 (by kernel_rfl) ac76_ok fun hf => ?_
  have c1 := cut_calls s hs 10
  have e10 : ((10 : UInt8).toNat : Int) = 10 := rfl
  rw [e10] at c1
  have hmem := cut_mem 10 s
  have hlen := cutAt_len 10 s
  have hne := cutAt_ne 10 s
  unfold progR
  generalize cutAt 10 s = L at *
  have hll : inR .i64 (L.length : Int) := small_i64 (by omega) (by omega)
  have hl1 : inR .i64 ((L.length : Int) - 1) := small_i64 (by omega) (by omega)
  have hlp : 1 ≤ L.length := by cases L with
    | nil => exact absurd rfl hne
    | cons a l => simp
  simp -implicitDefEqProofs [ac76, go_sem, -List.set_cons_succ, -List.set_cons_zero]
  refine qcall_pure c1 hf rfl ?_
  by_cases h21 : 21 < L.length
  · have h21' : (21 : Int) < L.length := by omega
    simp -implicitDefEqProofs [hll, hl1, h21, h21', progA, hf, go_sem, -List.set_cons_succ, -List.set_cons_zero]
    refine row_off [.str []] ?_
    simp -implicitDefEqProofs [hf, go_sem, -List.set_cons_succ, -List.set_cons_zero]
  · have h21' : ¬ (21 : Int) < L.length := by omega
    simp -implicitDefEqProofs [hll, hl1, h21, h21', hf, go_sem, -List.set_cons_succ, -List.set_cons_zero]
    have hlast : L[L.length - 1]? = some (L.getLastD []) := by
      cases L with
      | nil => exact absurd rfl hne
      | cons a l => rw [← List.getLast?_eq_getElem?]; simp [List.getLastD_eq_getLast?, List.getLast?_cons]
    refine row_int [.str (L.getLastD [])] (by omega) (by rw [show ((L.length : Int) - 1).toNat = L.length - 1 by omega, List.getElem?_map, hlast]; rfl) rfl ?_
    cases hlx : L.getLastD [] with
    | cons y ys =>
      have hlx2 : ¬ L.getLast?.getD [] = [] := by rw [List.getLastD_eq_getLast?] at hlx; rw [hlx]; simp
      simp -implicitDefEqProofs [progA, hlx, hlx2, hf, go_sem, -List.set_cons_succ, -List.set_cons_zero]
    | nil =>
      have hlx2 : L.getLast?.getD [] = [] := by rw [List.getLastD_eq_getLast?] at hlx; exact hlx
      simp -implicitDefEqProofs [hlx2, hf, go_sem, -List.set_cons_succ, -List.set_cons_zero]
      refine loop_enter (St.le_token 4 5 rfl) ?_
      have hres : linesR Tm.wr L = linesR Tm.wr (L.drop 0) := rfl
      refine loop_set (σ := Nat × List Cl) (fun x => [(6, .c (.d (.int .i64 x.1))), (4, .c (.own (.l 0) x.2.length (x.2.map Cl.row)))]) (fun _ => H) (fun x => [.grow x.2.length 5])
        (fun x => x.1 + 1 ≤ L.length ∧ x.2.length = x.1 ∧ pre x.2 (linesR Tm.wr (L.drop x.1)) = pre [] (linesR Tm.wr L)) (fun x => L.length - x.1) (0, []) (by simp [setAll]) ⟨hlp, rfl, rfl⟩ ?_
      rintro ⟨i, out⟩ ⟨hi, hol, hpre⟩
      simp only at hi hol hpre
      have hadd : inR .i64 ((i : Int) + 1) := small_i64 (by omega) (by omega)
      have hgoal : (match linesR Tm.wr L with | some p => (p, true) | none => ([], false)) = pre [] (linesR Tm.wr L) := by
        cases linesR Tm.wr L <;> rfl
      have hg2 : ∀ r, r = progA (pre [] (linesR Tm.wr L)) → r = progA (match linesR Tm.wr L with | some p => (p, true) | none => ([], false)) := fun r h => by rw [hgoal]; exact h
      simp -implicitDefEqProofs [setAll, hll, hadd, go_sem, -List.set_cons_succ, -List.set_cons_zero]
      refine ⟨fun hlt => ?_, fun hge => ?_⟩
      · have hlt2 : i < L.length := by omega
        have hdr : L.drop i = L[i] :: L[i + 1] :: L.drop (i + 2) := by
          rw [List.drop_eq_getElem_cons hlt2, List.drop_eq_getElem_cons (by omega : i + 1 < L.length)]
        have hdr2 : L.drop (i + 1) = L[i + 1] :: L.drop (i + 2) := List.drop_eq_getElem_cons (by omega)
        rw [hdr, linesR_cons, ← hdr2] at hpre
        have hll2 : (L[i]).length ≤ 1000000 := by
          have := hmem _ (List.getElem_mem hlt2)
          omega
        refine row_of hlt2 rfl ?_
        simp -implicitDefEqProofs [strRow, hf, go_sem, -List.set_cons_succ, -List.set_cons_zero]
        refine qcall_pure (pcSpec_calls L[i] hll2) hf (by cases clauseR Tm.wr L[i] <;> simp [clA, A.re, A.res, C.re, re_d]) ?_
        cases hc : clauseR Tm.wr L[i] with
        | none =>
          simp -implicitDefEqProofs [clA, zCl, Cl.row, Tm.k, Tm.n, Tm.s, Tm.kids, hf, go_sem, -List.set_cons_succ, -List.set_cons_zero]
          refine hg2 _ ?_
          rw [← hpre, hc]
          cases linesR Tm.wr (L.drop (i + 1)) <;> rfl
        | some c =>
          rw [hc] at hpre
          simp -implicitDefEqProofs [clA, crow_len, take_crow, toDs_map, hadd, hf, go_sem, -List.set_cons_succ, -List.set_cons_zero]
          refine ⟨allLen_map crow_len, by unfold maxApp; omega, ?_⟩
          refine loop_less (i + 1, out ++ [c]) (St.le_cut [_] ?_ (by simp [Sl.le, A.le_refl_iff, A.le_u_iff, As.lo, A.lo, C.lo, Ref.lo, Cs.lo, Obs.lo, Ob.lo, setAll, and_true, true_and, List.length_nil, List.length_cons]) (by simp; rfl) (by simp [Sl.le, A.le_refl_iff, A.le_u_iff, As.lo, A.lo, C.lo, Ref.lo, Cs.lo, Obs.lo, Ob.lo, setAll, and_true, true_and, List.length_nil, List.length_cons])) ⟨by dsimp only; omega, by simp; omega, ?_⟩ (by show L.length - (i + 1) < L.length - i; omega)
          · simp [setAll, Sl.le, A.le_refl_iff, A.le_u_iff, As.lo, A.lo, C.lo, Ref.lo, Cs.lo, Obs.lo, Ob.lo, setAll, and_true, true_and, List.length_nil, List.length_cons]
          · rw [← hpre]
            simp only
            cases linesR Tm.wr (L.drop (i + 1)) with
            | none => rfl
            | some p => simp [pre]
      · refine hg2 _ ?_
        obtain rfl : i = L.length - 1 := by omega
        have hd1 : L.drop (L.length - 1) = [L.getLastD []] := by
          rw [List.drop_eq_getElem_cons (by omega)]
          have := hlast
          rw [List.getElem?_eq_getElem (by omega)] at this
          rw [Option.some.inj this, List.drop_eq_nil_of_le (by omega)]
        rw [← hpre, hd1]
        simp [linesR, pre, progA]
end Go.Proofs.YteighafofbohcaaGreat

/-
  Slices of bytes as data.
  Conditions: none.
-/
open Go Go.AM Go.Proofs
namespace Go.Proofs.YteighafofbohcaaGreat
open Go.ChangeShapes Go.WideShapes Go.ChangeAt Go.RowKit
set_option linter.unusedVariables false
set_option linter.unusedSimpArgs false
set_option maxRecDepth 100000
theorem bytesRows_len {s : List UInt8} : (bytesRows s).length = s.length := by simp [bytesRows]
theorem bytesRows_nil {s : List UInt8} : bytesRows s = [] ↔ s = [] := by simp [bytesRows]
theorem bytesRows_get {s : List UInt8} {i : Nat} (h : i < s.length) : (bytesRows s)[i]? = some [.int .u8 s[i].toNat] := by simp [bytesRows, h]
theorem allLen_bytes {s : List UInt8} : allLen 1 (bytesRows s) ↔ True := iff_true_intro fun r hr => by
  simp only [bytesRows, List.mem_map] at hr
  obtain ⟨b, _, rfl⟩ := hr
  rfl
theorem take_bytes {s : List UInt8} {n : Nat} : (bytesRows s).take n = bytesRows (s.take n) := by simp [bytesRows]
theorem drop_bytes {s : List UInt8} {n : Nat} : (bytesRows s).drop n = bytesRows (s.drop n) := by simp [bytesRows]
theorem append_bytes {s t : List UInt8} : bytesRows s ++ bytesRows t = bytesRows (s ++ t) := by simp [bytesRows]
theorem bytes_ty {row : List D} (h : HasTy Tryz.prog 22 row) : ∃ s : List UInt8, row = [.sl (bytesRows s)] ∧ s.length ≤ reachBytes := by
  obtain ⟨rows, rfl, hb, hc, ht⟩ := h.sl_inv Tryz.underlying22
  rw [show Tryz.prog.bytesOf 5 = 1 from by kernel_rfl] at hb
  obtain ⟨l, rfl, hl⟩ := list_of_ty (f := fun b : UInt8 => [.int .u8 b.toNat]) (p := fun _ => True) (rows := rows) (fun r hr => by
    obtain ⟨n, e, hn⟩ := (ht r hr).int_inv Tryz.underlying5
    refine ⟨UInt8.ofNat n.toNat, ?_, trivial⟩
    rw [e]
    have h1 : 0 ≤ n ∧ n ≤ 255 := by simpa [inR, IntKind.min, IntKind.max, IntKind.signed, IntKind.bits] using hn
    have : ((UInt8.ofNat n.toNat).toNat : Int) = n := by
      rw [UInt8.toNat_ofNat']
      omega
    rw [this])
  exact ⟨l, rfl, by simpa using hb⟩
theorem byteRow {s : List UInt8} {i : Int} {K : A → St → Prop} {st : St} (h0 : 0 ≤ i) (h : i < s.length) (hk : K (.c (.el [.int .u8 (s[i.toNat]'(by omega)).toNat] 0)) st) : RowK true (bytesRows s) i 1 K st :=
  row_int _ h0 (bytesRows_get (by omega)) rfl hk
theorem u8_i64 (b : UInt8) : IntKind.wrap .i64 (b.toNat : Int) = b.toNat := by
  rw [IntKind.wrap_i64]
  have := b.toNat_lt
  omega
end Go.Proofs.YteighafofbohcaaGreat

/-
  The source of draws: its first functions, each by what it answers.
  Conditions: none.
-/
open Go Go.AM Go.Proofs
namespace Go.Proofs.YteighafofbohcaaGreat
open Go.ChangeShapes Go.WideShapes Go.ChangeAt Go.RowKit
set_option linter.unusedVariables false
set_option linter.unusedSimpArgs false
set_option maxRecDepth 100000
-- 42 (*loop.example/prologserver/spec.l18Rd).pick params 2 ntmps 99
def ac42 : Cd := .seq (.region [⟨(some 4), .mv (.k (.c (.d (.int .i64 0)))), none⟩] [4])
 (.seq (.region [⟨(some 7), .mv (.t 0), none⟩,
 ⟨(some 8), .mv (.t 0), none⟩,
 ⟨(some 9), .nilCheck (.t 8), none⟩,
 ⟨(some 10), .fieldAddr 1 (.t 9), none⟩,
 ⟨(some 11), .load none (.t 10), none⟩,
 ⟨(some 12), .bin .add (.t 11) (.k (.c (.d (.int .i64 1)))), none⟩,
 ⟨(some 13), .nilCheck (.t 7), none⟩,
 ⟨(some 14), .fieldAddr 1 (.t 13), none⟩,
 ⟨none, .store 1 (.t 14) (.t 12), none⟩] [7, 8, 9, 10, 11, 12, 13, 14])
 (.seq (.seq (.region [⟨(some 15), .mv (.t 1), none⟩,
 ⟨(some 16), .bin .lss (.t 15) (.k (.c (.d (.int .i64 1)))), none⟩,
 ⟨(some 17), .mv (.t 16), none⟩,
 ⟨(some 18), .mv (.t 0), some (17, false)⟩,
 ⟨(some 19), .nilCheck (.t 18), some (17, false)⟩,
 ⟨(some 20), .fieldAddr 0 (.t 19), some (17, false)⟩,
 ⟨(some 21), .load none (.t 20), some (17, false)⟩,
 ⟨(some 22), .len 1 (.t 21), some (17, false)⟩,
 ⟨(some 23), .bin .eql (.t 22) (.k (.c (.d (.int .i64 0)))), some (17, false)⟩,
 ⟨(some 24), .pick (.t 17) (.k (.c (.d (.bool true)))) (.t 23), none⟩] [15, 16, 17, 18, 19, 20, 21, 22, 23])
 (.cond (.t 24)
 (.seq (.region [⟨(some 4), .mv (.k (.c (.d (.int .i64 0)))), none⟩] [0, 1, 24])
 (.ret))
 (.skip)))
 (.seq (.region [⟨(some 25), .mv (.t 0), none⟩,
 ⟨(some 26), .nilCheck (.t 25), none⟩,
 ⟨(some 27), .fieldAddr 1 (.t 26), none⟩,
 ⟨(some 28), .load none (.t 27), none⟩,
 ⟨(some 29), .bin .sub (.t 28) (.k (.c (.d (.int .i64 1)))), none⟩,
 ⟨(some 5), .mv (.t 29), none⟩] [4, 24, 25, 26, 27, 28, 29])
 (.seq (.seq (.region [⟨(some 30), .mv (.t 5), none⟩,
 ⟨(some 31), .mv (.t 0), none⟩,
 ⟨(some 32), .nilCheck (.t 31), none⟩,
 ⟨(some 33), .fieldAddr 0 (.t 32), none⟩,
 ⟨(some 34), .load none (.t 33), none⟩,
 ⟨(some 35), .len 1 (.t 34), none⟩,
 ⟨(some 36), .bin .lss (.t 30) (.t 35), none⟩] [30, 31, 32, 33, 34, 35])
 (.cond (.t 36)
 (.seq (.region [⟨(some 37), .mv (.t 0), none⟩,
 ⟨(some 38), .nilCheck (.t 37), none⟩,
 ⟨(some 39), .fieldAddr 0 (.t 38), none⟩,
 ⟨(some 40), .load none (.t 39), none⟩,
 ⟨(some 41), .mv (.t 5), none⟩,
 ⟨(some 42), .indexAddr 1 (.t 40) (.t 41), none⟩,
 ⟨(some 43), .load none (.t 42), none⟩,
 ⟨(some 44), .cvInt .i64 (.t 43), none⟩,
 ⟨(some 45), .mv (.t 1), none⟩,
 ⟨(some 46), .bin .rem (.t 44) (.t 45), none⟩,
 ⟨(some 4), .mv (.t 46), none⟩] [0, 1, 5, 36, 37, 38, 39, 40, 41, 42, 43, 44, 45, 46])
 (.ret))
 (.skip)))
 (.seq (.region [⟨(some 47), .mv (.t 0), none⟩,
 ⟨(some 48), .nilCheck (.t 47), none⟩,
 ⟨(some 49), .fieldAddr 0 (.t 48), none⟩,
 ⟨(some 51), .mv (.t 5), none⟩,
 ⟨(some 52), .mv (.t 0), none⟩,
 ⟨(some 53), .nilCheck (.t 52), none⟩,
 ⟨(some 54), .fieldAddr 0 (.t 53), none⟩,
 ⟨(some 62), .mv (.t 0), none⟩,
 ⟨(some 63), .nilCheck (.t 62), none⟩,
 ⟨(some 64), .fieldAddr 0 (.t 63), none⟩,
 ⟨(some 66), .mv (.t 5), none⟩,
 ⟨(some 67), .bin .mul (.t 66) (.k (.c (.d (.int .i64 7)))), none⟩,
 ⟨(some 68), .bin .add (.t 67) (.k (.c (.d (.int .i64 3)))), none⟩,
 ⟨(some 69), .mv (.t 0), none⟩,
 ⟨(some 70), .nilCheck (.t 69), none⟩,
 ⟨(some 71), .fieldAddr 0 (.t 70), none⟩,
 ⟨(some 80), .mv (.t 5), none⟩,
 ⟨(some 81), .bin .mul (.t 80) (.k (.c (.d (.int .i64 29)))), none⟩,
 ⟨(some 83), .mv (.t 5), none⟩,
 ⟨(some 84), .mv (.t 0), none⟩,
 ⟨(some 85), .nilCheck (.t 84), none⟩,
 ⟨(some 86), .fieldAddr 0 (.t 85), none⟩,
 ⟨(some 50), .load none (.t 49), none⟩,
 ⟨(some 55), .load none (.t 54), none⟩,
 ⟨(some 56), .len 1 (.t 55), none⟩,
 ⟨(some 57), .bin .rem (.t 51) (.t 56), none⟩,
 ⟨(some 58), .indexAddr 1 (.t 50) (.t 57), none⟩,
 ⟨(some 59), .load none (.t 58), none⟩,
 ⟨(some 60), .cvInt .i64 (.t 59), none⟩,
 ⟨(some 61), .bin .mul (.t 60) (.k (.c (.d (.int .i64 131)))), none⟩,
 ⟨(some 65), .load none (.t 64), none⟩,
 ⟨(some 72), .load none (.t 71), none⟩,
 ⟨(some 73), .len 1 (.t 72), none⟩,
 ⟨(some 74), .bin .rem (.t 68) (.t 73), none⟩,
 ⟨(some 75), .indexAddr 1 (.t 65) (.t 74), none⟩,
 ⟨(some 76), .load none (.t 75), none⟩,
 ⟨(some 77), .cvInt .i64 (.t 76), none⟩,
 ⟨(some 78), .bin .mul (.t 77) (.k (.c (.d (.int .i64 1117)))), none⟩,
 ⟨(some 79), .bin .add (.t 61) (.t 78), none⟩,
 ⟨(some 82), .bin .add (.t 79) (.t 81), none⟩,
 ⟨(some 87), .load none (.t 86), none⟩,
 ⟨(some 88), .len 1 (.t 87), none⟩,
 ⟨(some 89), .bin .quo (.t 83) (.t 88), none⟩,
 ⟨(some 90), .bin .mul (.t 89) (.k (.c (.d (.int .i64 53)))), none⟩,
 ⟨(some 91), .bin .add (.t 82) (.t 90), none⟩,
 ⟨(some 6), .mv (.t 91), none⟩] [0, 4, 5, 36, 47, 48, 49, 50, 51, 52, 53, 54, 55, 56, 57, 58, 59, 60, 61, 62, 63, 64, 65, 66, 67, 68, 69, 70, 71, 72, 73, 74, 75, 76, 77, 78, 79, 80, 81, 82, 83, 84, 85, 86, 87, 88, 89, 90, 91])
 (.seq (.region [⟨(some 92), .mv (.t 6), none⟩,
 ⟨(some 93), .mv (.t 6), none⟩,
 ⟨(some 94), .bin .quo (.t 93) (.k (.c (.d (.int .i64 64)))), none⟩,
 ⟨(some 95), .bin .xor (.t 92) (.t 94), none⟩,
 ⟨(some 6), .mv (.t 95), none⟩] [92, 93, 94, 95])
 (.seq (.region [⟨(some 96), .mv (.t 6), none⟩,
 ⟨(some 97), .mv (.t 1), none⟩,
 ⟨(some 98), .bin .rem (.t 96) (.t 97), none⟩,
 ⟨(some 4), .mv (.t 98), none⟩] [1, 6, 96, 97, 98])
 (.ret))))))))
theorem ac42_ok : cFunc Tryz.prog [] [(0, [4], []), (1, [7, 8, 9, 10, 11, 12, 13, 14], []), (2, [15, 16, 17, 18, 19, 20, 21, 22, 23], []), (3, [0, 1, 24], []), (4, [4, 24, 25, 26, 27, 28, 29], []), (5, [30, 31, 32, 33, 34, 35], []), (6, [0, 1, 5, 36, 37, 38, 39, 40, 41, 42, 43, 44, 45, 46], []), (7, [0, 4, 5, 36, 47, 48, 49, 50, 51, 52, 53, 54, 55, 56, 57, 58, 59, 60, 61, 62, 63, 64, 65, 66, 67, 68, 69, 70, 71, 72, 73, 74, 75, 76, 77, 78, 79, 80, 81, 82, 83, 84, 85, 86, 87, 88, 89, 90, 91], [0, 1, 2, 4, 5, 6, 7, 15, 16, 17, 19, 20, 21, 22, 23, 24, 33, 34, 36, 37, 38, 39, 3, 8, 9, 10, 11, 12, 13, 14, 18, 25, 26, 27, 28, 29, 30, 31, 32, 35, 40, 41, 42, 43, 44, 45]), (8, [92, 93, 94, 95], []), (9, [1, 6, 96, 97, 98], [])] Tryz.f42 = some (ac42, [.tmp 4], 99) := by kernel_rfl
-- 21 loop.example/prologserver/spec.l18Open params 1 ntmps 11
def ac21 : Cd := .seq (.region [⟨(some 2), .mv (.k (.c (.d (.v (.pointer none))))), none⟩] [2])
 (.seq (.seq (.region [⟨(some 3), .mv (.t 0), none⟩,
 ⟨(some 4), .len 1 (.t 3), none⟩,
 ⟨(some 5), .bin .gtr (.t 4) (.k (.c (.d (.int .i64 2000)))), none⟩] [3, 4])
 (.cond (.t 5)
 (.region [⟨(some 6), .mv (.t 0), none⟩,
 ⟨(some 7), .slice 1 (.t 6) none (some (.k (.c (.d (.int .i64 2000))))) none, none⟩,
 ⟨(some 0), .mv (.t 7), none⟩] [5, 6, 7])
 (.skip)))
 (.seq (.region [⟨(some 8), .mv (.t 0), none⟩,
 ⟨(some 9), .build [(.full []), (.d (.int .i64 0))] [(0, 1, (.t 8))], none⟩,
 ⟨(some 10), .box (.t 9), none⟩,
 ⟨(some 2), .mv (.t 10), none⟩] [0, 5, 8, 9, 10])
 (.ret)))
theorem ac21_ok : cFunc Tryz.prog [] [(0, [2], []), (1, [3, 4], []), (2, [5, 6, 7], []), (3, [0, 5, 8, 9, 10], [])] Tryz.f21 = some (ac21, [.tmp 2], 11) := by kernel_rfl
-- 69 (*loop.example/prologserver/spec.l18Rd).num params 2 ntmps 12
def ac69 : Cd := .seq (.region [⟨(some 4), .mv (.k (.c (.d (.int .i64 0)))), none⟩] [4])
 (.seq (.region [⟨(some 5), .mv (.t 1), none⟩,
 ⟨(some 6), .mv (.t 0), none⟩,
 ⟨(some 7), .mv (.t 1), none⟩,
 ⟨(some 8), .len 1 (.t 7), none⟩,
 ⟨(some 9), .call false 42 [(.t 6), (.t 8)], none⟩,
 ⟨(some 10), .indexAddr 1 (.t 5) (.t 9), none⟩,
 ⟨(some 11), .load none (.t 10), none⟩,
 ⟨(some 4), .mv (.t 11), none⟩] [0, 1, 5, 6, 7, 8, 9, 10, 11])
 (.ret))
theorem ac69_ok : cFunc Tryz.prog [] [(0, [4], []), (1, [0, 1, 5, 6, 7, 8, 9, 10, 11], [])] Tryz.f69 = some (ac69, [.tmp 4], 12) := by kernel_rfl
/-- a source of draws, at a place -/
def Rd (c : List UInt8) (p : Int) : Ob := .cells [.d (.sl (bytesRows c)), .d (.int .i64 p)]
theorem xor_small {x y : Int} (hx : 0 ≤ x) (hx1 : x < 1099511627776) (hy : 0 ≤ y) (hy1 : y < 1099511627776) : 0 ≤ bitsVal .xor .i64 x y ∧ bitsVal .xor .i64 x y < 1099511627776 := by
  obtain ⟨a, rfl⟩ := Int.eq_ofNat_of_zero_le hx
  obtain ⟨b, rfl⟩ := Int.eq_ofNat_of_zero_le hy
  have hx : a < 2 ^ 40 := by omega
  have hy : b < 2 ^ 40 := by omega
  have hxor : a ^^^ b < 2 ^ 40 := Nat.xor_lt_two_pow hx hy
  have e : ((BitVec.ofInt 64 (a : Int)) ^^^ (BitVec.ofInt 64 (b : Int))).toNat = a ^^^ b := by
    rw [BitVec.toNat_xor]
    have h1 : (BitVec.ofInt 64 (a : Int)).toNat = a := by rw [BitVec.ofInt_natCast, BitVec.toNat_ofNat, Nat.mod_eq_of_lt (by omega)]
    have h2 : (BitVec.ofInt 64 (b : Int)).toNat = b := by rw [BitVec.ofInt_natCast, BitVec.toNat_ofNat, Nat.mod_eq_of_lt (by omega)]
    rw [h1, h2]
  have : bitsVal .xor .i64 (a : Int) (b : Int) = ((a ^^^ b : Nat) : Int) := by
    show IntKind.wrap .i64 (((BitVec.ofInt 64 (a : Int)) ^^^ (BitVec.ofInt 64 (b : Int))).toNat : Int) = _
    rw [e, IntKind.wrap_i64]
    omega
  rw [this]
  omega
theorem pick_calls (c : List UInt8) (hc : c.length ≤ 2000) (p m : Int) (hp : 0 ≤ p) (hp1 : p ≤ 1000000) (hm : -1000000000 ≤ m ∧ m ≤ 1000000000) (H : Heap) (i : Nat) (hi : i < H.length) :
    ACalls Tryz.prog 42 [.c (.ptr (.e i) 0), .c (.d (.int .i64 m))] (H.set i (Rd c p)) (fun r H' => ∃ k : Int, r = .c (.d (.int .i64 k)) ∧ 0 ≤ k ∧ (0 < m → k < m) ∧ H' = H.set i (Rd c (p + 1))) := by
  refine acalls Tryz.func42 (by kernel_rfl) ac42_ok fun hf => ?_
  have hadd : inR .i64 (p + 1) := small_i64 (by omega) (by omega)
  have hl : inR .i64 (c.length : Int) := small_i64 (by omega) (by omega)
  have hi64 : inR .i64 p := small_i64 (by omega) (by omega)
  simp only [List.length_set] at hf
  simp -implicitDefEqProofs [ac42, Rd, hadd, hl, hi64, hi, List.getElem?_set, bytesRows_len, go_sem, -List.set_cons_succ, -List.set_cons_zero]
  have hfit : Obs.fits H.length 0 (H.set i (.cells [.d (.sl (bytesRows c)), .d (.int .i64 (p + 1))])) := fits_reset hf ⟨trivial, trivial, trivial⟩
  refine ⟨hfit, fun h1 hc0 => ⟨fun h2 => ?_, fun h2 => ?_⟩⟩
  · refine byteRow hp (by omega) ?_
    simp -implicitDefEqProofs [u8_i64, go_sem, -List.set_cons_succ, -List.set_cons_zero]
    refine ⟨by omega, Int.tmod_nonneg _ (by omega), fun h => Int.tmod_lt_of_pos _ h⟩
  · have hcl : 0 < c.length := by cases c with | nil => exact absurd rfl hc0 | cons a l => simp
    refine ⟨small_i64 (by omega) (by omega), small_i64 (by omega) (by omega), small_i64 (by omega) (by omega), hc0, ?_⟩
    have hm1 := Int.tmod_nonneg (a := p) (c.length : Int) hp
    have hm2 := Int.tmod_lt_of_pos p (b := (c.length : Int)) (by omega)
    refine byteRow hm1 (by omega) ?_
    have hb1 := (c[(p.tmod ↑c.length).toNat]'(by omega)).toNat_lt
    have hq : 0 ≤ (p * 7 + 3).tmod (c.length : Int) := Int.tmod_nonneg _ (by omega)
    have hq2 := Int.tmod_lt_of_pos (p * 7 + 3) (b := (c.length : Int)) (by omega)
    simp -implicitDefEqProofs [u8_i64, hcl, hi, hl, bytesRows_len, bytesRows_nil, hc0, List.getElem?_set, go_sem, -List.set_cons_succ, -List.set_cons_zero]
    refine ⟨small_i64 (by omega) (by omega), byteRow hq (by omega) ?_⟩
    have hb2 := (c[((p * 7 + 3).tmod ↑c.length).toNat]'(by omega)).toNat_lt
    have hd0 : 0 ≤ p.tdiv (c.length : Int) := Int.tdiv_nonneg hp (by omega)
    have hd1 : p.tdiv (c.length : Int) ≤ p := Int.tdiv_le_self _ hp
    generalize ((c[(p.tmod ↑c.length).toNat]'(by omega)).toNat : Nat) = b1 at hb1
    generalize ((c[((p * 7 + 3).tmod ↑c.length).toNat]'(by omega)).toNat : Nat) = b2 at hb2
    generalize hdd : p.tdiv (c.length : Int) = d at hd0 hd1
    have i1 : inR .i64 ((b2 : Int) * 1117) := small_i64 (by omega) (by omega)
    have i2 : inR .i64 ((b1 : Int) * 131 + (b2 : Int) * 1117) := small_i64 (by omega) (by omega)
    have i3 : inR .i64 ((b1 : Int) * 131 + (b2 : Int) * 1117 + p * 29) := small_i64 (by omega) (by omega)
    have i4 : inR .i64 d := small_i64 (by omega) (by omega)
    have i5 : inR .i64 (d * 53) := small_i64 (by omega) (by omega)
    have i6 : inR .i64 ((b1 : Int) * 131 + (b2 : Int) * 1117 + p * 29 + d * 53) := small_i64 (by omega) (by omega)
    have hw : IntKind.wrap .i64 (b2 : Int) = b2 := by rw [IntKind.wrap_i64]; omega
    generalize hX : (b1 : Int) * 131 + (b2 : Int) * 1117 + p * 29 + d * 53 = X at i6
    have hx0 : 0 ≤ X := by omega
    have hx1 : X < 1099511627776 := by omega
    have j1 : 0 ≤ X.tdiv 64 := Int.tdiv_nonneg hx0 (by omega)
    have j2 : X.tdiv 64 ≤ X := Int.tdiv_le_self _ hx0
    obtain ⟨k1, k2⟩ := xor_small hx0 hx1 j1 (by omega)
    have i7 : inR .i64 (X.tdiv 64) := small_i64 (by omega) (by omega)
    simp -implicitDefEqProofs [hw, hcl, hi, hl, hdd, i1, i2, i3, i4, i5, hX, i6, i7, bytesRows_len, bytesRows_nil, hc0, List.getElem?_set, go_sem, -List.set_cons_succ, -List.set_cons_zero]
    exact ⟨by omega, Int.tmod_nonneg _ k1, fun h => Int.tmod_lt_of_pos _ h⟩

/-- what a function that draws gives: its source stands behind where it stood -/
def Drew (R : A → Prop) (N : Int) (c : List UInt8) (p : Int) (H : Heap) (i : Nat) (r : A) (H' : Heap) : Prop := R r ∧ ∃ p', p ≤ p' ∧ p' ≤ p + N ∧ H' = H.set i (Rd c p')
/-- what a function that draws is shown to give -/
def Draws (f : FuncId) (xs : List A) (N : Int) (R : A → Prop) : Prop :=
  ∀ (c : List UInt8) (p : Int) (H : Heap) (i : Nat), c.length ≤ 2000 → 0 ≤ p → p + N ≤ 1000000 → i < H.length → ACalls Tryz.prog f (.c (.ptr (.e i) 0) :: xs) (H.set i (Rd c p)) (Drew R N c p H i)
/-- an integer in a range -/
def IntIn (lo hi : Int) (r : A) : Prop := ∃ k : Int, r = .c (.d (.int .i64 k)) ∧ lo ≤ k ∧ k < hi
theorem pick_draws (m : Int) (hm : 1 ≤ m ∧ m ≤ 1000000000) : Draws 42 [.c (.d (.int .i64 m))] 1 (IntIn 0 m) := fun c p H i hc hp hp1 hi =>
  (pick_calls c hc p m hp (by omega) ⟨by omega, hm.2⟩ H i hi).mono fun r H' ⟨k, h1, h2, h3, h4⟩ => ⟨⟨k, h1, h2, h3 (by omega)⟩, p + 1, by omega, by omega, h4⟩

/-- a call that draws from a source that was handed in -/
theorem call_drawE {f : FuncId} {xs : List A} {N : Int} {R : A → Prop} (hd : Draws f xs N R) {c : List UInt8} {p : Int} {H : Heap} {i : Nat} {sl : List A} {loc H₂ : Heap} {K : A → St → Prop} (hc : c.length ≤ 2000) (hp : 0 ≤ p) (hp1 : p + N ≤ 1000000) (hi : i < H.length)
    (hH : H₂ = H.set i (Rd c p) ++ loc.map (Ob.re H.length)) (hr : ∀ r, R r → A.re H.length r = r) (hf : Obs.fits H.length 0 (H.set i (Rd c p))) (hk : ∀ r p', R r → p ≤ p' → p' ≤ p + N → K r ⟨sl, H.set i (Rd c p'), loc⟩) :
    ACalls Tryz.prog f (.c (.ptr (.e i) 0) :: xs) H₂ (CallK K ⟨sl, H.set i (Rd c p), loc⟩) := by
  subst hH
  have h := hd c p (H ++ loc.map (Ob.re H.length)) i hc hp hp1 (by simp; omega)
  rw [List.set_append_left _ _ hi] at h
  refine h.mono fun r H' ⟨h1, p', h2, h3, h4⟩ => ?_
  rw [List.set_append_left _ _ hi] at h4
  exact ⟨H.set i (Rd c p'), loc, r, by simpa using h4, by simp, Nat.le_refl _, by simpa using fits_reset (b := Rd c p') hf ⟨trivial, trivial, trivial⟩, by simpa using (hr r h1).symm, hk r p' h1 h2 h3⟩
/-- a call that draws from an own source, the first own object -/
theorem call_drawL {f : FuncId} {xs : List A} {N : Int} {R : A → Prop} (hd : Draws f xs N R) {c : List UInt8} {p : Int} {H : Heap} {sl : List A} {loc H₂ : Heap} {j : Nat} {K : A → St → Prop} (hc : c.length ≤ 2000) (hp : 0 ≤ p) (hp1 : p + N ≤ 1000000) (hj : loc[j]? = some (Rd c p))
    (hH : H₂ = H ++ loc.map (Ob.re H.length)) (hr : ∀ r, R r → A.re H.length r = r) (hf : Obs.fits H.length 0 H) (hk : ∀ r p', R r → p ≤ p' → p' ≤ p + N → K r ⟨sl, H, loc.set j (Rd c p')⟩) :
    ACalls Tryz.prog f (.c (.ptr (.e (H.length + j)) 0) :: xs) H₂ (CallK K ⟨sl, H, loc⟩) := by
  subst hH
  have hjl : j < loc.length := (List.getElem?_eq_some_iff.1 hj).1
  have h := hd c p (H ++ loc.map (Ob.re H.length)) (H.length + j) hc hp hp1 (by simp; omega)
  have e : ∀ q, (H ++ loc.map (Ob.re H.length)).set (H.length + j) (Rd c q) = H ++ (loc.set j (Rd c q)).map (Ob.re H.length) := fun q => by
    rw [List.set_append_right _ _ (by omega), Nat.add_sub_cancel_left, List.map_set]
    rfl
  have e0 : loc.set j (Rd c p) = loc := by
    apply List.ext_getElem?
    intro k
    rw [List.getElem?_set]
    split
    · rename_i h; subst h; rw [hj]
    · rfl
  rw [e, e0] at h
  refine h.mono fun r H' ⟨h1, p', h2, h3, h4⟩ => ?_
  rw [e] at h4
  exact ⟨H, loc.set j (Rd c p'), r, h4, rfl, by simp, hf, (hr r h1).symm, hk r p' h1 h2 h3⟩
theorem IntIn.re {lo hi : Int} {n : Nat} {r : A} (h : IntIn lo hi r) : A.re n r = r := by
  obtain ⟨k, rfl, _⟩ := h
  rfl

theorem num_draws (l : List Int) (hl : 1 ≤ l.length ∧ l.length ≤ 1000) : Draws 69 [.c (.d (.sl (l.map fun n => [.int .i64 n])))] 1 (fun r => ∃ n ∈ l, r = .c (.d (.int .i64 n))) := fun c p H i hc hp hp1 hi => by
  refine acalls Tryz.func69 (by kernel_rfl) ac69_ok fun hf => ?_
  simp only [List.length_set] at hf
  have hll : inR .i64 (l.length : Int) := small_i64 (by omega) (by omega)
  simp -implicitDefEqProofs [ac69, hll, go_sem, -List.set_cons_succ, -List.set_cons_zero]
  refine call_drawE (pick_draws l.length ⟨by omega, by omega⟩) hc hp hp1 hi (by simp) (fun r => IntIn.re) hf ?_
  rintro _ p' ⟨k, rfl, h1, h2⟩ h3 h4
  simp -implicitDefEqProofs [go_sem, -List.set_cons_succ, -List.set_cons_zero]
  have hk : k.toNat < l.length := by omega
  refine row_int [.int .i64 l[k.toNat]] h1 (by simp [hk]) rfl ?_
  simp -implicitDefEqProofs [go_sem, -List.set_cons_succ, -List.set_cons_zero]
  exact ⟨⟨_, List.getElem_mem hk, rfl⟩, p', h3, h4, rfl⟩
theorem open_calls (c : List UInt8) (hc : c.length ≤ 1048576) (H : Heap) : ACalls Tryz.prog 21 [.c (.d (.sl (bytesRows c)))] H (fun r H' => r = .c (.ptr (.e H.length) 0) ∧ ∃ c' : List UInt8, c'.length ≤ 2000 ∧ H' = H ++ [Rd c' 0]) := by
  refine acallsK Tryz.func21 (by kernel_rfl) ac21_ok fun hf => ?_
  have hl : inR .i64 (c.length : Int) := small_i64 (by omega) (by omega)
  simp -implicitDefEqProofs [ac21, hl, bytesRows_len, go_sem, -List.set_cons_succ, -List.set_cons_zero]
  refine ⟨fun h => ⟨?_, by omega, ?_⟩, fun h => ?_⟩
  · intro r hr
    simp only [bytesRows, List.mem_map] at hr
    obtain ⟨b, _, rfl⟩ := hr
    rfl
  · refine finK_ret _ ⟨trivial, trivial⟩ rfl ⟨rfl, c.take 2000, by simp; omega, ?_⟩
    simp [Rd, bytesRows, Ob.re, C.re]
  · refine finK_ret _ ⟨trivial, trivial⟩ rfl ⟨rfl, c, by omega, ?_⟩
    simp [Rd, Ob.re, C.re]
end Go.Proofs.YteighafofbohcaaGreat

/-
  Terms that are drawn.
  Conditions: none.
-/
open Go Go.AM Go.Proofs
namespace Go.Proofs.YteighafofbohcaaGreat
open Go.ChangeShapes Go.WideShapes Go.ChangeAt Go.RowKit
set_option linter.unusedVariables false
set_option linter.unusedSimpArgs false
set_option maxRecDepth 100000
-- 46 (*loop.example/prologserver/spec.l18Rd).of params 2 ntmps 12
def ac46 : Cd := .seq (.region [⟨(some 4), .mv (.k (.c (.d (.str [])))), none⟩] [4])
 (.seq (.region [⟨(some 5), .mv (.t 1), none⟩,
 ⟨(some 6), .mv (.t 0), none⟩,
 ⟨(some 7), .mv (.t 1), none⟩,
 ⟨(some 8), .len 1 (.t 7), none⟩,
 ⟨(some 9), .call false 42 [(.t 6), (.t 8)], none⟩,
 ⟨(some 10), .indexAddr 1 (.t 5) (.t 9), none⟩,
 ⟨(some 11), .load none (.t 10), none⟩,
 ⟨(some 4), .mv (.t 11), none⟩] [0, 1, 5, 6, 7, 8, 9, 10, 11])
 (.ret))
theorem ac46_ok : cFunc Tryz.prog [] [(0, [4], []), (1, [0, 1, 5, 6, 7, 8, 9, 10, 11], [])] Tryz.f46 = some (ac46, [.tmp 4], 12) := by kernel_rfl
-- 48 loop.example/prologserver/spec.l1Draw params 2 ntmps 65
-- loop head live: [0, 1, 4, 5, 6]
def ac48 : Cd := .seq (.region [⟨(some 4), .alloc [(.d (.int .i64 0)), (.d (.int .i64 0)), (.d (.str [])), (.full [])], none⟩] [])
 (.seq (.seq (.region [⟨(some 7), .mv (.t 1), none⟩,
 ⟨(some 8), .bin .lss (.t 7) (.k (.c (.d (.int .i64 2)))), none⟩,
 ⟨(some 9), .mv (.t 8), none⟩,
 ⟨(some 10), .mv (.t 0), some (9, false)⟩,
 ⟨(some 11), .call false 42 [(.t 10), (.k (.c (.d (.int .i64 4))))], some (9, false)⟩,
 ⟨(some 12), .bin .eql (.t 11) (.k (.c (.d (.int .i64 0)))), some (9, false)⟩,
 ⟨(some 13), .pick (.t 9) (.k (.c (.d (.bool true)))) (.t 12), none⟩] [7, 8, 9, 10, 11, 12])
 (.cond (.t 13)
 (.seq (.seq (.region [⟨(some 14), .mv (.t 0), none⟩,
 ⟨(some 15), .call false 42 [(.t 14), (.k (.c (.d (.int .i64 4))))], none⟩] [1, 13, 14])
 (.block 0 (.seq (.region [⟨(some 17), .bin .eql (.t 15) (.k (.c (.d (.int .i64 0)))), none⟩,
 ⟨(some 16), .mv (.t 17), none⟩] [17])
 (.cond (.t 16)
 (.seq (.region [⟨(some 18), .mv (.t 0), none⟩,
 ⟨(some 19), .call false 42 [(.t 18), (.k (.c (.d (.int .i64 4))))], none⟩,
 ⟨(some 20), .qcall 77 [(.t 19)], none⟩,
 ⟨none, .store 4 (.t 4) (.t 20), none⟩] [0, 15, 16, 18, 19, 20])
 (.ret))
 (.seq (.region [⟨(some 22), .bin .eql (.t 15) (.k (.c (.d (.int .i64 1)))), none⟩,
 ⟨(some 21), .mv (.t 22), none⟩] [15, 16, 22])
 (.cond (.t 21)
 (.seq (.region [⟨(some 23), .mv (.t 0), none⟩,
 ⟨(some 24), .buildSlice 1 6 [(.int .i64 0)] [(0, (.k (.c (.d (.int .i64 0))))), (1, (.k (.c (.d (.int .i64 1))))), (2, (.k (.c (.d (.int .i64 7))))), (3, (.k (.c (.d (.int .i64 (-3)))))), (4, (.k (.c (.d (.int .i64 999))))), (5, (.k (.c (.d (.int .i64 (-999))))))], none⟩,
 ⟨(some 25), .call false 69 [(.t 23), (.t 24)], none⟩,
 ⟨(some 26), .qcall 74 [(.t 25)], none⟩,
 ⟨none, .store 4 (.t 4) (.t 26), none⟩] [0, 21, 23, 24, 25, 26])
 (.ret))
 (.skip)))))))
 (.seq (.region [⟨(some 27), .mv (.t 0), none⟩,
 ⟨(some 28), .buildSlice 1 6 [(.str [])] [(0, (.k (.c (.d (.str [97]))))), (1, (.k (.c (.d (.str [98]))))), (2, (.k (.c (.d (.str [110, 105, 108]))))), (3, (.k (.c (.d (.str [91, 93]))))), (4, (.k (.c (.d (.str [102, 111, 111]))))), (5, (.k (.c (.d (.str [43])))))], none⟩,
 ⟨(some 29), .call false 46 [(.t 27), (.t 28)], none⟩,
 ⟨(some 30), .call false 45 [(.t 29), (.k (.c (.full [])))], none⟩,
 ⟨none, .store 4 (.t 4) (.t 30), none⟩] [0, 21, 27, 28, 29, 30])
 (.ret)))
 (.skip)))
 (.seq (.seq (.region [⟨(some 31), .mv (.t 0), none⟩,
 ⟨(some 32), .call false 42 [(.t 31), (.k (.c (.d (.int .i64 3))))], none⟩,
 ⟨(some 33), .bin .eql (.t 32) (.k (.c (.d (.int .i64 0)))), none⟩] [13, 31, 32])
 (.cond (.t 33)
 (.seq (.region [⟨(some 34), .mv (.t 0), none⟩,
 ⟨(some 35), .mv (.t 1), none⟩,
 ⟨(some 36), .bin .sub (.t 35) (.k (.c (.d (.int .i64 1)))), none⟩,
 ⟨(some 37), .callL false false 48 [(.t 34), (.t 36)], none⟩,
 ⟨(some 38), .mv (.t 0), none⟩,
 ⟨(some 39), .mv (.t 1), none⟩,
 ⟨(some 40), .bin .sub (.t 39) (.k (.c (.d (.int .i64 1)))), none⟩,
 ⟨(some 41), .callL false false 48 [(.t 38), (.t 40)], none⟩,
 ⟨(some 42), .buildSlice 4 2 [(.int .i64 0), (.int .i64 0), (.str []), (.sl [])] [(0, (.t 37)), (1, (.t 41))], none⟩,
 ⟨(some 43), .call false 45 [(.k (.c (.d (.str [46])))), (.t 42)], none⟩,
 ⟨none, .store 4 (.t 4) (.t 43), none⟩] [0, 1, 33, 34, 35, 36, 37, 38, 39, 40, 41, 42, 43])
 (.ret))
 (.skip)))
 (.seq (.region [⟨(some 44), .mv (.t 0), none⟩,
 ⟨(some 45), .buildSlice 1 7 [(.str [])] [(0, (.k (.c (.d (.str [102]))))), (1, (.k (.c (.d (.str [103]))))), (2, (.k (.c (.d (.str [115]))))), (3, (.k (.c (.d (.str [43]))))), (4, (.k (.c (.d (.str [61]))))), (5, (.k (.c (.d (.str [105, 115]))))), (6, (.k (.c (.d (.str [102, 111, 111])))))], none⟩,
 ⟨(some 46), .call false 46 [(.t 44), (.t 45)], none⟩,
 ⟨(some 47), .call false 45 [(.t 46), (.k (.c (.full [])))], none⟩,
 ⟨(some 5), .alloc [(.d (.int .i64 0)), (.d (.int .i64 0)), (.d (.str [])), (.full [])], none⟩,
 ⟨none, .store 4 (.t 5) (.t 47), none⟩] [33, 44, 45, 46, 47])
 (.seq (.seq (.region [⟨(some 48), .mv (.t 0), none⟩,
 ⟨(some 49), .buildSlice 1 4 [(.int .i64 0)] [(0, (.k (.c (.d (.int .i64 2))))), (1, (.k (.c (.d (.int .i64 1))))), (2, (.k (.c (.d (.int .i64 3))))), (3, (.k (.c (.d (.int .i64 2)))))], none⟩,
 ⟨(some 50), .call false 69 [(.t 48), (.t 49)], none⟩,
 ⟨(some 6), .mv (.t 50), none⟩] [48, 49, 50])
 (.block 1 (.loop (.seq (.seq (.region [⟨(some 51), .mv (.t 6), none⟩,
 ⟨(some 52), .bin .gtr (.t 51) (.k (.c (.d (.int .i64 0)))), none⟩] [51])
 (.cond (.t 52)
 (.skip)
 (.exit 1)))
 (.seq (.block 2 (.region [⟨(some 55), .fieldAddr 3 (.t 5), none⟩,
 ⟨(some 57), .mv (.t 0), none⟩,
 ⟨(some 58), .mv (.t 1), none⟩,
 ⟨(some 59), .bin .sub (.t 58) (.k (.c (.d (.int .i64 1)))), none⟩,
 ⟨(some 56), .loadL false none (.t 55), none⟩,
 ⟨(some 60), .callL false false 48 [(.t 57), (.t 59)], none⟩,
 ⟨(some 61), .buildSlice 4 1 [(.int .i64 0), (.int .i64 0), (.str []), (.sl [])] [(0, (.t 60))], none⟩,
 ⟨(some 62), .append false 4 (.t 56) (.t 61), none⟩,
 ⟨(some 63), .fieldAddr 3 (.t 5), none⟩,
 ⟨none, .store 1 (.t 63) (.t 62), none⟩] [52, 55, 56, 57, 58, 59, 60, 61, 62, 63]))
 (.region [⟨(some 53), .mv (.t 6), none⟩,
 ⟨(some 54), .bin .sub (.t 53) (.k (.c (.d (.int .i64 1)))), none⟩,
 ⟨(some 6), .mv (.t 54), none⟩] [53, 54]))))))
 (.seq (.region [⟨(some 64), .load (some 4) (.t 5), none⟩,
 ⟨none, .store 4 (.t 4) (.t 64), none⟩] [5, 64])
 (.ret))))))
theorem ac48_ok : cFunc Tryz.prog [1000074, 1000077, 5000055, 6000048] [(0, [], []), (1, [7, 8, 9, 10, 11, 12], []), (2, [1, 13, 14], []), (3, [17], []), (4, [0, 15, 16, 18, 19, 20], []), (5, [15, 16, 22], []), (6, [0, 21, 23, 24, 25, 26], []), (7, [0, 21, 27, 28, 29, 30], []), (8, [13, 31, 32], []), (9, [0, 1, 33, 34, 35, 36, 37, 38, 39, 40, 41, 42, 43], []), (10, [33, 44, 45, 46, 47], []), (11, [48, 49, 50], []), (12, [51], []), (14, [52, 55, 56, 57, 58, 59, 60, 61, 62, 63], [0, 2, 3, 4, 1, 5, 6, 7, 8, 9]), (13, [53, 54], []), (15, [5, 64], [])] Tryz.f48 = some (ac48, [.cell 4 (some 4)], 65) := by kernel_rfl
namespace Full
-- 45 loop.example/prologserver/spec.l1Struct params 2 ntmps 10
def ac45 : Cd := .seq (.region [⟨(some 4), .alloc [(.d (.int .i64 0)), (.d (.int .i64 0)), (.d (.str [])), (.full [])], none⟩] [])
 (.seq (.region [⟨(some 5), .mv (.t 0), none⟩,
 ⟨(some 6), .buildSlice 4 0 [(.int .i64 0), (.int .i64 0), (.str []), (.sl [])] [], none⟩,
 ⟨(some 7), .mv (.t 1), none⟩,
 ⟨(some 8), .appendF 4 (.t 6) (.t 7), none⟩,
 ⟨(some 9), .build [(.d (.int .i64 0)), (.d (.int .i64 0)), (.d (.str [])), (.full [])] [(0, 1, (.k (.c (.d (.int .i64 3))))), (2, 1, (.t 5)), (3, 1, (.t 8))], none⟩,
 ⟨none, .store 4 (.t 4) (.t 9), none⟩] [0, 1, 5, 6, 7, 8, 9])
 (.ret))
theorem ac45_ok : cFunc Tryz.prog [3000006] [(0, [], []), (1, [0, 1, 5, 6, 7, 8, 9], [])] Tryz.f45 = some (ac45, [.cell 4 (some 4)], 10) := by kernel_rfl
end Full
theorem of_draws (l : List (List UInt8)) (hl : 1 ≤ l.length ∧ l.length ≤ 1000) : Draws 46 [.c (.d (.sl (l.map fun s => [.str s])))] 1 (fun r => ∃ s ∈ l, r = .c (.d (.str s))) := fun c p H i hc hp hp1 hi => by
  refine acalls Tryz.func46 (by kernel_rfl) ac46_ok fun hf => ?_
  simp only [List.length_set] at hf
  have hll : inR .i64 (l.length : Int) := small_i64 (by omega) (by omega)
  simp -implicitDefEqProofs [ac46, hll, go_sem, -List.set_cons_succ, -List.set_cons_zero]
  refine call_drawE (pick_draws l.length ⟨by omega, by omega⟩) hc hp hp1 hi (by simp) (fun r => IntIn.re) hf ?_
  rintro _ p' ⟨k, rfl, h1, h2⟩ h3 h4
  simp -implicitDefEqProofs [go_sem, -List.set_cons_succ, -List.set_cons_zero]
  have hk : k.toNat < l.length := by omega
  refine row_int [.str l[k.toNat]] h1 (by simp [hk]) rfl ?_
  simp -implicitDefEqProofs [go_sem, -List.set_cons_succ, -List.set_cons_zero]
  exact ⟨⟨_, List.getElem_mem hk, rfl⟩, p', h3, h4, rfl⟩
/-- a structure without arguments: nothing stands behind its arguments -/
theorem struct_full (name : List UInt8) (H : Heap) : ACalls Tryz.prog 45 [.c (.d (.str name)), .c (.d (.sl []))] H (fun r H' => H' = H ++ [.cells [.d (.int .i64 3), .d (.int .i64 0), .d (.str name), .full []]] ∧ r = .agg [.d (.int .i64 3), .d (.int .i64 0), .d (.str name), .full []]) := by
  refine acallsK Tryz.func45 (by kernel_rfl) Full.ac45_ok fun hf => ?_
  simp -implicitDefEqProofs [Full.ac45, hf, go_sem, -List.set_cons_succ, -List.set_cons_zero]
  refine finK_ret _ ⟨trivial, trivial⟩ rfl ?_
  simp [Ob.re, C.re, A.re]
/-- a call that leaves one object more, which looks at no other -/
theorem call_new {P : Program} {f : FuncId} {xs : List A} {sl : List A} {ext loc H₂ : Heap} {o : Ob} {r : A} {K : A → St → Prop} (hc : ∀ H, ACalls P f xs H (fun r' H' => H' = H ++ [o] ∧ r' = r)) (ho : Ob.re ext.length o = o) (hr : A.re ext.length r = r)
    (hf : Obs.fits ext.length 0 ext) (hH : H₂ = ext ++ loc.map (Ob.re ext.length)) (hk : K r ⟨sl, ext, loc ++ [o]⟩) : ACalls P f xs H₂ (CallK K ⟨sl, ext, loc⟩) := by
  subst hH
  exact (hc _).mono fun r' H' ⟨h1, h2⟩ => ⟨ext, loc ++ [o], r, by rw [h1, List.append_assoc, List.map_append]; simp [ho], rfl, by simp, hf, by rw [h2]; exact hr.symm, hk⟩
/-- a term that a law looks at -/
def TmR (r : A) : Prop := ∃ t : Tm, r = .agg (t.row.map .d) ∧ t.fits
theorem TmR.re {n : Nat} {r : A} (h : TmR r) : A.re n r = r := by
  obtain ⟨t, rfl, _⟩ := h
  simp [A.re, re_d]
theorem draw_of (d : Nat) (hd : d ≤ 6) (M N : Int) (hM : 0 ≤ M) (hN : 4 + 3 * M ≤ N) (ih : 2 ≤ d → Draws 48 [.c (.d (.int .i64 ((d : Int) - 1)))] M TmR) : Draws 48 [.c (.d (.int .i64 d))] N TmR := fun c p H i hc hp hp1 hi => by
  refine acalls Tryz.func48 (by kernel_rfl) ac48_ok fun hf => ?_
  simp only [List.length_set] at hf
  simp -implicitDefEqProofs [ac48, go_sem, -List.set_cons_succ, -List.set_cons_zero]
  have hf0 : ∀ q, Obs.fits H.length 0 (H.set i (Rd c q)) := fun q => fits_reset (b := Rd c q) hf ⟨trivial, trivial, trivial⟩
  have hf1 : ∀ q, Obs.fits (H.set i (Rd c q)).length 0 (H.set i (Rd c q)) := fun q => by simpa using hf0 q
  have done : ∀ (t : Tm) (q : Int), p ≤ q → q ≤ p + N → t.fits → ∀ r, r = .agg (t.row.map .d) → Drew TmR N c p H i r (H.set i (Rd c q)) := fun t q a1 a2 a3 r hr => ⟨⟨t, hr, a3⟩, q, a1, a2, rfl⟩
  refine ⟨fun h2 => ⟨h2, ?_⟩, fun h2 => ?_⟩
  · refine call_drawE (pick_draws 4 (by omega)) hc hp (by omega) hi (by simp [Ob.re, C.re]) (fun r => IntIn.re) (hf0 _) ?_
    rintro _ p0 ⟨k, rfl, k0, k1⟩ h3 h4
    have hd0 : ¬ ((d : Int) < 2) := by omega
    simp -implicitDefEqProofs [hf0, hd0, go_sem, -List.set_cons_succ, -List.set_cons_zero]
    refine ⟨fun _ => ?_, fun _ => ?_⟩
    · skip
      refine call_drawE (pick_draws 4 (by omega)) hc (by omega) (by omega) hi (by simp [Ob.re, C.re]) (fun r => IntIn.re) (hf0 _) ?_
      rintro _ p1 ⟨k, rfl, k0, k1⟩ h3 h4
      simp -implicitDefEqProofs [hf0, go_sem, -List.set_cons_succ, -List.set_cons_zero]
      refine ⟨fun _ => ?_, fun _ => ⟨fun _ => ?_, fun _ => ?_⟩⟩
      · refine call_drawE (pick_draws 4 (by omega)) hc (by omega) (by omega) hi (by simp [Ob.re, C.re]) (fun r => IntIn.re) (hf0 _) ?_
        rintro _ p2 ⟨n, rfl, n0, n1⟩ h5 h6
        simp -implicitDefEqProofs [hf0, go_sem, -List.set_cons_succ, -List.set_cons_zero]
        refine qcall_pure (var_calls n) (hf1 _) (by simp [A.re, re_d]) ?_
        simp -implicitDefEqProofs [hf0, row_mk, go_sem, -List.set_cons_succ, -List.set_cons_zero]
        exact done (.mk 1 n [] []) p2 (by omega) (by omega) (.mk (small_i64 (by omega) (by omega)) (small_i64 (by omega) (by omega)) (by simp) (by simp) (by simp)) _ (by simp [row_mk])
      · refine call_drawE (num_draws [0, 1, 7, -3, 999, -999] (by decide)) hc (by omega) (by omega) hi (by simp [Ob.re, C.re]) (fun r ⟨n, _, hn⟩ => by subst hn; rfl) (hf0 _) ?_
        rintro _ p2 ⟨n, hn, rfl⟩ h5 h6
        have hn : -999 ≤ n ∧ n ≤ 999 := by simp at hn; omega
        simp -implicitDefEqProofs [hf0, go_sem, -List.set_cons_succ, -List.set_cons_zero]
        refine qcall_pure (int_calls n) (hf1 _) (by simp [A.re, re_d]) ?_
        simp -implicitDefEqProofs [hf0, row_mk, go_sem, -List.set_cons_succ, -List.set_cons_zero]
        exact done (.mk 2 n [] []) p2 (by omega) (by omega) (.mk (small_i64 (by omega) (by omega)) (small_i64 (by omega) (by omega)) (by simp) (by simp) (by simp)) _ (by simp [row_mk])
      · refine call_drawE (of_draws [[97], [98], [110, 105, 108], [91, 93], [102, 111, 111], [43]] (by decide)) hc (by omega) (by omega) hi (by simp [Ob.re, C.re]) (fun r ⟨n, _, hn⟩ => by subst hn; rfl) (hf0 _) ?_
        rintro _ p2 ⟨s, hs, rfl⟩ h5 h6
        have hs : s.length ≤ 3 := by simp at hs; rcases hs with rfl | rfl | rfl | rfl | rfl | rfl <;> decide
        simp -implicitDefEqProofs [hf0, go_sem, -List.set_cons_succ, -List.set_cons_zero]
        refine call_new (struct_full s) (by simp [Ob.re, C.re]) (by simp [A.re, C.re]) (hf1 _) (by simp [Ob.re, C.re]) ?_
        simp -implicitDefEqProofs [hf0, go_sem, -List.set_cons_succ, -List.set_cons_zero]
        exact done (.mk 3 0 s []) p2 (by omega) (by omega) (.mk (small_i64 (by omega) (by omega)) (small_i64 (by omega) (by omega)) (by omega) (by simp) (by simp)) _ (by simp [row_mk])
    · refine call_drawE (pick_draws 3 (by omega)) hc (by omega) (by omega) hi (by simp [Ob.re, C.re]) (fun r => IntIn.re) (hf0 _) ?_
      rintro _ p1 ⟨k2, rfl, k3, k4⟩ h5 h6
      have hsub : inR .i64 ((d : Int) - 1) := small_i64 (by omega) (by omega)
      simp -implicitDefEqProofs [hf0, hsub, go_sem, -List.set_cons_succ, -List.set_cons_zero]
      refine ⟨fun _ => ?_, fun _ => ?_⟩
      · refine call_drawE (ih (by omega)) hc (by omega) (by omega) hi (by simp [Ob.re, C.re]) (fun r => TmR.re) (hf0 _) ?_
        rintro _ p2 ⟨a, rfl, ha⟩ h7 h8
        refine ⟨LocSame.refl _, ?_⟩
        simp -implicitDefEqProofs [hf0, hsub, row_len, take_row, go_sem, -List.set_cons_succ, -List.set_cons_zero]
        refine call_drawE (ih (by omega)) hc (by omega) (by omega) hi (by simp [Ob.re, C.re]) (fun r => TmR.re) (hf0 _) ?_
        rintro _ p3 ⟨b, rfl, hb⟩ h9 h10
        refine ⟨LocSame.refl _, ?_⟩
        simp -implicitDefEqProofs [hf0, hsub, row_len, take_row, toDs_map, go_sem, -List.set_cons_succ, -List.set_cons_zero]
        have hs := struct_calls [46] [a, b] (by simp)
        simp only [List.map_cons, List.map_nil] at hs
        refine call_same (r := .agg ((Tm.mk 3 0 [46] [a, b]).row.map .d)) (hs _) (by simp [Ob.re, C.re]) (by simp [A.re, re_d]) (hf1 _) ?_
        simp -implicitDefEqProofs [hf0, row_mk, go_sem, -List.set_cons_succ, -List.set_cons_zero]
        exact done (.mk 3 0 [46] [a, b]) p3 (by omega) (by omega) (.mk (small_i64 (by omega) (by omega)) (small_i64 (by omega) (by omega)) (by simp) (by simp) (by simp [ha, hb])) _ (by simp [row_mk])
      · refine call_drawE (of_draws [[102], [103], [115], [43], [61], [105, 115], [102, 111, 111]] (by decide)) hc (by omega) (by omega) hi (by simp [Ob.re, C.re]) (fun r ⟨n, _, hn⟩ => by subst hn; rfl) (hf0 _) ?_
        rintro _ p2 ⟨s, hs, rfl⟩ h7 h8
        have hs : s.length ≤ 3 := by simp at hs; rcases hs with rfl | rfl | rfl | rfl | rfl | rfl | rfl <;> decide
        simp -implicitDefEqProofs [hf0, go_sem, -List.set_cons_succ, -List.set_cons_zero]
        refine call_new (struct_full s) (by simp [Ob.re, C.re]) (by simp [A.re, C.re]) (hf1 _) (by simp [Ob.re, C.re]) ?_
        simp -implicitDefEqProofs [hf0, go_sem, -List.set_cons_succ, -List.set_cons_zero]
        refine call_drawE (num_draws [2, 1, 3, 2] (by decide)) hc (by omega) (by omega) hi (by simp [Ob.re, C.re]) (fun r ⟨n, _, hn⟩ => by subst hn; rfl) (hf0 _) ?_
        rintro _ p3 ⟨n, hn, rfl⟩ h9 h10
        have hn : 0 ≤ n ∧ n ≤ 3 := by simp at hn; omega
        have hnM : n * M ≤ 3 * M := Int.mul_le_mul_of_nonneg_right hn.2 hM
        simp -implicitDefEqProofs [hf0, go_sem, -List.set_cons_succ, -List.set_cons_zero]
        refine loop_enter (St.le_tokenC 2 3 4 rfl rfl) ?_
        refine loop_set (σ := Int × List Tm × Int) (fun x => [(6, .c (.d (.int .i64 x.1)))]) (fun x => H.set i (Rd c x.2.2)) (fun x => [.cells [.d (.int .i64 0), .d (.int .i64 0), .d (.str []), .full []], .cells [.d (.int .i64 3), .d (.int .i64 0), .d (.str s), .full []], .cells [.d (.int .i64 3), .d (.int .i64 0), .d (.str s), .own (.l 3) x.2.1.length (x.2.1.map Tm.row)], .grow x.2.1.length 4])
          (fun x => 0 ≤ x.1 ∧ x.1 + x.2.1.length ≤ 3 ∧ p ≤ x.2.2 ∧ x.2.2 + x.1 * M ≤ p + N ∧ ∀ t ∈ x.2.1, t.fits) (fun x => x.1.toNat) (n, [], p3) rfl ⟨hn.1, by simp; omega, by simp; omega, by simp; omega, by simp⟩ ?_
        rintro ⟨m, l, q⟩ ⟨i0, i1, i2, i3, i4⟩
        simp only at i0 i1 i2 i3 i4
        have hmM : 0 ≤ m * M := Int.mul_nonneg i0 hM
        simp -implicitDefEqProofs [setAll, hf0, hsub, go_sem, -List.set_cons_succ, -List.set_cons_zero]
        refine ⟨fun hlt => ?_, fun hge => ?_⟩
        · have hm1 : (m - 1) * M = m * M - M := by rw [Int.sub_mul, Int.one_mul]
          have hm2 : 0 ≤ (m - 1) * M := Int.mul_nonneg (by omega) hM
          have hsubm : inR .i64 (m - 1) := small_i64 (by omega) (by omega)
          refine call_drawE (ih (by omega)) hc (by omega) (by omega) hi (by simp [Ob.re, C.re]) (fun r => TmR.re) (hf0 _) ?_
          rintro _ q2 ⟨a, rfl, ha⟩ h11 h12
          refine ⟨LocSame.refl _, ?_⟩
          simp -implicitDefEqProofs [hf0, hsubm, row_len, take_row, toDs_map, go_sem, -List.set_cons_succ, -List.set_cons_zero]
          refine ⟨allLen_map row_len, by unfold maxApp; omega, ?_⟩
          refine loop_back (m - 1, l ++ [a], q2) (by simp [setAll]) ⟨by simp; omega, by simp; omega, by simp; omega, by simp; omega, fun t ht => ?_⟩ (by show (m - 1).toNat < m.toNat; omega)
          rcases List.mem_append.1 ht with ht | ht
          · exact i4 t ht
          · simp at ht; subst ht; exact ha
        · exact done (.mk 3 0 s l) q i2 (by omega) (.mk (small_i64 (by omega) (by omega)) (small_i64 (by omega) (by omega)) (by omega) (by omega) i4) _ (by simp [row_mk])
  · skip
    refine call_drawE (pick_draws 4 (by omega)) hc (by omega) (by omega) hi (by simp [Ob.re, C.re]) (fun r => IntIn.re) (hf0 _) ?_
    rintro _ p1 ⟨k, rfl, k0, k1⟩ h3 h4
    simp -implicitDefEqProofs [hf0, go_sem, -List.set_cons_succ, -List.set_cons_zero]
    refine ⟨fun _ => ?_, fun _ => ⟨fun _ => ?_, fun _ => ?_⟩⟩
    · refine call_drawE (pick_draws 4 (by omega)) hc (by omega) (by omega) hi (by simp [Ob.re, C.re]) (fun r => IntIn.re) (hf0 _) ?_
      rintro _ p2 ⟨n, rfl, n0, n1⟩ h5 h6
      simp -implicitDefEqProofs [hf0, go_sem, -List.set_cons_succ, -List.set_cons_zero]
      refine qcall_pure (var_calls n) (hf1 _) (by simp [A.re, re_d]) ?_
      simp -implicitDefEqProofs [hf0, row_mk, go_sem, -List.set_cons_succ, -List.set_cons_zero]
      exact done (.mk 1 n [] []) p2 (by omega) (by omega) (.mk (small_i64 (by omega) (by omega)) (small_i64 (by omega) (by omega)) (by simp) (by simp) (by simp)) _ (by simp [row_mk])
    · refine call_drawE (num_draws [0, 1, 7, -3, 999, -999] (by decide)) hc (by omega) (by omega) hi (by simp [Ob.re, C.re]) (fun r ⟨n, _, hn⟩ => by subst hn; rfl) (hf0 _) ?_
      rintro _ p2 ⟨n, hn, rfl⟩ h5 h6
      have hn : -999 ≤ n ∧ n ≤ 999 := by simp at hn; omega
      simp -implicitDefEqProofs [hf0, go_sem, -List.set_cons_succ, -List.set_cons_zero]
      refine qcall_pure (int_calls n) (hf1 _) (by simp [A.re, re_d]) ?_
      simp -implicitDefEqProofs [hf0, row_mk, go_sem, -List.set_cons_succ, -List.set_cons_zero]
      exact done (.mk 2 n [] []) p2 (by omega) (by omega) (.mk (small_i64 (by omega) (by omega)) (small_i64 (by omega) (by omega)) (by simp) (by simp) (by simp)) _ (by simp [row_mk])
    · refine call_drawE (of_draws [[97], [98], [110, 105, 108], [91, 93], [102, 111, 111], [43]] (by decide)) hc (by omega) (by omega) hi (by simp [Ob.re, C.re]) (fun r ⟨n, _, hn⟩ => by subst hn; rfl) (hf0 _) ?_
      rintro _ p2 ⟨s, hs, rfl⟩ h5 h6
      have hs : s.length ≤ 3 := by simp at hs; rcases hs with rfl | rfl | rfl | rfl | rfl | rfl <;> decide
      simp -implicitDefEqProofs [hf0, go_sem, -List.set_cons_succ, -List.set_cons_zero]
      refine call_new (struct_full s) (by simp [Ob.re, C.re]) (by simp [A.re, C.re]) (hf1 _) (by simp [Ob.re, C.re]) ?_
      simp -implicitDefEqProofs [hf0, go_sem, -List.set_cons_succ, -List.set_cons_zero]
      exact done (.mk 3 0 s []) p2 (by omega) (by omega) (.mk (small_i64 (by omega) (by omega)) (small_i64 (by omega) (by omega)) (by omega) (by simp) (by simp)) _ (by simp [row_mk])
theorem l1Draw_draws : ∀ d : Nat, d ≤ 6 → Draws 48 [.c (.d (.int .i64 d))] ((5 * 4 ^ d : Nat) : Int) TmR
  | 0, h => draw_of 0 h 0 _ (by omega) (by decide) (fun h => absurd h (by omega))
  | d + 1, h => by
    refine draw_of (d + 1) h ((5 * 4 ^ d : Nat) : Int) _ (by omega) ?_ fun _ => ?_
    · have : 0 < 4 ^ d := Nat.pos_of_ne_zero (by simp)
      rw [Nat.pow_succ]; omega
    · have := l1Draw_draws d (by omega)
      rw [show (((d + 1 : Nat) : Int) - 1) = (d : Int) by omega]
      exact this
end Go.Proofs.YteighafofbohcaaGreat

/-
  Terms that are drawn: copies that are changed.
  Conditions: none.
-/
open Go Go.AM Go.Proofs
namespace Go.Proofs.YteighafofbohcaaGreat
open Go.ChangeShapes Go.WideShapes Go.ChangeAt Go.RowKit
set_option linter.unusedVariables false
set_option linter.unusedSimpArgs false
set_option maxRecDepth 100000
-- 44 loop.example/prologserver/spec.l1Some params 1 ntmps 8
def ac44 : Cd := .seq (.region [⟨(some 2), .alloc [(.d (.int .i64 0)), (.d (.int .i64 0)), (.d (.str [])), (.full [])], none⟩] [])
 (.seq (.region [⟨(some 3), .mv (.t 0), none⟩,
 ⟨(some 4), .mv (.t 0), none⟩,
 ⟨(some 5), .buildSlice 1 4 [(.int .i64 0)] [(0, (.k (.c (.d (.int .i64 3))))), (1, (.k (.c (.d (.int .i64 2))))), (2, (.k (.c (.d (.int .i64 4))))), (3, (.k (.c (.d (.int .i64 1)))))], none⟩,
 ⟨(some 6), .call false 69 [(.t 4), (.t 5)], none⟩,
 ⟨(some 7), .call false 48 [(.t 3), (.t 6)], none⟩,
 ⟨none, .store 4 (.t 2) (.t 7), none⟩] [0, 3, 4, 5, 6, 7])
 (.ret))
theorem ac44_ok : cFunc Tryz.prog [] [(0, [], []), (1, [0, 3, 4, 5, 6, 7], [])] Tryz.f44 = some (ac44, [.cell 2 (some 4)], 8) := by kernel_rfl
-- 43 loop.example/prologserver/spec.l1Mutate params 2 ntmps 51
-- loop head live: [4, 5]
-- loop head live: [4, 5, 6]
def ac43 : Cd := .seq (.region [⟨(some 3), .box (.t 1), none⟩,
 ⟨(some 4), .alloc [(.d (.int .i64 0)), (.d (.int .i64 0)), (.d (.str [])), (.full [])], none⟩] [1])
 (.seq (.region [⟨(some 7), .load (some 4) (.t 3), none⟩,
 ⟨(some 8), .call false 73 [(.t 7)], none⟩,
 ⟨(some 5), .alloc [(.d (.int .i64 0)), (.d (.int .i64 0)), (.d (.str [])), (.full [])], none⟩,
 ⟨none, .store 4 (.t 5) (.t 8), none⟩] [3, 7, 8])
 (.seq (.seq (.region [⟨(some 9), .mv (.t 0), none⟩,
 ⟨(some 10), .call false 42 [(.t 9), (.k (.c (.d (.int .i64 50))))], none⟩] [9])
 (.block 0 (.seq (.region [⟨(some 12), .bin .eql (.t 10) (.k (.c (.d (.int .i64 0)))), none⟩,
 ⟨(some 11), .mv (.t 12), none⟩] [12])
 (.cond (.t 11)
 (.region [⟨(some 13), .mv (.t 0), none⟩,
 ⟨(some 14), .buildSlice 1 5 [(.int .i64 0)] [(0, (.k (.c (.d (.int .i64 0))))), (1, (.k (.c (.d (.int .i64 4))))), (2, (.k (.c (.d (.int .i64 1))))), (3, (.k (.c (.d (.int .i64 2))))), (4, (.k (.c (.d (.int .i64 3)))))], none⟩,
 ⟨(some 15), .call false 69 [(.t 13), (.t 14)], none⟩,
 ⟨(some 16), .fieldAddr 0 (.t 5), none⟩,
 ⟨none, .store 1 (.t 16) (.t 15), none⟩] [0, 10, 11, 13, 14, 15, 16])
 (.seq (.region [⟨(some 18), .bin .eql (.t 10) (.k (.c (.d (.int .i64 1)))), none⟩,
 ⟨(some 17), .mv (.t 18), none⟩] [11, 18])
 (.cond (.t 17)
 (.region [⟨(some 19), .mv (.t 0), none⟩,
 ⟨(some 20), .buildSlice 1 5 [(.int .i64 0)] [(0, (.k (.c (.d (.int .i64 26))))), (1, (.k (.c (.d (.int .i64 1000))))), (2, (.k (.c (.d (.int .i64 (-1000)))))), (3, (.k (.c (.d (.int .i64 (-1)))))), (4, (.k (.c (.d (.int .i64 1)))))], none⟩,
 ⟨(some 21), .call false 69 [(.t 19), (.t 20)], none⟩,
 ⟨(some 22), .fieldAddr 1 (.t 5), none⟩,
 ⟨none, .store 1 (.t 22) (.t 21), none⟩] [0, 10, 17, 19, 20, 21, 22])
 (.seq (.region [⟨(some 24), .bin .eql (.t 10) (.k (.c (.d (.int .i64 2)))), none⟩,
 ⟨(some 23), .mv (.t 24), none⟩] [17, 24])
 (.cond (.t 23)
 (.region [⟨(some 25), .mv (.t 0), none⟩,
 ⟨(some 26), .buildSlice 1 5 [(.str [])] [(0, (.k (.c (.d (.str []))))), (1, (.k (.c (.d (.str [88]))))), (2, (.k (.c (.d (.str [116, 111, 111, 108, 111, 110, 103]))))), (3, (.k (.c (.d (.str [195, 169]))))), (4, (.k (.c (.d (.str [97])))))], none⟩,
 ⟨(some 27), .call false 46 [(.t 25), (.t 26)], none⟩,
 ⟨(some 28), .fieldAddr 2 (.t 5), none⟩,
 ⟨none, .store 1 (.t 28) (.t 27), none⟩] [0, 10, 23, 25, 26, 27, 28])
 (.seq (.region [⟨(some 30), .bin .eql (.t 10) (.k (.c (.d (.int .i64 3)))), none⟩,
 ⟨(some 29), .mv (.t 30), none⟩] [0, 23, 30])
 (.cond (.t 29)
 (.block 1 (.loop (.seq (.seq (.region [⟨(some 31), .fieldAddr 3 (.t 5), none⟩,
 ⟨(some 32), .load none (.t 31), none⟩,
 ⟨(some 33), .len 1 (.t 32), none⟩,
 ⟨(some 34), .bin .leq (.t 33) (.k (.c (.d (.int .i64 4)))), none⟩] [31, 32, 33])
 (.cond (.t 34)
 (.skip)
 (.exit 1)))
 (.block 2 (.region [⟨(some 35), .fieldAddr 3 (.t 5), none⟩,
 ⟨(some 36), .load none (.t 35), none⟩,
 ⟨(some 37), .qcall 74 [(.k (.c (.d (.int .i64 1))))], none⟩,
 ⟨(some 38), .buildSlice 4 1 [(.int .i64 0), (.int .i64 0), (.str []), (.sl [])] [(0, (.t 37))], none⟩,
 ⟨(some 39), .append false 4 (.t 36) (.t 38), none⟩,
 ⟨(some 40), .fieldAddr 3 (.t 5), none⟩,
 ⟨none, .store 1 (.t 40) (.t 39), none⟩] [34, 35, 36, 37, 38, 39, 40])))))
 (.seq (.region [⟨(some 42), .bin .eql (.t 10) (.k (.c (.d (.int .i64 4)))), none⟩,
 ⟨(some 41), .mv (.t 42), none⟩] [10, 29, 42])
 (.cond (.t 41)
 (.seq (.region [⟨(some 6), .mv (.k (.c (.d (.int .i64 0)))), none⟩] [41])
 (.block 3 (.loop (.seq (.seq (.region [⟨(some 43), .mv (.t 6), none⟩,
 ⟨(some 44), .bin .lss (.t 43) (.k (.c (.d (.int .i64 30)))), none⟩] [43])
 (.cond (.t 44)
 (.skip)
 (.exit 3)))
 (.seq (.block 4 (.region [⟨(some 47), .load (some 4) (.t 5), none⟩,
 ⟨(some 48), .buildSlice 4 1 [(.int .i64 0), (.int .i64 0), (.str []), (.sl [])] [(0, (.t 47))], none⟩,
 ⟨(some 49), .qcall 45 [(.k (.c (.d (.str [115])))), (.t 48)], none⟩,
 ⟨none, .store 4 (.t 5) (.t 49), none⟩] [44, 47, 48, 49]))
 (.region [⟨(some 45), .mv (.t 6), none⟩,
 ⟨(some 46), .bin .add (.t 45) (.k (.c (.d (.int .i64 1)))), none⟩,
 ⟨(some 6), .mv (.t 46), none⟩] [45, 46]))))))
 (.skip)))))))))))))
 (.seq (.region [⟨(some 50), .load (some 4) (.t 5), none⟩,
 ⟨none, .store 4 (.t 4) (.t 50), none⟩] [5, 41, 50])
 (.ret))))
theorem ac43_ok : cFunc Tryz.prog [1000045, 1000074] [(0, [1], []), (1, [3, 7, 8], []), (2, [9], []), (3, [12], []), (4, [0, 10, 11, 13, 14, 15, 16], []), (5, [11, 18], []), (6, [0, 10, 17, 19, 20, 21, 22], []), (7, [17, 24], []), (8, [0, 10, 23, 25, 26, 27, 28], []), (9, [0, 23, 30], []), (10, [31, 32, 33], []), (11, [34, 35, 36, 37, 38, 39, 40], [0, 1, 2, 3, 4, 5, 6]), (12, [10, 29, 42], []), (13, [41], []), (14, [43], []), (16, [44, 47, 48, 49], []), (15, [45, 46], []), (17, [5, 41, 50], [])] Tryz.f43 = some (ac43, [.cell 4 (some 4)], 51) := by kernel_rfl
theorem Draws.mono {f : FuncId} {xs : List A} {N N' : Int} {R : A → Prop} (h : Draws f xs N R) (hN : N ≤ N') : Draws f xs N' R := fun c p H i hc hp hp1 hi =>
  (h c p H i hc hp (by omega) hi).mono fun r H' ⟨h1, p', h2, h3, h4⟩ => ⟨h1, p', h2, by omega, h4⟩
theorem l1Some_draws : Draws 44 [] 1281 TmR := fun c p H i hc hp hp1 hi => by
  refine acalls Tryz.func44 (by kernel_rfl) ac44_ok fun hf => ?_
  simp only [List.length_set] at hf
  have hf0 : ∀ q, Obs.fits H.length 0 (H.set i (Rd c q)) := fun q => fits_reset (b := Rd c q) hf ⟨trivial, trivial, trivial⟩
  simp -implicitDefEqProofs [ac44, hf0, go_sem, -List.set_cons_succ, -List.set_cons_zero]
  refine call_drawE (num_draws [3, 2, 4, 1] (by decide)) hc (by omega) (by omega) hi (by simp [Ob.re, C.re]) (fun r ⟨n, _, hn⟩ => by subst hn; rfl) (hf0 _) ?_
  rintro _ p1 ⟨n, hn, rfl⟩ h1 h2
  obtain ⟨d, rfl, hd⟩ : ∃ d : Nat, n = (d : Int) ∧ d ≤ 4 := ⟨n.toNat, by simp at hn; omega, by simp at hn; omega⟩
  have hdr : Draws 48 [.c (.d (.int .i64 d))] 1280 TmR := (l1Draw_draws d (by omega)).mono (by
    have : 4 ^ d ≤ 4 ^ 4 := Nat.pow_le_pow_right (by omega) hd
    omega)
  simp -implicitDefEqProofs [hf0, go_sem, -List.set_cons_succ, -List.set_cons_zero]
  refine call_drawE hdr hc (by omega) (by omega) hi (by simp [Ob.re, C.re]) (fun r => TmR.re) (hf0 _) ?_
  rintro _ p2 ⟨t, rfl, ht⟩ h3 h4
  rw [row_eq]
  simp -implicitDefEqProofs [hf0, go_sem, -List.set_cons_succ, -List.set_cons_zero]
  exact ⟨⟨t, by rw [row_eq]; rfl, ht⟩, p2, by omega, by omega, rfl⟩
theorem copy_own (k n : Int) (s : List UInt8) (l : List Tm) (hfits : (Tm.mk k n s l).fits) (H : Heap) : ACalls Tryz.prog 73 [.agg ((Tm.mk k n s l).row.map .d)] H (fun r H' =>
    H' = H ++ [.cells [.d (.int .i64 k), .d (.int .i64 n), .d (.str s), .d (.sl (l.map Tm.row))], .cells [.d (.int .i64 k), .d (.int .i64 n), .d (.str s), .own (.e (H.length + 3)) l.length (l.map Tm.row)], .cells [.d (.int .i64 k), .d (.int .i64 n), .d (.str s), .own (.e (H.length + 3)) l.length (l.map Tm.row)], .grow l.length 4] ∧
    r = .agg [.d (.int .i64 k), .d (.int .i64 n), .d (.str s), .own (.e (H.length + 3)) l.length (l.map Tm.row)]) := by
  obtain ⟨hk, hn, hs, hl, hkids⟩ := hfits
  refine acallsK Tryz.func73 (by kernel_rfl) ac73_ok fun hf => ?_
  have hli : inR .i64 (l.length : Int) := small_i64 (by omega) (by omega)
  simp -implicitDefEqProofs [ac73, row_mk, hf, hli, go_sem, -List.set_cons_succ, -List.set_cons_zero]
  refine loop_enter (St.le_tokenC 2 3 4 rfl rfl) ?_
  refine loop_set (σ := Nat) (fun i => [(4, .c (.d (.int .i64 i)))]) (fun _ => H) (fun i => [.cells [.d (.int .i64 k), .d (.int .i64 n), .d (.str s), .d (.sl (l.map Tm.row))], .cells [.d (.int .i64 0), .d (.int .i64 0), .d (.str []), .full []], .cells [.d (.int .i64 k), .d (.int .i64 n), .d (.str s), .own (.l 3) i ((l.map Tm.row).take i)], .grow i 4])
    (fun i => i ≤ l.length) (fun i => l.length - i) 0 rfl (Nat.zero_le _) ?_
  intro i hi
  simp -implicitDefEqProofs [setAll, hli, go_sem, -List.set_cons_succ, -List.set_cons_zero]
  refine ⟨fun hlt => ?_, fun hge => ?_⟩
  · have hadd : inR .i64 ((i : Int) + 1) := small_i64 (by omega) (by omega)
    refine row_of hlt (row_len _) ?_
    simp -implicitDefEqProofs [row_len, take_row, pure_d, re_d, go_sem, -List.set_cons_succ, -List.set_cons_zero]
    refine qcall_pure (copy_calls l[i] (hkids _ (List.getElem_mem hlt))) hf (by simp [A.re, re_d]) ?_
    simp -implicitDefEqProofs [row_len, toDs_map, hadd, hf, Nat.min_eq_left hi, go_sem, -List.set_cons_succ, -List.set_cons_zero]
    refine ⟨fun r hr => allLen_map row_len r (List.mem_of_mem_take hr), by unfold maxApp; omega, ?_⟩
    refine loop_back (i + 1) ?_ hlt (by show l.length - (i + 1) < l.length - i; omega)
    simp [setAll, take_map_succ hlt]
  · have hil : i = l.length := by omega
    subst hil
    rw [show (l.map Tm.row).take l.length = l.map Tm.row from List.take_of_length_le (by simp)]
    simp -implicitDefEqProofs [hf, go_sem, -List.set_cons_succ, -List.set_cons_zero]
    refine finK_ret _ ⟨trivial, trivial⟩ rfl ?_
    simp [Ob.re, C.re, A.re, Ref.re]
theorem l1Mutate_draws (t : Tm) (ht : t.fits) : Draws 43 [.agg (t.row.map .d)] 2 TmR := fun c p H i hc hp hp1 hi => by
  obtain ⟨k, n, s, l⟩ := t
  refine acalls Tryz.func43 (by kernel_rfl) ac43_ok fun hf => ?_
  simp only [List.length_set] at hf
  have hf0 : ∀ q, Obs.fits H.length 0 (H.set i (Rd c q)) := fun q => fits_reset (b := Rd c q) hf ⟨trivial, trivial, trivial⟩
  have hf1 : ∀ q, Obs.fits (H.set i (Rd c q)).length 0 (H.set i (Rd c q)) := fun q => by simpa using hf0 q
  have hcopy := copy_own k n s l ht
  obtain ⟨hk, hn, hs, hl, hkids⟩ := ht
  rw [row_mk] at hcopy ⊢
  simp -implicitDefEqProofs [ac43, hf0, go_sem, -List.set_cons_succ, -List.set_cons_zero]
  have done : ∀ (t : Tm) (q : Int), p ≤ q → q ≤ p + 2 → t.fits → ∀ r, r = .agg (t.row.map .d) → Drew TmR 2 c p H i r (H.set i (Rd c q)) := fun t q a1 a2 a3 r hr => ⟨⟨t, hr, a3⟩, q, a1, a2, rfl⟩
  refine (hcopy _).mono fun r H' ⟨g1, g2⟩ => ⟨H.set i (Rd c p), [.cells [.d (.int .i64 k), .d (.int .i64 n), .d (.str s), .d (.sl (l.map Tm.row))], .cells [.d (.int .i64 0), .d (.int .i64 0), .d (.str []), .full []], .cells [.d (.int .i64 k), .d (.int .i64 n), .d (.str s), .d (.sl (l.map Tm.row))], .cells [.d (.int .i64 k), .d (.int .i64 n), .d (.str s), .own (.l 5) l.length (l.map Tm.row)], .cells [.d (.int .i64 k), .d (.int .i64 n), .d (.str s), .own (.l 5) l.length (l.map Tm.row)], .grow l.length 4],
    .agg [.d (.int .i64 k), .d (.int .i64 n), .d (.str s), .own (.l 5) l.length (l.map Tm.row)], by rw [g1]; simp [Ob.re, C.re, Ref.re], by simp, by simp, by simpa using hf0 p, by rw [g2]; simp [A.re, C.re, Ref.re], ?_⟩
  clear hcopy
  simp -implicitDefEqProofs [hf0, go_sem, -List.set_cons_succ, -List.set_cons_zero]
  refine call_drawE (pick_draws 50 (by omega)) hc (by omega) (by omega) hi (by simp [Ob.re, C.re, Ref.re]) (fun r => IntIn.re) (hf0 _) ?_
  rintro _ p1 ⟨m, rfl, m0, m1⟩ h1 h2
  simp -implicitDefEqProofs [hf0, go_sem, -List.set_cons_succ, -List.set_cons_zero]
  refine ⟨fun _ => ?_, fun _ => ⟨fun _ => ?_, fun _ => ⟨fun _ => ?_, fun _ => ⟨fun _ => ?_, fun _ => ⟨fun _ => ?_, fun _ => ?_⟩⟩⟩⟩⟩
  · refine call_drawE (num_draws [0, 4, 1, 2, 3] (by decide)) hc (by omega) (by omega) hi (by simp [Ob.re, C.re]) (fun r ⟨n, _, hn⟩ => by subst hn; rfl) (hf0 _) ?_
    rintro _ p2 ⟨x, hx, rfl⟩ h3 h4
    have hx : -1000 ≤ x ∧ x ≤ 1000 := by simp at hx; omega
    simp -implicitDefEqProofs [hf0, go_sem, -List.set_cons_succ, -List.set_cons_zero]
    exact done (.mk x n s l) p2 (by omega) (by omega) (.mk (small_i64 (by omega) (by omega)) hn hs hl hkids) _ (by simp [row_mk])
  · refine call_drawE (num_draws [26, 1000, -1000, -1, 1] (by decide)) hc (by omega) (by omega) hi (by simp [Ob.re, C.re]) (fun r ⟨n, _, hn⟩ => by subst hn; rfl) (hf0 _) ?_
    rintro _ p2 ⟨x, hx, rfl⟩ h3 h4
    have hx : -1000 ≤ x ∧ x ≤ 1000 := by simp at hx; omega
    simp -implicitDefEqProofs [hf0, go_sem, -List.set_cons_succ, -List.set_cons_zero]
    exact done (.mk k x s l) p2 (by omega) (by omega) (.mk hk (small_i64 (by omega) (by omega)) hs hl hkids) _ (by simp [row_mk])
  · refine call_drawE (of_draws [[], [88], [116, 111, 111, 108, 111, 110, 103], [195, 169], [97]] (by decide)) hc (by omega) (by omega) hi (by simp [Ob.re, C.re]) (fun r ⟨n, _, hn⟩ => by subst hn; rfl) (hf0 _) ?_
    rintro _ p2 ⟨x, hx, rfl⟩ h3 h4
    have hx : x.length ≤ 1000 := by simp at hx; rcases hx with rfl | rfl | rfl | rfl | rfl <;> decide
    simp -implicitDefEqProofs [hf0, go_sem, -List.set_cons_succ, -List.set_cons_zero]
    exact done (.mk k n x l) p2 (by omega) (by omega) (.mk hk hn (by omega) hl hkids) _ (by simp [row_mk])
  · refine loop_set (σ := List Tm) (fun _ => []) (fun _ => H.set i (Rd c p1)) (fun y => [.cells [.d (.int .i64 k), .d (.int .i64 n), .d (.str s), .d (.sl (l.map Tm.row))], .cells [.d (.int .i64 0), .d (.int .i64 0), .d (.str []), .full []], .cells [.d (.int .i64 k), .d (.int .i64 n), .d (.str s), .d (.sl (l.map Tm.row))], .cells [.d (.int .i64 k), .d (.int .i64 n), .d (.str s), .own (.l 5) l.length (l.map Tm.row)], .cells [.d (.int .i64 k), .d (.int .i64 n), .d (.str s), .own (.l 5) l.length (l.map Tm.row)], .grow y.length 4, .cells [.d (.int .i64 k), .d (.int .i64 n), .d (.str s), .own (.l 5) y.length (y.map Tm.row)]])
      (fun y => y.length ≤ 1048576 ∧ ∀ t ∈ y, t.fits) (fun y => 5 - y.length) l rfl ⟨hl, hkids⟩ ?_
    rintro y ⟨hy, hyf⟩
    have hly : inR .i64 (y.length : Int) := small_i64 (by omega) (by omega)
    simp -implicitDefEqProofs [setAll, hf0, hly, go_sem, -List.set_cons_succ, -List.set_cons_zero]
    refine ⟨fun hlt => ?_, fun hge => ?_⟩
    · refine qcall_pure (int_calls 1) (hf1 _) (by simp [A.re, re_d]) ?_
      simp -implicitDefEqProofs [hf0, row_mk, go_sem, -List.set_cons_succ, -List.set_cons_zero]
      refine ⟨allLen_map row_len, by unfold maxApp; omega, ?_⟩
      refine loop_back (y ++ [Tm.mk 2 1 [] []]) (by simp [setAll, row_mk]) ⟨by simp; omega, fun t ht => ?_⟩ (by show 5 - (y ++ [Tm.mk 2 1 [] []]).length < 5 - y.length; simp; omega)
      rcases List.mem_append.1 ht with ht | ht
      · exact hyf t ht
      · simp at ht; subst ht; exact .mk (small_i64 (by omega) (by omega)) (small_i64 (by omega) (by omega)) (by simp) (by simp) (by simp)
    · exact done (.mk k n s y) p1 (by omega) (by omega) (.mk hk hn hs hy hyf) _ (by simp [row_mk])
  · refine loop_set (σ := Nat × Tm) (fun x => [(6, .c (.d (.int .i64 x.1)))]) (fun _ => H.set i (Rd c p1)) (fun x => [.cells [.d (.int .i64 k), .d (.int .i64 n), .d (.str s), .d (.sl (l.map Tm.row))], .cells [.d (.int .i64 0), .d (.int .i64 0), .d (.str []), .full []], .cells [.d (.int .i64 k), .d (.int .i64 n), .d (.str s), .d (.sl (l.map Tm.row))], .cells [.d (.int .i64 k), .d (.int .i64 n), .d (.str s), .own (.l 5) l.length (l.map Tm.row)], .cells [.d (.int .i64 k), .d (.int .i64 n), .d (.str s), .own (.l 5) l.length (l.map Tm.row)], .grow l.length 4, .cells (if x.1 = 0 then [.d (.int .i64 k), .d (.int .i64 n), .d (.str s), .own (.l 5) l.length (l.map Tm.row)] else x.2.row.map .d)])
      (fun x => x.1 ≤ 30 ∧ x.2.fits ∧ (x.1 = 0 → x.2 = .mk k n s l)) (fun x => 30 - x.1) (0, Tm.mk k n s l) rfl ⟨by omega, .mk hk hn hs hl hkids, fun _ => rfl⟩ ?_
    rintro ⟨j, u⟩ ⟨hj, hu, hj0⟩
    simp only at hj hu hj0
    have hadd : inR .i64 ((j : Int) + 1) := small_i64 (by omega) (by omega)
    have hone : (Tm.mk 3 0 [115] [u]).fits := .mk (small_i64 (by omega) (by omega)) (small_i64 (by omega) (by omega)) (by simp) (by simp) (by simpa using hu)
    have hst := struct_calls [115] [u] (by simp)
    simp only [List.map_cons, List.map_nil] at hst
    by_cases hz : j = 0
    · subst hz
      have hu := hj0 rfl
      subst hu
      have h1 : inR .i64 1 := small_i64 (by omega) (by omega)
      simp -implicitDefEqProofs [setAll, hf0, go_sem, -List.set_cons_succ, -List.set_cons_zero]
      rw [row_mk] at hst
      refine qcall_pure hst (hf1 _) (by simp [A.re, re_d]) ?_
      simp -implicitDefEqProofs [hf0, h1, row_len, take_row, go_sem, -List.set_cons_succ, -List.set_cons_zero]
      exact loop_back (1, Tm.mk 3 0 [115] [Tm.mk k n s l]) (by simp [setAll]) ⟨by simp, hone, fun h => by simp at h⟩ (by show 30 - 1 < 30 - 0; omega)
    · simp -implicitDefEqProofs [setAll, hf0, hz, hadd, row_len, take_row, toDs_map, go_sem, -List.set_cons_succ, -List.set_cons_zero]
      refine ⟨fun hlt => ?_, fun hge => ?_⟩
      · refine qcall_pure hst (hf1 _) (by simp [A.re, re_d, row_len]) ?_
        simp -implicitDefEqProofs [hf0, hadd, row_len, take_row, go_sem, -List.set_cons_succ, -List.set_cons_zero]
        exact loop_back (j + 1, Tm.mk 3 0 [115] [u]) (by simp [setAll, row_len]) ⟨by show j + 1 ≤ 30; omega, hone, fun h => by simp at h⟩ (by show 30 - (j + 1) < 30 - j; omega)
      · simp [thaw_d, fits_map]
        exact done u p1 (by omega) (by omega) hu _ rfl
  · exact done (.mk k n s l) p1 (by omega) (by omega) (.mk hk hn hs hl hkids) _ (by simp [row_mk])
end Go.Proofs.YteighafofbohcaaGreat

/-
  Programs and clauses that are drawn.
  Conditions: none.
-/
open Go Go.AM Go.Proofs
namespace Go.Proofs.YteighafofbohcaaGreat
open Go.ChangeShapes Go.WideShapes Go.ChangeAt Go.RowKit
set_option linter.unusedVariables false
set_option linter.unusedSimpArgs false
set_option maxRecDepth 100000
-- 75 loop.example/prologserver/spec.l4Texts params 0 ntmps 2
def ac75 : Cd := .seq (.region [⟨(some 0), .mv (.k (.c (.full []))), none⟩] [0])
 (.seq (.region [⟨(some 1), .buildSlice 1 11 [(.str [])] [(0, (.k (.c (.d (.str [97, 112, 112, 40, 91, 93, 44, 65, 44, 65, 41, 46, 10, 97, 112, 112, 40, 91, 65, 124, 66, 93, 44, 67, 44, 91, 65, 124, 68, 93, 41, 58, 45, 97, 112, 112, 40, 66, 44, 67, 44, 68, 41, 46, 10]))))), (1, (.k (.c (.d (.str [109, 101, 109, 40, 65, 44, 91, 65, 124, 66, 93, 41, 46, 10, 109, 101, 109, 40, 65, 44, 91, 66, 124, 67, 93, 41, 58, 45, 109, 101, 109, 40, 65, 44, 67, 41, 46, 10]))))), (2, (.k (.c (.d (.str [112, 40, 49, 41, 46, 10, 112, 40, 50, 41, 46, 10, 112, 40, 51, 41, 46, 10, 113, 40, 65, 41, 58, 45, 112, 40, 65, 41, 44, 65, 62, 49, 44, 33, 46, 10, 114, 40, 65, 44, 66, 41, 58, 45, 112, 40, 65, 41, 44, 112, 40, 66, 41, 46, 10]))))), (3, (.k (.c (.d (.str [108, 101, 110, 40, 91, 93, 44, 48, 41, 46, 10, 108, 101, 110, 40, 91, 65, 124, 66, 93, 44, 67, 41, 58, 45, 108, 101, 110, 40, 66, 44, 68, 41, 44, 67, 32, 105, 115, 32, 68, 43, 49, 46, 10]))))), (4, (.k (.c (.d (.str [109, 97, 120, 40, 65, 44, 66, 44, 65, 41, 58, 45, 65, 62, 61, 66, 44, 33, 46, 10, 109, 97, 120, 40, 65, 44, 66, 44, 66, 41, 46, 10]))))), (5, (.k (.c (.d (.str [101, 40, 97, 44, 98, 41, 46, 10, 101, 40, 98, 44, 99, 41, 46, 10, 101, 40, 99, 44, 100, 41, 46, 10, 116, 40, 65, 44, 66, 41, 58, 45, 101, 40, 65, 44, 66, 41, 46, 10, 116, 40, 65, 44, 66, 41, 58, 45, 101, 40, 65, 44, 67, 41, 44, 116, 40, 67, 44, 66, 41, 46, 10]))))), (6, (.k (.c (.d (.str [108, 111, 111, 112, 58, 45, 108, 111, 111, 112, 46, 10, 111, 107, 46, 10]))))), (7, (.k (.c (.d (.str [102, 97, 99, 40, 48, 44, 49, 41, 58, 45, 33, 46, 10, 102, 97, 99, 40, 65, 44, 66, 41, 58, 45, 65, 62, 48, 44, 67, 32, 105, 115, 32, 65, 45, 49, 44, 102, 97, 99, 40, 67, 44, 68, 41, 44, 66, 32, 105, 115, 32, 65, 42, 68, 46, 10]))))), (8, (.k (.c (.d (.str [115, 40, 65, 41, 58, 45, 65, 61, 102, 40, 66, 41, 44, 97, 114, 103, 40, 49, 44, 65, 44, 66, 41, 44, 66, 61, 49, 46, 10, 115, 40, 65, 41, 58, 45, 118, 97, 114, 40, 65, 41, 44, 65, 61, 110, 111, 110, 101, 46, 10]))))), (9, (.k (.c (.d (.str [114, 101, 118, 40, 91, 93, 44, 65, 44, 65, 41, 46, 10, 114, 101, 118, 40, 91, 65, 124, 66, 93, 44, 67, 44, 68, 41, 58, 45, 114, 101, 118, 40, 66, 44, 91, 65, 124, 67, 93, 44, 68, 41, 46, 10]))))), (10, (.k (.c (.d (.str [98, 97, 100, 40, 65, 41, 58, 45, 66, 32, 105, 115, 32, 65, 43, 102, 111, 111, 44, 67, 61, 66, 46, 10, 98, 105, 103, 40, 65, 41, 58, 45, 65, 32, 105, 115, 32, 57, 57, 57, 43, 49, 46, 10, 117, 110, 40, 65, 41, 58, 45, 110, 111, 115, 117, 99, 104, 40, 65, 41, 46, 10])))))], none⟩,
 ⟨(some 0), .mv (.t 1), none⟩] [1])
 (.ret))
theorem ac75_ok : cFunc Tryz.prog [] [(0, [0], []), (1, [1], [])] Tryz.f75 = some (ac75, [.tmp 0], 2) := by kernel_rfl
-- 47 loop.example/prologserver/spec.l4Program params 1 ntmps 19
def ac47 : Cd := .seq (.region [⟨(some 2), .mv (.k (.c (.full []))), none⟩] [2])
 (.seq (.region [⟨(some 6), .qcall 75 [], none⟩,
 ⟨(some 3), .mv (.t 6), none⟩] [6])
 (.seq (.region [⟨(some 8), .mv (.t 3), none⟩,
 ⟨(some 9), .mv (.t 0), none⟩,
 ⟨(some 10), .mv (.t 3), none⟩,
 ⟨(some 11), .len 1 (.t 10), none⟩,
 ⟨(some 12), .call false 42 [(.t 9), (.t 11)], none⟩,
 ⟨(some 13), .indexAddr 1 (.t 8) (.t 12), none⟩,
 ⟨(some 14), .load none (.t 13), none⟩,
 ⟨(some 15), .qcall 76 [(.t 14)], none⟩,
 ⟨(some 7), .mv (.t 15), none⟩,
 ⟨(some 16), .extract 0 (.t 7), none⟩,
 ⟨(some 17), .extract 1 (.t 7), none⟩,
 ⟨(some 4), .mv (.t 16), none⟩,
 ⟨(some 5), .mv (.t 17), none⟩] [0, 3, 5, 7, 8, 9, 10, 11, 12, 13, 14, 15, 16, 17])
 (.seq (.region [⟨(some 18), .mv (.t 4), none⟩,
 ⟨(some 2), .mv (.t 18), none⟩] [4, 18])
 (.ret))))
theorem ac47_ok : cFunc Tryz.prog [1000075, 1000076] [(0, [2], []), (1, [6], []), (2, [0, 3, 5, 7, 8, 9, 10, 11, 12, 13, 14, 15, 16, 17], []), (3, [4, 18], [])] Tryz.f47 = some (ac47, [.tmp 2], 19) := by kernel_rfl
-- 23 loop.example/prologserver/spec.l4Clause params 1 ntmps 47
-- loop head live: [0, 2, 4, 5]
def ac23 : Cd := .seq (.region [⟨(some 2), .alloc [(.d (.int .i64 0)), (.d (.int .i64 0)), (.d (.str [])), (.full []), (.full [])], none⟩] [])
 (.seq (.region [⟨(some 6), .mv (.t 0), none⟩,
 ⟨(some 7), .call false 47 [(.t 6)], none⟩,
 ⟨(some 3), .mv (.t 7), none⟩] [6, 7])
 (.seq (.seq (.region [⟨(some 8), .mv (.t 0), none⟩,
 ⟨(some 9), .call false 42 [(.t 8), (.k (.c (.d (.int .i64 4))))], none⟩,
 ⟨(some 10), .bin .gtr (.t 9) (.k (.c (.d (.int .i64 0)))), none⟩] [8, 9])
 (.cond (.t 10)
 (.seq (.region [⟨(some 11), .mv (.t 3), none⟩,
 ⟨(some 12), .mv (.t 0), none⟩,
 ⟨(some 13), .mv (.t 3), none⟩,
 ⟨(some 14), .len 1 (.t 13), none⟩,
 ⟨(some 15), .call false 42 [(.t 12), (.t 14)], none⟩,
 ⟨(some 16), .indexAddr 5 (.t 11) (.t 15), none⟩,
 ⟨(some 17), .load (some 5) (.t 16), none⟩,
 ⟨none, .store 5 (.t 2) (.t 17), none⟩] [0, 3, 10, 11, 12, 13, 14, 15, 16, 17])
 (.ret))
 (.skip)))
 (.seq (.region [⟨(some 18), .mv (.t 0), none⟩,
 ⟨(some 19), .buildSlice 1 3 [(.str [])] [(0, (.k (.c (.d (.str [112]))))), (1, (.k (.c (.d (.str [113]))))), (2, (.k (.c (.d (.str [102, 111, 111])))))], none⟩,
 ⟨(some 20), .callL false false 46 [(.t 18), (.t 19)], none⟩,
 ⟨(some 21), .mv (.t 0), none⟩,
 ⟨(some 22), .callL false false 48 [(.t 21), (.k (.c (.d (.int .i64 2))))], none⟩,
 ⟨(some 23), .buildSlice 4 1 [(.int .i64 0), (.int .i64 0), (.str []), (.sl [])] [(0, (.t 22))], none⟩,
 ⟨(some 24), .qcall 45 [(.t 20), (.t 23)], none⟩,
 ⟨(some 25), .build [(.d (.int .i64 0)), (.d (.int .i64 0)), (.d (.str [])), (.full []), (.full [])] [(0, 4, (.t 24))], none⟩,
 ⟨(some 4), .alloc [(.d (.int .i64 0)), (.d (.int .i64 0)), (.d (.str [])), (.full []), (.full [])], none⟩,
 ⟨none, .store 5 (.t 4) (.t 25), none⟩] [3, 10, 18, 19, 20, 21, 22, 23, 24, 25])
 (.seq (.seq (.region [⟨(some 26), .mv (.t 0), none⟩,
 ⟨(some 27), .call false 42 [(.t 26), (.k (.c (.d (.int .i64 3))))], none⟩,
 ⟨(some 5), .mv (.t 27), none⟩] [26, 27])
 (.block 0 (.loop (.seq (.seq (.region [⟨(some 28), .mv (.t 5), none⟩,
 ⟨(some 29), .bin .gtr (.t 28) (.k (.c (.d (.int .i64 0)))), none⟩] [28])
 (.cond (.t 29)
 (.skip)
 (.exit 0)))
 (.seq (.block 1 (.region [⟨(some 32), .fieldAddr 4 (.t 4), none⟩,
 ⟨(some 34), .mv (.t 0), none⟩,
 ⟨(some 35), .buildSlice 1 4 [(.str [])] [(0, (.k (.c (.d (.str [112]))))), (1, (.k (.c (.d (.str [61]))))), (2, (.k (.c (.d (.str [60]))))), (3, (.k (.c (.d (.str [113])))))], none⟩,
 ⟨(some 37), .mv (.t 0), none⟩,
 ⟨(some 39), .mv (.t 0), none⟩,
 ⟨(some 33), .loadL false none (.t 32), none⟩,
 ⟨(some 36), .callL false false 46 [(.t 34), (.t 35)], none⟩,
 ⟨(some 38), .callL false false 48 [(.t 37), (.k (.c (.d (.int .i64 2))))], none⟩,
 ⟨(some 40), .callL false false 48 [(.t 39), (.k (.c (.d (.int .i64 2))))], none⟩,
 ⟨(some 41), .buildSlice 4 2 [(.int .i64 0), (.int .i64 0), (.str []), (.sl [])] [(0, (.t 38)), (1, (.t 40))], none⟩,
 ⟨(some 42), .qcall 45 [(.t 36), (.t 41)], none⟩,
 ⟨(some 43), .buildSlice 4 1 [(.int .i64 0), (.int .i64 0), (.str []), (.sl [])] [(0, (.t 42))], none⟩,
 ⟨(some 44), .append false 4 (.t 33) (.t 43), none⟩,
 ⟨(some 45), .fieldAddr 4 (.t 4), none⟩,
 ⟨none, .store 1 (.t 45) (.t 44), none⟩] [29, 32, 33, 34, 35, 36, 37, 38, 39, 40, 41, 42, 43, 44, 45]))
 (.region [⟨(some 30), .mv (.t 5), none⟩,
 ⟨(some 31), .bin .sub (.t 30) (.k (.c (.d (.int .i64 1)))), none⟩,
 ⟨(some 5), .mv (.t 31), none⟩] [30, 31]))))))
 (.seq (.region [⟨(some 46), .load (some 5) (.t 4), none⟩,
 ⟨none, .store 5 (.t 2) (.t 46), none⟩] [4, 46])
 (.ret))))))
theorem ac23_ok : cFunc Tryz.prog [1000045, 5000032, 6000046, 6000048] [(0, [], []), (1, [6, 7], []), (2, [8, 9], []), (3, [0, 3, 10, 11, 12, 13, 14, 15, 16, 17], []), (4, [3, 10, 18, 19, 20, 21, 22, 23, 24, 25], []), (5, [26, 27], []), (6, [28], []), (8, [29, 32, 33, 34, 35, 36, 37, 38, 39, 40, 41, 42, 43, 44, 45], [0, 2, 3, 5, 7, 1, 4, 6, 8, 9, 10, 11, 12, 13, 14]), (7, [30, 31], []), (9, [4, 46], [])] Tryz.f23 = some (ac23, [.cell 2 (some 5)], 47) := by kernel_rfl
-- 22 loop.example/prologserver/spec.l4Mutate params 2 ntmps 48
-- loop head live: [4, 5]
def ac22 : Cd := .seq (.region [⟨(some 3), .box (.t 1), none⟩,
 ⟨(some 4), .alloc [(.d (.int .i64 0)), (.d (.int .i64 0)), (.d (.str [])), (.full []), (.full [])], none⟩] [1])
 (.seq (.region [⟨(some 6), .load (some 5) (.t 3), none⟩,
 ⟨(some 7), .call false 41 [(.t 6)], none⟩,
 ⟨(some 5), .alloc [(.d (.int .i64 0)), (.d (.int .i64 0)), (.d (.str [])), (.full []), (.full [])], none⟩,
 ⟨none, .store 5 (.t 5) (.t 7), none⟩] [3, 6, 7])
 (.seq (.seq (.region [⟨(some 8), .mv (.t 0), none⟩,
 ⟨(some 9), .call false 42 [(.t 8), (.k (.c (.d (.int .i64 40))))], none⟩] [8])
 (.block 0 (.seq (.region [⟨(some 11), .bin .eql (.t 9) (.k (.c (.d (.int .i64 0)))), none⟩,
 ⟨(some 10), .mv (.t 11), none⟩] [11])
 (.cond (.t 10)
 (.region [⟨(some 12), .mv (.t 0), none⟩,
 ⟨(some 13), .mv (.t 0), none⟩,
 ⟨(some 14), .callL false false 44 [(.t 13)], none⟩,
 ⟨(some 15), .callL false false 43 [(.t 12), (.t 14)], none⟩,
 ⟨(some 16), .fieldAddr 0 (.t 5), none⟩,
 ⟨none, .store 4 (.t 16) (.t 15), none⟩] [0, 9, 10, 12, 13, 14, 15, 16])
 (.seq (.region [⟨(some 18), .bin .eql (.t 9) (.k (.c (.d (.int .i64 1)))), none⟩,
 ⟨(some 17), .mv (.t 18), none⟩] [10, 18])
 (.cond (.t 17)
 (.region [⟨(some 19), .fieldAddr 4 (.t 5), none⟩,
 ⟨(some 21), .mv (.t 0), none⟩,
 ⟨(some 22), .mv (.t 0), none⟩,
 ⟨(some 20), .loadL false none (.t 19), none⟩,
 ⟨(some 23), .callL false false 44 [(.t 22)], none⟩,
 ⟨(some 24), .callL false false 43 [(.t 21), (.t 23)], none⟩,
 ⟨(some 25), .buildSlice 4 1 [(.int .i64 0), (.int .i64 0), (.str []), (.sl [])] [(0, (.t 24))], none⟩,
 ⟨(some 26), .append false 4 (.t 20) (.t 25), none⟩,
 ⟨(some 27), .fieldAddr 4 (.t 5), none⟩,
 ⟨none, .store 1 (.t 27) (.t 26), none⟩] [0, 9, 17, 19, 20, 21, 22, 23, 24, 25, 26, 27])
 (.seq (.region [⟨(some 29), .bin .eql (.t 9) (.k (.c (.d (.int .i64 2)))), none⟩,
 ⟨(some 28), .mv (.t 29), none⟩] [17, 29])
 (.cond (.t 28)
 (.block 1 (.loop (.seq (.seq (.region [⟨(some 30), .fieldAddr 4 (.t 5), none⟩,
 ⟨(some 31), .load none (.t 30), none⟩,
 ⟨(some 32), .len 1 (.t 31), none⟩,
 ⟨(some 33), .bin .leq (.t 32) (.k (.c (.d (.int .i64 6)))), none⟩] [30, 31, 32])
 (.cond (.t 33)
 (.skip)
 (.exit 1)))
 (.block 2 (.region [⟨(some 34), .fieldAddr 4 (.t 5), none⟩,
 ⟨(some 35), .load none (.t 34), none⟩,
 ⟨(some 36), .qcall 45 [(.k (.c (.d (.str [116, 114, 117, 101])))), (.k (.c (.full [])))], none⟩,
 ⟨(some 37), .buildSlice 4 1 [(.int .i64 0), (.int .i64 0), (.str []), (.sl [])] [(0, (.t 36))], none⟩,
 ⟨(some 38), .append false 4 (.t 35) (.t 37), none⟩,
 ⟨(some 39), .fieldAddr 4 (.t 5), none⟩,
 ⟨none, .store 1 (.t 39) (.t 38), none⟩] [33, 34, 35, 36, 37, 38, 39])))))
 (.seq (.region [⟨(some 41), .bin .eql (.t 9) (.k (.c (.d (.int .i64 3)))), none⟩,
 ⟨(some 40), .mv (.t 41), none⟩] [9, 28, 41])
 (.cond (.t 40)
 (.region [⟨(some 42), .mv (.t 0), none⟩,
 ⟨(some 43), .buildSlice 1 5 [(.str [])] [(0, (.k (.c (.d (.str [116, 114, 117, 101]))))), (1, (.k (.c (.d (.str [105, 115]))))), (2, (.k (.c (.d (.str [61]))))), (3, (.k (.c (.d (.str [109, 111, 100]))))), (4, (.k (.c (.d (.str [113])))))], none⟩,
 ⟨(some 44), .call false 46 [(.t 42), (.t 43)], none⟩,
 ⟨(some 45), .fieldAddr 0 (.t 5), none⟩,
 ⟨(some 46), .fieldAddr 2 (.t 45), none⟩,
 ⟨none, .store 1 (.t 46) (.t 44), none⟩] [0, 40, 42, 43, 44, 45, 46])
 (.skip)))))))))))
 (.seq (.region [⟨(some 47), .load (some 5) (.t 5), none⟩,
 ⟨none, .store 5 (.t 4) (.t 47), none⟩] [0, 5, 40, 47])
 (.ret))))
theorem ac22_ok : cFunc Tryz.prog [1000045, 5000019, 6000044, 6000043] [(0, [1], []), (1, [3, 6, 7], []), (2, [8], []), (3, [11], []), (4, [0, 9, 10, 12, 13, 14, 15, 16], []), (5, [10, 18], []), (6, [0, 9, 17, 19, 20, 21, 22, 23, 24, 25, 26, 27], [0, 2, 3, 1, 4, 5, 6, 7, 8, 9]), (7, [17, 29], []), (8, [30, 31, 32], []), (9, [33, 34, 35, 36, 37, 38, 39], [0, 1, 2, 3, 4, 5, 6]), (10, [9, 28, 41], []), (11, [0, 40, 42, 43, 44, 45, 46], []), (12, [0, 5, 40, 47], [])] Tryz.f22 = some (ac22, [.cell 4 (some 5)], 48) := by kernel_rfl
-- 13 loop.example/prologserver/spec.DrawClauseValid params 1 ntmps 10
def ac13 : Cd := .seq (.region [⟨(some 2), .alloc [(.d (.int .i64 0)), (.d (.int .i64 0)), (.d (.str [])), (.full []), (.full [])], none⟩] [])
 (.seq (.region [⟨(some 4), .mv (.t 0), none⟩,
 ⟨(some 5), .call false 21 [(.t 4)], none⟩,
 ⟨(some 3), .mv (.t 5), none⟩] [0, 4, 5])
 (.seq (.region [⟨(some 6), .mv (.t 3), none⟩,
 ⟨(some 7), .mv (.t 3), none⟩,
 ⟨(some 8), .call false 23 [(.t 7)], none⟩,
 ⟨(some 9), .call false 22 [(.t 6), (.t 8)], none⟩,
 ⟨none, .store 5 (.t 2) (.t 9), none⟩] [3, 6, 7, 8, 9])
 (.ret)))
theorem ac13_ok : cFunc Tryz.prog [] [(0, [], []), (1, [0, 4, 5], []), (2, [3, 6, 7, 8, 9], [])] Tryz.f13 = some (ac13, [.cell 2 (some 5)], 10) := by kernel_rfl
-- 5 loop.example/prologserver/spec.DrawCompileClause params 1 ntmps 5
def ac5 : Cd := .seq (.region [⟨(some 2), .alloc [(.d (.int .i64 0)), (.d (.int .i64 0)), (.d (.str [])), (.full []), (.full [])], none⟩] [])
 (.seq (.region [⟨(some 3), .mv (.t 0), none⟩,
 ⟨(some 4), .call false 13 [(.t 3)], none⟩,
 ⟨none, .store 5 (.t 2) (.t 4), none⟩] [0, 3, 4])
 (.ret))
theorem ac5_ok : cFunc Tryz.prog [] [(0, [], []), (1, [0, 3, 4], [])] Tryz.f5 = some (ac5, [.cell 2 (some 5)], 5) := by kernel_rfl
def progTexts : List (List UInt8) := [[97, 112, 112, 40, 91, 93, 44, 65, 44, 65, 41, 46, 10, 97, 112, 112, 40, 91, 65, 124, 66, 93, 44, 67, 44, 91, 65, 124, 68, 93, 41, 58, 45, 97, 112, 112, 40, 66, 44, 67, 44, 68, 41, 46, 10], [109, 101, 109, 40, 65, 44, 91, 65, 124, 66, 93, 41, 46, 10, 109, 101, 109, 40, 65, 44, 91, 66, 124, 67, 93, 41, 58, 45, 109, 101, 109, 40, 65, 44, 67, 41, 46, 10], [112, 40, 49, 41, 46, 10, 112, 40, 50, 41, 46, 10, 112, 40, 51, 41, 46, 10, 113, 40, 65, 41, 58, 45, 112, 40, 65, 41, 44, 65, 62, 49, 44, 33, 46, 10, 114, 40, 65, 44, 66, 41, 58, 45, 112, 40, 65, 41, 44, 112, 40, 66, 41, 46, 10], [108, 101, 110, 40, 91, 93, 44, 48, 41, 46, 10, 108, 101, 110, 40, 91, 65, 124, 66, 93, 44, 67, 41, 58, 45, 108, 101, 110, 40, 66, 44, 68, 41, 44, 67, 32, 105, 115, 32, 68, 43, 49, 46, 10], [109, 97, 120, 40, 65, 44, 66, 44, 65, 41, 58, 45, 65, 62, 61, 66, 44, 33, 46, 10, 109, 97, 120, 40, 65, 44, 66, 44, 66, 41, 46, 10], [101, 40, 97, 44, 98, 41, 46, 10, 101, 40, 98, 44, 99, 41, 46, 10, 101, 40, 99, 44, 100, 41, 46, 10, 116, 40, 65, 44, 66, 41, 58, 45, 101, 40, 65, 44, 66, 41, 46, 10, 116, 40, 65, 44, 66, 41, 58, 45, 101, 40, 65, 44, 67, 41, 44, 116, 40, 67, 44, 66, 41, 46, 10], [108, 111, 111, 112, 58, 45, 108, 111, 111, 112, 46, 10, 111, 107, 46, 10], [102, 97, 99, 40, 48, 44, 49, 41, 58, 45, 33, 46, 10, 102, 97, 99, 40, 65, 44, 66, 41, 58, 45, 65, 62, 48, 44, 67, 32, 105, 115, 32, 65, 45, 49, 44, 102, 97, 99, 40, 67, 44, 68, 41, 44, 66, 32, 105, 115, 32, 65, 42, 68, 46, 10], [115, 40, 65, 41, 58, 45, 65, 61, 102, 40, 66, 41, 44, 97, 114, 103, 40, 49, 44, 65, 44, 66, 41, 44, 66, 61, 49, 46, 10, 115, 40, 65, 41, 58, 45, 118, 97, 114, 40, 65, 41, 44, 65, 61, 110, 111, 110, 101, 46, 10], [114, 101, 118, 40, 91, 93, 44, 65, 44, 65, 41, 46, 10, 114, 101, 118, 40, 91, 65, 124, 66, 93, 44, 67, 44, 68, 41, 58, 45, 114, 101, 118, 40, 66, 44, 91, 65, 124, 67, 93, 44, 68, 41, 46, 10], [98, 97, 100, 40, 65, 41, 58, 45, 66, 32, 105, 115, 32, 65, 43, 102, 111, 111, 44, 67, 61, 66, 46, 10, 98, 105, 103, 40, 65, 41, 58, 45, 65, 32, 105, 115, 32, 57, 57, 57, 43, 49, 46, 10, 117, 110, 40, 65, 41, 58, 45, 110, 111, 115, 117, 99, 104, 40, 65, 41, 46, 10]]
theorem texts_calls (H : Heap) : ACalls Tryz.prog 75 [] H (fun r H' => H' = H ∧ r = .c (.d (.sl (progTexts.map strRow)))) := by
  refine acalls Tryz.func75 (by kernel_rfl) ac75_ok fun hf => ?_
  simp -implicitDefEqProofs [ac75, progTexts, strRow, go_sem, -List.set_cons_succ, -List.set_cons_zero]
theorem linesR_fits : ∀ (L : List (List UInt8)), (∀ l ∈ L, l.length ≤ 1000000) → ∀ p, linesR Tm.wr L = some p → ∀ c ∈ p, c.fits ∧ c.validB = true
  | [], _, p, h => by cases h; simp
  | [a], _, p, h => by cases h; simp
  | a :: b :: L, hl, p, h => by
    rw [linesR_cons] at h
    cases hc : clauseR Tm.wr a with
    | none => rw [hc] at h; cases h
    | some c =>
      cases hr : linesR Tm.wr (b :: L) with
      | none => rw [hc, hr] at h; cases h
      | some q =>
        rw [hc, hr] at h
        cases h
        intro d hd
        rcases List.mem_cons.1 hd with rfl | hd
        · exact clauseR_fits a (hl a (by simp)) hc
        · exact linesR_fits (b :: L) (fun l hm => hl l (by simp [List.mem_cons.1 hm])) q hr d hd
theorem progR_fits (s : List UInt8) (hs : s.length ≤ 1000000) : ∀ c ∈ (progR Tm.wr s).1, c.fits ∧ c.validB = true := by
  unfold progR
  split
  · simp
  · cases hr : linesR Tm.wr (cutAt 10 s) with
    | none => simp
    | some p =>
      exact linesR_fits _ (fun l hl => by have := cut_mem 10 s l hl; omega) p hr
theorem progs_len : (progTexts.map fun t => (progR Tm.wr3 t).1.length) = [2, 2, 5, 2, 2, 5, 2, 2, 2, 2, 3] := by kernel_rfl
theorem prog_len {m : Nat} (h : m < progTexts.length) : 1 ≤ (progR Tm.wr progTexts[m]).1.length ∧ (progR Tm.wr progTexts[m]).1.length ≤ 5 := by
  rw [← progR_eq]
  have h1 : ((progTexts.map fun t => (progR Tm.wr3 t).1.length)[m]?) = some (progR Tm.wr3 progTexts[m]).1.length := by simp [h]
  rw [progs_len] at h1
  have h2 := List.mem_of_getElem? h1
  have key : ∀ x ∈ [2, 2, 5, 2, 2, 5, 2, 2, 2, 2, 3], 1 ≤ x ∧ x ≤ 5 := by decide
  exact key _ h2
/-- a clause, somewhere -/
def ClR (n : Nat) (r : A) : Prop := ∃ c : Cl, r = .agg (c.row.map .d) ∧ c.fits ∧ c.body.length ≤ n
theorem ClR.re {m n : Nat} {r : A} (h : ClR m r) : A.re n r = r := by
  obtain ⟨c, rfl, _⟩ := h
  simp [A.re, re_d]
def PgR (r : A) : Prop := ∃ p : List Cl, r = .c (.d (.sl (p.map Cl.row))) ∧ 1 ≤ p.length ∧ p.length ≤ 5 ∧ ∀ c ∈ p, c.fits ∧ c.validB = true
theorem PgR.re {n : Nat} {r : A} (h : PgR r) : A.re n r = r := by
  obtain ⟨l, rfl, _⟩ := h
  rfl
theorem program_draws : Draws 47 [] 1 PgR := fun c p H i hc hp hp1 hi => by
  refine acalls Tryz.func47 (by kernel_rfl) ac47_ok fun hf => ?_
  simp only [List.length_set] at hf
  have hf0 : ∀ q, Obs.fits H.length 0 (H.set i (Rd c q)) := fun q => fits_reset (b := Rd c q) hf ⟨trivial, trivial, trivial⟩
  have hf1 : ∀ q, Obs.fits (H.set i (Rd c q)).length 0 (H.set i (Rd c q)) := fun q => by simpa using hf0 q
  have hql : progTexts.length = 11 := rfl
  have h11 : inR .i64 (11 : Int) := small_i64 (by omega) (by omega)
  simp -implicitDefEqProofs [ac47, hf0, go_sem, -List.set_cons_succ, -List.set_cons_zero]
  refine qcall_pure texts_calls (hf1 _) rfl ?_
  simp -implicitDefEqProofs [hql, h11, hf0, go_sem, -List.set_cons_succ, -List.set_cons_zero]
  refine call_drawE (pick_draws 11 (by omega)) hc (by omega) (by omega) hi (by simp [Ob.re, C.re]) (fun r => IntIn.re) (hf0 _) ?_
  rintro _ p1 ⟨m, rfl, m0, m1⟩ h1 h2
  have hmlt : m.toNat < progTexts.length := by rw [hql]; omega
  have hql2 : (progTexts[m.toNat]).length ≤ 1000000 := by
    have : ∀ q ∈ progTexts, q.length ≤ 1000 := by decide
    have := this _ (List.getElem_mem hmlt)
    omega
  obtain ⟨g1, g2⟩ := prog_len hmlt
  have g3 := progR_fits _ hql2
  simp -implicitDefEqProofs [hf0, go_sem, -List.set_cons_succ, -List.set_cons_zero]
  refine row_int [.str progTexts[m.toNat]] m0 (by simp [hmlt, strRow]) rfl ?_
  simp -implicitDefEqProofs [hf0, go_sem, -List.set_cons_succ, -List.set_cons_zero]
  refine qcall_pure (ppSpec_calls progTexts[m.toNat] hql2) (hf1 _) (by simp [progA, A.re, A.res, C.re]) ?_
  simp -implicitDefEqProofs [progA, hf0, go_sem, -List.set_cons_succ, -List.set_cons_zero]
  exact ⟨⟨_, rfl, g1, g2, g3⟩, p1, h1, h2, rfl⟩
theorem clCopy_own (c : Cl) (hc : c.fits) (H : Heap) : ACalls Tryz.prog 41 [.agg (c.row.map .d)] H (fun r H' =>
    H' = H ++ [.cells (c.row.map .d), .cells [.d (.int .i64 c.head.k), .d (.int .i64 c.head.n), .d (.str c.head.s), .d (.sl (c.head.kids.map Tm.row)), .own (.e (H.length + 3)) c.body.length (c.body.map Tm.row)], .cells [.d (.int .i64 c.head.k), .d (.int .i64 c.head.n), .d (.str c.head.s), .d (.sl (c.head.kids.map Tm.row)), .own (.e (H.length + 3)) c.body.length (c.body.map Tm.row)], .grow c.body.length 4] ∧
    r = .agg [.d (.int .i64 c.head.k), .d (.int .i64 c.head.n), .d (.str c.head.s), .d (.sl (c.head.kids.map Tm.row)), .own (.e (H.length + 3)) c.body.length (c.body.map Tm.row)]) := by
  obtain ⟨h, b⟩ := c
  obtain ⟨hh, hl, hb⟩ := hc
  simp only at hh hl hb
  have c1 := copy_calls h hh
  rw [row_eq] at c1
  simp only [List.map_cons, List.map_nil] at c1
  have hbl : inR .i64 (b.length : Int) := small_i64 (by omega) (by omega)
  refine acallsK Tryz.func41 (by kernel_rfl) ac41_ok fun hf => ?_
  simp -implicitDefEqProofs [ac41, Cl.row, hf, go_sem, -List.set_cons_succ, -List.set_cons_zero]
  refine qcall_pure c1 hf (by simp [A.re, C.re]) ?_
  simp -implicitDefEqProofs [hf, go_sem, -List.set_cons_succ, -List.set_cons_zero]
  refine loop_enter (St.le_tokenC 2 4 4 rfl rfl) ?_
  refine loop_set (σ := Nat) (fun i => [(4, .c (.d (.int .i64 i)))]) (fun _ => H) (fun i => [.cells [.d (.int .i64 h.k), .d (.int .i64 h.n), .d (.str h.s), .d (.sl (h.kids.map Tm.row)), .d (.sl (b.map Tm.row))], .cells [.d (.int .i64 0), .d (.int .i64 0), .d (.str []), .full [], .full []], .cells [.d (.int .i64 h.k), .d (.int .i64 h.n), .d (.str h.s), .d (.sl (h.kids.map Tm.row)), .own (.l 3) i ((b.map Tm.row).take i)], .grow i 4])
    (fun i => i ≤ b.length) (fun i => b.length - i) 0 rfl (Nat.zero_le _) ?_
  intro i hi
  simp -implicitDefEqProofs [setAll, hbl, go_sem, -List.set_cons_succ, -List.set_cons_zero]
  refine ⟨fun hlt => ?_, fun hge => ?_⟩
  · have hadd : inR .i64 ((i : Int) + 1) := small_i64 (by omega) (by omega)
    refine row_of hlt (row_len _) ?_
    simp -implicitDefEqProofs [row_len, take_row, pure_d, re_d, hf, go_sem, -List.set_cons_succ, -List.set_cons_zero]
    refine qcall_pure (copy_calls b[i] (hb _ (List.getElem_mem hlt))) hf (by simp [A.re, re_d]) ?_
    simp -implicitDefEqProofs [row_len, toDs_map, hadd, hf, Nat.min_eq_left hi, go_sem, -List.set_cons_succ, -List.set_cons_zero]
    refine ⟨fun r hr => allLen_map row_len r (List.mem_of_mem_take hr), by unfold maxApp; omega, ?_⟩
    refine loop_back (i + 1) ?_ hlt (by show b.length - (i + 1) < b.length - i; omega)
    simp [setAll, take_map_succ hlt]
  · have hil : i = b.length := by omega
    subst hil
    rw [show (b.map Tm.row).take b.length = b.map Tm.row from List.take_of_length_le (by simp)]
    simp -implicitDefEqProofs [hf, go_sem, -List.set_cons_succ, -List.set_cons_zero]
    refine finK_ret _ ⟨trivial, trivial⟩ rfl ?_
    simp [Ob.re, C.re, A.re, Ref.re]
/-- a clause that is drawn -/
theorem mutC_draws (c0 : Cl) (h0 : c0.fits) (hb7 : c0.body.length ≤ 900) : Draws 22 [.agg (c0.row.map .d)] 1284 (ClR 1000) := fun c p H i hc hp hp1 hi => by
  obtain ⟨⟨k, n, s, l⟩, b⟩ := c0
  refine acalls Tryz.func22 (by kernel_rfl) ac22_ok fun hf => ?_
  simp only [List.length_set] at hf
  have hf0 : ∀ q, Obs.fits H.length 0 (H.set i (Rd c q)) := fun q => fits_reset (b := Rd c q) hf ⟨trivial, trivial, trivial⟩
  have hf1 : ∀ q, Obs.fits (H.set i (Rd c q)).length 0 (H.set i (Rd c q)) := fun q => by simpa using hf0 q
  have hcopy := clCopy_own _ h0
  obtain ⟨hh, hbl, hbf⟩ := h0
  simp only at hh hbl hbf hb7
  have hhf := hh
  obtain ⟨hk, hn, hs, hl, hkids⟩ := hh
  simp only [Cl.row, Tm.k, Tm.n, Tm.s, Tm.kids, List.map_cons, List.map_nil] at hcopy ⊢
  simp -implicitDefEqProofs [ac22, hf0, go_sem, -List.set_cons_succ, -List.set_cons_zero]
  have done : ∀ (d : Cl) (q : Int), p ≤ q → q ≤ p + 1284 → d.fits → d.body.length ≤ 1000 → ∀ r, r = .agg (d.row.map .d) → Drew (ClR 1000) 1284 c p H i r (H.set i (Rd c q)) := fun d q a1 a2 a3 a4 r hr => ⟨⟨d, hr, a3, a4⟩, q, a1, a2, rfl⟩
  refine (hcopy _).mono fun r H' ⟨g1, g2⟩ => ⟨H.set i (Rd c p), [.cells [.d (.int .i64 k), .d (.int .i64 n), .d (.str s), .d (.sl (l.map Tm.row)), .d (.sl (b.map Tm.row))], .cells [.d (.int .i64 0), .d (.int .i64 0), .d (.str []), .full [], .full []], .cells [.d (.int .i64 k), .d (.int .i64 n), .d (.str s), .d (.sl (l.map Tm.row)), .d (.sl (b.map Tm.row))], .cells [.d (.int .i64 k), .d (.int .i64 n), .d (.str s), .d (.sl (l.map Tm.row)), .own (.l 5) b.length (b.map Tm.row)], .cells [.d (.int .i64 k), .d (.int .i64 n), .d (.str s), .d (.sl (l.map Tm.row)), .own (.l 5) b.length (b.map Tm.row)], .grow b.length 4],
    .agg [.d (.int .i64 k), .d (.int .i64 n), .d (.str s), .d (.sl (l.map Tm.row)), .own (.l 5) b.length (b.map Tm.row)], by rw [g1]; simp [Ob.re, C.re, Ref.re], by simp, by simp, by simpa using hf0 p, by rw [g2]; simp [A.re, C.re, Ref.re], ?_⟩
  clear hcopy
  simp -implicitDefEqProofs [hf0, go_sem, -List.set_cons_succ, -List.set_cons_zero]
  refine call_drawE (pick_draws 40 (by omega)) hc (by omega) (by omega) hi (by simp [Ob.re, C.re, Ref.re]) (fun r => IntIn.re) (hf0 _) ?_
  rintro _ p1 ⟨m, rfl, m0, m1⟩ h1 h2
  simp -implicitDefEqProofs [hf0, go_sem, -List.set_cons_succ, -List.set_cons_zero]
  refine ⟨fun _ => ?_, fun _ => ⟨fun _ => ?_, fun _ => ⟨fun _ => ?_, fun _ => ⟨fun _ => ?_, fun _ => ?_⟩⟩⟩⟩
  · refine call_drawE l1Some_draws hc (by omega) (by omega) hi (by simp [Ob.re, C.re]) (fun r => TmR.re) (hf0 _) ?_
    rintro _ p2 ⟨t, rfl, ht⟩ h3 h4
    refine ⟨LocSame.refl _, ?_⟩
    simp -implicitDefEqProofs [pure_d, re_d, hf0, go_sem, -List.set_cons_succ, -List.set_cons_zero]
    refine call_drawE (l1Mutate_draws t ht) hc (by omega) (by omega) hi (by simp [Ob.re, C.re, Ref.re]) (fun r => TmR.re) (hf0 _) ?_
    rintro _ p3 ⟨u, rfl, hu⟩ h5 h6
    refine ⟨LocSame.refl _, ?_⟩
    obtain ⟨k2, n2, s2, l2⟩ := u
    simp -implicitDefEqProofs [row_mk, hf0, go_sem, -List.set_cons_succ, -List.set_cons_zero]
    exact done ⟨.mk k2 n2 s2 l2, b⟩ p3 (by omega) (by omega) ⟨hu, hbl, hbf⟩ (by show b.length ≤ 1000; omega) _ (by simp [Cl.row, Tm.k, Tm.n, Tm.s, Tm.kids])
  · refine call_drawE l1Some_draws hc (by omega) (by omega) hi (by simp [Ob.re, C.re]) (fun r => TmR.re) (hf0 _) ?_
    rintro _ p2 ⟨t, rfl, ht⟩ h3 h4
    refine ⟨LocSame.refl _, ?_⟩
    simp -implicitDefEqProofs [pure_d, re_d, hf0, go_sem, -List.set_cons_succ, -List.set_cons_zero]
    refine call_drawE (l1Mutate_draws t ht) hc (by omega) (by omega) hi (by simp [Ob.re, C.re, Ref.re]) (fun r => TmR.re) (hf0 _) ?_
    rintro _ p3 ⟨u, rfl, hu⟩ h5 h6
    refine ⟨LocSame.refl _, ?_⟩
    simp -implicitDefEqProofs [row_len, take_row, toDs_map, hf0, go_sem, -List.set_cons_succ, -List.set_cons_zero]
    refine ⟨allLen_map row_len, by unfold maxApp; omega, ?_⟩
    exact done ⟨.mk k n s l, b ++ [u]⟩ p3 (by omega) (by omega) ⟨hhf, by show (b ++ [u]).length ≤ 1048576; simp; omega, fun x hx => by
      rcases List.mem_append.1 hx with hx | hx
      · exact hbf x hx
      · simp at hx; subst hx; exact hu⟩ (by show (b ++ [u]).length ≤ 1000; simp; omega) _ (by simp [Cl.row, Tm.k, Tm.n, Tm.s, Tm.kids])
  · refine loop_set (σ := List Tm) (fun _ => []) (fun _ => H.set i (Rd c p1)) (fun y => [.cells [.d (.int .i64 k), .d (.int .i64 n), .d (.str s), .d (.sl (l.map Tm.row)), .d (.sl (b.map Tm.row))], .cells [.d (.int .i64 0), .d (.int .i64 0), .d (.str []), .full [], .full []], .cells [.d (.int .i64 k), .d (.int .i64 n), .d (.str s), .d (.sl (l.map Tm.row)), .d (.sl (b.map Tm.row))], .cells [.d (.int .i64 k), .d (.int .i64 n), .d (.str s), .d (.sl (l.map Tm.row)), .own (.l 5) b.length (b.map Tm.row)], .cells [.d (.int .i64 k), .d (.int .i64 n), .d (.str s), .d (.sl (l.map Tm.row)), .own (.l 5) b.length (b.map Tm.row)], .grow y.length 4, .cells [.d (.int .i64 k), .d (.int .i64 n), .d (.str s), .d (.sl (l.map Tm.row)), .own (.l 5) y.length (y.map Tm.row)]])
      (fun y => y.length ≤ 900 ∧ ∀ t ∈ y, t.fits) (fun y => 7 - y.length) b rfl ⟨hb7, hbf⟩ ?_
    rintro y ⟨hy, hyf⟩
    have hly : inR .i64 (y.length : Int) := small_i64 (by omega) (by omega)
    simp -implicitDefEqProofs [setAll, hf0, hly, go_sem, -List.set_cons_succ, -List.set_cons_zero]
    refine ⟨fun hlt => ?_, fun hge => ?_⟩
    · have hst := struct_calls [116, 114, 117, 101] [] (by simp)
      simp only [List.map_nil] at hst
      refine qcall_pure hst (hf1 _) (by simp [A.re, re_d]) ?_
      simp -implicitDefEqProofs [hf0, row_len, take_row, toDs_map, go_sem, -List.set_cons_succ, -List.set_cons_zero]
      refine ⟨allLen_map row_len, by unfold maxApp; omega, ?_⟩
      refine loop_back (y ++ [Tm.mk 3 0 [116, 114, 117, 101] []]) (by first | rfl | simp [setAll]) ⟨by simp; omega, fun t ht => ?_⟩ (by show 7 - (y ++ [Tm.mk 3 0 [116, 114, 117, 101] []]).length < 7 - y.length; simp; omega)
      rcases List.mem_append.1 ht with ht | ht
      · exact hyf t ht
      · simp at ht; subst ht; exact fits_st (by simp) (by simp) (by simp)
    · exact done ⟨.mk k n s l, y⟩ p1 (by omega) (by omega) ⟨hhf, by show y.length ≤ 1048576; omega, hyf⟩ (by show y.length ≤ 1000; omega) _ (by simp [Cl.row, Tm.k, Tm.n, Tm.s, Tm.kids])
  · refine call_drawE (of_draws [[116, 114, 117, 101], [105, 115], [61], [109, 111, 100], [113]] (by decide)) hc (by omega) (by omega) hi (by simp [Ob.re, C.re]) (fun r ⟨n, _, hn⟩ => by subst hn; rfl) (hf0 _) ?_
    rintro _ p2 ⟨x, hx, rfl⟩ h3 h4
    have hx : x.length ≤ 1000 := by simp at hx; rcases hx with rfl | rfl | rfl | rfl | rfl <;> decide
    simp -implicitDefEqProofs [hf0, go_sem, -List.set_cons_succ, -List.set_cons_zero]
    exact done ⟨.mk k n x l, b⟩ p2 (by omega) (by omega) ⟨.mk hk hn (by omega) hl hkids, hbl, hbf⟩ (by show b.length ≤ 1000; omega) _ (by simp [Cl.row, Tm.k, Tm.n, Tm.s, Tm.kids])
  · exact done ⟨.mk k n s l, b⟩ p1 (by omega) (by omega) ⟨hhf, hbl, hbf⟩ (by show b.length ≤ 1000; omega) _ (by simp [Cl.row, Tm.k, Tm.n, Tm.s, Tm.kids])
theorem clause_draws : Draws 23 [] 600 (ClR 7) := fun c p H i hc hp hp1 hi => by
  refine acalls Tryz.func23 (by kernel_rfl) ac23_ok fun hf => ?_
  simp only [List.length_set] at hf
  have hf0 : ∀ q, Obs.fits H.length 0 (H.set i (Rd c q)) := fun q => fits_reset (b := Rd c q) hf ⟨trivial, trivial, trivial⟩
  have hf1 : ∀ q, Obs.fits (H.set i (Rd c q)).length 0 (H.set i (Rd c q)) := fun q => by simpa using hf0 q
  have done : ∀ (d : Cl) (q : Int), p ≤ q → q ≤ p + 600 → d.fits → d.body.length ≤ 7 → ∀ r, r = .agg (d.row.map .d) → Drew (ClR 7) 600 c p H i r (H.set i (Rd c q)) := fun d q a1 a2 a3 a4 r hr => ⟨⟨d, hr, a3, a4⟩, q, a1, a2, rfl⟩
  have hdr : Draws 48 [.c (.d (.int .i64 2))] 80 TmR := l1Draw_draws 2 (by omega)
  simp -implicitDefEqProofs [ac23, hf0, go_sem, -List.set_cons_succ, -List.set_cons_zero]
  refine call_drawE program_draws hc (by omega) (by omega) hi (by simp [Ob.re, C.re]) (fun r => PgR.re) (hf0 _) ?_
  rintro _ p1 ⟨P, rfl, hP1, hP5, hPf⟩ h1 h2
  have hPl : inR .i64 (P.length : Int) := small_i64 (by omega) (by omega)
  simp -implicitDefEqProofs [hf0, go_sem, -List.set_cons_succ, -List.set_cons_zero]
  refine call_drawE (pick_draws 4 (by omega)) hc (by omega) (by omega) hi (by simp [Ob.re, C.re]) (fun r => IntIn.re) (hf0 _) ?_
  rintro _ p2 ⟨m, rfl, m0, m1⟩ h3 h4
  simp -implicitDefEqProofs [hPl, hf0, go_sem, -List.set_cons_succ, -List.set_cons_zero]
  refine ⟨fun hm => ?_, fun hm => ?_⟩
  · refine call_drawE (pick_draws P.length (by omega)) hc (by omega) (by omega) hi (by simp [Ob.re, C.re]) (fun r => IntIn.re) (hf0 _) ?_
    rintro _ p3 ⟨j, rfl, j0, j1⟩ h5 h6
    have hjl : j.toNat < P.length := by omega
    simp -implicitDefEqProofs [hf0, go_sem, -List.set_cons_succ, -List.set_cons_zero]
    refine row_int (P[j.toNat]).row j0 (by simp [hjl]) (crow_len _) ?_
    simp -implicitDefEqProofs [crow_len, take_crow, thaw_d, fits_map, hf0, go_sem, -List.set_cons_succ, -List.set_cons_zero]
    obtain ⟨g1, g2⟩ := hPf _ (List.getElem_mem hjl)
    have g3 := (Cl.validB.parts g2).2.1
    exact done P[j.toNat] p3 (by omega) (by omega) g1 (by omega) _ rfl
  · refine call_drawE (of_draws [[112], [113], [102, 111, 111]] (by decide)) hc (by omega) (by omega) hi (by simp [Ob.re, C.re]) (fun r ⟨n, _, hn⟩ => by subst hn; rfl) (hf0 _) ?_
    rintro _ p3 ⟨s, hs, rfl⟩ h5 h6
    have hs : s.length ≤ 3 := by simp at hs; rcases hs with rfl | rfl | rfl <;> decide
    refine ⟨LocSame.refl _, ?_⟩
    simp -implicitDefEqProofs [hf0, go_sem, -List.set_cons_succ, -List.set_cons_zero]
    refine call_drawE hdr hc (by omega) (by omega) hi (by simp [Ob.re, C.re]) (fun r => TmR.re) (hf0 _) ?_
    rintro _ p4 ⟨a, rfl, ha⟩ h7 h8
    refine ⟨LocSame.refl _, ?_⟩
    simp -implicitDefEqProofs [row_len, take_row, toDs_map, hf0, go_sem, -List.set_cons_succ, -List.set_cons_zero]
    have hst := struct_calls s [a] (by simp)
    simp only [List.map_cons, List.map_nil] at hst
    refine qcall_pure hst (hf1 _) (by simp [A.re, re_d]) ?_
    have hhd : (Tm.mk 3 0 s [a]).fits := fits_st (by omega) (by simp) (by simpa using ha)
    simp -implicitDefEqProofs [row_mk, hf0, go_sem, -List.set_cons_succ, -List.set_cons_zero]
    refine call_drawE (pick_draws 3 (by omega)) hc (by omega) (by omega) hi (by simp [Ob.re, C.re]) (fun r => IntIn.re) (hf0 _) ?_
    rintro _ p5 ⟨m, rfl, m0, m1⟩ h9 h10
    simp -implicitDefEqProofs [hf0, go_sem, -List.set_cons_succ, -List.set_cons_zero]
    refine loop_enter (St.le_tokenC 1 4 4 rfl rfl) ?_
    refine loop_set (σ := Int × List Tm × Int) (fun x => [(5, .c (.d (.int .i64 x.1)))]) (fun x => H.set i (Rd c x.2.2)) (fun x => [.cells [.d (.int .i64 0), .d (.int .i64 0), .d (.str []), .full [], .full []], .cells [.d (.int .i64 3), .d (.int .i64 0), .d (.str s), .d (.sl [a.row]), .own (.l 2) x.2.1.length (x.2.1.map Tm.row)], .grow x.2.1.length 4])
      (fun x => 0 ≤ x.1 ∧ x.1 + x.2.1.length ≤ 2 ∧ p ≤ x.2.2 ∧ x.2.2 + x.1 * 161 ≤ p + 600 ∧ ∀ t ∈ x.2.1, t.fits) (fun x => x.1.toNat) (m, [], p5) rfl ⟨m0, by simp; omega, by simp; omega, by simp; omega, by simp⟩ ?_
    rintro ⟨m, l, q⟩ ⟨i0, i1, i2, i3, i4⟩
    simp only at i0 i1 i2 i3 i4
    have hsubm : inR .i64 (m - 1) := small_i64 (by omega) (by omega)
    simp -implicitDefEqProofs [setAll, hf0, hsubm, go_sem, -List.set_cons_succ, -List.set_cons_zero]
    refine ⟨fun hlt => ?_, fun hge => ?_⟩
    · refine call_drawE (of_draws [[112], [61], [60], [113]] (by decide)) hc (by omega) (by omega) hi (by simp [Ob.re, C.re]) (fun r ⟨n, _, hn⟩ => by subst hn; rfl) (hf0 _) ?_
      rintro _ q1 ⟨s2, hs2, rfl⟩ k1 k2
      have hs2 : s2.length ≤ 3 := by simp at hs2; rcases hs2 with rfl | rfl | rfl | rfl <;> decide
      refine ⟨LocSame.refl _, ?_⟩
      simp -implicitDefEqProofs [hf0, go_sem, -List.set_cons_succ, -List.set_cons_zero]
      refine call_drawE hdr hc (by omega) (by omega) hi (by simp [Ob.re, C.re]) (fun r => TmR.re) (hf0 _) ?_
      rintro _ q2 ⟨u, rfl, hu⟩ k3 k4
      refine ⟨LocSame.refl _, ?_⟩
      simp -implicitDefEqProofs [hf0, go_sem, -List.set_cons_succ, -List.set_cons_zero]
      refine call_drawE hdr hc (by omega) (by omega) hi (by simp [Ob.re, C.re]) (fun r => TmR.re) (hf0 _) ?_
      rintro _ q3 ⟨w, rfl, hw⟩ k5 k6
      refine ⟨LocSame.refl _, ?_⟩
      simp -implicitDefEqProofs [row_len, take_row, toDs_map, hf0, go_sem, -List.set_cons_succ, -List.set_cons_zero]
      have hst2 := struct_calls s2 [u, w] (by simp)
      simp only [List.map_cons, List.map_nil] at hst2
      refine qcall_pure hst2 (hf1 _) (by simp [A.re, re_d]) ?_
      simp -implicitDefEqProofs [row_len, take_row, toDs_map, hf0, hsubm, go_sem, -List.set_cons_succ, -List.set_cons_zero]
      refine ⟨allLen_map row_len, by unfold maxApp; omega, ?_⟩
      refine loop_back (m - 1, l ++ [.mk 3 0 s2 [u, w]], q3) (by simp [setAll]) ⟨by simp; omega, by simp; omega, by simp; omega, by simp; omega, fun t ht => ?_⟩ (by show (m - 1).toNat < m.toNat; omega)
      rcases List.mem_append.1 ht with ht | ht
      · exact i4 t ht
      · simp at ht; subst ht; exact fits_st (by omega) (by simp) (by simp [hu, hw])
    · exact done ⟨.mk 3 0 s [a], l⟩ q i2 (by omega) ⟨hhd, by show l.length ≤ 1048576; omega, i4⟩ (by show l.length ≤ 7; omega) _ (by simp [Cl.row, Tm.k, Tm.n, Tm.s, Tm.kids])
theorem drawCv_calls (c : List UInt8) (hc : c.length ≤ 1048576) (H : Heap) : ACalls Tryz.prog 13 [.c (.d (.sl (bytesRows c)))] H (fun r H' => H' = H ∧ ClR 1000 r) := by
  refine acalls Tryz.func13 (by kernel_rfl) ac13_ok fun hf => ?_
  simp -implicitDefEqProofs [ac13, go_sem, -List.set_cons_succ, -List.set_cons_zero]
  refine (open_calls c hc _).mono fun r H' ⟨h1, c', hc', h2⟩ => ⟨H, [.cells [.d (.int .i64 0), .d (.int .i64 0), .d (.str []), .full [], .full []], Rd c' 0], .c (.ptr (.l 1) 0), by rw [h2]; simp [Rd, Ob.re, C.re], rfl, by simp, hf, by rw [h1]; simp [A.re, C.re, Ref.re], ?_⟩
  simp -implicitDefEqProofs [go_sem, -List.set_cons_succ, -List.set_cons_zero]
  refine call_drawL (j := 1) clause_draws hc' (by omega) (by omega) rfl (by simp [Rd, Ob.re, C.re]) (fun r => ClR.re) hf ?_
  rintro _ p1 ⟨d, rfl, hd, hdl⟩ h3 h4
  simp -implicitDefEqProofs [go_sem, -List.set_cons_succ, -List.set_cons_zero]
  refine call_drawL (j := 1) (mutC_draws d hd (by omega)) hc' (by omega) (by omega) rfl (by simp [Rd, Ob.re, C.re]) (fun r => ClR.re) hf ?_
  rintro _ p2 ⟨d2, rfl, hd2, hdl2⟩ h5 h6
  simp -implicitDefEqProofs [crow_len, take_crow, thaw_d, fits_map, hf, go_sem, -List.set_cons_succ, -List.set_cons_zero]
  exact ⟨d2, rfl, hd2, hdl2⟩
theorem drawCc_calls (c : List UInt8) (hc : c.length ≤ 1048576) (H : Heap) : ACalls Tryz.prog 5 [.c (.d (.sl (bytesRows c)))] H (fun r H' => H' = H ∧ ClR 1000 r) := by
  refine acalls Tryz.func5 (by kernel_rfl) ac5_ok fun hf => ?_
  simp -implicitDefEqProofs [ac5, go_sem, -List.set_cons_succ, -List.set_cons_zero]
  refine call_some (drawCv_calls c hc _) (by simp [Ob.re, C.re]) (fun r => ClR.re) hf ?_
  rintro _ ⟨d, rfl, hd, hdl⟩
  simp -implicitDefEqProofs [crow_len, take_crow, thaw_d, fits_map, hf, go_sem, -List.set_cons_succ, -List.set_cons_zero]
  exact ⟨d, rfl, hd, hdl⟩
end Go.Proofs.YteighafofbohcaaGreat

/-
  Instructions as data.
  Conditions: none.
-/
open Go Go.AM Go.Proofs
namespace Go.Proofs.YteighafofbohcaaGreat
open Go.ChangeShapes Go.WideShapes Go.ChangeAt Go.RowKit
set_option linter.unusedVariables false
set_option linter.unusedSimpArgs false
set_option maxRecDepth 100000
/-- an instruction -/
structure Ins where
  op : Int
  a : Int
  b : Int
  text : List UInt8
def Ins.row (x : Ins) : List D := [.int .i64 x.op, .int .i64 x.a, .int .i64 x.b, .str x.text]
structure Ins.ok (x : Ins) : Prop where
  op : inR .i64 x.op
  a : inR .i64 x.a
  b : inR .i64 x.b
  text : x.text.length ≤ reachBytes
end Go.Proofs.YteighafofbohcaaGreat

/-
  Code as it is made: the plain law.
  Conditions: none.
-/
open Go Go.AM Go.Proofs
namespace Go.Proofs.YteighafofbohcaaGreat
open Go.ChangeShapes Go.WideShapes Go.ChangeAt Go.RowKit
set_option linter.unusedVariables false
set_option linter.unusedSimpArgs false
set_option maxRecDepth 100000
/-- what is known while code is made: the slots of variables, the next slot, the rows of the code -/
structure Mk where
  sl : List (Int × Nat)
  next : Nat
  code : List (List D)
def slotO (m : List (Int × Nat)) (n : Int) : Option Nat := (m.find? fun p => p.1 == n).map (·.2)
def insR (op a b : Int) (s : List UInt8) : List D := [.int .i64 op, .int .i64 a, .int .i64 b, .str s]
def Mk.emit (M : Mk) (op a b : Int) (s : List UInt8) : Mk := ⟨M.sl, M.next, M.code ++ [insR op a b s]⟩
def Mk.give (M : Mk) (n : Int) (v : Nat) : Mk := ⟨M.sl ++ [(n, v)], M.next, M.code⟩
def Mk.bump (M : Mk) : Mk := ⟨M.sl, M.next + 1, M.code⟩
/-- an argument of a structure that is no structure -/
def Mk.desc (M : Mk) (t : Tm) : Mk := if t.k = 2 then M.emit 6 t.n 0 [] else match slotO M.sl t.n with
  | some v => M.emit 5 v 0 []
  | none => ((M.give t.n M.next).emit 4 M.next 0 []).bump
def argsT : List Tm → Mk → Mk × List (Tm × Nat)
  | [], M => (M, [])
  | t :: l, M => if t.k = 3 then ((argsT l (M.emit 4 M.next 0 []).bump).1, (t, M.next) :: (argsT l (M.emit 4 M.next 0 []).bump).2) else argsT l (M.desc t)
/-- the structures that are left -/
def headQ : Nat → List (Tm × Nat) → Mk → Mk
  | _, [], M => M
  | 0, _ :: _, M => M
  | f + 1, p :: q, M => headQ f (q ++ (argsT p.1.kids (M.emit 3 p.1.kids.length p.2 p.1.s)).2) (argsT p.1.kids (M.emit 3 p.1.kids.length p.2 p.1.s)).1
def qsize (q : List (Tm × Nat)) : Nat := (q.map fun p => p.1.size).sum
/-- the arguments of a head, from the i-th on -/
def headA : List Tm → Nat → Mk → Mk × List (Tm × Nat)
  | [], _, M => (M, [])
  | t :: l, i, M => if t.k = 2 then headA l (i + 1) (M.emit 2 t.n i [])
    else if t.k = 1 then headA l (i + 1) (match slotO M.sl t.n with | some v => M.emit 1 v i [] | none => M.give t.n i)
    else ((headA l (i + 1) M).1, (t, i) :: (headA l (i + 1) M).2)
def headT (l : List Tm) (M : Mk) : Mk := headQ (qsize (headA l 0 M).2) (headA l 0 M).2 (headA l 0 M).1
/-- what stands behind the instruction of a structure that is built -/
def partsT : List Tm → List Int → Mk → Mk
  | t :: l, b :: bs, M => partsT l bs (if t.k = 3 then M.emit 5 b 0 [] else M.desc t)
  | _, _, M => M
mutual
def buildT : Tm → Mk → Mk × Nat
  | .mk k n s l, M => (partsT l (buildL l M).2 ((buildL l M).1.bump.emit 7 l.length (buildL l M).1.next s), (buildL l M).1.next)
def buildL : List Tm → Mk → Mk × List Int
  | [], M => (M, [])
  | t :: l, M => if t.k = 3 then ((buildL l (buildT t M).1).1, ((buildT t M).2 : Int) :: (buildL l (buildT t M).1).2) else ((buildL l M).1, (-1) :: (buildL l M).2)
end
def putT (M : Mk) (t : Tm) (i : Nat) : Mk := if t.k = 2 then M.emit 10 t.n i []
  else if t.k = 1 then (match slotO M.sl t.n with | some v => M.emit 9 v i [] | none => ((M.give t.n M.next).bump).emit 8 M.next i [])
  else (buildT t M).1.emit 9 (buildT t M).2 i []
def putsT : List Tm → Nat → Mk → Mk
  | [], _, M => M
  | t :: l, i, M => putsT l (i + 1) (putT M t i)
/-- everything is small -/
structure Mk.fit (M : Mk) (B : Nat) : Prop where
  next : M.next ≤ B
  code : M.code.length ≤ B
  vals : ∀ p ∈ M.sl, p.2 ≤ B
  rows : ∀ r ∈ M.code, ∃ x : Ins, r = x.row
theorem Mk.fit.all {M : Mk} {B : Nat} (h : M.fit B) : allLen 4 M.code := fun r hr => by obtain ⟨x, rfl⟩ := h.rows r hr; rfl
theorem Mk.fit.mono {M : Mk} {B C : Nat} (h : M.fit B) (hb : B ≤ C) : M.fit C :=
  ⟨by have := h.next; omega, by have := h.code; omega, fun p hp => by have := h.vals p hp; omega, h.rows⟩
theorem Mk.fit.emit {M : Mk} {B : Nat} (h : M.fit B) (op a b : Int) (s : List UInt8) : (M.emit op a b s).fit (B + 1) := by
  refine ⟨by have := h.next; show M.next ≤ _; omega, by have := h.code; simp [Mk.emit]; omega, fun p hp => by have := h.vals p hp; omega, fun r hr => ?_⟩
  rcases List.mem_append.1 hr with hr | hr
  · exact h.rows r hr
  · simp at hr; exact ⟨⟨op, a, b, s⟩, hr⟩
theorem Mk.fit.give {M : Mk} {B : Nat} (h : M.fit B) (n : Int) (v : Nat) (hv : v ≤ B) : (M.give n v).fit B := by
  refine ⟨h.next, h.code, fun p hp => ?_, h.rows⟩
  rcases List.mem_append.1 hp with hp | hp
  · exact h.vals p hp
  · simp at hp; subst hp; exact hv
theorem Mk.fit.bump {M : Mk} {B : Nat} (h : M.fit B) : M.bump.fit (B + 1) :=
  ⟨by have := h.next; show M.next + 1 ≤ _; omega, by have := h.code; show M.code.length ≤ _; omega, fun p hp => by have := h.vals p hp; omega, h.rows⟩
theorem slotO_mem {m : List (Int × Nat)} {n : Int} {v : Nat} (h : slotO m n = some v) : (n, v) ∈ m := by
  simp only [slotO, Option.map_eq_some_iff] at h
  obtain ⟨p, h1, rfl⟩ := h
  have h2 := List.find?_some h1
  have h3 := List.mem_of_find?_eq_some h1
  simp at h2
  rw [← h2]; exact h3
theorem Mk.fit.desc {M : Mk} {B : Nat} (h : M.fit B) (t : Tm) : (M.desc t).fit (B + 2) := by
  unfold Mk.desc
  split
  · exact (h.emit ..).mono (by omega)
  · split
    · exact (h.emit ..).mono (by omega)
    · exact ((h.give _ _ h.next).emit ..).bump
theorem args_fit : ∀ (l : List Tm) (M : Mk) (B : Nat), M.fit B → (argsT l M).1.fit (B + 2 * l.length) ∧ ∀ p ∈ (argsT l M).2, p.1 ∈ l ∧ p.1.k = 3 ∧ p.2 ≤ B + 2 * l.length
  | [], M, B, h => ⟨by simpa [argsT] using h, by simp [argsT]⟩
  | t :: l, M, B, h => by
    unfold argsT
    split
    · rename_i hk
      have ih := args_fit l _ _ (h.emit 4 M.next 0 []).bump
      refine ⟨ih.1.mono (by simp; omega), fun p hp => ?_⟩
      rcases List.mem_cons.1 hp with rfl | hp
      · exact ⟨by simp, hk, by have := h.next; simp; omega⟩
      · obtain ⟨h1, h2, h3⟩ := ih.2 p hp
        exact ⟨by simp [h1], h2, by simp; omega⟩
    · have ih := args_fit l _ _ (h.desc t)
      refine ⟨ih.1.mono (by simp; omega), fun p hp => ?_⟩
      obtain ⟨h1, h2, h3⟩ := ih.2 p hp
      exact ⟨by simp [h1], h2, by simp; omega⟩
theorem parts_fit : ∀ (l : List Tm) (bs : List Int) (M : Mk) (B : Nat), M.fit B → (partsT l bs M).fit (B + 2 * l.length)
  | [], _, M, B, h => by simpa [partsT] using h
  | t :: l, [], M, B, h => by simpa [partsT] using h.mono (by omega)
  | t :: l, b :: bs, M, B, h => by
    unfold partsT
    refine (parts_fit l bs _ (B + 2) ?_).mono (by simp; omega)
    split
    · exact (h.emit ..).mono (by omega)
    · exact h.desc t
theorem buildL_len : ∀ (l : List Tm) (M : Mk), (buildL l M).2.length = l.length
  | [], M => by simp [buildL]
  | t :: l, M => by
    unfold buildL
    split <;> simp [buildL_len l]
/-- how much a structure that is built adds -/
theorem build_fit4 : ∀ (t : Tm) (M : Mk) (B : Nat), M.fit B → ∃ C, (buildT t M).1.fit C ∧ (buildT t M).2 ≤ C ∧ C + 4 ≤ B + 6 * t.size := by
  refine Tm.ind fun k n s l ih M B h => ?_
  have key : ∀ (l : List Tm), (∀ t ∈ l, ∀ (M : Mk) (B : Nat), M.fit B → ∃ C, (buildT t M).1.fit C ∧ (buildT t M).2 ≤ C ∧ C + 4 ≤ B + 6 * t.size) → ∀ (M : Mk) (B : Nat), M.fit B → ∃ C, (buildL l M).1.fit C ∧ C + 4 * l.length ≤ B + 6 * sizes l := by
    intro l
    induction l with
    | nil => intro _ M B h; exact ⟨B, by simpa [buildL] using h, by simp [sizes]⟩
    | cons t l ih2 =>
      intro hh M B h
      have hs := size_pos t
      unfold buildL
      split
      · obtain ⟨C, h1, _, h2⟩ := hh t (by simp) M B h
        obtain ⟨C2, h3, h4⟩ := ih2 (fun u hu => hh u (by simp [hu])) _ _ h1
        exact ⟨C2, h3, by simp [sizes]; omega⟩
      · obtain ⟨C2, h3, h4⟩ := ih2 (fun u hu => hh u (by simp [hu])) _ _ h
        exact ⟨C2, h3, by simp [sizes]; omega⟩
  obtain ⟨C, h1, hC⟩ := key l ih M B h
  have h2 := (h1.bump.emit 7 l.length (buildL l M).1.next s)
  have h3 := parts_fit l (buildL l M).2 _ _ h2
  have h5 := h1.next
  unfold buildT
  exact ⟨_, h3, by simp only; omega, by simp [Tm.size]; omega⟩
theorem build_fit (t : Tm) (M : Mk) (B : Nat) (h : M.fit B) : (buildT t M).1.fit (B + 6 * t.size) ∧ (buildT t M).2 ≤ B + 6 * t.size := by
  obtain ⟨C, h1, h2, h3⟩ := build_fit4 t M B h
  exact ⟨h1.mono (by omega), by omega⟩
theorem put_fit {M : Mk} {B : Nat} (h : M.fit B) (t : Tm) (i : Nat) : (putT M t i).fit (B + 6 * t.size + 2) := by
  unfold putT
  split
  · exact (h.emit ..).mono (by omega)
  · split
    · split
      · exact (h.emit ..).mono (by omega)
      · exact ((h.give _ _ h.next).bump.emit ..).mono (by omega)
    · exact ((build_fit t M B h).1.emit ..).mono (by omega)
theorem args_size : ∀ (l : List Tm) (M : Mk), 2 * l.length + 6 * qsize (argsT l M).2 ≤ 6 * sizes l + 4 * (argsT l M).2.length ∧ qsize (argsT l M).2 ≤ sizes l
  | [], M => by simp [argsT, qsize, sizes]
  | t :: l, M => by
    have hp := size_pos t
    unfold argsT
    split
    · have ih := args_size l (M.emit 4 M.next 0 []).bump
      simp only [qsize, List.map_cons, List.sum_cons, List.length_cons, sizes] at ih ⊢
      omega
    · have ih := args_size l (M.desc t)
      simp only [List.length_cons, sizes] at ih ⊢
      omega
theorem qsize_pos (q : List (Tm × Nat)) : q.length ≤ qsize q := by
  induction q with
  | nil => simp [qsize]
  | cons p q ih =>
    have := size_pos p.1
    simp only [qsize, List.map_cons, List.sum_cons, List.length_cons] at ih ⊢
    omega
theorem headA_fit : ∀ (l : List Tm) (i : Nat) (M : Mk) (B : Nat), M.fit B → i + l.length ≤ B → (headA l i M).1.fit (B + l.length) ∧ (∀ p ∈ (headA l i M).2, p.1 ∈ l ∧ p.1.k ≠ 2 ∧ p.1.k ≠ 1) ∧ qsize (headA l i M).2 ≤ sizes l ∧ (headA l i M).2.length ≤ l.length
  | [], _, M, B, h, _ => by simpa [headA, qsize, sizes] using h
  | t :: l, i, M, B, h, hi => by
    simp only [List.length_cons] at hi ⊢
    unfold headA
    split
    · obtain ⟨h1, h2, h3, h4⟩ := headA_fit l (i + 1) _ (B + 1) (h.emit 2 t.n i []) (by omega)
      exact ⟨h1.mono (by omega), fun p hp => ⟨by simp [(h2 p hp).1], (h2 p hp).2⟩, by simp only [sizes]; omega, by omega⟩
    · split
      · have hf : Mk.fit (match slotO M.sl t.n with | some v => M.emit 1 v i [] | none => M.give t.n i) (B + 1) := by
          split
          · exact h.emit ..
          · exact (h.give _ _ (by omega)).mono (by omega)
        obtain ⟨h1, h2, h3, h4⟩ := headA_fit l (i + 1) _ (B + 1) hf (by omega)
        exact ⟨h1.mono (by omega), fun p hp => ⟨by simp [(h2 p hp).1], (h2 p hp).2⟩, by simp only [sizes]; omega, by omega⟩
      · rename_i k2 k1
        obtain ⟨h1, h2, h3, h4⟩ := headA_fit l (i + 1) M (B + 1) (h.mono (by omega)) (by omega)
        refine ⟨h1.mono (by omega), fun p hp => ?_, by simp only [qsize, List.map_cons, List.sum_cons, sizes] at h3 ⊢; omega, by simp; omega⟩
        rcases List.mem_cons.1 hp with rfl | hp
        · exact ⟨by simp, k2, k1⟩
        · exact ⟨by simp [(h2 p hp).1], (h2 p hp).2⟩
/-- the slots as the reference keeps them -/
def slotsR (m : List (Int × Nat)) : List (List D) := (List.range 26).map fun i : Nat => [.int .i64 (match slotO m i with | some v => (v : Int) | none => -1)]
theorem slotsR_len (m : List (Int × Nat)) : (slotsR m).length = 26 := by simp [slotsR]
theorem slotsR_all (m : List (Int × Nat)) : allLen 1 (slotsR m) := allLen_map fun _ => rfl
theorem slotsR_get (m : List (Int × Nat)) {i : Nat} (h : i < 26) : (slotsR m)[i]? = some [.int .i64 (match slotO m i with | some v => (v : Int) | none => -1)] := by
  simp [slotsR, h]
theorem slotO_snoc (m : List (Int × Nat)) (n k : Int) (v : Nat) (h : slotO m n = none) : slotO (m ++ [(n, v)]) k = if k = n then some v else slotO m k := by
  unfold slotO at h ⊢
  rw [List.find?_append]
  by_cases hk : k = n
  · subst hk
    simp only [Option.map_eq_none_iff] at h
    simp [h]
  · have hk' : ¬ n = k := fun e => hk e.symm
    simp [hk, hk']
theorem slotsR_set (m : List (Int × Nat)) (n v : Nat) (hn : n < 26) (h : slotO m n = none) : (slotsR m).set n [.int .i64 v] = slotsR (m ++ [((n : Int), v)]) := by
  refine List.ext_getElem? fun i => ?_
  rcases Nat.lt_or_ge i 26 with hi | hi
  · rw [slotsR_get _ hi, slotO_snoc m n i v h, List.getElem?_set]
    by_cases he : n = i
    · subst he
      simp [slotsR_len, hn]
    · have : ¬ ((i : Int) = n) := by omega
      rw [if_neg he, slotsR_get _ hi, if_neg this]
  · rw [List.getElem?_eq_none (by simp [slotsR_len]; omega), List.getElem?_eq_none (by simp [slotsR_len]; omega)]
/-- the slots as the program keeps them -/
def slotsM (m : List (Int × Nat)) : List (Int × List D) := m.map fun p => (p.1, [.int .i64 p.2])
theorem slotsM_row (n : Int) : ∀ m : List (Int × Nat), V_ (slotsM m) n = (slotO m n).map fun v => [.int .i64 (v : Int)]
  | [] => rfl
  | (k, v) :: m => by
    have ih := slotsM_row n m
    unfold slotsM slotO at ih ⊢
    simp only [List.map_cons, V_, List.find?_cons]
    by_cases h : k = n
    · simp [h]
    · have : (k == n) = false := by simpa using h
      rw [if_neg h, this]
      exact ih
theorem slotsM_put (n : Int) (v : Nat) : ∀ m : List (Int × Nat), slotO m n = none → W_ (slotsM m) n [.int .i64 (v : Int)] = slotsM (m ++ [(n, v)])
  | [], _ => rfl
  | (k, w) :: m, h => by
    unfold slotO at h
    simp only [List.find?_cons] at h
    by_cases hk : k = n
    · simp [hk] at h
    · have : (k == n) = false := by simpa using hk
      rw [this] at h
      have ih := slotsM_put n v m h
      unfold slotsM at ih ⊢
      simp only [List.map_cons, W_, List.cons_append]
      rw [if_neg hk, ih]
end Go.Proofs.YteighafofbohcaaGreat

/-
  Code as the reference makes it.
  Conditions: none.
-/
open Go Go.AM Go.Proofs
namespace Go.Proofs.YteighafofbohcaaGreat
open Go.ChangeShapes Go.WideShapes Go.ChangeAt Go.RowKit
set_option linter.unusedVariables false
set_option linter.unusedSimpArgs false
set_option maxRecDepth 100000
-- 35 loop.example/prologserver/spec.l8Start params 0 ntmps 14
-- loop head live: [0, 1, 2]
def ac35 : Cd := .seq (.region [⟨(some 0), .alloc [(.full []), (.d (.int .i64 0)), (.full [])], none⟩] [])
 (.seq (.region [⟨(some 3), .build [(.full []), (.d (.int .i64 0)), (.full [])] [(1, 1, (.k (.c (.d (.int .i64 4)))))], none⟩,
 ⟨(some 1), .alloc [(.full []), (.d (.int .i64 0)), (.full [])], none⟩,
 ⟨none, .store 3 (.t 1) (.t 3), none⟩] [3])
 (.seq (.seq (.region [⟨(some 2), .mv (.k (.c (.d (.int .i64 0)))), none⟩] [])
 (.block 0 (.loop (.seq (.seq (.region [⟨(some 4), .mv (.t 2), none⟩,
 ⟨(some 5), .bin .leq (.t 4) (.k (.c (.d (.int .i64 25)))), none⟩] [4])
 (.cond (.t 5)
 (.skip)
 (.exit 0)))
 (.seq (.block 1 (.region [⟨(some 8), .fieldAddr 0 (.t 1), none⟩,
 ⟨(some 9), .load none (.t 8), none⟩,
 ⟨(some 10), .buildSlice 1 1 [(.int .i64 0)] [(0, (.k (.c (.d (.int .i64 (-1))))))], none⟩,
 ⟨(some 11), .append false 1 (.t 9) (.t 10), none⟩,
 ⟨(some 12), .fieldAddr 0 (.t 1), none⟩,
 ⟨none, .store 1 (.t 12) (.t 11), none⟩] [5, 8, 9, 10, 11, 12]))
 (.region [⟨(some 6), .mv (.t 2), none⟩,
 ⟨(some 7), .bin .add (.t 6) (.k (.c (.d (.int .i64 1)))), none⟩,
 ⟨(some 2), .mv (.t 7), none⟩] [6, 7]))))))
 (.seq (.region [⟨(some 13), .load (some 3) (.t 1), none⟩,
 ⟨none, .store 3 (.t 0) (.t 13), none⟩] [1, 13])
 (.ret))))
theorem ac35_ok : cFunc Tryz.prog [] [(0, [], []), (1, [3], []), (2, [], []), (3, [4], []), (5, [5, 8, 9, 10, 11, 12], []), (4, [6, 7], []), (6, [1, 13], [])] Tryz.f35 = some (ac35, [.cell 0 (some 3)], 14) := by kernel_rfl
-- 65 loop.example/prologserver/spec.l8Emit params 2 ntmps 14
def ac65 : Cd := .seq (.region [⟨(some 2), .box (.t 0), none⟩,
 ⟨(some 3), .box (.t 1), none⟩,
 ⟨(some 4), .alloc [(.full []), (.d (.int .i64 0)), (.full [])], none⟩] [0, 1])
 (.seq (.region [⟨(some 5), .buildSlice 4 0 [(.int .i64 0), (.int .i64 0), (.int .i64 0), (.str [])] [], none⟩,
 ⟨(some 6), .fieldAddr 2 (.t 2), none⟩,
 ⟨(some 7), .load none (.t 6), none⟩,
 ⟨(some 9), .load (some 4) (.t 3), none⟩,
 ⟨(some 10), .buildSlice 4 1 [(.int .i64 0), (.int .i64 0), (.int .i64 0), (.str [])] [(0, (.t 9))], none⟩,
 ⟨(some 8), .append false 4 (.t 5) (.t 7), none⟩,
 ⟨(some 11), .append false 4 (.t 8) (.t 10), none⟩,
 ⟨(some 12), .fieldAddr 2 (.t 2), none⟩,
 ⟨none, .store 1 (.t 12) (.t 11), none⟩] [3, 5, 6, 7, 8, 9, 10, 11, 12])
 (.seq (.region [⟨(some 13), .load (some 3) (.t 2), none⟩,
 ⟨none, .store 3 (.t 4) (.t 13), none⟩] [2, 13])
 (.ret)))
theorem ac65_ok : cFunc Tryz.prog [] [(0, [0, 1], []), (1, [3, 5, 6, 7, 8, 9, 10, 11, 12], [0, 1, 2, 4, 5, 3, 6, 7, 8]), (2, [2, 13], [])] Tryz.f65 = some (ac65, [.cell 4 (some 3)], 14) := by kernel_rfl
-- 67 loop.example/prologserver/spec.l8Slot params 3 ntmps 18
def ac67 : Cd := .seq (.region [⟨(some 3), .box (.t 0), none⟩,
 ⟨(some 6), .alloc [(.full []), (.d (.int .i64 0)), (.full [])], none⟩] [0])
 (.seq (.region [⟨(some 7), .buildSlice 1 0 [(.int .i64 0)] [], none⟩,
 ⟨(some 8), .fieldAddr 0 (.t 3), none⟩,
 ⟨(some 9), .load none (.t 8), none⟩,
 ⟨(some 10), .appendF 1 (.t 7) (.t 9), none⟩,
 ⟨(some 11), .fieldAddr 0 (.t 3), none⟩,
 ⟨none, .store 1 (.t 11) (.t 10), none⟩] [7, 8, 9, 10, 11])
 (.seq (.region [⟨(some 12), .fieldAddr 0 (.t 3), none⟩,
 ⟨(some 13), .load none (.t 12), none⟩,
 ⟨(some 14), .mv (.t 1), none⟩,
 ⟨(some 15), .mv (.t 2), none⟩,
 ⟨(some 16), .indexAddr 1 (.t 13) (.t 14), none⟩,
 ⟨none, .store 1 (.t 16) (.t 15), none⟩] [1, 2, 12, 13, 14, 15, 16])
 (.seq (.region [⟨(some 17), .load (some 3) (.t 3), none⟩,
 ⟨none, .store 3 (.t 6) (.t 17), none⟩] [3, 17])
 (.ret))))
theorem ac67_ok : cFunc Tryz.prog [3000007] [(0, [0], []), (1, [7, 8, 9, 10, 11], []), (2, [1, 2, 12, 13, 14, 15, 16], []), (3, [3, 17], [])] Tryz.f67 = some (ac67, [.cell 6 (some 3)], 18) := by kernel_rfl
-- 68 loop.example/prologserver/spec.l8Args params 2 ntmps 88
-- loop head live: [1, 2, 4, 6, 7]
def ac68 : Cd := .seq (.region [⟨(some 2), .box (.t 0), none⟩,
 ⟨(some 4), .alloc [(.full []), (.d (.int .i64 0)), (.full [])], none⟩,
 ⟨(some 5), .mv (.k (.c (.full []))), none⟩] [0, 5])
 (.seq (.region [⟨(some 9), .buildSlice 5 0 [(.int .i64 0), (.int .i64 0), (.str []), (.sl []), (.int .i64 0)] [], none⟩,
 ⟨(some 6), .mv (.t 9), none⟩] [9])
 (.seq (.seq (.region [⟨(some 7), .mv (.k (.c (.d (.int .i64 0)))), none⟩] [])
 (.block 0 (.loop (.seq (.seq (.region [⟨(some 10), .mv (.t 7), none⟩,
 ⟨(some 11), .mv (.t 1), none⟩,
 ⟨(some 12), .len 1 (.t 11), none⟩,
 ⟨(some 13), .bin .lss (.t 10) (.t 12), none⟩] [10, 11, 12])
 (.cond (.t 13)
 (.skip)
 (.exit 0)))
 (.seq (.block 1 (.seq (.region [⟨(some 16), .mv (.t 1), none⟩,
 ⟨(some 17), .mv (.t 7), none⟩,
 ⟨(some 18), .indexAddr 4 (.t 16) (.t 17), none⟩,
 ⟨(some 19), .load (some 4) (.t 18), none⟩,
 ⟨(some 8), .alloc [(.d (.int .i64 0)), (.d (.int .i64 0)), (.d (.str [])), (.full [])], none⟩,
 ⟨none, .store 4 (.t 8) (.t 19), none⟩] [13, 16, 17, 18, 19])
 (.block 2 (.seq (.region [⟨(some 37), .fieldAddr 0 (.t 8), none⟩,
 ⟨(some 38), .load none (.t 37), none⟩,
 ⟨(some 39), .bin .eql (.t 38) (.k (.c (.d (.int .i64 2)))), none⟩,
 ⟨(some 36), .mv (.t 39), none⟩] [37, 38, 39])
 (.cond (.t 36)
 (.region [⟨(some 40), .load (some 3) (.t 2), none⟩,
 ⟨(some 41), .fieldAddr 1 (.t 8), none⟩,
 ⟨(some 42), .load none (.t 41), none⟩,
 ⟨(some 43), .build [(.d (.int .i64 0)), (.d (.int .i64 0)), (.d (.int .i64 0)), (.d (.str []))] [(0, 1, (.k (.c (.d (.int .i64 6))))), (1, 1, (.t 42))], none⟩,
 ⟨(some 44), .qcall 65 [(.t 40), (.t 43)], none⟩,
 ⟨none, .store 3 (.t 2) (.t 44), none⟩] [8, 36, 40, 41, 42, 43, 44])
 (.seq (.region [⟨(some 46), .fieldAddr 0 (.t 8), none⟩,
 ⟨(some 47), .load none (.t 46), none⟩,
 ⟨(some 48), .bin .eql (.t 47) (.k (.c (.d (.int .i64 1)))), none⟩,
 ⟨(some 49), .mv (.t 48), none⟩,
 ⟨(some 50), .fieldAddr 0 (.t 2), some (49, true)⟩,
 ⟨(some 51), .load none (.t 50), some (49, true)⟩,
 ⟨(some 52), .fieldAddr 1 (.t 8), some (49, true)⟩,
 ⟨(some 53), .load none (.t 52), some (49, true)⟩,
 ⟨(some 54), .indexAddr 1 (.t 51) (.t 53), some (49, true)⟩,
 ⟨(some 55), .load none (.t 54), some (49, true)⟩,
 ⟨(some 56), .bin .geq (.t 55) (.k (.c (.d (.int .i64 0)))), some (49, true)⟩,
 ⟨(some 57), .pick (.t 49) (.t 56) (.k (.c (.d (.bool false)))), none⟩,
 ⟨(some 45), .mv (.t 57), none⟩] [36, 46, 47, 48, 49, 50, 51, 52, 53, 54, 55, 56, 57])
 (.cond (.t 45)
 (.region [⟨(some 59), .fieldAddr 0 (.t 2), none⟩,
 ⟨(some 61), .fieldAddr 1 (.t 8), none⟩,
 ⟨(some 58), .load (some 3) (.t 2), none⟩,
 ⟨(some 60), .load none (.t 59), none⟩,
 ⟨(some 62), .load none (.t 61), none⟩,
 ⟨(some 63), .indexAddr 1 (.t 60) (.t 62), none⟩,
 ⟨(some 64), .load none (.t 63), none⟩,
 ⟨(some 65), .build [(.d (.int .i64 0)), (.d (.int .i64 0)), (.d (.int .i64 0)), (.d (.str []))] [(0, 1, (.k (.c (.d (.int .i64 5))))), (1, 1, (.t 64))], none⟩,
 ⟨(some 66), .qcall 65 [(.t 58), (.t 65)], none⟩,
 ⟨none, .store 3 (.t 2) (.t 66), none⟩] [8, 45, 58, 59, 60, 61, 62, 63, 64, 65, 66])
 (.seq (.region [⟨(some 68), .fieldAddr 0 (.t 8), none⟩,
 ⟨(some 69), .load none (.t 68), none⟩,
 ⟨(some 70), .bin .eql (.t 69) (.k (.c (.d (.int .i64 1)))), none⟩,
 ⟨(some 67), .mv (.t 70), none⟩] [45, 68, 69, 70])
 (.cond (.t 67)
 (.seq (.region [⟨(some 71), .load (some 3) (.t 2), none⟩,
 ⟨(some 72), .fieldAddr 1 (.t 8), none⟩,
 ⟨(some 73), .load none (.t 72), none⟩,
 ⟨(some 74), .fieldAddr 1 (.t 2), none⟩,
 ⟨(some 75), .load none (.t 74), none⟩,
 ⟨(some 76), .qcall 67 [(.t 71), (.t 73), (.t 75)], none⟩,
 ⟨none, .store 3 (.t 2) (.t 76), none⟩] [8, 67, 71, 72, 73, 74, 75, 76])
 (.seq (.region [⟨(some 77), .load (some 3) (.t 2), none⟩,
 ⟨(some 78), .fieldAddr 1 (.t 2), none⟩,
 ⟨(some 79), .load none (.t 78), none⟩,
 ⟨(some 80), .build [(.d (.int .i64 0)), (.d (.int .i64 0)), (.d (.int .i64 0)), (.d (.str []))] [(0, 1, (.k (.c (.d (.int .i64 4))))), (1, 1, (.t 79))], none⟩,
 ⟨(some 81), .qcall 65 [(.t 77), (.t 80)], none⟩,
 ⟨none, .store 3 (.t 2) (.t 81), none⟩] [77, 78, 79, 80, 81])
 (.region [⟨(some 82), .fieldAddr 1 (.t 2), none⟩,
 ⟨(some 83), .load none (.t 82), none⟩,
 ⟨(some 84), .bin .add (.t 83) (.k (.c (.d (.int .i64 1)))), none⟩,
 ⟨(some 85), .fieldAddr 1 (.t 2), none⟩,
 ⟨none, .store 1 (.t 85) (.t 84), none⟩] [82, 83, 84, 85])))
 (.seq (.region [⟨(some 20), .mv (.t 6), none⟩,
 ⟨(some 21), .load (some 4) (.t 8), none⟩,
 ⟨(some 22), .fieldAddr 1 (.t 2), none⟩,
 ⟨(some 23), .load none (.t 22), none⟩,
 ⟨(some 24), .build [(.d (.int .i64 0)), (.d (.int .i64 0)), (.d (.str [])), (.full []), (.d (.int .i64 0))] [(0, 4, (.t 21)), (4, 1, (.t 23))], none⟩,
 ⟨(some 25), .buildSlice 5 1 [(.int .i64 0), (.int .i64 0), (.str []), (.sl []), (.int .i64 0)] [(0, (.t 24))], none⟩,
 ⟨(some 26), .append false 5 (.t 20) (.t 25), none⟩,
 ⟨(some 6), .mv (.t 26), none⟩] [8, 20, 21, 22, 23, 24, 25, 26, 67])
 (.seq (.region [⟨(some 27), .load (some 3) (.t 2), none⟩,
 ⟨(some 28), .fieldAddr 1 (.t 2), none⟩,
 ⟨(some 29), .load none (.t 28), none⟩,
 ⟨(some 30), .build [(.d (.int .i64 0)), (.d (.int .i64 0)), (.d (.int .i64 0)), (.d (.str []))] [(0, 1, (.k (.c (.d (.int .i64 4))))), (1, 1, (.t 29))], none⟩,
 ⟨(some 31), .qcall 65 [(.t 27), (.t 30)], none⟩,
 ⟨none, .store 3 (.t 2) (.t 31), none⟩] [27, 28, 29, 30, 31])
 (.region [⟨(some 32), .fieldAddr 1 (.t 2), none⟩,
 ⟨(some 33), .load none (.t 32), none⟩,
 ⟨(some 34), .bin .add (.t 33) (.k (.c (.d (.int .i64 1)))), none⟩,
 ⟨(some 35), .fieldAddr 1 (.t 2), none⟩,
 ⟨none, .store 1 (.t 35) (.t 34), none⟩] [32, 33, 34, 35]))))))))))))
 (.region [⟨(some 14), .mv (.t 7), none⟩,
 ⟨(some 15), .bin .add (.t 14) (.k (.c (.d (.int .i64 1)))), none⟩,
 ⟨(some 7), .mv (.t 15), none⟩] [14, 15]))))))
 (.seq (.region [⟨(some 86), .load (some 3) (.t 2), none⟩,
 ⟨(some 87), .mv (.t 6), none⟩,
 ⟨none, .store 3 (.t 4) (.t 86), none⟩,
 ⟨(some 5), .mv (.t 87), none⟩] [2, 6, 86, 87])
 (.ret))))
theorem ac68_ok : cFunc Tryz.prog [1000065, 1000067] [(0, [0, 5], []), (1, [9], []), (2, [], []), (3, [10, 11, 12], []), (5, [13, 16, 17, 18, 19], []), (9, [37, 38, 39], []), (10, [8, 36, 40, 41, 42, 43, 44], []), (11, [36, 46, 47, 48, 49, 50, 51, 52, 53, 54, 55, 56, 57], []), (12, [8, 45, 58, 59, 60, 61, 62, 63, 64, 65, 66], [1, 3, 0, 2, 4, 5, 6, 7, 8, 9]), (13, [45, 68, 69, 70], []), (14, [8, 67, 71, 72, 73, 74, 75, 76], []), (15, [77, 78, 79, 80, 81], []), (16, [82, 83, 84, 85], []), (6, [8, 20, 21, 22, 23, 24, 25, 26, 67], []), (7, [27, 28, 29, 30, 31], []), (8, [32, 33, 34, 35], []), (4, [14, 15], []), (17, [2, 6, 86, 87], [])] Tryz.f68 = some (ac68, [.cell 4 (some 3), .tmp 5], 88) := by kernel_rfl
theorem allLen_rep (i : Nat) (d : D) : allLen 1 (List.replicate i [d]) := fun r hr => by rw [List.eq_of_mem_replicate hr]; rfl
theorem start_calls (H : Heap) : ACalls Tryz.prog 35 [] H (fun r H' => H' = H ∧ r = .agg [.d (.sl (slotsR [])), .d (.int .i64 4), .d (.sl [])]) := by
  refine acalls Tryz.func35 (by kernel_rfl) ac35_ok fun hf => ?_
  simp -implicitDefEqProofs [ac35, go_sem, -List.set_cons_succ, -List.set_cons_zero]
  refine ⟨hf, loop_enter (St.le_tokenC 1 0 1 rfl rfl) ?_⟩
  refine loop_set (σ := Nat) (fun i => [(2, .c (.d (.int .i64 i)))]) (fun _ => H) (fun i => [.cells [.full [], .d (.int .i64 0), .full []], .cells [.own (.l 2) i (List.replicate i [.int .i64 (-1)]), .d (.int .i64 4), .full []], .grow i 1]) (fun i => i ≤ 26) (fun i => 26 - i) 0 (by simp [setAll]) (Nat.zero_le _) ?_
  intro i hi
  simp -implicitDefEqProofs [setAll, go_sem, -List.set_cons_succ, -List.set_cons_zero]
  refine ⟨fun hlt => ?_, fun hge => ?_⟩
  · have hadd : inR .i64 ((i : Int) + 1) := small_i64 (by omega) (by omega)
    simp -implicitDefEqProofs [hadd, go_sem, -List.set_cons_succ, -List.set_cons_zero]
    refine ⟨allLen_rep _ _, by unfold maxApp; omega, hf, loop_back (i + 1) ?_ (by omega) (by show 26 - (i + 1) < 26 - i; omega)⟩
    simp [setAll, List.replicate_succ']
  · obtain rfl : i = 26 := by omega
    have e : slotsR [] = List.replicate 26 [.int .i64 (-1)] := by kernel_rfl
    simp -implicitDefEqProofs [hf, e, go_sem, -List.set_cons_succ, -List.set_cons_zero]
theorem emit_calls (s code : List (List D)) (n op a b : Int) (t : List UInt8) (hc : code.length ≤ 1000000) (ha : allLen 4 code) (H : Heap) :
    ACalls Tryz.prog 65 [.agg [.d (.sl s), .d (.int .i64 n), .d (.sl code)], .agg [.d (.int .i64 op), .d (.int .i64 a), .d (.int .i64 b), .d (.str t)]] H
      (fun r H' => H' = H ∧ r = .agg [.d (.sl s), .d (.int .i64 n), .d (.sl (code ++ [insR op a b t]))]) := by
  refine acalls Tryz.func65 (by kernel_rfl) ac65_ok fun hf => ?_
  simp -implicitDefEqProofs [ac65, go_sem, -List.set_cons_succ, -List.set_cons_zero]
  exact ⟨ha, by unfold maxApp; omega, ha, by unfold maxApp; omega, hf, rfl⟩
theorem slot_calls (m : List (Int × Nat)) (code : List (List D)) (n : Int) (k v : Nat) (hk : k < 26) (hm : slotO m k = none) (hv : v ≤ 1000000) (H : Heap) :
    ACalls Tryz.prog 67 [.agg [.d (.sl (slotsR m)), .d (.int .i64 n), .d (.sl code)], .c (.d (.int .i64 k)), .c (.d (.int .i64 v))] H
      (fun r H' => H' = H ∧ r = .agg [.d (.sl (slotsR (m ++ [((k : Int), v)]))), .d (.int .i64 n), .d (.sl code)]) := by
  refine acalls Tryz.func67 (by kernel_rfl) ac67_ok fun hf => ?_
  simp -implicitDefEqProofs [ac67, slotsR_len, slotsR_all, go_sem, -List.set_cons_succ, -List.set_cons_zero]
  have hne : ¬ slotsR m = [] := fun h => by have := slotsR_len m; rw [h] at this; cases this
  refine ⟨by unfold maxApp; omega, fun h => absurd h hne, fun _ => ⟨hf, hk, ?_⟩⟩
  have hset := slotsR_set m k v hk hm
  rw [slotsR_get m hk, hm]
  simp -implicitDefEqProofs [hset, hf, go_sem, -List.set_cons_succ, -List.set_cons_zero]
theorem var_slot {t : Tm} (ht : t.good) (hk : t.k = 1) : ∃ v : Nat, t.n = v ∧ v < 26 := by
  obtain ⟨k, n, s, l⟩ := t
  cases ht with
  | mk ho _ =>
    rcases own_cases ho with ⟨_, h0, h1, _⟩ | ⟨h, _⟩ | ⟨h, _⟩
    · obtain ⟨v, rfl⟩ := Int.eq_ofNat_of_zero_le h0
      exact ⟨v, rfl, by omega⟩
    · simp only [Tm.k] at hk; omega
    · simp only [Tm.k] at hk; omega
def partR (p : Tm × Nat) : List D := p.1.row ++ [.int .i64 p.2]
theorem partR_len (p : Tm × Nat) : (partR p).length = 5 := by simp [partR, row_len]
theorem args_calls (l : List Tm) (hl : l.length ≤ 1000) (hg : ∀ t ∈ l, t.good) (M : Mk) (B : Nat) (hB : B ≤ 900000) (hM : M.fit B) (H : Heap) :
    ACalls Tryz.prog 68 [.agg [.d (.sl (slotsR M.sl)), .d (.int .i64 M.next), .d (.sl M.code)], .c (.d (.sl (l.map Tm.row)))] H
      (fun r H' => H' = H ∧ r = .tup [.agg [.d (.sl (slotsR (argsT l M).1.sl)), .d (.int .i64 (argsT l M).1.next), .d (.sl (argsT l M).1.code)], .c (.d (.sl ((argsT l M).2.map partR)))]) := by
  refine acalls Tryz.func68 (by kernel_rfl) ac68_ok fun hf => ?_
  have hli : inR .i64 (l.length : Int) := small_i64 (by omega) (by omega)
  simp -implicitDefEqProofs [ac68, hli, go_sem, -List.set_cons_succ, -List.set_cons_zero]
  refine loop_enter (St.le_token 6 5 rfl) ?_
  obtain ⟨F, hF⟩ : ∃ F, F = argsT l M := ⟨_, rfl⟩
  rw [← hF]
  refine loop_set (σ := Nat × Mk × List (Tm × Nat)) (fun x => [(7, .c (.d (.int .i64 x.1))), (6, .c (.own (.l 2) x.2.2.length (x.2.2.map partR)))]) (fun _ => H)
    (fun x => [.cells [.d (.sl (slotsR x.2.1.sl)), .d (.int .i64 x.2.1.next), .d (.sl x.2.1.code)], .cells [.full [], .d (.int .i64 0), .full []], .grow x.2.2.length 5])
    (fun x => x.1 ≤ l.length ∧ x.2.1.fit (B + 2 * x.1) ∧ F.1 = (argsT (l.drop x.1) x.2.1).1 ∧ F.2 = x.2.2 ++ (argsT (l.drop x.1) x.2.1).2 ∧ x.2.2.length ≤ x.1) (fun x => l.length - x.1) (0, M, []) (by simp [setAll]) ⟨Nat.zero_le _, hM.mono (by omega), by simp [hF], by simp [hF], by simp⟩ ?_
  rintro ⟨i, N, left⟩ ⟨hi, hN, h1, h2, h3⟩
  simp only at hi hN h1 h2 h3
  simp -implicitDefEqProofs [setAll, hli, go_sem, -List.set_cons_succ, -List.set_cons_zero]
  refine ⟨fun hlt => ?_, fun hge => ?_⟩
  · have hadd : inR .i64 ((i : Int) + 1) := small_i64 (by omega) (by omega)
    have hnx := hN.next
    have hcd := hN.code
    have hni : inR .i64 (N.next : Int) := small_i64 (by omega) (by omega)
    have hnj : inR .i64 ((N.next : Int) + 1) := small_i64 (by omega) (by omega)
    have hal := hN.all
    have hgt := hg l[i] (List.getElem_mem hlt)
    have hd : l.drop i = l[i] :: l.drop (i + 1) := List.drop_eq_getElem_cons hlt
    rw [hd, argsT] at h1 h2
    have hrow : (l.map Tm.row)[i]? = some l[i].row := by simp [hlt]
    have hvs := var_slot hgt
    obtain ⟨t, ht⟩ : ∃ t, t = l[i] := ⟨_, rfl⟩
    rw [← ht] at hgt h1 h2 hrow hvs
    clear ht
    obtain ⟨k, n, s, kids⟩ := t
    refine row_nat _ hrow rfl ?_
    cases hgt with
    | mk ho hk =>
      rcases own_cases ho with ⟨rfl, n0, n1, rfl, rfl⟩ | ⟨rfl, n0, n1, rfl, rfl⟩ | ⟨rfl, rfl, hs2, hl4⟩
      · obtain ⟨v, hv, hv26⟩ := hvs rfl
        simp only [Tm.n] at hv
        subst hv
        simp [Mk.desc, Tm.k, Tm.n] at h1 h2
        have hget := slotsR_get N.sl hv26
        simp -implicitDefEqProofs [row_mk, hf, go_sem, -List.set_cons_succ, -List.set_cons_zero]
        refine row_nat _ hget rfl ?_
        cases hsv : slotO N.sl v with
        | some u =>
          simp only [hsv] at h1 h2
          have hu0 : ¬ (u : Int) < 0 := by omega
          simp -implicitDefEqProofs [hu0, hf, go_sem, -List.set_cons_succ, -List.set_cons_zero]
          refine row_nat _ hget rfl ?_
          simp -implicitDefEqProofs [hsv, hf, go_sem, -List.set_cons_succ, -List.set_cons_zero]
          refine qcall_pure (emit_calls _ _ _ _ _ _ _ (by omega) hal) hf rfl ?_
          simp -implicitDefEqProofs [hadd, hf, go_sem, -List.set_cons_succ, -List.set_cons_zero]
          refine loop_less (i + 1, N.emit 5 u 0 [], left) (St.le_cut [_] ?_ (by simp [Sl.le, A.le_refl_iff, A.le_u_iff, As.lo, A.lo, C.lo, Ref.lo, Cs.lo, Obs.lo, Ob.lo, setAll, and_true, true_and, List.length_nil, List.length_cons]) rfl (by simp [Sl.le, A.le_refl_iff, A.le_u_iff, As.lo, A.lo, C.lo, Ref.lo, Cs.lo, Obs.lo, Ob.lo, setAll, and_true, true_and, List.length_nil, List.length_cons])) ⟨hlt, (hN.emit ..).mono (by omega), h1, h2, by simp only; omega⟩ (by show l.length - (i + 1) < l.length - i; omega)
          simp [setAll, Sl.le, A.le_refl_iff, A.le_u_iff, As.lo, A.lo, C.lo, Ref.lo, Cs.lo, Obs.lo, Ob.lo, setAll, and_true, true_and, List.length_nil, List.length_cons]
        | none =>
          simp only [hsv] at h1 h2
          simp -implicitDefEqProofs [hf, go_sem, -List.set_cons_succ, -List.set_cons_zero]
          refine qcall_pure (slot_calls N.sl N.code _ v N.next hv26 hsv (by omega)) hf rfl ?_
          simp -implicitDefEqProofs [hf, go_sem, -List.set_cons_succ, -List.set_cons_zero]
          refine qcall_pure (emit_calls _ _ _ _ _ _ _ (by omega) hal) hf rfl ?_
          simp -implicitDefEqProofs [hadd, hnj, hf, go_sem, -List.set_cons_succ, -List.set_cons_zero]
          refine loop_less (i + 1, ((N.give v N.next).emit 4 N.next 0 []).bump, left) (St.le_cut [_] ?_ (by simp [Sl.le, A.le_refl_iff, A.le_u_iff, As.lo, A.lo, C.lo, Ref.lo, Cs.lo, Obs.lo, Ob.lo, setAll, and_true, true_and, List.length_nil, List.length_cons]) rfl (by simp [Sl.le, A.le_refl_iff, A.le_u_iff, As.lo, A.lo, C.lo, Ref.lo, Cs.lo, Obs.lo, Ob.lo, setAll, and_true, true_and, List.length_nil, List.length_cons])) ⟨hlt, ((hN.give _ _ hnx).emit ..).bump.mono (by omega), h1, h2, by simp only; omega⟩ (by show l.length - (i + 1) < l.length - i; omega)
          simp [setAll, Sl.le, A.le_refl_iff, A.le_u_iff, As.lo, A.lo, C.lo, Ref.lo, Cs.lo, Obs.lo, Ob.lo, setAll, and_true, true_and, List.length_nil, List.length_cons]
      · simp [Mk.desc, Tm.k, Tm.n] at h1 h2
        simp -implicitDefEqProofs [row_mk, hf, go_sem, -List.set_cons_succ, -List.set_cons_zero]
        refine qcall_pure (emit_calls _ _ _ _ _ _ _ (by omega) hal) hf rfl ?_
        simp -implicitDefEqProofs [hadd, hf, go_sem, -List.set_cons_succ, -List.set_cons_zero]
        refine loop_less (i + 1, N.emit 6 n 0 [], left) (St.le_cut [_] ?_ (by simp [Sl.le, A.le_refl_iff, A.le_u_iff, As.lo, A.lo, C.lo, Ref.lo, Cs.lo, Obs.lo, Ob.lo, setAll, and_true, true_and, List.length_nil, List.length_cons]) rfl (by simp [Sl.le, A.le_refl_iff, A.le_u_iff, As.lo, A.lo, C.lo, Ref.lo, Cs.lo, Obs.lo, Ob.lo, setAll, and_true, true_and, List.length_nil, List.length_cons])) ⟨hlt, (hN.emit ..).mono (by omega), h1, h2, by simp only; omega⟩ (by show l.length - (i + 1) < l.length - i; omega)
        simp [setAll, Sl.le, A.le_refl_iff, A.le_u_iff, As.lo, A.lo, C.lo, Ref.lo, Cs.lo, Obs.lo, Ob.lo, setAll, and_true, true_and, List.length_nil, List.length_cons]
      · simp [Tm.k] at h1 h2
        simp -implicitDefEqProofs [row_mk, hf, go_sem, -List.set_cons_succ, -List.set_cons_zero]
        refine row_off [.int .i64 0] ?_
        simp -implicitDefEqProofs [hf, go_sem, -List.set_cons_succ, -List.set_cons_zero]
        refine ⟨allLen_map partR_len, by unfold maxApp; omega, qcall_pure (emit_calls _ _ _ _ _ _ _ (by omega) hal) hf rfl ?_⟩
        simp -implicitDefEqProofs [hadd, hnj, hf, go_sem, -List.set_cons_succ, -List.set_cons_zero]
        refine loop_less (i + 1, (N.emit 4 N.next 0 []).bump, left ++ [(.mk 3 0 s kids, N.next)]) (St.le_cut [_] ?_ (by simp [Sl.le, A.le_refl_iff, A.le_u_iff, As.lo, A.lo, C.lo, Ref.lo, Cs.lo, Obs.lo, Ob.lo, setAll, and_true, true_and, List.length_nil, List.length_cons]) (by simp [Mk.emit, Mk.bump]; rfl) (by simp [Sl.le, A.le_refl_iff, A.le_u_iff, As.lo, A.lo, C.lo, Ref.lo, Cs.lo, Obs.lo, Ob.lo, setAll, and_true, true_and, List.length_nil, List.length_cons])) ⟨hlt, (hN.emit ..).bump.mono (by omega), h1, by simp [h2], by simp; omega⟩ (by show l.length - (i + 1) < l.length - i; omega)
        simp [setAll, partR, row_mk, Sl.le, A.le_refl_iff, A.le_u_iff, As.lo, A.lo, C.lo, Ref.lo, Cs.lo, Obs.lo, Ob.lo, setAll, and_true, true_and, List.length_nil, List.length_cons]
  · obtain rfl : i = l.length := by omega
    simp [argsT] at h1 h2
    simp -implicitDefEqProofs [h1, h2, hf, go_sem, -List.set_cons_succ, -List.set_cons_zero]
-- 34 loop.example/prologserver/spec.l8Head params 2 ntmps 106
-- loop head live: [1, 2, 4, 5, 6]
-- loop head live: [2, 4, 5, 8]
def ac34 : Cd := .seq (.region [⟨(some 2), .box (.t 0), none⟩,
 ⟨(some 4), .alloc [(.full []), (.d (.int .i64 0)), (.full [])], none⟩] [0])
 (.seq (.region [⟨(some 12), .buildSlice 5 0 [(.int .i64 0), (.int .i64 0), (.str []), (.sl []), (.int .i64 0)] [], none⟩,
 ⟨(some 5), .mv (.t 12), none⟩] [12])
 (.seq (.seq (.region [⟨(some 6), .mv (.k (.c (.d (.int .i64 0)))), none⟩] [])
 (.block 0 (.loop (.seq (.seq (.region [⟨(some 13), .mv (.t 6), none⟩,
 ⟨(some 14), .mv (.t 1), none⟩,
 ⟨(some 15), .len 1 (.t 14), none⟩,
 ⟨(some 16), .bin .lss (.t 13) (.t 15), none⟩] [13, 14, 15])
 (.cond (.t 16)
 (.skip)
 (.exit 0)))
 (.seq (.block 1 (.seq (.region [⟨(some 19), .mv (.t 1), none⟩,
 ⟨(some 20), .mv (.t 6), none⟩,
 ⟨(some 21), .indexAddr 4 (.t 19) (.t 20), none⟩,
 ⟨(some 22), .load (some 4) (.t 21), none⟩,
 ⟨(some 7), .alloc [(.d (.int .i64 0)), (.d (.int .i64 0)), (.d (.str [])), (.full [])], none⟩,
 ⟨none, .store 4 (.t 7) (.t 22), none⟩] [16, 19, 20, 21, 22])
 (.block 2 (.seq (.region [⟨(some 30), .fieldAddr 0 (.t 7), none⟩,
 ⟨(some 31), .load none (.t 30), none⟩,
 ⟨(some 32), .bin .eql (.t 31) (.k (.c (.d (.int .i64 2)))), none⟩,
 ⟨(some 29), .mv (.t 32), none⟩] [30, 31, 32])
 (.cond (.t 29)
 (.region [⟨(some 33), .load (some 3) (.t 2), none⟩,
 ⟨(some 34), .fieldAddr 1 (.t 7), none⟩,
 ⟨(some 35), .load none (.t 34), none⟩,
 ⟨(some 36), .mv (.t 6), none⟩,
 ⟨(some 37), .build [(.d (.int .i64 0)), (.d (.int .i64 0)), (.d (.int .i64 0)), (.d (.str []))] [(0, 1, (.k (.c (.d (.int .i64 2))))), (1, 1, (.t 35)), (2, 1, (.t 36))], none⟩,
 ⟨(some 38), .qcall 65 [(.t 33), (.t 37)], none⟩,
 ⟨none, .store 3 (.t 2) (.t 38), none⟩] [7, 29, 33, 34, 35, 36, 37, 38])
 (.seq (.region [⟨(some 40), .fieldAddr 0 (.t 7), none⟩,
 ⟨(some 41), .load none (.t 40), none⟩,
 ⟨(some 42), .bin .eql (.t 41) (.k (.c (.d (.int .i64 1)))), none⟩,
 ⟨(some 43), .mv (.t 42), none⟩,
 ⟨(some 44), .fieldAddr 0 (.t 2), some (43, true)⟩,
 ⟨(some 45), .load none (.t 44), some (43, true)⟩,
 ⟨(some 46), .fieldAddr 1 (.t 7), some (43, true)⟩,
 ⟨(some 47), .load none (.t 46), some (43, true)⟩,
 ⟨(some 48), .indexAddr 1 (.t 45) (.t 47), some (43, true)⟩,
 ⟨(some 49), .load none (.t 48), some (43, true)⟩,
 ⟨(some 50), .bin .geq (.t 49) (.k (.c (.d (.int .i64 0)))), some (43, true)⟩,
 ⟨(some 51), .pick (.t 43) (.t 50) (.k (.c (.d (.bool false)))), none⟩,
 ⟨(some 39), .mv (.t 51), none⟩] [29, 40, 41, 42, 43, 44, 45, 46, 47, 48, 49, 50, 51])
 (.cond (.t 39)
 (.region [⟨(some 53), .fieldAddr 0 (.t 2), none⟩,
 ⟨(some 55), .fieldAddr 1 (.t 7), none⟩,
 ⟨(some 59), .mv (.t 6), none⟩,
 ⟨(some 52), .load (some 3) (.t 2), none⟩,
 ⟨(some 54), .load none (.t 53), none⟩,
 ⟨(some 56), .load none (.t 55), none⟩,
 ⟨(some 57), .indexAddr 1 (.t 54) (.t 56), none⟩,
 ⟨(some 58), .load none (.t 57), none⟩,
 ⟨(some 60), .build [(.d (.int .i64 0)), (.d (.int .i64 0)), (.d (.int .i64 0)), (.d (.str []))] [(0, 1, (.k (.c (.d (.int .i64 1))))), (1, 1, (.t 58)), (2, 1, (.t 59))], none⟩,
 ⟨(some 61), .qcall 65 [(.t 52), (.t 60)], none⟩,
 ⟨none, .store 3 (.t 2) (.t 61), none⟩] [7, 39, 52, 53, 54, 55, 56, 57, 58, 59, 60, 61])
 (.seq (.region [⟨(some 63), .fieldAddr 0 (.t 7), none⟩,
 ⟨(some 64), .load none (.t 63), none⟩,
 ⟨(some 65), .bin .eql (.t 64) (.k (.c (.d (.int .i64 1)))), none⟩,
 ⟨(some 62), .mv (.t 65), none⟩] [39, 63, 64, 65])
 (.cond (.t 62)
 (.region [⟨(some 66), .load (some 3) (.t 2), none⟩,
 ⟨(some 67), .fieldAddr 1 (.t 7), none⟩,
 ⟨(some 68), .load none (.t 67), none⟩,
 ⟨(some 69), .mv (.t 6), none⟩,
 ⟨(some 70), .qcall 67 [(.t 66), (.t 68), (.t 69)], none⟩,
 ⟨none, .store 3 (.t 2) (.t 70), none⟩] [7, 62, 66, 67, 68, 69, 70])
 (.region [⟨(some 23), .mv (.t 5), none⟩,
 ⟨(some 24), .load (some 4) (.t 7), none⟩,
 ⟨(some 25), .mv (.t 6), none⟩,
 ⟨(some 26), .build [(.d (.int .i64 0)), (.d (.int .i64 0)), (.d (.str [])), (.full []), (.d (.int .i64 0))] [(0, 4, (.t 24)), (4, 1, (.t 25))], none⟩,
 ⟨(some 27), .buildSlice 5 1 [(.int .i64 0), (.int .i64 0), (.str []), (.sl []), (.int .i64 0)] [(0, (.t 26))], none⟩,
 ⟨(some 28), .append false 5 (.t 23) (.t 27), none⟩,
 ⟨(some 5), .mv (.t 28), none⟩] [7, 23, 24, 25, 26, 27, 28, 62]))))))))))
 (.region [⟨(some 17), .mv (.t 6), none⟩,
 ⟨(some 18), .bin .add (.t 17) (.k (.c (.d (.int .i64 1)))), none⟩,
 ⟨(some 6), .mv (.t 18), none⟩] [17, 18]))))))
 (.seq (.seq (.region [⟨(some 8), .mv (.k (.c (.d (.int .i64 0)))), none⟩] [])
 (.block 3 (.loop (.seq (.seq (.region [⟨(some 71), .mv (.t 8), none⟩,
 ⟨(some 72), .mv (.t 5), none⟩,
 ⟨(some 73), .len 1 (.t 72), none⟩,
 ⟨(some 74), .bin .lss (.t 71) (.t 73), none⟩] [71, 72, 73])
 (.cond (.t 74)
 (.skip)
 (.exit 3)))
 (.seq (.block 4 (.seq (.region [⟨(some 77), .mv (.t 5), none⟩,
 ⟨(some 78), .mv (.t 8), none⟩,
 ⟨(some 79), .indexAddr 5 (.t 77) (.t 78), none⟩,
 ⟨(some 80), .load (some 5) (.t 79), none⟩,
 ⟨(some 9), .alloc [(.d (.int .i64 0)), (.d (.int .i64 0)), (.d (.str [])), (.full []), (.d (.int .i64 0))], none⟩,
 ⟨none, .store 5 (.t 9) (.t 80), none⟩] [74, 77, 78, 79, 80])
 (.seq (.region [⟨(some 81), .load (some 3) (.t 2), none⟩,
 ⟨(some 82), .fieldAddr 0 (.t 9), none⟩,
 ⟨(some 83), .fieldAddr 3 (.t 82), none⟩,
 ⟨(some 84), .load none (.t 83), none⟩,
 ⟨(some 85), .len 1 (.t 84), none⟩,
 ⟨(some 86), .fieldAddr 4 (.t 9), none⟩,
 ⟨(some 87), .load none (.t 86), none⟩,
 ⟨(some 88), .fieldAddr 0 (.t 9), none⟩,
 ⟨(some 89), .fieldAddr 2 (.t 88), none⟩,
 ⟨(some 90), .load none (.t 89), none⟩,
 ⟨(some 91), .build [(.d (.int .i64 0)), (.d (.int .i64 0)), (.d (.int .i64 0)), (.d (.str []))] [(0, 1, (.k (.c (.d (.int .i64 3))))), (1, 1, (.t 85)), (2, 1, (.t 87)), (3, 1, (.t 90))], none⟩,
 ⟨(some 92), .qcall 65 [(.t 81), (.t 91)], none⟩,
 ⟨none, .store 3 (.t 2) (.t 92), none⟩] [81, 82, 83, 84, 85, 86, 87, 88, 89, 90, 91, 92])
 (.seq (.region [⟨(some 94), .load (some 3) (.t 2), none⟩,
 ⟨(some 95), .fieldAddr 0 (.t 9), none⟩,
 ⟨(some 96), .fieldAddr 3 (.t 95), none⟩,
 ⟨(some 97), .load none (.t 96), none⟩,
 ⟨(some 98), .qcall 68 [(.t 94), (.t 97)], none⟩,
 ⟨(some 93), .mv (.t 98), none⟩,
 ⟨(some 99), .extract 0 (.t 93), none⟩,
 ⟨(some 100), .extract 1 (.t 93), none⟩,
 ⟨(some 10), .alloc [(.full []), (.d (.int .i64 0)), (.full [])], none⟩,
 ⟨none, .store 3 (.t 10) (.t 99), none⟩,
 ⟨(some 11), .mv (.t 100), none⟩] [9, 93, 94, 95, 96, 97, 98, 99, 100])
 (.seq (.region [⟨(some 101), .load (some 3) (.t 10), none⟩,
 ⟨none, .store 3 (.t 2) (.t 101), none⟩] [10, 101])
 (.region [⟨(some 102), .mv (.t 5), none⟩,
 ⟨(some 103), .mv (.t 11), none⟩,
 ⟨(some 104), .append false 5 (.t 102) (.t 103), none⟩,
 ⟨(some 5), .mv (.t 104), none⟩] [11, 102, 103, 104]))))))
 (.region [⟨(some 75), .mv (.t 8), none⟩,
 ⟨(some 76), .bin .add (.t 75) (.k (.c (.d (.int .i64 1)))), none⟩,
 ⟨(some 8), .mv (.t 76), none⟩] [75, 76]))))))
 (.seq (.region [⟨(some 105), .load (some 3) (.t 2), none⟩,
 ⟨none, .store 3 (.t 4) (.t 105), none⟩] [2, 105])
 (.ret)))))
theorem ac34_ok : cFunc Tryz.prog [1000065, 1000067, 1000068] [(0, [0], []), (1, [12], []), (2, [], []), (3, [13, 14, 15], []), (5, [16, 19, 20, 21, 22], []), (7, [30, 31, 32], []), (8, [7, 29, 33, 34, 35, 36, 37, 38], []), (9, [29, 40, 41, 42, 43, 44, 45, 46, 47, 48, 49, 50, 51], []), (10, [7, 39, 52, 53, 54, 55, 56, 57, 58, 59, 60, 61], [1, 3, 7, 0, 2, 4, 5, 6, 8, 9, 10]), (11, [39, 63, 64, 65], []), (12, [7, 62, 66, 67, 68, 69, 70], []), (6, [7, 23, 24, 25, 26, 27, 28, 62], []), (4, [17, 18], []), (13, [], []), (14, [71, 72, 73], []), (16, [74, 77, 78, 79, 80], []), (17, [81, 82, 83, 84, 85, 86, 87, 88, 89, 90, 91, 92], []), (18, [9, 93, 94, 95, 96, 97, 98, 99, 100], []), (19, [10, 101], []), (20, [11, 102, 103, 104], []), (15, [75, 76], []), (21, [2, 105], [])] Tryz.f34 = some (ac34, [.cell 4 (some 3)], 106) := by kernel_rfl
theorem qsize_app (a b : List (Tm × Nat)) : qsize (a ++ b) = qsize a + qsize b := by simp [qsize]
theorem good_kids {k n : Int} {s : List UInt8} {l : List Tm} (h : (Tm.mk k n s l).good) : l.length ≤ 4 ∧ ∀ t ∈ l, t.good := by
  cases h with
  | mk ho hk =>
    rcases own_cases ho with ⟨_, _, _, _, rfl⟩ | ⟨_, _, _, _, rfl⟩ | ⟨_, _, _, h4⟩
    · exact ⟨by simp, hk⟩
    · exact ⟨by simp, hk⟩
    · exact ⟨h4, hk⟩
theorem head_calls (l : List Tm) (hl : l.length ≤ 4) (hz : sizes l ≤ 1000) (hg : ∀ t ∈ l, t.good) (M : Mk) (B : Nat) (hB4 : 4 ≤ B) (hB : B ≤ 10000) (hM : M.fit B) (H : Heap) :
    ACalls Tryz.prog 34 [.agg [.d (.sl (slotsR M.sl)), .d (.int .i64 M.next), .d (.sl M.code)], .c (.d (.sl (l.map Tm.row)))] H
      (fun r H' => H' = H ∧ r = .agg [.d (.sl (slotsR (headT l M).sl)), .d (.int .i64 (headT l M).next), .d (.sl (headT l M).code)]) := by
  refine acalls Tryz.func34 (by kernel_rfl) ac34_ok fun hf => ?_
  have hli : inR .i64 (l.length : Int) := small_i64 (by omega) (by omega)
  simp -implicitDefEqProofs [ac34, hli, go_sem, -List.set_cons_succ, -List.set_cons_zero]
  refine loop_enter (St.le_token 5 5 rfl) ?_
  obtain ⟨F, hF⟩ : ∃ F, F = headA l 0 M := ⟨_, rfl⟩
  have hFT : headT l M = headQ (qsize F.2) F.2 F.1 := by rw [hF]; rfl
  rw [hFT]
  have hFf := headA_fit l 0 M B hM (by omega)
  rw [← hF] at hFf
  refine loop_set (σ := Nat × Mk × List (Tm × Nat)) (fun x => [(6, .c (.d (.int .i64 x.1))), (5, .c (.own (.l 2) x.2.2.length (x.2.2.map partR)))]) (fun _ => H)
    (fun x => [.cells [.d (.sl (slotsR x.2.1.sl)), .d (.int .i64 x.2.1.next), .d (.sl x.2.1.code)], .cells [.full [], .d (.int .i64 0), .full []], .grow x.2.2.length 5])
    (fun x => x.1 ≤ l.length ∧ x.2.1.fit (B + x.1) ∧ F.1 = (headA (l.drop x.1) x.1 x.2.1).1 ∧ F.2 = x.2.2 ++ (headA (l.drop x.1) x.1 x.2.1).2 ∧ x.2.2.length ≤ x.1) (fun x => l.length - x.1) (0, M, []) (by simp [setAll]) ⟨Nat.zero_le _, hM.mono (by omega), by simp [hF], by simp [hF], by simp⟩ ?_
  rintro ⟨i, N, left⟩ ⟨hi, hN, h1, h2, h3⟩
  simp only at hi hN h1 h2 h3
  simp -implicitDefEqProofs [setAll, hli, go_sem, -List.set_cons_succ, -List.set_cons_zero]
  refine ⟨fun hlt => ?_, fun hge => ?_⟩
  · have hadd : inR .i64 ((i : Int) + 1) := small_i64 (by omega) (by omega)
    have hnx := hN.next
    have hcd := hN.code
    have hal := hN.all
    have hgt := hg l[i] (List.getElem_mem hlt)
    have hd : l.drop i = l[i] :: l.drop (i + 1) := List.drop_eq_getElem_cons hlt
    rw [hd, headA] at h1 h2
    have hrow : (l.map Tm.row)[i]? = some l[i].row := by simp [hlt]
    have hvs := var_slot hgt
    obtain ⟨t, ht⟩ : ∃ t, t = l[i] := ⟨_, rfl⟩
    rw [← ht] at hgt h1 h2 hrow hvs
    clear ht
    obtain ⟨k, n, s, kids⟩ := t
    refine row_nat _ hrow rfl ?_
    cases hgt with
    | mk ho hk =>
      rcases own_cases ho with ⟨rfl, n0, n1, rfl, rfl⟩ | ⟨rfl, n0, n1, rfl, rfl⟩ | ⟨rfl, rfl, hs2, hl4⟩
      · obtain ⟨v, hv, hv26⟩ := hvs rfl
        simp only [Tm.n] at hv
        subst hv
        simp [Tm.k, Tm.n] at h1 h2
        have hget := slotsR_get N.sl hv26
        simp -implicitDefEqProofs [row_mk, hf, go_sem, -List.set_cons_succ, -List.set_cons_zero]
        refine row_nat _ hget rfl ?_
        cases hsv : slotO N.sl v with
        | some u =>
          simp only [hsv] at h1 h2
          have hu0 : ¬ (u : Int) < 0 := by omega
          simp -implicitDefEqProofs [hu0, hf, go_sem, -List.set_cons_succ, -List.set_cons_zero]
          refine row_nat _ hget rfl ?_
          simp -implicitDefEqProofs [hsv, hf, go_sem, -List.set_cons_succ, -List.set_cons_zero]
          refine qcall_pure (emit_calls _ _ _ _ _ _ _ (by omega) hal) hf rfl ?_
          simp -implicitDefEqProofs [hadd, hf, go_sem, -List.set_cons_succ, -List.set_cons_zero]
          refine loop_less (i + 1, N.emit 1 u i [], left) (St.le_cut [_] ?_ (by simp [Sl.le, A.le_refl_iff, A.le_u_iff, As.lo, A.lo, C.lo, Ref.lo, Cs.lo, Obs.lo, Ob.lo, setAll, and_true, true_and, List.length_nil, List.length_cons]) rfl (by simp [Sl.le, A.le_refl_iff, A.le_u_iff, As.lo, A.lo, C.lo, Ref.lo, Cs.lo, Obs.lo, Ob.lo, setAll, and_true, true_and, List.length_nil, List.length_cons])) ⟨hlt, (hN.emit ..).mono (by omega), h1, h2, by simp only; omega⟩ (by show l.length - (i + 1) < l.length - i; omega)
          simp [setAll, Sl.le, A.le_refl_iff, A.le_u_iff, As.lo, A.lo, C.lo, Ref.lo, Cs.lo, Obs.lo, Ob.lo, setAll, and_true, true_and, List.length_nil, List.length_cons]
        | none =>
          simp only [hsv] at h1 h2
          simp -implicitDefEqProofs [hf, go_sem, -List.set_cons_succ, -List.set_cons_zero]
          refine qcall_pure (slot_calls N.sl N.code _ v i hv26 hsv (by omega)) hf rfl ?_
          simp -implicitDefEqProofs [hadd, hf, go_sem, -List.set_cons_succ, -List.set_cons_zero]
          refine loop_less (i + 1, N.give v i, left) (St.le_cut [_] ?_ (by simp [Sl.le, A.le_refl_iff, A.le_u_iff, As.lo, A.lo, C.lo, Ref.lo, Cs.lo, Obs.lo, Ob.lo, setAll, and_true, true_and, List.length_nil, List.length_cons]) rfl (by simp [Sl.le, A.le_refl_iff, A.le_u_iff, As.lo, A.lo, C.lo, Ref.lo, Cs.lo, Obs.lo, Ob.lo, setAll, and_true, true_and, List.length_nil, List.length_cons])) ⟨hlt, (hN.give _ _ (by omega)).mono (by omega), h1, h2, by simp only; omega⟩ (by show l.length - (i + 1) < l.length - i; omega)
          simp [setAll, Sl.le, A.le_refl_iff, A.le_u_iff, As.lo, A.lo, C.lo, Ref.lo, Cs.lo, Obs.lo, Ob.lo, setAll, and_true, true_and, List.length_nil, List.length_cons]
      · simp [Tm.k, Tm.n] at h1 h2
        simp -implicitDefEqProofs [row_mk, hf, go_sem, -List.set_cons_succ, -List.set_cons_zero]
        refine qcall_pure (emit_calls _ _ _ _ _ _ _ (by omega) hal) hf rfl ?_
        simp -implicitDefEqProofs [hadd, hf, go_sem, -List.set_cons_succ, -List.set_cons_zero]
        refine loop_less (i + 1, N.emit 2 n i [], left) (St.le_cut [_] ?_ (by simp [Sl.le, A.le_refl_iff, A.le_u_iff, As.lo, A.lo, C.lo, Ref.lo, Cs.lo, Obs.lo, Ob.lo, setAll, and_true, true_and, List.length_nil, List.length_cons]) rfl (by simp [Sl.le, A.le_refl_iff, A.le_u_iff, As.lo, A.lo, C.lo, Ref.lo, Cs.lo, Obs.lo, Ob.lo, setAll, and_true, true_and, List.length_nil, List.length_cons])) ⟨hlt, (hN.emit ..).mono (by omega), h1, h2, by simp only; omega⟩ (by show l.length - (i + 1) < l.length - i; omega)
        simp [setAll, Sl.le, A.le_refl_iff, A.le_u_iff, As.lo, A.lo, C.lo, Ref.lo, Cs.lo, Obs.lo, Ob.lo, setAll, and_true, true_and, List.length_nil, List.length_cons]
      · simp [Tm.k] at h1 h2
        simp -implicitDefEqProofs [row_mk, hf, go_sem, -List.set_cons_succ, -List.set_cons_zero]
        refine row_off [.int .i64 0] ?_
        simp -implicitDefEqProofs [hadd, hf, go_sem, -List.set_cons_succ, -List.set_cons_zero]
        refine ⟨allLen_map partR_len, by unfold maxApp; omega, ?_⟩
        refine loop_less (i + 1, N, left ++ [(.mk 3 0 s kids, i)]) (St.le_cut [_] ?_ (by simp [Sl.le, A.le_refl_iff, A.le_u_iff, As.lo, A.lo, C.lo, Ref.lo, Cs.lo, Obs.lo, Ob.lo, setAll, and_true, true_and, List.length_nil, List.length_cons]) (by simp; rfl) (by simp [Sl.le, A.le_refl_iff, A.le_u_iff, As.lo, A.lo, C.lo, Ref.lo, Cs.lo, Obs.lo, Ob.lo, setAll, and_true, true_and, List.length_nil, List.length_cons])) ⟨hlt, hN.mono (by omega), h1, by simp [h2], by simp; omega⟩ (by show l.length - (i + 1) < l.length - i; omega)
        simp [setAll, partR, row_mk, Sl.le, A.le_refl_iff, A.le_u_iff, As.lo, A.lo, C.lo, Ref.lo, Cs.lo, Obs.lo, Ob.lo, setAll, and_true, true_and, List.length_nil, List.length_cons]
  · obtain rfl : i = l.length := by omega
    simp [headA] at h1 h2
    rw [h1, h2]
    rw [h1, h2] at hFf
    obtain ⟨_, g2, g3, g4⟩ := hFf
    obtain ⟨G, hG⟩ : ∃ G, G = headQ (qsize left) left N := ⟨_, rfl⟩
    rw [← hG]
    refine loop_set (σ := Nat × Nat × Mk × List (Tm × Nat)) (fun x => [(8, .c (.d (.int .i64 x.1))), (5, .c (.own (.l 2) x.2.2.2.length (x.2.2.2.map partR)))]) (fun _ => H)
      (fun x => [.cells [.d (.sl (slotsR x.2.2.1.sl)), .d (.int .i64 x.2.2.1.next), .d (.sl x.2.2.1.code)], .cells [.full [], .d (.int .i64 0), .full []], .grow x.2.2.2.length 5])
      (fun x => x.1 ≤ x.2.2.2.length ∧ headQ x.2.1 (x.2.2.2.drop x.1) x.2.2.1 = G ∧ qsize (x.2.2.2.drop x.1) ≤ x.2.1 ∧ (∃ C, x.2.2.1.fit C ∧ C + 6 * qsize (x.2.2.2.drop x.1) ≤ 20000 + 4 * (x.2.2.2.drop x.1).length) ∧ x.1 + qsize (x.2.2.2.drop x.1) ≤ 1000 ∧ ∀ p ∈ x.2.2.2.drop x.1, p.1.good) (fun x => qsize (x.2.2.2.drop x.1)) (0, qsize left, N, left) (by simp [setAll]) ⟨Nat.zero_le _, by simp [hG], by simp, ⟨_, hN, by simp; omega⟩, by simp; omega, by simpa using fun p hp => hg _ (g2 p hp).1⟩ ?_
    rintro ⟨j, f, P, work⟩ ⟨hj, e1, e2, ⟨cc, hP, e3⟩, e4, e5⟩
    simp only at hj e1 e2 hP e3 e4 e5
    have hwl : work.length ≤ 1000 := by
      have := qsize_pos (work.drop j)
      simp at this
      omega
    have hwi : inR .i64 (work.length : Int) := small_i64 (by omega) (by omega)
    simp -implicitDefEqProofs [setAll, hwi, go_sem, -List.set_cons_succ, -List.set_cons_zero]
    refine ⟨fun hlt => ?_, fun hge => ?_⟩
    · have hadd : inR .i64 ((j : Int) + 1) := small_i64 (by omega) (by omega)
      have hd : work.drop j = work[j] :: work.drop (j + 1) := List.drop_eq_getElem_cons hlt
      have hrow : (work.map partR)[j]? = some (partR work[j]) := by simp [hlt]
      obtain ⟨p, hp⟩ : ∃ p, p = work[j] := ⟨_, rfl⟩
      rw [← hp] at hd hrow
      rw [hd] at e1 e2 e3 e4 e5
      have hpg := e5 p (by simp)
      have hdl : (work.drop (j + 1)).length ≤ work.length := by simp
      obtain ⟨⟨k, n, s, kids⟩, at'⟩ := p
      have hkg := good_kids hpg
      have hz1 := args_size kids (P.emit 3 kids.length at' s)
      have hsz : (Tm.mk k n s kids).size = 1 + sizes kids := by rw [Tm.size]
      simp only [qsize, List.map_cons, List.sum_cons, List.length_cons, hsz] at e2 e3 e4
      rw [← qsize] at e2 e3 e4
      cases f with
      | zero => omega
      | succ f =>
        rw [headQ] at e1
        simp only [Tm.kids, Tm.s] at e1
        have hcd := hP.code
        have hal := hP.all
        have hci : inR .i64 (kids.length : Int) := small_i64 (by omega) (by omega)
        have hP2 := hP.emit 3 kids.length at' s
        have cag := args_calls kids (by omega) hkg.2 (P.emit 3 kids.length at' s) _ (by omega) hP2
        have hfa := args_fit kids _ _ hP2
        obtain ⟨R, hR⟩ : ∃ R, R = argsT kids (P.emit 3 kids.length at' s) := ⟨_, rfl⟩
        rw [← hR] at cag hz1 e1 hfa
        refine row_nat _ hrow (partR_len _) ?_
        simp -implicitDefEqProofs [partR, row_mk, hf, hci, go_sem, -List.set_cons_succ, -List.set_cons_zero]
        refine qcall_pure (emit_calls _ _ _ _ _ _ _ (by omega) hal) hf rfl ?_
        simp -implicitDefEqProofs [hf, go_sem, -List.set_cons_succ, -List.set_cons_zero]
        refine qcall_pure cag hf rfl ?_
        simp -implicitDefEqProofs [hf, hadd, go_sem, -List.set_cons_succ, -List.set_cons_zero]
        have hrl := qsize_pos R.2
        refine ⟨allLen_map partR_len, allLen_map partR_len, by unfold maxApp; omega, ?_⟩
        have hda : (work ++ R.2).drop (j + 1) = work.drop (j + 1) ++ R.2 := List.drop_append_of_le_length (by omega)
        refine loop_less (j + 1, f, R.1, work ++ R.2) (St.le_cut [_, _] ?_ (by simp [Sl.le, A.le_refl_iff, A.le_u_iff, As.lo, A.lo, C.lo, Ref.lo, Cs.lo, Obs.lo, Ob.lo, setAll, and_true, true_and, List.length_nil, List.length_cons]) (by simp; exact ⟨rfl, rfl⟩) (by simp [Sl.le, A.le_refl_iff, A.le_u_iff, As.lo, A.lo, C.lo, Ref.lo, Cs.lo, Obs.lo, Ob.lo, setAll, and_true, true_and, List.length_nil, List.length_cons])) ⟨by simp only [List.length_append]; omega, ?_, ?_, ⟨_, hfa.1, ?_⟩, ?_, ?_⟩ ?_
        · simp [setAll, Sl.le, A.le_refl_iff, A.le_u_iff, As.lo, A.lo, C.lo, Ref.lo, Cs.lo, Obs.lo, Ob.lo, setAll, and_true, true_and, List.length_nil, List.length_cons]
        · show headQ f ((work ++ R.2).drop (j + 1)) R.1 = G
          rw [hda]; exact e1
        · show qsize ((work ++ R.2).drop (j + 1)) ≤ f
          rw [hda, qsize_app]; omega
        · show cc + 1 + 2 * kids.length + 6 * qsize ((work ++ R.2).drop (j + 1)) ≤ 20000 + 4 * ((work ++ R.2).length - (j + 1))
          rw [hda, qsize_app, List.length_append]
          have := List.length_drop (i := j + 1) (l := work)
          omega
        · show j + 1 + qsize ((work ++ R.2).drop (j + 1)) ≤ 1000
          rw [hda, qsize_app]; omega
        · show ∀ a b, (a, b) ∈ (work ++ R.2).drop (j + 1) → a.good
          rw [hda]
          intro a b hp
          rcases List.mem_append.1 hp with hp | hp
          · exact e5 (a, b) (by simp [hp])
          · exact hkg.2 _ (hfa.2 (a, b) hp).1
        · show qsize ((work ++ R.2).drop (j + 1)) < qsize (work.drop j)
          rw [hda, qsize_app, hd]
          simp only [qsize, List.map_cons, List.sum_cons, hsz]
          simp only [← qsize.eq_def]
          omega
    · have hjw : j = work.length := by omega
      subst hjw
      simp [headQ] at e1
      subst e1
      simp -implicitDefEqProofs [hf, go_sem, -List.set_cons_succ, -List.set_cons_zero]
end Go.Proofs.YteighafofbohcaaGreat
