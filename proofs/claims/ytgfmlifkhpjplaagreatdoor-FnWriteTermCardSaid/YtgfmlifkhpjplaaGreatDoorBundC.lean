/-
  Contracts of functions that the law reaches, and plain lemmas: several texts in one.
  Conditions: none.
-/
import Derived.Test.YtgfmlifkhpjplaaGreatDoorBundB
import Derived.Test.YtgfmlifkhpjplaaGreatDoorBundA
import Derived.Test.YtgfmlifkhpjplaaGreatDoorAbsN
import Derived.Shelf.Strings.OnBuilder
open Go Go.AM Go.Proofs
attribute [local go_sem] kw ew sw tw a_ b_ c_ A.ok A.val d_ e_ f_ g_ h_ i_ j_ k_ l_ m_ unA unD n_ AOp.total o_ p_ q_ r_ s_ t_ u_ v_ A.thaw C.thaw A.fits As.fits C.fits evs oks w_ A.pure C.pure A.re C.re x_ y_ cut A.cells C.rows? z_ A_ B_ C_ a0_ b0_ D_ Ob.re Cs.fits E_ F_ G_ H_ I_ J_ K_ L_ M_ N_ O_ C.toD P_ Q_ R_ S_ T_ Obs.fits U_ eqD V_ W_ X_ Y_ Z_
/-
  The program's reader: lists.
  Conditions: none.
-/
open Go Go.AM Go.Proofs
namespace Go.Proofs.YtgfmlifkhpjplaaGreatDoor
open Go.ChangeShapes Go.WideShapes Go.ChangeAt Go.RowKit
set_option linter.unusedVariables false
set_option linter.unusedSimpArgs false
set_option maxRecDepth 100000
-- 117 (*loop.example/prologserver/impl.reader).list params 2 ntmps 52
-- loop head live: [0,1,4,5,6]
def ac117 : Cd := .seq (.region [⟨(some 4),.alloc [(.d (.int .i64 0)),(.d (.int .i64 0)),(.d (.str [])),(.full [])],none⟩] [])
 (.seq (.region [⟨(some 5),.mv (.k (.c (.full []))),none⟩] [])
 (.seq (.seq (.region [⟨(some 6),.mv (.k (.c (.d (.bool true)))),none⟩] [])
 (.block 0 (.loop (.seq (.seq (.region [⟨(some 8),.mv (.t 6),none⟩] [6])
 (.cond (.t 8)
 (.skip)
 (.exit 0)))
 (.block 1 (.seq (.region [⟨(some 9),.mv (.t 5),none⟩,
 ⟨(some 10),.mv (.t 0),none⟩,
 ⟨(some 11),.mv (.t 1),none⟩,
 ⟨(some 12),.bin .add (.t 11) (.k (.c (.d (.int .i64 1)))),none⟩,
 ⟨(some 13),.mv (.t 5),none⟩,
 ⟨(some 14),.len 1 (.t 13),none⟩,
 ⟨(some 15),.bin .add (.t 12) (.t 14),none⟩,
 ⟨(some 16),.call false 120 [(.t 10),(.t 15)],none⟩,
 ⟨(some 17),.buildSlice 4 1 [(.int .i64 0),(.int .i64 0),(.str []),(.sl [])] [(0,(.t 16))],none⟩,
 ⟨(some 18),.append false 4 (.t 9) (.t 17),none⟩,
 ⟨(some 5),.mv (.t 18),none⟩] [8,9,10,11,12,13,14,15,16,17,18])
 (.seq (.region [⟨(some 19),.mv (.t 0),none⟩,
 ⟨(some 20),.call false 111 [(.t 19)],none⟩,
 ⟨(some 21),.bin .eql (.t 20) (.k (.c (.d (.int .u8 44)))),none⟩,
 ⟨(some 6),.mv (.t 21),none⟩] [19,20,21])
 (.seq (.region [⟨(some 22),.mv (.t 6),none⟩] [])
 (.cond (.t 22)
 (.region [⟨(some 23),.mv (.t 0),none⟩,
 ⟨(some 24),.nilCheck (.t 23),none⟩,
 ⟨(some 25),.fieldAddr 1 (.t 24),none⟩,
 ⟨(some 26),.load none (.t 25),none⟩,
 ⟨(some 27),.bin .add (.t 26) (.k (.c (.d (.int .i64 1)))),none⟩,
 ⟨(some 28),.nilCheck (.t 23),none⟩,
 ⟨(some 29),.fieldAddr 1 (.t 28),none⟩,
 ⟨none,.store 1 (.t 29) (.t 27),none⟩] [22,23,24,25,26,27,28,29])
 (.skip))))))))))
 (.seq (.region [⟨(some 30),.qcall 118 [(.k (.c (.d (.str [91,93]))))],none⟩,
 ⟨(some 7),.alloc [(.d (.int .i64 0)),(.d (.int .i64 0)),(.d (.str [])),(.full [])],none⟩,
 ⟨none,.store 4 (.t 7) (.t 30),none⟩] [30])
 (.seq (.seq (.region [⟨(some 31),.mv (.t 0),none⟩,
 ⟨(some 32),.call false 111 [(.t 31)],none⟩,
 ⟨(some 33),.bin .eql (.t 32) (.k (.c (.d (.int .u8 124)))),none⟩] [31,32])
 (.cond (.t 33)
 (.seq (.region [⟨(some 34),.mv (.t 0),none⟩,
 ⟨(some 35),.nilCheck (.t 34),none⟩,
 ⟨(some 36),.fieldAddr 1 (.t 35),none⟩,
 ⟨(some 37),.load none (.t 36),none⟩,
 ⟨(some 38),.bin .add (.t 37) (.k (.c (.d (.int .i64 1)))),none⟩,
 ⟨(some 39),.nilCheck (.t 34),none⟩,
 ⟨(some 40),.fieldAddr 1 (.t 39),none⟩,
 ⟨none,.store 1 (.t 40) (.t 38),none⟩] [33,34,35,36,37,38,39,40])
 (.region [⟨(some 41),.mv (.t 0),none⟩,
 ⟨(some 42),.mv (.t 1),none⟩,
 ⟨(some 43),.mv (.t 5),none⟩,
 ⟨(some 44),.len 1 (.t 43),none⟩,
 ⟨(some 45),.bin .add (.t 42) (.t 44),none⟩,
 ⟨(some 46),.call false 120 [(.t 41),(.t 45)],none⟩,
 ⟨none,.store 4 (.t 7) (.t 46),none⟩] [1,41,42,43,44,45,46]))
 (.skip)))
 (.seq (.region [⟨(some 47),.mv (.t 0),none⟩,
 ⟨(some 48),.call false 115 [(.t 47),(.k (.c (.d (.int .u8 93))))],none⟩] [0,1,33,47,48])
 (.seq (.region [⟨(some 49),.mv (.t 5),none⟩,
 ⟨(some 50),.load (some 4) (.t 7),none⟩,
 ⟨(some 51),.qcall 132 [(.t 49),(.t 50)],none⟩,
 ⟨none,.store 4 (.t 4) (.t 51),none⟩] [5,7,49,50,51])
 (.ret)))))))
theorem ac117_ok : cFunc Tryz.prog [1000118,1000132] [(0,[],[]),(1,[],[]),(2,[],[]),(3,[6],[]),(4,[8,9,10,11,12,13,14,15,16,17,18],[]),(5,[19,20,21],[]),(6,[],[]),(7,[22,23,24,25,26,27,28,29],[]),(8,[30],[]),(9,[31,32],[]),(10,[33,34,35,36,37,38,39,40],[]),(11,[1,41,42,43,44,45,46],[]),(12,[0,1,33,47,48],[]),(13,[5,7,49,50,51],[])] Tryz.f117 = some (ac117,[.cell 4 (some 4)],52) := by kernel_rfl
-- 118 loop.example/prologserver/impl.atom params 1 ntmps 5
def ac118 : Cd := .seq (.region [⟨(some 2),.alloc [(.d (.int .i64 0)),(.d (.int .i64 0)),(.d (.str [])),(.full [])],none⟩] [])
 (.seq (.region [⟨(some 3),.mv (.t 0),none⟩,
 ⟨(some 4),.build [(.d (.int .i64 0)),(.d (.int .i64 0)),(.d (.str [])),(.full [])] [(0,1,(.k (.c (.d (.int .i64 3))))),(2,1,(.t 3))],none⟩,
 ⟨none,.store 4 (.t 2) (.t 4),none⟩] [0,3,4])
 (.ret))
theorem ac118_ok : cFunc Tryz.prog [] [(0,[],[]),(1,[0,3,4],[])] Tryz.f118 = some (ac118,[.cell 2 (some 4)],5) := by kernel_rfl
theorem atom_calls (n : List UInt8) (H : Heap) : ACalls Tryz.prog 118 [.c (.d (.str n))] H (fun r H' => H' = H ∧ r = .agg ((Tm.mk 3 0 n []).row.map .d)) := by
  refine acalls Tryz.func118 (by kernel_rfl) ac118_ok fun hf => ?_
  simp -implicitDefEqProofs [ac118, row_mk, hf, go_sem, -List.set_cons_succ, -List.set_cons_zero]
theorem nxt_bad (s : List UInt8) (a : Nat) (e : Nat) : nxt s a e = 0 := by unfold nxt; rw [if_pos (by omega)]
def Rs.app2 (out : List Tm) : Rs → Rs
  | .ok us k => .ok (out ++ us) k
  | .bad e => .bad e
/-- a closing byte is taken, or missed -/
theorem skip_rq {H : Heap} {i a : Nat} {s : List UInt8} {t : Tm} {c : UInt8} {r : Rs} (h : (if sgn s a c then some (Rs.ok [t] (a + 1)) else some (Rs.bad a)) = some r) (ht : t.fits) (ha : a ≤ s.length) (hc : c ≠ 0 := by decide) :
    RQ H i s r (.agg (t.row.map .d)) (ro H i s (if nxt s a (-1) = c then a + 1 else a) (if nxt s a (-1) = c then -1 else if (-1 : Int) < 0 then (a : Int) else -1)) := by
  have e := nxt_sgn s a c hc
  cases hsg : sgn s a c with
  | true =>
    rw [hsg] at h e
    cases h
    rw [if_pos (beq_iff_eq.1 e), if_pos (beq_iff_eq.1 e)]
    exact rq_ok ht
  | false =>
    rw [hsg] at h e
    cases h
    have hn : ¬ nxt s a (-1) = c := fun h => by rw [beq_iff_eq.2 h] at e; cases e
    rw [if_neg hn, if_neg hn, if_pos (by decide)]
    exact rq_bad ht ha
section
variable {s : List UInt8} (hs : s.length ≤ 1000000) {f : Nat}
include hs
/-- what stands behind a list's elements -/
def listK (s : List UInt8) (f d : Nat) (ts : List Tm) (j : Nat) : Option Rs :=
  if sgn s j 124 then thn (rp s f (.term 3 (d + ts.length) (j + 1))) fun us k => if sgn s k 93 then some (.ok [chainT ts (Rs.tm us)] (k + 1)) else some (.bad k)
  else if sgn s j 93 then some (.ok [chainT ts nilT] (j + 1)) else some (.bad j)
set_option maxHeartbeats 3200000 in
theorem list_of (h : ∀ g, g ≤ f → Prd s g) (d a : Nat) (r : Rs) (ha : a ≤ s.length) (hd : d ≤ 1000) (hr : thn (rp s f (.items d 0 a)) (listK s f d) = some r) : Rdr 117 [.c (.d (.int .i64 d))] s a r := fun H i hp h2 hi => by
  refine acalls Tryz.func117 (by kernel_rfl) ac117_ok fun hf => ?_
  rw [ro_len] at hf
  have hf1 := fun a' b' => ro_fits (s' := s) (a' := a') (b' := b') hf
  have hfr : ∀ a' b', Obs.fits (ro H i s a' b').length 0 (ro H i s a' b') := fun a' b' => by rw [ro_len]; exact hf1 a' b'
  obtain ⟨R, hR⟩ : ∃ R, rp s f (.items d 0 a) = some R := by
    rcases thn_some hr with ⟨e, h1, _⟩ | ⟨ts, j, h1, _⟩
    · exact ⟨_, h1⟩
    · exact ⟨_, h1⟩
  have pR := rp_post hs (j := .items d 0 a) ha hR
  rw [hR] at hr
  simp -implicitDefEqProofs [ac117, ro_len, Ref.re, go_sem, -List.set_cons_succ, -List.set_cons_zero]
  refine loop_enter (St.le_token 5 4 rfl) ?_
  refine loop_set (σ := Nat × Int × List Tm × Nat × Rs × Bool) (fun x => [(5, .c (.own (.l 1) x.2.2.1.length (x.2.2.1.map Tm.row))), (6, .c (.d (.bool x.2.2.2.2.2)))]) (fun x => ro H i s x.1 x.2.1)
    (fun x => [.cells [.d (.int .i64 0), .d (.int .i64 0), .d (.str []), .full []], .grow x.2.2.1.length 4])
    (fun x => x.1 ≤ s.length ∧ x.2.2.1.length ≤ 1000001 ∧ (∀ t ∈ x.2.2.1, t.fits) ∧
      ((x.2.2.2.2.2 = true ∧ x.2.1 = -1 ∧ x.2.2.1.length ≤ x.1 ∧ x.2.2.2.1 ≤ f ∧ rp s x.2.2.2.1 (.items d x.2.2.1.length x.1) = some x.2.2.2.2.1 ∧ x.2.2.2.2.1.app2 x.2.2.1 = R) ∨
       (x.2.2.2.2.2 = false ∧ ((x.2.1 = -1 ∧ R = .ok x.2.2.1 x.1) ∨ ∃ e : Nat, x.2.1 = e ∧ R = .bad e))))
    (fun x => if x.2.2.2.2.2 then x.2.2.2.1 + 1 else 0) (a, -1, [], f, R, true) (by simp [setAll]) ⟨ha, by simp, by simp, .inl ⟨rfl, rfl, by simp, Nat.le_refl _, hR, by cases R <;> rfl⟩⟩ ?_
  rintro ⟨p, b, out, g, q, more⟩ ⟨hpl, hol, hof, hst⟩
  simp only at hpl hol hof hst
  simp -implicitDefEqProofs [setAll, ro_len, go_sem, -List.set_cons_succ, -List.set_cons_zero]
  rcases hst with ⟨rfl, rfl, hop, hg, hq, happ⟩ | ⟨rfl, hst⟩
  · cases g with
    | zero => cases hq
    | succ g =>
      have hq : pstep s (rp s g) (.items d out.length p) = some q := hq
      simp only [pstep] at hq
      obtain ⟨w, hw⟩ : ∃ w, rp s g (.term 3 (d + 1 + out.length) p) = some w := by
        rcases thn_some hq with ⟨e, h1, _⟩ | ⟨ts, j, h1, _⟩
        · exact ⟨_, h1⟩
        · exact ⟨_, h1⟩
      have c1 := part_of (h g (by omega)) (d + 1 + out.length) p w hpl (by omega) hw
      have p1 := rp_post hs (j := .term 3 (d + 1 + out.length) p) ⟨hpl, by omega⟩ hw
      rw [hw] at hq
      have e1 : ((d + 1 + out.length : Nat) : Int) = (d : Int) + 1 + (out.length : Int) := by omega
      rw [e1] at c1
      have i1 : inR .i64 ((d : Int) + 1) := small_i64 (by omega) (by omega)
      have i2 : inR .i64 ((d : Int) + 1 + (out.length : Int)) := small_i64 (by omega) (by omega)
      have i3 : inR .i64 (out.length : Int) := small_i64 (by omega) (by omega)
      simp -implicitDefEqProofs [ro_len, i1, i2, i3, go_sem, -List.set_cons_succ, -List.set_cons_zero]
      refine call_rd c1 hp h2 hi (by simp [Ob.re, C.re]) (hf1 _ _) ?_
      rintro v a' b' ⟨t, ht, rfl, hm⟩
      have ha' : a' ≤ s.length ∧ (∀ e : Nat, w = .bad e → b' = e) := by
        cases w with
        | bad e => exact ⟨hm.1, fun e' he => by cases he; exact hm.2⟩
        | ok ts k => exact ⟨by rw [hm.2.1]; exact p1.2.1, fun e' he => by cases he⟩
      simp -implicitDefEqProofs [ro_len, row_len, take_row, drop_row, pure_d, re_d, toDs_map, hfr, hf1, go_sem, -List.set_cons_succ, -List.set_cons_zero]
      refine ⟨allLen_map row_len, by unfold maxApp; omega, ?_⟩
      refine call_mv (next_mv s hs a' b' (by omega)) hp h2 hi (by simp [Ob.re, C.re]) rfl (hf1 _ _) ?_
      simp -implicitDefEqProofs [ro_len, go_sem, -List.set_cons_succ, -List.set_cons_zero]
      have hfo : ∀ x ∈ out ++ [t], x.fits := fun x hx => by
        rcases List.mem_append.1 hx with hx | hx
        · exact hof x hx
        · rw [List.mem_singleton.1 hx]; exact ht
      cases w with
      | bad e =>
        obtain ⟨g1, g2⟩ := hm
        subst g2
        rw [nxt_bad]
        cases hq
        have hRe : R = .bad e := by rw [← happ]; rfl
        simp -implicitDefEqProofs [ro_len, go_sem, -List.set_cons_succ, -List.set_cons_zero]
        refine loop_less (a', (e : Int), out ++ [t], 0, .bad e, false) (St.le_more ?_ (by simp; exact Obs.le_refl _)) ⟨g1, by simp; omega, hfo, .inr ⟨rfl, .inr ⟨e, rfl, hRe⟩⟩⟩ (by show 0 < g + 1 + 1; omega)
        simp [setAll, Sl.le, A.le_refl_iff, A.le_u_iff, As.lo, A.lo, C.lo, Ref.lo, Cs.lo, Obs.lo, Ob.lo, setAll, and_true, true_and, List.length_nil, List.length_cons]
      | ok ts k =>
        obtain ⟨g1, g2, g3⟩ := hm
        subst g2
        subst g3
        obtain ⟨q1, q2, q3⟩ := p1
        have e44 := nxt_eq s a' 44 (by decide)
        have e44 : (((nxt s a' (-1)).toNat : Int) == 44) = sgn s a' 44 := e44
        rw [thn_ok, ← g1] at hq
        cases hsg : sgn s a' 44 with
        | true =>
          rw [hsg] at hq e44
          simp only [if_true] at hq
          have he : ((nxt s a' (-1)).toNat : Int) = 44 := beq_iff_eq.1 e44
          have hlt := sgn_lt hsg
          have i4 : inR .i64 ((a' : Int) + 1) := small_i64 (by omega) (by omega)
          obtain ⟨v, hv, hva⟩ : ∃ v, rp s g (.items d (out.length + 1) (a' + 1)) = some v ∧ v.app2 (out ++ [t]) = R := by
            rcases thn_some hq with ⟨e, h1, h3⟩ | ⟨us, k2, h1, h3⟩
            · exact ⟨_, h1, by rw [← happ, h3]; rfl⟩
            · cases h3
              exact ⟨_, h1, by rw [← happ]; simp [Rs.app2]⟩
          simp -implicitDefEqProofs [he, ro_len, ro_get hi, ro_up, i4, Ref.re, hf1, go_sem, -List.set_cons_succ, -List.set_cons_zero]
          exact loop_back (a' + 1, -1, out ++ [t], g, v, true) (by simp [setAll]) ⟨by show a' + 1 ≤ s.length; omega, by simp; omega, hfo, .inl ⟨rfl, rfl, by simp; omega, by show g ≤ f; omega, by simpa using hv, hva⟩⟩ (by show g + 1 < g + 1 + 1; omega)
        | false =>
          rw [hsg] at hq e44
          simp only [Bool.false_eq_true, if_false, Option.some.injEq] at hq
          have he : ¬ ((nxt s a' (-1)).toNat : Int) = 44 := fun h => by rw [beq_iff_eq.2 h] at e44; cases e44
          simp -implicitDefEqProofs [he, ro_len, go_sem, -List.set_cons_succ, -List.set_cons_zero]
          refine loop_less (a', -1, out ++ [t], 0, q, false) (St.le_more ?_ (by simp; exact Obs.le_refl _)) ⟨ha'.1, by simp; omega, hfo, .inr ⟨rfl, .inl ⟨rfl, by rw [← happ, ← hq]; rfl⟩⟩⟩ (by show 0 < g + 1 + 1; omega)
          simp [setAll, he, Sl.le, A.le_refl_iff, A.le_u_iff, As.lo, A.lo, C.lo, Ref.lo, Cs.lo, Obs.lo, Ob.lo, setAll, and_true, true_and, List.length_nil, List.length_cons]
          rw [e44]
          exact .refl _
  · simp -implicitDefEqProofs [ro_len, go_sem, -List.set_cons_succ, -List.set_cons_zero]
    refine qcall_pure (atom_calls [91, 93]) (hfr _ _) (by simp [A.re, re_d]) ?_
    simp -implicitDefEqProofs [ro_len, row_len, take_row, drop_row, pure_d, re_d, hfr, hf1, go_sem, -List.set_cons_succ, -List.set_cons_zero]
    refine call_mv (next_mv s hs p b (by omega)) hp h2 hi (by simp [Ob.re, C.re]) rfl (hf1 _ _) ?_
    simp -implicitDefEqProofs [ro_len, go_sem, -List.set_cons_succ, -List.set_cons_zero]
    have hil : inR .i64 (out.length : Int) := small_i64 (by omega) (by omega)
    rcases hst with ⟨rfl, hRo⟩ | ⟨e, rfl, hRe⟩
    · subst hRo
      have hr : listK s f d out p = some r := hr
      unfold listK at hr
      have e124 : (((nxt s p (-1)).toNat : Int) == 124) = sgn s p 124 := nxt_eq s p 124 (by decide)
      cases hsg : sgn s p 124 with
      | true =>
        rw [hsg] at hr e124
        have he : ((nxt s p (-1)).toNat : Int) = 124 := beq_iff_eq.1 e124
        have hlt := sgn_lt hsg
        have i4 : inR .i64 ((p : Int) + 1) := small_i64 (by omega) (by omega)
        have i5 : inR .i64 ((d : Int) + (out.length : Int)) := small_i64 (by omega) (by omega)
        simp only [if_true] at hr
        obtain ⟨w, hw⟩ : ∃ w, rp s f (.term 3 (d + out.length) (p + 1)) = some w := by
          rcases thn_some hr with ⟨e, h1, _⟩ | ⟨ts, j, h1, _⟩
          · exact ⟨_, h1⟩
          · exact ⟨_, h1⟩
        have c1 := part_of (h f (Nat.le_refl _)) (d + out.length) (p + 1) w (by omega) (by omega) hw
        have p1 := rp_post hs (j := .term 3 (d + out.length) (p + 1)) ⟨by omega, by omega⟩ hw
        rw [hw] at hr
        have e1 : ((d + out.length : Nat) : Int) = (d : Int) + (out.length : Int) := by omega
        rw [e1] at c1
        simp -implicitDefEqProofs [he, ro_len, ro_get hi, ro_up, i4, i5, hil, Ref.re, hf1, go_sem, -List.set_cons_succ, -List.set_cons_zero]
        refine call_rd c1 hp h2 hi (by simp [Ob.re, C.re]) (hf1 _ _) ?_
        rintro v a' b' ⟨t, ht, rfl, hm⟩
        have ha' : a' ≤ s.length := by
          cases w with
          | bad e => exact hm.1
          | ok ts k => rw [hm.2.1]; exact p1.2.1
        simp -implicitDefEqProofs [ro_len, row_len, take_row, drop_row, pure_d, re_d, toDs_map, hfr, hf1, go_sem, -List.set_cons_succ, -List.set_cons_zero]
        refine call_mv (skip_mv s hs a' b' (by omega) 93) hp h2 hi (by simp [Ob.re, C.re]) rfl (hf1 _ _) ?_
        simp -implicitDefEqProofs [ro_len, row_len, take_row, drop_row, pure_d, re_d, hfr, hf1, go_sem, -List.set_cons_succ, -List.set_cons_zero]
        refine qcall_pure (chainImpl_calls out (by omega) t) (hfr _ _) (by simp [A.re, re_d]) ?_
        simp -implicitDefEqProofs [ro_len, row_len, take_row, drop_row, pure_d, re_d, thaw_d, fits_map, hfr, hf1, go_sem, -List.set_cons_succ, -List.set_cons_zero]
        cases w with
        | bad e =>
          obtain ⟨g1, g2⟩ := hm
          subst g2
          cases hr
          rw [nxt_bad, if_neg (by decide), if_neg (by decide), if_neg (by omega)]
          exact rq_bad (fits_chain _ _ hof ht) ha'
        | ok ts k =>
          obtain ⟨g1, g2, g3⟩ := hm
          subst g2
          subst g3
          rw [thn_ok, ← g1] at hr
          exact skip_rq hr (fits_chain _ _ hof ht) ha'
      | false =>
        rw [hsg] at hr e124
        have he : ¬ ((nxt s p (-1)).toNat : Int) = 124 := fun h => by rw [beq_iff_eq.2 h] at e124; cases e124
        simp only [Bool.false_eq_true, if_false] at hr
        simp -implicitDefEqProofs [he, ro_len, go_sem, -List.set_cons_succ, -List.set_cons_zero]
        refine call_mv (skip_mv s hs p (-1) (by omega) 93) hp h2 hi (by simp [Ob.re, C.re]) rfl (hf1 _ _) ?_
        simp -implicitDefEqProofs [ro_len, row_len, take_row, drop_row, pure_d, re_d, hfr, hf1, go_sem, -List.set_cons_succ, -List.set_cons_zero]
        refine qcall_pure (chainImpl_calls out (by omega) nilT) (hfr _ _) (by simp [A.re, re_d]) ?_
        simp -implicitDefEqProofs [ro_len, row_len, take_row, drop_row, pure_d, re_d, thaw_d, fits_map, hfr, hf1, go_sem, -List.set_cons_succ, -List.set_cons_zero]
        exact skip_rq hr (fits_chain _ _ hof fits_nil) hpl
    · subst hRe
      cases hr
      rw [nxt_bad]
      simp -implicitDefEqProofs [ro_len, go_sem, -List.set_cons_succ, -List.set_cons_zero]
      refine call_mv (skip_mv s hs p e (by omega) 93) hp h2 hi (by simp [Ob.re, C.re]) rfl (hf1 _ _) ?_
      simp -implicitDefEqProofs [ro_len, row_len, take_row, drop_row, pure_d, re_d, hfr, hf1, go_sem, -List.set_cons_succ, -List.set_cons_zero]
      refine qcall_pure (chainImpl_calls out (by omega) nilT) (hfr _ _) (by simp [A.re, re_d]) ?_
      simp -implicitDefEqProofs [ro_len, row_len, take_row, drop_row, pure_d, re_d, thaw_d, fits_map, hfr, hf1, go_sem, -List.set_cons_succ, -List.set_cons_zero]
      rw [nxt_bad, if_neg (by decide), if_neg (by decide), if_neg (by omega)]
      exact rq_bad (fits_chain _ _ hof fits_nil) hpl
end
end Go.Proofs.YtgfmlifkhpjplaaGreatDoor

/-
  The program's reader: terms without operators.
  Conditions: none.
-/
open Go Go.AM Go.Proofs
namespace Go.Proofs.YtgfmlifkhpjplaaGreatDoor
open Go.ChangeShapes Go.WideShapes Go.ChangeAt Go.RowKit
set_option linter.unusedVariables false
set_option linter.unusedSimpArgs false
set_option maxRecDepth 100000
namespace Full
-- 85 (*loop.example/prologserver/impl.reader).primary params 2 ntmps 134
-- loop head live: [0,1,4,7,8]
def ac85 : Cd := .seq (.region [⟨(some 4),.alloc [(.d (.int .i64 0)),(.d (.int .i64 0)),(.d (.str [])),(.full [])],none⟩] [])
 (.seq (.seq (.region [⟨(some 9),.mv (.t 0),none⟩,
 ⟨(some 10),.nilCheck (.t 9),none⟩,
 ⟨(some 11),.fieldAddr 2 (.t 10),none⟩,
 ⟨(some 12),.load none (.t 11),none⟩,
 ⟨(some 13),.bin .geq (.t 12) (.k (.c (.d (.int .i64 0)))),none⟩] [9,10,11,12])
 (.cond (.t 13)
 (.seq (.region [⟨(some 14),.build [(.d (.int .i64 0)),(.d (.int .i64 0)),(.d (.str [])),(.full [])] [],none⟩,
 ⟨none,.store 4 (.t 4) (.t 14),none⟩] [0,1,13,14])
 (.ret))
 (.skip)))
 (.seq (.seq (.region [⟨(some 15),.mv (.t 1),none⟩,
 ⟨(some 16),.bin .gtr (.t 15) (.k (.c (.d (.int .i64 30)))),none⟩] [13,15])
 (.cond (.t 16)
 (.seq (.region [⟨(some 17),.mv (.t 0),none⟩,
 ⟨(some 18),.mv (.t 0),none⟩,
 ⟨(some 19),.nilCheck (.t 18),none⟩,
 ⟨(some 20),.fieldAddr 1 (.t 19),none⟩,
 ⟨(some 21),.load none (.t 20),none⟩,
 ⟨(some 22),.call false 110 [(.t 17),(.t 21)],none⟩,
 ⟨none,.store 4 (.t 4) (.t 22),none⟩] [0,1,16,17,18,19,20,21,22])
 (.ret))
 (.skip)))
 (.seq (.region [⟨(some 23),.mv (.t 0),none⟩,
 ⟨(some 24),.call false 111 [(.t 23)],none⟩,
 ⟨(some 5),.mv (.t 24),none⟩] [16,23,24])
 (.seq (.block 0 (.seq (.region [⟨(some 26),.mv (.t 5),none⟩,
 ⟨(some 27),.bin .eql (.t 26) (.k (.c (.d (.int .u8 0)))),none⟩,
 ⟨(some 25),.mv (.t 27),none⟩] [26,27])
 (.cond (.t 25)
 (.seq (.region [⟨(some 28),.mv (.t 0),none⟩,
 ⟨(some 29),.mv (.t 0),none⟩,
 ⟨(some 30),.nilCheck (.t 29),none⟩,
 ⟨(some 31),.fieldAddr 1 (.t 30),none⟩,
 ⟨(some 32),.load none (.t 31),none⟩,
 ⟨(some 33),.call false 110 [(.t 28),(.t 32)],none⟩,
 ⟨none,.store 4 (.t 4) (.t 33),none⟩] [0,1,5,25,28,29,30,31,32,33])
 (.ret))
 (.seq (.region [⟨(some 35),.mv (.t 5),none⟩,
 ⟨(some 36),.bin .geq (.t 35) (.k (.c (.d (.int .u8 65)))),none⟩,
 ⟨(some 37),.mv (.t 36),none⟩,
 ⟨(some 38),.mv (.t 5),some (37,true)⟩,
 ⟨(some 39),.bin .leq (.t 38) (.k (.c (.d (.int .u8 90)))),some (37,true)⟩,
 ⟨(some 40),.pick (.t 37) (.t 39) (.k (.c (.d (.bool false)))),none⟩,
 ⟨(some 34),.mv (.t 40),none⟩] [25,35,36,37,38,39,40])
 (.cond (.t 34)
 (.seq (.region [⟨(some 41),.mv (.t 0),none⟩,
 ⟨(some 42),.nilCheck (.t 41),none⟩,
 ⟨(some 43),.fieldAddr 1 (.t 42),none⟩,
 ⟨(some 44),.load none (.t 43),none⟩,
 ⟨(some 45),.bin .add (.t 44) (.k (.c (.d (.int .i64 1)))),none⟩,
 ⟨(some 46),.nilCheck (.t 41),none⟩,
 ⟨(some 47),.fieldAddr 1 (.t 46),none⟩,
 ⟨none,.store 1 (.t 47) (.t 45),none⟩] [0,1,34,41,42,43,44,45,46,47])
 (.seq (.region [⟨(some 48),.mv (.t 5),none⟩,
 ⟨(some 49),.bin .sub (.t 48) (.k (.c (.d (.int .u8 65)))),none⟩,
 ⟨(some 50),.cvInt .i64 (.t 49),none⟩,
 ⟨(some 51),.qcall 112 [(.t 50)],none⟩,
 ⟨none,.store 4 (.t 4) (.t 51),none⟩] [5,48,49,50,51])
 (.ret)))
 (.seq (.region [⟨(some 53),.mv (.t 0),none⟩,
 ⟨(some 54),.call false 113 [(.t 53)],none⟩,
 ⟨(some 52),.mv (.t 54),none⟩] [34,53,54])
 (.cond (.t 52)
 (.seq (.region [⟨(some 55),.mv (.t 0),none⟩,
 ⟨(some 56),.call false 114 [(.t 55)],none⟩,
 ⟨none,.store 4 (.t 4) (.t 56),none⟩] [0,1,5,52,55,56])
 (.ret))
 (.seq (.region [⟨(some 58),.mv (.t 5),none⟩,
 ⟨(some 59),.bin .eql (.t 58) (.k (.c (.d (.int .u8 40)))),none⟩,
 ⟨(some 60),.mv (.t 59),none⟩,
 ⟨(some 61),.mv (.t 0),some (60,true)⟩,
 ⟨(some 62),.nilCheck (.t 61),some (60,true)⟩,
 ⟨(some 63),.fieldAddr 3 (.t 62),some (60,true)⟩,
 ⟨(some 64),.load none (.t 63),some (60,true)⟩,
 ⟨(some 65),.pick (.t 60) (.t 64) (.k (.c (.d (.bool false)))),none⟩,
 ⟨(some 57),.mv (.t 65),none⟩] [52,58,59,60,61,62,63,64,65])
 (.cond (.t 57)
 (.seq (.region [⟨(some 66),.mv (.t 0),none⟩,
 ⟨(some 67),.nilCheck (.t 66),none⟩,
 ⟨(some 68),.fieldAddr 1 (.t 67),none⟩,
 ⟨(some 69),.load none (.t 68),none⟩,
 ⟨(some 70),.bin .add (.t 69) (.k (.c (.d (.int .i64 1)))),none⟩,
 ⟨(some 71),.nilCheck (.t 66),none⟩,
 ⟨(some 72),.fieldAddr 1 (.t 71),none⟩,
 ⟨none,.store 1 (.t 72) (.t 70),none⟩] [5,57,66,67,68,69,70,71,72])
 (.seq (.region [⟨(some 73),.mv (.t 0),none⟩,
 ⟨(some 74),.mv (.t 1),none⟩,
 ⟨(some 75),.call false 51 [(.t 73),(.k (.c (.d (.int .i64 3)))),(.t 74)],none⟩,
 ⟨(some 6),.alloc [(.d (.int .i64 0)),(.d (.int .i64 0)),(.d (.str [])),(.full [])],none⟩,
 ⟨none,.store 4 (.t 6) (.t 75),none⟩] [1,73,74,75])
 (.seq (.region [⟨(some 76),.mv (.t 0),none⟩,
 ⟨(some 77),.call false 115 [(.t 76),(.k (.c (.d (.int .u8 41))))],none⟩] [0,76,77])
 (.seq (.region [⟨(some 78),.load (some 4) (.t 6),none⟩,
 ⟨none,.store 4 (.t 4) (.t 78),none⟩] [6,78])
 (.ret)))))
 (.seq (.region [⟨(some 80),.mv (.t 5),none⟩,
 ⟨(some 81),.bin .eql (.t 80) (.k (.c (.d (.int .u8 91)))),none⟩,
 ⟨(some 82),.mv (.t 81),none⟩,
 ⟨(some 83),.mv (.t 0),some (82,true)⟩,
 ⟨(some 84),.nilCheck (.t 83),some (82,true)⟩,
 ⟨(some 85),.fieldAddr 0 (.t 84),some (82,true)⟩,
 ⟨(some 87),.mv (.t 0),some (82,true)⟩,
 ⟨(some 88),.nilCheck (.t 87),some (82,true)⟩,
 ⟨(some 89),.fieldAddr 1 (.t 88),some (82,true)⟩,
 ⟨(some 86),.load none (.t 85),some (82,true)⟩,
 ⟨(some 90),.load none (.t 89),some (82,true)⟩,
 ⟨(some 91),.slice 0 (.t 86) (some (.t 90)) none none,some (82,true)⟩,
 ⟨(some 92),.qcall 116 [(.t 91),(.k (.c (.d (.str [91,93]))))],some (82,true)⟩,
 ⟨(some 93),.un .not (.t 92),some (82,true)⟩,
 ⟨(some 94),.pick (.t 82) (.t 93) (.k (.c (.d (.bool false)))),none⟩,
 ⟨(some 79),.mv (.t 94),none⟩] [5,57,80,81,82,83,84,85,86,87,88,89,90,91,92,93,94])
 (.cond (.t 79)
 (.seq (.region [⟨(some 95),.mv (.t 0),none⟩,
 ⟨(some 96),.nilCheck (.t 95),none⟩,
 ⟨(some 97),.fieldAddr 1 (.t 96),none⟩,
 ⟨(some 98),.load none (.t 97),none⟩,
 ⟨(some 99),.bin .add (.t 98) (.k (.c (.d (.int .i64 1)))),none⟩,
 ⟨(some 100),.nilCheck (.t 95),none⟩,
 ⟨(some 101),.fieldAddr 1 (.t 100),none⟩,
 ⟨none,.store 1 (.t 101) (.t 99),none⟩] [79,95,96,97,98,99,100,101])
 (.seq (.region [⟨(some 102),.mv (.t 0),none⟩,
 ⟨(some 103),.mv (.t 1),none⟩,
 ⟨(some 104),.call false 117 [(.t 102),(.t 103)],none⟩,
 ⟨none,.store 4 (.t 4) (.t 104),none⟩] [0,1,102,103,104])
 (.ret)))
 (.skip))))))))))))
 (.seq (.region [⟨(some 105),.mv (.t 0),none⟩,
 ⟨(some 106),.call false 119 [(.t 105)],none⟩,
 ⟨(some 107),.call false 118 [(.t 106)],none⟩,
 ⟨(some 7),.alloc [(.d (.int .i64 0)),(.d (.int .i64 0)),(.d (.str [])),(.full [])],none⟩,
 ⟨none,.store 4 (.t 7) (.t 107),none⟩] [79,105,106,107])
 (.seq (.seq (.region [⟨(some 108),.mv (.t 0),none⟩,
 ⟨(some 109),.call false 111 [(.t 108)],none⟩,
 ⟨(some 110),.bin .eql (.t 109) (.k (.c (.d (.int .u8 40)))),none⟩] [108,109])
 (.cond (.t 110)
 (.seq (.seq (.region [⟨(some 8),.mv (.k (.c (.d (.bool true)))),none⟩] [110])
 (.block 1 (.loop (.seq (.seq (.region [⟨(some 111),.mv (.t 8),none⟩] [8])
 (.cond (.t 111)
 (.skip)
 (.exit 1)))
 (.seq (.block 2 (.seq (.region [⟨(some 115),.mv (.t 0),none⟩,
 ⟨(some 116),.nilCheck (.t 115),none⟩,
 ⟨(some 117),.fieldAddr 1 (.t 116),none⟩,
 ⟨(some 118),.load none (.t 117),none⟩,
 ⟨(some 119),.bin .add (.t 118) (.k (.c (.d (.int .i64 1)))),none⟩,
 ⟨(some 120),.nilCheck (.t 115),none⟩,
 ⟨(some 121),.fieldAddr 1 (.t 120),none⟩,
 ⟨none,.store 1 (.t 121) (.t 119),none⟩] [111,115,116,117,118,119,120,121])
 (.region [⟨(some 122),.fieldAddr 3 (.t 7),none⟩,
 ⟨(some 124),.mv (.t 0),none⟩,
 ⟨(some 125),.mv (.t 1),none⟩,
 ⟨(some 126),.bin .add (.t 125) (.k (.c (.d (.int .i64 1)))),none⟩,
 ⟨(some 123),.loadL false none (.t 122),none⟩,
 ⟨(some 127),.callL false false 120 [(.t 124),(.t 126)],none⟩,
 ⟨(some 128),.buildSlice 4 1 [(.int .i64 0),(.int .i64 0),(.str []),(.sl [])] [(0,(.t 127))],none⟩,
 ⟨(some 129),.append false 4 (.t 123) (.t 128),none⟩,
 ⟨(some 130),.fieldAddr 3 (.t 7),none⟩,
 ⟨none,.store 1 (.t 130) (.t 129),none⟩] [122,123,124,125,126,127,128,129,130])))
 (.region [⟨(some 112),.mv (.t 0),none⟩,
 ⟨(some 113),.call false 111 [(.t 112)],none⟩,
 ⟨(some 114),.bin .eql (.t 113) (.k (.c (.d (.int .u8 44)))),none⟩,
 ⟨(some 8),.mv (.t 114),none⟩] [112,113,114]))))))
 (.region [⟨(some 131),.mv (.t 0),none⟩,
 ⟨(some 132),.call false 115 [(.t 131),(.k (.c (.d (.int .u8 41))))],none⟩] [0,131,132]))
 (.skip)))
 (.seq (.region [⟨(some 133),.load (some 4) (.t 7),none⟩,
 ⟨none,.store 4 (.t 4) (.t 133),none⟩] [0,1,7,110,133])
 (.ret))))))))
theorem ac85_ok : cFunc Tryz.prog [1000112,1000116,5000122,6000120] [(0,[],[]),(1,[9,10,11,12],[]),(2,[0,1,13,14],[]),(3,[13,15],[]),(4,[0,1,16,17,18,19,20,21,22],[]),(5,[16,23,24],[]),(6,[26,27],[]),(7,[0,1,5,25,28,29,30,31,32,33],[]),(8,[25,35,36,37,38,39,40],[]),(9,[0,1,34,41,42,43,44,45,46,47],[]),(10,[5,48,49,50,51],[]),(11,[34,53,54],[]),(12,[0,1,5,52,55,56],[]),(13,[52,58,59,60,61,62,63,64,65],[]),(14,[5,57,66,67,68,69,70,71,72],[]),(15,[1,73,74,75],[]),(16,[0,76,77],[]),(17,[6,78],[]),(18,[5,57,80,81,82,83,84,85,86,87,88,89,90,91,92,93,94],[0,1,2,3,4,5,7,8,9,6,10,11,12,13,14,15]),(19,[79,95,96,97,98,99,100,101],[]),(20,[0,1,102,103,104],[]),(21,[79,105,106,107],[]),(22,[108,109],[]),(23,[110],[]),(24,[8],[]),(26,[111,115,116,117,118,119,120,121],[]),(27,[122,123,124,125,126,127,128,129,130],[0,2,3,4,1,5,6,7,8,9]),(25,[112,113,114],[]),(28,[0,131,132],[]),(29,[0,1,7,110,133],[])] Tryz.f85 = some (ac85,[.cell 4 (some 4)],134) := by kernel_rfl
end Full
-- 112 loop.example/prologserver/impl.variable params 1 ntmps 5
def ac112 : Cd := .seq (.region [⟨(some 2),.alloc [(.d (.int .i64 0)),(.d (.int .i64 0)),(.d (.str [])),(.full [])],none⟩] [])
 (.seq (.region [⟨(some 3),.mv (.t 0),none⟩,
 ⟨(some 4),.build [(.d (.int .i64 0)),(.d (.int .i64 0)),(.d (.str [])),(.full [])] [(0,1,(.k (.c (.d (.int .i64 1))))),(1,1,(.t 3))],none⟩,
 ⟨none,.store 4 (.t 2) (.t 4),none⟩] [0,3,4])
 (.ret))
theorem ac112_ok : cFunc Tryz.prog [] [(0,[],[]),(1,[0,3,4],[])] Tryz.f112 = some (ac112,[.cell 2 (some 4)],5) := by kernel_rfl
theorem variableR_calls (n : Int) (H : Heap) : ACalls Tryz.prog 112 [.c (.d (.int .i64 n))] H (fun r H' => H' = H ∧ r = .agg ((Tm.mk 1 n [] []).row.map .d)) := by
  refine acalls Tryz.func112 (by kernel_rfl) ac112_ok fun hf => ?_
  simp -implicitDefEqProofs [ac112, row_mk, hf, go_sem, -List.set_cons_succ, -List.set_cons_zero]
/-- an atom: nothing stands behind its arguments -/
theorem atom_full (name : List UInt8) (H : Heap) : ACalls Tryz.prog 118 [.c (.d (.str name))] H (fun r H' => H' = H ++ [.cells [.d (.int .i64 3), .d (.int .i64 0), .d (.str name), .full []]] ∧ r = .agg [.d (.int .i64 3), .d (.int .i64 0), .d (.str name), .full []]) := by
  refine acallsK Tryz.func118 (by kernel_rfl) ac118_ok fun hf => ?_
  simp -implicitDefEqProofs [ac118, hf, go_sem, -List.set_cons_succ, -List.set_cons_zero]
  refine finK_ret _ ⟨trivial, trivial⟩ rfl ?_
  simp [Ob.re, C.re, A.re]
/-- a call that leaves one object more, which looks at no other -/
theorem call_newR {P : Program} {f : FuncId} {xs : List A} {sl : List A} {ext loc H₂ : Heap} {o : Ob} {r : A} {K : A → St → Prop} (hc : ∀ H, ACalls P f xs H (fun r' H' => H' = H ++ [o] ∧ r' = r)) (ho : Ob.re ext.length o = o) (hr : A.re ext.length r = r)
    (hf : Obs.fits ext.length 0 ext) (hH : H₂ = ext ++ loc.map (Ob.re ext.length)) (hk : K r ⟨sl, ext, loc ++ [o]⟩) : ACalls P f xs H₂ (CallK K ⟨sl, ext, loc⟩) := by
  subst hH
  exact (hc _).mono fun r' H' ⟨h1, h2⟩ => ⟨ext, loc ++ [o], r, by rw [h1, List.append_assoc, List.map_append]; simp [ho], rfl, by simp, hf, by rw [h2]; exact hr.symm, hk⟩
/-- a byte that begins nothing -/
theorem name_zero {s : List UInt8} {a : Nat} (ha : a ≤ s.length) (h : s[a]? = some 0) : nameR s a = none := by
  obtain ⟨h1, h2⟩ := List.getElem?_eq_some_iff.1 h
  have hd : s.drop a = 0 :: s.drop (a + 1) := by rw [List.drop_eq_getElem_cons h1, h2]
  refine nameR_none ha (fun c r' e => by rw [hd] at e; cases e; decide) fun x hx hp => ?_
  rw [hd] at hp
  have : ∀ x ∈ signs, (match x with | [] => false | c :: _ => c != 0) = true := by decide
  have := this x hx
  obtain ⟨y, hy⟩ := hp
  cases x with
  | nil => simp at this
  | cons c w => simp at this hy; exact this hy.1
section
variable {s : List UInt8} (hs : s.length ≤ 1000000) {f : Nat}
include hs
set_option maxHeartbeats 6400000 in
theorem prime_of (h : ∀ g, g ≤ f → Prd s g) (d a : Nat) (r : Rs) (ha : a ≤ s.length) (hd : d ≤ 2000000) (hr : rp s (f + 1) (.prime d a) = some r) : Rdr 85 [.c (.d (.int .i64 d))] s a r := fun H i hp h2 hi => by
  refine acalls Tryz.func85 (by kernel_rfl) Full.ac85_ok fun hf => ?_
  rw [ro_len] at hf
  have hf1 := fun a' b' => ro_fits (s' := s) (a' := a') (b' := b') hf
  have hfr : ∀ a' b', Obs.fits (ro H i s a' b').length 0 (ro H i s a' b') := fun a' b' => by rw [ro_len]; exact hf1 a' b'
  have hr : pstep s (rp s f) (.prime d a) = some r := hr
  have zf : (Tm.mk 0 0 [] []).fits := .mk (small_i64 (by omega) (by omega)) (small_i64 (by omega) (by omega)) (by simp) (by simp) (by simp)
  simp only [pstep] at hr
  by_cases hd30 : 30 < d
  · rw [if_pos hd30] at hr
    cases hr
    have hd30' : (30 : Int) < d := by omega
    simp -implicitDefEqProofs [Full.ac85, ro_get hi, ro_len, hd30', Ref.re, go_sem, -List.set_cons_succ, -List.set_cons_zero]
    refine call_mv (stop_mv s a (-1) a) hp h2 hi (by simp [Ob.re, C.re]) (zeroA_re _) (hf1 _ _) ?_
    simp -implicitDefEqProofs [zeroA, ro_len, row_len, take_row, drop_row, pure_d, re_d, thaw_d, fits_map, hfr, hf1, go_sem, -List.set_cons_succ, -List.set_cons_zero]
    exact rq_bad zf ha
  · rw [if_neg hd30] at hr
    have hd30' : ¬ (30 : Int) < d := by omega
    simp -implicitDefEqProofs [Full.ac85, ro_get hi, ro_len, hd30', Ref.re, go_sem, -List.set_cons_succ, -List.set_cons_zero]
    refine call_mv (next_mv s hs a (-1) (by omega)) hp h2 hi (by simp [Ob.re, C.re]) rfl (hf1 _ _) ?_
    have bad0 : nxt s a (-1) = 0 → some (Rs.bad a) = some r → (?stop : Prop) := ?stopP
    cases hb : s[a]? with
    | none =>
      rw [hb] at hr
      have hn : nxt s a (-1) = 0 := by unfold nxt; rw [if_neg (by decide), hb]
      exact bad0 hn hr
    | some b =>
      have hlt := (List.getElem?_eq_some_iff.1 hb).1
      have hn : nxt s a (-1) = b := by unfold nxt; rw [if_neg (by decide), hb]
      rw [hb] at hr
      simp only at hr
      by_cases hb0 : b = 0
      · subst hb0
        rw [name_zero ha hb] at hr
        exact bad0 hn (by simpa [bigB, digB] using hr)
      · have hb0' : ¬ ((b.toNat : Int) = 0) := fun e => hb0 (UInt8.toNat_inj.1 (by simpa using e))
        rw [hn]
        simp -implicitDefEqProofs [hb0', ro_len, go_sem, -List.set_cons_succ, -List.set_cons_zero]
        have hbz : ¬ b.toNat = 0 := fun e => hb0 (UInt8.toNat_inj.1 (by simpa using e))
        have hb255 := b.toNat_lt
        have i4 : inR .i64 ((a : Int) + 1) := small_i64 (by omega) (by omega)
        refine ⟨fun h => absurd h hbz, fun _ => ⟨fun q1 q2 => ?_, fun q1 => ?_⟩⟩
        · have hbig : bigB b = true := by simp [bigB]; omega
          rw [if_pos hbig] at hr
          cases hr
          have i5 : inR .u8 ((b.toNat : Int) - 65) := by simp [inR, IntKind.min, IntKind.max, IntKind.signed, IntKind.bits]; omega
          have i6 : IntKind.wrap .i64 ((b.toNat : Int) - 65) = (b.toNat : Int) - 65 := wrap_inR (small_i64 (by omega) (by omega))
          have e1 : (b.toNat : Int) - 65 = ((b.toNat - 65 : Nat) : Int) := by omega
          simp -implicitDefEqProofs [ro_get hi, ro_len, ro_up, i4, i5, i6, Ref.re, hf1, hfr, go_sem, -List.set_cons_succ, -List.set_cons_zero]
          refine qcall_pure (variableR_calls _) (hfr _ _) (by simp [A.re, re_d]) ?_
          rw [e1]
          simp -implicitDefEqProofs [ro_len, row_len, take_row, drop_row, pure_d, re_d, thaw_d, fits_map, hfr, hf1, go_sem, -List.set_cons_succ, -List.set_cons_zero]
          exact rq_ok (.mk (by decide) (small_i64 (by omega) (by omega)) (by simp) (by simp) (by simp))
        · have hbig : ¬ bigB b = true := by simp [bigB]; omega
          rw [if_neg hbig] at hr
          refine call_mv (isNumber_mv s hs a (by omega)) hp h2 hi (by simp [Ob.re, C.re]) rfl (hf1 _ _) ?_
          have hdg : digAt s a = digB b := by unfold digAt; rw [hb]
          have hsg45 : sgn s a 45 = (b == 45) := by unfold sgn; rw [hb]
          rw [hdg, hsg45]
          by_cases hnum : (digB b || b == 45 && digAt s (a + 1)) = true
          · rw [if_pos hnum] at hr
            have hnum' : digAt s a = true ∨ (sgn s a 45 = true ∧ digAt s (a + 1) = true) := by
              rw [hdg, hsg45]
              simp only [Bool.or_eq_true, Bool.and_eq_true] at hnum
              exact hnum
            rw [hnum]
            simp -implicitDefEqProofs [ro_len, go_sem, -List.set_cons_succ, -List.set_cons_zero]
            refine call_mv (number_mv s hs a ha hnum') hp h2 hi (by simp [Ob.re, C.re]) (by unfold numV2; split <;> simp [zeroA, A.re, re_d]) (hf1 _ _) ?_
            obtain ⟨l1, l2, l3, l4⟩ := number_law ha hnum'
            cases hn4 : numR s a with
            | none =>
              rw [hn4] at hr
              cases hr
              simp -implicitDefEqProofs [numV2, numB, hn4, zeroA, ro_len, row_len, take_row, drop_row, pure_d, re_d, thaw_d, fits_map, hfr, hf1, go_sem, -List.set_cons_succ, -List.set_cons_zero]
              exact rq_bad zf l2
            | some x =>
              obtain ⟨n, j⟩ := x
              rw [hn4] at hr l4
              cases hr
              obtain ⟨_, _, w3, w4, w5⟩ := l4
              simp -implicitDefEqProofs [numV2, numB, hn4, w3, ro_len, row_len, take_row, drop_row, pure_d, re_d, thaw_d, fits_map, hfr, hf1, go_sem, -List.set_cons_succ, -List.set_cons_zero]
              exact rq_ok (.mk (by decide) (small_i64 (by omega) (by omega)) (by simp) (by simp) (by simp))
          · rw [if_neg hnum] at hr
            have hnum2 : (digB b || b == 45 && digAt s (a + 1)) = false := by simpa using hnum
            rw [hnum2]
            have nameK : (match nameR s a with
              | none => some (Rs.bad a)
              | some (n, j) => if sgn s j 40 then thn (rp s f (.args d j)) fun ts k => if sgn s k 41 then some (Rs.ok [.mk 3 0 n ts] (k + 1)) else some (Rs.bad k)
                else some (Rs.ok [.mk 3 0 n []] j)) = some r → (?nm : Prop) := ?nmP
            by_cases h40 : b = 40
            · subst h40
              rw [if_pos rfl] at hr
              obtain ⟨w, hw⟩ : ∃ w, rp s f (.term 3 d (a + 1)) = some w := by
                rcases thn_some hr with ⟨e, h1, _⟩ | ⟨ts, j, h1, _⟩
                · exact ⟨_, h1⟩
                · exact ⟨_, h1⟩
              have c1 := (h f (Nat.le_refl _)).term 3 d (a + 1) w (by omega) (by omega) hd hw
              have p1 := rp_post hs (j := .term 3 d (a + 1)) ⟨by omega, by omega⟩ hw
              rw [hw] at hr
              simp -implicitDefEqProofs [ro_get hi, ro_len, ro_up, i4, Ref.re, hf1, go_sem, -List.set_cons_succ, -List.set_cons_zero]
              refine call_rd c1 hp h2 hi (by simp [Ob.re, C.re]) (hf1 _ _) ?_
              rintro v a' b' ⟨t, ht, rfl, hm⟩
              have ha' : a' ≤ s.length := by
                cases w with
                | bad e => exact hm.1
                | ok ts k => rw [hm.2.1]; exact p1.2.1
              simp -implicitDefEqProofs [ro_len, row_len, take_row, drop_row, pure_d, re_d, toDs_map, hfr, hf1, go_sem, -List.set_cons_succ, -List.set_cons_zero]
              refine call_mv (skip_mv s hs a' b' (by omega) 41) hp h2 hi (by simp [Ob.re, C.re]) rfl (hf1 _ _) ?_
              simp -implicitDefEqProofs [ro_len, row_len, take_row, drop_row, pure_d, re_d, thaw_d, fits_map, hfr, hf1, go_sem, -List.set_cons_succ, -List.set_cons_zero]
              cases w with
              | bad e =>
                obtain ⟨g1, g2⟩ := hm
                subst g2
                cases hr
                rw [nxt_bad, if_neg (by decide), if_neg (by decide), if_neg (by omega)]
                exact rq_bad ht ha'
              | ok ts k =>
                obtain ⟨g1, g2, g3⟩ := hm
                subst g2
                subst g3
                rw [thn_ok, ← g1] at hr
                exact skip_rq hr ht ha'
            · rw [if_neg h40] at hr
              have h40' : ¬ b.toNat = 40 := fun e => h40 (UInt8.toNat_inj.1 (by simpa using e))
              by_cases h91 : b = 91
              · subst h91
                have hrest : s.drop a = 91 :: s.drop (a + 1) := by
                  obtain ⟨g1, g2⟩ := List.getElem?_eq_some_iff.1 hb
                  rw [List.drop_eq_getElem_cons g1, g2]
                have hpre : ((s.drop a).take ([91, 93] : List UInt8).length == [91, 93]) = sgn s (a + 1) 93 := by
                  rw [hrest]
                  unfold sgn
                  cases hr1 : s.drop (a + 1) with
                  | nil =>
                    have : s[a + 1]? = none := by rw [List.getElem?_eq_none_iff]; have := List.drop_eq_nil_iff.1 hr1; omega
                    rw [this]; rfl
                  | cons c w =>
                    have : s[a + 1]? = some c := at_dr hr1
                    rw [this]
                    simp [Bool.eq_iff_iff]
                simp -implicitDefEqProofs [ro_get hi, ro_len, Ref.re, go_sem, -List.set_cons_succ, -List.set_cons_zero]
                refine ⟨ha, qcall_pure (hasPrefix_calls (s.drop a) [91, 93] (by simp; omega) (by simp)) (hfr _ _) rfl ?_⟩
                rw [hpre]
                cases hsg : sgn s (a + 1) 93 with
                | true =>
                  rw [if_neg (fun h => by rw [hsg] at h; cases h.2)] at hr
                  simp -implicitDefEqProofs [ro_get hi, ro_len, Ref.re, go_sem, -List.set_cons_succ, -List.set_cons_zero]
                  exact nameK hr
                | false =>
                  rw [if_pos ⟨rfl, hsg⟩] at hr
                  have c1 := list_of hs h d (a + 1) r (by omega) (by omega) hr
                  simp -implicitDefEqProofs [ro_get hi, ro_len, ro_up, i4, Ref.re, hf1, go_sem, -List.set_cons_succ, -List.set_cons_zero]
                  refine call_rd c1 hp h2 hi (by simp [Ob.re, C.re]) (hf1 _ _) ?_
                  rintro v a' b' ⟨t, ht, rfl, hm⟩
                  simp -implicitDefEqProofs [ro_len, row_len, take_row, drop_row, pure_d, re_d, thaw_d, fits_map, hfr, hf1, go_sem, -List.set_cons_succ, -List.set_cons_zero]
                  exact ⟨a', b', ⟨t, ht, rfl, hm⟩, rfl⟩
              · have h91' : ¬ b.toNat = 91 := fun e => h91 (UInt8.toNat_inj.1 (by simpa using e))
                rw [if_neg (fun h => h91 h.1)] at hr
                simp -implicitDefEqProofs [ro_get hi, ro_len, h40', h91', Ref.re, go_sem, -List.set_cons_succ, -List.set_cons_zero]
                refine ⟨fun h => absurd h (by omega), fun _ => ⟨fun _ => ha, fun h => absurd h (by omega), fun _ => ?_⟩⟩
                exact nameK hr
            case nmP =>
              intro hr
              refine call_mv (name_mv s hs a ha) hp h2 hi (by simp [Ob.re, C.re]) (by unfold nameV; split <;> simp [A.re, C.re]) (hf1 _ _) ?_
              cases hn : nameR s a with
              | none =>
                rw [hn] at hr
                cases hr
                simp -implicitDefEqProofs [nameV, nameJ, nameF, hn, ro_len, go_sem, -List.set_cons_succ, -List.set_cons_zero]
                refine call_newR (atom_full []) (by simp [Ob.re, C.re]) (by simp [A.re, C.re]) (hfr _ _) (by simp [Ob.re, C.re]) ?_
                simp -implicitDefEqProofs [ro_len, hf1, go_sem, -List.set_cons_succ, -List.set_cons_zero]
                refine call_mv (next_mv s hs a a (by omega)) hp h2 hi (by simp [Ob.re, C.re]) rfl (hf1 _ _) ?_
                rw [nxt_bad]
                simp -implicitDefEqProofs [ro_len, hfr, hf1, go_sem, -List.set_cons_succ, -List.set_cons_zero]
                exact rq_bad (t := .mk 3 0 [] []) (fits_st (by simp) (by simp) (by simp)) ha
              | some x =>
                obtain ⟨n, j⟩ := x
                rw [hn] at hr
                simp only at hr
                obtain ⟨n1, n2, n3⟩ := nameR_ok ha hn
                have hnf : (Tm.mk 3 0 n []).fits := fits_st n3 (by simp) (by simp)
                simp -implicitDefEqProofs [nameV, nameJ, nameF, hn, ro_len, go_sem, -List.set_cons_succ, -List.set_cons_zero]
                refine call_newR (atom_full n) (by simp [Ob.re, C.re]) (by simp [A.re, C.re]) (hfr _ _) (by simp [Ob.re, C.re]) ?_
                simp -implicitDefEqProofs [ro_len, hf1, go_sem, -List.set_cons_succ, -List.set_cons_zero]
                refine call_mv (next_mv s hs j (-1) (by omega)) hp h2 hi (by simp [Ob.re, C.re]) rfl (hf1 _ _) ?_
                have e40 : (((nxt s j (-1)).toNat : Int) == 40) = sgn s j 40 := nxt_eq s j 40 (by decide)
                cases hsg : sgn s j 40 with
                | false =>
                  rw [hsg] at hr e40
                  have he : ¬ ((nxt s j (-1)).toNat : Int) = 40 := fun h => by rw [beq_iff_eq.2 h] at e40; cases e40
                  cases hr
                  simp -implicitDefEqProofs [he, ro_len, hfr, hf1, go_sem, -List.set_cons_succ, -List.set_cons_zero]
                  exact rq_ok (t := .mk 3 0 n []) hnf
                | true =>
                  rw [hsg] at hr e40
                  have he : ((nxt s j (-1)).toNat : Int) = 40 := beq_iff_eq.1 e40
                  simp only [if_true] at hr
                  have hjl := sgn_lt hsg
                  obtain ⟨R, hR⟩ : ∃ R, rp s f (.args d j) = some R := by
                    rcases thn_some hr with ⟨e, h1, _⟩ | ⟨ts, j, h1, _⟩
                    · exact ⟨_, h1⟩
                    · exact ⟨_, h1⟩
                  have pR := rp_post hs (j := .args d j) hjl hR
                  rw [hR] at hr
                  simp -implicitDefEqProofs [he, ro_len, hfr, hf1, go_sem, -List.set_cons_succ, -List.set_cons_zero]
                  refine loop_enter (St.le_tokenC 2 3 4 rfl rfl) ?_
                  refine loop_set (σ := Nat × Int × List Tm × Nat × Rs × Bool) (fun x => [(8, .c (.d (.bool x.2.2.2.2.2)))]) (fun x => ro H i s x.1 x.2.1)
                    (fun x => [.cells [.d (.int .i64 0), .d (.int .i64 0), .d (.str []), .full []], .cells [.d (.int .i64 3), .d (.int .i64 0), .d (.str n), .full []], .cells [.d (.int .i64 3), .d (.int .i64 0), .d (.str n), .own (.l 3) x.2.2.1.length (x.2.2.1.map Tm.row)], .grow x.2.2.1.length 4])
                    (fun x => x.1 ≤ s.length ∧ x.2.2.1.length ≤ 1000001 ∧ (∀ t ∈ x.2.2.1, t.fits) ∧
                      ((x.2.2.2.2.2 = true ∧ x.2.1 = -1 ∧ x.2.2.1.length ≤ x.1 ∧ x.1 < s.length ∧ x.2.2.2.1 ≤ f ∧ rp s x.2.2.2.1 (.args d x.1) = some x.2.2.2.2.1 ∧ x.2.2.2.2.1.app2 x.2.2.1 = R) ∨
                       (x.2.2.2.2.2 = false ∧ ((x.2.1 = -1 ∧ R = .ok x.2.2.1 x.1) ∨ ∃ e : Nat, x.2.1 = e ∧ R = .bad e))))
                    (fun x => if x.2.2.2.2.2 then x.2.2.2.1 + 1 else 0) (j, -1, [], f, R, true) (by simp [setAll]) ⟨n2, by simp, by simp, .inl ⟨rfl, rfl, by simp, hjl, Nat.le_refl _, hR, by cases R <;> rfl⟩⟩ ?_
                  rintro ⟨p, b2, out, g, q, more⟩ ⟨hpl, hol, hof, hst⟩
                  simp only at hpl hol hof hst
                  simp -implicitDefEqProofs [setAll, ro_len, go_sem, -List.set_cons_succ, -List.set_cons_zero]
                  refine ⟨fun hmore => ?_, fun hmore => ?_⟩
                  · rcases hst with ⟨_, rfl, hop, hpl2, hg, hq, happ⟩ | ⟨hmf, _⟩
                    · subst hmore
                      cases g with
                      | zero => cases hq
                      | succ g =>
                        have hq : pstep s (rp s g) (.args d p) = some q := hq
                        simp only [pstep] at hq
                        obtain ⟨w, hw⟩ : ∃ w, rp s g (.term 3 (d + 1) (p + 1)) = some w := by
                          rcases thn_some hq with ⟨e, h1, _⟩ | ⟨ts, j, h1, _⟩
                          · exact ⟨_, h1⟩
                          · exact ⟨_, h1⟩
                        have c1 := part_of (h g (by omega)) (d + 1) (p + 1) w (by omega) (by omega) hw
                        have p1 := rp_post hs (j := .term 3 (d + 1) (p + 1)) ⟨by omega, by omega⟩ hw
                        rw [hw] at hq
                        have e1 : ((d + 1 : Nat) : Int) = (d : Int) + 1 := by omega
                        rw [e1] at c1
                        have i1 : inR .i64 ((d : Int) + 1) := small_i64 (by omega) (by omega)
                        have i5 : inR .i64 ((p : Int) + 1) := small_i64 (by omega) (by omega)
                        simp -implicitDefEqProofs [ro_len, ro_get hi, ro_up, i1, i5, Ref.re, hf1, go_sem, -List.set_cons_succ, -List.set_cons_zero]
                        refine call_rd c1 hp h2 hi (by simp [Ob.re, C.re, Ref.re]) (hf1 _ _) ?_
                        rintro v a' b' ⟨t, ht, rfl, hm⟩
                        refine ⟨LocSame.refl _, ?_⟩
                        have ha' : a' ≤ s.length ∧ (∀ e : Nat, w = .bad e → b' = e) := by
                          cases w with
                          | bad e => exact ⟨hm.1, fun e' he => by cases he; exact hm.2⟩
                          | ok ts k => exact ⟨by rw [hm.2.1]; exact p1.2.1, fun e' he => by cases he⟩
                        simp -implicitDefEqProofs [ro_len, row_len, take_row, drop_row, pure_d, re_d, toDs_map, hfr, hf1, go_sem, -List.set_cons_succ, -List.set_cons_zero]
                        refine ⟨allLen_map row_len, by unfold maxApp; omega, ?_⟩
                        refine call_mv (next_mv s hs a' b' (by omega)) hp h2 hi (by simp [Ob.re, C.re]) rfl (hf1 _ _) ?_
                        simp -implicitDefEqProofs [ro_len, go_sem, -List.set_cons_succ, -List.set_cons_zero]
                        have hfo : ∀ x ∈ out ++ [t], x.fits := fun x hx => by
                          rcases List.mem_append.1 hx with hx | hx
                          · exact hof x hx
                          · rw [List.mem_singleton.1 hx]; exact ht
                        cases w with
                        | bad e =>
                          obtain ⟨g1, g2⟩ := hm
                          subst g2
                          rw [nxt_bad]
                          cases hq
                          have hRe : R = .bad e := by rw [← happ]; rfl
                          exact loop_back (a', (e : Int), out ++ [t], 0, .bad e, false) (by simp [setAll]) ⟨g1, by simp; omega, hfo, .inr ⟨rfl, .inr ⟨e, rfl, hRe⟩⟩⟩ (by show 0 < g + 1 + 1; omega)
                        | ok ts k =>
                          obtain ⟨g1, g2, g3⟩ := hm
                          subst g2
                          subst g3
                          obtain ⟨q1, q2, q3⟩ := p1
                          have e44 : (((nxt s a' (-1)).toNat : Int) == 44) = sgn s a' 44 := nxt_eq s a' 44 (by decide)
                          rw [thn_ok, ← g1] at hq
                          cases hsg : sgn s a' 44 with
                          | true =>
                            rw [hsg] at hq e44
                            simp only [if_true] at hq
                            have hlt := sgn_lt hsg
                            obtain ⟨v, hv, hva⟩ : ∃ v, rp s g (.args d a') = some v ∧ v.app2 (out ++ [t]) = R := by
                              rcases thn_some hq with ⟨e, h1, h3⟩ | ⟨us, k2, h1, h3⟩
                              · exact ⟨_, h1, by rw [← happ, h3]; rfl⟩
                              · cases h3
                                exact ⟨_, h1, by rw [← happ]; simp [Rs.app2]⟩
                            rw [e44]
                            exact loop_back (a', -1, out ++ [t], g, v, true) (by simp [setAll]) ⟨q2, by simp; omega, hfo, .inl ⟨rfl, rfl, by simp; omega, hlt, by show g ≤ f; omega, hv, hva⟩⟩ (by show g + 1 < g + 1 + 1; omega)
                          | false =>
                            rw [hsg] at hq e44
                            simp only [Bool.false_eq_true, if_false, Option.some.injEq] at hq
                            rw [e44]
                            exact loop_back (a', -1, out ++ [t], 0, q, false) (by simp [setAll]) ⟨q2, by simp; omega, hfo, .inr ⟨rfl, .inl ⟨rfl, by rw [← happ, ← hq]; rfl⟩⟩⟩ (by show 0 < g + 1 + 1; omega)
                    · rw [hmore] at hmf; cases hmf
                  · rcases hst with ⟨hmt, _⟩ | ⟨_, hst⟩
                    · rw [hmore] at hmt; cases hmt
                    · subst hmore
                      refine call_mv (skip_mv s hs p b2 (by omega) 41) hp h2 hi (by simp [Ob.re, C.re]) rfl (hf1 _ _) ?_
                      simp -implicitDefEqProofs [ro_len, hfr, hf1, go_sem, -List.set_cons_succ, -List.set_cons_zero]
                      have hrw : (Tm.mk 3 0 n out).row.map C.d = [C.d (.int .i64 3), C.d (.int .i64 0), C.d (.str n), C.d (.sl (out.map Tm.row))] := by simp [row_mk]
                      rw [← hrw]
                      have hof2 : (Tm.mk 3 0 n out).fits := fits_st n3 (by omega) hof
                      rcases hst with ⟨rfl, hRo⟩ | ⟨e, rfl, hRe⟩
                      · subst hRo
                        rw [thn_ok] at hr
                        exact skip_rq (t := .mk 3 0 n out) hr hof2 hpl
                      · subst hRe
                        cases hr
                        rw [nxt_bad, if_neg (by decide), if_neg (by decide), if_neg (by omega)]
                        exact rq_bad (t := .mk 3 0 n out) hof2 hpl
    case stopP =>
      intro hn hr
      cases hr
      rw [hn]
      simp -implicitDefEqProofs [ro_get hi, ro_len, Ref.re, go_sem, -List.set_cons_succ, -List.set_cons_zero]
      refine call_mv (stop_mv s a (-1) a) hp h2 hi (by simp [Ob.re, C.re]) (zeroA_re _) (hf1 _ _) ?_
      simp -implicitDefEqProofs [zeroA, ro_len, row_len, take_row, drop_row, pure_d, re_d, thaw_d, fits_map, hfr, hf1, go_sem, -List.set_cons_succ, -List.set_cons_zero]
      exact rq_bad zf ha
end
/-- the program's reader does what it is said to do -/
theorem prd (s : List UInt8) (hs : s.length ≤ 1000000) : ∀ f, Prd s f := by
  intro f
  induction f using Nat.strongRecOn with
  | ind f ih =>
    cases f with
    | zero => exact ⟨fun _ _ _ _ _ _ _ h => (by cases h), fun _ _ _ _ _ h => (by cases h)⟩
    | succ f =>
      have h : ∀ g, g ≤ f → Prd s g := fun g hg => ih g (by omega)
      exact ⟨fun l d a r ha hl hd hr => term_of hs h l d a r ha hl hd hr, fun d a r ha hd hr => prime_of hs h d a r ha hd hr⟩
end Go.Proofs.YtgfmlifkhpjplaaGreatDoor

/-
  Names and operators as the reference reads them.
  Conditions: none.
-/
open Go Go.AM Go.Proofs
namespace Go.Proofs.YtgfmlifkhpjplaaGreatDoor
open Go.ChangeShapes Go.WideShapes Go.ChangeAt Go.RowKit
set_option linter.unusedVariables false
set_option linter.unusedSimpArgs false
set_option maxRecDepth 100000
-- 82 loop.example/prologserver/spec.l1Name params 2 ntmps 77
-- loop head live: [0,1,6]
-- loop head live: [0,1,7,8,9]
end Go.Proofs.YtgfmlifkhpjplaaGreatDoor

/-
  The reference's parser does what it is said to do: terms, lists, operators.
  Conditions: none.
-/
open Go Go.AM Go.Proofs
namespace Go.Proofs.YtgfmlifkhpjplaaGreatDoor
open Go.ChangeShapes Go.WideShapes Go.ChangeAt Go.RowKit
set_option linter.unusedVariables false
set_option linter.unusedSimpArgs false
set_option maxRecDepth 100000
-- 76 loop.example/prologserver/spec.l2Fails params 1 ntmps 7
def readA : Rs → A
  | .ok ts j => .tup [.agg ((Rs.tm ts).row.map .d), .c (.d (.int .i64 j))]
  | .bad e => .tup [.agg ((Tm.mk 0 0 [] []).row.map .d), .c (.d (.int .i64 (-1 - (e : Int))))]
def termsA : Rs → A
  | .ok ts j => .tup [.c (.d (.sl (ts.map Tm.row))), .c (.d (.int .i64 j))]
  | .bad e => .tup [.c (.d (.sl [])), .c (.d (.int .i64 (-1 - (e : Int))))]
/-- the parser's functions at so many steps -/
structure Par (s : List UInt8) (f : Nat) : Prop where
  read : ∀ (i d l : Nat) (r : Rs), i ≤ s.length → d ≤ 1000 → l ≤ 3 → rd s f (.read i d l) = some r → ∀ H : Heap, ACalls Tryz.prog 27 [.c (.d (.str s)), .c (.d (.int .i64 i)), .c (.d (.int .i64 d)), .c (.d (.int .i64 l))] H (fun r' H' => H' = H ∧ r' = readA r)
  prime : ∀ (i d : Nat) (r : Rs), i ≤ s.length → d ≤ 1000 → rd s f (.prime i d) = some r → ∀ H : Heap, ACalls Tryz.prog 45 [.c (.d (.str s)), .c (.d (.int .i64 i)), .c (.d (.int .i64 d))] H (fun r' H' => H' = H ∧ r' = readA r)
  terms : ∀ (i d : Nat) (e o : UInt8) (r : Rs), i ≤ s.length → d ≤ 1000 → rd s f (.terms i d e o) = some r → ∀ H : Heap, ACalls Tryz.prog 83 [.c (.d (.str s)), .c (.d (.int .i64 i)), .c (.d (.int .i64 d)), .c (.d (.int .u8 e.toNat)), .c (.d (.int .u8 o.toNat))] H (fun r' H' => H' = H ∧ r' = termsA r)
section
variable {s : List UInt8} (hs : s.length ≤ 1000000) {f : Nat}
include hs
end
end Go.Proofs.YtgfmlifkhpjplaaGreatDoor

/-
  The reference's parser does what it is said to do: the whole.
  Conditions: none.
-/
open Go Go.AM Go.Proofs
namespace Go.Proofs.YtgfmlifkhpjplaaGreatDoor
open Go.ChangeShapes Go.WideShapes Go.ChangeAt Go.RowKit
set_option linter.unusedVariables false
set_option linter.unusedSimpArgs false
set_option maxRecDepth 100000
section
variable {s : List UInt8} (hs : s.length ≤ 1000000) {f : Nat} (h : ∀ g, g ≤ f → Par s g)
include hs h
end
end Go.Proofs.YtgfmlifkhpjplaaGreatDoor

/-
  ReadTerm, the program's and the reference's: both read the same.
  Conditions: none.
-/
open Go Go.AM Go.Proofs
namespace Go.Proofs.YtgfmlifkhpjplaaGreatDoor
open Go.ChangeShapes Go.WideShapes Go.ChangeAt Go.RowKit
set_option linter.unusedVariables false
set_option linter.unusedSimpArgs false
set_option maxRecDepth 100000
-- 30 loop.example/prologserver/impl.read params 1 ntmps 43
def ac30 : Cd := .seq (.region [⟨(some 2),.alloc [(.d (.int .i64 0)),(.d (.int .i64 0)),(.d (.str [])),(.full [])],none⟩,
 ⟨(some 3),.mv (.k (.c (.d (.int .i64 0)))),none⟩] [3])
 (.seq (.region [⟨(some 6),.mv (.t 0),none⟩,
 ⟨(some 7),.build [(.d (.str [])),(.d (.int .i64 0)),(.d (.int .i64 0)),(.d (.bool false))] [(0,1,(.t 6)),(2,1,(.k (.c (.d (.int .i64 (-1)))))),(3,1,(.k (.c (.d (.bool true)))))],none⟩,
 ⟨(some 8),.box (.t 7),none⟩,
 ⟨(some 4),.mv (.t 8),none⟩] [6,7,8])
 (.seq (.region [⟨(some 9),.mv (.t 4),none⟩,
 ⟨(some 10),.call false 51 [(.t 9),(.k (.c (.d (.int .i64 3)))),(.k (.c (.d (.int .i64 1))))],none⟩,
 ⟨(some 5),.alloc [(.d (.int .i64 0)),(.d (.int .i64 0)),(.d (.str [])),(.full [])],none⟩,
 ⟨none,.store 4 (.t 5) (.t 10),none⟩] [9,10])
 (.seq (.block 0 (.seq (.region [⟨(some 12),.mv (.t 4),none⟩,
 ⟨(some 13),.nilCheck (.t 12),none⟩,
 ⟨(some 14),.fieldAddr 2 (.t 13),none⟩,
 ⟨(some 15),.load none (.t 14),none⟩,
 ⟨(some 16),.bin .geq (.t 15) (.k (.c (.d (.int .i64 0)))),none⟩,
 ⟨(some 11),.mv (.t 16),none⟩] [12,13,14,15,16])
 (.cond (.t 11)
 (.seq (.weak (.region [⟨(some 17),.build [(.d (.int .i64 0)),(.d (.int .i64 0)),(.d (.str [])),(.full [])] [],none⟩,
 ⟨(some 18),.mv (.t 4),none⟩,
 ⟨(some 19),.nilCheck (.t 18),none⟩,
 ⟨(some 20),.fieldAddr 2 (.t 19),none⟩,
 ⟨(some 21),.loadI none (.t 20),none⟩,
 ⟨none,.store 4 (.t 2) (.t 17),none⟩,
 ⟨(some 3),.mv (.t 21),none⟩] [0,4,5,11,17,18,19,20,21]))
 (.ret))
 (.seq (.region [⟨(some 23),.mv (.t 4),none⟩,
 ⟨(some 24),.nilCheck (.t 23),none⟩,
 ⟨(some 25),.fieldAddr 1 (.t 24),none⟩,
 ⟨(some 26),.load none (.t 25),none⟩,
 ⟨(some 27),.mv (.t 0),none⟩,
 ⟨(some 28),.len 0 (.t 27),none⟩,
 ⟨(some 29),.bin .lss (.t 26) (.t 28),none⟩,
 ⟨(some 22),.mv (.t 29),none⟩] [11,23,24,25,26,27,28,29])
 (.cond (.t 22)
 (.seq (.weak (.region [⟨(some 30),.build [(.d (.int .i64 0)),(.d (.int .i64 0)),(.d (.str [])),(.full [])] [],none⟩,
 ⟨(some 31),.mv (.t 4),none⟩,
 ⟨(some 32),.nilCheck (.t 31),none⟩,
 ⟨(some 33),.fieldAddr 1 (.t 32),none⟩,
 ⟨(some 34),.loadI none (.t 33),none⟩,
 ⟨none,.store 4 (.t 2) (.t 30),none⟩,
 ⟨(some 3),.mv (.t 34),none⟩] [0,4,5,22,30,31,32,33,34]))
 (.ret))
 (.seq (.region [⟨(some 36),.load (some 4) (.t 5),none⟩,
 ⟨(some 37),.qcall 17 [(.t 36)],none⟩,
 ⟨(some 38),.un .not (.t 37),none⟩,
 ⟨(some 35),.mv (.t 38),none⟩] [4,22,36,37,38])
 (.cond (.t 35)
 (.seq (.region [⟨(some 39),.build [(.d (.int .i64 0)),(.d (.int .i64 0)),(.d (.str [])),(.full [])] [],none⟩,
 ⟨(some 40),.mv (.t 0),none⟩,
 ⟨(some 41),.len 0 (.t 40),none⟩,
 ⟨none,.store 4 (.t 2) (.t 39),none⟩,
 ⟨(some 3),.mv (.t 41),none⟩] [0,5,35,39,40,41])
 (.ret))
 (.skip))))))))
 (.seq (.region [⟨(some 42),.load (some 4) (.t 5),none⟩,
 ⟨none,.store 4 (.t 2) (.t 42),none⟩,
 ⟨(some 3),.mv (.k (.c (.d (.int .i64 (-1))))),none⟩] [0,5,35,42])
 (.ret)))))
theorem ac30_ok : cFunc Tryz.prog [1000017,2000020,2000033,4000004,4000006] [(0,[3],[]),(1,[6,7,8],[]),(2,[9,10],[]),(3,[12,13,14,15,16],[]),(4,[0,4,5,11,17,18,19,20,21],[0,1,2,3,4,5,6]),(5,[11,23,24,25,26,27,28,29],[]),(6,[0,4,5,22,30,31,32,33,34],[0,1,2,3,4,5,6]),(7,[4,22,36,37,38],[]),(8,[0,5,35,39,40,41],[]),(9,[0,5,35,42],[])] Tryz.f30 = some (ac30,[.cell 2 (some 4),.tmp 3],43) := by kernel_rfl
-- 10 loop.example/prologserver/impl.ReadTerm params 1 ntmps 18
def ac10 : Cd := .seq (.region [⟨(some 2),.alloc [(.d (.int .i64 0)),(.d (.int .i64 0)),(.d (.str [])),(.full [])],none⟩,
 ⟨(some 3),.mv (.k (.c (.d (.bool false)))),none⟩] [3])
 (.seq (.seq (.region [⟨(some 6),.mv (.t 0),none⟩,
 ⟨(some 7),.len 0 (.t 6),none⟩,
 ⟨(some 8),.bin .gtr (.t 7) (.k (.c (.d (.int .i64 1000)))),none⟩] [6,7])
 (.cond (.t 8)
 (.seq (.region [⟨(some 9),.build [(.d (.int .i64 0)),(.d (.int .i64 0)),(.d (.str [])),(.full [])] [],none⟩,
 ⟨none,.store 4 (.t 2) (.t 9),none⟩,
 ⟨(some 3),.mv (.k (.c (.d (.bool false)))),none⟩] [0,8,9])
 (.ret))
 (.skip)))
 (.seq (.region [⟨(some 11),.mv (.t 0),none⟩,
 ⟨(some 12),.call false 30 [(.t 11)],none⟩,
 ⟨(some 10),.mv (.t 12),none⟩,
 ⟨(some 13),.extract 0 (.t 10),none⟩,
 ⟨(some 14),.extract 1 (.t 10),none⟩,
 ⟨(some 4),.alloc [(.d (.int .i64 0)),(.d (.int .i64 0)),(.d (.str [])),(.full [])],none⟩,
 ⟨none,.store 4 (.t 4) (.t 13),none⟩,
 ⟨(some 5),.mv (.t 14),none⟩] [0,3,8,10,11,12,13,14])
 (.seq (.region [⟨(some 15),.load (some 4) (.t 4),none⟩,
 ⟨(some 16),.mv (.t 5),none⟩,
 ⟨(some 17),.bin .lss (.t 16) (.k (.c (.d (.int .i64 0)))),none⟩,
 ⟨none,.store 4 (.t 2) (.t 15),none⟩,
 ⟨(some 3),.mv (.t 17),none⟩] [4,5,15,16,17])
 (.ret))))
theorem ac10_ok : cFunc Tryz.prog [] [(0,[3],[]),(1,[6,7],[]),(2,[0,8,9],[]),(3,[0,3,8,10,11,12,13,14],[]),(4,[4,5,15,16,17],[])] Tryz.f10 = some (ac10,[.cell 2 (some 4),.tmp 3],18) := by kernel_rfl
-- 9 loop.example/prologserver/spec.ReadTerm params 1 ntmps 27
def zeroT : Tm := .mk 0 0 [] []
/-- the term that a text is read as -/
def okT (s : List UInt8) : Option Tm := match rdF s (.read 0 30 3) with
  | some (.ok ts k) => if k = s.length ∧ (Rs.tm ts).valid = true then some (Rs.tm ts) else none
  | _ => none
def okR (s : List UInt8) : Option Tm := if 1000 < s.length then none else okT s
def okA : Option Tm → A
  | some t => .tup [.agg (t.row.map .d), .c (.d (.bool true))]
  | none => .tup [.agg (zeroT.row.map .d), .c (.d (.bool false))]
theorem okA_re (o : Option Tm) (n : Nat) : A.re n (okA o) = okA o := by cases o <;> simp [okA, A.re, A.res, C.re, re_d]
/-- what read gives -/
def rdPl (s : List UInt8) : Rs → Tm × Int
  | .bad e => (zeroT, e)
  | .ok ts k => if k < s.length then (zeroT, k) else if (Rs.tm ts).valid then (Rs.tm ts, -1) else (zeroT, s.length)
theorem call_own {f : FuncId} {xs : List A} {s : List UInt8} {a : Nat} {r : Rs} (hd : Rdr f xs s a r) {ext : Heap} {sl : List A} {z : Ob} {H₂ : Heap} {K : A → St → Prop} (hp : Hp ext) (hz : Ob.re ext.length z = z)
    (hH : H₂ = ext ++ [z, rdO s a (-1)]) (hf : Obs.fits ext.length 0 ext) (hk : ∀ v a' b', RP s r v a' b' → K v ⟨sl, ext, [z, rdO s a' b']⟩) :
    ACalls Tryz.prog f (.c (.ptr (.e (ext.length + 1)) 0) :: xs) H₂ (CallK K ⟨sl, ext, [z, rdO s a (-1)]⟩) := by
  subst hH
  have hl : 2 ≤ ext.length := by
    obtain ⟨o, o2, _, h2, _⟩ := hp
    have := (List.getElem?_eq_some_iff.1 h2).1
    omega
  have hro : ∀ a' b', ro (ext ++ [z, rdO s a (-1)]) (ext.length + 1) s a' b' = ext ++ [z, rdO s a' b'] := fun a' b' => by
    unfold ro
    rw [List.set_append_right _ _ (by omega), Nat.add_sub_cancel_left]
    rfl
  have h := hd (ext ++ [z, rdO s a (-1)]) (ext.length + 1) (hp_append hp _) (by omega) (by simp)
  rw [hro] at h
  refine h.mono fun r' H' ⟨a', b', hrp, h2⟩ => ?_
  rw [hro] at h2
  refine ⟨ext, [z, rdO s a' b'], r', by rw [h2]; show _ = ext ++ [Ob.re ext.length z, Ob.re ext.length (rdO s a' b')]; rw [hz]; rfl, rfl, by simp, hf, ?_, hk _ _ _ hrp⟩
  obtain ⟨t, _, hv, _⟩ := hrp
  rw [hv]
  simp [A.re, re_d]
theorem le_read {sl : List A} {ext : Heap} {z t : Ob} (row : List D) (h1 : Sl.le sl (sl.set 5 .u)) (h2 : As.lo ext.length 2 (sl.set 5 .u)) (h3 : Obs.lo ext.length 2 [z, .cells (row.map .d)]) (h4 : (sl.set 5 .u)[4]? = some (.c (.ptr (.l 1) 0)))
    (h5 : As.lo ext.length 1 ((sl.set 5 .u).set 4 .u)) (h6 : Obs.lo ext.length 1 [z]) : St.le ⟨sl, ext, [z, .cells (row.map .d), t]⟩ ⟨(sl.set 5 .u).set 4 (.c (.el row 0)), ext, [z]⟩ :=
  St.le_trans (St.le_cut (loc' := [z, .cells (row.map .d)]) [t] h1 h2 rfl h3) (St.le_el (loc := [z]) 4 h4 h5 h6)
set_option maxHeartbeats 1600000 in
theorem read_calls (s : List UInt8) (hs : s.length ≤ 1000) {F : Nat} {r : Rs} (hr : rp s F (.term 3 1 0) = some r) (H : Heap) (hp : Hp H) : ACalls Tryz.prog 30 [.c (.d (.str s))] H (fun r' H' => H' = H ∧ r' = .tup [.agg ((rdPl s r).1.row.map .d), .c (.d (.int .i64 (rdPl s r).2))]) := by
  refine acalls Tryz.func30 (by kernel_rfl) ac30_ok fun hf => ?_
  have hs6 : s.length ≤ 1000000 := by omega
  have c1 := (prd s hs6 F).term 3 1 0 r (Nat.zero_le _) (Nat.le_refl _) (by omega) hr
  have p1 := rp_post hs6 (j := .term 3 1 0) ⟨Nat.zero_le _, Nat.le_refl _⟩ hr
  have hli : inR .i64 (s.length : Int) := small_i64 (by omega) (by omega)
  simp -implicitDefEqProofs [ac30, hf, go_sem, -List.set_cons_succ, -List.set_cons_zero]
  refine call_own c1 hp (by simp [Ob.re, C.re]) rfl hf ?_
  rintro v a b ⟨t, ht, rfl, hm⟩
  cases r with
  | bad e =>
    obtain ⟨g1, g2⟩ := hm
    subst g2
    simp -implicitDefEqProofs [rdO, rdPl, row_len, take_row, drop_row, pure_d, re_d, thaw_d, fits_map, hf, go_sem, -List.set_cons_succ, -List.set_cons_zero]
    refine weak_le (le_read [.str s, .int .i64 a, .int .i64 e, .bool true] ?_ ?_ ?_ ?_ ?_ ?_) ?_
    · simp [Sl.le, A.le_refl_iff, A.le_u_iff, As.lo, A.lo, C.lo, Ref.lo, Cs.lo, Obs.lo, Ob.lo, setAll, and_true, true_and, List.length_nil, List.length_cons]
    · simp [Sl.le, A.le_refl_iff, A.le_u_iff, As.lo, A.lo, C.lo, Ref.lo, Cs.lo, Obs.lo, Ob.lo, setAll, and_true, true_and, List.length_nil, List.length_cons]
    · simp [Sl.le, A.le_refl_iff, A.le_u_iff, As.lo, A.lo, C.lo, Ref.lo, Cs.lo, Obs.lo, Ob.lo, setAll, and_true, true_and, List.length_nil, List.length_cons]
    · rfl
    · simp [Sl.le, A.le_refl_iff, A.le_u_iff, As.lo, A.lo, C.lo, Ref.lo, Cs.lo, Obs.lo, Ob.lo, setAll, and_true, true_and, List.length_nil, List.length_cons]
    · simp [Sl.le, A.le_refl_iff, A.le_u_iff, As.lo, A.lo, C.lo, Ref.lo, Cs.lo, Obs.lo, Ob.lo, setAll, and_true, true_and, List.length_nil, List.length_cons]
    · simp -implicitDefEqProofs [zeroT, row_mk, hf, go_sem, -List.set_cons_succ, -List.set_cons_zero]
  | ok ts k =>
    obtain ⟨g1, g2, g3⟩ := hm
    subst g2
    subst g3
    obtain ⟨q1, q2, q3⟩ := p1
    by_cases hlt : a < s.length
    · have hlt' : (a : Int) < s.length := by omega
      simp -implicitDefEqProofs [rdO, rdPl, hli, hlt, hlt', row_len, take_row, drop_row, pure_d, re_d, thaw_d, fits_map, hf, go_sem, -List.set_cons_succ, -List.set_cons_zero]
      refine weak_le (le_read [.str s, .int .i64 a, .int .i64 (-1), .bool true] ?_ ?_ ?_ ?_ ?_ ?_) ?_
      · simp [Sl.le, A.le_refl_iff, A.le_u_iff, As.lo, A.lo, C.lo, Ref.lo, Cs.lo, Obs.lo, Ob.lo, setAll, and_true, true_and, List.length_nil, List.length_cons]
      · simp [Sl.le, A.le_refl_iff, A.le_u_iff, As.lo, A.lo, C.lo, Ref.lo, Cs.lo, Obs.lo, Ob.lo, setAll, and_true, true_and, List.length_nil, List.length_cons]
      · simp [Sl.le, A.le_refl_iff, A.le_u_iff, As.lo, A.lo, C.lo, Ref.lo, Cs.lo, Obs.lo, Ob.lo, setAll, and_true, true_and, List.length_nil, List.length_cons]
      · rfl
      · simp [Sl.le, A.le_refl_iff, A.le_u_iff, As.lo, A.lo, C.lo, Ref.lo, Cs.lo, Obs.lo, Ob.lo, setAll, and_true, true_and, List.length_nil, List.length_cons]
      · simp [Sl.le, A.le_refl_iff, A.le_u_iff, As.lo, A.lo, C.lo, Ref.lo, Cs.lo, Obs.lo, Ob.lo, setAll, and_true, true_and, List.length_nil, List.length_cons]
      · simp -implicitDefEqProofs [zeroT, row_mk, hf, go_sem, -List.set_cons_succ, -List.set_cons_zero]
    · have hlt' : ¬ (a : Int) < s.length := by omega
      simp -implicitDefEqProofs [rdO, rdPl, hli, hlt, hlt', row_len, take_row, drop_row, pure_d, re_d, thaw_d, fits_map, hf, go_sem, -List.set_cons_succ, -List.set_cons_zero]
      refine qcall_pure (tvImpl_calls t ht) hf rfl ?_
      rw [g1]
      cases hv : (Rs.tm ts).valid with
      | true =>
        simp -implicitDefEqProofs [hv, row_len, take_row, drop_row, pure_d, re_d, thaw_d, fits_map, hf, go_sem, -List.set_cons_succ, -List.set_cons_zero]
      | false =>
        simp -implicitDefEqProofs [hv, hli, zeroT, row_mk, row_len, take_row, drop_row, pure_d, re_d, thaw_d, fits_map, hf, go_sem, -List.set_cons_succ, -List.set_cons_zero]
end Go.Proofs.YtgfmlifkhpjplaaGreatDoor

/-
  ReadTerm, the program's and the reference's: both read the same.
  Conditions: none.
-/
open Go Go.AM Go.Proofs
namespace Go.Proofs.YtgfmlifkhpjplaaGreatDoor
open Go.ChangeShapes Go.WideShapes Go.ChangeAt Go.RowKit
set_option linter.unusedVariables false
set_option linter.unusedSimpArgs false
set_option maxRecDepth 100000
theorem okT_ok {s : List UInt8} {t : Tm} (h : okT s = some t) : ∃ ts k, rdF s (.read 0 30 3) = some (.ok ts k) ∧ k = s.length ∧ t.valid = true ∧ t = Rs.tm ts := by
  unfold okT at h
  split at h
  · rename_i ts k he
    split at h
    · rename_i hc; cases h; exact ⟨ts, k, he, hc.1, hc.2, rfl⟩
    · cases h
  · cases h
theorem rd_eq {s : List UInt8} (hs : s.length ≤ 1000000) {F : Nat} {r : Rs} (hr : rp s F (.term 3 1 0) = some r) : ((rdPl s r).2 < 0 ∧ okT s = some (rdPl s r).1) ∨ (¬ (rdPl s r).2 < 0 ∧ (rdPl s r).1 = zeroT ∧ okT s = none) := by
  have ht := rp_tells hs F (.term 3 1 0) r hr ⟨Nat.zero_le _, Nat.le_refl _⟩ 30 (Nat.le_refl _)
  have p1 := rp_post hs (j := .term 3 1 0) ⟨Nat.zero_le _, Nat.le_refl _⟩ hr
  cases r with
  | bad e =>
    refine .inr ⟨by show ¬ ((e : Int) < 0); omega, rfl, ?_⟩
    cases ho : okT s with
    | none => rfl
    | some t =>
      obtain ⟨ts, k, h1, h2, h3, h4⟩ := okT_ok ho
      obtain ⟨u, hu, hsh⟩ := ht ts k h1
      have h5 := (read_one hs (Nat.zero_le _) (Nat.le_refl _) h1).1
      rw [h5] at hu
      rw [List.mem_singleton.1 hu, ← h4] at hsh
      have h3' : t.shape 30 = true := by
        unfold Tm.valid at h3
        rw [Bool.and_eq_true] at h3
        exact h3.1
      have hsh : t.shape 30 = false := hsh
      rw [h3'] at hsh
      cases hsh
  | ok ts k =>
    have ht : rdF s (.read 0 30 3) = some (.ok ts k) := ht
    obtain ⟨q1, q2, q3⟩ := p1
    by_cases hlt : k < s.length
    · refine .inr ⟨?_, ?_, ?_⟩
      · simp only [rdPl, if_pos hlt]; omega
      · simp only [rdPl, if_pos hlt]
      · simp only [okT, ht]; rw [if_neg (by omega)]
    · cases hv : (Rs.tm ts).valid with
      | true =>
        refine .inl ⟨?_, ?_⟩
        · simp only [rdPl, if_neg hlt, hv, if_true]; decide
        · simp only [rdPl, if_neg hlt, hv, if_true, okT, ht]; rw [if_pos ⟨by omega, trivial⟩]
      | false =>
        refine .inr ⟨?_, ?_, ?_⟩
        · simp only [rdPl, if_neg hlt, hv, Bool.false_eq_true, if_false]; omega
        · simp only [rdPl, if_neg hlt, hv, Bool.false_eq_true, if_false]
        · simp only [okT, ht, hv]; rw [if_neg (by simp)]
theorem readTermI_calls (s : List UInt8) (hs : s.length ≤ 1000000) (H : Heap) (hp : Hp H) : ACalls Tryz.prog 10 [.c (.d (.str s))] H (fun r H' => H' = H ∧ r = okA (okR s)) := by
  refine acalls Tryz.func10 (by kernel_rfl) ac10_ok fun hf => ?_
  have hli : inR .i64 (s.length : Int) := small_i64 (by omega) (by omega)
  by_cases hl : 1000 < s.length
  · have hl' : (1000 : Int) < s.length := by omega
    simp -implicitDefEqProofs [ac10, hli, hl', okR, hl, okA, zeroT, row_mk, hf, go_sem, -List.set_cons_succ, -List.set_cons_zero]
  · have hl' : ¬ (1000 : Int) < s.length := by omega
    obtain ⟨r, hr, _⟩ := rp_total s hs (8 * (s.length + 1) + 5) (.term 3 1 0) (by simp [PJ.m]) ⟨Nat.zero_le _, Nat.le_refl _⟩
    have c1 := read_calls s (by omega) hr
    have hk := rd_eq hs hr
    generalize rdPl s r = x at c1 hk
    obtain ⟨t, n⟩ := x
    simp only at c1 hk
    have hok : okR s = okT s := by unfold okR; rw [if_neg hl]
    rw [hok]
    simp -implicitDefEqProofs [ac10, hli, hl', hf, go_sem, -List.set_cons_succ, -List.set_cons_zero]
    refine call_same (c1 _ (hp_append hp _)) (by simp [Ob.re, C.re]) (by simp [A.re, A.res, C.re, re_d]) hf ?_
    rcases hk with ⟨h1, h2⟩ | ⟨h1, h2, h3⟩
    · rw [h2]
      simp -implicitDefEqProofs [okA, h1, row_len, take_row, drop_row, pure_d, re_d, thaw_d, fits_map, hf, go_sem, -List.set_cons_succ, -List.set_cons_zero]
    · rw [h3, h2]
      simp -implicitDefEqProofs [okA, h1, row_len, take_row, drop_row, pure_d, re_d, thaw_d, fits_map, hf, go_sem, -List.set_cons_succ, -List.set_cons_zero]
end Go.Proofs.YtgfmlifkhpjplaaGreatDoor

/-
  Slices of bytes as data.
  Conditions: none.
-/
open Go Go.AM Go.Proofs
namespace Go.Proofs.YtgfmlifkhpjplaaGreatDoor
open Go.ChangeShapes Go.WideShapes Go.ChangeAt Go.RowKit
set_option linter.unusedVariables false
set_option linter.unusedSimpArgs false
set_option maxRecDepth 100000
theorem bytesRows_len {s : List UInt8} : (bytesRows s).length = s.length := by simp [bytesRows]
theorem bytesRows_nil {s : List UInt8} : bytesRows s = [] ↔ s = [] := by simp [bytesRows]
theorem bytesRows_get {s : List UInt8} {i : Nat} (h : i < s.length) : (bytesRows s)[i]? = some [.int .u8 s[i].toNat] := by simp [bytesRows, h]
theorem bytes_ty {row : List D} (h : HasTy Tryz.prog 30 row) : ∃ s : List UInt8, row = [.sl (bytesRows s)] ∧ s.length ≤ reachBytes := by
  obtain ⟨rows, rfl, hb, hc, ht⟩ := h.sl_inv Tryz.underlying30
  rw [show Tryz.prog.bytesOf 5 = 1 from by kernel_rfl] at hb
  obtain ⟨l, rfl, hl⟩ := list_of_ty (f := fun b : UInt8 => [.int .u8 b.toNat]) (p := fun _ => True) (rows := rows) (fun r hr => by
    obtain ⟨n, e, hn⟩ := (ht r hr).int_inv Tryz.underlying5
    refine ⟨UInt8.ofNat n.toNat, ?_, trivial⟩
    rw [e]
    have h1 : 0 ≤ n ∧ n ≤ 255 := by simpa [inR, IntKind.min, IntKind.max, IntKind.signed, IntKind.bits] using hn
    have : ((UInt8.ofNat n.toNat).toNat : Int) = n := by
      rw [UInt8.toNat_ofNat']
      omega
    rw [this])
  exact ⟨l, rfl, by simpa using hb⟩
theorem byteRow {s : List UInt8} {i : Int} {K : A → St → Prop} {st : St} (h0 : 0 ≤ i) (h : i < s.length) (hk : K (.c (.el [.int .u8 (s[i.toNat]'(by omega)).toNat] 0)) st) : RowK true (bytesRows s) i 1 K st :=
  row_int _ h0 (bytesRows_get (by omega)) rfl hk
theorem u8_i64 (b : UInt8) : IntKind.wrap .i64 (b.toNat : Int) = b.toNat := by
  rw [IntKind.wrap_i64]
  have := b.toNat_lt
  omega
end Go.Proofs.YtgfmlifkhpjplaaGreatDoor

/-
  The source of draws: its first functions, each by what it answers.
  Conditions: none.
-/
open Go Go.AM Go.Proofs
namespace Go.Proofs.YtgfmlifkhpjplaaGreatDoor
open Go.ChangeShapes Go.WideShapes Go.ChangeAt Go.RowKit
set_option linter.unusedVariables false
set_option linter.unusedSimpArgs false
set_option maxRecDepth 100000
-- 53 (*loop.example/prologserver/spec.l18Rd).pick params 2 ntmps 99
def ac53 : Cd := .seq (.region [⟨(some 4),.mv (.k (.c (.d (.int .i64 0)))),none⟩] [4])
 (.seq (.region [⟨(some 7),.mv (.t 0),none⟩,
 ⟨(some 8),.mv (.t 0),none⟩,
 ⟨(some 9),.nilCheck (.t 8),none⟩,
 ⟨(some 10),.fieldAddr 1 (.t 9),none⟩,
 ⟨(some 11),.load none (.t 10),none⟩,
 ⟨(some 12),.bin .add (.t 11) (.k (.c (.d (.int .i64 1)))),none⟩,
 ⟨(some 13),.nilCheck (.t 7),none⟩,
 ⟨(some 14),.fieldAddr 1 (.t 13),none⟩,
 ⟨none,.store 1 (.t 14) (.t 12),none⟩] [7,8,9,10,11,12,13,14])
 (.seq (.seq (.region [⟨(some 15),.mv (.t 1),none⟩,
 ⟨(some 16),.bin .lss (.t 15) (.k (.c (.d (.int .i64 1)))),none⟩,
 ⟨(some 17),.mv (.t 16),none⟩,
 ⟨(some 18),.mv (.t 0),some (17,false)⟩,
 ⟨(some 19),.nilCheck (.t 18),some (17,false)⟩,
 ⟨(some 20),.fieldAddr 0 (.t 19),some (17,false)⟩,
 ⟨(some 21),.load none (.t 20),some (17,false)⟩,
 ⟨(some 22),.len 1 (.t 21),some (17,false)⟩,
 ⟨(some 23),.bin .eql (.t 22) (.k (.c (.d (.int .i64 0)))),some (17,false)⟩,
 ⟨(some 24),.pick (.t 17) (.k (.c (.d (.bool true)))) (.t 23),none⟩] [15,16,17,18,19,20,21,22,23])
 (.cond (.t 24)
 (.seq (.region [⟨(some 4),.mv (.k (.c (.d (.int .i64 0)))),none⟩] [0,1,24])
 (.ret))
 (.skip)))
 (.seq (.region [⟨(some 25),.mv (.t 0),none⟩,
 ⟨(some 26),.nilCheck (.t 25),none⟩,
 ⟨(some 27),.fieldAddr 1 (.t 26),none⟩,
 ⟨(some 28),.load none (.t 27),none⟩,
 ⟨(some 29),.bin .sub (.t 28) (.k (.c (.d (.int .i64 1)))),none⟩,
 ⟨(some 5),.mv (.t 29),none⟩] [4,24,25,26,27,28,29])
 (.seq (.seq (.region [⟨(some 30),.mv (.t 5),none⟩,
 ⟨(some 31),.mv (.t 0),none⟩,
 ⟨(some 32),.nilCheck (.t 31),none⟩,
 ⟨(some 33),.fieldAddr 0 (.t 32),none⟩,
 ⟨(some 34),.load none (.t 33),none⟩,
 ⟨(some 35),.len 1 (.t 34),none⟩,
 ⟨(some 36),.bin .lss (.t 30) (.t 35),none⟩] [30,31,32,33,34,35])
 (.cond (.t 36)
 (.seq (.region [⟨(some 37),.mv (.t 0),none⟩,
 ⟨(some 38),.nilCheck (.t 37),none⟩,
 ⟨(some 39),.fieldAddr 0 (.t 38),none⟩,
 ⟨(some 40),.load none (.t 39),none⟩,
 ⟨(some 41),.mv (.t 5),none⟩,
 ⟨(some 42),.indexAddr 1 (.t 40) (.t 41),none⟩,
 ⟨(some 43),.load none (.t 42),none⟩,
 ⟨(some 44),.cvInt .i64 (.t 43),none⟩,
 ⟨(some 45),.mv (.t 1),none⟩,
 ⟨(some 46),.bin .rem (.t 44) (.t 45),none⟩,
 ⟨(some 4),.mv (.t 46),none⟩] [0,1,5,36,37,38,39,40,41,42,43,44,45,46])
 (.ret))
 (.skip)))
 (.seq (.region [⟨(some 47),.mv (.t 0),none⟩,
 ⟨(some 48),.nilCheck (.t 47),none⟩,
 ⟨(some 49),.fieldAddr 0 (.t 48),none⟩,
 ⟨(some 51),.mv (.t 5),none⟩,
 ⟨(some 52),.mv (.t 0),none⟩,
 ⟨(some 53),.nilCheck (.t 52),none⟩,
 ⟨(some 54),.fieldAddr 0 (.t 53),none⟩,
 ⟨(some 62),.mv (.t 0),none⟩,
 ⟨(some 63),.nilCheck (.t 62),none⟩,
 ⟨(some 64),.fieldAddr 0 (.t 63),none⟩,
 ⟨(some 66),.mv (.t 5),none⟩,
 ⟨(some 67),.bin .mul (.t 66) (.k (.c (.d (.int .i64 7)))),none⟩,
 ⟨(some 68),.bin .add (.t 67) (.k (.c (.d (.int .i64 3)))),none⟩,
 ⟨(some 69),.mv (.t 0),none⟩,
 ⟨(some 70),.nilCheck (.t 69),none⟩,
 ⟨(some 71),.fieldAddr 0 (.t 70),none⟩,
 ⟨(some 80),.mv (.t 5),none⟩,
 ⟨(some 81),.bin .mul (.t 80) (.k (.c (.d (.int .i64 29)))),none⟩,
 ⟨(some 83),.mv (.t 5),none⟩,
 ⟨(some 84),.mv (.t 0),none⟩,
 ⟨(some 85),.nilCheck (.t 84),none⟩,
 ⟨(some 86),.fieldAddr 0 (.t 85),none⟩,
 ⟨(some 50),.load none (.t 49),none⟩,
 ⟨(some 55),.load none (.t 54),none⟩,
 ⟨(some 56),.len 1 (.t 55),none⟩,
 ⟨(some 57),.bin .rem (.t 51) (.t 56),none⟩,
 ⟨(some 58),.indexAddr 1 (.t 50) (.t 57),none⟩,
 ⟨(some 59),.load none (.t 58),none⟩,
 ⟨(some 60),.cvInt .i64 (.t 59),none⟩,
 ⟨(some 61),.bin .mul (.t 60) (.k (.c (.d (.int .i64 131)))),none⟩,
 ⟨(some 65),.load none (.t 64),none⟩,
 ⟨(some 72),.load none (.t 71),none⟩,
 ⟨(some 73),.len 1 (.t 72),none⟩,
 ⟨(some 74),.bin .rem (.t 68) (.t 73),none⟩,
 ⟨(some 75),.indexAddr 1 (.t 65) (.t 74),none⟩,
 ⟨(some 76),.load none (.t 75),none⟩,
 ⟨(some 77),.cvInt .i64 (.t 76),none⟩,
 ⟨(some 78),.bin .mul (.t 77) (.k (.c (.d (.int .i64 1117)))),none⟩,
 ⟨(some 79),.bin .add (.t 61) (.t 78),none⟩,
 ⟨(some 82),.bin .add (.t 79) (.t 81),none⟩,
 ⟨(some 87),.load none (.t 86),none⟩,
 ⟨(some 88),.len 1 (.t 87),none⟩,
 ⟨(some 89),.bin .quo (.t 83) (.t 88),none⟩,
 ⟨(some 90),.bin .mul (.t 89) (.k (.c (.d (.int .i64 53)))),none⟩,
 ⟨(some 91),.bin .add (.t 82) (.t 90),none⟩,
 ⟨(some 6),.mv (.t 91),none⟩] [0,4,5,36,47,48,49,50,51,52,53,54,55,56,57,58,59,60,61,62,63,64,65,66,67,68,69,70,71,72,73,74,75,76,77,78,79,80,81,82,83,84,85,86,87,88,89,90,91])
 (.seq (.region [⟨(some 92),.mv (.t 6),none⟩,
 ⟨(some 93),.mv (.t 6),none⟩,
 ⟨(some 94),.bin .quo (.t 93) (.k (.c (.d (.int .i64 64)))),none⟩,
 ⟨(some 95),.bin .xor (.t 92) (.t 94),none⟩,
 ⟨(some 6),.mv (.t 95),none⟩] [92,93,94,95])
 (.seq (.region [⟨(some 96),.mv (.t 6),none⟩,
 ⟨(some 97),.mv (.t 1),none⟩,
 ⟨(some 98),.bin .rem (.t 96) (.t 97),none⟩,
 ⟨(some 4),.mv (.t 98),none⟩] [1,6,96,97,98])
 (.ret))))))))
theorem ac53_ok : cFunc Tryz.prog [] [(0,[4],[]),(1,[7,8,9,10,11,12,13,14],[]),(2,[15,16,17,18,19,20,21,22,23],[]),(3,[0,1,24],[]),(4,[4,24,25,26,27,28,29],[]),(5,[30,31,32,33,34,35],[]),(6,[0,1,5,36,37,38,39,40,41,42,43,44,45,46],[]),(7,[0,4,5,36,47,48,49,50,51,52,53,54,55,56,57,58,59,60,61,62,63,64,65,66,67,68,69,70,71,72,73,74,75,76,77,78,79,80,81,82,83,84,85,86,87,88,89,90,91],[0,1,2,4,5,6,7,15,16,17,19,20,21,22,23,24,33,34,36,37,38,39,3,8,9,10,11,12,13,14,18,25,26,27,28,29,30,31,32,35,40,41,42,43,44,45]),(8,[92,93,94,95],[]),(9,[1,6,96,97,98],[])] Tryz.f53 = some (ac53,[.tmp 4],99) := by kernel_rfl
-- 34 loop.example/prologserver/spec.l18Open params 1 ntmps 11
def ac34 : Cd := .seq (.region [⟨(some 2),.mv (.k (.c (.d (.v (.pointer none))))),none⟩] [2])
 (.seq (.seq (.region [⟨(some 3),.mv (.t 0),none⟩,
 ⟨(some 4),.len 1 (.t 3),none⟩,
 ⟨(some 5),.bin .gtr (.t 4) (.k (.c (.d (.int .i64 2000)))),none⟩] [3,4])
 (.cond (.t 5)
 (.region [⟨(some 6),.mv (.t 0),none⟩,
 ⟨(some 7),.slice 1 (.t 6) none (some (.k (.c (.d (.int .i64 2000))))) none,none⟩,
 ⟨(some 0),.mv (.t 7),none⟩] [5,6,7])
 (.skip)))
 (.seq (.region [⟨(some 8),.mv (.t 0),none⟩,
 ⟨(some 9),.build [(.full []),(.d (.int .i64 0))] [(0,1,(.t 8))],none⟩,
 ⟨(some 10),.box (.t 9),none⟩,
 ⟨(some 2),.mv (.t 10),none⟩] [0,5,8,9,10])
 (.ret)))
theorem ac34_ok : cFunc Tryz.prog [] [(0,[2],[]),(1,[3,4],[]),(2,[5,6,7],[]),(3,[0,5,8,9,10],[])] Tryz.f34 = some (ac34,[.tmp 2],11) := by kernel_rfl
-- 37 (*loop.example/prologserver/spec.l18Rd).num params 2 ntmps 12
def ac37 : Cd := .seq (.region [⟨(some 4),.mv (.k (.c (.d (.int .i64 0)))),none⟩] [4])
 (.seq (.region [⟨(some 5),.mv (.t 1),none⟩,
 ⟨(some 6),.mv (.t 0),none⟩,
 ⟨(some 7),.mv (.t 1),none⟩,
 ⟨(some 8),.len 1 (.t 7),none⟩,
 ⟨(some 9),.call false 53 [(.t 6),(.t 8)],none⟩,
 ⟨(some 10),.indexAddr 1 (.t 5) (.t 9),none⟩,
 ⟨(some 11),.load none (.t 10),none⟩,
 ⟨(some 4),.mv (.t 11),none⟩] [0,1,5,6,7,8,9,10,11])
 (.ret))
theorem ac37_ok : cFunc Tryz.prog [] [(0,[4],[]),(1,[0,1,5,6,7,8,9,10,11],[])] Tryz.f37 = some (ac37,[.tmp 4],12) := by kernel_rfl
/-- a source of draws, at a place -/
def Rd (c : List UInt8) (p : Int) : Ob := .cells [.d (.sl (bytesRows c)), .d (.int .i64 p)]
theorem xor_small {x y : Int} (hx : 0 ≤ x) (hx1 : x < 1099511627776) (hy : 0 ≤ y) (hy1 : y < 1099511627776) : 0 ≤ bitsVal .xor .i64 x y ∧ bitsVal .xor .i64 x y < 1099511627776 := by
  obtain ⟨a, rfl⟩ := Int.eq_ofNat_of_zero_le hx
  obtain ⟨b, rfl⟩ := Int.eq_ofNat_of_zero_le hy
  have hx : a < 2 ^ 40 := by omega
  have hy : b < 2 ^ 40 := by omega
  have hxor : a ^^^ b < 2 ^ 40 := Nat.xor_lt_two_pow hx hy
  have e : ((BitVec.ofInt 64 (a : Int)) ^^^ (BitVec.ofInt 64 (b : Int))).toNat = a ^^^ b := by
    rw [BitVec.toNat_xor]
    have h1 : (BitVec.ofInt 64 (a : Int)).toNat = a := by rw [BitVec.ofInt_natCast, BitVec.toNat_ofNat, Nat.mod_eq_of_lt (by omega)]
    have h2 : (BitVec.ofInt 64 (b : Int)).toNat = b := by rw [BitVec.ofInt_natCast, BitVec.toNat_ofNat, Nat.mod_eq_of_lt (by omega)]
    rw [h1, h2]
  have : bitsVal .xor .i64 (a : Int) (b : Int) = ((a ^^^ b : Nat) : Int) := by
    show IntKind.wrap .i64 (((BitVec.ofInt 64 (a : Int)) ^^^ (BitVec.ofInt 64 (b : Int))).toNat : Int) = _
    rw [e, IntKind.wrap_i64]
    omega
  rw [this]
  omega
theorem pick_calls (c : List UInt8) (hc : c.length ≤ 2000) (p m : Int) (hp : 0 ≤ p) (hp1 : p ≤ 1000000) (hm : -1000000000 ≤ m ∧ m ≤ 1000000000) (H : Heap) (i : Nat) (hi : i < H.length) :
    ACalls Tryz.prog 53 [.c (.ptr (.e i) 0), .c (.d (.int .i64 m))] (H.set i (Rd c p)) (fun r H' => ∃ k : Int, r = .c (.d (.int .i64 k)) ∧ 0 ≤ k ∧ (0 < m → k < m) ∧ H' = H.set i (Rd c (p + 1))) := by
  refine acalls Tryz.func53 (by kernel_rfl) ac53_ok fun hf => ?_
  have hadd : inR .i64 (p + 1) := small_i64 (by omega) (by omega)
  have hl : inR .i64 (c.length : Int) := small_i64 (by omega) (by omega)
  have hi64 : inR .i64 p := small_i64 (by omega) (by omega)
  simp only [List.length_set] at hf
  simp -implicitDefEqProofs [ac53, Rd, hadd, hl, hi64, hi, List.getElem?_set, bytesRows_len, go_sem, -List.set_cons_succ, -List.set_cons_zero]
  have hfit : Obs.fits H.length 0 (H.set i (.cells [.d (.sl (bytesRows c)), .d (.int .i64 (p + 1))])) := fits_reset hf ⟨trivial, trivial, trivial⟩
  refine ⟨hfit, fun h1 hc0 => ⟨fun h2 => ?_, fun h2 => ?_⟩⟩
  · refine byteRow hp (by omega) ?_
    simp -implicitDefEqProofs [u8_i64, go_sem, -List.set_cons_succ, -List.set_cons_zero]
    refine ⟨by omega, Int.tmod_nonneg _ (by omega), fun h => Int.tmod_lt_of_pos _ h⟩
  · have hcl : 0 < c.length := by cases c with | nil => exact absurd rfl hc0 | cons a l => simp
    refine ⟨small_i64 (by omega) (by omega), small_i64 (by omega) (by omega), small_i64 (by omega) (by omega), hc0, ?_⟩
    have hm1 := Int.tmod_nonneg (a := p) (c.length : Int) hp
    have hm2 := Int.tmod_lt_of_pos p (b := (c.length : Int)) (by omega)
    refine byteRow hm1 (by omega) ?_
    have hb1 := (c[(p.tmod ↑c.length).toNat]'(by omega)).toNat_lt
    have hq : 0 ≤ (p * 7 + 3).tmod (c.length : Int) := Int.tmod_nonneg _ (by omega)
    have hq2 := Int.tmod_lt_of_pos (p * 7 + 3) (b := (c.length : Int)) (by omega)
    simp -implicitDefEqProofs [u8_i64, hcl, hi, hl, bytesRows_len, bytesRows_nil, hc0, List.getElem?_set, go_sem, -List.set_cons_succ, -List.set_cons_zero]
    refine ⟨small_i64 (by omega) (by omega), byteRow hq (by omega) ?_⟩
    have hb2 := (c[((p * 7 + 3).tmod ↑c.length).toNat]'(by omega)).toNat_lt
    have hd0 : 0 ≤ p.tdiv (c.length : Int) := Int.tdiv_nonneg hp (by omega)
    have hd1 : p.tdiv (c.length : Int) ≤ p := Int.tdiv_le_self _ hp
    generalize ((c[(p.tmod ↑c.length).toNat]'(by omega)).toNat : Nat) = b1 at hb1
    generalize ((c[((p * 7 + 3).tmod ↑c.length).toNat]'(by omega)).toNat : Nat) = b2 at hb2
    generalize hdd : p.tdiv (c.length : Int) = d at hd0 hd1
    have i1 : inR .i64 ((b2 : Int) * 1117) := small_i64 (by omega) (by omega)
    have i2 : inR .i64 ((b1 : Int) * 131 + (b2 : Int) * 1117) := small_i64 (by omega) (by omega)
    have i3 : inR .i64 ((b1 : Int) * 131 + (b2 : Int) * 1117 + p * 29) := small_i64 (by omega) (by omega)
    have i4 : inR .i64 d := small_i64 (by omega) (by omega)
    have i5 : inR .i64 (d * 53) := small_i64 (by omega) (by omega)
    have i6 : inR .i64 ((b1 : Int) * 131 + (b2 : Int) * 1117 + p * 29 + d * 53) := small_i64 (by omega) (by omega)
    have hw : IntKind.wrap .i64 (b2 : Int) = b2 := by rw [IntKind.wrap_i64]; omega
    generalize hX : (b1 : Int) * 131 + (b2 : Int) * 1117 + p * 29 + d * 53 = X at i6
    have hx0 : 0 ≤ X := by omega
    have hx1 : X < 1099511627776 := by omega
    have j1 : 0 ≤ X.tdiv 64 := Int.tdiv_nonneg hx0 (by omega)
    have j2 : X.tdiv 64 ≤ X := Int.tdiv_le_self _ hx0
    obtain ⟨k1, k2⟩ := xor_small hx0 hx1 j1 (by omega)
    have i7 : inR .i64 (X.tdiv 64) := small_i64 (by omega) (by omega)
    simp -implicitDefEqProofs [hw, hcl, hi, hl, hdd, i1, i2, i3, i4, i5, hX, i6, i7, bytesRows_len, bytesRows_nil, hc0, List.getElem?_set, go_sem, -List.set_cons_succ, -List.set_cons_zero]
    exact ⟨by omega, Int.tmod_nonneg _ k1, fun h => Int.tmod_lt_of_pos _ h⟩

/-- what a function that draws gives: its source stands behind where it stood -/
def Drew (R : A → Prop) (N : Int) (c : List UInt8) (p : Int) (H : Heap) (i : Nat) (r : A) (H' : Heap) : Prop := R r ∧ ∃ p', p ≤ p' ∧ p' ≤ p + N ∧ H' = H.set i (Rd c p')
/-- what a function that draws is shown to give -/
def Draws (f : FuncId) (xs : List A) (N : Int) (R : A → Prop) : Prop :=
  ∀ (c : List UInt8) (p : Int) (H : Heap) (i : Nat), c.length ≤ 2000 → 0 ≤ p → p + N ≤ 1000000 → i < H.length → ACalls Tryz.prog f (.c (.ptr (.e i) 0) :: xs) (H.set i (Rd c p)) (Drew R N c p H i)
/-- an integer in a range -/
def IntIn (lo hi : Int) (r : A) : Prop := ∃ k : Int, r = .c (.d (.int .i64 k)) ∧ lo ≤ k ∧ k < hi
theorem pick_draws (m : Int) (hm : 1 ≤ m ∧ m ≤ 1000000000) : Draws 53 [.c (.d (.int .i64 m))] 1 (IntIn 0 m) := fun c p H i hc hp hp1 hi =>
  (pick_calls c hc p m hp (by omega) ⟨by omega, hm.2⟩ H i hi).mono fun r H' ⟨k, h1, h2, h3, h4⟩ => ⟨⟨k, h1, h2, h3 (by omega)⟩, p + 1, by omega, by omega, h4⟩

/-- a call that draws from a source that was handed in -/
theorem call_drawE {f : FuncId} {xs : List A} {N : Int} {R : A → Prop} (hd : Draws f xs N R) {c : List UInt8} {p : Int} {H : Heap} {i : Nat} {sl : List A} {loc H₂ : Heap} {K : A → St → Prop} (hc : c.length ≤ 2000) (hp : 0 ≤ p) (hp1 : p + N ≤ 1000000) (hi : i < H.length)
    (hH : H₂ = H.set i (Rd c p) ++ loc.map (Ob.re H.length)) (hr : ∀ r, R r → A.re H.length r = r) (hf : Obs.fits H.length 0 (H.set i (Rd c p))) (hk : ∀ r p', R r → p ≤ p' → p' ≤ p + N → K r ⟨sl, H.set i (Rd c p'), loc⟩) :
    ACalls Tryz.prog f (.c (.ptr (.e i) 0) :: xs) H₂ (CallK K ⟨sl, H.set i (Rd c p), loc⟩) := by
  subst hH
  have h := hd c p (H ++ loc.map (Ob.re H.length)) i hc hp hp1 (by simp; omega)
  rw [List.set_append_left _ _ hi] at h
  refine h.mono fun r H' ⟨h1, p', h2, h3, h4⟩ => ?_
  rw [List.set_append_left _ _ hi] at h4
  exact ⟨H.set i (Rd c p'), loc, r, by simpa using h4, by simp, Nat.le_refl _, by simpa using fits_reset (b := Rd c p') hf ⟨trivial, trivial, trivial⟩, by simpa using (hr r h1).symm, hk r p' h1 h2 h3⟩
/-- a call that draws from an own source, the first own object -/
theorem call_drawL {f : FuncId} {xs : List A} {N : Int} {R : A → Prop} (hd : Draws f xs N R) {c : List UInt8} {p : Int} {H : Heap} {sl : List A} {loc H₂ : Heap} {j : Nat} {K : A → St → Prop} (hc : c.length ≤ 2000) (hp : 0 ≤ p) (hp1 : p + N ≤ 1000000) (hj : loc[j]? = some (Rd c p))
    (hH : H₂ = H ++ loc.map (Ob.re H.length)) (hr : ∀ r, R r → A.re H.length r = r) (hf : Obs.fits H.length 0 H) (hk : ∀ r p', R r → p ≤ p' → p' ≤ p + N → K r ⟨sl, H, loc.set j (Rd c p')⟩) :
    ACalls Tryz.prog f (.c (.ptr (.e (H.length + j)) 0) :: xs) H₂ (CallK K ⟨sl, H, loc⟩) := by
  subst hH
  have hjl : j < loc.length := (List.getElem?_eq_some_iff.1 hj).1
  have h := hd c p (H ++ loc.map (Ob.re H.length)) (H.length + j) hc hp hp1 (by simp; omega)
  have e : ∀ q, (H ++ loc.map (Ob.re H.length)).set (H.length + j) (Rd c q) = H ++ (loc.set j (Rd c q)).map (Ob.re H.length) := fun q => by
    rw [List.set_append_right _ _ (by omega), Nat.add_sub_cancel_left, List.map_set]
    rfl
  have e0 : loc.set j (Rd c p) = loc := by
    apply List.ext_getElem?
    intro k
    rw [List.getElem?_set]
    split
    · rename_i h; subst h; rw [hj]
    · rfl
  rw [e, e0] at h
  refine h.mono fun r H' ⟨h1, p', h2, h3, h4⟩ => ?_
  rw [e] at h4
  exact ⟨H, loc.set j (Rd c p'), r, h4, rfl, by simp, hf, (hr r h1).symm, hk r p' h1 h2 h3⟩
theorem IntIn.re {lo hi : Int} {n : Nat} {r : A} (h : IntIn lo hi r) : A.re n r = r := by
  obtain ⟨k, rfl, _⟩ := h
  rfl

theorem num_draws (l : List Int) (hl : 1 ≤ l.length ∧ l.length ≤ 1000) : Draws 37 [.c (.d (.sl (l.map fun n => [.int .i64 n])))] 1 (fun r => ∃ n ∈ l, r = .c (.d (.int .i64 n))) := fun c p H i hc hp hp1 hi => by
  refine acalls Tryz.func37 (by kernel_rfl) ac37_ok fun hf => ?_
  simp only [List.length_set] at hf
  have hll : inR .i64 (l.length : Int) := small_i64 (by omega) (by omega)
  simp -implicitDefEqProofs [ac37, hll, go_sem, -List.set_cons_succ, -List.set_cons_zero]
  refine call_drawE (pick_draws l.length ⟨by omega, by omega⟩) hc hp hp1 hi (by simp) (fun r => IntIn.re) hf ?_
  rintro _ p' ⟨k, rfl, h1, h2⟩ h3 h4
  simp -implicitDefEqProofs [go_sem, -List.set_cons_succ, -List.set_cons_zero]
  have hk : k.toNat < l.length := by omega
  refine row_int [.int .i64 l[k.toNat]] h1 (by simp [hk]) rfl ?_
  simp -implicitDefEqProofs [go_sem, -List.set_cons_succ, -List.set_cons_zero]
  exact ⟨⟨_, List.getElem_mem hk, rfl⟩, p', h3, h4, rfl⟩
theorem open_calls (c : List UInt8) (hc : c.length ≤ 1048576) (H : Heap) : ACalls Tryz.prog 34 [.c (.d (.sl (bytesRows c)))] H (fun r H' => r = .c (.ptr (.e H.length) 0) ∧ ∃ c' : List UInt8, c'.length ≤ 2000 ∧ H' = H ++ [Rd c' 0]) := by
  refine acallsK Tryz.func34 (by kernel_rfl) ac34_ok fun hf => ?_
  have hl : inR .i64 (c.length : Int) := small_i64 (by omega) (by omega)
  simp -implicitDefEqProofs [ac34, hl, bytesRows_len, go_sem, -List.set_cons_succ, -List.set_cons_zero]
  refine ⟨fun h => ⟨?_, by omega, ?_⟩, fun h => ?_⟩
  · intro r hr
    simp only [bytesRows, List.mem_map] at hr
    obtain ⟨b, _, rfl⟩ := hr
    rfl
  · refine finK_ret _ ⟨trivial, trivial⟩ rfl ⟨rfl, c.take 2000, by simp; omega, ?_⟩
    simp [Rd, bytesRows, Ob.re, C.re]
  · refine finK_ret _ ⟨trivial, trivial⟩ rfl ⟨rfl, c, by omega, ?_⟩
    simp [Rd, Ob.re, C.re]
end Go.Proofs.YtgfmlifkhpjplaaGreatDoor

/-
  Terms that are drawn.
  Conditions: none.
-/
open Go Go.AM Go.Proofs
namespace Go.Proofs.YtgfmlifkhpjplaaGreatDoor
open Go.ChangeShapes Go.WideShapes Go.ChangeAt Go.RowKit
set_option linter.unusedVariables false
set_option linter.unusedSimpArgs false
set_option maxRecDepth 100000
-- 54 (*loop.example/prologserver/spec.l18Rd).of params 2 ntmps 12
def ac54 : Cd := .seq (.region [⟨(some 4),.mv (.k (.c (.d (.str [])))),none⟩] [4])
 (.seq (.region [⟨(some 5),.mv (.t 1),none⟩,
 ⟨(some 6),.mv (.t 0),none⟩,
 ⟨(some 7),.mv (.t 1),none⟩,
 ⟨(some 8),.len 1 (.t 7),none⟩,
 ⟨(some 9),.call false 53 [(.t 6),(.t 8)],none⟩,
 ⟨(some 10),.indexAddr 1 (.t 5) (.t 9),none⟩,
 ⟨(some 11),.load none (.t 10),none⟩,
 ⟨(some 4),.mv (.t 11),none⟩] [0,1,5,6,7,8,9,10,11])
 (.ret))
theorem ac54_ok : cFunc Tryz.prog [] [(0,[4],[]),(1,[0,1,5,6,7,8,9,10,11],[])] Tryz.f54 = some (ac54,[.tmp 4],12) := by kernel_rfl
-- 56 loop.example/prologserver/spec.l1Draw params 2 ntmps 65
-- loop head live: [0,1,4,5,6]
def ac56 : Cd := .seq (.region [⟨(some 4),.alloc [(.d (.int .i64 0)),(.d (.int .i64 0)),(.d (.str [])),(.full [])],none⟩] [])
 (.seq (.seq (.region [⟨(some 7),.mv (.t 1),none⟩,
 ⟨(some 8),.bin .lss (.t 7) (.k (.c (.d (.int .i64 2)))),none⟩,
 ⟨(some 9),.mv (.t 8),none⟩,
 ⟨(some 10),.mv (.t 0),some (9,false)⟩,
 ⟨(some 11),.call false 53 [(.t 10),(.k (.c (.d (.int .i64 4))))],some (9,false)⟩,
 ⟨(some 12),.bin .eql (.t 11) (.k (.c (.d (.int .i64 0)))),some (9,false)⟩,
 ⟨(some 13),.pick (.t 9) (.k (.c (.d (.bool true)))) (.t 12),none⟩] [7,8,9,10,11,12])
 (.cond (.t 13)
 (.seq (.seq (.region [⟨(some 14),.mv (.t 0),none⟩,
 ⟨(some 15),.call false 53 [(.t 14),(.k (.c (.d (.int .i64 4))))],none⟩] [1,13,14])
 (.block 0 (.seq (.region [⟨(some 17),.bin .eql (.t 15) (.k (.c (.d (.int .i64 0)))),none⟩,
 ⟨(some 16),.mv (.t 17),none⟩] [17])
 (.cond (.t 16)
 (.seq (.region [⟨(some 18),.mv (.t 0),none⟩,
 ⟨(some 19),.call false 53 [(.t 18),(.k (.c (.d (.int .i64 4))))],none⟩,
 ⟨(some 20),.qcall 79 [(.t 19)],none⟩,
 ⟨none,.store 4 (.t 4) (.t 20),none⟩] [0,15,16,18,19,20])
 (.ret))
 (.seq (.region [⟨(some 22),.bin .eql (.t 15) (.k (.c (.d (.int .i64 1)))),none⟩,
 ⟨(some 21),.mv (.t 22),none⟩] [15,16,22])
 (.cond (.t 21)
 (.seq (.region [⟨(some 23),.mv (.t 0),none⟩,
 ⟨(some 24),.buildSlice 1 6 [(.int .i64 0)] [(0,(.k (.c (.d (.int .i64 0))))),(1,(.k (.c (.d (.int .i64 1))))),(2,(.k (.c (.d (.int .i64 7))))),(3,(.k (.c (.d (.int .i64 (-3)))))),(4,(.k (.c (.d (.int .i64 999))))),(5,(.k (.c (.d (.int .i64 (-999))))))],none⟩,
 ⟨(some 25),.call false 37 [(.t 23),(.t 24)],none⟩,
 ⟨(some 26),.qcall 55 [(.t 25)],none⟩,
 ⟨none,.store 4 (.t 4) (.t 26),none⟩] [0,21,23,24,25,26])
 (.ret))
 (.skip)))))))
 (.seq (.region [⟨(some 27),.mv (.t 0),none⟩,
 ⟨(some 28),.buildSlice 1 6 [(.str [])] [(0,(.k (.c (.d (.str [97]))))),(1,(.k (.c (.d (.str [98]))))),(2,(.k (.c (.d (.str [110,105,108]))))),(3,(.k (.c (.d (.str [91,93]))))),(4,(.k (.c (.d (.str [102,111,111]))))),(5,(.k (.c (.d (.str [43])))))],none⟩,
 ⟨(some 29),.call false 54 [(.t 27),(.t 28)],none⟩,
 ⟨(some 30),.call false 48 [(.t 29),(.k (.c (.full [])))],none⟩,
 ⟨none,.store 4 (.t 4) (.t 30),none⟩] [0,21,27,28,29,30])
 (.ret)))
 (.skip)))
 (.seq (.seq (.region [⟨(some 31),.mv (.t 0),none⟩,
 ⟨(some 32),.call false 53 [(.t 31),(.k (.c (.d (.int .i64 3))))],none⟩,
 ⟨(some 33),.bin .eql (.t 32) (.k (.c (.d (.int .i64 0)))),none⟩] [13,31,32])
 (.cond (.t 33)
 (.seq (.region [⟨(some 34),.mv (.t 0),none⟩,
 ⟨(some 35),.mv (.t 1),none⟩,
 ⟨(some 36),.bin .sub (.t 35) (.k (.c (.d (.int .i64 1)))),none⟩,
 ⟨(some 37),.callL false false 56 [(.t 34),(.t 36)],none⟩,
 ⟨(some 38),.mv (.t 0),none⟩,
 ⟨(some 39),.mv (.t 1),none⟩,
 ⟨(some 40),.bin .sub (.t 39) (.k (.c (.d (.int .i64 1)))),none⟩,
 ⟨(some 41),.callL false false 56 [(.t 38),(.t 40)],none⟩,
 ⟨(some 42),.buildSlice 4 2 [(.int .i64 0),(.int .i64 0),(.str []),(.sl [])] [(0,(.t 37)),(1,(.t 41))],none⟩,
 ⟨(some 43),.call false 48 [(.k (.c (.d (.str [46])))),(.t 42)],none⟩,
 ⟨none,.store 4 (.t 4) (.t 43),none⟩] [0,1,33,34,35,36,37,38,39,40,41,42,43])
 (.ret))
 (.skip)))
 (.seq (.region [⟨(some 44),.mv (.t 0),none⟩,
 ⟨(some 45),.buildSlice 1 7 [(.str [])] [(0,(.k (.c (.d (.str [102]))))),(1,(.k (.c (.d (.str [103]))))),(2,(.k (.c (.d (.str [115]))))),(3,(.k (.c (.d (.str [43]))))),(4,(.k (.c (.d (.str [61]))))),(5,(.k (.c (.d (.str [105,115]))))),(6,(.k (.c (.d (.str [102,111,111])))))],none⟩,
 ⟨(some 46),.call false 54 [(.t 44),(.t 45)],none⟩,
 ⟨(some 47),.call false 48 [(.t 46),(.k (.c (.full [])))],none⟩,
 ⟨(some 5),.alloc [(.d (.int .i64 0)),(.d (.int .i64 0)),(.d (.str [])),(.full [])],none⟩,
 ⟨none,.store 4 (.t 5) (.t 47),none⟩] [33,44,45,46,47])
 (.seq (.seq (.region [⟨(some 48),.mv (.t 0),none⟩,
 ⟨(some 49),.buildSlice 1 4 [(.int .i64 0)] [(0,(.k (.c (.d (.int .i64 2))))),(1,(.k (.c (.d (.int .i64 1))))),(2,(.k (.c (.d (.int .i64 3))))),(3,(.k (.c (.d (.int .i64 2)))))],none⟩,
 ⟨(some 50),.call false 37 [(.t 48),(.t 49)],none⟩,
 ⟨(some 6),.mv (.t 50),none⟩] [48,49,50])
 (.block 1 (.loop (.seq (.seq (.region [⟨(some 51),.mv (.t 6),none⟩,
 ⟨(some 52),.bin .gtr (.t 51) (.k (.c (.d (.int .i64 0)))),none⟩] [51])
 (.cond (.t 52)
 (.skip)
 (.exit 1)))
 (.seq (.block 2 (.region [⟨(some 55),.fieldAddr 3 (.t 5),none⟩,
 ⟨(some 57),.mv (.t 0),none⟩,
 ⟨(some 58),.mv (.t 1),none⟩,
 ⟨(some 59),.bin .sub (.t 58) (.k (.c (.d (.int .i64 1)))),none⟩,
 ⟨(some 56),.loadL false none (.t 55),none⟩,
 ⟨(some 60),.callL false false 56 [(.t 57),(.t 59)],none⟩,
 ⟨(some 61),.buildSlice 4 1 [(.int .i64 0),(.int .i64 0),(.str []),(.sl [])] [(0,(.t 60))],none⟩,
 ⟨(some 62),.append false 4 (.t 56) (.t 61),none⟩,
 ⟨(some 63),.fieldAddr 3 (.t 5),none⟩,
 ⟨none,.store 1 (.t 63) (.t 62),none⟩] [52,55,56,57,58,59,60,61,62,63]))
 (.region [⟨(some 53),.mv (.t 6),none⟩,
 ⟨(some 54),.bin .sub (.t 53) (.k (.c (.d (.int .i64 1)))),none⟩,
 ⟨(some 6),.mv (.t 54),none⟩] [53,54]))))))
 (.seq (.region [⟨(some 64),.load (some 4) (.t 5),none⟩,
 ⟨none,.store 4 (.t 4) (.t 64),none⟩] [5,64])
 (.ret))))))
theorem ac56_ok : cFunc Tryz.prog [1000055,1000079,5000055,6000056] [(0,[],[]),(1,[7,8,9,10,11,12],[]),(2,[1,13,14],[]),(3,[17],[]),(4,[0,15,16,18,19,20],[]),(5,[15,16,22],[]),(6,[0,21,23,24,25,26],[]),(7,[0,21,27,28,29,30],[]),(8,[13,31,32],[]),(9,[0,1,33,34,35,36,37,38,39,40,41,42,43],[]),(10,[33,44,45,46,47],[]),(11,[48,49,50],[]),(12,[51],[]),(14,[52,55,56,57,58,59,60,61,62,63],[0,2,3,4,1,5,6,7,8,9]),(13,[53,54],[]),(15,[5,64],[])] Tryz.f56 = some (ac56,[.cell 4 (some 4)],65) := by kernel_rfl
namespace Full
-- 48 loop.example/prologserver/spec.l1Struct params 2 ntmps 10
def ac48 : Cd := .seq (.region [⟨(some 4),.alloc [(.d (.int .i64 0)),(.d (.int .i64 0)),(.d (.str [])),(.full [])],none⟩] [])
 (.seq (.region [⟨(some 5),.mv (.t 0),none⟩,
 ⟨(some 6),.buildSlice 4 0 [(.int .i64 0),(.int .i64 0),(.str []),(.sl [])] [],none⟩,
 ⟨(some 7),.mv (.t 1),none⟩,
 ⟨(some 8),.appendF 4 (.t 6) (.t 7),none⟩,
 ⟨(some 9),.build [(.d (.int .i64 0)),(.d (.int .i64 0)),(.d (.str [])),(.full [])] [(0,1,(.k (.c (.d (.int .i64 3))))),(2,1,(.t 5)),(3,1,(.t 8))],none⟩,
 ⟨none,.store 4 (.t 4) (.t 9),none⟩] [0,1,5,6,7,8,9])
 (.ret))
theorem ac48_ok : cFunc Tryz.prog [3000006] [(0,[],[]),(1,[0,1,5,6,7,8,9],[])] Tryz.f48 = some (ac48,[.cell 4 (some 4)],10) := by kernel_rfl
end Full
theorem of_draws (l : List (List UInt8)) (hl : 1 ≤ l.length ∧ l.length ≤ 1000) : Draws 54 [.c (.d (.sl (l.map fun s => [.str s])))] 1 (fun r => ∃ s ∈ l, r = .c (.d (.str s))) := fun c p H i hc hp hp1 hi => by
  refine acalls Tryz.func54 (by kernel_rfl) ac54_ok fun hf => ?_
  simp only [List.length_set] at hf
  have hll : inR .i64 (l.length : Int) := small_i64 (by omega) (by omega)
  simp -implicitDefEqProofs [ac54, hll, go_sem, -List.set_cons_succ, -List.set_cons_zero]
  refine call_drawE (pick_draws l.length ⟨by omega, by omega⟩) hc hp hp1 hi (by simp) (fun r => IntIn.re) hf ?_
  rintro _ p' ⟨k, rfl, h1, h2⟩ h3 h4
  simp -implicitDefEqProofs [go_sem, -List.set_cons_succ, -List.set_cons_zero]
  have hk : k.toNat < l.length := by omega
  refine row_int [.str l[k.toNat]] h1 (by simp [hk]) rfl ?_
  simp -implicitDefEqProofs [go_sem, -List.set_cons_succ, -List.set_cons_zero]
  exact ⟨⟨_, List.getElem_mem hk, rfl⟩, p', h3, h4, rfl⟩
/-- a structure without arguments: nothing stands behind its arguments -/
theorem struct_full (name : List UInt8) (H : Heap) : ACalls Tryz.prog 48 [.c (.d (.str name)), .c (.d (.sl []))] H (fun r H' => H' = H ++ [.cells [.d (.int .i64 3), .d (.int .i64 0), .d (.str name), .full []]] ∧ r = .agg [.d (.int .i64 3), .d (.int .i64 0), .d (.str name), .full []]) := by
  refine acallsK Tryz.func48 (by kernel_rfl) Full.ac48_ok fun hf => ?_
  simp -implicitDefEqProofs [Full.ac48, hf, go_sem, -List.set_cons_succ, -List.set_cons_zero]
  refine finK_ret _ ⟨trivial, trivial⟩ rfl ?_
  simp [Ob.re, C.re, A.re]
/-- a call that leaves one object more, which looks at no other -/
theorem call_new {P : Program} {f : FuncId} {xs : List A} {sl : List A} {ext loc H₂ : Heap} {o : Ob} {r : A} {K : A → St → Prop} (hc : ∀ H, ACalls P f xs H (fun r' H' => H' = H ++ [o] ∧ r' = r)) (ho : Ob.re ext.length o = o) (hr : A.re ext.length r = r)
    (hf : Obs.fits ext.length 0 ext) (hH : H₂ = ext ++ loc.map (Ob.re ext.length)) (hk : K r ⟨sl, ext, loc ++ [o]⟩) : ACalls P f xs H₂ (CallK K ⟨sl, ext, loc⟩) := by
  subst hH
  exact (hc _).mono fun r' H' ⟨h1, h2⟩ => ⟨ext, loc ++ [o], r, by rw [h1, List.append_assoc, List.map_append]; simp [ho], rfl, by simp, hf, by rw [h2]; exact hr.symm, hk⟩
/-- a term that a law looks at -/
def TmR (r : A) : Prop := ∃ t : Tm, r = .agg (t.row.map .d) ∧ t.fits
theorem TmR.re {n : Nat} {r : A} (h : TmR r) : A.re n r = r := by
  obtain ⟨t, rfl, _⟩ := h
  simp [A.re, re_d]
/-- the names that are drawn -/
def drawNames : List (List UInt8) := [[97], [98], [110, 105, 108], [91, 93], [102, 111, 111], [43], [46], [102], [103], [115], [61], [105, 115]]
theorem draw_names {l : List (List UInt8)} {s : List UInt8} (h : s ∈ l) (hl : l.all (drawNames.contains ·) = true := by decide) : s ∈ drawNames := by
  simp only [List.all_eq_true, List.contains_iff_mem] at hl
  exact hl s h
/-- a term that is drawn -/
def TmP (P : Tm → Prop) (r : A) : Prop := ∃ t : Tm, r = .agg (t.row.map .d) ∧ t.fits ∧ P t
theorem TmP.re {P : Tm → Prop} {n : Nat} {r : A} (h : TmP P r) : A.re n r = r := by
  obtain ⟨t, rfl, _⟩ := h
  simp [A.re, re_d]
theorem draw_of {P Q : Tm → Prop} (hP1 : ∀ n, 0 ≤ n → n ≤ 25 → P (.mk 1 n [] [])) (hP2 : ∀ n, -999 ≤ n → n ≤ 999 → P (.mk 2 n [] [])) (hP3 : ∀ s ∈ drawNames, ∀ l : List Tm, l.length ≤ 3 → (∀ t ∈ l, Q t) → P (.mk 3 0 s l))
    (d : Nat) (hd : d ≤ 6) (M N : Int) (hM : 0 ≤ M) (hN : 4 + 3 * M ≤ N) (ih : 2 ≤ d → Draws 56 [.c (.d (.int .i64 ((d : Int) - 1)))] M (TmP Q)) : Draws 56 [.c (.d (.int .i64 d))] N (TmP P) := fun c p H i hc hp hp1 hi => by
  refine acalls Tryz.func56 (by kernel_rfl) ac56_ok fun hf => ?_
  simp only [List.length_set] at hf
  simp -implicitDefEqProofs [ac56, go_sem, -List.set_cons_succ, -List.set_cons_zero]
  have hf0 : ∀ q, Obs.fits H.length 0 (H.set i (Rd c q)) := fun q => fits_reset (b := Rd c q) hf ⟨trivial, trivial, trivial⟩
  have hf1 : ∀ q, Obs.fits (H.set i (Rd c q)).length 0 (H.set i (Rd c q)) := fun q => by simpa using hf0 q
  have done : ∀ (t : Tm) (q : Int), p ≤ q → q ≤ p + N → t.fits → P t → ∀ r, r = .agg (t.row.map .d) → Drew (TmP P) N c p H i r (H.set i (Rd c q)) := fun t q a1 a2 a3 a4 r hr => ⟨⟨t, hr, a3, a4⟩, q, a1, a2, rfl⟩
  refine ⟨fun h2 => ⟨h2, ?_⟩, fun h2 => ?_⟩
  · refine call_drawE (pick_draws 4 (by omega)) hc hp (by omega) hi (by simp [Ob.re, C.re]) (fun r => IntIn.re) (hf0 _) ?_
    rintro _ p0 ⟨k, rfl, k0, k1⟩ h3 h4
    have hd0 : ¬ ((d : Int) < 2) := by omega
    simp -implicitDefEqProofs [hf0, hd0, go_sem, -List.set_cons_succ, -List.set_cons_zero]
    refine ⟨fun _ => ?_, fun _ => ?_⟩
    · skip
      refine call_drawE (pick_draws 4 (by omega)) hc (by omega) (by omega) hi (by simp [Ob.re, C.re]) (fun r => IntIn.re) (hf0 _) ?_
      rintro _ p1 ⟨k, rfl, k0, k1⟩ h3 h4
      simp -implicitDefEqProofs [hf0, go_sem, -List.set_cons_succ, -List.set_cons_zero]
      refine ⟨fun _ => ?_, fun _ => ⟨fun _ => ?_, fun _ => ?_⟩⟩
      · refine call_drawE (pick_draws 4 (by omega)) hc (by omega) (by omega) hi (by simp [Ob.re, C.re]) (fun r => IntIn.re) (hf0 _) ?_
        rintro _ p2 ⟨n, rfl, n0, n1⟩ h5 h6
        simp -implicitDefEqProofs [hf0, go_sem, -List.set_cons_succ, -List.set_cons_zero]
        refine qcall_pure (var_calls n) (hf1 _) (by simp [A.re, re_d]) ?_
        simp -implicitDefEqProofs [hf0, row_mk, go_sem, -List.set_cons_succ, -List.set_cons_zero]
        exact done (.mk 1 n [] []) p2 (by omega) (by omega) (.mk (small_i64 (by omega) (by omega)) (small_i64 (by omega) (by omega)) (by simp) (by simp) (by simp)) (hP1 n (by omega) (by omega)) _ (by simp [row_mk])
      · refine call_drawE (num_draws [0, 1, 7, -3, 999, -999] (by decide)) hc (by omega) (by omega) hi (by simp [Ob.re, C.re]) (fun r ⟨n, _, hn⟩ => by subst hn; rfl) (hf0 _) ?_
        rintro _ p2 ⟨n, hn, rfl⟩ h5 h6
        have hn : -999 ≤ n ∧ n ≤ 999 := by simp at hn; omega
        simp -implicitDefEqProofs [hf0, go_sem, -List.set_cons_succ, -List.set_cons_zero]
        refine qcall_pure (int_calls n) (hf1 _) (by simp [A.re, re_d]) ?_
        simp -implicitDefEqProofs [hf0, row_mk, go_sem, -List.set_cons_succ, -List.set_cons_zero]
        exact done (.mk 2 n [] []) p2 (by omega) (by omega) (.mk (small_i64 (by omega) (by omega)) (small_i64 (by omega) (by omega)) (by simp) (by simp) (by simp)) (hP2 n (by omega) (by omega)) _ (by simp [row_mk])
      · refine call_drawE (of_draws [[97], [98], [110, 105, 108], [91, 93], [102, 111, 111], [43]] (by decide)) hc (by omega) (by omega) hi (by simp [Ob.re, C.re]) (fun r ⟨n, _, hn⟩ => by subst hn; rfl) (hf0 _) ?_
        rintro _ p2 ⟨s, hs, rfl⟩ h5 h6
        have hsm : s ∈ drawNames := draw_names hs
        have hs : s.length ≤ 3 := by simp at hs; rcases hs with rfl | rfl | rfl | rfl | rfl | rfl <;> decide
        simp -implicitDefEqProofs [hf0, go_sem, -List.set_cons_succ, -List.set_cons_zero]
        refine call_new (struct_full s) (by simp [Ob.re, C.re]) (by simp [A.re, C.re]) (hf1 _) (by simp [Ob.re, C.re]) ?_
        simp -implicitDefEqProofs [hf0, go_sem, -List.set_cons_succ, -List.set_cons_zero]
        exact done (.mk 3 0 s []) p2 (by omega) (by omega) (.mk (small_i64 (by omega) (by omega)) (small_i64 (by omega) (by omega)) (by omega) (by simp) (by simp)) (hP3 s hsm [] (by simp) (by simp)) _ (by simp [row_mk])
    · refine call_drawE (pick_draws 3 (by omega)) hc (by omega) (by omega) hi (by simp [Ob.re, C.re]) (fun r => IntIn.re) (hf0 _) ?_
      rintro _ p1 ⟨k2, rfl, k3, k4⟩ h5 h6
      have hsub : inR .i64 ((d : Int) - 1) := small_i64 (by omega) (by omega)
      simp -implicitDefEqProofs [hf0, hsub, go_sem, -List.set_cons_succ, -List.set_cons_zero]
      refine ⟨fun _ => ?_, fun _ => ?_⟩
      · refine call_drawE (ih (by omega)) hc (by omega) (by omega) hi (by simp [Ob.re, C.re]) (fun r => TmP.re) (hf0 _) ?_
        rintro _ p2 ⟨a, rfl, ha, haQ⟩ h7 h8
        refine ⟨LocSame.refl _, ?_⟩
        simp -implicitDefEqProofs [hf0, hsub, row_len, take_row, go_sem, -List.set_cons_succ, -List.set_cons_zero]
        refine call_drawE (ih (by omega)) hc (by omega) (by omega) hi (by simp [Ob.re, C.re]) (fun r => TmP.re) (hf0 _) ?_
        rintro _ p3 ⟨b, rfl, hb, hbQ⟩ h9 h10
        refine ⟨LocSame.refl _, ?_⟩
        simp -implicitDefEqProofs [hf0, hsub, row_len, take_row, toDs_map, go_sem, -List.set_cons_succ, -List.set_cons_zero]
        have hs := struct_calls [46] [a, b] (by simp)
        simp only [List.map_cons, List.map_nil] at hs
        refine call_same (r := .agg ((Tm.mk 3 0 [46] [a, b]).row.map .d)) (hs _) (by simp [Ob.re, C.re]) (by simp [A.re, re_d]) (hf1 _) ?_
        simp -implicitDefEqProofs [hf0, row_mk, go_sem, -List.set_cons_succ, -List.set_cons_zero]
        exact done (.mk 3 0 [46] [a, b]) p3 (by omega) (by omega) (.mk (small_i64 (by omega) (by omega)) (small_i64 (by omega) (by omega)) (by simp) (by simp) (by simp [ha, hb])) (hP3 [46] (by decide) [a, b] (by simp) (by simp [haQ, hbQ])) _ (by simp [row_mk])
      · refine call_drawE (of_draws [[102], [103], [115], [43], [61], [105, 115], [102, 111, 111]] (by decide)) hc (by omega) (by omega) hi (by simp [Ob.re, C.re]) (fun r ⟨n, _, hn⟩ => by subst hn; rfl) (hf0 _) ?_
        rintro _ p2 ⟨s, hs, rfl⟩ h7 h8
        have hsm : s ∈ drawNames := draw_names hs
        have hs : s.length ≤ 3 := by simp at hs; rcases hs with rfl | rfl | rfl | rfl | rfl | rfl | rfl <;> decide
        simp -implicitDefEqProofs [hf0, go_sem, -List.set_cons_succ, -List.set_cons_zero]
        refine call_new (struct_full s) (by simp [Ob.re, C.re]) (by simp [A.re, C.re]) (hf1 _) (by simp [Ob.re, C.re]) ?_
        simp -implicitDefEqProofs [hf0, go_sem, -List.set_cons_succ, -List.set_cons_zero]
        refine call_drawE (num_draws [2, 1, 3, 2] (by decide)) hc (by omega) (by omega) hi (by simp [Ob.re, C.re]) (fun r ⟨n, _, hn⟩ => by subst hn; rfl) (hf0 _) ?_
        rintro _ p3 ⟨n, hn, rfl⟩ h9 h10
        have hn : 0 ≤ n ∧ n ≤ 3 := by simp at hn; omega
        have hnM : n * M ≤ 3 * M := Int.mul_le_mul_of_nonneg_right hn.2 hM
        simp -implicitDefEqProofs [hf0, go_sem, -List.set_cons_succ, -List.set_cons_zero]
        refine loop_enter (St.le_tokenC 2 3 4 rfl rfl) ?_
        refine loop_set (σ := Int × List Tm × Int) (fun x => [(6, .c (.d (.int .i64 x.1)))]) (fun x => H.set i (Rd c x.2.2)) (fun x => [.cells [.d (.int .i64 0), .d (.int .i64 0), .d (.str []), .full []], .cells [.d (.int .i64 3), .d (.int .i64 0), .d (.str s), .full []], .cells [.d (.int .i64 3), .d (.int .i64 0), .d (.str s), .own (.l 3) x.2.1.length (x.2.1.map Tm.row)], .grow x.2.1.length 4])
          (fun x => 0 ≤ x.1 ∧ x.1 + x.2.1.length ≤ 3 ∧ p ≤ x.2.2 ∧ x.2.2 + x.1 * M ≤ p + N ∧ (∀ t ∈ x.2.1, t.fits) ∧ ∀ t ∈ x.2.1, Q t) (fun x => x.1.toNat) (n, [], p3) rfl ⟨hn.1, by simp; omega, by simp; omega, by simp; omega, by simp, by simp⟩ ?_
        rintro ⟨m, l, q⟩ ⟨i0, i1, i2, i3, i4, i5⟩
        simp only at i0 i1 i2 i3 i4 i5
        have hmM : 0 ≤ m * M := Int.mul_nonneg i0 hM
        simp -implicitDefEqProofs [setAll, hf0, hsub, go_sem, -List.set_cons_succ, -List.set_cons_zero]
        refine ⟨fun hlt => ?_, fun hge => ?_⟩
        · have hm1 : (m - 1) * M = m * M - M := by rw [Int.sub_mul, Int.one_mul]
          have hm2 : 0 ≤ (m - 1) * M := Int.mul_nonneg (by omega) hM
          have hsubm : inR .i64 (m - 1) := small_i64 (by omega) (by omega)
          refine call_drawE (ih (by omega)) hc (by omega) (by omega) hi (by simp [Ob.re, C.re]) (fun r => TmP.re) (hf0 _) ?_
          rintro _ q2 ⟨a, rfl, ha, haQ⟩ h11 h12
          refine ⟨LocSame.refl _, ?_⟩
          simp -implicitDefEqProofs [hf0, hsubm, row_len, take_row, toDs_map, go_sem, -List.set_cons_succ, -List.set_cons_zero]
          refine ⟨allLen_map row_len, by unfold maxApp; omega, ?_⟩
          refine loop_back (m - 1, l ++ [a], q2) (by simp [setAll]) ⟨by simp; omega, by simp; omega, by simp; omega, by simp; omega, fun t ht => ?_, fun t ht => ?_⟩ (by show (m - 1).toNat < m.toNat; omega)
          · rcases List.mem_append.1 ht with ht | ht
            · exact i4 t ht
            · simp at ht; subst ht; exact ha
          · rcases List.mem_append.1 ht with ht | ht
            · exact i5 t ht
            · simp at ht; subst ht; exact haQ
        · exact done (.mk 3 0 s l) q i2 (by omega) (.mk (small_i64 (by omega) (by omega)) (small_i64 (by omega) (by omega)) (by omega) (by omega) i4) (hP3 s hsm l (by omega) i5) _ (by simp [row_mk])
  · skip
    refine call_drawE (pick_draws 4 (by omega)) hc (by omega) (by omega) hi (by simp [Ob.re, C.re]) (fun r => IntIn.re) (hf0 _) ?_
    rintro _ p1 ⟨k, rfl, k0, k1⟩ h3 h4
    simp -implicitDefEqProofs [hf0, go_sem, -List.set_cons_succ, -List.set_cons_zero]
    refine ⟨fun _ => ?_, fun _ => ⟨fun _ => ?_, fun _ => ?_⟩⟩
    · refine call_drawE (pick_draws 4 (by omega)) hc (by omega) (by omega) hi (by simp [Ob.re, C.re]) (fun r => IntIn.re) (hf0 _) ?_
      rintro _ p2 ⟨n, rfl, n0, n1⟩ h5 h6
      simp -implicitDefEqProofs [hf0, go_sem, -List.set_cons_succ, -List.set_cons_zero]
      refine qcall_pure (var_calls n) (hf1 _) (by simp [A.re, re_d]) ?_
      simp -implicitDefEqProofs [hf0, row_mk, go_sem, -List.set_cons_succ, -List.set_cons_zero]
      exact done (.mk 1 n [] []) p2 (by omega) (by omega) (.mk (small_i64 (by omega) (by omega)) (small_i64 (by omega) (by omega)) (by simp) (by simp) (by simp)) (hP1 n (by omega) (by omega)) _ (by simp [row_mk])
    · refine call_drawE (num_draws [0, 1, 7, -3, 999, -999] (by decide)) hc (by omega) (by omega) hi (by simp [Ob.re, C.re]) (fun r ⟨n, _, hn⟩ => by subst hn; rfl) (hf0 _) ?_
      rintro _ p2 ⟨n, hn, rfl⟩ h5 h6
      have hn : -999 ≤ n ∧ n ≤ 999 := by simp at hn; omega
      simp -implicitDefEqProofs [hf0, go_sem, -List.set_cons_succ, -List.set_cons_zero]
      refine qcall_pure (int_calls n) (hf1 _) (by simp [A.re, re_d]) ?_
      simp -implicitDefEqProofs [hf0, row_mk, go_sem, -List.set_cons_succ, -List.set_cons_zero]
      exact done (.mk 2 n [] []) p2 (by omega) (by omega) (.mk (small_i64 (by omega) (by omega)) (small_i64 (by omega) (by omega)) (by simp) (by simp) (by simp)) (hP2 n (by omega) (by omega)) _ (by simp [row_mk])
    · refine call_drawE (of_draws [[97], [98], [110, 105, 108], [91, 93], [102, 111, 111], [43]] (by decide)) hc (by omega) (by omega) hi (by simp [Ob.re, C.re]) (fun r ⟨n, _, hn⟩ => by subst hn; rfl) (hf0 _) ?_
      rintro _ p2 ⟨s, hs, rfl⟩ h5 h6
      have hsm : s ∈ drawNames := draw_names hs
      have hs : s.length ≤ 3 := by simp at hs; rcases hs with rfl | rfl | rfl | rfl | rfl | rfl <;> decide
      simp -implicitDefEqProofs [hf0, go_sem, -List.set_cons_succ, -List.set_cons_zero]
      refine call_new (struct_full s) (by simp [Ob.re, C.re]) (by simp [A.re, C.re]) (hf1 _) (by simp [Ob.re, C.re]) ?_
      simp -implicitDefEqProofs [hf0, go_sem, -List.set_cons_succ, -List.set_cons_zero]
      exact done (.mk 3 0 s []) p2 (by omega) (by omega) (.mk (small_i64 (by omega) (by omega)) (small_i64 (by omega) (by omega)) (by omega) (by simp) (by simp)) (hP3 s hsm [] (by simp) (by simp)) _ (by simp [row_mk])
/-- whatever holds of leaves and is handed on, holds of what is drawn -/
theorem l1DrawP_draws (P : Nat → Tm → Prop) (h1 : ∀ d n, 0 ≤ n → n ≤ 25 → P d (.mk 1 n [] [])) (h2 : ∀ d n, -999 ≤ n → n ≤ 999 → P d (.mk 2 n [] [])) (h30 : ∀ s ∈ drawNames, P 0 (.mk 3 0 s []))
    (h3 : ∀ d, ∀ s ∈ drawNames, ∀ l : List Tm, l.length ≤ 3 → (∀ t ∈ l, P d t) → P (d + 1) (.mk 3 0 s l)) : ∀ d : Nat, d ≤ 6 → Draws 56 [.c (.d (.int .i64 d))] ((5 * 4 ^ d : Nat) : Int) (TmP (P d))
  | 0, h => draw_of (P := P 0) (Q := fun _ => False) (h1 0) (h2 0) (fun s hs l hl hq => by
      cases l with
      | nil => exact h30 s hs
      | cons a l => exact (hq a (by simp)).elim) 0 h 0 _ (by omega) (by decide) (fun h => absurd h (by omega))
  | d + 1, h => by
    refine draw_of (h1 _) (h2 _) (h3 d) (d + 1) h ((5 * 4 ^ d : Nat) : Int) _ (by omega) ?_ fun _ => ?_
    · have : 0 < 4 ^ d := Nat.pos_of_ne_zero (by simp)
      rw [Nat.pow_succ]; omega
    · have := l1DrawP_draws P h1 h2 h30 h3 d (by omega)
      rw [show (((d + 1 : Nat) : Int) - 1) = (d : Int) by omega]
      exact this
theorem l1Draw_draws (d : Nat) (hd : d ≤ 6) : Draws 56 [.c (.d (.int .i64 d))] ((5 * 4 ^ d : Nat) : Int) TmR := fun c p H i hc hp hp1 hi =>
  (l1DrawP_draws (fun _ _ => True) (fun _ _ _ _ => trivial) (fun _ _ _ _ => trivial) (fun _ _ => trivial) (fun _ _ _ _ _ _ => trivial) d hd c p H i hc hp hp1 hi).mono fun r H' ⟨⟨t, h1, h2, _⟩, h3⟩ => ⟨⟨t, h1, h2⟩, h3⟩
end Go.Proofs.YtgfmlifkhpjplaaGreatDoor

/-
  Terms that are drawn: copies that are changed.
  Conditions: none.
-/
open Go Go.AM Go.Proofs
namespace Go.Proofs.YtgfmlifkhpjplaaGreatDoor
open Go.ChangeShapes Go.WideShapes Go.ChangeAt Go.RowKit
set_option linter.unusedVariables false
set_option linter.unusedSimpArgs false
set_option maxRecDepth 100000
-- 75 loop.example/prologserver/spec.l1Some params 1 ntmps 8
def ac35 : Cd := .seq (.region [⟨(some 3),.box (.t 1),none⟩,
 ⟨(some 4),.alloc [(.d (.int .i64 0)),(.d (.int .i64 0)),(.d (.str [])),(.full [])],none⟩] [1])
 (.seq (.region [⟨(some 7),.load (some 4) (.t 3),none⟩,
 ⟨(some 8),.call false 29 [(.t 7)],none⟩,
 ⟨(some 5),.alloc [(.d (.int .i64 0)),(.d (.int .i64 0)),(.d (.str [])),(.full [])],none⟩,
 ⟨none,.store 4 (.t 5) (.t 8),none⟩] [3,7,8])
 (.seq (.seq (.region [⟨(some 9),.mv (.t 0),none⟩,
 ⟨(some 10),.call false 53 [(.t 9),(.k (.c (.d (.int .i64 50))))],none⟩] [9])
 (.block 0 (.seq (.region [⟨(some 12),.bin .eql (.t 10) (.k (.c (.d (.int .i64 0)))),none⟩,
 ⟨(some 11),.mv (.t 12),none⟩] [12])
 (.cond (.t 11)
 (.region [⟨(some 13),.mv (.t 0),none⟩,
 ⟨(some 14),.buildSlice 1 5 [(.int .i64 0)] [(0,(.k (.c (.d (.int .i64 0))))),(1,(.k (.c (.d (.int .i64 4))))),(2,(.k (.c (.d (.int .i64 1))))),(3,(.k (.c (.d (.int .i64 2))))),(4,(.k (.c (.d (.int .i64 3)))))],none⟩,
 ⟨(some 15),.call false 37 [(.t 13),(.t 14)],none⟩,
 ⟨(some 16),.fieldAddr 0 (.t 5),none⟩,
 ⟨none,.store 1 (.t 16) (.t 15),none⟩] [0,10,11,13,14,15,16])
 (.seq (.region [⟨(some 18),.bin .eql (.t 10) (.k (.c (.d (.int .i64 1)))),none⟩,
 ⟨(some 17),.mv (.t 18),none⟩] [11,18])
 (.cond (.t 17)
 (.region [⟨(some 19),.mv (.t 0),none⟩,
 ⟨(some 20),.buildSlice 1 5 [(.int .i64 0)] [(0,(.k (.c (.d (.int .i64 26))))),(1,(.k (.c (.d (.int .i64 1000))))),(2,(.k (.c (.d (.int .i64 (-1000)))))),(3,(.k (.c (.d (.int .i64 (-1)))))),(4,(.k (.c (.d (.int .i64 1)))))],none⟩,
 ⟨(some 21),.call false 37 [(.t 19),(.t 20)],none⟩,
 ⟨(some 22),.fieldAddr 1 (.t 5),none⟩,
 ⟨none,.store 1 (.t 22) (.t 21),none⟩] [0,10,17,19,20,21,22])
 (.seq (.region [⟨(some 24),.bin .eql (.t 10) (.k (.c (.d (.int .i64 2)))),none⟩,
 ⟨(some 23),.mv (.t 24),none⟩] [17,24])
 (.cond (.t 23)
 (.region [⟨(some 25),.mv (.t 0),none⟩,
 ⟨(some 26),.buildSlice 1 5 [(.str [])] [(0,(.k (.c (.d (.str []))))),(1,(.k (.c (.d (.str [88]))))),(2,(.k (.c (.d (.str [116,111,111,108,111,110,103]))))),(3,(.k (.c (.d (.str [195,169]))))),(4,(.k (.c (.d (.str [97])))))],none⟩,
 ⟨(some 27),.call false 54 [(.t 25),(.t 26)],none⟩,
 ⟨(some 28),.fieldAddr 2 (.t 5),none⟩,
 ⟨none,.store 1 (.t 28) (.t 27),none⟩] [0,10,23,25,26,27,28])
 (.seq (.region [⟨(some 30),.bin .eql (.t 10) (.k (.c (.d (.int .i64 3)))),none⟩,
 ⟨(some 29),.mv (.t 30),none⟩] [0,23,30])
 (.cond (.t 29)
 (.block 1 (.loop (.seq (.seq (.region [⟨(some 31),.fieldAddr 3 (.t 5),none⟩,
 ⟨(some 32),.load none (.t 31),none⟩,
 ⟨(some 33),.len 1 (.t 32),none⟩,
 ⟨(some 34),.bin .leq (.t 33) (.k (.c (.d (.int .i64 4)))),none⟩] [31,32,33])
 (.cond (.t 34)
 (.skip)
 (.exit 1)))
 (.block 2 (.region [⟨(some 35),.fieldAddr 3 (.t 5),none⟩,
 ⟨(some 36),.load none (.t 35),none⟩,
 ⟨(some 37),.qcall 55 [(.k (.c (.d (.int .i64 1))))],none⟩,
 ⟨(some 38),.buildSlice 4 1 [(.int .i64 0),(.int .i64 0),(.str []),(.sl [])] [(0,(.t 37))],none⟩,
 ⟨(some 39),.append false 4 (.t 36) (.t 38),none⟩,
 ⟨(some 40),.fieldAddr 3 (.t 5),none⟩,
 ⟨none,.store 1 (.t 40) (.t 39),none⟩] [34,35,36,37,38,39,40])))))
 (.seq (.region [⟨(some 42),.bin .eql (.t 10) (.k (.c (.d (.int .i64 4)))),none⟩,
 ⟨(some 41),.mv (.t 42),none⟩] [10,29,42])
 (.cond (.t 41)
 (.seq (.region [⟨(some 6),.mv (.k (.c (.d (.int .i64 0)))),none⟩] [41])
 (.block 3 (.loop (.seq (.seq (.region [⟨(some 43),.mv (.t 6),none⟩,
 ⟨(some 44),.bin .lss (.t 43) (.k (.c (.d (.int .i64 30)))),none⟩] [43])
 (.cond (.t 44)
 (.skip)
 (.exit 3)))
 (.seq (.block 4 (.region [⟨(some 47),.load (some 4) (.t 5),none⟩,
 ⟨(some 48),.buildSlice 4 1 [(.int .i64 0),(.int .i64 0),(.str []),(.sl [])] [(0,(.t 47))],none⟩,
 ⟨(some 49),.qcall 48 [(.k (.c (.d (.str [115])))),(.t 48)],none⟩,
 ⟨none,.store 4 (.t 5) (.t 49),none⟩] [44,47,48,49]))
 (.region [⟨(some 45),.mv (.t 6),none⟩,
 ⟨(some 46),.bin .add (.t 45) (.k (.c (.d (.int .i64 1)))),none⟩,
 ⟨(some 6),.mv (.t 46),none⟩] [45,46]))))))
 (.skip)))))))))))))
 (.seq (.region [⟨(some 50),.load (some 4) (.t 5),none⟩,
 ⟨none,.store 4 (.t 4) (.t 50),none⟩] [5,41,50])
 (.ret))))
theorem ac35_ok : cFunc Tryz.prog [1000048,1000055] [(0,[1],[]),(1,[3,7,8],[]),(2,[9],[]),(3,[12],[]),(4,[0,10,11,13,14,15,16],[]),(5,[11,18],[]),(6,[0,10,17,19,20,21,22],[]),(7,[17,24],[]),(8,[0,10,23,25,26,27,28],[]),(9,[0,23,30],[]),(10,[31,32,33],[]),(11,[34,35,36,37,38,39,40],[0,1,2,3,4,5,6]),(12,[10,29,42],[]),(13,[41],[]),(14,[43],[]),(16,[44,47,48,49],[]),(15,[45,46],[]),(17,[5,41,50],[])] Tryz.f35 = some (ac35,[.cell 4 (some 4)],51) := by kernel_rfl
theorem Draws.mono {f : FuncId} {xs : List A} {N N' : Int} {R : A → Prop} (h : Draws f xs N R) (hN : N ≤ N') : Draws f xs N' R := fun c p H i hc hp hp1 hi =>
  (h c p H i hc hp (by omega) hi).mono fun r H' ⟨h1, p', h2, h3, h4⟩ => ⟨h1, p', h2, by omega, h4⟩
theorem copy_own (k n : Int) (s : List UInt8) (l : List Tm) (hfits : (Tm.mk k n s l).fits) (H : Heap) : ACalls Tryz.prog 29 [.agg ((Tm.mk k n s l).row.map .d)] H (fun r H' =>
    H' = H ++ [.cells [.d (.int .i64 k), .d (.int .i64 n), .d (.str s), .d (.sl (l.map Tm.row))], .cells [.d (.int .i64 k), .d (.int .i64 n), .d (.str s), .own (.e (H.length + 3)) l.length (l.map Tm.row)], .cells [.d (.int .i64 k), .d (.int .i64 n), .d (.str s), .own (.e (H.length + 3)) l.length (l.map Tm.row)], .grow l.length 4] ∧
    r = .agg [.d (.int .i64 k), .d (.int .i64 n), .d (.str s), .own (.e (H.length + 3)) l.length (l.map Tm.row)]) := by
  obtain ⟨hk, hn, hs, hl, hkids⟩ := hfits
  refine acallsK Tryz.func29 (by kernel_rfl) ac29_ok fun hf => ?_
  have hli : inR .i64 (l.length : Int) := small_i64 (by omega) (by omega)
  simp -implicitDefEqProofs [ac29, row_mk, hf, hli, go_sem, -List.set_cons_succ, -List.set_cons_zero]
  refine loop_enter (St.le_tokenC 2 3 4 rfl rfl) ?_
  refine loop_set (σ := Nat) (fun i => [(4, .c (.d (.int .i64 i)))]) (fun _ => H) (fun i => [.cells [.d (.int .i64 k), .d (.int .i64 n), .d (.str s), .d (.sl (l.map Tm.row))], .cells [.d (.int .i64 0), .d (.int .i64 0), .d (.str []), .full []], .cells [.d (.int .i64 k), .d (.int .i64 n), .d (.str s), .own (.l 3) i ((l.map Tm.row).take i)], .grow i 4])
    (fun i => i ≤ l.length) (fun i => l.length - i) 0 rfl (Nat.zero_le _) ?_
  intro i hi
  simp -implicitDefEqProofs [setAll, hli, go_sem, -List.set_cons_succ, -List.set_cons_zero]
  refine ⟨fun hlt => ?_, fun hge => ?_⟩
  · have hadd : inR .i64 ((i : Int) + 1) := small_i64 (by omega) (by omega)
    refine row_of hlt (row_len _) ?_
    simp -implicitDefEqProofs [row_len, take_row, pure_d, re_d, go_sem, -List.set_cons_succ, -List.set_cons_zero]
    refine qcall_pure (copy_calls l[i] (hkids _ (List.getElem_mem hlt))) hf (by simp [A.re, re_d]) ?_
    simp -implicitDefEqProofs [row_len, toDs_map, hadd, hf, Nat.min_eq_left hi, go_sem, -List.set_cons_succ, -List.set_cons_zero]
    refine ⟨fun r hr => allLen_map row_len r (List.mem_of_mem_take hr), by unfold maxApp; omega, ?_⟩
    refine loop_back (i + 1) ?_ hlt (by show l.length - (i + 1) < l.length - i; omega)
    simp [setAll, take_map_succ hlt]
  · have hil : i = l.length := by omega
    subst hil
    rw [show (l.map Tm.row).take l.length = l.map Tm.row from List.take_of_length_le (by simp)]
    simp -implicitDefEqProofs [hf, go_sem, -List.set_cons_succ, -List.set_cons_zero]
    refine finK_ret _ ⟨trivial, trivial⟩ rfl ?_
    simp [Ob.re, C.re, A.re, Ref.re]
theorem l1Mutate_draws (t : Tm) (ht : t.fits) : Draws 35 [.agg (t.row.map .d)] 2 TmR := fun c p H i hc hp hp1 hi => by
  obtain ⟨k, n, s, l⟩ := t
  refine acalls Tryz.func35 (by kernel_rfl) ac35_ok fun hf => ?_
  simp only [List.length_set] at hf
  have hf0 : ∀ q, Obs.fits H.length 0 (H.set i (Rd c q)) := fun q => fits_reset (b := Rd c q) hf ⟨trivial, trivial, trivial⟩
  have hf1 : ∀ q, Obs.fits (H.set i (Rd c q)).length 0 (H.set i (Rd c q)) := fun q => by simpa using hf0 q
  have hcopy := copy_own k n s l ht
  obtain ⟨hk, hn, hs, hl, hkids⟩ := ht
  rw [row_mk] at hcopy ⊢
  simp -implicitDefEqProofs [ac35, hf0, go_sem, -List.set_cons_succ, -List.set_cons_zero]
  have done : ∀ (t : Tm) (q : Int), p ≤ q → q ≤ p + 2 → t.fits → ∀ r, r = .agg (t.row.map .d) → Drew TmR 2 c p H i r (H.set i (Rd c q)) := fun t q a1 a2 a3 r hr => ⟨⟨t, hr, a3⟩, q, a1, a2, rfl⟩
  refine (hcopy _).mono fun r H' ⟨g1, g2⟩ => ⟨H.set i (Rd c p), [.cells [.d (.int .i64 k), .d (.int .i64 n), .d (.str s), .d (.sl (l.map Tm.row))], .cells [.d (.int .i64 0), .d (.int .i64 0), .d (.str []), .full []], .cells [.d (.int .i64 k), .d (.int .i64 n), .d (.str s), .d (.sl (l.map Tm.row))], .cells [.d (.int .i64 k), .d (.int .i64 n), .d (.str s), .own (.l 5) l.length (l.map Tm.row)], .cells [.d (.int .i64 k), .d (.int .i64 n), .d (.str s), .own (.l 5) l.length (l.map Tm.row)], .grow l.length 4],
    .agg [.d (.int .i64 k), .d (.int .i64 n), .d (.str s), .own (.l 5) l.length (l.map Tm.row)], by rw [g1]; simp [Ob.re, C.re, Ref.re], by simp, by simp, by simpa using hf0 p, by rw [g2]; simp [A.re, C.re, Ref.re], ?_⟩
  clear hcopy
  simp -implicitDefEqProofs [hf0, go_sem, -List.set_cons_succ, -List.set_cons_zero]
  refine call_drawE (pick_draws 50 (by omega)) hc (by omega) (by omega) hi (by simp [Ob.re, C.re, Ref.re]) (fun r => IntIn.re) (hf0 _) ?_
  rintro _ p1 ⟨m, rfl, m0, m1⟩ h1 h2
  simp -implicitDefEqProofs [hf0, go_sem, -List.set_cons_succ, -List.set_cons_zero]
  refine ⟨fun _ => ?_, fun _ => ⟨fun _ => ?_, fun _ => ⟨fun _ => ?_, fun _ => ⟨fun _ => ?_, fun _ => ⟨fun _ => ?_, fun _ => ?_⟩⟩⟩⟩⟩
  · refine call_drawE (num_draws [0, 4, 1, 2, 3] (by decide)) hc (by omega) (by omega) hi (by simp [Ob.re, C.re]) (fun r ⟨n, _, hn⟩ => by subst hn; rfl) (hf0 _) ?_
    rintro _ p2 ⟨x, hx, rfl⟩ h3 h4
    have hx : -1000 ≤ x ∧ x ≤ 1000 := by simp at hx; omega
    simp -implicitDefEqProofs [hf0, go_sem, -List.set_cons_succ, -List.set_cons_zero]
    exact done (.mk x n s l) p2 (by omega) (by omega) (.mk (small_i64 (by omega) (by omega)) hn hs hl hkids) _ (by simp [row_mk])
  · refine call_drawE (num_draws [26, 1000, -1000, -1, 1] (by decide)) hc (by omega) (by omega) hi (by simp [Ob.re, C.re]) (fun r ⟨n, _, hn⟩ => by subst hn; rfl) (hf0 _) ?_
    rintro _ p2 ⟨x, hx, rfl⟩ h3 h4
    have hx : -1000 ≤ x ∧ x ≤ 1000 := by simp at hx; omega
    simp -implicitDefEqProofs [hf0, go_sem, -List.set_cons_succ, -List.set_cons_zero]
    exact done (.mk k x s l) p2 (by omega) (by omega) (.mk hk (small_i64 (by omega) (by omega)) hs hl hkids) _ (by simp [row_mk])
  · refine call_drawE (of_draws [[], [88], [116, 111, 111, 108, 111, 110, 103], [195, 169], [97]] (by decide)) hc (by omega) (by omega) hi (by simp [Ob.re, C.re]) (fun r ⟨n, _, hn⟩ => by subst hn; rfl) (hf0 _) ?_
    rintro _ p2 ⟨x, hx, rfl⟩ h3 h4
    have hx : x.length ≤ 1000 := by simp at hx; rcases hx with rfl | rfl | rfl | rfl | rfl <;> decide
    simp -implicitDefEqProofs [hf0, go_sem, -List.set_cons_succ, -List.set_cons_zero]
    exact done (.mk k n x l) p2 (by omega) (by omega) (.mk hk hn (by omega) hl hkids) _ (by simp [row_mk])
  · refine loop_set (σ := List Tm) (fun _ => []) (fun _ => H.set i (Rd c p1)) (fun y => [.cells [.d (.int .i64 k), .d (.int .i64 n), .d (.str s), .d (.sl (l.map Tm.row))], .cells [.d (.int .i64 0), .d (.int .i64 0), .d (.str []), .full []], .cells [.d (.int .i64 k), .d (.int .i64 n), .d (.str s), .d (.sl (l.map Tm.row))], .cells [.d (.int .i64 k), .d (.int .i64 n), .d (.str s), .own (.l 5) l.length (l.map Tm.row)], .cells [.d (.int .i64 k), .d (.int .i64 n), .d (.str s), .own (.l 5) l.length (l.map Tm.row)], .grow y.length 4, .cells [.d (.int .i64 k), .d (.int .i64 n), .d (.str s), .own (.l 5) y.length (y.map Tm.row)]])
      (fun y => y.length ≤ 1048576 ∧ ∀ t ∈ y, t.fits) (fun y => 5 - y.length) l rfl ⟨hl, hkids⟩ ?_
    rintro y ⟨hy, hyf⟩
    have hly : inR .i64 (y.length : Int) := small_i64 (by omega) (by omega)
    simp -implicitDefEqProofs [setAll, hf0, hly, go_sem, -List.set_cons_succ, -List.set_cons_zero]
    refine ⟨fun hlt => ?_, fun hge => ?_⟩
    · refine qcall_pure (int_calls 1) (hf1 _) (by simp [A.re, re_d]) ?_
      simp -implicitDefEqProofs [hf0, row_mk, go_sem, -List.set_cons_succ, -List.set_cons_zero]
      refine ⟨allLen_map row_len, by unfold maxApp; omega, ?_⟩
      refine loop_back (y ++ [Tm.mk 2 1 [] []]) (by simp [setAll, row_mk]) ⟨by simp; omega, fun t ht => ?_⟩ (by show 5 - (y ++ [Tm.mk 2 1 [] []]).length < 5 - y.length; simp; omega)
      rcases List.mem_append.1 ht with ht | ht
      · exact hyf t ht
      · simp at ht; subst ht; exact .mk (small_i64 (by omega) (by omega)) (small_i64 (by omega) (by omega)) (by simp) (by simp) (by simp)
    · exact done (.mk k n s y) p1 (by omega) (by omega) (.mk hk hn hs hy hyf) _ (by simp [row_mk])
  · refine loop_set (σ := Nat × Tm) (fun x => [(6, .c (.d (.int .i64 x.1)))]) (fun _ => H.set i (Rd c p1)) (fun x => [.cells [.d (.int .i64 k), .d (.int .i64 n), .d (.str s), .d (.sl (l.map Tm.row))], .cells [.d (.int .i64 0), .d (.int .i64 0), .d (.str []), .full []], .cells [.d (.int .i64 k), .d (.int .i64 n), .d (.str s), .d (.sl (l.map Tm.row))], .cells [.d (.int .i64 k), .d (.int .i64 n), .d (.str s), .own (.l 5) l.length (l.map Tm.row)], .cells [.d (.int .i64 k), .d (.int .i64 n), .d (.str s), .own (.l 5) l.length (l.map Tm.row)], .grow l.length 4, .cells (if x.1 = 0 then [.d (.int .i64 k), .d (.int .i64 n), .d (.str s), .own (.l 5) l.length (l.map Tm.row)] else x.2.row.map .d)])
      (fun x => x.1 ≤ 30 ∧ x.2.fits ∧ (x.1 = 0 → x.2 = .mk k n s l)) (fun x => 30 - x.1) (0, Tm.mk k n s l) rfl ⟨by omega, .mk hk hn hs hl hkids, fun _ => rfl⟩ ?_
    rintro ⟨j, u⟩ ⟨hj, hu, hj0⟩
    simp only at hj hu hj0
    have hadd : inR .i64 ((j : Int) + 1) := small_i64 (by omega) (by omega)
    have hone : (Tm.mk 3 0 [115] [u]).fits := .mk (small_i64 (by omega) (by omega)) (small_i64 (by omega) (by omega)) (by simp) (by simp) (by simpa using hu)
    have hst := struct_calls [115] [u] (by simp)
    simp only [List.map_cons, List.map_nil] at hst
    by_cases hz : j = 0
    · subst hz
      have hu := hj0 rfl
      subst hu
      have h1 : inR .i64 1 := small_i64 (by omega) (by omega)
      simp -implicitDefEqProofs [setAll, hf0, go_sem, -List.set_cons_succ, -List.set_cons_zero]
      rw [row_mk] at hst
      refine qcall_pure hst (hf1 _) (by simp [A.re, re_d]) ?_
      simp -implicitDefEqProofs [hf0, h1, row_len, take_row, go_sem, -List.set_cons_succ, -List.set_cons_zero]
      exact loop_back (1, Tm.mk 3 0 [115] [Tm.mk k n s l]) (by simp [setAll]) ⟨by simp, hone, fun h => by simp at h⟩ (by show 30 - 1 < 30 - 0; omega)
    · simp -implicitDefEqProofs [setAll, hf0, hz, hadd, row_len, take_row, toDs_map, go_sem, -List.set_cons_succ, -List.set_cons_zero]
      refine ⟨fun hlt => ?_, fun hge => ?_⟩
      · refine qcall_pure hst (hf1 _) (by simp [A.re, re_d, row_len]) ?_
        simp -implicitDefEqProofs [hf0, hadd, row_len, take_row, go_sem, -List.set_cons_succ, -List.set_cons_zero]
        exact loop_back (j + 1, Tm.mk 3 0 [115] [u]) (by simp [setAll, row_len]) ⟨by show j + 1 ≤ 30; omega, hone, fun h => by simp at h⟩ (by show 30 - (j + 1) < 30 - j; omega)
      · simp [thaw_d, fits_map]
        exact done u p1 (by omega) (by omega) hu _ rfl
  · exact done (.mk k n s l) p1 (by omega) (by omega) (.mk hk hn hs hl hkids) _ (by simp [row_mk])
end Go.Proofs.YtgfmlifkhpjplaaGreatDoor

/-
  Terms with operators, drawn.
  Conditions: none.
-/
open Go Go.AM Go.Proofs
namespace Go.Proofs.YtgfmlifkhpjplaaGreatDoor
open Go.ChangeShapes Go.WideShapes Go.ChangeAt Go.RowKit
set_option linter.unusedVariables false
set_option linter.unusedSimpArgs false
set_option maxRecDepth 100000
-- 36 loop.example/prologserver/spec.l2Draw params 2 ntmps 28
def ac36 : Cd := .seq (.region [⟨(some 4),.alloc [(.d (.int .i64 0)),(.d (.int .i64 0)),(.d (.str [])),(.full [])],none⟩] [])
 (.seq (.seq (.region [⟨(some 5),.mv (.t 1),none⟩,
 ⟨(some 6),.bin .lss (.t 5) (.k (.c (.d (.int .i64 2)))),none⟩] [5])
 (.cond (.t 6)
 (.seq (.region [⟨(some 7),.mv (.t 0),none⟩,
 ⟨(some 8),.call false 56 [(.t 7),(.k (.c (.d (.int .i64 1))))],none⟩,
 ⟨none,.store 4 (.t 4) (.t 8),none⟩] [0,1,6,7,8])
 (.ret))
 (.skip)))
 (.seq (.seq (.region [⟨(some 9),.mv (.t 0),none⟩,
 ⟨(some 10),.call false 53 [(.t 9),(.k (.c (.d (.int .i64 3))))],none⟩,
 ⟨(some 11),.bin .eql (.t 10) (.k (.c (.d (.int .i64 0)))),none⟩] [6,9,10])
 (.cond (.t 11)
 (.seq (.region [⟨(some 12),.mv (.t 0),none⟩,
 ⟨(some 13),.mv (.t 1),none⟩,
 ⟨(some 14),.call false 56 [(.t 12),(.t 13)],none⟩,
 ⟨none,.store 4 (.t 4) (.t 14),none⟩] [0,1,11,12,13,14])
 (.ret))
 (.skip)))
 (.seq (.region [⟨(some 15),.mv (.t 0),none⟩,
 ⟨(some 16),.buildSlice 1 8 [(.str [])] [(0,(.k (.c (.d (.str [43]))))),(1,(.k (.c (.d (.str [45]))))),(2,(.k (.c (.d (.str [42]))))),(3,(.k (.c (.d (.str [105,115]))))),(4,(.k (.c (.d (.str [109,111,100]))))),(5,(.k (.c (.d (.str [61]))))),(6,(.k (.c (.d (.str [47,47]))))),(7,(.k (.c (.d (.str [61,60])))))],none⟩,
 ⟨(some 17),.call false 54 [(.t 15),(.t 16)],none⟩,
 ⟨(some 18),.mv (.t 0),none⟩,
 ⟨(some 19),.mv (.t 1),none⟩,
 ⟨(some 20),.bin .sub (.t 19) (.k (.c (.d (.int .i64 1)))),none⟩,
 ⟨(some 21),.call false 36 [(.t 18),(.t 20)],none⟩,
 ⟨(some 22),.mv (.t 0),none⟩,
 ⟨(some 23),.mv (.t 1),none⟩,
 ⟨(some 24),.bin .sub (.t 23) (.k (.c (.d (.int .i64 1)))),none⟩,
 ⟨(some 25),.call false 36 [(.t 22),(.t 24)],none⟩,
 ⟨(some 26),.buildSlice 4 2 [(.int .i64 0),(.int .i64 0),(.str []),(.sl [])] [(0,(.t 21)),(1,(.t 25))],none⟩,
 ⟨(some 27),.qcall 48 [(.t 17),(.t 26)],none⟩,
 ⟨none,.store 4 (.t 4) (.t 27),none⟩] [0,1,11,15,16,17,18,19,20,21,22,23,24,25,26,27])
 (.ret))))
theorem ac36_ok : cFunc Tryz.prog [1000048] [(0,[],[]),(1,[5],[]),(2,[0,1,6,7,8],[]),(3,[6,9,10],[]),(4,[0,1,11,12,13,14],[]),(5,[0,1,11,15,16,17,18,19,20,21,22,23,24,25,26,27],[])] Tryz.f36 = some (ac36,[.cell 4 (some 4)],28) := by kernel_rfl
-- 14 loop.example/prologserver/spec.DrawWriteTerm params 1 ntmps 13
def ac14 : Cd := .seq (.region [⟨(some 2),.alloc [(.d (.int .i64 0)),(.d (.int .i64 0)),(.d (.str [])),(.full [])],none⟩] [])
 (.seq (.region [⟨(some 4),.mv (.t 0),none⟩,
 ⟨(some 5),.call false 34 [(.t 4)],none⟩,
 ⟨(some 3),.mv (.t 5),none⟩] [0,4,5])
 (.seq (.region [⟨(some 6),.mv (.t 3),none⟩,
 ⟨(some 7),.mv (.t 3),none⟩,
 ⟨(some 8),.mv (.t 3),none⟩,
 ⟨(some 9),.buildSlice 1 4 [(.int .i64 0)] [(0,(.k (.c (.d (.int .i64 3))))),(1,(.k (.c (.d (.int .i64 2))))),(2,(.k (.c (.d (.int .i64 4))))),(3,(.k (.c (.d (.int .i64 1)))))],none⟩,
 ⟨(some 10),.call false 37 [(.t 8),(.t 9)],none⟩,
 ⟨(some 11),.call false 36 [(.t 7),(.t 10)],none⟩,
 ⟨(some 12),.call false 35 [(.t 6),(.t 11)],none⟩,
 ⟨none,.store 4 (.t 2) (.t 12),none⟩] [3,6,7,8,9,10,11,12])
 (.ret)))
theorem ac14_ok : cFunc Tryz.prog [] [(0,[],[]),(1,[0,4,5],[]),(2,[3,6,7,8,9,10,11,12],[])] Tryz.f14 = some (ac14,[.cell 2 (some 4)],13) := by kernel_rfl
def nD (d : Nat) : Int := ((6 * 4 ^ d + 20 : Nat) : Int)
theorem nD_le {d : Nat} (h : d ≤ 5) : 0 ≤ nD d ∧ nD d ≤ 10000 := by
  have : 4 ^ d ≤ 4 ^ 5 := Nat.pow_le_pow_right (by omega) h
  unfold nD; omega
theorem l2Draw_draws : ∀ d : Nat, d ≤ 5 → Draws 36 [.c (.d (.int .i64 d))] (nD d) TmR
  | 0, hd => fun c p H i hc hp hp1 hi => by
    have hn := nD_le hd
    refine acalls Tryz.func36 (by kernel_rfl) ac36_ok fun hf => ?_
    simp only [List.length_set] at hf
    have hf0 : ∀ q, Obs.fits H.length 0 (H.set i (Rd c q)) := fun q => fits_reset (b := Rd c q) hf ⟨trivial, trivial, trivial⟩
    simp -implicitDefEqProofs [ac36, hf0, go_sem, -List.set_cons_succ, -List.set_cons_zero]
    have e : nD 0 = 26 := by unfold nD; rfl
    rw [e] at hp1 ⊢
    refine call_drawE ((l1Draw_draws 1 (by omega)).mono (N' := 26) (by decide)) hc (by omega) (by omega) hi (by simp [Ob.re, C.re]) (fun r => TmR.re) (hf0 _) ?_
    rintro _ p1 ⟨t, rfl, ht⟩ h1 h2
    simp -implicitDefEqProofs [hf0, row_len, take_row, pure_d, re_d, thaw_d, fits_map, go_sem, -List.set_cons_succ, -List.set_cons_zero]
    exact ⟨⟨t, rfl, ht⟩, p1, by omega, by omega, rfl⟩
  | d + 1, hd => fun c p H i hc hp hp1 hi => by
    have ih := l2Draw_draws d (by omega)
    have hn := nD_le hd
    have h4 : 0 < 4 ^ d := Nat.pos_of_ne_zero (by simp)
    have hpow : 4 ^ (d + 1) = 4 * 4 ^ d := by rw [Nat.pow_succ]; omega
    refine acalls Tryz.func36 (by kernel_rfl) ac36_ok fun hf => ?_
    simp only [List.length_set] at hf
    have hf0 : ∀ q, Obs.fits H.length 0 (H.set i (Rd c q)) := fun q => fits_reset (b := Rd c q) hf ⟨trivial, trivial, trivial⟩
    have hf1 : ∀ q, Obs.fits (H.set i (Rd c q)).length 0 (H.set i (Rd c q)) := fun q => by simpa using hf0 q
    have fin : ∀ (t : Tm) (q : Int), t.fits → p ≤ q → q ≤ p + nD (d + 1) → Drew TmR (nD (d + 1)) c p H i (.agg (t.row.map .d)) (H.set i (Rd c q)) := fun t q ht a1 a2 => ⟨⟨t, rfl, ht⟩, q, a1, a2, rfl⟩
    have m1 : Draws 56 [.c (.d (.int .i64 1))] (nD (d + 1)) TmR := (l1Draw_draws 1 (by omega)).mono (by unfold nD; omega)
    have e1 : ((d + 1 : Nat) : Int) = (d : Int) + 1 := by omega
    have m2 : Draws 56 [.c (.d (.int .i64 ((d : Int) + 1)))] (nD (d + 1) - 1) TmR := by
      have := l1Draw_draws (d + 1) (by omega)
      rw [e1] at this
      exact this.mono (by unfold nD; omega)
    rw [e1]
    by_cases hd2 : d = 0
    · subst hd2
      simp -implicitDefEqProofs [ac36, hf0, go_sem, -List.set_cons_succ, -List.set_cons_zero]
      refine call_drawE m1 hc (by omega) (by omega) hi (by simp [Ob.re, C.re]) (fun r => TmR.re) (hf0 _) ?_
      rintro _ p1 ⟨t, rfl, ht⟩ h1 h2
      simp -implicitDefEqProofs [hf0, row_len, take_row, pure_d, re_d, thaw_d, fits_map, go_sem, -List.set_cons_succ, -List.set_cons_zero]
      exact fin t p1 ht (by omega) (by omega)
    · have hge : ¬ ((d : Int) + 1 < 2) := by omega
      have hsub : inR .i64 ((d : Int) + 1 - 1) := small_i64 (by omega) (by omega)
      have esub : (d : Int) + 1 - 1 = d := by omega
      have hdi : inR .i64 (d : Int) := small_i64 (by omega) (by omega)
      have hNN : nD (d + 1) = 6 * 4 * (4 ^ d : Nat) + 20 ∧ nD d = 6 * (4 ^ d : Nat) + 20 ∧ (4 : Int) ≤ (4 ^ d : Nat) := by
        have : 4 ^ 1 ≤ 4 ^ d := Nat.pow_le_pow_right (by omega) (by omega)
        unfold nD
        rw [hpow]
        omega
      simp -implicitDefEqProofs [ac36, hge, hf0, go_sem, -List.set_cons_succ, -List.set_cons_zero]
      refine call_drawE (pick_draws 3 (by omega)) hc (by omega) (by omega) hi (by simp [Ob.re, C.re]) (fun r => IntIn.re) (hf0 _) ?_
      rintro _ p1 ⟨k, rfl, k1, k2⟩ h1 h2
      simp -implicitDefEqProofs [hf0, hsub, esub, hdi, go_sem, -List.set_cons_succ, -List.set_cons_zero]
      refine ⟨fun _ => ?_, fun _ => ?_⟩
      · refine call_drawE m2 hc (by omega) (by omega) hi (by simp [Ob.re, C.re]) (fun r => TmR.re) (hf0 _) ?_
        rintro _ p2 ⟨t, rfl, ht⟩ h3 h5
        simp -implicitDefEqProofs [hf0, row_len, take_row, pure_d, re_d, thaw_d, fits_map, go_sem, -List.set_cons_succ, -List.set_cons_zero]
        exact fin t p2 ht (by omega) (by omega)
      · refine call_drawE (of_draws [[43], [45], [42], [105, 115], [109, 111, 100], [61], [47, 47], [61, 60]] (by decide)) hc (by omega) (by omega) hi (by simp [Ob.re, C.re]) (fun r ⟨n, _, hn⟩ => by subst hn; rfl) (hf0 _) ?_
        rintro _ p2 ⟨s, hs, rfl⟩ h3 h5
        have hsl : s.length ≤ 3 := by simp at hs; rcases hs with rfl | rfl | rfl | rfl | rfl | rfl | rfl | rfl <;> decide
        simp -implicitDefEqProofs [hf0, hsub, esub, hdi, go_sem, -List.set_cons_succ, -List.set_cons_zero]
        refine call_drawE ih hc (by omega) (by omega) hi (by simp [Ob.re, C.re]) (fun r => TmR.re) (hf0 _) ?_
        rintro _ p3 ⟨u, rfl, hu⟩ h6 h7
        simp -implicitDefEqProofs [hf0, hsub, esub, hdi, row_len, take_row, pure_d, re_d, go_sem, -List.set_cons_succ, -List.set_cons_zero]
        refine call_drawE ih hc (by omega) (by omega) hi (by simp [Ob.re, C.re]) (fun r => TmR.re) (hf0 _) ?_
        rintro _ p4 ⟨w, rfl, hw⟩ h8 h9
        have hst := struct_calls s [u, w] (by simp)
        simp only [List.map_cons, List.map_nil] at hst
        simp -implicitDefEqProofs [hf0, row_len, take_row, pure_d, re_d, toDs_map, go_sem, -List.set_cons_succ, -List.set_cons_zero]
        refine qcall_pure hst (hf1 _) (by simp [A.re, re_d]) ?_
        simp -implicitDefEqProofs [hf0, row_len, take_row, pure_d, re_d, thaw_d, fits_map, go_sem, -List.set_cons_succ, -List.set_cons_zero]
        exact fin (.mk 3 0 s [u, w]) p4 (.mk (by decide) (by decide) (by omega) (by simp) (by simp [hu, hw])) (by omega) (by omega)
theorem drawWt_calls (c : List UInt8) (hc : c.length ≤ 1048576) (H : Heap) : ACalls Tryz.prog 14 [.c (.d (.sl (bytesRows c)))] H (fun r H' => H' = H ∧ TmR r) := by
  refine acalls Tryz.func14 (by kernel_rfl) ac14_ok fun hf => ?_
  simp -implicitDefEqProofs [ac14, go_sem, -List.set_cons_succ, -List.set_cons_zero]
  refine (open_calls c hc _).mono fun r H' ⟨h1, c', hc', h2⟩ => ⟨H, [.cells [.d (.int .i64 0), .d (.int .i64 0), .d (.str []), .full []], Rd c' 0], .c (.ptr (.l 1) 0), by rw [h2]; simp [Rd, Ob.re, C.re], rfl, by simp, hf, by rw [h1]; simp [A.re, C.re, Ref.re], ?_⟩
  simp -implicitDefEqProofs [go_sem, -List.set_cons_succ, -List.set_cons_zero]
  refine call_drawL (j := 1) (num_draws [3, 2, 4, 1] (by decide)) hc' (by omega) (by omega) rfl (by simp [Rd, Ob.re, C.re]) (fun r ⟨n, _, hn⟩ => by subst hn; rfl) hf ?_
  rintro _ p1 ⟨n, hn, rfl⟩ h1 h2
  obtain ⟨d, rfl, hd⟩ : ∃ d : Nat, n = (d : Int) ∧ d ≤ 4 := ⟨n.toNat, by simp at hn; omega, by simp at hn; omega⟩
  have hnd := nD_le (d := d) (by omega)
  simp -implicitDefEqProofs [go_sem, -List.set_cons_succ, -List.set_cons_zero]
  refine call_drawL (j := 1) (l2Draw_draws d (by omega)) hc' (by omega) (by omega) rfl (by simp [Rd, Ob.re, C.re]) (fun r => TmR.re) hf ?_
  rintro _ p2 ⟨t, rfl, ht⟩ h3 h4
  simp -implicitDefEqProofs [row_len, take_row, pure_d, re_d, go_sem, -List.set_cons_succ, -List.set_cons_zero]
  refine call_drawL (j := 1) (l1Mutate_draws t ht) hc' (by omega) (by omega) rfl (by simp [Rd, Ob.re, C.re]) (fun r => TmR.re) hf ?_
  rintro _ p3 ⟨u, rfl, hu⟩ h5 h6
  simp -implicitDefEqProofs [hf, row_len, take_row, pure_d, re_d, thaw_d, fits_map, go_sem, -List.set_cons_succ, -List.set_cons_zero]
  exact ⟨u, rfl, hu⟩
end Go.Proofs.YtgfmlifkhpjplaaGreatDoor

/-
  strings.Join as a call of the abstract machine.
  Conditions: none.
-/
open Go Go.AM Go.Proofs
namespace Go.Proofs
open Go.Shelf
def Tryz.lays156_ren : Go.Shelf.Ren := ⟨fun | 156 => 94 | 165 => 122 | 166 => 123 | 169 => 124 | 240 => 134 | 241 => 135 | 276 => 143 | 277 => 144 | n => n, fun | 31 => 56 | 9 => 9 | 3 => 3 | 4 => 4 | 0 => 0 | 20 => 20 | 72 => 102 | 76 => 106 | 70 => 100 | 37 => 30 | 75 => 105 | 127 => 110 | 164 => 119 | 5 => 5 | 80 => 87 | n => n, fun | n => n⟩
theorem Tryz.lays156 : Go.Proofs.Lays.n156 Tryz.prog Tryz.lays156_ren := {
  mixed := by kernel_rfl
  f156 := Tryz.func94.trans (congrArg some (by kernel_rfl))
  f165 := Tryz.func122.trans (congrArg some (by kernel_rfl))
  f166 := Tryz.func123.trans (congrArg some (by kernel_rfl))
  f169 := Tryz.func124.trans (congrArg some (by kernel_rfl))
  f240 := Tryz.func134.trans (congrArg some (by kernel_rfl))
  f241 := Tryz.func135.trans (congrArg some (by kernel_rfl))
  f276 := Tryz.func143.trans (congrArg some (by kernel_rfl))
  f277 := Tryz.func144.trans (congrArg some (by kernel_rfl))
  t0 := Tryz.underlying0
  a0 := Tryz.isAgg0
  z0 := Tryz.sizeOf0
  v0 := Tryz.zeroValue0
  t3 := Tryz.underlying3
  a3 := Tryz.isAgg3
  z3 := Tryz.sizeOf3
  v3 := Tryz.zeroValue3
  t4 := Tryz.underlying4
  a4 := Tryz.isAgg4
  z4 := Tryz.sizeOf4
  v4 := Tryz.zeroValue4
  t9 := Tryz.underlying9
  a9 := Tryz.isAgg9
  z9 := Tryz.sizeOf9
  v9 := Tryz.zeroValue9
  t20 := Tryz.underlying20
  a20 := Tryz.isAgg20
  z20 := Tryz.sizeOf20
  v20 := Tryz.zeroValue20
  t31 := Tryz.underlying56
  a31 := Tryz.isAgg56
  z31 := Tryz.sizeOf56
  v31 := Tryz.zeroValue56
  t37 := Tryz.underlying30
  a37 := Tryz.isAgg30
  z37 := Tryz.sizeOf30
  v37 := Tryz.zeroValue30
  t70 := Tryz.underlying100
  a70 := Tryz.isAgg100
  z70 := Tryz.sizeOf100
  v70 := Tryz.zeroValue100
  t72 := Tryz.underlying102
  a72 := Tryz.isAgg102
  z72 := Tryz.sizeOf102
  v72 := Tryz.zeroValue102
  t75 := Tryz.underlying105
  a75 := Tryz.isAgg105
  z75 := Tryz.sizeOf105
  v75 := Tryz.zeroValue105
  t76 := Tryz.underlying106
  a76 := Tryz.isAgg106
  z76 := Tryz.sizeOf106
  v76 := Tryz.zeroValue106
  t127 := Tryz.underlying110
  a127 := Tryz.isAgg110
  z127 := Tryz.sizeOf110
  v127 := Tryz.zeroValue110
  t164 := Tryz.underlying119
  a164 := Tryz.isAgg119
  z164 := Tryz.sizeOf119
  v164 := Tryz.zeroValue119 }
theorem Tryz.Builder_Extra_156 : Builder.Extra Tryz.prog Tryz.lays156_ren := {
  sizeBuilder := by kernel_rfl
  liesBuilder := by kernel_rfl
  t5 := Tryz.underlying5
  a5 := Tryz.isAgg5
  z5 := Tryz.sizeOf5
  v5 := Tryz.zeroValue5
  infoByte := by kernel_rfl
  cellsByte := by kernel_rfl
  sizeByte := by kernel_rfl
  neB5 := by decide }
end Go.Proofs
namespace Go.Proofs.YtgfmlifkhpjplaaGreatDoor
open Go.RowKit
set_option linter.unusedVariables false
set_option linter.unusedSimpArgs false
set_option maxRecDepth 100000
theorem join_joinS (c : UInt8) : ∀ ws : List (List UInt8), Lib.join ws [c] = joinS c ws
  | [] => rfl
  | [a] => by simp [joinS, Lib.join_one]
  | a :: b :: l => by
    have ih := join_joinS c (b :: l)
    rw [joinS, ← ih, Lib.join_cons, Lib.join_cons]
    simp [Lib.joinTail]
theorem join_calls (ws : List (List UInt8)) (c : UInt8) (hn : ws.length ≤ 1000000) (hlen : (joinS c ws).length ≤ 100000000000000) (H : Heap) : ACalls Tryz.prog 94 [.c (.d (.sl (ws.map fun x => [.str x]))), .c (.d (.str [c]))] H
    (fun r H' => H' = H ∧ r = .c (.d (.str (joinS c ws)))) := by
  refine ⟨⟨_, Tryz.func94, by kernel_rfl, by decide⟩, fun w ι cargs hsim hl ha => ?_⟩
  obtain ⟨v0, v1, rfl⟩ : ∃ v0 v1, cargs = [v0, v1] := by
    match cargs, hl with
    | [a, b], _ => exact ⟨a, b, rfl⟩
  have h0 := ha 0 _ _ rfl rfl
  have h1 := ha 1 _ _ rfl rfl
  obtain ⟨sep, rfl, hsep⟩ : ∃ sep : ByteArray, v1 = .string sep ∧ sep.data.toList = [c] := by
    cases h1 with
    | c h => cases h with
      | d h =>
        generalize hcl : [c] = l at h
        cases h with
        | str s _ => exact ⟨s, rfl, by first | exact hcl.symm | rfl⟩
  have key : ∀ (e : Ending) (w' : World), (e = .returned (.string ⟨(joinS c ws).toArray⟩) ∧ Below w.heap.size w w') →
      ∃ r H' ι' v, e = .returned v ∧ (H' = H ∧ r = .c (.d (.str (joinS c ws)))) ∧ Sim w' ι' H'.length H' ∧ RA w' ι' H'.length r v ∧ Ext w ι w' ι' ∧ H.length ≤ H'.length := by
    rintro e w' ⟨rfl, hb⟩
    have hfr : ∀ b, b < w.heap.size → w'.heap[b]? = w.heap[b]? := fun b h => hb.block b h
    have hx : Ext w ι w' ι := Ext.of_blocks hb.os hb.tape hb.output hb.size hfr
    refine ⟨_, _, ι, _, rfl, ⟨rfl, rfl⟩, hsim.of_blocks hx hfr, .c (.d ?_), hx, Nat.le_refl _⟩
    have := RD.str (w := w') (S := AM.Safe w' ι) ⟨(joinS c ws).toArray⟩ (by simp [maxStr]; omega)
    simpa using this
  have hd : RD w (AM.Safe w ι) (.sl (ws.map fun x => [.str x])) v0 := by
    cases h0 with
    | c h => cases h with
      | d h => exact h
  generalize hrows : (ws.map fun x => [D.str x]) = rows at hd
  have hrl : rows.length = ws.length := by rw [← hrows]; simp
  cases hd with
  | nil a =>
    have hw : ws = [] := by
      cases ws with
      | nil => rfl
      | cons a l => simp at hrows
    subst hw
    refine (Any.strings_Join_none Tryz.lays156 Tryz.Builder_Extra_156 a 0 sep w).mono ?_
    rintro e w' ⟨rfl, rfl⟩
    exact key _ _ ⟨rfl, Below.refl _ _⟩
  | sl rows b off cap sz vs g1 g2 g3 g4 g5 =>
    by_cases hw : ws = []
    · subst hw
      simp at hrows
      subst hrows
      refine (Any.strings_Join_none Tryz.lays156 Tryz.Builder_Extra_156 (some ⟨b, off, none⟩) cap sep w).mono ?_
      rintro e w' ⟨rfl, rfl⟩
      exact key _ _ ⟨rfl, Below.refl _ _⟩
    · have hsz : sz = 1 := by
        cases ws with
        | nil => exact absurd rfl hw
        | cons a l =>
          have := g3 0 [.str a] (by rw [← hrows]; rfl)
          simpa using this.symm
      subst hsz
      have hcell : ∀ (j : Nat) (x : List UInt8), ws[j]? = some x → w.cell? ⟨b, off + j, none⟩ = some (.string ⟨x.toArray⟩) ∧ b < w.heap.size := by
        intro j x hx
        have hr : rows[j]? = some [.str x] := by rw [← hrows]; simp [hx]
        obtain ⟨c1, c2⟩ := g4 j _ 0 _ hr rfl
        have c3 := g5 j _ 0 _ hr rfl
        simp only [Nat.mul_one, Nat.add_zero] at c1 c2 c3
        generalize hl2 : x = l at c3
        generalize vs j = v at c1 c3
        cases c3 with
        | str s _ =>
          refine ⟨?_, c2.1⟩
          rw [c1]
      have hbk : b < w.heap.size := by
        cases ws with
        | nil => exact absurd rfl hw
        | cons a l => exact (hcell 0 a rfl).2
      have hxs : (ws.map fun x => (⟨x.toArray⟩ : ByteArray)).length = rows.length := by simp [hrl]
      have hmap : ((ws.map fun x => (⟨x.toArray⟩ : ByteArray)).map (·.data.toList)) = ws := by
        simp [Function.comp_def]
      have hj := Any.strings_Join Tryz.lays156 Tryz.Builder_Extra_156 b off cap (ws.map fun x => (⟨x.toArray⟩ : ByteArray)) sep w (fun j x hx => by
        simp only [List.getElem?_map, Option.map_eq_some_iff] at hx
        obtain ⟨y, hy, rfl⟩ := hx
        exact (hcell j y hy).1) hbk (by rw [hxs, hrl]; omega) (by rw [hxs]; exact g1) (by rw [hmap, hsep, join_joinS]; omega)
      rw [hmap, hsep, join_joinS, hxs] at hj
      exact hj.mono fun e w' h => key e w' h
end Go.Proofs.YtgfmlifkhpjplaaGreatDoor

/-
  Terms as the program writes them: the two functions that call each other.
  Conditions: none.
-/
open Go Go.AM Go.Proofs
namespace Go.Proofs.YtgfmlifkhpjplaaGreatDoor
open Go.ChangeShapes Go.WideShapes Go.ChangeAt Go.RowKit
set_option linter.unusedVariables false
set_option linter.unusedSimpArgs false
set_option maxRecDepth 100000
theorem tab_app {H l : Heap} {x : Ob} (h : H[0]? = some x) : (H ++ l)[0]? = some x := by
  rw [List.getElem?_append_left (List.getElem?_eq_some_iff.1 h).1]; exact h
theorem struct_wr {s : List UInt8} {l : List Tm} (hp : (Tm.mk 3 0 s l).pairB = false) (hi : infixB (Tm.mk 3 0 s l) = false) (hl : l ≠ []) : (Tm.mk 3 0 s l).wr = s ++ 40 :: joinS 44 (l.map Tm.wr) ++ [41] := by
  have h1 : ¬ (s = [46] ∧ l.length = 2) := by
    intro h
    simp [Tm.pairB, Tm.k, Tm.s, Tm.kids, h] at hp
  have h2 : ¬ (l.length = 2 ∧ 0 < levelN s) := by
    intro h
    simp [infixB, Tm.k, Tm.s, Tm.kids, h] at hi
  rw [Tm.wr, wrs_map, wrNode, if_neg (by omega), if_neg (by omega), if_neg h1, if_neg h2, if_neg hl]
theorem take_wr {l : List Tm} {i : Nat} (h : i < l.length) : (l.take i).map (fun u => [D.str u.wr]) ++ [[D.str l[i].wr]] = (l.take (i + 1)).map fun u => [D.str u.wr] := by
  rw [List.take_add_one, List.getElem?_eq_getElem h, List.map_append]
  rfl
theorem text_ok {g : Nat} {o : Obj} (hTab : Tab g o) (t : Tm) (ht : t.ok) (hi : infixB t = false) (hT : ∀ u : Tm, u.ok → u.size < t.size → TxI g o u) (H : Heap) (hH : H[0]? = some (.tab g o)) :
    ACalls Tryz.prog 62 [.agg (t.row.map .d), .c (.fn 38 [])] H (fun r H' => H' = H ∧ r = .c (.d (.str t.wr))) := by
  refine acalls Tryz.func62 (by kernel_rfl) ac62_ok fun hf => ?_
  have hpc := pairImpl_calls t ht.fits
  have hlen := ht.len
  have hts := ht.size
  cases hp : t.pairB with
  | true =>
    obtain ⟨n, a, b, rfl⟩ := pair_inv hp
    have ha := ht.kid (u := a) (by simp)
    have hb := ht.kid (u := b) (by simp)
    have hal := ha.1.len
    have hbl := hb.1.len
    have hcs : (Tm.mk 3 n [46] [a, b]).size = 1 + a.size + b.size := by simp [Tm.size, sizes]; omega
    simp [row_mk] at hpc
    simp -implicitDefEqProofs [ac62, row_mk, go_sem, -List.set_cons_succ, -List.set_cons_zero]
    refine qcall_pure hpc hf rfl ?_
    rw [hp]
    simp -implicitDefEqProofs [go_sem, -List.set_cons_succ, -List.set_cons_zero]
    refine row_int (i := 0) a.row (by omega) rfl (row_len _) ?_
    simp -implicitDefEqProofs [row_len, take_row, pure_d, re_d, ptrsOf, go_sem, -List.set_cons_succ, -List.set_cons_zero]
    refine call_same (hT a ha.1 ha.2 _ (tab_app hH)) (by simp [Ob.re, C.re]) rfl hf ?_
    simp -implicitDefEqProofs [maxStr, go_sem, -List.set_cons_succ, -List.set_cons_zero]
    refine ⟨by omega, row_int (i := 1) b.row (by omega) rfl (row_len _) ?_⟩
    simp -implicitDefEqProofs [row_len, take_row, pure_d, re_d, hf, go_sem, -List.set_cons_succ, -List.set_cons_zero]
    refine loop_set (σ := List UInt8 × Tm) (fun x => [(5, .c (.d (.str x.1)))]) (fun _ => H) (fun x => [.cells [.d (.int .i64 3), .d (.int .i64 n), .d (.str [46]), .d (.sl [a.row, b.row])], .cells (x.2.row.map .d)])
      (fun x => x.2.ok ∧ x.2.size < (Tm.mk 3 n [46] [a, b]).size ∧ (Tm.mk 3 n [46] [a, b]).wr = x.1 ++ x.2.wrt ++ [93]) (fun x => x.2.size) (91 :: a.wr, b) rfl ⟨hb.1, hb.2, by rw [pair_wr]; simp⟩ ?_
    rintro ⟨out, c⟩ ⟨hc, hcl, hw⟩
    simp only at hc hcl hw
    have hol : out.length ≤ 6000 := by
      have := hlen.1
      rw [hw] at this
      simp at this
      omega
    have hcn := hc.len
    simp -implicitDefEqProofs [setAll, row_len, take_row, pure_d, re_d, go_sem, -List.set_cons_succ, -List.set_cons_zero]
    refine qcall_pure (pairImpl_calls c hc.fits) hf rfl ?_
    cases hcp : c.pairB with
    | true =>
      obtain ⟨n2, d, e, rfl⟩ := pair_inv hcp
      have hd := hc.kid (u := d) (by simp)
      have he := hc.kid (u := e) (by simp)
      have hdl := hd.1.len
      simp -implicitDefEqProofs [row_mk, go_sem, -List.set_cons_succ, -List.set_cons_zero]
      refine row_int (i := 0) d.row (by omega) rfl (row_len _) ?_
      simp -implicitDefEqProofs [row_len, take_row, pure_d, re_d, ptrsOf, go_sem, -List.set_cons_succ, -List.set_cons_zero]
      refine call_same (hT d hd.1 (by omega) _ (tab_app hH)) (by simp [Ob.re, C.re]) rfl hf ?_
      simp -implicitDefEqProofs [maxStr, go_sem, -List.set_cons_succ, -List.set_cons_zero]
      refine ⟨by omega, by omega, row_int (i := 1) e.row (by omega) rfl (row_len _) ?_⟩
      simp -implicitDefEqProofs [row_len, take_row, pure_d, re_d, hf, go_sem, -List.set_cons_succ, -List.set_cons_zero]
      refine loop_back (out ++ 44 :: d.wr, e) (by simp [setAll]) ⟨he.1, by simp only; omega, ?_⟩ (by show e.size < (Tm.mk 3 n2 [46] [d, e]).size; omega)
      rw [hw, pair_wrt]
      simp
    | false =>
      rw [end_wrt hcp] at hw
      simp -implicitDefEqProofs [row_len, take_row, pure_d, re_d, go_sem, -List.set_cons_succ, -List.set_cons_zero]
      refine qcall_pure (nilImpl_calls c hc.fits) hf rfl ?_
      cases hn : c.nilB with
      | true =>
        rw [hn] at hw
        simp -implicitDefEqProofs [hw, maxStr, go_sem, -List.set_cons_succ, -List.set_cons_zero]
        omega
      | false =>
        rw [hn] at hw
        simp -implicitDefEqProofs [row_len, take_row, pure_d, re_d, ptrsOf, go_sem, -List.set_cons_succ, -List.set_cons_zero]
        refine call_same (hT c hc hcl _ (tab_app hH)) (by simp [Ob.re, C.re, re_d]) rfl hf ?_
        simp -implicitDefEqProofs [hw, maxStr, go_sem, -List.set_cons_succ, -List.set_cons_zero]
        omega
  | false =>
    obtain ⟨k, n, s, l⟩ := t
    have hg := ht.good
    have hfi := ht.fits
    cases hg with
    | mk ho hgk =>
      rcases own_cases ho with ⟨rfl, n0, n1, rfl, rfl⟩ | ⟨rfl, n0, n1, rfl, rfl⟩ | ⟨rfl, rfl, hs2, hl4⟩
      · obtain ⟨m, rfl⟩ := Int.eq_ofNat_of_zero_le n0
        simp -implicitDefEqProofs [ac62, row_mk, go_sem, -List.set_cons_succ, -List.set_cons_zero]
        refine qcall_pure (letterI_calls m (by omega)) hf rfl ?_
        simp -implicitDefEqProofs [Tm.wr, wrNode, go_sem, -List.set_cons_succ, -List.set_cons_zero]
      · have hn : inR .i64 n := small_i64 (by omega) (by omega)
        simp -implicitDefEqProofs [ac62, row_mk, go_sem, -List.set_cons_succ, -List.set_cons_zero]
        refine qcall_tab (itoa_call hTab n hn) hf hH rfl ?_
        simp -implicitDefEqProofs [Tm.wr, wrNode, go_sem, -List.set_cons_succ, -List.set_cons_zero]
      · have hli : inR .i64 (l.length : Int) := small_i64 (by omega) (by omega)
        have hsl := name_len hs2
        simp [row_mk] at hpc
        simp -implicitDefEqProofs [ac62, row_mk, hli, go_sem, -List.set_cons_succ, -List.set_cons_zero]
        refine qcall_pure hpc hf rfl ?_
        rw [hp]
        by_cases hl : l = []
        · subst hl
          have h00 : inR .i64 0 := small_i64 (by omega) (by omega)
          simp -implicitDefEqProofs [h00, go_sem, -List.set_cons_succ, -List.set_cons_zero]
          simp [Tm.wr, wrNode]
        · have hps : 0 < l.length := List.length_pos_iff.2 hl
          simp -implicitDefEqProofs [hli, hl, go_sem, -List.set_cons_succ, -List.set_cons_zero]
          have hwr : (Tm.mk 3 0 s l).wr = s ++ 40 :: joinS 44 (l.map Tm.wr) ++ [41] := struct_wr hp hi hl
          have hwl := hlen.1
          rw [hwr] at hwl
          simp at hwl
          refine loop_enter (St.le_token 7 1 rfl) ?_
          refine loop_set (σ := Nat) (fun i => [(74, .c (.d (.int .i64 i))), (7, .c (.own (.l 1) i ((l.take i).map fun u => [.str u.wr])))]) (fun _ => H) (fun i => [.cells [.d (.int .i64 3), .d (.int .i64 0), .d (.str s), .d (.sl (l.map Tm.row))], .grow i 1]) (fun i => i ≤ l.length) (fun i => l.length - i) 0 (by simp [setAll]) (Nat.zero_le _) ?_
          intro i hi2
          simp -implicitDefEqProofs [setAll, hli, go_sem, -List.set_cons_succ, -List.set_cons_zero]
          refine ⟨fun hlt => ?_, fun hge => ?_⟩
          · have hadd : inR .i64 ((i : Int) + 1) := small_i64 (by omega) (by omega)
            have hk := ht.kid (u := l[i]) (by simp)
            refine row_of hlt (row_len _) ?_
            simp -implicitDefEqProofs [row_len, take_row, pure_d, re_d, ptrsOf, go_sem, -List.set_cons_succ, -List.set_cons_zero]
            refine ⟨hf, ?_⟩
            refine call_same (hT l[i] hk.1 hk.2 _ (tab_app hH)) (by simp [Ob.re, C.re, re_d]) rfl hf ?_
            simp -implicitDefEqProofs [go_sem, -List.set_cons_succ, -List.set_cons_zero]
            have e0 := take_wr hlt
            rw [← List.map_take, e0]
            refine ⟨allLen_map fun _ => rfl, by unfold maxApp; omega, hadd, loop_less (i + 1) (St.le_cut [_] ?_ (by simp [Sl.le, A.le_refl_iff, A.le_u_iff, As.lo, A.lo, C.lo, Ref.lo, Cs.lo, Obs.lo, Ob.lo, setAll, and_true, true_and, List.length_nil, List.length_cons]) rfl ⟨⟨trivial, trivial, trivial, trivial, trivial⟩, trivial, trivial⟩) hlt (by show l.length - (i + 1) < l.length - i; omega)⟩
            simp [setAll, Sl.le, A.le_refl_iff, A.le_u_iff, As.lo, A.lo, C.lo, Ref.lo, Cs.lo, Obs.lo, Ob.lo, setAll, and_true, true_and, List.length_nil, List.length_cons]
          · obtain rfl : i = l.length := by omega
            have hjl : (joinS 44 (l.map Tm.wr)).length ≤ 6000 := by omega
            have e1 : (l.map fun u => [D.str u.wr]) = (l.map Tm.wr).map fun x => [D.str x] := by simp
            rw [List.take_of_length_le (by simp), e1]
            simp only [maxStr]
            refine ⟨by omega, ?_⟩
            refine qcall_pure (join_calls (l.map Tm.wr) 44 (by simp; omega) (by omega)) hf rfl ?_
            simp -implicitDefEqProofs [maxStr, go_sem, -List.set_cons_succ, -List.set_cons_zero]
            rw [hwr]
            refine ⟨by omega, by omega, by simp⟩
/-- terms are written -/
theorem writeTm_calls {g : Nat} {o : Obj} (hTab : Tab g o) : ∀ (N : Nat) (t : Tm), t.size ≤ N → t.ok → TxI g o t := by
  intro N
  induction N with
  | zero =>
    intro t h0 _
    have := size_pos t
    omega
  | succ N ih =>
    intro t hN ht H hH
    have hkid : ∀ u : Tm, u.ok → u.size < t.size → TxI g o u := fun u hu hs => ih u (by omega) hu
    have hpc := isOp_calls t.s
    have hlen := ht.len
    cases hi : infixB t with
    | true =>
      obtain ⟨k, n, s, l⟩ := t
      have hi2 := hi
      simp only [infixB, Tm.k, Tm.kids, Tm.s, Bool.and_eq_true, decide_eq_true_iff] at hi2
      obtain ⟨⟨hk3, hl2⟩, hlv⟩ := hi2
      obtain rfl : k = 3 := of_decide_eq_true hk3
      have hl2 : (l.length : Int) = 2 := of_decide_eq_true hl2
      have hlp : 0 < levelN s := of_decide_eq_true hlv
      clear hlv
      match l, show l.length = 2 by omega, ht, hkid with
      | [a, b], _, ht, hT =>
        have ha := ht.kid (u := a) (by simp)
        have hb := ht.kid (u := b) (by simp)
        have hal := ha.1.len
        have hbl := hb.1.len
        obtain ⟨hr1, hr2, hr3⟩ := lv_range hlp
        have hsl : s.length ≤ 1048576 := by
          cases ht.fits with
          | mk _ _ h3 _ _ => exact h3
        have hsub : inR .i64 (levelN s - 1) := small_i64 (by omega) (by omega)
        have hm0 : 0 ≤ leftMost s := by
          by_cases h3 : levelN s = 3
          · rw [hr2 h3]; omega
          · rw [hr3 h3]; omega
        have cl := operand_calls a ha.1 (hT a ha.1 ha.2) (leftMost s) hm0 false
        have cr := operand_calls b hb.1 (hT b hb.1 hb.2) (levelN s - 1) (by omega) true
        have hol := opnd_len a a.wr (leftMost s) false
        have hor := opnd_len b b.wr (levelN s - 1) true
        have hos := opSp_len s
        have hwr : (Tm.mk 3 n s [a, b]).wr = opnd a a.wr (leftMost s) false ++ opSp s ++ opnd b b.wr (levelN s - 1) true := by
          have hne : s ≠ [46] := by rintro rfl; simp [levelN, ops3] at hlp
          rw [Tm.wr, wrs_map, wrts_map]
          simp [wrNode, hne, hlp]
        rw [hwr, row_mk]
        refine acalls Tryz.func38 (by kernel_rfl) ac38_ok fun hf => ?_
        simp -implicitDefEqProofs [ac38, go_sem, -List.set_cons_succ, -List.set_cons_zero]
        refine ⟨small_i64 (by omega) (by omega), qcall_pure (isOp_calls s) hf rfl ?_⟩
        simp -implicitDefEqProofs [hlp, go_sem, -List.set_cons_succ, -List.set_cons_zero]
        refine qcall_pure (opLevel_calls s) hf rfl ?_
        simp -implicitDefEqProofs [hsub, go_sem, -List.set_cons_succ, -List.set_cons_zero]
        refine row_int (i := 0) a.row (by omega) rfl (row_len _) ?_
        simp -implicitDefEqProofs [row_len, take_row, pure_d, re_d, go_sem, -List.set_cons_succ, -List.set_cons_zero]
        refine qcall_pure (leftMost_calls s) hf rfl ?_
        simp -implicitDefEqProofs [go_sem, -List.set_cons_succ, -List.set_cons_zero]
        refine qcall_tab cl hf hH rfl ?_
        simp -implicitDefEqProofs [go_sem, -List.set_cons_succ, -List.set_cons_zero]
        refine qcall_pure (opText_calls s hsl) hf rfl ?_
        simp -implicitDefEqProofs [maxStr, go_sem, -List.set_cons_succ, -List.set_cons_zero]
        refine ⟨by omega, row_int (i := 1) b.row (by omega) rfl (row_len _) ?_⟩
        simp -implicitDefEqProofs [row_len, take_row, pure_d, re_d, go_sem, -List.set_cons_succ, -List.set_cons_zero]
        refine qcall_tab cr hf hH rfl ?_
        simp -implicitDefEqProofs [maxStr, go_sem, -List.set_cons_succ, -List.set_cons_zero]
        omega
    | false =>
      have hc := fun (l : Heap) => text_ok hTab t ht hi hkid (H ++ l) (tab_app hH)
      have hli : inR .i64 (t.kids.length : Int) := by
        cases ht.fits with
        | mk _ _ _ h _ => exact small_i64 (by simp only [Tm.kids]; omega) (by simp only [Tm.kids]; omega)
      rw [row_eq] at hc ⊢
      simp only [List.map_cons, List.map_nil] at hc ⊢
      refine acalls Tryz.func38 (by kernel_rfl) ac38_ok fun hf => ?_
      simp -implicitDefEqProofs [ac38, hli, go_sem, -List.set_cons_succ, -List.set_cons_zero]
      refine ⟨fun h3 h2 => ⟨⟨h3, h2⟩, ?_⟩, fun _ => ?_⟩
      · refine qcall_pure (isOp_calls t.s) hf rfl ?_
        have hnl : ¬ 0 < levelN t.s := by
          intro h
          simp [infixB, h3, h2, h] at hi
        simp -implicitDefEqProofs [h3, h2, hnl, go_sem, -List.set_cons_succ, -List.set_cons_zero]
        simp only [h3] at hc
        refine call_same (hc _) (by simp [Ob.re, C.re, re_d]) rfl hf ?_
        simp -implicitDefEqProofs [go_sem, -List.set_cons_succ, -List.set_cons_zero]
      · refine call_same (hc _) (by simp [Ob.re, C.re, re_d]) rfl hf ?_
        simp -implicitDefEqProofs [go_sem, -List.set_cons_succ, -List.set_cons_zero]
end Go.Proofs.YtgfmlifkhpjplaaGreatDoor

/-
  What is written is read back: the plain law.
  Conditions: none.
-/
open Go Go.AM Go.Proofs
namespace Go.Proofs.YtgfmlifkhpjplaaGreatDoor
set_option linter.unusedVariables false
set_option linter.unusedSimpArgs false
set_option maxRecDepth 100000
def closers : List UInt8 := [41, 44, 93, 124]
/-- an end, or a closing byte -/
def EndOr (r : List UInt8) : Prop := r = [] ∨ ∃ c r', r = c :: r' ∧ c ∈ closers
theorem EndOr.fol {r : List UInt8} (h : EndOr r) (m : Int) : Fol m r := by
  rcases h with rfl | ⟨c, r', rfl, hc⟩
  · exact .nil
  · exact .close hc
/-- a term is read back from what is written -/
def Rdb (t : Tm) : Prop := ∀ (s : List UInt8) (i : Nat) (r : List UInt8) (D l : Nat), s.length ≤ 1000000 → i ≤ s.length → s.drop i = t.wr ++ r → t.shape D = true → Fol t.lv r → (t.atomB = true → 0 < levelN t.s → EndOr r) →
  t.lv ≤ l → l ≤ 3 → rdF s (.read i D l) = contM s D t.lv.toNat l t (i + t.wr.length)
section
variable {s : List UInt8} (hs : s.length ≤ 1000000)
include hs
/-- .. to an end -/
theorem Rdb.done {t : Tm} (h : Rdb t) {i D : Nat} {r : List UInt8} (hi : i ≤ s.length) (hd : s.drop i = t.wr ++ r) (hsh : t.shape D = true) (hf : t.fits) (he : EndOr r) (hlv : t.lv ≤ 3 ∧ 0 ≤ t.lv) : rdF s (.read i D 3) = some (.ok [t] (i + t.wr.length)) := by
  have hlen := dr_len hd hi
  rw [h s i r D 3 hs hi hd hsh (he.fol _) (fun _ _ => he) hlv.1 (Nat.le_refl _), cont_loop hs (by omega) hf (by omega) (Nat.le_refl _), opR_end (by omega) (by rw [dr_add hd]; exact he)]
theorem prime_read {i D l : Nat} {t : Tm} {j : Nat} (hi : i ≤ s.length) (hl : l ≤ 3) (h : rdF s (.prime i D) = some (.ok [t] j)) : rdF s (.read i D l) = contM s D 0 l t j := by
  rw [read_cont hs D hi l hl, h, thn_ok]
  unfold contM
  simp [Rs.tm]
theorem prime_var {n : Int} (h0 : 0 ≤ n) (h1 : n ≤ 25) {i D : Nat} {r : List UInt8} (hi : i ≤ s.length) (hd : s.drop i = [UInt8.ofNat (65 + n.toNat)] ++ r) (hD : 1 ≤ D) : rdF s (.prime i D) = some (.ok [.mk 1 n [] []] (i + 1)) := by
  obtain ⟨m, rfl⟩ := Int.eq_ofNat_of_zero_le h0
  have hall : ((List.range 26).all fun m => !(UInt8.ofNat (65 + m) == 40) && !(UInt8.ofNat (65 + m) == 91) && bigB (UInt8.ofNat (65 + m)) && decide ((UInt8.ofNat (65 + m)).toNat - 65 = m)) = true := by decide
  have := List.all_eq_true.1 hall m (by simp; omega)
  simp only [Bool.and_eq_true, Bool.not_eq_true', beq_eq_false_iff_ne, decide_eq_true_eq] at this
  obtain ⟨⟨⟨a1, a2⟩, a3⟩, a4⟩ := this
  rw [Int.toNat_natCast] at hd
  rw [prime_stepF hs i D hi, at_dr (c := UInt8.ofNat (65 + m)) (r := r) (by simpa using hd)]
  simp only
  rw [if_neg (by omega), if_neg a1, if_neg (fun h => a2 h.1), if_pos a3, a4]
theorem prime_int {n : Int} (h0 : -999 ≤ n) (h1 : n ≤ 999) {i D : Nat} {r : List UInt8} (hi : i ≤ s.length) (hd : s.drop i = itoa3 n ++ r) (hD : 1 ≤ D) (hr : ∀ c r', r = c :: r' → digB c = false) : rdF s (.prime i D) = some (.ok [.mk 2 n [] []] (i + (itoa3 n).length)) := by
  have hnum := numR_dr h0 h1 hd hr
  have hdig : ∀ c, digB c = true → c ≠ 40 ∧ c ≠ 91 ∧ bigB c = false := fun c hc => by
    simp only [digB, Bool.and_eq_true, decide_eq_true_eq] at hc
    refine ⟨fun e => by subst e; simp at hc, fun e => by subst e; simp at hc, ?_⟩
    simp only [bigB, Bool.and_eq_false_iff, decide_eq_false_iff_not]; omega
  have key : ∃ c y, itoa3 n ++ r = c :: y ∧ c ≠ 40 ∧ c ≠ 91 ∧ bigB c = false ∧ (digB c || c == 45 && digAt s (i + 1)) = true := by
    by_cases hneg : n < 0
    · obtain ⟨d1, d2, d3, d4⟩ := dec3_ok (u := n.natAbs) (by omega)
      have hi3 : itoa3 n = 45 :: dec3 n.natAbs := by unfold itoa3; rw [if_pos hneg]
      refine ⟨45, dec3 n.natAbs ++ r, by rw [hi3]; rfl, by decide, by decide, by decide, ?_⟩
      cases hq : dec3 n.natAbs with
      | nil => rw [hq] at d4; simp at d4
      | cons c y =>
        have hd2 : s.drop (i + 1) = c :: (y ++ r) := by
          have := dr_add (w := [45]) (r := (c :: y) ++ r) (s := s) (i := i) (by rw [hd, hi3, hq]; rfl)
          simpa using this
        rw [dig_dr hd2, List.all_eq_true.1 (can_digs d1) c (by rw [hq]; simp)]
        simp
    · obtain ⟨d1, d2, d3, d4⟩ := dec3_ok (u := n.toNat) (by omega)
      have hi3 : itoa3 n = dec3 n.toNat := by unfold itoa3; rw [if_neg hneg]
      cases hq : dec3 n.toNat with
      | nil => rw [hq] at d4; simp at d4
      | cons c y =>
        have hc := List.all_eq_true.1 (can_digs d1) c (by rw [hq]; simp)
        obtain ⟨e1, e2, e3⟩ := hdig c hc
        exact ⟨c, y ++ r, by rw [hi3, hq]; rfl, e1, e2, e3, by rw [hc]; rfl⟩
  obtain ⟨c, y, e0, e1, e2, e3, e4⟩ := key
  rw [prime_stepF hs i D hi, at_dr (c := c) (r := y) (by rw [hd, e0])]
  simp only
  rw [if_neg (by omega), if_neg e1, if_neg (fun h => e2 h.1), if_neg (by rw [e3]; simp), if_pos e4, hnum]
theorem prime_brk {t : Tm} {i D : Nat} {w r : List UInt8} (hi : i ≤ s.length) (hd : s.drop i = 40 :: w ++ 41 :: r) (hD : 1 ≤ D) (h : rdF s (.read (i + 1) D 3) = some (.ok [t] (i + 1 + w.length))) : rdF s (.prime i D) = some (.ok [t] (i + (40 :: w ++ [41]).length)) := by
  have hd2 : s.drop (i + 1 + w.length) = 41 :: r := by
    have := dr_add (w := 40 :: w) (r := 41 :: r) hd
    rw [show i + 1 + w.length = i + (40 :: w).length by simp; omega]; exact this
  rw [prime_stepF hs i D hi, at_dr (c := 40) (r := w ++ 41 :: r) (by simpa using hd)]
  simp only
  rw [if_neg (by omega), if_pos trivial, h, thn_ok, sgn_dr hd2]
  simp [Rs.tm]; omega
/-- behind a name -/
theorem prime_name {nm : List UInt8} {i D : Nat} {r : List UInt8} (hi : i ≤ s.length) (hd : s.drop i = nm ++ r) (hD : 1 ≤ D) (hn : nameB nm = true) (hr : ∀ c r', r = c :: r' → digB c = false ∧ smaB c = false ∧ (nm ∈ signs → extB nm c = false)) :
    rdF s (.prime i D) = if sgn s (i + nm.length) 40 then thn (rdF s (.terms (i + nm.length + 1) (D - 1) 41 41)) fun ts k => some (.ok [.mk 3 0 nm ts] (k + 1)) else some (.ok [.mk 3 0 nm []] (i + nm.length)) := by
  have hna := nameR_any hi hd hn fun c r' e => (hr c r' e).2
  obtain ⟨c, y, rfl, e1, e2, e3, e4, e5⟩ := name_head hn
  have h91 : ¬ (c = 91 ∧ sgn s (i + 1) 93 = false) := by
    rintro ⟨rfl, h⟩
    have := e5 rfl
    cases this
    have hd2 : s.drop (i + 1) = 93 :: r := by
      have := dr_add (w := [91]) (r := 93 :: r) (s := s) (i := i) hd
      simpa using this
    rw [sgn_dr hd2] at h
    cases h
  have h45 : (digB c || c == 45 && digAt s (i + 1)) = false := by
    rw [e1, Bool.false_or]
    cases hc : (c == 45) with
    | false => rfl
    | true =>
      simp at hc; subst hc
      have hnm : (45 :: y) = [45] := by
        simp only [nameB, Bool.or_eq_true] at hn
        rcases hn with hn | hn
        · simp [lettersB, lowB] at hn
        · simp only [List.contains_eq_mem, decide_eq_true_eq] at hn
          have : ∀ x ∈ signs, (match x with | [] => true | c :: _ => !(c == 45) || x == [45]) = true := by decide
          have := this _ hn
          simpa using this
      cases hnm
      have hd2 : s.drop (i + 1) = r := by
        have := dr_add (w := [45]) (r := r) (s := s) (i := i) hd
        simpa using this
      cases r with
      | nil => rw [dig_end hd2]; rfl
      | cons a r' => rw [dig_dr hd2, (hr a r' rfl).1]; rfl
  rw [prime_stepF hs i D hi, at_dr (c := c) (r := y ++ r) (by simpa using hd)]
  simp only
  rw [if_neg (by omega), if_neg e4, if_neg h91, if_neg (by rw [e3]; simp), if_neg (by rw [h45]; simp), hna]
omit hs in
theorem joinS_cons (c : UInt8) (a : List UInt8) : ∀ l : List (List UInt8), joinS c (a :: l) = a ++ l.flatMap fun x => c :: x
  | [] => by simp [joinS]
  | b :: l => by rw [joinS, joinS_cons c b l]; simp
theorem read_terms {e o : UInt8} (heo : e ∈ closers ∧ o ∈ closers ∧ e ≠ 44 ∧ o ≠ 44) {D : Nat} : ∀ (ts : List Tm), ts ≠ [] → (∀ t ∈ ts, Rdb t ∧ t.shape D = true ∧ t.fits ∧ (t.lv ≤ 3 ∧ 0 ≤ t.lv)) → ∀ {i : Nat} {c : UInt8} {r : List UInt8}, i ≤ s.length → s.drop i = joinS 44 (ts.map Tm.wr) ++ c :: r → (c = e ∨ c = o) →
    rdF s (.terms i D e o) = some (.ok ts (i + (joinS 44 (ts.map Tm.wr)).length))
  | [], h, _, _, _, _, _, _, _ => absurd rfl h
  | [t], _, h, i, c, r, hi, hd, hc => by
    obtain ⟨h1, h2, h3, h4⟩ := h t (by simp)
    simp only [List.map_cons, List.map_nil, joinS] at hd ⊢
    have hcc : c ∈ closers := by rcases hc with rfl | rfl; exact heo.1; exact heo.2.1
    rw [terms_stepF hs i D e o hi, h1.done hs hi hd h2 h3 (.inr ⟨c, r, rfl, hcc⟩) h4, thn_ok]
    have hsg : ∀ d, sgn s (i + t.wr.length) d = (c == d) := fun d => sgn_dr (dr_add hd)
    rw [hsg, hsg]
    rcases hc with rfl | rfl <;> simp [Rs.tm]
  | t :: u :: ts, _, h, i, c, r, hi, hd, hc => by
    obtain ⟨h1, h2, h3, h4⟩ := h t (by simp)
    have hj : joinS 44 ((t :: u :: ts).map Tm.wr) = t.wr ++ 44 :: joinS 44 ((u :: ts).map Tm.wr) := rfl
    rw [hj] at hd ⊢
    have hd1 : s.drop i = t.wr ++ (44 :: (joinS 44 ((u :: ts).map Tm.wr) ++ c :: r)) := by rw [hd]; simp
    have hd2 := dr_add hd1
    have hlen := dr_len hd1 hi
    have hd3 : s.drop (i + t.wr.length + 1) = joinS 44 ((u :: ts).map Tm.wr) ++ c :: r := by
      have := dr_add (w := [44]) (r := joinS 44 ((u :: ts).map Tm.wr) ++ c :: r) (s := s) (i := i + t.wr.length) (by simpa using hd2)
      simpa using this
    simp at hlen
    have ih := read_terms heo (u :: ts) (by simp) (fun x hx => h x (by simp at hx ⊢; exact .inr hx)) (i := i + t.wr.length + 1) (by omega) hd3 hc
    rw [terms_stepF hs i D e o hi, h1.done hs hi hd1 h2 h3 (.inr ⟨44, _, rfl, by decide⟩) h4, thn_ok]
    have hsg : ∀ d, sgn s (i + t.wr.length) d = ((44 : UInt8) == d) := fun d => sgn_dr hd2
    have n1 : ((44 : UInt8) == e) = false := by simpa using heo.2.2.1.symm
    have n2 : ((44 : UInt8) == o) = false := by simpa using heo.2.2.2.symm
    rw [hsg, hsg, hsg, n1, n2, ih]
    simp [Rs.tm, thn_ok]; omega
end
end Go.Proofs.YtgfmlifkhpjplaaGreatDoor

/-
  What is written is read back: all valid terms.
  Conditions: none.
-/
open Go Go.AM Go.Proofs
namespace Go.Proofs.YtgfmlifkhpjplaaGreatDoor
set_option linter.unusedVariables false
set_option linter.unusedSimpArgs false
set_option maxRecDepth 100000
theorem lv_le (t : Tm) : t.lv ≤ 3 ∧ 0 ≤ t.lv := by
  unfold Tm.lv
  split
  · have := levelN_le t.s; omega
  · omega
theorem wr_kids {k n : Int} {s : List UInt8} {l : List Tm} : (Tm.mk k n s l).wr = wrNode k n s l (l.map Tm.wr) (l.map Tm.wrt) := by rw [Tm.wr, wrs_map, wrts_map]
theorem close_ext : ∀ c ∈ closers, ([61, 60, 58] : List UInt8).contains c = false := by decide
def tailW (u : Tm) : List UInt8 := if u.nilB then [] else 124 :: u.wr
theorem wrt_pair (n : Int) (a b : Tm) : (Tm.mk 3 n [46] [a, b]).wrt = 44 :: a.wr ++ b.wrt := by
  rw [Tm.wrt, wrs_map, wrts_map]
  simp
theorem wrt_end {t : Tm} (h : t.pairB = false) : t.wrt = tailW t := by
  obtain ⟨k, n, s, l⟩ := t
  unfold tailW
  rw [Tm.wrt, Tm.wr]
  have h1 : ¬ (k = 3 ∧ s = [46] ∧ l.length = 2) := by
    rintro ⟨rfl, rfl, h2⟩
    have h3 : (l.length : Int) = 2 := by omega
    simp [Tm.pairB, Tm.k, Tm.s, Tm.kids, h3] at h
  rw [if_neg h1]
  by_cases h2 : k = 3 ∧ s = [91, 93] ∧ l = []
  · obtain ⟨rfl, rfl, rfl⟩ := h2
    simp [Tm.nilB, Tm.k, Tm.kids, Tm.s]
  · have h3 : (Tm.mk k n s l).nilB = false := by
      cases hb : (Tm.mk k n s l).nilB with
      | false => rfl
      | true =>
        simp only [Tm.nilB, Tm.k, Tm.kids, Tm.s, Bool.and_eq_true, decide_eq_true_eq, beq_iff_eq, List.isEmpty_iff] at hb
        exact absurd ⟨of_decide_eq_true hb.1.1, hb.2, hb.1.2⟩ h2
    rw [if_neg h2, h3]
    rfl
theorem nil_of {t : Tm} (h : t.nilB = true) {D : Nat} (hs : t.shape D = true) : t = nilT := by
  obtain ⟨k, n, s, l⟩ := t
  simp only [Tm.nilB, Tm.k, Tm.kids, Tm.s, Bool.and_eq_true, decide_eq_true_eq, beq_iff_eq, List.isEmpty_iff] at h
  obtain ⟨⟨hk, rfl⟩, rfl⟩ := h
  obtain rfl : k = 3 := of_decide_eq_true hk
  have := (shp_spec.1 hs).2.1
  simp [Tm.ownB] at this
  rw [this.1]; rfl
/-- elements and a tail -/
theorem tail_split : ∀ b : Tm, b.fits → ∀ D, b.shape D = true → ∃ (es : List Tm) (u : Tm), b = chainT es u ∧ u.pairB = false ∧ b.wrt = (es.flatMap fun e => 44 :: e.wr) ++ tailW u ∧ (∀ e ∈ es, e.size < b.size ∧ e.shape D = true ∧ e.fits) ∧ (u.size ≤ b.size ∧ u.shape D = true ∧ u.fits) := by
  refine Tm.ind fun k n s l ih hf D hsh => ?_
  cases hp : (Tm.mk k n s l).pairB with
  | false => exact ⟨[], _, rfl, hp, by rw [wrt_end hp]; rfl, by simp, Nat.le_refl _, hsh, hf⟩
  | true =>
    simp only [Tm.pairB, Tm.k, Tm.s, Tm.kids, Bool.and_eq_true, decide_eq_true_eq, beq_iff_eq] at hp
    obtain ⟨⟨hk, rfl⟩, hl⟩ := hp
    obtain rfl : k = 3 := of_decide_eq_true hk
    have hl : (l.length : Int) = 2 := of_decide_eq_true hl
    match l, show l.length = 2 by omega with
    | [a, b], _ =>
      obtain ⟨h1, h2, h3⟩ := shp_spec.1 hsh
      have hn : n = 0 := by simp [Tm.ownB] at h2; exact h2.1
      subst hn
      obtain ⟨_, _, _, _, hk⟩ := hf
      have ha := shp_mono a (D - 1) D (by omega) (h3 a (by simp))
      have hb := shp_mono b (D - 1) D (by omega) (h3 b (by simp))
      obtain ⟨es, u, e1, e2, e3, e4, e5⟩ := ih b (by simp) (hk b (by simp)) D hb
      have hsz : (Tm.mk 3 0 [46] [a, b]).size = 1 + (a.size + (b.size + 0)) := rfl
      refine ⟨a :: es, u, by rw [chainT, ← e1]; rfl, e2, by rw [wrt_pair, e3]; simp, fun e he => ?_, by omega, e5.2⟩
      rcases List.mem_cons.1 he with rfl | he
      · exact ⟨by omega, ha, hk _ (by simp)⟩
      · exact ⟨by have := (e4 e he).1; omega, (e4 e he).2⟩
theorem opnd_brk {t : Tm} {w : List UInt8} {m : Int} {rt : Bool} : opnd t w m rt = 40 :: w ++ [41] ∨ (opnd t w m rt = w ∧ t.lv ≤ m ∧ (t.atomB = true → ¬ 0 < levelN t.s) ∧ (rt = true → plainC (w.headD 0) = true)) := by
  unfold opnd
  split
  · exact .inl rfl
  · rename_i h
    refine .inr ⟨rfl, ?_, fun ha hl => ?_, fun hr => ?_⟩
    · simp at h; omega
    · simp [ha, hl] at h
    · simp [hr] at h
      rw [List.headD_eq_head?_getD]; exact h.2
section
variable {s : List UInt8} (hs : s.length ≤ 1000000)
include hs
/-- an operand -/
theorem opnd_read {t : Tm} (h : Rdb t) {i D l : Nat} {m : Int} {rt : Bool} {r : List UInt8} (hi : i ≤ s.length) (hd : s.drop i = opnd t t.wr m rt ++ r) (hsh : t.shape D = true) (hf : t.fits) (hfol : Fol m r) (hm : m ≤ l) (hl : l ≤ 3) (hm0 : 0 ≤ m) :
    ∃ q : Nat, (q : Int) ≤ m ∧ q ≤ 3 ∧ rdF s (.read i D l) = contM s D q l t (i + (opnd t t.wr m rt).length) := by
  have hD : 1 ≤ D := by
    cases D with
    | zero => rw [shape_zero] at hsh; cases hsh
    | succ D => omega
  rcases opnd_brk (t := t) (w := t.wr) (m := m) (rt := rt) with h1 | ⟨h1, h2, h3, _⟩
  · rw [h1] at hd ⊢
    have hd1 : s.drop i = 40 :: t.wr ++ 41 :: r := by rw [hd]; simp
    have hd2 : s.drop (i + 1) = t.wr ++ (41 :: r) := by
      have := dr_add (w := [40]) (r := t.wr ++ 41 :: r) (s := s) (i := i) (by simpa using hd1)
      simpa using this
    have hlen := dr_len hd1 hi
    simp at hlen
    have hrd := h.done hs (by omega) hd2 hsh hf (.inr ⟨41, r, rfl, by decide⟩) (lv_le t)
    exact ⟨0, by omega, by omega, prime_read hs hi hl (prime_brk hs hi hd1 hD hrd)⟩
  · rw [h1] at hd ⊢
    have hlv := lv_le t
    exact ⟨t.lv.toNat, by omega, by omega, h s i r D l hs hi hd hsh (hfol.mono h2) (fun ha hb => absurd hb (h3 ha)) (by omega) hl⟩
omit hs in
theorem head_not : ∀ t : Tm, t.good → ∃ c y, t.wr = c :: y ∧ c ≠ 93 := by
  refine Tm.ind fun k n s l ih hg => ?_
  obtain ⟨ho, hk⟩ := hg
  rw [wr_kids]
  rcases own_cases ho with ⟨rfl, h0, h1, rfl, rfl⟩ | ⟨rfl, h0, h1, rfl, rfl⟩ | ⟨rfl, rfl, hnm, hk4⟩
  · obtain ⟨m, rfl⟩ := Int.eq_ofNat_of_zero_le h0
    have hall : ((List.range 26).all fun m => !(UInt8.ofNat (65 + m) == 93)) = true := by decide
    have := List.all_eq_true.1 hall m (by simp; omega)
    exact ⟨UInt8.ofNat (65 + m), [], rfl, by simpa using this⟩
  · have hw : wrNode 2 n [] [] ([].map Tm.wr) ([].map Tm.wrt) = itoa3 n := by rw [itoa3_eq h0 h1]; rfl
    rw [hw]
    unfold itoa3
    split
    · exact ⟨45, _, rfl, by decide⟩
    · obtain ⟨d1, d2, d3, d4⟩ := dec3_ok (u := n.toNat) (by omega)
      cases hq : dec3 n.toNat with
      | nil => rw [hq] at d4; simp at d4
      | cons c y =>
        have hc := List.all_eq_true.1 (can_digs d1) c (by rw [hq]; simp)
        exact ⟨c, y, rfl, fun e => by subst e; simp [digB] at hc⟩
  · obtain ⟨c, y, e0, e1, e2, _⟩ := name_head hnm
    unfold wrNode
    rw [if_neg (by decide), if_neg (by decide)]
    split
    · exact ⟨91, _, rfl, by decide⟩
    · split
      · rename_i h2
        match l, h2.1 with
        | [a, b], _ =>
          rcases opnd_brk (t := a) (w := a.wr) (m := leftMost s) (rt := false) with h3 | ⟨h3, _⟩
          · exact ⟨40, a.wr ++ [41] ++ opSp s ++ opnd b b.wr (levelN s - 1) true, by simp [h3], by decide⟩
          · obtain ⟨c', y', hc, hn⟩ := ih a (by simp) (hk a (by simp))
            exact ⟨c', y' ++ opSp s ++ opnd b b.wr (levelN s - 1) true, by simp [h3]; rw [hc]; simp, hn⟩
      · split
        · exact ⟨c, y, e0, e2⟩
        · exact ⟨c, y ++ 40 :: joinS 44 (l.map Tm.wr) ++ [41], by rw [e0]; simp, e2⟩
/-- two operands -/
theorem op_read {a b : Tm} {n : List UInt8} (ha : Rdb a) (hb : Rdb b) {i D l : Nat} {r : List UInt8} (hi : i ≤ s.length) (hl0 : 1 ≤ levelN n) (hn : n.length ≤ 6)
    (hd : s.drop i = opnd a a.wr (leftMost n) false ++ opSp n ++ opnd b b.wr (levelN n - 1) true ++ r) (ha1 : a.shape D = true) (hb1 : b.shape D = true) (ha2 : a.fits) (hb2 : b.fits) (hfol : Fol (levelN n) r) (hl : levelN n ≤ l) (hl3 : l ≤ 3) :
    rdF s (.read i D l) = contM s D (levelN n).toNat l (.mk 3 0 n [a, b]) (i + (opnd a a.wr (leftMost n) false ++ opSp n ++ opnd b b.wr (levelN n - 1) true).length) := by
  have hlv : 1 ≤ levelN n ∧ levelN n ≤ 3 := ⟨hl0, (levelN_le n).2⟩
  have hlm := leftMost_lv hlv
  have hlm1 : leftMost n ≤ levelN n ∧ 0 ≤ leftMost n := by rw [hlm]; split <;> omega
  -- the right operand begins with a plain byte
  have hpl : ∃ c y, opnd b b.wr (levelN n - 1) true = c :: y ∧ plainC c = true := by
    rcases opnd_brk (t := b) (w := b.wr) (m := levelN n - 1) (rt := true) with h1 | ⟨h1, _, _, h2⟩
    · exact ⟨40, b.wr ++ [41], by rw [h1]; rfl, by decide⟩
    · have h2 := h2 rfl
      rw [h1]
      cases hw : b.wr with
      | nil => rw [hw] at h2; simp [plainC] at h2
      | cons c y => rw [hw] at h2; exact ⟨c, y, rfl, by simpa using h2⟩
  obtain ⟨c, y, hcy, hc⟩ := hpl
  have hd1 : s.drop i = opnd a a.wr (leftMost n) false ++ (opSp n ++ c :: (y ++ r)) := by rw [hd, hcy]; simp
  obtain ⟨q, q1, q2, q3⟩ := opnd_read hs ha hi hd1 ha1 ha2 (.op hl0 hlm1.1 hc) (by omega) hl3 hlm1.2
  have hlen1 := dr_len hd1 hi
  have hd2 := dr_add hd1
  have hop := opR_op (by omega) hd2 hl0 hc
  have hlen2 := dr_len hd2 (by omega)
  have hd3 : s.drop (i + (opnd a a.wr (leftMost n) false).length + (opSp n).length) = opnd b b.wr (levelN n - 1) true ++ r := by rw [dr_add hd2, hcy]; simp
  have hlen3 := dr_len hd3 (by omega)
  rw [q3, cont_loop hs (by omega) ha2 q2 hl3, hop]
  simp only
  rw [if_neg (by omega)]
  obtain ⟨p, p1, p2, p3⟩ := opnd_read hs hb (i := i + (opnd a a.wr (leftMost n) false).length + (opSp n).length) (by omega) hd3 hb1 hb2 (hfol.mono (by omega)) (l := (levelN n - 1).toNat) (by omega) (by omega) (by omega)
  have hd4 := dr_add hd3
  have hb3 : contM s D p (levelN n - 1).toNat b (i + (opnd a a.wr (leftMost n) false).length + (opSp n).length + (opnd b b.wr (levelN n - 1) true).length) = some (.ok [b] (i + (opnd a a.wr (leftMost n) false).length + (opSp n).length + (opnd b b.wr (levelN n - 1) true).length)) := by
    rw [cont_loop hs (by omega) hb2 p2 (by omega)]
    rcases opR_fol (s := s) (i := i + (opnd a a.wr (leftMost n) false).length + (opSp n).length + (opnd b b.wr (levelN n - 1) true).length) (m := levelN n) (by omega) (by rw [hd4]; exact hfol) with h | ⟨n', j', h, h2⟩
    · rw [h]
    · rw [h]
      simp only
      rw [if_pos (.inl (by omega))]
  rw [p3, hb3, thn_ok]
  congr 1
  simp; omega
end
theorem rdb_all : ∀ (N : Nat) (t : Tm), t.size ≤ N → t.fits → (∃ D, t.shape D = true) → Rdb t
  | 0, t, hN, _, _ => by
    have : 1 ≤ t.size := by cases t; rw [Tm.size]; omega
    omega
  | N + 1, t, hN, hf, ⟨D0, hD0⟩ => by
    intro s i r D l hs hi hd hsh hfol hsole hlv hl3
    have hlen := dr_len hd hi
    have hD : 1 ≤ D := by
      cases D with
      | zero => rw [shape_zero] at hsh; cases hsh
      | succ D => omega
    have ih : ∀ u : Tm, u.size ≤ N → u.fits → (∃ D, u.shape D = true) → Rdb u := fun u h1 h2 h3 => rdb_all N u h1 h2 h3
    have hhead := hfol.head
    obtain ⟨k, n, nm, kids⟩ := t
    obtain ⟨g1, g2, g3⟩ := shp_spec.1 hsh
    have hkf : ∀ u ∈ kids, u.fits := by obtain ⟨_, _, _, _, h⟩ := hf; exact h
    have hks : ∀ u ∈ kids, u.size ≤ N := fun u hu => by
      have := sizes_mem hu
      rw [Tm.size] at hN; omega
    rcases own_cases g2 with ⟨rfl, h0, h1, rfl, rfl⟩ | ⟨rfl, h0, h1, rfl, rfl⟩ | ⟨rfl, rfl, hnm, hk4⟩
    · -- a variable
      have hw : (Tm.mk 1 n [] []).wr = [UInt8.ofNat (65 + n.toNat)] := by rw [wr_kids]; rfl
      rw [hw] at hd ⊢
      exact prime_read hs hi hl3 (prime_var hs h0 h1 hi hd hD)
    · -- a number
      have hw : (Tm.mk 2 n [] []).wr = itoa3 n := by rw [wr_kids, itoa3_eq h0 h1]; rfl
      rw [hw] at hd ⊢
      exact prime_read hs hi hl3 (prime_int hs h0 h1 hi hd hD fun c r' e => (hhead c r' e).1)
    · by_cases hpair : nm = [46] ∧ kids.length = 2
      · -- a list
        obtain ⟨rfl, hl2⟩ := hpair
        match kids, hl2 with
        | [a, b], _ =>
          obtain ⟨es, u, e1, e2, e3, e4, e5⟩ := tail_split b (hkf b (by simp)) (D - 1) (g3 b (by simp))
          have hw : (Tm.mk 3 0 [46] [a, b]).wr = 91 :: (joinS 44 ((a :: es).map Tm.wr) ++ tailW u ++ [93]) := by
            have hjs : joinS 44 ((a :: es).map Tm.wr) = a.wr ++ (es.map Tm.wr).flatMap fun x => 44 :: x := joinS_cons _ _ _
            rw [wr_kids, hjs]
            simp [wrNode, e3, List.flatMap_map]
          have hlv0 : (Tm.mk 3 0 [46] [a, b]).lv = 0 := rfl
          have hch : Tm.mk 3 0 [46] [a, b] = chainT (a :: es) u := by rw [chainT, ← e1]; rfl
          have hsz : (Tm.mk 3 0 [46] [a, b]).size = 1 + (a.size + (b.size + 0)) := rfl
          have hau : ∀ x ∈ a :: es, Rdb x ∧ x.shape (D - 1) = true ∧ x.fits ∧ (x.lv ≤ 3 ∧ 0 ≤ x.lv) := fun x hx => by
            rcases List.mem_cons.1 hx with rfl | hx
            · exact ⟨ih _ (hks _ (by simp)) (hkf _ (by simp)) ⟨_, g3 _ (by simp)⟩, g3 _ (by simp), hkf _ (by simp), lv_le _⟩
            · obtain ⟨q1, q2, q3⟩ := e4 x hx
              exact ⟨ih _ (by omega) q3 ⟨_, q2⟩, q2, q3, lv_le _⟩
          refine prime_read hs hi hl3 ?_
          rw [hw] at hd ⊢
          have hat := at_dr (s := s) (i := i) (c := 91) (r := joinS 44 ((a :: es).map Tm.wr) ++ tailW u ++ [93] ++ r) (by rw [hd]; simp)
          -- the first element does not begin with a closing bracket
          have hne93 : sgn s (i + 1) 93 = false := by
            have hawne : a.wr ≠ [] := (wr_len a (shape_good a _ (g3 a (by simp)))).2
            have hfirst : ∃ c y, a.wr = c :: y ∧ c ≠ 93 := head_not a (shape_good a _ (g3 a (by simp)))
            obtain ⟨c, y, hcy, hc⟩ := hfirst
            have hd2 : s.drop (i + 1) = c :: (y ++ (es.flatMap fun e => 44 :: e.wr) ++ tailW u ++ [93] ++ r) := by
              have := dr_add (w := [91]) (r := c :: (y ++ (es.flatMap fun e => 44 :: e.wr) ++ tailW u ++ [93] ++ r)) (s := s) (i := i) (by rw [hd, List.map_cons, joinS_cons, hcy]; simp [List.flatMap_map])
              simpa using this
            rw [sgn_dr hd2]
            simpa using hc
          rw [prime_stepF hs i D hi, hat]
          simp only
          rw [if_neg (by omega), if_neg (by decide), if_pos ⟨trivial, hne93⟩]
          by_cases hnil : u.nilB = true
          · have htw : tailW u = [] := by unfold tailW; rw [if_pos hnil]
            rw [htw] at hd ⊢
            have hd1 : s.drop (i + 1) = joinS 44 ((a :: es).map Tm.wr) ++ 93 :: r := by
              have := dr_add (w := [91]) (r := joinS 44 ((a :: es).map Tm.wr) ++ 93 :: r) (s := s) (i := i) (by rw [hd]; simp)
              simpa using this
            have hlen0 := dr_len hd1 (by have := dr_len hd hi; simp at this; omega)
            rw [read_terms hs (e := 93) (o := 124) (by decide) (a :: es) (by simp) hau (by have := dr_len hd hi; simp at this; omega) hd1 (.inl rfl), thn_ok, sgn_dr (dr_add hd1)]
            have hu := nil_of hnil e5.2.1
            rw [hch, hu]
            simp; omega
          · have htw : tailW u = 124 :: u.wr := by unfold tailW; rw [if_neg hnil]
            rw [htw] at hd ⊢
            have hd1 : s.drop (i + 1) = joinS 44 ((a :: es).map Tm.wr) ++ 124 :: (u.wr ++ 93 :: r) := by
              have := dr_add (w := [91]) (r := joinS 44 ((a :: es).map Tm.wr) ++ 124 :: (u.wr ++ 93 :: r)) (s := s) (i := i) (by rw [hd]; simp)
              simpa using this
            have hlen0 := dr_len hd1 (by have := dr_len hd hi; simp at this; omega)
            have hd2 := dr_add hd1
            have hd3 : s.drop (i + 1 + (joinS 44 ((a :: es).map Tm.wr)).length + 1) = u.wr ++ 93 :: r := by
              have := dr_add (w := [124]) (r := u.wr ++ 93 :: r) (s := s) (i := i + 1 + (joinS 44 ((a :: es).map Tm.wr)).length) (by simpa using hd2)
              simpa using this
            simp at hlen0
            have hu : Rdb u := ih u (by omega) e5.2.2 ⟨_, e5.2.1⟩
            rw [read_terms hs (e := 93) (o := 124) (by decide) (a :: es) (by simp) hau (by omega) hd1 (.inr rfl), thn_ok, sgn_dr hd2]
            simp only [show ((124 : UInt8) == 93) = false from rfl, Bool.false_eq_true, if_false]
            rw [hu.done hs (by simp; omega) hd3 e5.2.1 e5.2.2 (.inr ⟨93, r, rfl, by decide⟩) (lv_le u), thn_ok, sgn_dr (dr_add hd3)]
            rw [hch]
            simp [Rs.tm]; omega
      · by_cases hop : kids.length = 2 ∧ 0 < levelN nm
        · -- an operator
          obtain ⟨hl2, hl0⟩ := hop
          match kids, hl2 with
          | [a, b], _ =>
            have hw : (Tm.mk 3 0 nm [a, b]).wr = opnd a a.wr (leftMost nm) false ++ opSp nm ++ opnd b b.wr (levelN nm - 1) true := by
              rw [wr_kids]
              have hn46 : nm ≠ [46] := fun e => hpair ⟨e, rfl⟩
              simp [wrNode, hn46, hl0]
            have hlvm : (Tm.mk 3 0 nm [a, b]).lv = levelN nm := rfl
            rw [hw] at hd ⊢
            rw [hlvm] at hfol hlv ⊢
            have ha1 := shp_mono a (D - 1) D (by omega) (g3 a (by simp))
            have hb1 := shp_mono b (D - 1) D (by omega) (g3 b (by simp))
            exact op_read hs (ih a (hks a (by simp)) (hkf a (by simp)) ⟨_, ha1⟩) (ih b (hks b (by simp)) (hkf b (by simp)) ⟨_, hb1⟩) hi (by omega) (name_len hnm).2 hd ha1 hb1 (hkf a (by simp)) (hkf b (by simp)) hfol hlv hl3
        · have hlv0 : (Tm.mk 3 0 nm kids).lv = 0 := by
            unfold Tm.lv
            split
            · rename_i h2
              have := levelN_le nm
              have h3 : ¬ 0 < levelN nm := fun h => hop ⟨h2, h⟩
              show levelN nm = 0
              omega
            · rfl
          rw [hlv0] at hfol ⊢
          refine prime_read hs hi hl3 ?_
          by_cases hkn : kids = []
          · -- an atom
            subst hkn
            have hw : (Tm.mk 3 0 nm []).wr = nm := by rw [wr_kids]; simp [wrNode]
            rw [hw] at hd ⊢
            have hnext : ∀ c r', r = c :: r' → digB c = false ∧ smaB c = false ∧ (nm ∈ signs → extB nm c = false) := fun c r' e => by
              obtain ⟨q1, q2, q3⟩ := hhead c r' e
              refine ⟨q1, q2, fun hsg => ?_⟩
              by_cases hz : 0 < levelN nm
              · rcases hsole rfl hz with he | ⟨c', r'', he, hc⟩
                · rw [he] at e; cases e
                · rw [he] at e; cases e
                  exact extB_of hsg (close_ext c hc)
              · exact ext_zero hsg (by have := levelN_le nm; omega) c
            rw [prime_name hs hi hd hD hnm hnext]
            have h40 : sgn s (i + nm.length) 40 = false := by
              cases r with
              | nil => exact sgn_end (dr_add hd)
              | cons c r' =>
                rw [sgn_dr (dr_add hd)]
                have := (hhead c r' rfl).2.2
                simpa using this
            rw [h40]; rfl
          · -- a structure
            have hw : (Tm.mk 3 0 nm kids).wr = nm ++ 40 :: joinS 44 (kids.map Tm.wr) ++ [41] := by
              rw [wr_kids]
              have h2 : ¬ (nm = [46] ∧ kids.length = 2) := hpair
              have h3 : ¬ (kids.length = 2 ∧ 0 < levelN nm) := hop
              unfold wrNode
              rw [if_neg (by decide), if_neg (by decide), if_neg h2, if_neg h3, if_neg hkn]
            rw [hw] at hd ⊢
            have hd1 : s.drop i = nm ++ (40 :: (joinS 44 (kids.map Tm.wr) ++ 41 :: r)) := by rw [hd]; simp
            have hd2 := dr_add hd1
            have hlen1 := dr_len hd1 hi
            simp at hlen1
            have hd3 : s.drop (i + nm.length + 1) = joinS 44 (kids.map Tm.wr) ++ 41 :: r := by
              have := dr_add (w := [40]) (r := joinS 44 (kids.map Tm.wr) ++ 41 :: r) (s := s) (i := i + nm.length) (by simpa using hd2)
              simpa using this
            rw [prime_name hs hi hd1 hD hnm (fun c r' e => by cases e; exact ⟨by decide, by decide, fun hsg => extB_of hsg (by decide)⟩), sgn_dr hd2]
            simp only [show ((40 : UInt8) == 40) = true from rfl, if_true]
            rw [read_terms hs (e := 41) (o := 41) (by decide) kids hkn (fun x hx => ⟨ih x (hks x hx) (hkf x hx) ⟨_, g3 x hx⟩, g3 x hx, hkf x hx, lv_le x⟩) (by omega) hd3 (.inl rfl), thn_ok]
            simp; omega
end Go.Proofs.YtgfmlifkhpjplaaGreatDoor

/-
  TermSame of the program.
  Conditions: none.
-/
open Go Go.AM Go.Proofs
namespace Go.Proofs.YtgfmlifkhpjplaaGreatDoor
open Go.ChangeShapes Go.WideShapes Go.ChangeAt Go.RowKit
set_option linter.unusedVariables false
set_option linter.unusedSimpArgs false
set_option maxRecDepth 100000
-- 18 loop.example/prologserver/impl.TermSame params 2 ntmps 31
def ac18 : Cd := .seq (.region [⟨(some 2),.box (.t 0),none⟩,
 ⟨(some 3),.box (.t 1),none⟩,
 ⟨(some 4),.mv (.k (.c (.d (.bool false)))),none⟩] [0,1,4])
 (.seq (.region [⟨(some 5),.fieldAddr 0 (.t 2),none⟩,
 ⟨(some 6),.load none (.t 5),none⟩,
 ⟨(some 7),.fieldAddr 0 (.t 3),none⟩,
 ⟨(some 8),.load none (.t 7),none⟩,
 ⟨(some 9),.bin .eql (.t 6) (.t 8),none⟩,
 ⟨(some 10),.mv (.t 9),none⟩,
 ⟨(some 11),.fieldAddr 1 (.t 2),some (10,true)⟩,
 ⟨(some 12),.load none (.t 11),some (10,true)⟩,
 ⟨(some 13),.fieldAddr 1 (.t 3),some (10,true)⟩,
 ⟨(some 14),.load none (.t 13),some (10,true)⟩,
 ⟨(some 15),.bin .eql (.t 12) (.t 14),some (10,true)⟩,
 ⟨(some 16),.pick (.t 10) (.t 15) (.k (.c (.d (.bool false)))),none⟩,
 ⟨(some 17),.mv (.t 16),none⟩,
 ⟨(some 18),.fieldAddr 2 (.t 2),some (17,true)⟩,
 ⟨(some 19),.load none (.t 18),some (17,true)⟩,
 ⟨(some 20),.fieldAddr 2 (.t 3),some (17,true)⟩,
 ⟨(some 21),.load none (.t 20),some (17,true)⟩,
 ⟨(some 22),.bin .eql (.t 19) (.t 21),some (17,true)⟩,
 ⟨(some 23),.pick (.t 17) (.t 22) (.k (.c (.d (.bool false)))),none⟩,
 ⟨(some 24),.mv (.t 23),none⟩,
 ⟨(some 25),.fieldAddr 3 (.t 2),some (24,true)⟩,
 ⟨(some 26),.load none (.t 25),some (24,true)⟩,
 ⟨(some 27),.fieldAddr 3 (.t 3),some (24,true)⟩,
 ⟨(some 28),.load none (.t 27),some (24,true)⟩,
 ⟨(some 29),.qcall 41 [(.t 26),(.t 28),(.k (.c (.fn 18 [])))],some (24,true)⟩,
 ⟨(some 30),.pick (.t 24) (.t 29) (.k (.c (.d (.bool false)))),none⟩,
 ⟨(some 4),.mv (.t 30),none⟩] [2,3,5,6,7,8,9,10,11,12,13,14,15,16,17,18,19,20,21,22,23,24,25,26,27,28,29,30])
 (.ret))
theorem ac18_ok : cFunc Tryz.prog [1000041] [(0,[0,1,4],[]),(1,[2,3,5,6,7,8,9,10,11,12,13,14,15,16,17,18,19,20,21,22,23,24,25,26,27,28,29,30],[])] Tryz.f18 = some (ac18,[.tmp 4],31) := by kernel_rfl
-- 41 slices.EqualFunc[[]loop.example/prologserver/impl.Term,[]loop.example/prologserver/impl.Term,loop.example/prologserver/impl.Term,loop.example/prologserver/impl.Term] params 3 ntmps 32
-- loop head live: [1,2,15,16,17]
def ac41 : Cd := .seq (.region [⟨(some 6),.mv (.k (.c (.d (.bool false)))),none⟩] [6])
 (.seq (.seq (.region [⟨(some 10),.mv (.t 0),none⟩,
 ⟨(some 11),.len 1 (.t 10),none⟩,
 ⟨(some 12),.mv (.t 1),none⟩,
 ⟨(some 13),.len 1 (.t 12),none⟩,
 ⟨(some 14),.bin .neq (.t 11) (.t 13),none⟩] [10,11,12,13])
 (.cond (.t 14)
 (.seq (.region [⟨(some 6),.mv (.k (.c (.d (.bool false)))),none⟩] [0,1,2,14])
 (.ret))
 (.skip)))
 (.seq (.seq (.region [⟨(some 15),.mv (.t 0),none⟩,
 ⟨(some 16),.len 1 (.t 15),none⟩,
 ⟨(some 17),.mv (.k (.c (.d (.int .i64 0)))),none⟩] [0,6,14])
 (.block 0 (.loop (.seq (.region [⟨(some 18),.bin .lss (.t 17) (.t 16),none⟩] [])
 (.seq (.cond (.t 18)
 (.skip)
 (.exit 0))
 (.seq (.block 1 (.seq (.region [⟨(some 19),.mv (.t 17),none⟩,
 ⟨(some 20),.indexAddr 4 (.t 15) (.t 17),none⟩,
 ⟨(some 21),.load (some 4) (.t 20),none⟩,
 ⟨(some 8),.alloc [(.d (.int .i64 0)),(.d (.int .i64 0)),(.d (.str [])),(.full [])],none⟩,
 ⟨(some 7),.mv (.t 19),none⟩,
 ⟨none,.store 4 (.t 8) (.t 21),none⟩] [18,19,20,21])
 (.seq (.region [⟨(some 22),.mv (.t 1),none⟩,
 ⟨(some 23),.mv (.t 7),none⟩,
 ⟨(some 24),.indexAddr 4 (.t 22) (.t 23),none⟩,
 ⟨(some 25),.load (some 4) (.t 24),none⟩,
 ⟨(some 9),.alloc [(.d (.int .i64 0)),(.d (.int .i64 0)),(.d (.str [])),(.full [])],none⟩,
 ⟨none,.store 4 (.t 9) (.t 25),none⟩] [7,22,23,24,25])
 (.seq (.region [⟨(some 26),.mv (.t 2),none⟩,
 ⟨(some 27),.load (some 4) (.t 8),none⟩,
 ⟨(some 28),.load (some 4) (.t 9),none⟩,
 ⟨(some 29),.callv (.t 26) [(.t 27),(.t 28)],none⟩,
 ⟨(some 30),.un .not (.t 29),none⟩] [8,9,26,27,28,29])
 (.cond (.t 30)
 (.seq (.region [⟨(some 6),.mv (.k (.c (.d (.bool false)))),none⟩] [1,2,15,16,17,30])
 (.ret))
 (.skip))))))
 (.region [⟨(some 31),.bin .add (.t 17) (.k (.c (.d (.int .i64 1)))),none⟩,
 ⟨(some 17),.mv (.t 31),none⟩] [6,30,31])))))))
 (.seq (.region [⟨(some 6),.mv (.k (.c (.d (.bool true)))),none⟩] [])
 (.ret))))
theorem ac41_ok : cFunc Tryz.prog [] [(0,[6],[]),(1,[10,11,12,13],[]),(2,[0,1,2,14],[]),(3,[0,6,14],[]),(4,[],[]),(5,[18,19,20,21],[]),(6,[7,22,23,24,25],[]),(7,[8,9,26,27,28,29],[]),(8,[1,2,15,16,17,30],[]),(9,[6,30,31],[]),(10,[],[])] Tryz.f41 = some (ac41,[.tmp 6],32) := by kernel_rfl
theorem eqFunc_of (f : FuncId) (l r : List Tm) (hl : l.length ≤ 1048576) (hr : r.length ≤ 1048576) (h : ∀ x ∈ l, ∀ y ∈ r, Same2 f x y) (H : Heap) :
    ACalls Tryz.prog 41 [.c (.d (.sl (l.map Tm.row))), .c (.d (.sl (r.map Tm.row))), .c (.fn f [])] H (fun r' H' => H' = H ∧ r' = .c (.d (.bool (decide (l = r))))) := by
  refine acalls Tryz.func41 (by kernel_rfl) ac41_ok fun hf => ?_
  have hli : inR .i64 (l.length : Int) := small_i64 (by omega) (by omega)
  have hri : inR .i64 (r.length : Int) := small_i64 (by omega) (by omega)
  simp -implicitDefEqProofs [ac41, hli, hri, go_sem, -List.set_cons_succ, -List.set_cons_zero]
  refine ⟨fun h1 e => by subst e; simp at h1, fun e4 => ?_⟩
  have e4 : l.length = r.length := by omega
  refine loop_set (σ := Nat) (fun i => [(17, .c (.d (.int .i64 i)))]) (fun _ => H) (fun _ => []) (fun i => i ≤ l.length ∧ l.take i = r.take i) (fun i => l.length - i) 0 rfl ⟨Nat.zero_le _, rfl⟩ ?_
  rintro i ⟨hi, htk⟩
  simp -implicitDefEqProofs [setAll, hli, go_sem, -List.set_cons_succ, -List.set_cons_zero]
  refine ⟨fun hlt => ?_, fun hge => by rw [List.take_of_length_le hge, List.take_of_length_le (by omega)] at htk; exact htk⟩
  have hadd : inR .i64 ((i : Int) + 1) := small_i64 (by omega) (by omega)
  refine row_of hlt (row_len _) ?_
  simp -implicitDefEqProofs [row_len, take_row, fits_map, hf, go_sem, -List.set_cons_succ, -List.set_cons_zero]
  refine row_of (by omega) (row_len _) ?_
  simp -implicitDefEqProofs [row_len, take_row, fits_map, hf, go_sem, -List.set_cons_succ, -List.set_cons_zero]
  simp -implicitDefEqProofs [pure_d, re_d, go_sem, -List.set_cons_succ, -List.set_cons_zero]
  refine call_same (h l[i] (List.getElem_mem hlt) (r[i]'(by omega)) (List.getElem_mem (by omega)) _) (by simp [Ob.re, C.re, re_d]) rfl hf ?_
  simp -implicitDefEqProofs [hadd, go_sem, -List.set_cons_succ, -List.set_cons_zero]
  refine ⟨fun hne e => ?_, fun he => ?_⟩
  · subst e; exact hne rfl
  · exact loop_less (i + 1) (St.le_cut [_, _] (by simp [setAll, Sl.le, A.le_refl_iff, A.le_u_iff, As.lo, A.lo, C.lo, Ref.lo, Cs.lo, Obs.lo, Ob.lo, setAll, and_true, true_and, List.length_nil, List.length_cons]) (by simp [Sl.le, A.le_refl_iff, A.le_u_iff, As.lo, A.lo, C.lo, Ref.lo, Cs.lo, Obs.lo, Ob.lo, setAll, and_true, true_and, List.length_nil, List.length_cons]) rfl (by simp [Sl.le, A.le_refl_iff, A.le_u_iff, As.lo, A.lo, C.lo, Ref.lo, Cs.lo, Obs.lo, Ob.lo, setAll, and_true, true_and, List.length_nil, List.length_cons])) ⟨hlt, take_snoc hlt (by omega) htk he⟩ (by show l.length - (i + 1) < l.length - i; omega)
theorem sameImpl_calls : ∀ a : Tm, a.fits → ∀ b : Tm, b.fits → Same2 18 a b := by
  refine Tm.ind fun k n s l ih hfits b hb H => ?_
  obtain ⟨k', n', s', r⟩ := b
  obtain ⟨_, _, _, hl, hkids⟩ := hfits
  obtain ⟨_, _, _, hr, hkids'⟩ := hb
  refine acalls Tryz.func18 (by kernel_rfl) ac18_ok fun hf => ?_
  simp -implicitDefEqProofs [ac18, row_mk, go_sem, -List.set_cons_succ, -List.set_cons_zero]
  refine ⟨fun e1 e2 e3 => ⟨⟨⟨e1, e2⟩, e3⟩, ?_⟩, fun h => ?_⟩
  · subst e1 e2 e3
    refine qcall_pure (eqFunc_of 18 l r hl hr fun x hx y hy => ih x hx (hkids x hx) y (hkids' y hy)) hf rfl ?_
    simp -implicitDefEqProofs [go_sem, -List.set_cons_succ, -List.set_cons_zero]
  · exact fun e1 e2 e3 => absurd e3 (h e1 e2)
end Go.Proofs.YtgfmlifkhpjplaaGreatDoor

/-
  Terms that are handed to a law.
  Conditions: none.
-/
open Go Go.AM Go.Proofs
namespace Go.Proofs.YtgfmlifkhpjplaaGreatDoor
open Go.ChangeShapes Go.WideShapes Go.ChangeAt Go.RowKit
set_option linter.unusedVariables false
set_option linter.unusedSimpArgs false
set_option maxRecDepth 100000
end Go.Proofs.YtgfmlifkhpjplaaGreatDoor
