/-
  Contracts of functions that the law reaches, and plain lemmas: several texts in one.
  Conditions: none.
-/
import Derived.Test.YtcapnainldlnjaaGreatBundA
open Go Go.AM Go.Proofs
attribute [local go_sem] kw ew sw tw a_ b_ c_ A.ok A.val d_ e_ f_ g_ h_ i_ j_ k_ l_ m_ unA unD n_ AOp.total o_ p_ q_ r_ s_ t_ u_ v_ A.thaw C.thaw A.fits As.fits C.fits evs oks w_ A.pure C.pure A.re C.re x_ y_ cut A.cells C.rows? z_ A_ B_ C_ a0_ b0_ D_ Ob.re Cs.fits E_ F_ G_ H_ I_ J_ K_ L_ M_ N_ O_ C.toD P_ Q_ R_ S_ T_ Obs.fits U_ eqD V_ W_ X_ Y_ Z_ oa oc ki
open Go Go.AM Go.Proofs
namespace Go.Proofs.YtcapnainldlnjaaGreat
open Go.ChangeShapes Go.WideShapes Go.ChangeAt Go.RowKit
set_option linter.unusedVariables false
set_option linter.unusedSimpArgs false
set_option maxRecDepth 100000
namespace Sv
-- 95 loop.example/prologserver/spec.l3Full params 3 ntmps 59
-- loop head live: [1,3,6,8,9,10]
def ac95 : Cd := .seq (.region [oc 3 (.box (.t 0)),
 oc 6 (.alloc [(.d (.int .i64 0)),(.d (.int .i64 0)),(.d (.str [])),(.full [])]),
 oc 7 (.mv (ki 0))] [0,7])
 (.seq (.seq (.region [oa 13 2,
 oc 14 (.bin .lss (.t 13) (ki 1))] [13])
 (.cond (.t 14)
 (.seq (.region [oc 15 (.build [(.d (.int .i64 0)),(.d (.int .i64 0)),(.d (.str [])),(.full [])] []),
 ⟨none,.store 4 (.t 6) (.t 15),none⟩,
 oc 7 (.mv (ki (-1)))] [1,2,3,14,15])
 (.ret))
 (.skip)))
 (.seq (.region [oc 16 (.load (some 4) (.t 3)),
 oa 17 1,
 oc 18 (.qcall 113 [(.t 16),(.t 17)]),
 ⟨none,.store 4 (.t 3) (.t 18),none⟩] [7,14,16,17,18])
 (.seq (.region [oc 19 (.fieldAddr 0 (.t 3)),
 oc 20 (.load none (.t 19)),
 oc 21 (.fieldAddr 1 (.t 3)),
 oc 22 (.load none (.t 21)),
 oc 23 (.fieldAddr 2 (.t 3)),
 oc 24 (.load none (.t 23)),
 oc 25 (.build [(.d (.int .i64 0)),(.d (.int .i64 0)),(.d (.str [])),(.full [])] [(0,1,(.t 20)),(1,1,(.t 22)),(2,1,(.t 24))]),
 oc 8 (.alloc [(.d (.int .i64 0)),(.d (.int .i64 0)),(.d (.str [])),(.full [])]),
 ⟨none,.store 4 (.t 8) (.t 25),none⟩] [19,20,21,22,23,24,25])
 (.seq (.region [oa 26 2,
 oc 27 (.bin .sub (.t 26) (ki 1)),
 oa 9 27] [2,26,27])
 (.seq (.seq (.region [oc 10 (.mv (ki 0))] [])
 (.block 0 (.loop (.seq (.seq (.region [oa 28 10,
 oc 29 (.fieldAddr 3 (.t 3)),
 oc 30 (.load none (.t 29)),
 oc 31 (.len 1 (.t 30)),
 oc 32 (.bin .lss (.t 28) (.t 31)),
 oa 33 32,
 ⟨some 34,.mv (.t 9),some (33,true)⟩,
 ⟨some 35,.bin .geq (.t 34) (ki 0),some (33,true)⟩,
 oc 36 (.pick (.t 33) (.t 35) (.k (.c (.d (.bool false)))))] [28,29,30,31,32,33,34,35])
 (.cond (.t 36)
 (.skip)
 (.exit 0)))
 (.seq (.block 1 (.seq (.region [oc 40 (.fieldAddr 3 (.t 3)),
 oc 41 (.load none (.t 40)),
 oa 42 10,
 oc 43 (.indexAddr 4 (.t 41) (.t 42)),
 oc 44 (.load (some 4) (.t 43)),
 oa 45 1,
 oa 46 9,
 oc 47 (.call false 95 [(.t 44),(.t 45),(.t 46)]),
 oa 39 47,
 oc 48 (.extract 0 (.t 39)),
 oc 49 (.extract 1 (.t 39)),
 oc 11 (.alloc [(.d (.int .i64 0)),(.d (.int .i64 0)),(.d (.str [])),(.full [])]),
 ⟨none,.store 4 (.t 11) (.t 48),none⟩,
 oa 12 49] [9,36,39,40,41,42,43,44,45,46,47,48,49])
 (.seq (.region [oc 50 (.fieldAddr 3 (.t 8)),
 oc 51 (.load none (.t 50)),
 oc 52 (.load (some 4) (.t 11)),
 oc 53 (.buildSlice 4 1 [(.int .i64 0),(.int .i64 0),(.str []),(.sl [])] [(0,(.t 52))]),
 oc 54 (.append false 4 (.t 51) (.t 53)),
 oc 55 (.fieldAddr 3 (.t 8)),
 ⟨none,.store 1 (.t 55) (.t 54),none⟩] [11,50,51,52,53,54,55])
 (.region [oa 56 12,
 oa 9 56] [12,56]))))
 (.region [oa 37 10,
 oc 38 (.bin .add (.t 37) (ki 1)),
 oa 10 38] [37,38]))))))
 (.seq (.region [oc 57 (.load (some 4) (.t 8)),
 oa 58 9,
 ⟨none,.store 4 (.t 6) (.t 57),none⟩,
 oa 7 58] [8,9,57,58])
 (.ret)))))))
theorem ac95_ok : cFunc Tryz.prog [1000113] [(0,[0,7],[]),(1,[13],[]),(2,[1,2,3,14,15],[]),(3,[7,14,16,17,18],[]),(4,[19,20,21,22,23,24,25],[]),(5,[2,26,27],[]),(6,[],[]),(7,[28,29,30,31,32,33,34,35],[]),(9,[9,36,39,40,41,42,43,44,45,46,47,48,49],[]),(10,[11,50,51,52,53,54,55],[]),(11,[12,56],[]),(8,[37,38],[]),(12,[8,9,57,58],[])] Tryz.f95 = some (ac95,[.cell 6 (some 4),.tmp 7],59) := by kernel_rfl
-- 96 loop.example/prologserver/spec.l6Flat params 2 ntmps 24
-- loop head live: [1,2,5]
def ac96 : Cd := .seq (.region [oc 2 (.box (.t 0)),
 oc 4 (.mv (.k (.c (.d (.bool false)))))] [0,4])
 (.seq (.seq (.region [oa 6 1,
 oc 7 (.bin .lss (.t 6) (ki 1))] [6])
 (.cond (.t 7)
 (.seq (.region [oc 4 (.mv (.k (.c (.d (.bool false)))))] [1,2,7])
 (.ret))
 (.skip)))
 (.seq (.seq (.region [oc 5 (.mv (ki 0))] [4,7])
 (.block 0 (.loop (.seq (.seq (.region [oa 8 5,
 oc 9 (.fieldAddr 3 (.t 2)),
 oc 10 (.load none (.t 9)),
 oc 11 (.len 1 (.t 10)),
 oc 12 (.bin .lss (.t 8) (.t 11))] [8,9,10,11])
 (.cond (.t 12)
 (.skip)
 (.exit 0)))
 (.seq (.block 1 (.seq (.region [oc 15 (.fieldAddr 3 (.t 2)),
 oc 16 (.load none (.t 15)),
 oa 17 5,
 oc 18 (.indexAddr 4 (.t 16) (.t 17)),
 oc 19 (.load (some 4) (.t 18)),
 oa 20 1,
 oc 21 (.bin .sub (.t 20) (ki 1)),
 oc 22 (.qcall 96 [(.t 19),(.t 21)]),
 oc 23 (.un .not (.t 22))] [12,15,16,17,18,19,20,21,22])
 (.cond (.t 23)
 (.seq (.region [oc 4 (.mv (.k (.c (.d (.bool false)))))] [1,2,5,23])
 (.ret))
 (.skip))))
 (.region [oa 13 5,
 oc 14 (.bin .add (.t 13) (ki 1)),
 oa 5 14] [4,13,14,23]))))))
 (.seq (.region [oc 4 (.mv (.k (.c (.d (.bool true)))))] [])
 (.ret))))
theorem ac96_ok : cFunc Tryz.prog [1000096] [(0,[0,4],[]),(1,[6],[]),(2,[1,2,7],[]),(3,[4,7],[]),(4,[8,9,10,11],[]),(6,[12,15,16,17,18,19,20,21,22],[]),(7,[1,2,5,23],[]),(5,[4,13,14,23],[]),(8,[],[])] Tryz.f96 = some (ac96,[.tmp 4],24) := by kernel_rfl
-- 75 loop.example/prologserver/spec.l6Small params 2 ntmps 21
def ac75 : Cd := .seq (.region [oc 2 (.box (.t 0)),
 oc 4 (.alloc [(.d (.int .i64 0)),(.d (.int .i64 0)),(.d (.str [])),(.full [])]),
 oc 5 (.mv (.k (.c (.d (.bool false)))))] [0,5])
 (.seq (.region [oc 9 (.load (some 4) (.t 2)),
 oa 10 1,
 oc 11 (.call false 95 [(.t 9),(.t 10),(ki 120)]),
 oa 8 11,
 oc 12 (.extract 0 (.t 8)),
 oc 13 (.extract 1 (.t 8)),
 oc 6 (.alloc [(.d (.int .i64 0)),(.d (.int .i64 0)),(.d (.str [])),(.full [])]),
 ⟨none,.store 4 (.t 6) (.t 12),none⟩,
 oa 7 13] [1,2,8,9,10,11,12,13])
 (.seq (.region [oa 15 7,
 oc 16 (.bin .geq (.t 15) (ki 0)),
 oa 17 16,
 oc 14 (.load (some 4) (.t 6)),
 ⟨some 18,.load (some 4) (.t 6),some (17,true)⟩,
 ⟨some 19,.qcall 96 [(.t 18),(ki 30)],some (17,true)⟩,
 oc 20 (.pick (.t 17) (.t 19) (.k (.c (.d (.bool false))))),
 ⟨none,.store 4 (.t 4) (.t 14),none⟩,
 oa 5 20] [6,7,14,15,16,17,18,19,20])
 (.ret)))
theorem ac75_ok : cFunc Tryz.prog [1000096] [(0,[0,5],[]),(1,[1,2,8,9,10,11,12,13],[]),(2,[6,7,14,15,16,17,18,19,20],[1,2,3,0,4,5,6,7,8])] Tryz.f75 = some (ac75,[.cell 4 (some 4),.tmp 5],21) := by kernel_rfl
/-- a term and how much room is left; where the room did not do, that is fewer than 0 -/
def FullR (N room : Nat) (r : A) : Prop := ∃ (u : Tm) (left : Int), r = .tup [.agg (u.row.map .d), .c (.d (.int .i64 left))] ∧ -1 ≤ left ∧ left < room ∧ u.fits ∧ (0 ≤ left → Tn N u ∧ u.sub + left + 1 ≤ room)
theorem Tn.rekids {N : Nat} {k n : Int} {s : List UInt8} {l o : List Tm} (h : Tn N (.mk k n s l)) (hl : o.length = l.length) (ho : ∀ t ∈ o, Tn N t) : Tn N (.mk k n s o) := by
  cases h with
  | var h0 h1 =>
    obtain rfl := List.length_eq_zero_iff.1 hl
    exact .var h0 h1
  | int h1 h2 h3 _ => exact .int h1 h2 (by omega) ho
  | str h1 h2 h3 _ => exact .str h1 h2 (by omega) ho
theorem zeroT_fits : (Tm.mk 0 0 [] []).fits := .mk (small_i64 (by omega) (by omega)) (small_i64 (by omega) (by omega)) (by simp) (by simp) (by simp)
theorem FullR.re {N room n : Nat} {r : A} (h : FullR N room r) : A.re n r = r := by
  obtain ⟨u, left, rfl, _⟩ := h
  simp [A.re, A.res, C.re, re_d]
def FullOk (N : Nat) (L : List Tm) (t : Tm) : Prop := ∀ (room : Int) (H : Heap), -1 ≤ room → room ≤ 120 → ACalls Tryz.prog 95 [.agg (t.row.map .d), .c (.d (.sl (L.map Tm.row))), .c (.d (.int .i64 room))] H (fun r H' => H' = H ∧ FullR N (room.toNat) r)
set_option maxHeartbeats 1600000 in
theorem full_step {N : Nat} {L : List Tm} (hN : N ≤ 100000) (hL : Sok N L) (t : Tm) (ht : Tz N t) (hkid : ∀ x ∈ (wk (lkL L) t).kids, FullOk N L x) : FullOk N L t := fun room H h0 h1 => by
  refine acalls Tryz.func95 (by kernel_rfl) ac95_ok fun hf => ?_
  have hlen := hL.len
  have hw := wk_tn hL ht
  have cw := fun H => walkD_calls hN hL t ht H
  generalize wk (lkL L) t = u at hw cw hkid
  simp -implicitDefEqProofs [ac95, row_len, take_row, pure_d, re_d, hf, go_sem, -List.set_cons_succ, -List.set_cons_zero]
  refine ⟨fun h => ⟨.mk 0 0 [] [], -1, by simp [row_mk], by omega, by omega, zeroT_fits, fun h => absurd h (by decide)⟩, fun h => ?_⟩
  refine qcall_pure cw hf (by simp [A.re, re_d]) ?_
  obtain ⟨k, n, s, l⟩ := u
  have hl4 : l.length ≤ 4 := hw.1.kids.1
  have hli : inR .i64 (l.length : Int) := small_i64 (by omega) (by omega)
  have hrm : inR .i64 (room - 1) := small_i64 (by omega) (by omega)
  obtain ⟨fk, fn, fs, _, _⟩ := hw.1.fits (by omega)
  simp -implicitDefEqProofs [row_mk, row_len, drop_row4, hf, hli, hrm, go_sem, -List.set_cons_succ, -List.set_cons_zero]
  refine loop_enter (St.le_tokenC 2 3 4 rfl rfl) ?_
  refine loop_set (σ := Nat × Int × List Tm) (fun x => [(10, .c (.d (.int .i64 x.1))), (9, .c (.d (.int .i64 x.2.1)))]) (fun _ => H) (fun x => [.cells [.d (.int .i64 k), .d (.int .i64 n), .d (.str s), .d (.sl (l.map Tm.row))], .cells [.d (.int .i64 0), .d (.int .i64 0), .d (.str []), .full []], .cells [.d (.int .i64 k), .d (.int .i64 n), .d (.str s), .own (.l 3) x.2.2.length (x.2.2.map Tm.row)], .grow x.2.2.length 4])
    (fun x => x.1 ≤ l.length ∧ x.2.2.length = x.1 ∧ -1 ≤ x.2.1 ∧ x.2.1 < room ∧ (∀ t ∈ x.2.2, t.fits) ∧ (0 ≤ x.2.1 → (∀ t ∈ x.2.2, Tn N t) ∧ Tm.cnt x.2.2 + x.2.1 + 1 ≤ room)) (fun x => l.length - x.1) (0, room - 1, []) (by simp [setAll])
    ⟨Nat.zero_le _, rfl, by show -1 ≤ room - 1; omega, by show room - 1 < room; omega, by simp, fun _ => ⟨by simp, by show (Tm.cnt [] : Int) + (room - 1) + 1 ≤ room; rw [cnt_nil]; omega⟩⟩ ?_
  rintro ⟨j, left, out⟩ ⟨hj, hol, hl0, hl1, hof, hot⟩
  simp only at hj hol hl0 hl1 hof hot
  simp -implicitDefEqProofs [setAll, hli, go_sem, -List.set_cons_succ, -List.set_cons_zero]
  refine ⟨fun hjl h0l => ?_, fun hst => ⟨hf, .mk k n s out, left, by simp [row_mk], hl0, by omega, .mk fk fn fs (by omega) hof, fun h => ?_⟩⟩
  · have hadd : inR .i64 ((j : Int) + 1) := small_i64 (by omega) (by omega)
    refine row_of hjl (row_len _) ?_
    simp -implicitDefEqProofs [row_len, take_row, drop_row4, pure_d, re_d, go_sem, -List.set_cons_succ, -List.set_cons_zero]
    refine call_some (hkid l[j] (List.getElem_mem hjl) left _ hl0 (by omega)) (by first | rfl | simp [Ob.re, C.re, Ref.re, re_d]) (fun r hr => hr.re) hf fun r ⟨u, left', hr, hb0, hb1, hb2, hb3⟩ => ?_
    subst hr
    simp -implicitDefEqProofs [row_len, take_row, drop_row4, pure_d, re_d, toDs_map, hadd, go_sem, -List.set_cons_succ, -List.set_cons_zero]
    refine ⟨hf, allLen_map row_len, by unfold maxApp; omega, hf, ?_⟩
    refine loop_less (j + 1, left', out ++ [u]) (St.le_cut [_] (loc' := [.cells [.d (.int .i64 k), .d (.int .i64 n), .d (.str s), .d (.sl (l.map Tm.row))], .cells [.d (.int .i64 0), .d (.int .i64 0), .d (.str []), .full []], .cells [.d (.int .i64 k), .d (.int .i64 n), .d (.str s), .own (.l 3) (out ++ [u]).length ((out ++ [u]).map Tm.row)], .grow (out ++ [u]).length 4]) ?_ ?_ (by simp; rfl) ?_) ⟨hjl, by simp [hol], hb0, by show left' < room; omega, fun x hx => ?_, fun h => ?_⟩ (by show l.length - (j + 1) < l.length - j; omega)
    · simp [setAll, Sl.le, A.le_refl_iff, A.le_u_iff, As.lo, A.lo, C.lo, Ref.lo, Cs.lo, Obs.lo, Ob.lo, setAll, and_true, true_and, List.length_nil, List.length_cons]
    · simp [Sl.le, A.le_refl_iff, A.le_u_iff, As.lo, A.lo, C.lo, Ref.lo, Cs.lo, Obs.lo, Ob.lo, setAll, and_true, true_and, List.length_nil, List.length_cons]
    · simp [Sl.le, A.le_refl_iff, A.le_u_iff, As.lo, A.lo, C.lo, Ref.lo, Cs.lo, Obs.lo, Ob.lo, setAll, and_true, true_and, List.length_nil, List.length_cons]
    · rcases List.mem_append.1 hx with h | h
      · exact hof x h
      · rw [List.mem_singleton.1 h]; exact hb2
    · obtain ⟨h1, h2⟩ := hb3 h
      obtain ⟨h3, h4⟩ := hot h0l
      refine ⟨fun x hx => ?_, ?_⟩
      · rcases List.mem_append.1 hx with h | h
        · exact h3 x h
        · rw [List.mem_singleton.1 h]; exact h1
      · show ((Tm.cnt (out ++ [u]) : Nat) : Int) + left' + 1 ≤ room
        rw [cnt_append, cnt_cons, cnt_nil]
        omega
  · obtain ⟨h2, h3⟩ := hot h
    have hjl : j = l.length := by
      rcases Nat.lt_or_ge j l.length with h4 | h4
      · have := hst h4; omega
      · omega
    refine ⟨hw.1.rekids (by omega) h2, ?_⟩
    rw [sub_mk]
    omega
theorem full_calls {N : Nat} {L : List Tm} (hN : N ≤ 100000) (hL : Sok N L) : ∀ t, Tz N t → FullOk N L t := by
  obtain ⟨W, hW⟩ := hL.wt
  have key : ∀ w t, t.tw W = w → Tz N t → FullOk N L t := by
    intro w
    induction w using Nat.strongRecOn with
    | _ w ih =>
      intro t hw ht
      have hwt := wk_tn hL ht
      refine full_step hN hL t ht fun x hx => ?_
      have hk : (wk (lkL L) t).k ≠ 1 := fun e => by
        have h := (hwt.1.isVar e).2.2
        rw [h] at hx
        simp [Tm.kids] at hx
      exact ih _ (by have := tw_kid (W := W) hk hx; have := wk_tw hW t; omega) x rfl (hwt.kid hx)
  exact fun t => key _ t rfl
mutual
/-- the depth of a term is within a limit -/
def fltT : Tm → Int → Bool
  | .mk _ _ _ l, d => decide (1 ≤ d) && fltL l (d - 1)
def fltL : List Tm → Int → Bool
  | [], _ => true
  | t :: l, d => fltT t d && fltL l d
end
theorem flt_mk (k n : Int) (s : List UInt8) (l : List Tm) (d : Int) : fltT (.mk k n s l) d = (decide (1 ≤ d) && fltL l (d - 1)) := by rw [fltT]
theorem fltL_cons (t : Tm) (l : List Tm) (d : Int) : fltL (t :: l) d = (fltT t d && fltL l d) := by rw [fltL]
theorem flat_calls : ∀ t : Tm, t.fits → ∀ (d : Int) (H : Heap), 0 ≤ d → d ≤ 30 → ACalls Tryz.prog 96 [.agg (t.row.map .d), .c (.d (.int .i64 d))] H (fun r H' => H' = H ∧ r = .c (.d (.bool (fltT t d)))) := by
  refine Tm.ind fun k n s l ih hfits d H h0 h1 => ?_
  obtain ⟨hk, hn, hs, hl, hkids⟩ := hfits
  refine acalls Tryz.func96 (by kernel_rfl) ac96_ok fun hf => ?_
  have hli : inR .i64 (l.length : Int) := small_i64 (by omega) (by omega)
  have hd1 : inR .i64 (d - 1) := small_i64 (by omega) (by omega)
  rw [flt_mk]
  simp -implicitDefEqProofs [ac96, row_mk, row_len, hf, hli, hd1, go_sem, -List.set_cons_succ, -List.set_cons_zero]
  refine ⟨fun h1 h2 => absurd h2 (by omega), fun hd => ?_⟩
  refine loop_set (σ := Nat) (fun i => [(5, .c (.d (.int .i64 i)))]) (fun _ => H) (fun i => [.cells [.d (.int .i64 k), .d (.int .i64 n), .d (.str s), .d (.sl (l.map Tm.row))]]) (fun i => i ≤ l.length ∧ fltL (l.drop i) (d - 1) = fltL l (d - 1)) (fun i => l.length - i) 0 (by simp [setAll]) ⟨Nat.zero_le _, by simp⟩ ?_
  rintro i ⟨hi, hdr⟩
  rw [← hdr]
  simp -implicitDefEqProofs [setAll, hli, hd1, hf, go_sem, -List.set_cons_succ, -List.set_cons_zero]
  refine ⟨fun hlt => ?_, fun hge => ?_⟩
  · have hadd : inR .i64 ((i : Int) + 1) := small_i64 (by omega) (by omega)
    have hdi : l.drop i = l[i] :: l.drop (i + 1) := List.drop_eq_getElem_cons hlt
    rw [hdi, fltL_cons] at hdr ⊢
    refine row_of hlt (row_len _) ?_
    simp -implicitDefEqProofs [row_len, take_row, drop_row4, pure_d, re_d, hd1, hf, go_sem, -List.set_cons_succ, -List.set_cons_zero]
    refine qcall_pure (fun H => ih l[i] (List.getElem_mem hlt) (hkids _ (List.getElem_mem hlt)) (d - 1) H (by omega) (by omega)) hf rfl ?_
    simp -implicitDefEqProofs [hadd, hf, go_sem, -List.set_cons_succ, -List.set_cons_zero]
    refine ⟨fun h => ?_, fun h => ?_⟩
    · exact fun _ h2 => absurd h2 (by simp [h])
    · refine loop_back (i + 1) (by simp [setAll]) ⟨hlt, ?_⟩ (by show l.length - (i + 1) < l.length - i; omega)
      rw [h, Bool.true_and]
  · exact ⟨hd, by rw [List.drop_of_length_le hge, fltL]⟩
/-- a term without bound variables, if it is small -/
def SmallR (N : Nat) (r : A) : Prop := ∃ (u : Tm) (ok : Bool), r = .tup [.agg (u.row.map .d), .c (.d (.bool ok))] ∧ u.fits ∧ (ok = true → Tz N u)
theorem SmallR.re {N n : Nat} {r : A} (h : SmallR N r) : A.re n r = r := by
  obtain ⟨u, ok, rfl, _⟩ := h
  simp [A.re, A.res, C.re, re_d]
theorem small_calls {N : Nat} {L : List Tm} (hN : N ≤ 100000) (hL : Sok N L) (t : Tm) (ht : Tz N t) (H : Heap) : ACalls Tryz.prog 75 [.agg (t.row.map .d), .c (.d (.sl (L.map Tm.row)))] H (fun r H' => H' = H ∧ SmallR N r) := by
  refine acalls Tryz.func75 (by kernel_rfl) ac75_ok fun hf => ?_
  simp -implicitDefEqProofs [ac75, row_len, take_row, drop_row4, pure_d, re_d, hf, go_sem, -List.set_cons_succ, -List.set_cons_zero]
  refine call_some (full_calls hN hL t ht 120 _ (by omega) (by omega)) (by first | rfl | simp [Ob.re, C.re, Ref.re, re_d]) (fun r hr => hr.re) hf fun r ⟨u, left, hr, hb0, hb1, hb2, hb3⟩ => ?_
  subst hr
  obtain ⟨k, n, s, l⟩ := u
  simp -implicitDefEqProofs [row_mk, row_len, take_row, drop_row4, pure_d, re_d, hf, go_sem, -List.set_cons_succ, -List.set_cons_zero]
  refine ⟨fun h => ⟨h, ?_⟩, fun h => ⟨_, _, by rw [row_mk]; rfl, hb2, fun h => by cases h⟩⟩
  have cf := fun H => flat_calls (.mk k n s l) hb2 30 H (by omega) (by omega)
  simp only [row_mk, List.map_cons, List.map_nil] at cf
  refine qcall_pure cf hf rfl ?_
  simp -implicitDefEqProofs [row_mk, row_len, take_row, drop_row4, pure_d, re_d, hf, go_sem, -List.set_cons_succ, -List.set_cons_zero]
  refine ⟨_, _, by rw [row_mk]; rfl, hb2, fun _ => ?_⟩
  obtain ⟨h1, h2⟩ := hb3 h
  exact ⟨h1, by omega⟩
end Sv
/-- a clause -/
structure Cl where
  head : Tm
  body : List Tm
noncomputable instance : DecidableEq Cl := fun a b => Classical.propDecidable (a = b)
def Cl.row (c : Cl) : List D := [.int .i64 c.head.k, .int .i64 c.head.n, .str c.head.s, .sl (c.head.kids.map Tm.row), .sl (c.body.map Tm.row)]
theorem crow_len (c : Cl) : c.row.length = 5 := rfl
theorem take_crow (c : Cl) : List.take 5 (List.map C.d c.row) = List.map C.d c.row := List.take_of_length_le (by simp [crow_len])
structure Cl.fits (c : Cl) : Prop where
  head : c.head.fits
  len : c.body.length ≤ 1048576
  body : ∀ t ∈ c.body, t.fits
/-- clauses that a law looks at -/
def FitsC (l : List Cl) : Prop := l.length ≤ 1048576 ∧ ∀ c ∈ l, c.fits
namespace Sv
-- 94 loop.example/prologserver/spec.l3Shift params 2 ntmps 42
-- loop head live: [1,2,4,5,6]
def ac94 : Cd := .seq (.region [oc 2 (.box (.t 0)),
 oc 4 (.alloc [(.d (.int .i64 0)),(.d (.int .i64 0)),(.d (.str [])),(.full [])])] [0])
 (.seq (.region [oc 7 (.fieldAddr 0 (.t 2)),
 oc 8 (.load none (.t 7)),
 oc 9 (.fieldAddr 1 (.t 2)),
 oc 10 (.load none (.t 9)),
 oc 11 (.fieldAddr 2 (.t 2)),
 oc 12 (.load none (.t 11)),
 oc 13 (.build [(.d (.int .i64 0)),(.d (.int .i64 0)),(.d (.str [])),(.full [])] [(0,1,(.t 8)),(1,1,(.t 10)),(2,1,(.t 12))]),
 oc 5 (.alloc [(.d (.int .i64 0)),(.d (.int .i64 0)),(.d (.str [])),(.full [])]),
 ⟨none,.store 4 (.t 5) (.t 13),none⟩] [7,8,9,10,11,12,13])
 (.seq (.seq (.region [oc 14 (.fieldAddr 0 (.t 2)),
 oc 15 (.load none (.t 14)),
 oc 16 (.bin .eql (.t 15) (ki 1))] [14,15])
 (.cond (.t 16)
 (.region [oc 17 (.fieldAddr 1 (.t 2)),
 oc 18 (.load none (.t 17)),
 oa 19 1,
 oc 20 (.bin .add (.t 18) (.t 19)),
 oc 21 (.fieldAddr 1 (.t 5)),
 ⟨none,.store 1 (.t 21) (.t 20),none⟩] [16,17,18,19,20,21])
 (.skip)))
 (.seq (.seq (.region [oc 6 (.mv (ki 0))] [16])
 (.block 0 (.loop (.seq (.seq (.region [oa 22 6,
 oc 23 (.fieldAddr 3 (.t 2)),
 oc 24 (.load none (.t 23)),
 oc 25 (.len 1 (.t 24)),
 oc 26 (.bin .lss (.t 22) (.t 25))] [22,23,24,25])
 (.cond (.t 26)
 (.skip)
 (.exit 0)))
 (.seq (.block 1 (.region [oc 29 (.fieldAddr 3 (.t 5)),
 oc 31 (.fieldAddr 3 (.t 2)),
 oa 33 6,
 oa 36 1,
 oc 30 (.load none (.t 29)),
 oc 32 (.load none (.t 31)),
 oc 34 (.indexAddr 4 (.t 32) (.t 33)),
 oc 35 (.load (some 4) (.t 34)),
 oc 37 (.qcall 94 [(.t 35),(.t 36)]),
 oc 38 (.buildSlice 4 1 [(.int .i64 0),(.int .i64 0),(.str []),(.sl [])] [(0,(.t 37))]),
 oc 39 (.append false 4 (.t 30) (.t 38)),
 oc 40 (.fieldAddr 3 (.t 5)),
 ⟨none,.store 1 (.t 40) (.t 39),none⟩] [26,29,30,31,32,33,34,35,36,37,38,39,40]))
 (.region [oa 27 6,
 oc 28 (.bin .add (.t 27) (ki 1)),
 oa 6 28] [27,28]))))))
 (.seq (.region [oc 41 (.load (some 4) (.t 5)),
 ⟨none,.store 4 (.t 4) (.t 41),none⟩] [5,41])
 (.ret)))))
theorem ac94_ok : cFunc Tryz.prog [1000094] [(0,[0],[]),(1,[7,8,9,10,11,12,13],[]),(2,[14,15],[]),(3,[16,17,18,19,20,21],[]),(4,[16],[]),(5,[22,23,24,25],[]),(7,[26,29,30,31,32,33,34,35,36,37,38,39,40],[0,2,4,7,1,3,5,6,8,9,10,11,12]),(6,[27,28],[]),(8,[5,41],[])] Tryz.f94 = some (ac94,[.cell 4 (some 4)],42) := by kernel_rfl
-- 105 loop.example/prologserver/spec.l6Fresh params 1 ntmps 31
-- loop head live: [3,4,5]
def ac105 : Cd := .seq (.region [oc 1 (.box (.t 0)),
 oc 2 (.mv (ki 0))] [0,2])
 (.seq (.region [oc 6 (.fieldAddr 0 (.t 1)),
 oc 7 (.load (some 4) (.t 6)),
 oc 8 (.buildSlice 4 1 [(.int .i64 0),(.int .i64 0),(.str []),(.sl [])] [(0,(.t 7))]),
 oc 9 (.fieldAddr 4 (.t 1)),
 oc 10 (.load none (.t 9)),
 oc 11 (.append false 4 (.t 8) (.t 10)),
 oc 12 (.qcall 55 [(.t 11)]),
 oa 3 12] [1,6,7,8,9,10,11,12])
 (.seq (.region [oc 4 (.mv (ki 0))] [])
 (.seq (.seq (.region [oc 5 (.mv (ki 0))] [])
 (.block 0 (.loop (.seq (.seq (.region [oa 13 5,
 oa 14 3,
 oc 15 (.len 1 (.t 14)),
 oc 16 (.bin .lss (.t 13) (.t 15))] [13,14,15])
 (.cond (.t 16)
 (.skip)
 (.exit 0)))
 (.seq (.block 1 (.seq (.region [oa 19 3,
 oa 20 5,
 oc 21 (.indexAddr 1 (.t 19) (.t 20)),
 oc 22 (.load none (.t 21)),
 oa 23 4,
 oc 24 (.bin .geq (.t 22) (.t 23))] [16,19,20,21,22,23])
 (.cond (.t 24)
 (.region [oa 25 3,
 oa 26 5,
 oc 27 (.indexAddr 1 (.t 25) (.t 26)),
 oc 28 (.load none (.t 27)),
 oc 29 (.bin .add (.t 28) (ki 1)),
 oa 4 29] [24,25,26,27,28,29])
 (.skip))))
 (.region [oa 17 5,
 oc 18 (.bin .add (.t 17) (ki 1)),
 oa 5 18] [17,18,24]))))))
 (.seq (.region [oa 30 4,
 oa 2 30] [4,30])
 (.ret)))))
theorem ac105_ok : cFunc Tryz.prog [1000055] [(0,[0,2],[]),(1,[1,6,7,8,9,10,11,12],[]),(2,[],[]),(3,[],[]),(4,[13,14,15],[]),(6,[16,19,20,21,22,23],[]),(7,[24,25,26,27,28,29],[]),(5,[17,18,24],[]),(8,[4,30],[])] Tryz.f105 = some (ac105,[.tmp 2],31) := by kernel_rfl
-- 74 loop.example/prologserver/spec.l6Goals params 4 ntmps 32
-- loop head live: [0,1,2,3,9,10]
def ac74 : Cd := .seq (.region [oc 8 (.mv (.k (.c (.full []))))] [8])
 (.seq (.region [oc 11 (.buildSlice 5 0 [(.int .i64 0),(.int .i64 0),(.str []),(.sl []),(.int .i64 0)] []),
 oa 9 11] [11])
 (.seq (.seq (.region [oc 10 (.mv (ki 0))] [])
 (.block 0 (.loop (.seq (.seq (.region [oa 12 10,
 oa 13 0,
 oc 14 (.len 1 (.t 13)),
 oc 15 (.bin .lss (.t 12) (.t 14))] [12,13,14])
 (.cond (.t 15)
 (.skip)
 (.exit 0)))
 (.seq (.block 1 (.region [oa 18 9,
 oa 19 0,
 oa 20 10,
 oc 21 (.indexAddr 4 (.t 19) (.t 20)),
 oc 22 (.load (some 4) (.t 21)),
 oa 23 1,
 oc 24 (.qcall 94 [(.t 22),(.t 23)]),
 oa 25 2,
 oc 26 (.build [(.d (.int .i64 0)),(.d (.int .i64 0)),(.d (.str [])),(.full []),(.d (.int .i64 0))] [(0,4,(.t 24)),(4,1,(.t 25))]),
 oc 27 (.buildSlice 5 1 [(.int .i64 0),(.int .i64 0),(.str []),(.sl []),(.int .i64 0)] [(0,(.t 26))]),
 oc 28 (.append false 5 (.t 18) (.t 27)),
 oa 9 28] [15,18,19,20,21,22,23,24,25,26,27,28]))
 (.region [oa 16 10,
 oc 17 (.bin .add (.t 16) (ki 1)),
 oa 10 17] [16,17]))))))
 (.seq (.region [oa 29 9,
 oa 30 3,
 oc 31 (.append false 5 (.t 29) (.t 30)),
 oa 8 31] [3,9,29,30,31])
 (.ret))))
theorem ac74_ok : cFunc Tryz.prog [1000094] [(0,[8],[]),(1,[11],[]),(2,[],[]),(3,[12,13,14],[]),(5,[15,18,19,20,21,22,23,24,25,26,27,28],[]),(4,[16,17],[]),(6,[3,9,29,30,31],[])] Tryz.f74 = some (ac74,[.tmp 8],32) := by kernel_rfl
/-! ## shifted variables -/
mutual
def shT (d : Int) : Tm → Tm
  | .mk k n s l => .mk k (if k = 1 then n + d else n) s (shL d l)
def shL (d : Int) : List Tm → List Tm
  | [] => []
  | t :: l => shT d t :: shL d l
end
theorem shL_map (d : Int) : ∀ l : List Tm, shL d l = l.map (shT d)
  | [] => by rw [shL]; rfl
  | t :: l => by rw [shL, shL_map d l]; rfl
theorem sh_mk (d k n : Int) (s : List UInt8) (l : List Tm) : shT d (.mk k n s l) = .mk k (if k = 1 then n + d else n) s (l.map (shT d)) := by rw [shT, shL_map]
theorem sh_tn {N M d : Nat} (hd : M + d ≤ N) {t : Tm} (h : Tn M t) : Tn N (shT d t) := by
  induction h with
  | @var n h0 h1 =>
    rw [sh_mk, if_pos rfl]
    exact .var (by omega) (by omega)
  | @int n s l h1 h2 h3 _ ih =>
    rw [sh_mk, if_neg (by decide)]
    exact .int h1 h2 (by simpa using h3) fun t ht => by
      obtain ⟨x, hx, rfl⟩ := List.mem_map.1 ht
      exact ih x hx
  | @str n s l h1 h2 h3 _ ih =>
    rw [sh_mk, if_neg (by decide)]
    exact .str h1 h2 (by simpa using h3) fun t ht => by
      obtain ⟨x, hx, rfl⟩ := List.mem_map.1 ht
      exact ih x hx
theorem cnt_map {f : Tm → Tm} : ∀ l : List Tm, (∀ t ∈ l, (f t).sub = t.sub) → Tm.cnt (l.map f) = Tm.cnt l
  | [], _ => rfl
  | t :: l, h => by
    rw [List.map_cons, cnt_cons, cnt_cons, h t (by simp), cnt_map l fun t ht => h t (by simp [ht])]
theorem sh_sub (d : Int) : ∀ t : Tm, (shT d t).sub = t.sub := by
  refine Tm.ind fun k n s l ih => ?_
  rw [sh_mk, sub_mk, sub_mk]
  exact cnt_map l ih
theorem sh_tz {N M d : Nat} (hd : M + d ≤ N) {t : Tm} (h : Tz M t) : Tz N (shT d t) := ⟨sh_tn hd h.1, by rw [sh_sub]; exact h.2⟩
theorem take_sh {α β : Type} {f : α → β} {l : List α} {i : Nat} (h : i < l.length) : (l.map f).take i ++ [f l[i]] = (l.map f).take (i + 1) := by
  rw [List.take_succ_eq_append_getElem (by simpa using h)]; simp
theorem shift_calls {M : Nat} (hM : M ≤ 100000) (d : Nat) (h1 : d ≤ 100000) : ∀ t : Tm, Tn M t → ∀ H, ACalls Tryz.prog 94 [.agg (t.row.map .d), .c (.d (.int .i64 d))] H (fun r H' => H' = H ∧ r = .agg ((shT d t).row.map .d)) := by
  refine Tm.ind fun k n s l ih hw H => ?_
  obtain ⟨hk, hn, hs, hl, hkids⟩ := hw.fits (by omega)
  have hwk := hw.kids.2
  simp only [Tm.kids] at hwk
  have hl4 : l.length ≤ 4 := hw.kids.1
  have hnr : k = 1 → 0 ≤ n ∧ n < M := fun e => by have := hw.isVar e; exact ⟨this.1, this.2.1⟩
  refine acalls Tryz.func94 (by kernel_rfl) ac94_ok fun hf => ?_
  have hli : inR .i64 (l.length : Int) := small_i64 (by omega) (by omega)
  rw [sh_mk]
  have step : ∀ (n' : Int) , aw Tryz.prog (.skip) (fun _ _ => True) ⟨[], [], []⟩ := fun _ => trivial
  by_cases hk1 : k = 1
  · subst hk1
    obtain ⟨w1, w2⟩ := hnr rfl
    have hnd : inR .i64 (n + d) := small_i64 (by omega) (by omega)
    simp -implicitDefEqProofs [ac94, row_mk, hf, hli, hnd, go_sem, -List.set_cons_succ, -List.set_cons_zero]
    refine loop_enter (St.le_tokenC 2 3 4 rfl rfl) ?_
    refine loop_set (σ := Nat) (fun i => [(6, .c (.d (.int .i64 i)))]) (fun _ => H) (fun i => [.cells [.d (.int .i64 1), .d (.int .i64 n), .d (.str s), .d (.sl (l.map Tm.row))], .cells [.d (.int .i64 0), .d (.int .i64 0), .d (.str []), .full []], .cells [.d (.int .i64 1), .d (.int .i64 (n + d)), .d (.str s), .own (.l 3) i ((l.map (Tm.row ∘ shT d)).take i)], .grow i 4])
      (fun i => i ≤ l.length) (fun i => l.length - i) 0 rfl (Nat.zero_le _) ?_
    intro i hi
    simp -implicitDefEqProofs [setAll, hli, go_sem, -List.set_cons_succ, -List.set_cons_zero]
    refine ⟨fun hlt => ?_, fun hge => ?_⟩
    · have hadd : inR .i64 ((i : Int) + 1) := small_i64 (by omega) (by omega)
      refine row_of hlt (row_len _) ?_
      simp -implicitDefEqProofs [row_len, take_row, pure_d, re_d, go_sem, -List.set_cons_succ, -List.set_cons_zero]
      refine qcall_pure (ih l[i] (List.getElem_mem hlt) (hwk _ (List.getElem_mem hlt))) hf (by simp [A.re, re_d]) ?_
      simp -implicitDefEqProofs [row_len, toDs_map, hadd, hf, Nat.min_eq_left hi, go_sem, -List.set_cons_succ, -List.set_cons_zero]
      refine ⟨fun r hr => allLen_map (f := Tm.row ∘ shT d) (fun x => row_len _) r (List.mem_of_mem_take hr), by unfold maxApp; omega, ?_⟩
      refine loop_back (i + 1) ?_ hlt (by show l.length - (i + 1) < l.length - i; omega)
      simp [setAll]
      exact take_sh hlt
    · have hil : i = l.length := by omega
      subst hil
      rw [show (l.map (Tm.row ∘ shT d)).take l.length = l.map (Tm.row ∘ shT d) from List.take_of_length_le (by simp)]
      simp -implicitDefEqProofs [hf, go_sem, -List.set_cons_succ, -List.set_cons_zero]
  · simp -implicitDefEqProofs [ac94, row_mk, hf, hli, hk1, go_sem, -List.set_cons_succ, -List.set_cons_zero]
    refine loop_enter (St.le_tokenC 2 3 4 rfl rfl) ?_
    refine loop_set (σ := Nat) (fun i => [(6, .c (.d (.int .i64 i)))]) (fun _ => H) (fun i => [.cells [.d (.int .i64 k), .d (.int .i64 n), .d (.str s), .d (.sl (l.map Tm.row))], .cells [.d (.int .i64 0), .d (.int .i64 0), .d (.str []), .full []], .cells [.d (.int .i64 k), .d (.int .i64 n), .d (.str s), .own (.l 3) i ((l.map (Tm.row ∘ shT d)).take i)], .grow i 4])
      (fun i => i ≤ l.length) (fun i => l.length - i) 0 rfl (Nat.zero_le _) ?_
    intro i hi
    simp -implicitDefEqProofs [setAll, hli, go_sem, -List.set_cons_succ, -List.set_cons_zero]
    refine ⟨fun hlt => ?_, fun hge => ?_⟩
    · have hadd : inR .i64 ((i : Int) + 1) := small_i64 (by omega) (by omega)
      refine row_of hlt (row_len _) ?_
      simp -implicitDefEqProofs [row_len, take_row, pure_d, re_d, go_sem, -List.set_cons_succ, -List.set_cons_zero]
      refine qcall_pure (ih l[i] (List.getElem_mem hlt) (hwk _ (List.getElem_mem hlt))) hf (by simp [A.re, re_d]) ?_
      simp -implicitDefEqProofs [row_len, toDs_map, hadd, hf, Nat.min_eq_left hi, go_sem, -List.set_cons_succ, -List.set_cons_zero]
      refine ⟨fun r hr => allLen_map (f := Tm.row ∘ shT d) (fun x => row_len _) r (List.mem_of_mem_take hr), by unfold maxApp; omega, ?_⟩
      refine loop_back (i + 1) ?_ hlt (by show l.length - (i + 1) < l.length - i; omega)
      simp [setAll]
      exact take_sh hlt
    · have hil : i = l.length := by omega
      subst hil
      rw [show (l.map (Tm.row ∘ shT d)).take l.length = l.map (Tm.row ∘ shT d) from List.take_of_length_le (by simp)]
      simp -implicitDefEqProofs [hf, go_sem, -List.set_cons_succ, -List.set_cons_zero]
/-! ## how many variables a clause has -/
def freshI : List Int → Int
  | l => l.foldl (fun n y => if n ≤ y then y + 1 else n) 0
theorem freshI_snoc (l : List Int) (y : Int) : freshI (l ++ [y]) = if freshI l ≤ y then y + 1 else freshI l := by unfold freshI; rw [List.foldl_append]; rfl
theorem freshI_take {l : List Int} {i : Nat} (h : i < l.length) : freshI (l.take (i + 1)) = if freshI (l.take i) ≤ l[i] then l[i] + 1 else freshI (l.take i) := by
  rw [List.take_succ_eq_append_getElem h, freshI_snoc]
theorem freshI_spec {B : Int} (hB : 0 ≤ B) (l : List Int) (h : ∀ y ∈ l, 0 ≤ y ∧ y < B) : 0 ≤ freshI l ∧ freshI l ≤ B ∧ ∀ y ∈ l, y < freshI l := by
  have key : ∀ i, i ≤ l.length → 0 ≤ freshI (l.take i) ∧ freshI (l.take i) ≤ B ∧ ∀ y ∈ l.take i, y < freshI (l.take i) := by
    intro i
    induction i with
    | zero => intro _; exact ⟨by simp [freshI], by simpa [freshI] using hB, by simp⟩
    | succ i ih =>
      intro hi
      obtain ⟨h1, h2, h3⟩ := ih (by omega)
      have hb := h l[i] (List.getElem_mem (by omega))
      rw [freshI_take (by omega)]
      rw [List.take_succ_eq_append_getElem (by omega)]
      refine ⟨by split <;> omega, by split <;> omega, fun y hy => ?_⟩
      rcases List.mem_append.1 hy with hy | hy
      · have := h3 y hy
        split <;> omega
      · rw [List.mem_singleton.1 hy]
        split <;> omega
  have := key l.length (Nat.le_refl _)
  rwa [List.take_length] at this
def Cl.fr (c : Cl) : Int := freshI (varsL (c.head :: c.body) [])
theorem tn_less {M n : Nat} {t : Tm} (h : Tn M t) (hv : ∀ y, t.vin y → y < n) : Tn n t := by
  induction h with
  | @var m h0 h1 =>
    exact .var h0 (hv m ((vin_var (t := .mk 1 m [] []) rfl).2 rfl))
  | @int m s l h1 h2 h3 _ ih =>
    refine .int h1 h2 h3 fun t ht => ih t ht fun y hy => hv y ?_
    rw [Tm.vin, if_neg (by decide)]
    exact vinL_iff.2 ⟨t, ht, hy⟩
  | @str m s l h1 h2 h3 _ ih =>
    refine .str h1 h2 h3 fun t ht => ih t ht fun y hy => hv y ?_
    rw [Tm.vin, if_neg (by decide)]
    exact vinL_iff.2 ⟨t, ht, hy⟩
/-- a clause of a valid program -/
structure ClOk (c : Cl) : Prop where
  head : Tz 26 c.head
  body : c.body.length ≤ 6
  all : ∀ t ∈ c.body, Tz 26 t
theorem ClOk.mem {c : Cl} (h : ClOk c) : ∀ t ∈ c.head :: c.body, Tz 26 t := fun t ht => by
  rcases List.mem_cons.1 ht with rfl | ht
  · exact h.head
  · exact h.all t ht
theorem fr_spec {c : Cl} (h : ClOk c) : ∃ n : Nat, Sv.Cl.fr c = n ∧ n ≤ 26 ∧ ∀ t ∈ c.head :: c.body, Tz n t := by
  have hvs := vs_list (N := 26) (c.head :: c.body) (fun t ht => vs_of (h.mem t ht).1) []
  have hb := hvs.bnd (by simp)
  obtain ⟨h1, h2, h3⟩ := freshI_spec (B := 26) (by omega) _ hb
  refine ⟨(Sv.Cl.fr c).toNat, by unfold Sv.Cl.fr; omega, by unfold Sv.Cl.fr; omega, fun t ht => ⟨tn_less (h.mem t ht).1 fun y hy => ?_, (h.mem t ht).2⟩⟩
  have := h3 y ((hvs.mem y).2 (.inr (vinL_iff.2 ⟨t, ht, hy⟩)))
  unfold Sv.Cl.fr
  omega
theorem fresh_calls {c : Cl} (h : ClOk c) (H : Heap) : ACalls Tryz.prog 105 [.agg (c.row.map .d)] H (fun r H' => H' = H ∧ r = .c (.d (.int .i64 (Sv.Cl.fr c)))) := by
  refine acalls Tryz.func105 (by kernel_rfl) ac105_ok fun hf => ?_
  have hvs := vs_list (N := 26) (c.head :: c.body) (fun t ht => vs_of (h.mem t ht).1) []
  have hb := hvs.bnd (by simp)
  have hnd := hvs.nod List.nodup_nil
  have hcnt : Tm.cnt (c.head :: c.body) ≤ 3000000 := by
    have := cnt_le (B := 1000) (c.head :: c.body) fun t ht => (h.mem t ht).2
    have h2 := h.body
    simp only [List.length_cons] at this
    omega
  have cv := fun H => l6Vars_calls (c.head :: c.body) (by have := h.body; simp; omega) (fun t ht => (h.mem t ht).1.fits (by omega)) (fun t ht => tz_clean (h.mem t ht).1) hcnt H
  have hfr : Sv.Cl.fr c = freshI (varsL (c.head :: c.body) []) := rfl
  rw [hfr]
  generalize varsL (c.head :: c.body) [] = W at cv hb hnd
  have hWl := nodup_bound 26 W hnd hb
  have hWi : inR .i64 (W.length : Int) := small_i64 (by omega) (by omega)
  obtain ⟨⟨k, n, s, kids⟩, body⟩ := c
  simp -implicitDefEqProofs [ac105, Cl.row, Tm.kids, Tm.k, Tm.n, Tm.s, row_mk, row_len, take_row, pure_d, re_d, hf, go_sem, -List.set_cons_succ, -List.set_cons_zero]
  have hb6 : body.length ≤ 6 := h.body
  simp only [List.map_cons, row_mk] at cv
  refine ⟨allLen_map row_len, by unfold maxApp; omega, ?_⟩
  refine qcall_pure cv hf rfl ?_
  simp -implicitDefEqProofs [go_sem, -List.set_cons_succ, -List.set_cons_zero]
  refine loop_set (σ := Nat) (fun i => [(5, .c (.d (.int .i64 i))), (4, .c (.d (.int .i64 (freshI (W.take i)))))]) (fun _ => H) (fun i => [.cells [.d (.int .i64 k), .d (.int .i64 n), .d (.str s), .d (.sl (kids.map Tm.row)), .d (.sl (body.map Tm.row))], .grow (posF [[.int .i64 k, .int .i64 n, .str s, .sl (kids.map Tm.row)]] (body.map Tm.row)) 4]) (fun i => i ≤ W.length) (fun i => W.length - i) 0 (by simp [setAll, freshI]) (Nat.zero_le _) ?_
  intro i hi
  simp -implicitDefEqProofs [setAll, hWi, intRows_len, hf, go_sem, -List.set_cons_succ, -List.set_cons_zero]
  refine ⟨fun hlt => ?_, fun hge => by rw [List.take_of_length_le hge]⟩
  have hadd : inR .i64 ((i : Int) + 1) := small_i64 (by omega) (by omega)
  obtain ⟨b0, b1⟩ := hb W[i] (List.getElem_mem hlt)
  have hy1 : inR .i64 (W[i] + 1) := small_i64 (by omega) (by omega)
  have hrw : (intRows W)[i]? = some [.int .i64 W[i]] := by simp [intRows, hlt]
  have hft := freshI_take hlt
  refine row_nat [.int .i64 W[i]] hrw rfl ?_
  simp -implicitDefEqProofs [hadd, hf, go_sem, -List.set_cons_succ, -List.set_cons_zero]
  refine ⟨fun hle => ?_, fun hgt => ?_⟩
  · refine row_nat [.int .i64 W[i]] hrw rfl ?_
    simp -implicitDefEqProofs [hadd, hy1, hf, go_sem, -List.set_cons_succ, -List.set_cons_zero]
    rw [if_pos hle] at hft
    exact loop_back (i + 1) (by simp [setAll, hft]) hlt (by show W.length - (i + 1) < W.length - i; omega)
  · rw [if_neg (by omega)] at hft
    exact loop_back (i + 1) (by simp [setAll, hft]) hlt (by show W.length - (i + 1) < W.length - i; omega)
/-! ## goals -/
/-- a goal that is left, with the number of choices that a cut keeps -/
structure Gl where
  t : Tm
  keep : Nat
def Gl.row (g : Gl) : List D := [.int .i64 g.t.k, .int .i64 g.t.n, .str g.t.s, .sl (g.t.kids.map Tm.row), .int .i64 g.keep]
theorem grow_len (g : Gl) : g.row.length = 5 := rfl
theorem goals_calls {M : Nat} (hM : M ≤ 100000) (body : List Tm) (hb : body.length ≤ 7) (h : ∀ t ∈ body, Tn M t) (d : Nat) (hd : d ≤ 100000) (keep : Nat) (rest : List Gl) (hr : rest.length ≤ 100000) (H : Heap) :
    ACalls Tryz.prog 74 [.c (.d (.sl (body.map Tm.row))), .c (.d (.int .i64 d)), .c (.d (.int .i64 keep)), .c (.d (.sl (rest.map Gl.row)))] H (fun r H' => H' = H ∧ r = .c (.d (.sl ((body.map (fun t => Gl.mk (shT d t) keep) ++ rest).map Gl.row)))) := by
  refine acalls Tryz.func74 (by kernel_rfl) ac74_ok fun hf => ?_
  have hli : inR .i64 (body.length : Int) := small_i64 (by omega) (by omega)
  simp -implicitDefEqProofs [ac74, hli, hf, go_sem, -List.set_cons_succ, -List.set_cons_zero]
  refine loop_enter (St.le_token 9 5 rfl) ?_
  obtain ⟨f, hfd⟩ : ∃ f : Tm → Gl, f = fun t => ⟨shT d t, keep⟩ := ⟨_, rfl⟩
  rw [← hfd]
  refine loop_set (σ := Nat) (fun i => [(10, .c (.d (.int .i64 i))), (9, .c (.own (.l 0) i ((body.map (Gl.row ∘ f)).take i)))]) (fun _ => H) (fun i => [.grow i 5]) (fun i => i ≤ body.length) (fun i => body.length - i) 0 rfl (Nat.zero_le _) ?_
  intro i hi
  simp -implicitDefEqProofs [setAll, hli, go_sem, -List.set_cons_succ, -List.set_cons_zero]
  refine ⟨fun hlt => ?_, fun hge => ?_⟩
  · have hadd : inR .i64 ((i : Int) + 1) := small_i64 (by omega) (by omega)
    have hsu : (body.map (Gl.row ∘ f)).take (i + 1) = (body.map (Gl.row ∘ f)).take i ++ [(f body[i]).row] := by
      rw [List.take_succ_eq_append_getElem (by simpa using hlt)]; simp
    have hrow : (f body[i]).row = (shT d body[i]).row ++ [.int .i64 keep] := by
      rw [hfd]
      show Gl.row ⟨shT d body[i], keep⟩ = _
      generalize shT (d : Int) body[i] = u
      cases u
      rw [row_mk]
      rfl
    have cs := fun H => shift_calls hM d hd body[i] (h _ (List.getElem_mem hlt)) H
    generalize shT d body[i] = u at hrow cs
    obtain ⟨k, n, s, l⟩ := u
    rw [row_mk] at hrow cs
    refine row_of hlt (row_len _) ?_
    simp -implicitDefEqProofs [row_len, take_row, pure_d, re_d, go_sem, -List.set_cons_succ, -List.set_cons_zero]
    refine qcall_pure cs hf rfl ?_
    simp -implicitDefEqProofs [row_len, toDs_map, hadd, hf, Nat.min_eq_left hi, go_sem, -List.set_cons_succ, -List.set_cons_zero]
    refine ⟨fun r hr => allLen_map (f := Gl.row ∘ f) (fun _ => grow_len _) r (List.mem_of_mem_take hr), by unfold maxApp; omega, ?_⟩
    exact loop_back (i + 1) (by simp [setAll, hsu, hrow]) hlt (by show body.length - (i + 1) < body.length - i; omega)
  · exact ⟨allLen_map grow_len, fun r hr => allLen_map (f := Gl.row ∘ f) (fun _ => grow_len _) r (List.mem_of_mem_take hr), by unfold maxApp; omega, List.take_of_length_le (by simp; omega)⟩
end Sv
-- 36 loop.example/prologserver/spec.l1Var params 1 ntmps 5
def ac36 : Cd := .seq (.region [oc 2 (.alloc [(.d (.int .i64 0)),(.d (.int .i64 0)),(.d (.str [])),(.full [])])] [])
 (.seq (.region [oa 3 0,
 oc 4 (.build [(.d (.int .i64 0)),(.d (.int .i64 0)),(.d (.str [])),(.full [])] [(0,1,(ki 1)),(1,1,(.t 3))]),
 ⟨none,.store 4 (.t 2) (.t 4),none⟩] [0,3,4])
 (.ret))
theorem ac36_ok : cFunc Tryz.prog [] [(0,[],[]),(1,[0,3,4],[])] Tryz.f36 = some (ac36,[.cell 2 (some 4)],5) := by kernel_rfl
-- 34 loop.example/prologserver/spec.l1Int params 1 ntmps 5
def ac34 : Cd := .seq (.region [oc 2 (.alloc [(.d (.int .i64 0)),(.d (.int .i64 0)),(.d (.str [])),(.full [])])] [])
 (.seq (.region [oa 3 0,
 oc 4 (.build [(.d (.int .i64 0)),(.d (.int .i64 0)),(.d (.str [])),(.full [])] [(0,1,(ki 2)),(1,1,(.t 3))]),
 ⟨none,.store 4 (.t 2) (.t 4),none⟩] [0,3,4])
 (.ret))
theorem ac34_ok : cFunc Tryz.prog [] [(0,[],[]),(1,[0,3,4],[])] Tryz.f34 = some (ac34,[.cell 2 (some 4)],5) := by kernel_rfl
theorem var_calls (n : Int) (H : Heap) : ACalls Tryz.prog 36 [.c (.d (.int .i64 n))] H (fun r H' => H' = H ∧ r = .agg ((Tm.mk 1 n [] []).row.map .d)) := by
  refine acalls Tryz.func36 (by kernel_rfl) ac36_ok fun hf => ?_
  simp -implicitDefEqProofs [ac36, row_mk, hf, go_sem, -List.set_cons_succ, -List.set_cons_zero]
theorem int_calls (n : Int) (H : Heap) : ACalls Tryz.prog 34 [.c (.d (.int .i64 n))] H (fun r H' => H' = H ∧ r = .agg ((Tm.mk 2 n [] []).row.map .d)) := by
  refine acalls Tryz.func34 (by kernel_rfl) ac34_ok fun hf => ?_
  simp -implicitDefEqProofs [ac34, row_mk, hf, go_sem, -List.set_cons_succ, -List.set_cons_zero]
-- 16 loop.example/prologserver/impl.TermSame params 2 ntmps 31
def ac16 : Cd := .seq (.region [oc 2 (.box (.t 0)),
 oc 3 (.box (.t 1)),
 oc 4 (.mv (.k (.c (.d (.bool false)))))] [0,1,4])
 (.seq (.region [oc 5 (.fieldAddr 0 (.t 2)),
 oc 6 (.load none (.t 5)),
 oc 7 (.fieldAddr 0 (.t 3)),
 oc 8 (.load none (.t 7)),
 oc 9 (.bin .eql (.t 6) (.t 8)),
 oa 10 9,
 ⟨some 11,.fieldAddr 1 (.t 2),some (10,true)⟩,
 ⟨some 12,.load none (.t 11),some (10,true)⟩,
 ⟨some 13,.fieldAddr 1 (.t 3),some (10,true)⟩,
 ⟨some 14,.load none (.t 13),some (10,true)⟩,
 ⟨some 15,.bin .eql (.t 12) (.t 14),some (10,true)⟩,
 oc 16 (.pick (.t 10) (.t 15) (.k (.c (.d (.bool false))))),
 oa 17 16,
 ⟨some 18,.fieldAddr 2 (.t 2),some (17,true)⟩,
 ⟨some 19,.load none (.t 18),some (17,true)⟩,
 ⟨some 20,.fieldAddr 2 (.t 3),some (17,true)⟩,
 ⟨some 21,.load none (.t 20),some (17,true)⟩,
 ⟨some 22,.bin .eql (.t 19) (.t 21),some (17,true)⟩,
 oc 23 (.pick (.t 17) (.t 22) (.k (.c (.d (.bool false))))),
 oa 24 23,
 ⟨some 25,.fieldAddr 3 (.t 2),some (24,true)⟩,
 ⟨some 26,.load none (.t 25),some (24,true)⟩,
 ⟨some 27,.fieldAddr 3 (.t 3),some (24,true)⟩,
 ⟨some 28,.load none (.t 27),some (24,true)⟩,
 ⟨some 29,.qcall 15 [(.t 26),(.t 28),(.k (.c (.fn 16 [])))],some (24,true)⟩,
 oc 30 (.pick (.t 24) (.t 29) (.k (.c (.d (.bool false))))),
 oa 4 30] [2,3,5,6,7,8,9,10,11,12,13,14,15,16,17,18,19,20,21,22,23,24,25,26,27,28,29,30])
 (.ret))
theorem ac16_ok : cFunc Tryz.prog [1000015] [(0,[0,1,4],[]),(1,[2,3,5,6,7,8,9,10,11,12,13,14,15,16,17,18,19,20,21,22,23,24,25,26,27,28,29,30],[])] Tryz.f16 = some (ac16,[.tmp 4],31) := by kernel_rfl
-- 15 slices.EqualFunc[[]loop.example/prologserver/impl.Term,[]loop.example/prologserver/impl.Term,loop.example/prologserver/impl.Term,loop.example/prologserver/impl.Term] params 3 ntmps 32
-- loop head live: [1,2,15,16,17]
def ac15 : Cd := .seq (.region [oc 6 (.mv (.k (.c (.d (.bool false)))))] [6])
 (.seq (.seq (.region [oa 10 0,
 oc 11 (.len 1 (.t 10)),
 oa 12 1,
 oc 13 (.len 1 (.t 12)),
 oc 14 (.bin .neq (.t 11) (.t 13))] [10,11,12,13])
 (.cond (.t 14)
 (.seq (.region [oc 6 (.mv (.k (.c (.d (.bool false)))))] [0,1,2,14])
 (.ret))
 (.skip)))
 (.seq (.seq (.region [oa 15 0,
 oc 16 (.len 1 (.t 15)),
 oc 17 (.mv (ki 0))] [0,6,14])
 (.block 0 (.loop (.seq (.region [oc 18 (.bin .lss (.t 17) (.t 16))] [])
 (.seq (.cond (.t 18)
 (.skip)
 (.exit 0))
 (.seq (.block 1 (.seq (.region [oa 19 17,
 oc 20 (.indexAddr 4 (.t 15) (.t 17)),
 oc 21 (.load (some 4) (.t 20)),
 oc 8 (.alloc [(.d (.int .i64 0)),(.d (.int .i64 0)),(.d (.str [])),(.full [])]),
 oa 7 19,
 ⟨none,.store 4 (.t 8) (.t 21),none⟩] [18,19,20,21])
 (.seq (.region [oa 22 1,
 oa 23 7,
 oc 24 (.indexAddr 4 (.t 22) (.t 23)),
 oc 25 (.load (some 4) (.t 24)),
 oc 9 (.alloc [(.d (.int .i64 0)),(.d (.int .i64 0)),(.d (.str [])),(.full [])]),
 ⟨none,.store 4 (.t 9) (.t 25),none⟩] [7,22,23,24,25])
 (.seq (.region [oa 26 2,
 oc 27 (.load (some 4) (.t 8)),
 oc 28 (.load (some 4) (.t 9)),
 oc 29 (.callv (.t 26) [(.t 27),(.t 28)]),
 oc 30 (.un .not (.t 29))] [8,9,26,27,28,29])
 (.cond (.t 30)
 (.seq (.region [oc 6 (.mv (.k (.c (.d (.bool false)))))] [1,2,15,16,17,30])
 (.ret))
 (.skip))))))
 (.region [oc 31 (.bin .add (.t 17) (ki 1)),
 oa 17 31] [6,30,31])))))))
 (.seq (.region [oc 6 (.mv (.k (.c (.d (.bool true)))))] [])
 (.ret))))
theorem ac15_ok : cFunc Tryz.prog [] [(0,[6],[]),(1,[10,11,12,13],[]),(2,[0,1,2,14],[]),(3,[0,6,14],[]),(4,[],[]),(5,[18,19,20,21],[]),(6,[7,22,23,24,25],[]),(7,[8,9,26,27,28,29],[]),(8,[1,2,15,16,17,30],[]),(9,[6,30,31],[]),(10,[],[])] Tryz.f15 = some (ac15,[.tmp 6],32) := by kernel_rfl
theorem eqFunc_of (f : FuncId) (l r : List Tm) (hl : l.length ≤ 1048576) (hr : r.length ≤ 1048576) (h : ∀ x ∈ l, ∀ y ∈ r, Same2 f x y) (H : Heap) :
    ACalls Tryz.prog 15 [.c (.d (.sl (l.map Tm.row))), .c (.d (.sl (r.map Tm.row))), .c (.fn f [])] H (fun r' H' => H' = H ∧ r' = .c (.d (.bool (decide (l = r))))) := by
  refine acalls Tryz.func15 (by kernel_rfl) ac15_ok fun hf => ?_
  have hli : inR .i64 (l.length : Int) := small_i64 (by omega) (by omega)
  have hri : inR .i64 (r.length : Int) := small_i64 (by omega) (by omega)
  simp -implicitDefEqProofs [ac15, hli, hri, go_sem, -List.set_cons_succ, -List.set_cons_zero]
  refine ⟨fun h1 e => by subst e; simp at h1, fun e4 => ?_⟩
  have e4 : l.length = r.length := by omega
  refine loop_set (σ := Nat) (fun i => [(17, .c (.d (.int .i64 i)))]) (fun _ => H) (fun _ => []) (fun i => i ≤ l.length ∧ l.take i = r.take i) (fun i => l.length - i) 0 rfl ⟨Nat.zero_le _, rfl⟩ ?_
  rintro i ⟨hi, htk⟩
  simp -implicitDefEqProofs [setAll, hli, go_sem, -List.set_cons_succ, -List.set_cons_zero]
  refine ⟨fun hlt => ?_, fun hge => by rw [List.take_of_length_le hge, List.take_of_length_le (by omega)] at htk; exact htk⟩
  have hadd : inR .i64 ((i : Int) + 1) := small_i64 (by omega) (by omega)
  refine row_of hlt (row_len _) ?_
  simp -implicitDefEqProofs [row_len, take_row, fits_map, hf, go_sem, -List.set_cons_succ, -List.set_cons_zero]
  refine row_of (by omega) (row_len _) ?_
  simp -implicitDefEqProofs [row_len, take_row, fits_map, hf, go_sem, -List.set_cons_succ, -List.set_cons_zero]
  simp -implicitDefEqProofs [pure_d, re_d, go_sem, -List.set_cons_succ, -List.set_cons_zero]
  refine call_same (h l[i] (List.getElem_mem hlt) (r[i]'(by omega)) (List.getElem_mem (by omega)) _) (by simp [Ob.re, C.re, re_d]) rfl hf ?_
  simp -implicitDefEqProofs [hadd, go_sem, -List.set_cons_succ, -List.set_cons_zero]
  refine ⟨fun hne e => ?_, fun he => ?_⟩
  · subst e; exact hne rfl
  · exact loop_less (i + 1) (St.le_cut [_, _] (by simp [setAll, Sl.le, A.le_refl_iff, A.le_u_iff, As.lo, A.lo, C.lo, Ref.lo, Cs.lo, Obs.lo, Ob.lo, setAll, and_true, true_and, List.length_nil, List.length_cons]) (by simp [Sl.le, A.le_refl_iff, A.le_u_iff, As.lo, A.lo, C.lo, Ref.lo, Cs.lo, Obs.lo, Ob.lo, setAll, and_true, true_and, List.length_nil, List.length_cons]) rfl (by simp [Sl.le, A.le_refl_iff, A.le_u_iff, As.lo, A.lo, C.lo, Ref.lo, Cs.lo, Obs.lo, Ob.lo, setAll, and_true, true_and, List.length_nil, List.length_cons])) ⟨hlt, take_snoc hlt (by omega) htk he⟩ (by show l.length - (i + 1) < l.length - i; omega)
theorem sameImpl_calls : ∀ a : Tm, a.fits → ∀ b : Tm, b.fits → Same2 16 a b := by
  refine Tm.ind fun k n s l ih hfits b hb H => ?_
  obtain ⟨k', n', s', r⟩ := b
  obtain ⟨_, _, _, hl, hkids⟩ := hfits
  obtain ⟨_, _, _, hr, hkids'⟩ := hb
  refine acalls Tryz.func16 (by kernel_rfl) ac16_ok fun hf => ?_
  simp -implicitDefEqProofs [ac16, row_mk, go_sem, -List.set_cons_succ, -List.set_cons_zero]
  refine ⟨fun e1 e2 e3 => ⟨⟨⟨e1, e2⟩, e3⟩, ?_⟩, fun h => ?_⟩
  · subst e1 e2 e3
    refine qcall_pure (eqFunc_of 16 l r hl hr fun x hx y hy => ih x hx (hkids x hx) y (hkids' y hy)) hf rfl ?_
    simp -implicitDefEqProofs [go_sem, -List.set_cons_succ, -List.set_cons_zero]
  · exact fun e1 e2 e3 => absurd e3 (h e1 e2)
-- 25 loop.example/prologserver/spec.TermSame params 2 ntmps 53
-- loop head live: [2,3,5]
def ac25 : Cd := .seq (.region [oc 2 (.box (.t 0)),
 oc 3 (.box (.t 1)),
 oc 4 (.mv (.k (.c (.d (.bool false)))))] [0,1,4])
 (.seq (.seq (.region [oc 6 (.fieldAddr 0 (.t 2)),
 oc 7 (.load none (.t 6)),
 oc 8 (.fieldAddr 0 (.t 3)),
 oc 9 (.load none (.t 8)),
 oc 10 (.bin .neq (.t 7) (.t 9)),
 oa 11 10,
 ⟨some 12,.fieldAddr 1 (.t 2),some (11,false)⟩,
 ⟨some 13,.load none (.t 12),some (11,false)⟩,
 ⟨some 14,.fieldAddr 1 (.t 3),some (11,false)⟩,
 ⟨some 15,.load none (.t 14),some (11,false)⟩,
 ⟨some 16,.bin .neq (.t 13) (.t 15),some (11,false)⟩,
 oc 17 (.pick (.t 11) (.k (.c (.d (.bool true)))) (.t 16)),
 oa 18 17,
 ⟨some 19,.fieldAddr 2 (.t 2),some (18,false)⟩,
 ⟨some 20,.load none (.t 19),some (18,false)⟩,
 ⟨some 21,.fieldAddr 2 (.t 3),some (18,false)⟩,
 ⟨some 22,.load none (.t 21),some (18,false)⟩,
 ⟨some 23,.bin .neq (.t 20) (.t 22),some (18,false)⟩,
 oc 24 (.pick (.t 18) (.k (.c (.d (.bool true)))) (.t 23)),
 oa 25 24,
 ⟨some 26,.fieldAddr 3 (.t 2),some (25,false)⟩,
 ⟨some 27,.load none (.t 26),some (25,false)⟩,
 ⟨some 28,.len 1 (.t 27),some (25,false)⟩,
 ⟨some 29,.fieldAddr 3 (.t 3),some (25,false)⟩,
 ⟨some 30,.load none (.t 29),some (25,false)⟩,
 ⟨some 31,.len 1 (.t 30),some (25,false)⟩,
 ⟨some 32,.bin .neq (.t 28) (.t 31),some (25,false)⟩,
 oc 33 (.pick (.t 25) (.k (.c (.d (.bool true)))) (.t 32))] [6,7,8,9,10,11,12,13,14,15,16,17,18,19,20,21,22,23,24,25,26,27,28,29,30,31,32])
 (.cond (.t 33)
 (.seq (.region [oc 4 (.mv (.k (.c (.d (.bool false)))))] [2,3,33])
 (.ret))
 (.skip)))
 (.seq (.seq (.region [oc 5 (.mv (ki 0))] [4,33])
 (.block 0 (.loop (.seq (.seq (.region [oa 34 5,
 oc 35 (.fieldAddr 3 (.t 2)),
 oc 36 (.load none (.t 35)),
 oc 37 (.len 1 (.t 36)),
 oc 38 (.bin .lss (.t 34) (.t 37))] [34,35,36,37])
 (.cond (.t 38)
 (.skip)
 (.exit 0)))
 (.seq (.block 1 (.seq (.region [oc 41 (.fieldAddr 3 (.t 2)),
 oa 43 5,
 oc 46 (.fieldAddr 3 (.t 3)),
 oa 48 5,
 oc 42 (.load none (.t 41)),
 oc 44 (.indexAddr 4 (.t 42) (.t 43)),
 oc 45 (.load (some 4) (.t 44)),
 oc 47 (.load none (.t 46)),
 oc 49 (.indexAddr 4 (.t 47) (.t 48)),
 oc 50 (.load (some 4) (.t 49)),
 oc 51 (.qcall 25 [(.t 45),(.t 50)]),
 oc 52 (.un .not (.t 51))] [38,41,42,43,44,45,46,47,48,49,50,51])
 (.cond (.t 52)
 (.seq (.region [oc 4 (.mv (.k (.c (.d (.bool false)))))] [2,3,5,52])
 (.ret))
 (.skip))))
 (.region [oa 39 5,
 oc 40 (.bin .add (.t 39) (ki 1)),
 oa 5 40] [4,39,40,52]))))))
 (.seq (.region [oc 4 (.mv (.k (.c (.d (.bool true)))))] [])
 (.ret))))
theorem ac25_ok : cFunc Tryz.prog [1000025] [(0,[0,1,4],[]),(1,[6,7,8,9,10,11,12,13,14,15,16,17,18,19,20,21,22,23,24,25,26,27,28,29,30,31,32],[]),(2,[2,3,33],[]),(3,[4,33],[]),(4,[34,35,36,37],[]),(6,[38,41,42,43,44,45,46,47,48,49,50,51],[0,2,5,7,1,3,4,6,8,9,10,11]),(7,[2,3,5,52],[]),(5,[4,39,40,52],[]),(8,[],[])] Tryz.f25 = some (ac25,[.tmp 4],53) := by kernel_rfl
theorem sameSpec_calls : ∀ a : Tm, a.fits → ∀ b : Tm, b.fits → Same2 25 a b := by
  refine Tm.ind fun k n s l ih hfits b hb H => ?_
  obtain ⟨k', n', s', r⟩ := b
  obtain ⟨_, _, _, hl, hkids⟩ := hfits
  obtain ⟨_, _, _, hr, hkids'⟩ := hb
  refine acalls Tryz.func25 (by kernel_rfl) ac25_ok fun hf => ?_
  have hli : inR .i64 (l.length : Int) := small_i64 (by omega) (by omega)
  have hri : inR .i64 (r.length : Int) := small_i64 (by omega) (by omega)
  simp -implicitDefEqProofs [ac25, row_mk, hli, hri, go_sem, -List.set_cons_succ, -List.set_cons_zero]
  refine ⟨fun h1 h2 h3 h4 e => by subst e; simp [h2, h3, h4] at h1, fun e1 e2 e3 e4 => ?_⟩
  have e4 : l.length = r.length := by omega
  subst e1 e2 e3
  refine loop_set (σ := Nat) (fun i => [(5, .c (.d (.int .i64 i)))]) (fun _ => H) (fun _ => [.cells [.d (.int .i64 k), .d (.int .i64 n), .d (.str s), .d (.sl (l.map Tm.row))], .cells [.d (.int .i64 k), .d (.int .i64 n), .d (.str s), .d (.sl (r.map Tm.row))]]) (fun i => i ≤ l.length ∧ l.take i = r.take i) (fun i => l.length - i) 0 rfl ⟨Nat.zero_le _, rfl⟩ ?_
  rintro i ⟨hi, htk⟩
  simp -implicitDefEqProofs [setAll, hli, go_sem, -List.set_cons_succ, -List.set_cons_zero]
  refine ⟨fun hlt => ?_, fun hge => by rw [List.take_of_length_le hge, List.take_of_length_le (by omega)] at htk; exact htk⟩
  have hadd : inR .i64 ((i : Int) + 1) := small_i64 (by omega) (by omega)
  refine row_of hlt (row_len _) ?_
  simp -implicitDefEqProofs [row_len, take_row, go_sem, -List.set_cons_succ, -List.set_cons_zero]
  refine row_of (by omega) (row_len _) ?_
  simp -implicitDefEqProofs [row_len, take_row, pure_d, re_d, go_sem, -List.set_cons_succ, -List.set_cons_zero]
  refine qcall_pure (ih l[i] (List.getElem_mem hlt) (hkids _ (List.getElem_mem hlt)) (r[i]'(by omega)) (hkids' _ (List.getElem_mem (by omega)))) hf rfl ?_
  simp -implicitDefEqProofs [hadd, go_sem, -List.set_cons_succ, -List.set_cons_zero]
  refine ⟨fun hne e => ?_, fun he => ?_⟩
  · subst e; exact hne rfl
  · exact loop_back (i + 1) (by simp [setAll]) ⟨hlt, take_snoc hlt (by omega) htk he⟩ (by show l.length - (i + 1) < l.length - i; omega)
namespace Sv
-- 129 loop.example/prologserver/spec.l5Div params 2 ntmps 8
def ac129 : Cd := .seq (.region [oc 4 (.mv (ki 0))] [4])
 (.seq (.region [oa 5 0,
 oa 6 1,
 oc 7 (.bin .quo (.t 5) (.t 6)),
 oa 4 7] [0,1,5,6,7])
 (.ret))
theorem ac129_ok : cFunc Tryz.prog [] [(0,[4],[]),(1,[0,1,5,6,7],[])] Tryz.f129 = some (ac129,[.tmp 4],8) := by kernel_rfl
-- 128 loop.example/prologserver/spec.l5Mod params 2 ntmps 22
def ac128 : Cd := .seq (.region [oc 4 (.mv (ki 0))] [4])
 (.seq (.region [oa 6 0,
 oa 7 1,
 oc 8 (.bin .rem (.t 6) (.t 7)),
 oa 5 8] [0,6,7,8])
 (.seq (.seq (.region [oa 9 5,
 oc 10 (.bin .neq (.t 9) (ki 0)),
 oa 11 10,
 ⟨some 12,.mv (.t 5),some (11,true)⟩,
 ⟨some 13,.bin .lss (.t 12) (ki 0),some (11,true)⟩,
 ⟨some 14,.mv (.t 1),some (11,true)⟩,
 ⟨some 15,.bin .lss (.t 14) (ki 0),some (11,true)⟩,
 ⟨some 16,.binB true (.t 13) (.t 15),some (11,true)⟩,
 oc 17 (.pick (.t 11) (.t 16) (.k (.c (.d (.bool false)))))] [9,10,11,12,13,14,15,16])
 (.cond (.t 17)
 (.region [oa 18 5,
 oa 19 1,
 oc 20 (.bin .add (.t 18) (.t 19)),
 oa 5 20] [1,17,18,19,20])
 (.skip)))
 (.seq (.region [oa 21 5,
 oa 4 21] [1,5,17,21])
 (.ret))))
theorem ac128_ok : cFunc Tryz.prog [] [(0,[4],[]),(1,[0,6,7,8],[]),(2,[9,10,11,12,13,14,15,16],[]),(3,[1,17,18,19,20],[]),(4,[1,5,17,21],[])] Tryz.f128 = some (ac128,[.tmp 4],22) := by kernel_rfl
-- 127 loop.example/prologserver/spec.l5Ranged params 1 ntmps 11
def ac127 : Cd := .seq (.region [oc 2 (.mv (ki 0)),
 oc 3 (.mv (ki 0))] [2,3])
 (.seq (.seq (.region [oa 4 0,
 oc 5 (.bin .lss (.t 4) (ki (-999))),
 oa 6 5,
 ⟨some 7,.mv (.t 0),some (6,false)⟩,
 ⟨some 8,.bin .gtr (.t 7) (ki 999),some (6,false)⟩,
 oc 9 (.pick (.t 6) (.k (.c (.d (.bool true)))) (.t 8))] [4,5,6,7,8])
 (.cond (.t 9)
 (.seq (.region [oc 2 (.mv (ki 0)),
 oc 3 (.mv (ki 5))] [0,9])
 (.ret))
 (.skip)))
 (.seq (.region [oa 10 0,
 oa 2 10,
 oc 3 (.mv (ki 0))] [0,9,10])
 (.ret)))
theorem ac127_ok : cFunc Tryz.prog [] [(0,[2,3],[]),(1,[4,5,6,7,8],[]),(2,[0,9],[]),(3,[0,9,10],[])] Tryz.f127 = some (ac127,[.tmp 2,.tmp 3],11) := by kernel_rfl
-- 115 loop.example/prologserver/spec.l5Op params 3 ntmps 43
def ac115 : Cd := .seq (.region [oc 6 (.mv (ki 0)),
 oc 7 (.mv (ki 0))] [6,7])
 (.seq (.seq (.region [oa 8 0] [])
 (.block 0 (.seq (.region [oc 10 (.bin .eql (.t 8) (.k (.c (.d (.str [43]))))),
 oa 9 10] [10])
 (.cond (.t 9)
 (.seq (.region [oa 11 1,
 oa 12 2,
 oc 13 (.bin .add (.t 11) (.t 12)),
 oc 14 (.call false 127 [(.t 13)]),
 oc 15 (.extract 0 (.t 14)),
 oc 16 (.extract 1 (.t 14)),
 oa 6 15,
 oa 7 16] [0,1,2,8,9,11,12,13,14,15,16])
 (.ret))
 (.seq (.region [oc 18 (.bin .eql (.t 8) (.k (.c (.d (.str [45]))))),
 oa 17 18] [9,18])
 (.cond (.t 17)
 (.seq (.region [oa 19 1,
 oa 20 2,
 oc 21 (.bin .sub (.t 19) (.t 20)),
 oc 22 (.call false 127 [(.t 21)]),
 oc 23 (.extract 0 (.t 22)),
 oc 24 (.extract 1 (.t 22)),
 oa 6 23,
 oa 7 24] [0,1,2,8,17,19,20,21,22,23,24])
 (.ret))
 (.seq (.region [oc 26 (.bin .eql (.t 8) (.k (.c (.d (.str [42]))))),
 oa 25 26] [8,17,26])
 (.cond (.t 25)
 (.seq (.region [oa 27 1,
 oa 28 2,
 oc 29 (.bin .mul (.t 27) (.t 28)),
 oc 30 (.call false 127 [(.t 29)]),
 oc 31 (.extract 0 (.t 30)),
 oc 32 (.extract 1 (.t 30)),
 oa 6 31,
 oa 7 32] [0,1,2,25,27,28,29,30,31,32])
 (.ret))
 (.skip)))))))))
 (.seq (.seq (.region [oa 33 2,
 oc 34 (.bin .eql (.t 33) (ki 0))] [6,7,25,33])
 (.cond (.t 34)
 (.seq (.region [oc 6 (.mv (ki 0)),
 oc 7 (.mv (ki 4))] [0,1,2,34])
 (.ret))
 (.skip)))
 (.seq (.seq (.region [oa 35 0,
 oc 36 (.bin .eql (.t 35) (.k (.c (.d (.str [109,111,100])))))] [0,6,7,34,35])
 (.cond (.t 36)
 (.seq (.region [oa 37 1,
 oa 38 2,
 oc 39 (.call false 128 [(.t 37),(.t 38)]),
 oa 6 39,
 oc 7 (.mv (ki 0))] [1,2,36,37,38,39])
 (.ret))
 (.skip)))
 (.seq (.region [oa 40 1,
 oa 41 2,
 oc 42 (.call false 129 [(.t 40),(.t 41)]),
 oa 6 42,
 oc 7 (.mv (ki 0))] [1,2,36,40,41,42])
 (.ret)))))
theorem ac115_ok : cFunc Tryz.prog [] [(0,[6,7],[]),(1,[],[]),(2,[10],[]),(3,[0,1,2,8,9,11,12,13,14,15,16],[]),(4,[9,18],[]),(5,[0,1,2,8,17,19,20,21,22,23,24],[]),(6,[8,17,26],[]),(7,[0,1,2,25,27,28,29,30,31,32],[]),(8,[6,7,25,33],[]),(9,[0,1,2,34],[]),(10,[0,6,7,34,35],[]),(11,[1,2,36,37,38,39],[]),(12,[1,2,36,40,41,42],[])] Tryz.f115 = some (ac115,[.tmp 6,.tmp 7],43) := by kernel_rfl
-- 100 loop.example/prologserver/spec.l5Arith params 1 ntmps 61
def ac100 : Cd := .seq (.region [oc 1 (.box (.t 0)),
 oc 2 (.mv (ki 0)),
 oc 3 (.mv (ki 0))] [0,2,3])
 (.seq (.seq (.region [oc 9 (.fieldAddr 0 (.t 1)),
 oc 10 (.load none (.t 9))] [9])
 (.block 0 (.seq (.region [oc 12 (.bin .eql (.t 10) (ki 1)),
 oa 11 12] [12])
 (.cond (.t 11)
 (.seq (.region [oc 2 (.mv (ki 0)),
 oc 3 (.mv (ki 2))] [1,10,11])
 (.ret))
 (.seq (.region [oc 14 (.bin .eql (.t 10) (ki 2)),
 oa 13 14] [10,11,14])
 (.cond (.t 13)
 (.seq (.region [oc 15 (.fieldAddr 1 (.t 1)),
 oc 16 (.load none (.t 15)),
 oa 2 16,
 oc 3 (.mv (ki 0))] [1,13,15,16])
 (.ret))
 (.skip)))))))
 (.seq (.region [oc 17 (.fieldAddr 2 (.t 1)),
 oc 18 (.load none (.t 17)),
 oc 19 (.qcall 50 [(.t 18)]),
 oa 4 19] [2,3,13,17,18,19])
 (.seq (.seq (.region [oc 20 (.fieldAddr 3 (.t 1)),
 oc 21 (.load none (.t 20)),
 oc 22 (.len 1 (.t 21)),
 oc 23 (.bin .neq (.t 22) (ki 2)),
 oa 24 23,
 ⟨some 25,.mv (.t 4),some (24,false)⟩,
 ⟨some 26,.bin .neq (.t 25) (ki 1),some (24,false)⟩,
 ⟨some 27,.mv (.t 26),some (24,false)⟩,
 ⟨some 28,.mv (.t 4),some (27,true)⟩,
 ⟨some 29,.bin .neq (.t 28) (ki 2),some (27,true)⟩,
 ⟨some 30,.pick (.t 27) (.t 29) (.k (.c (.d (.bool false)))),some (24,false)⟩,
 oc 31 (.pick (.t 24) (.k (.c (.d (.bool true)))) (.t 30))] [4,20,21,22,23,24,25,26,27,28,29,30])
 (.cond (.t 31)
 (.seq (.region [oc 2 (.mv (ki 0)),
 oc 3 (.mv (ki 3))] [1,31])
 (.ret))
 (.skip)))
 (.seq (.region [oc 33 (.fieldAddr 3 (.t 1)),
 oc 34 (.load none (.t 33)),
 oc 35 (.indexAddr 4 (.t 34) (ki 0)),
 oc 36 (.load (some 4) (.t 35)),
 oc 37 (.call false 100 [(.t 36)]),
 oa 32 37,
 oc 38 (.extract 0 (.t 32)),
 oc 39 (.extract 1 (.t 32)),
 oa 5 38,
 oa 6 39] [2,3,31,32,33,34,35,36,37,38,39])
 (.seq (.seq (.region [oa 40 6,
 oc 41 (.bin .neq (.t 40) (ki 0))] [40])
 (.cond (.t 41)
 (.seq (.region [oa 42 6,
 oc 2 (.mv (ki 0)),
 oa 3 42] [1,5,6,41,42])
 (.ret))
 (.skip)))
 (.seq (.region [oc 44 (.fieldAddr 3 (.t 1)),
 oc 45 (.load none (.t 44)),
 oc 46 (.indexAddr 4 (.t 45) (ki 1)),
 oc 47 (.load (some 4) (.t 46)),
 oc 48 (.call false 100 [(.t 47)]),
 oa 43 48,
 oc 49 (.extract 0 (.t 43)),
 oc 50 (.extract 1 (.t 43)),
 oa 7 49,
 oa 8 50] [2,3,6,41,43,44,45,46,47,48,49,50])
 (.seq (.seq (.region [oa 51 8,
 oc 52 (.bin .neq (.t 51) (ki 0))] [51])
 (.cond (.t 52)
 (.seq (.region [oa 53 8,
 oc 2 (.mv (ki 0)),
 oa 3 53] [1,5,7,8,52,53])
 (.ret))
 (.skip)))
 (.seq (.region [oc 54 (.fieldAddr 2 (.t 1)),
 oc 55 (.load none (.t 54)),
 oa 56 5,
 oa 57 7,
 oc 58 (.call false 115 [(.t 55),(.t 56),(.t 57)]),
 oc 59 (.extract 0 (.t 58)),
 oc 60 (.extract 1 (.t 58)),
 oa 2 59,
 oa 3 60] [1,5,7,8,52,54,55,56,57,58,59,60])
 (.ret)))))))))
theorem ac100_ok : cFunc Tryz.prog [1000050] [(0,[0,2,3],[]),(1,[9],[]),(2,[12],[]),(3,[1,10,11],[]),(4,[10,11,14],[]),(5,[1,13,15,16],[]),(6,[2,3,13,17,18,19],[]),(7,[4,20,21,22,23,24,25,26,27,28,29,30],[]),(8,[1,31],[]),(9,[2,3,31,32,33,34,35,36,37,38,39],[]),(10,[40],[]),(11,[1,5,6,41,42],[]),(12,[2,3,6,41,43,44,45,46,47,48,49,50],[]),(13,[51],[]),(14,[1,5,7,8,52,53],[]),(15,[1,5,7,8,52,54,55,56,57,58,59,60],[])] Tryz.f100 = some (ac100,[.tmp 2,.tmp 3],61) := by kernel_rfl
-- 116 loop.example/prologserver/spec.l5Holds params 3 ntmps 31
def ac116 : Cd := .seq (.region [oc 6 (.mv (.k (.c (.d (.bool false)))))] [6])
 (.seq (.seq (.region [oa 7 0] [0])
 (.block 0 (.seq (.region [oc 9 (.bin .eql (.t 7) (.k (.c (.d (.str [60]))))),
 oa 8 9] [9])
 (.cond (.t 8)
 (.seq (.region [oa 10 1,
 oa 11 2,
 oc 12 (.bin .lss (.t 10) (.t 11)),
 oa 6 12] [1,2,7,8,10,11,12])
 (.ret))
 (.seq (.region [oc 14 (.bin .eql (.t 7) (.k (.c (.d (.str [62]))))),
 oa 13 14] [8,14])
 (.cond (.t 13)
 (.seq (.region [oa 15 1,
 oa 16 2,
 oc 17 (.bin .gtr (.t 15) (.t 16)),
 oa 6 17] [1,2,7,13,15,16,17])
 (.ret))
 (.seq (.region [oc 19 (.bin .eql (.t 7) (.k (.c (.d (.str [61,60]))))),
 oa 18 19] [13,19])
 (.cond (.t 18)
 (.seq (.region [oa 20 1,
 oa 21 2,
 oc 22 (.bin .leq (.t 20) (.t 21)),
 oa 6 22] [1,2,7,18,20,21,22])
 (.ret))
 (.seq (.region [oc 24 (.bin .eql (.t 7) (.k (.c (.d (.str [62,61]))))),
 oa 23 24] [7,18,24])
 (.cond (.t 23)
 (.seq (.region [oa 25 1,
 oa 26 2,
 oc 27 (.bin .geq (.t 25) (.t 26)),
 oa 6 27] [1,2,23,25,26,27])
 (.ret))
 (.skip)))))))))))
 (.seq (.region [oa 28 1,
 oa 29 2,
 oc 30 (.bin .eql (.t 28) (.t 29)),
 oa 6 30] [1,2,23,28,29,30])
 (.ret)))
theorem ac116_ok : cFunc Tryz.prog [] [(0,[6],[]),(1,[0],[]),(2,[9],[]),(3,[1,2,7,8,10,11,12],[]),(4,[8,14],[]),(5,[1,2,7,13,15,16,17],[]),(6,[13,19],[]),(7,[1,2,7,18,20,21,22],[]),(8,[7,18,24],[]),(9,[1,2,23,25,26,27],[]),(10,[1,2,23,28,29,30],[])] Tryz.f116 = some (ac116,[.tmp 6],31) := by kernel_rfl
-- 98 loop.example/prologserver/spec.l5Code params 1 ntmps 4
def ac98 : Cd := .seq (.region [oc 2 (.mv (ki 0))] [2])
 (.seq (.seq (.region [oa 3 0] [0])
 (.cond (.t 3)
 (.seq (.region [oc 2 (.mv (ki 0))] [3])
 (.ret))
 (.skip)))
 (.seq (.region [oc 2 (.mv (ki 1))] [3])
 (.ret)))
theorem ac98_ok : cFunc Tryz.prog [] [(0,[2],[]),(1,[0],[]),(2,[3],[]),(3,[3],[])] Tryz.f98 = some (ac98,[.tmp 2],4) := by kernel_rfl
-- 102 loop.example/prologserver/spec.l5Compares params 1 ntmps 21
def ac102 : Cd := .seq (.region [oc 2 (.mv (.k (.c (.d (.bool false)))))] [2])
 (.seq (.region [oa 3 0,
 oc 4 (.bin .eql (.t 3) (.k (.c (.d (.str [60]))))),
 oa 5 4,
 ⟨some 6,.mv (.t 0),some (5,false)⟩,
 ⟨some 7,.bin .eql (.t 6) (.k (.c (.d (.str [62])))),some (5,false)⟩,
 oc 8 (.pick (.t 5) (.k (.c (.d (.bool true)))) (.t 7)),
 oa 9 8,
 ⟨some 10,.mv (.t 0),some (9,false)⟩,
 ⟨some 11,.bin .eql (.t 10) (.k (.c (.d (.str [61,60])))),some (9,false)⟩,
 oc 12 (.pick (.t 9) (.k (.c (.d (.bool true)))) (.t 11)),
 oa 13 12,
 ⟨some 14,.mv (.t 0),some (13,false)⟩,
 ⟨some 15,.bin .eql (.t 14) (.k (.c (.d (.str [62,61])))),some (13,false)⟩,
 oc 16 (.pick (.t 13) (.k (.c (.d (.bool true)))) (.t 15)),
 oa 17 16,
 ⟨some 18,.mv (.t 0),some (17,false)⟩,
 ⟨some 19,.bin .eql (.t 18) (.k (.c (.d (.str [61,58,61])))),some (17,false)⟩,
 oc 20 (.pick (.t 17) (.k (.c (.d (.bool true)))) (.t 19)),
 oa 2 20] [0,3,4,5,6,7,8,9,10,11,12,13,14,15,16,17,18,19,20])
 (.ret))
theorem ac102_ok : cFunc Tryz.prog [] [(0,[2],[]),(1,[0,3,4,5,6,7,8,9,10,11,12,13,14,15,16,17,18,19,20],[])] Tryz.f102 = some (ac102,[.tmp 2],21) := by kernel_rfl
-- 103 loop.example/prologserver/spec.l5Compare params 1 ntmps 35
def ac103 : Cd := .seq (.region [oc 1 (.box (.t 0)),
 oc 2 (.mv (ki 0))] [0,2])
 (.seq (.region [oc 8 (.fieldAddr 3 (.t 1)),
 oc 9 (.load none (.t 8)),
 oc 10 (.indexAddr 4 (.t 9) (ki 0)),
 oc 11 (.load (some 4) (.t 10)),
 oc 12 (.call false 100 [(.t 11)]),
 oa 7 12,
 oc 13 (.extract 0 (.t 7)),
 oc 14 (.extract 1 (.t 7)),
 oa 3 13,
 oa 4 14] [7,8,9,10,11,12,13,14])
 (.seq (.seq (.region [oa 15 4,
 oc 16 (.bin .neq (.t 15) (ki 0))] [15])
 (.cond (.t 16)
 (.seq (.region [oa 17 4,
 oa 2 17] [1,3,4,16,17])
 (.ret))
 (.skip)))
 (.seq (.region [oc 19 (.fieldAddr 3 (.t 1)),
 oc 20 (.load none (.t 19)),
 oc 21 (.indexAddr 4 (.t 20) (ki 1)),
 oc 22 (.load (some 4) (.t 21)),
 oc 23 (.call false 100 [(.t 22)]),
 oa 18 23,
 oc 24 (.extract 0 (.t 18)),
 oc 25 (.extract 1 (.t 18)),
 oa 5 24,
 oa 6 25] [2,4,16,18,19,20,21,22,23,24,25])
 (.seq (.seq (.region [oa 26 6,
 oc 27 (.bin .neq (.t 26) (ki 0))] [26])
 (.cond (.t 27)
 (.seq (.region [oa 28 6,
 oa 2 28] [1,3,5,6,27,28])
 (.ret))
 (.skip)))
 (.seq (.region [oc 29 (.fieldAddr 2 (.t 1)),
 oc 30 (.load none (.t 29)),
 oa 31 3,
 oa 32 5,
 oc 33 (.call false 116 [(.t 30),(.t 31),(.t 32)]),
 oc 34 (.qcall 98 [(.t 33)]),
 oa 2 34] [1,3,5,6,27,29,30,31,32,33,34])
 (.ret))))))
theorem ac103_ok : cFunc Tryz.prog [1000098] [(0,[0,2],[]),(1,[7,8,9,10,11,12,13,14],[]),(2,[15],[]),(3,[1,3,4,16,17],[]),(4,[2,4,16,18,19,20,21,22,23,24,25],[]),(5,[26],[]),(6,[1,3,5,6,27,28],[]),(7,[1,3,5,6,27,29,30,31,32,33,34],[])] Tryz.f103 = some (ac103,[.tmp 2],35) := by kernel_rfl
-- 104 loop.example/prologserver/spec.l5Test params 1 ntmps 38
def ac104 : Cd := .seq (.region [oc 1 (.box (.t 0)),
 oc 2 (.mv (ki 0))] [0,2])
 (.seq (.region [oc 4 (.fieldAddr 3 (.t 1)),
 oc 5 (.load none (.t 4)),
 oc 6 (.indexAddr 4 (.t 5) (ki 0)),
 oc 7 (.load (some 4) (.t 6)),
 oc 3 (.alloc [(.d (.int .i64 0)),(.d (.int .i64 0)),(.d (.str [])),(.full [])]),
 ⟨none,.store 4 (.t 3) (.t 7),none⟩] [4,5,6,7])
 (.seq (.seq (.region [oc 8 (.fieldAddr 2 (.t 1)),
 oc 9 (.load none (.t 8))] [1,8])
 (.block 0 (.seq (.region [oc 11 (.bin .eql (.t 9) (.k (.c (.d (.str [118,97,114]))))),
 oa 10 11] [11])
 (.cond (.t 10)
 (.seq (.region [oc 12 (.fieldAddr 0 (.t 3)),
 oc 13 (.load none (.t 12)),
 oc 14 (.bin .eql (.t 13) (ki 1)),
 oc 15 (.qcall 98 [(.t 14)]),
 oa 2 15] [3,9,10,12,13,14,15])
 (.ret))
 (.seq (.region [oc 17 (.bin .eql (.t 9) (.k (.c (.d (.str [110,111,110,118,97,114]))))),
 oa 16 17] [10,17])
 (.cond (.t 16)
 (.seq (.region [oc 18 (.fieldAddr 0 (.t 3)),
 oc 19 (.load none (.t 18)),
 oc 20 (.bin .neq (.t 19) (ki 1)),
 oc 21 (.qcall 98 [(.t 20)]),
 oa 2 21] [3,9,16,18,19,20,21])
 (.ret))
 (.seq (.region [oc 23 (.bin .eql (.t 9) (.k (.c (.d (.str [105,110,116]))))),
 oa 22 23] [9,16,23])
 (.cond (.t 22)
 (.seq (.region [oc 24 (.fieldAddr 0 (.t 3)),
 oc 25 (.load none (.t 24)),
 oc 26 (.bin .eql (.t 25) (ki 2)),
 oc 27 (.qcall 98 [(.t 26)]),
 oa 2 27] [3,22,24,25,26,27])
 (.ret))
 (.skip)))))))))
 (.seq (.region [oc 28 (.fieldAddr 0 (.t 3)),
 oc 29 (.load none (.t 28)),
 oc 30 (.bin .eql (.t 29) (ki 3)),
 oa 31 30,
 ⟨some 32,.fieldAddr 3 (.t 3),some (31,true)⟩,
 ⟨some 33,.load none (.t 32),some (31,true)⟩,
 ⟨some 34,.len 1 (.t 33),some (31,true)⟩,
 ⟨some 35,.bin .eql (.t 34) (ki 0),some (31,true)⟩,
 oc 36 (.pick (.t 31) (.t 35) (.k (.c (.d (.bool false))))),
 oc 37 (.qcall 98 [(.t 36)]),
 oa 2 37] [3,22,28,29,30,31,32,33,34,35,36,37])
 (.ret))))
theorem ac104_ok : cFunc Tryz.prog [1000098] [(0,[0,2],[]),(1,[4,5,6,7],[]),(2,[1,8],[]),(3,[11],[]),(4,[3,9,10,12,13,14,15],[]),(5,[10,17],[]),(6,[3,9,16,18,19,20,21],[]),(7,[9,16,23],[]),(8,[3,22,24,25,26,27],[]),(9,[3,22,28,29,30,31,32,33,34,35,36,37],[])] Tryz.f104 = some (ac104,[.tmp 2],38) := by kernel_rfl
-- 101 loop.example/prologserver/spec.l5Arg params 1 ntmps 57
def ac101 : Cd := .seq (.region [oc 1 (.box (.t 0)),
 oc 2 (.alloc [(.d (.int .i64 0)),(.d (.int .i64 0)),(.d (.str [])),(.full [])]),
 oc 3 (.mv (ki 0))] [0,3])
 (.seq (.region [oc 6 (.fieldAddr 3 (.t 1)),
 oc 7 (.load none (.t 6)),
 oc 8 (.indexAddr 4 (.t 7) (ki 0)),
 oc 9 (.load (some 4) (.t 8)),
 oc 4 (.alloc [(.d (.int .i64 0)),(.d (.int .i64 0)),(.d (.str [])),(.full [])]),
 ⟨none,.store 4 (.t 4) (.t 9),none⟩] [6,7,8,9])
 (.seq (.region [oc 10 (.fieldAddr 3 (.t 1)),
 oc 11 (.load none (.t 10)),
 oc 12 (.indexAddr 4 (.t 11) (ki 1)),
 oc 13 (.load (some 4) (.t 12)),
 oc 5 (.alloc [(.d (.int .i64 0)),(.d (.int .i64 0)),(.d (.str [])),(.full [])]),
 ⟨none,.store 4 (.t 5) (.t 13),none⟩] [1,10,11,12,13])
 (.seq (.seq (.region [oc 14 (.fieldAddr 0 (.t 4)),
 oc 15 (.load none (.t 14)),
 oc 16 (.bin .eql (.t 15) (ki 1)),
 oa 17 16,
 ⟨some 18,.fieldAddr 0 (.t 5),some (17,false)⟩,
 ⟨some 19,.load none (.t 18),some (17,false)⟩,
 ⟨some 20,.bin .eql (.t 19) (ki 1),some (17,false)⟩,
 oc 21 (.pick (.t 17) (.k (.c (.d (.bool true)))) (.t 20))] [14,15,16,17,18,19,20])
 (.cond (.t 21)
 (.seq (.region [oc 22 (.build [(.d (.int .i64 0)),(.d (.int .i64 0)),(.d (.str [])),(.full [])] []),
 ⟨none,.store 4 (.t 2) (.t 22),none⟩,
 oc 3 (.mv (ki 2))] [4,5,21,22])
 (.ret))
 (.skip)))
 (.seq (.seq (.region [oc 23 (.fieldAddr 0 (.t 4)),
 oc 24 (.load none (.t 23)),
 oc 25 (.bin .neq (.t 24) (ki 2)),
 oa 26 25,
 ⟨some 27,.fieldAddr 0 (.t 5),some (26,false)⟩,
 ⟨some 28,.load none (.t 27),some (26,false)⟩,
 ⟨some 29,.bin .neq (.t 28) (ki 3),some (26,false)⟩,
 oc 30 (.pick (.t 26) (.k (.c (.d (.bool true)))) (.t 29)),
 oa 31 30,
 ⟨some 32,.fieldAddr 3 (.t 5),some (31,false)⟩,
 ⟨some 33,.load none (.t 32),some (31,false)⟩,
 ⟨some 34,.len 1 (.t 33),some (31,false)⟩,
 ⟨some 35,.bin .eql (.t 34) (ki 0),some (31,false)⟩,
 oc 36 (.pick (.t 31) (.k (.c (.d (.bool true)))) (.t 35))] [3,21,23,24,25,26,27,28,29,30,31,32,33,34,35])
 (.cond (.t 36)
 (.seq (.region [oc 37 (.build [(.d (.int .i64 0)),(.d (.int .i64 0)),(.d (.str [])),(.full [])] []),
 ⟨none,.store 4 (.t 2) (.t 37),none⟩,
 oc 3 (.mv (ki 3))] [4,5,36,37])
 (.ret))
 (.skip)))
 (.seq (.seq (.region [oc 38 (.fieldAddr 1 (.t 4)),
 oc 39 (.load none (.t 38)),
 oc 40 (.bin .lss (.t 39) (ki 1)),
 oa 41 40,
 ⟨some 42,.fieldAddr 1 (.t 4),some (41,false)⟩,
 ⟨some 43,.load none (.t 42),some (41,false)⟩,
 ⟨some 44,.fieldAddr 3 (.t 5),some (41,false)⟩,
 ⟨some 45,.load none (.t 44),some (41,false)⟩,
 ⟨some 46,.len 1 (.t 45),some (41,false)⟩,
 ⟨some 47,.bin .gtr (.t 43) (.t 46),some (41,false)⟩,
 oc 48 (.pick (.t 41) (.k (.c (.d (.bool true)))) (.t 47))] [3,36,38,39,40,41,42,43,44,45,46,47])
 (.cond (.t 48)
 (.seq (.region [oc 49 (.build [(.d (.int .i64 0)),(.d (.int .i64 0)),(.d (.str [])),(.full [])] []),
 ⟨none,.store 4 (.t 2) (.t 49),none⟩,
 oc 3 (.mv (ki 1))] [4,5,48,49])
 (.ret))
 (.skip)))
 (.seq (.region [oc 50 (.fieldAddr 3 (.t 5)),
 oc 51 (.load none (.t 50)),
 oc 52 (.fieldAddr 1 (.t 4)),
 oc 53 (.load none (.t 52)),
 oc 54 (.bin .sub (.t 53) (ki 1)),
 oc 55 (.indexAddr 4 (.t 51) (.t 54)),
 oc 56 (.load (some 4) (.t 55)),
 ⟨none,.store 4 (.t 2) (.t 56),none⟩,
 oc 3 (.mv (ki 0))] [4,5,48,50,51,52,53,54,55,56])
 (.ret)))))))
theorem ac101_ok : cFunc Tryz.prog [] [(0,[0,3],[]),(1,[6,7,8,9],[]),(2,[1,10,11,12,13],[]),(3,[14,15,16,17,18,19,20],[]),(4,[4,5,21,22],[]),(5,[3,21,23,24,25,26,27,28,29,30,31,32,33,34,35],[]),(6,[4,5,36,37],[]),(7,[3,36,38,39,40,41,42,43,44,45,46,47],[]),(8,[4,5,48,49],[]),(9,[4,5,48,50,51,52,53,54,55,56],[])] Tryz.f101 = some (ac101,[.cell 2 (some 4),.tmp 3],57) := by kernel_rfl
-- 79 loop.example/prologserver/spec.l5Solve params 2 ntmps 103
def ac79 : Cd := .seq (.region [oc 2 (.box (.t 0)),
 oc 4 (.mv (ki 0))] [0,4])
 (.seq (.seq (.region [oc 9 (.fieldAddr 2 (.t 2)),
 oc 10 (.load none (.t 9))] [9])
 (.block 0 (.seq (.region [oc 12 (.bin .eql (.t 10) (.k (.c (.d (.str [116,114,117,101]))))),
 oa 11 12] [12])
 (.cond (.t 11)
 (.seq (.region [oc 4 (.mv (ki 0))] [1,2,10,11])
 (.ret))
 (.seq (.region [oc 14 (.bin .eql (.t 10) (.k (.c (.d (.str [102,97,105,108]))))),
 oa 13 14] [11,14])
 (.cond (.t 13)
 (.seq (.region [oc 4 (.mv (ki 1))] [1,2,10,13])
 (.ret))
 (.seq (.region [oc 16 (.bin .eql (.t 10) (.k (.c (.d (.str [61]))))),
 oa 15 16] [13,16])
 (.cond (.t 15)
 (.seq (.region [oc 17 (.fieldAddr 3 (.t 2)),
 oc 21 (.fieldAddr 3 (.t 2)),
 oa 25 1,
 oc 18 (.load none (.t 17)),
 oc 19 (.indexAddr 4 (.t 18) (ki 0)),
 oc 20 (.load (some 4) (.t 19)),
 oc 22 (.load none (.t 21)),
 oc 23 (.indexAddr 4 (.t 22) (ki 1)),
 oc 24 (.load (some 4) (.t 23)),
 oc 26 (.call false 99 [(.t 20),(.t 24),(.t 25)]),
 oc 27 (.qcall 98 [(.t 26)]),
 oa 4 27] [1,2,10,15,17,18,19,20,21,22,23,24,25,26,27])
 (.ret))
 (.seq (.region [oc 29 (.bin .eql (.t 10) (.k (.c (.d (.str [92,61]))))),
 oa 28 29] [15,29])
 (.cond (.t 28)
 (.seq (.region [oc 30 (.fieldAddr 3 (.t 2)),
 oc 34 (.fieldAddr 3 (.t 2)),
 oc 38 (.buildSlice 4 0 [(.int .i64 0),(.int .i64 0),(.str []),(.sl [])] []),
 oa 39 1,
 oc 31 (.load none (.t 30)),
 oc 32 (.indexAddr 4 (.t 31) (ki 0)),
 oc 33 (.load (some 4) (.t 32)),
 oc 35 (.load none (.t 34)),
 oc 36 (.indexAddr 4 (.t 35) (ki 1)),
 oc 37 (.load (some 4) (.t 36)),
 oc 40 (.appendO 4 (.t 38) (.t 39)),
 oc 41 (.call false 99 [(.t 33),(.t 37),(.t 40)]),
 oc 42 (.un .not (.t 41)),
 oc 43 (.qcall 98 [(.t 42)]),
 oa 4 43] [1,2,10,28,30,31,32,33,34,35,36,37,38,39,40,41,42,43])
 (.ret))
 (.seq (.region [oc 45 (.bin .eql (.t 10) (.k (.c (.d (.str [61,61]))))),
 oa 44 45] [28,45])
 (.cond (.t 44)
 (.seq (.region [oc 46 (.fieldAddr 3 (.t 2)),
 oc 50 (.fieldAddr 3 (.t 2)),
 oc 47 (.load none (.t 46)),
 oc 48 (.indexAddr 4 (.t 47) (ki 0)),
 oc 49 (.load (some 4) (.t 48)),
 oc 51 (.load none (.t 50)),
 oc 52 (.indexAddr 4 (.t 51) (ki 1)),
 oc 53 (.load (some 4) (.t 52)),
 oc 54 (.qcall 25 [(.t 49),(.t 53)]),
 oc 55 (.qcall 98 [(.t 54)]),
 oa 4 55] [1,2,10,44,46,47,48,49,50,51,52,53,54,55])
 (.ret))
 (.seq (.region [oc 57 (.bin .eql (.t 10) (.k (.c (.d (.str [105,115]))))),
 oa 56 57] [44,57])
 (.cond (.t 56)
 (.seq (.region [oc 59 (.fieldAddr 3 (.t 2)),
 oc 60 (.load none (.t 59)),
 oc 61 (.indexAddr 4 (.t 60) (ki 1)),
 oc 62 (.load (some 4) (.t 61)),
 oc 63 (.call false 100 [(.t 62)]),
 oa 58 63,
 oc 64 (.extract 0 (.t 58)),
 oc 65 (.extract 1 (.t 58)),
 oa 5 64,
 oa 6 65] [10,56,58,59,60,61,62,63,64,65])
 (.seq (.seq (.region [oa 66 6,
 oc 67 (.bin .neq (.t 66) (ki 0))] [66])
 (.cond (.t 67)
 (.seq (.region [oa 68 6,
 oa 4 68] [1,2,5,6,67,68])
 (.ret))
 (.skip)))
 (.seq (.region [oc 69 (.fieldAddr 3 (.t 2)),
 oa 73 5,
 oa 75 1,
 oc 70 (.load none (.t 69)),
 oc 71 (.indexAddr 4 (.t 70) (ki 0)),
 oc 72 (.load (some 4) (.t 71)),
 oc 74 (.qcall 34 [(.t 73)]),
 oc 76 (.call false 99 [(.t 72),(.t 74),(.t 75)]),
 oc 77 (.qcall 98 [(.t 76)]),
 oa 4 77] [1,2,5,6,67,69,70,71,72,73,74,75,76,77])
 (.ret))))
 (.seq (.region [oc 79 (.bin .eql (.t 10) (.k (.c (.d (.str [97,114,103]))))),
 oa 78 79] [10,56,79])
 (.cond (.t 78)
 (.seq (.region [oc 81 (.load (some 4) (.t 2)),
 oc 82 (.call false 101 [(.t 81)]),
 oa 80 82,
 oc 83 (.extract 0 (.t 80)),
 oc 84 (.extract 1 (.t 80)),
 oc 7 (.alloc [(.d (.int .i64 0)),(.d (.int .i64 0)),(.d (.str [])),(.full [])]),
 ⟨none,.store 4 (.t 7) (.t 83),none⟩,
 oa 8 84] [78,80,81,82,83,84])
 (.seq (.seq (.region [oa 85 8,
 oc 86 (.bin .neq (.t 85) (ki 0))] [85])
 (.cond (.t 86)
 (.seq (.region [oa 87 8,
 oa 4 87] [1,2,7,8,86,87])
 (.ret))
 (.skip)))
 (.seq (.region [oc 88 (.fieldAddr 3 (.t 2)),
 oa 93 1,
 oc 89 (.load none (.t 88)),
 oc 90 (.indexAddr 4 (.t 89) (ki 2)),
 oc 91 (.load (some 4) (.t 90)),
 oc 92 (.load (some 4) (.t 7)),
 oc 94 (.call false 99 [(.t 91),(.t 92),(.t 93)]),
 oc 95 (.qcall 98 [(.t 94)]),
 oa 4 95] [1,2,7,8,86,88,89,90,91,92,93,94,95])
 (.ret))))
 (.skip)))))))))))))))))
 (.seq (.seq (.region [oc 96 (.fieldAddr 2 (.t 2)),
 oc 97 (.load none (.t 96)),
 oc 98 (.qcall 102 [(.t 97)])] [1,4,78,96,97])
 (.cond (.t 98)
 (.seq (.region [oc 99 (.load (some 4) (.t 2)),
 oc 100 (.call false 103 [(.t 99)]),
 oa 4 100] [2,98,99,100])
 (.ret))
 (.skip)))
 (.seq (.region [oc 101 (.load (some 4) (.t 2)),
 oc 102 (.call false 104 [(.t 101)]),
 oa 4 102] [2,98,101,102])
 (.ret))))
theorem ac79_ok : cFunc Tryz.prog [1000025,1000034,1000098,1000102,16000038] [(0,[0,4],[]),(1,[9],[]),(2,[12],[]),(3,[1,2,10,11],[]),(4,[11,14],[]),(5,[1,2,10,13],[]),(6,[13,16],[]),(7,[1,2,10,15,17,18,19,20,21,22,23,24,25,26,27],[0,4,8,1,2,3,5,6,7,9,10,11]),(8,[15,29],[]),(9,[1,2,10,28,30,31,32,33,34,35,36,37,38,39,40,41,42,43],[0,4,8,9,1,2,3,5,6,7,10,11,12,13,14]),(10,[28,45],[]),(11,[1,2,10,44,46,47,48,49,50,51,52,53,54,55],[0,4,1,2,3,5,6,7,8,9,10]),(12,[44,57],[]),(13,[10,56,58,59,60,61,62,63,64,65],[]),(14,[66],[]),(15,[1,2,5,6,67,68],[]),(16,[1,2,5,6,67,69,70,71,72,73,74,75,76,77],[0,4,6,1,2,3,5,7,8,9]),(17,[10,56,79],[]),(18,[78,80,81,82,83,84],[]),(19,[85],[]),(20,[1,2,7,8,86,87],[]),(21,[1,2,7,8,86,88,89,90,91,92,93,94,95],[0,5,1,2,3,4,6,7,8]),(22,[1,4,78,96,97],[]),(23,[2,98,99,100],[]),(24,[2,98,101,102],[])] Tryz.f79 = some (ac79,[.tmp 4],103) := by kernel_rfl
def NumR (r : A) : Prop := ∃ m code : Int, r = .tup [.c (.d (.int .i64 m)), .c (.d (.int .i64 code))] ∧ -999 ≤ m ∧ m ≤ 999
theorem NumR.re {n : Nat} {r : A} (h : NumR r) : A.re n r = r := by
  obtain ⟨m, c, rfl, _⟩ := h
  rfl
theorem NumR.mk {m c : Int} (h : -999 ≤ m) (h' : m ≤ 999) : NumR (.tup [.c (.d (.int .i64 m)), .c (.d (.int .i64 c))]) := ⟨m, c, rfl, h, h'⟩
def IntR (r : A) : Prop := ∃ m : Int, r = .c (.d (.int .i64 m)) ∧ -999 ≤ m ∧ m ≤ 999
theorem IntR.re {n : Nat} {r : A} (h : IntR r) : A.re n r = r := by
  obtain ⟨m, rfl, _⟩ := h
  rfl
theorem IntR.mk {m : Int} (h : -999 ≤ m) (h' : m ≤ 999) : IntR (.c (.d (.int .i64 m))) := ⟨m, rfl, h, h'⟩
def BoolR (r : A) : Prop := ∃ b, r = .c (.d (.bool b))
theorem BoolR.re {n : Nat} {r : A} (h : BoolR r) : A.re n r = r := by
  obtain ⟨b, rfl⟩ := h
  rfl
theorem boolR (b : Bool) : BoolR (.c (.d (.bool b))) := ⟨b, rfl⟩
def IR (r : A) : Prop := ∃ m : Int, r = .c (.d (.int .i64 m))
theorem IR.re {n : Nat} {r : A} (h : IR r) : A.re n r = r := by
  obtain ⟨m, rfl⟩ := h
  rfl
theorem ir (m : Int) : IR (.c (.d (.int .i64 m))) := ⟨m, rfl⟩
theorem div_calls (a b : Int) (ha : -999 ≤ a ∧ a ≤ 999) (hb : -999 ≤ b ∧ b ≤ 999) (h0 : b ≠ 0) (H : Heap) : ACalls Tryz.prog 129 [.c (.d (.int .i64 a)), .c (.d (.int .i64 b))] H (fun r H' => H' = H ∧ IntR r) := by
  refine acalls Tryz.func129 (by kernel_rfl) ac129_ok fun hf => ?_
  simp -implicitDefEqProofs [ac129, hf, h0, go_sem, -List.set_cons_succ, -List.set_cons_zero]
  have h := Int.natAbs_tdiv_le_natAbs a b
  exact ⟨small_i64 (by omega) (by omega), .mk (by omega) (by omega)⟩
theorem mod_calls (a b : Int) (ha : -999 ≤ a ∧ a ≤ 999) (hb : -999 ≤ b ∧ b ≤ 999) (h0 : b ≠ 0) (H : Heap) : ACalls Tryz.prog 128 [.c (.d (.int .i64 a)), .c (.d (.int .i64 b))] H (fun r H' => H' = H ∧ IntR r) := by
  refine acalls Tryz.func128 (by kernel_rfl) ac128_ok fun hf => ?_
  simp -implicitDefEqProofs [ac128, hf, h0, go_sem, -List.set_cons_succ, -List.set_cons_zero]
  have h : (a.tmod b).natAbs < b.natAbs := by rw [Int.natAbs_tmod]; exact Nat.mod_lt _ (by omega)
  exact ⟨fun h1 h2 => ⟨small_i64 (by omega) (by omega), .mk (by omega) (by omega)⟩, fun _ => .mk (by omega) (by omega)⟩
theorem ranged_calls (a : Int) (H : Heap) : ACalls Tryz.prog 127 [.c (.d (.int .i64 a))] H (fun r H' => H' = H ∧ NumR r) := by
  refine acalls Tryz.func127 (by kernel_rfl) ac127_ok fun hf => ?_
  simp -implicitDefEqProofs [ac127, hf, go_sem, -List.set_cons_succ, -List.set_cons_zero]
  exact ⟨fun _ => .mk (by omega) (by omega), fun h1 h2 => .mk h1 h2⟩
theorem op_calls (s : List UInt8) (a b : Int) (ha : -999 ≤ a ∧ a ≤ 999) (hb : -999 ≤ b ∧ b ≤ 999) (H : Heap) : ACalls Tryz.prog 115 [.c (.d (.str s)), .c (.d (.int .i64 a)), .c (.d (.int .i64 b))] H (fun r H' => H' = H ∧ NumR r) := by
  refine acalls Tryz.func115 (by kernel_rfl) ac115_ok fun hf => ?_
  simp -implicitDefEqProofs [ac115, hf, go_sem, -List.set_cons_succ, -List.set_cons_zero]
  have hm : (a * b).natAbs ≤ 999 * 999 := by rw [Int.natAbs_mul]; exact Nat.mul_le_mul (by omega) (by omega)
  have cr := fun m (H₂ : Heap) K sl hH => @call_some Tryz.prog 127 [.c (.d (.int .i64 m))] sl H [] H₂ K NumR (ranged_calls m H₂) hH (fun r hr => hr.re) hf
  refine ⟨fun _ => ⟨small_i64 (by omega) (by omega), cr _ _ _ _ (by simp) ?_⟩, fun _ => ⟨fun _ => ⟨small_i64 (by omega) (by omega), cr _ _ _ _ (by simp) ?_⟩, fun _ => ⟨fun _ => ⟨small_i64 (by omega) (by omega), cr _ _ _ _ (by simp) ?_⟩, fun _ => ⟨fun _ => .mk (by omega) (by omega), fun h0 => ⟨fun _ => ?_, fun _ => ?_⟩⟩⟩⟩⟩
  · rintro r ⟨m, c, rfl, h1, h2⟩
    simp -implicitDefEqProofs [hf, go_sem, -List.set_cons_succ, -List.set_cons_zero]
    exact .mk h1 h2
  · rintro r ⟨m, c, rfl, h1, h2⟩
    simp -implicitDefEqProofs [hf, go_sem, -List.set_cons_succ, -List.set_cons_zero]
    exact .mk h1 h2
  · rintro r ⟨m, c, rfl, h1, h2⟩
    simp -implicitDefEqProofs [hf, go_sem, -List.set_cons_succ, -List.set_cons_zero]
    exact .mk h1 h2
  · refine call_some (mod_calls a b ha hb h0 _) (by simp) (fun r hr => hr.re) hf ?_
    rintro r ⟨m, rfl, h1, h2⟩
    simp -implicitDefEqProofs [hf, go_sem, -List.set_cons_succ, -List.set_cons_zero]
    exact .mk h1 h2
  · refine call_some (div_calls a b ha hb h0 _) (by simp) (fun r hr => hr.re) hf ?_
    rintro r ⟨m, rfl, h1, h2⟩
    simp -implicitDefEqProofs [hf, go_sem, -List.set_cons_succ, -List.set_cons_zero]
    exact .mk h1 h2
theorem arith_calls {N : Nat} (hN : N ≤ 100000) : ∀ t : Tm, Tn N t → ∀ H, ACalls Tryz.prog 100 [.agg (t.row.map .d)] H (fun r H' => H' = H ∧ NumR r) := by
  refine Tm.ind fun k n s l ih ht H => ?_
  have hl4 : l.length ≤ 4 := ht.kids.1
  have hk4 : ∀ x ∈ l, Tn N x := ht.kids.2
  have hli : inR .i64 (l.length : Int) := small_i64 (by omega) (by omega)
  have hint : k = 2 → -999 ≤ n ∧ n ≤ 999 := fun e => by
    cases ht with
    | var _ _ => cases e
    | int h _ _ _ => exact h
    | str _ _ _ _ => cases e
  refine acalls Tryz.func100 (by kernel_rfl) ac100_ok fun hf => ?_
  simp -implicitDefEqProofs [ac100, row_mk, row_len, hf, hli, go_sem, -List.set_cons_succ, -List.set_cons_zero]
  refine ⟨fun _ => .mk (by omega) (by omega), fun _ => ⟨fun e => .mk (hint e).1 (hint e).2, fun _ => ?_⟩⟩
  refine qcall_pure (level_calls s) hf rfl ?_
  simp -implicitDefEqProofs [row_mk, row_len, hf, hli, go_sem, -List.set_cons_succ, -List.set_cons_zero]
  refine ⟨fun _ => .mk (by omega) (by omega), fun h2 _ => ?_⟩
  have h2 : l.length = 2 := by omega
  obtain ⟨x, y, rfl⟩ : ∃ x y, l = [x, y] := by
    match l, h2 with
    | [x, y], _ => exact ⟨x, y, rfl⟩
  refine row_nat (i := 0) x.row (by simp) (row_len _) ?_
  simp -implicitDefEqProofs [row_len, take_row, drop_row4, pure_d, re_d, hf, go_sem, -List.set_cons_succ, -List.set_cons_zero]
  refine call_some (ih x (by simp) (hk4 x (by simp)) _) (by first | rfl | simp [Ob.re, C.re, Ref.re, re_d]) (fun r hr => hr.re) hf ?_
  rintro r ⟨a, c, rfl, a1, a2⟩
  simp -implicitDefEqProofs [hf, go_sem, -List.set_cons_succ, -List.set_cons_zero]
  refine ⟨fun _ => .mk (by omega) (by omega), fun _ => ?_⟩
  refine row_nat (i := 1) y.row (by simp) (row_len _) ?_
  simp -implicitDefEqProofs [row_len, take_row, drop_row4, pure_d, re_d, hf, go_sem, -List.set_cons_succ, -List.set_cons_zero]
  refine call_some (ih y (by simp) (hk4 y (by simp)) _) (by first | rfl | simp [Ob.re, C.re, Ref.re, re_d]) (fun r hr => hr.re) hf ?_
  rintro r ⟨b, c2, rfl, b1, b2⟩
  simp -implicitDefEqProofs [hf, go_sem, -List.set_cons_succ, -List.set_cons_zero]
  refine ⟨fun _ => .mk (by omega) (by omega), fun _ => ?_⟩
  refine call_some (op_calls s a b ⟨a1, a2⟩ ⟨b1, b2⟩ _) (by first | rfl | simp [Ob.re, C.re, Ref.re, re_d]) (fun r hr => hr.re) hf ?_
  rintro r ⟨m, c3, rfl, m1, m2⟩
  simp -implicitDefEqProofs [hf, go_sem, -List.set_cons_succ, -List.set_cons_zero]
  exact .mk m1 m2
theorem holds_calls (s : List UInt8) (a b : Int) (H : Heap) : ACalls Tryz.prog 116 [.c (.d (.str s)), .c (.d (.int .i64 a)), .c (.d (.int .i64 b))] H (fun r H' => H' = H ∧ BoolR r) := by
  refine acalls Tryz.func116 (by kernel_rfl) ac116_ok fun hf => ?_
  simp -implicitDefEqProofs [ac116, hf, go_sem, -List.set_cons_succ, -List.set_cons_zero]
  (repeat' (first | (refine And.intro ?_ ?_) | intro _)) <;> exact boolR _
theorem code_calls (b : Bool) (H : Heap) : ACalls Tryz.prog 98 [.c (.d (.bool b))] H (fun r H' => H' = H ∧ r = .c (.d (.int .i64 (if b = true then 0 else 1)))) := by
  refine acalls Tryz.func98 (by kernel_rfl) ac98_ok fun hf => ?_
  cases b <;> simp -implicitDefEqProofs [ac98, hf, go_sem, -List.set_cons_succ, -List.set_cons_zero]
theorem compares_calls (s : List UInt8) (H : Heap) : ACalls Tryz.prog 102 [.c (.d (.str s))] H (fun r H' => H' = H ∧ r = .c (.d (.bool ([[60], [62], [61, 60], [62, 61], [61, 58, 61]].contains s)))) := by
  refine acalls Tryz.func102 (by kernel_rfl) ac102_ok fun hf => ?_
  simp -implicitDefEqProofs [ac102, hf, go_sem, -List.set_cons_succ, -List.set_cons_zero]
  rw [Bool.eq_iff_iff]
  simp [or_assoc]
theorem two_of {l : List Tm} (h : l.length = 2) : ∃ x y, l = [x, y] := by
  match l, h with
  | [x, y], _ => exact ⟨x, y, rfl⟩
theorem one_of {l : List Tm} (h : l.length = 1) : ∃ x, l = [x] := by
  match l, h with
  | [x], _ => exact ⟨x, rfl⟩
theorem three_of {l : List Tm} (h : l.length = 3) : ∃ x y z, l = [x, y, z] := by
  match l, h with
  | [x, y, z], _ => exact ⟨x, y, z, rfl⟩
theorem compare_calls {N : Nat} (hN : N ≤ 100000) (k n : Int) (s : List UInt8) (x y : Tm) (hx : Tn N x) (hy : Tn N y) (H : Heap) : ACalls Tryz.prog 103 [.agg ((Tm.mk k n s [x, y]).row.map .d)] H (fun r H' => H' = H ∧ IR r) := by
  refine acalls Tryz.func103 (by kernel_rfl) ac103_ok fun hf => ?_
  simp -implicitDefEqProofs [ac103, row_mk, row_len, hf, go_sem, -List.set_cons_succ, -List.set_cons_zero]
  refine row_nat (i := 0) x.row (by simp) (row_len _) ?_
  simp -implicitDefEqProofs [row_len, take_row, drop_row4, pure_d, re_d, hf, go_sem, -List.set_cons_succ, -List.set_cons_zero]
  refine call_some (arith_calls hN x hx _) (by first | rfl | simp [Ob.re, C.re, Ref.re, re_d]) (fun r hr => hr.re) hf ?_
  rintro r ⟨a, c, rfl, a1, a2⟩
  simp -implicitDefEqProofs [hf, go_sem, -List.set_cons_succ, -List.set_cons_zero]
  refine ⟨fun _ => ir _, fun _ => ?_⟩
  refine row_nat (i := 1) y.row (by simp) (row_len _) ?_
  simp -implicitDefEqProofs [row_len, take_row, drop_row4, pure_d, re_d, hf, go_sem, -List.set_cons_succ, -List.set_cons_zero]
  refine call_some (arith_calls hN y hy _) (by first | rfl | simp [Ob.re, C.re, Ref.re, re_d]) (fun r hr => hr.re) hf ?_
  rintro r ⟨b, c2, rfl, b1, b2⟩
  simp -implicitDefEqProofs [hf, go_sem, -List.set_cons_succ, -List.set_cons_zero]
  refine ⟨fun _ => ir _, fun _ => ?_⟩
  refine call_some (holds_calls s a b _) (by first | rfl | simp [Ob.re, C.re, Ref.re, re_d]) (fun r hr => hr.re) hf ?_
  rintro r ⟨x, rfl⟩
  simp -implicitDefEqProofs [hf, go_sem, -List.set_cons_succ, -List.set_cons_zero]
  refine qcall_pure (code_calls x) hf rfl ?_
  simp -implicitDefEqProofs [hf, go_sem, -List.set_cons_succ, -List.set_cons_zero]
  exact ir _
theorem test_calls (k n : Int) (s : List UInt8) (x : Tm) (hx : x.kids.length ≤ 4) (H : Heap) : ACalls Tryz.prog 104 [.agg ((Tm.mk k n s [x]).row.map .d)] H (fun r H' => H' = H ∧ IR r) := by
  refine acalls Tryz.func104 (by kernel_rfl) ac104_ok fun hf => ?_
  obtain ⟨k2, n2, s2, l2⟩ := x
  have hl : l2.length ≤ 4 := hx
  have hli : inR .i64 (l2.length : Int) := small_i64 (by omega) (by omega)
  simp -implicitDefEqProofs [ac104, row_mk, row_len, hf, go_sem, -List.set_cons_succ, -List.set_cons_zero]
  refine row_nat (i := 0) [.int .i64 k2, .int .i64 n2, .str s2, .sl (l2.map Tm.row)] (by simp) rfl ?_
  simp -implicitDefEqProofs [row_len, take_row, drop_row4, pure_d, re_d, hf, hli, go_sem, -List.set_cons_succ, -List.set_cons_zero]
  refine ⟨fun _ => ?_, fun _ => ⟨fun _ => ?_, fun _ => ⟨fun _ => ?_, fun _ => ?_⟩⟩⟩ <;>
    (refine qcall_pure (code_calls _) hf rfl ?_
     simp -implicitDefEqProofs [hf, go_sem, -List.set_cons_succ, -List.set_cons_zero]
     exact ir _)
/-- a term and a code; the term is good where the code is 0 -/
def TmC (N : Nat) (r : A) : Prop := ∃ (u : Tm) (code : Int), r = .tup [.agg (u.row.map .d), .c (.d (.int .i64 code))] ∧ (code = 0 → Tz N u)
theorem TmC.re {N n : Nat} {r : A} (h : TmC N r) : A.re n r = r := by
  obtain ⟨u, c, rfl, _⟩ := h
  simp [A.re, A.res, C.re, re_d]
theorem TmC.zero {N : Nat} {c : Int} (h : c ≠ 0) : TmC N (.tup [.agg [.d (.int .i64 0), .d (.int .i64 0), .d (.str []), .d (.sl [])], .c (.d (.int .i64 c))]) := ⟨.mk 0 0 [] [], c, by simp [row_mk], fun e => absurd e h⟩
theorem arg_calls {N : Nat} (hN : N ≤ 100000) (k n : Int) (s : List UInt8) (x y z : Tm) (hx : Tz N x) (hy : Tz N y) (H : Heap) : ACalls Tryz.prog 101 [.agg ((Tm.mk k n s [x, y, z]).row.map .d)] H (fun r H' => H' = H ∧ TmC N r) := by
  refine acalls Tryz.func101 (by kernel_rfl) ac101_ok fun hf => ?_
  obtain ⟨k1, n1, s1, l1⟩ := x
  obtain ⟨k2, n2, s2, l2⟩ := y
  have hl : l2.length ≤ 4 := hy.1.kids.1
  have hli : inR .i64 (l2.length : Int) := small_i64 (by omega) (by omega)
  simp -implicitDefEqProofs [ac101, row_mk, row_len, hf, go_sem, -List.set_cons_succ, -List.set_cons_zero]
  refine row_nat (i := 0) [.int .i64 k1, .int .i64 n1, .str s1, .sl (l1.map Tm.row)] (by simp) rfl ?_
  simp -implicitDefEqProofs [row_len, take_row, drop_row4, pure_d, re_d, hf, hli, go_sem, -List.set_cons_succ, -List.set_cons_zero]
  refine row_nat (i := 1) [.int .i64 k2, .int .i64 n2, .str s2, .sl (l2.map Tm.row)] (by simp) rfl ?_
  simp -implicitDefEqProofs [row_len, take_row, drop_row4, pure_d, re_d, hf, hli, go_sem, -List.set_cons_succ, -List.set_cons_zero]
  refine ⟨fun _ => TmC.zero (by decide), fun _ _ => ⟨fun _ => TmC.zero (by decide), fun _ _ _ => ⟨fun _ => TmC.zero (by decide), fun h1 h2 => ⟨small_i64 (by omega) (by omega), ?_⟩⟩⟩⟩
  have hlt : (n1 - 1).toNat < l2.length := by omega
  have hrow : (l2.map Tm.row)[(n1 - 1).toNat]? = some (l2[(n1 - 1).toNat]).row := by rw [List.getElem?_map, List.getElem?_eq_getElem hlt]; rfl
  have hmem : Tz N l2[(n1 - 1).toNat] := hy.kid (List.getElem_mem hlt)
  generalize l2[(n1 - 1).toNat] = u at hrow hmem
  obtain ⟨k4, n4, s4, l4⟩ := u
  refine row_int _ (by omega) hrow (row_len _) ?_
  simp -implicitDefEqProofs [row_mk, row_len, take_row, drop_row4, pure_d, re_d, hf, hli, go_sem, -List.set_cons_succ, -List.set_cons_zero]
  exact ⟨.mk k4 n4 s4 l4, 0, by simp [row_mk], fun _ => hmem⟩
/-- unification on an own store -/
theorem call_pkL {N : Nat} {L : List Tm} {x y : Tm} (hc : Un N L x y) {ext : Heap} {j : Nat} {sl : List A} {loc H₂ : Heap} {K : A → St → Prop} (hj : loc[j]? = some (stO L)) (hf : Obs.fits ext.length 0 ext) (hH : H₂ = ext ++ loc.map (Ob.re ext.length))
    (hk : K (.c (.d (.bool (pk N L x y).1))) ⟨sl, ext, loc.set j (stO (pk N L x y).2)⟩) : ACalls Tryz.prog 99 [.agg (x.row.map .d), .agg (y.row.map .d), .c (.fsl (.e (ext.length + j)) N 4)] H₂ (CallK K ⟨sl, ext, loc⟩) := by
  subst hH
  refine ((pk_spec hc).2 _ (ext.length + j) (by rw [List.getElem?_append_right (by omega), Nat.add_sub_cancel_left, List.getElem?_map, hj]; rfl)).mono fun r H' ⟨h1, h3⟩ => ?_
  refine ⟨ext, loc.set j (stO (pk N L x y).2), _, ?_, rfl, by simp, hf, by rw [h1]; rfl, hk⟩
  rw [h3, List.set_append_right _ _ (by omega), Nat.add_sub_cancel_left, List.map_set]
  rfl
theorem call_unL {N : Nat} {L : List Tm} {x y : Tm} (hc : Un N L x y) {ext : Heap} {j : Nat} {sl : List A} {loc H₂ : Heap} {K : A → St → Prop} (hj : loc[j]? = some (stO L)) (hf : Obs.fits ext.length 0 ext) (hH : H₂ = ext ++ loc.map (Ob.re ext.length))
    (hk : ∀ bo L', Nx N L L' → K (.c (.d (.bool bo))) ⟨sl, ext, loc.set j (stO L')⟩) : ACalls Tryz.prog 99 [.agg (x.row.map .d), .agg (y.row.map .d), .c (.fsl (.e (ext.length + j)) N 4)] H₂ (CallK K ⟨sl, ext, loc⟩) :=
  call_pkL hc hj hf hH (hk _ _ (pk_spec hc).1)
/-- a code, and the store behind it -/
def SolveR (N : Nat) (L : List Tm) (H : Heap) (i : Nat) (r : A) (H' : Heap) : Prop := ∃ code L', r = .c (.d (.int .i64 code)) ∧ Nx N L L' ∧ H' = H.set i (stO L')
set_option maxHeartbeats 3200000 in
theorem solve_calls {N : Nat} {L : List Tm} (hN0 : 0 < N) (hN : N ≤ 100000) (hL : Sok N L) (g : Tm) (hg : Tz N g) (hb : builtB g.s g.kids.length = true) (H : Heap) (i : Nat) (hi : H[i]? = some (stO L)) :
    ACalls Tryz.prog 79 [.agg (g.row.map .d), .c (.fsl (.e i) N 4)] H (fun r H' => SolveR N L H i r H') := by
  refine acalls Tryz.func79 (by kernel_rfl) ac79_ok fun hf => ?_
  obtain ⟨k, n, s, l⟩ := g
  have hl4 : l.length ≤ 4 := hg.1.kids.1
  have hkid : ∀ x ∈ l, Tz N x := fun x hx => hg.kid hx
  have hb : builtB s l.length = true := hb
  simp -implicitDefEqProofs [ac79, row_mk, row_len, hf, go_sem, -List.set_cons_succ, -List.set_cons_zero]
  have same : ∀ code, SolveR N L H i (.c (.d (.int .i64 code))) H := fun code => ⟨code, L, rfl, Nx.refl hL, (set_self hi).symm⟩
  have hilt : i < H.length := (List.getElem?_eq_some_iff.1 hi).1
  have hfs : ∀ L', Obs.fits (H.set i (stO L')).length 0 (H.set i (stO L')) := fun L' => by rw [List.length_set]; exact Obs_fits_set hf trivial
  have hfs0 : ∀ L', Obs.fits H.length 0 (H.set i (stO L')) := fun L' => Obs_fits_set hf trivial
  have un := fun (x y : Tm) (hx : x ∈ l) (hy : Tz N y) => un_all hN hL x y (hkid x hx) hy
  refine ⟨fun _ => same _, fun n1 => ⟨fun _ => same _, fun n2 => ⟨fun e => ?_, fun n3 => ⟨fun e => ?_, fun n4 => ⟨fun e => ?_, fun n5 => ⟨fun e => ?_, fun n6 => ⟨fun e => ?_, fun n7 => ?_⟩⟩⟩⟩⟩⟩⟩
  · subst e
    obtain ⟨x, y, rfl⟩ := two_of (l := l) (Int.ofNat_inj.1 (by simpa [builtB, ops3] using hb))
    refine row_nat (i := 0) x.row (by simp) (row_len _) ?_
    simp -implicitDefEqProofs [row_len, take_row, drop_row4, pure_d, re_d, hf, go_sem, -List.set_cons_succ, -List.set_cons_zero]
    refine row_nat (i := 1) y.row (by simp) (row_len _) ?_
    simp -implicitDefEqProofs [row_len, take_row, drop_row4, pure_d, re_d, hf, go_sem, -List.set_cons_succ, -List.set_cons_zero]
    refine call_un (un x y (by simp) (hkid y (by simp))) hi hf (by first | rfl | simp [Ob.re, C.re, re_d]) fun bo L' hx => ?_
    simp -implicitDefEqProofs [hf, go_sem, -List.set_cons_succ, -List.set_cons_zero]
    refine qcall_pure (code_calls bo) (hfs L') rfl ?_
    simp -implicitDefEqProofs [hf, hfs0, go_sem, -List.set_cons_succ, -List.set_cons_zero]
    exact ⟨_, L', rfl, hx, rfl⟩
  · subst e
    obtain ⟨x, y, rfl⟩ := two_of (l := l) (Int.ofNat_inj.1 (by simpa [builtB, ops3] using hb))
    have hlen := hL.len
    have hi2 : H[i]? = some (.rows (L.map Tm.row)) := hi
    refine row_nat (i := 0) x.row (by simp) (row_len _) ?_
    simp -implicitDefEqProofs [row_len, take_row, drop_row4, pure_d, re_d, hf, go_sem, -List.set_cons_succ, -List.set_cons_zero]
    refine row_nat (i := 1) y.row (by simp) (row_len _) ?_
    simp -implicitDefEqProofs [row_len, take_row, drop_row4, pure_d, re_d, hf, hi2, hlen, go_sem, -List.set_cons_succ, -List.set_cons_zero]
    refine ⟨by unfold maxApp; omega, fun h => absurd hlen (by rw [h]; simp; omega), fun _ => ?_⟩
    refine call_unL (j := 1) (un x y (by simp) (hkid y (by simp))) rfl hf (by first | rfl | simp [Ob.re, C.re, re_d]) fun bo L' hx => ?_
    simp -implicitDefEqProofs [hf, go_sem, -List.set_cons_succ, -List.set_cons_zero]
    refine qcall_pure (code_calls (!bo)) hf rfl ?_
    simp -implicitDefEqProofs [hf, go_sem, -List.set_cons_succ, -List.set_cons_zero]
    exact same _
  · subst e
    obtain ⟨x, y, rfl⟩ := two_of (l := l) (Int.ofNat_inj.1 (by simpa [builtB, ops3] using hb))
    refine row_nat (i := 0) x.row (by simp) (row_len _) ?_
    simp -implicitDefEqProofs [row_len, take_row, drop_row4, pure_d, re_d, hf, go_sem, -List.set_cons_succ, -List.set_cons_zero]
    refine row_nat (i := 1) y.row (by simp) (row_len _) ?_
    simp -implicitDefEqProofs [row_len, take_row, drop_row4, pure_d, re_d, hf, go_sem, -List.set_cons_succ, -List.set_cons_zero]
    refine qcall_pure (fun H => sameSpec_calls x ((hkid x (by simp)).1.fits (by omega)) y ((hkid y (by simp)).1.fits (by omega)) H) hf rfl ?_
    simp -implicitDefEqProofs [hf, go_sem, -List.set_cons_succ, -List.set_cons_zero]
    refine qcall_pure (code_calls _) hf rfl ?_
    simp -implicitDefEqProofs [hf, go_sem, -List.set_cons_succ, -List.set_cons_zero]
    exact same _
  · subst e
    obtain ⟨x, y, rfl⟩ := two_of (l := l) (Int.ofNat_inj.1 (by simpa [builtB, ops3] using hb))
    refine row_nat (i := 1) y.row (by simp) (row_len _) ?_
    simp -implicitDefEqProofs [row_len, take_row, drop_row4, pure_d, re_d, hf, go_sem, -List.set_cons_succ, -List.set_cons_zero]
    refine call_some (arith_calls hN y (hkid y (by simp)).1 _) (by first | rfl | simp [Ob.re, C.re, Ref.re, re_d]) (fun r hr => hr.re) hf ?_
    rintro r ⟨a, c, rfl, a1, a2⟩
    simp -implicitDefEqProofs [hf, go_sem, -List.set_cons_succ, -List.set_cons_zero]
    refine ⟨fun _ => same _, fun _ => ?_⟩
    refine row_nat (i := 0) x.row (by simp) (row_len _) ?_
    simp -implicitDefEqProofs [row_len, take_row, drop_row4, pure_d, re_d, hf, go_sem, -List.set_cons_succ, -List.set_cons_zero]
    refine qcall_pure (int_calls a) hf (by simp [A.re, re_d]) ?_
    simp -implicitDefEqProofs [row_len, take_row, drop_row4, pure_d, re_d, hf, go_sem, -List.set_cons_succ, -List.set_cons_zero]
    refine call_un (un x (.mk 2 a [] []) (by simp) ⟨.int ⟨a1, a2⟩ (by simp) (by simp) (by simp), by rw [sub_mk, cnt_nil]; omega⟩) hi hf (by first | rfl | simp [Ob.re, C.re, re_d]) fun bo L' hx => ?_
    simp -implicitDefEqProofs [hf, go_sem, -List.set_cons_succ, -List.set_cons_zero]
    refine qcall_pure (code_calls bo) (hfs L') rfl ?_
    simp -implicitDefEqProofs [hf, hfs0, go_sem, -List.set_cons_succ, -List.set_cons_zero]
    exact ⟨_, L', rfl, hx, rfl⟩
  · subst e
    obtain ⟨x, y, z, rfl⟩ := three_of (l := l) (Int.ofNat_inj.1 (by simpa [builtB, ops3] using hb))
    have ca := arg_calls hN k n [97, 114, 103] x y z (hkid x (by simp)) (hkid y (by simp))
    simp only [row_mk, List.map_cons, List.map_nil] at ca
    refine call_some (ca _) (by first | rfl | simp [Ob.re, C.re, Ref.re, re_d]) (fun r hr => hr.re) hf ?_
    rintro r ⟨u, c, rfl, hu⟩
    simp -implicitDefEqProofs [row_len, take_row, drop_row4, pure_d, re_d, hf, go_sem, -List.set_cons_succ, -List.set_cons_zero]
    refine ⟨fun _ => same _, fun hc => ?_⟩
    obtain ⟨uk, un', us, ul⟩ := u
    have hu := hu hc
    refine row_nat (i := 2) z.row (by simp) (row_len _) ?_
    simp -implicitDefEqProofs [row_mk, row_len, take_row, drop_row4, pure_d, re_d, hf, go_sem, -List.set_cons_succ, -List.set_cons_zero]
    have cu := @call_un N L _ _ (un z (.mk uk un' us ul) (by simp) hu)
    simp only [row_mk, List.map_cons, List.map_nil] at cu
    refine cu hi hf (by first | rfl | simp [Ob.re, C.re, re_d]) fun bo L' hx => ?_
    simp -implicitDefEqProofs [hf, go_sem, -List.set_cons_succ, -List.set_cons_zero]
    refine qcall_pure (code_calls bo) (hfs L') rfl ?_
    simp -implicitDefEqProofs [hf, hfs0, go_sem, -List.set_cons_succ, -List.set_cons_zero]
    exact ⟨_, L', rfl, hx, rfl⟩
  · refine qcall_pure (compares_calls s) hf rfl ?_
    simp -implicitDefEqProofs [row_mk, row_len, hf, go_sem, -List.set_cons_succ, -List.set_cons_zero]
    refine ⟨fun hs => ?_, fun m1 m2 m3 m4 m5 => ?_⟩
    · have h2 : l.length = 2 := by
        rcases hs with rfl | rfl | rfl | rfl | rfl <;> exact Int.ofNat_inj.1 (by simpa [builtB, ops3] using hb)
      obtain ⟨x, y, rfl⟩ := two_of h2
      have cc := compare_calls hN k n s x y (hkid x (by simp)).1 (hkid y (by simp)).1
      simp only [row_mk] at cc
      refine call_some (cc _) (by first | rfl | simp [Ob.re, C.re, Ref.re, re_d]) (fun r hr => hr.re) hf ?_
      rintro r ⟨m, rfl⟩
      simp -implicitDefEqProofs [hf, go_sem, -List.set_cons_succ, -List.set_cons_zero]
      exact same _
    · have h1 : l.length = 1 := by
        have h : ((l.length : Nat) : Int) = 1 := by
          simp [builtB, ops3, n1, n2, n3, n4, n5, n6, n7, m1, m2, m3, m4, m5] at hb
          exact hb.2
        omega
      obtain ⟨x, rfl⟩ := one_of h1
      have cc := test_calls k n s x (hkid x (by simp)).1.kids.1
      simp only [row_mk] at cc
      refine call_some (cc _) (by first | rfl | simp [Ob.re, C.re, Ref.re, re_d]) (fun r hr => hr.re) hf ?_
      rintro r ⟨m, rfl⟩
      simp -implicitDefEqProofs [hf, go_sem, -List.set_cons_succ, -List.set_cons_zero]
      exact same _
end Sv
namespace Sv
-- 82 loop.example/prologserver/spec.l6Try params 3 ntmps 91
-- loop head live: [0,4,5,6,8]
def ac82 : Cd := .seq (.region [oc 4 (.box (.t 1)),
 oc 5 (.box (.t 2)),
 oc 6 (.alloc [(.full []),(.full []),(.full [])]),
 oc 7 (.mv (.k (.c (.d (.bool false)))))] [1,2,7])
 (.seq (.seq (.region [oc 8 (.mv (ki 0))] [])
 (.block 0 (.loop (.seq (.seq (.region [oa 15 8,
 oc 16 (.fieldAddr 5 (.t 5)),
 oc 17 (.load none (.t 16)),
 oc 18 (.len 1 (.t 17)),
 oc 19 (.bin .lss (.t 15) (.t 18))] [15,16,17,18])
 (.cond (.t 19)
 (.skip)
 (.exit 0)))
 (.seq (.block 1 (.seq (.region [oa 22 0,
 oc 23 (.fieldAddr 5 (.t 5)),
 oc 24 (.load none (.t 23)),
 oa 25 8,
 oc 26 (.indexAddr 1 (.t 24) (.t 25)),
 oc 27 (.load none (.t 26)),
 oc 28 (.indexAddr 5 (.t 22) (.t 27)),
 oc 29 (.load (some 5) (.t 28)),
 oc 9 (.alloc [(.d (.int .i64 0)),(.d (.int .i64 0)),(.d (.str [])),(.full []),(.full [])]),
 ⟨none,.store 5 (.t 9) (.t 29),none⟩] [19,22,23,24,25,26,27,28,29])
 (.seq (.region [oc 30 (.fieldAddr 6 (.t 5)),
 oc 31 (.load none (.t 30)),
 oc 32 (.len 1 (.t 31)),
 oa 10 32] [30,31,32])
 (.seq (.region [oc 33 (.buildSlice 4 0 [(.int .i64 0),(.int .i64 0),(.str []),(.sl [])] []),
 oc 34 (.fieldAddr 6 (.t 5)),
 oc 35 (.load none (.t 34)),
 oc 37 (.load (some 5) (.t 9)),
 oc 36 (.appendP [(.int .i64 0),(.int .i64 0),(.str []),(.sl [])] (.t 33) (.t 35)),
 oc 38 (.qcall 105 [(.t 37)]),
 oc 39 (.appendZ [(.int .i64 0),(.int .i64 0),(.str []),(.sl [])] (.t 36) (.t 38)),
 oa 11 39] [33,34,35,36,37,38,39])
 (.seq (.seq (.weak (.region [oc 40 (.fieldAddr 0 (.t 5)),
 oc 42 (.fieldAddr 0 (.t 9)),
 oa 44 10,
 oa 46 11,
 oc 41 (.load (some 4) (.t 40)),
 oc 43 (.load (some 4) (.t 42)),
 oc 45 (.qcall 94 [(.t 43),(.t 44)]),
 oc 47 (.call false 99 [(.t 41),(.t 45),(.t 46)]),
 oc 48 (.un .not (.t 47))] [40,41,42,43,44,45,46,47]))
 (.cond (.t 48)
 (.exit 1)
 (.skip)))
 (.seq (.weak (.region [oc 49 (.fieldAddr 2 (.t 4)),
 oc 50 (.load none (.t 49)),
 oc 51 (.len 1 (.t 50)),
 oa 12 51] [0,48,49,50,51]))
 (.seq (.region [oa 52 11,
 oc 53 (.fieldAddr 2 (.t 4)),
 oc 55 (.fieldAddr 4 (.t 9)),
 oa 57 10,
 oa 58 12,
 oc 59 (.fieldAddr 4 (.t 5)),
 oc 54 (.load none (.t 53)),
 oc 56 (.load none (.t 55)),
 oc 60 (.load none (.t 59)),
 oc 61 (.qcall 74 [(.t 56),(.t 57),(.t 58),(.t 60)]),
 oc 62 (.build [(.full []),(.full []),(.full [])] [(1,1,(.t 52)),(2,1,(.t 54)),(0,1,(.t 61))]),
 oc 13 (.alloc [(.full []),(.full []),(.full [])]),
 ⟨none,.store 3 (.t 13) (.t 62),none⟩] [9,10,11,12,52,53,54,55,56,57,58,59,60,61,62])
 (.seq (.seq (.region [oa 63 8,
 oc 64 (.bin .add (.t 63) (ki 1)),
 oc 65 (.fieldAddr 5 (.t 5)),
 oc 66 (.load none (.t 65)),
 oc 67 (.len 1 (.t 66)),
 oc 68 (.bin .lss (.t 64) (.t 67))] [63,64,65,66,67])
 (.cond (.t 68)
 (.seq (.region [oc 69 (.fieldAddr 0 (.t 5)),
 oc 71 (.fieldAddr 4 (.t 5)),
 oc 73 (.fieldAddr 5 (.t 5)),
 oa 75 8,
 oc 76 (.bin .add (.t 75) (ki 1)),
 oc 78 (.fieldAddr 6 (.t 5)),
 oc 70 (.load (some 4) (.t 69)),
 oc 72 (.load none (.t 71)),
 oc 74 (.load none (.t 73)),
 oc 77 (.slice 1 (.t 74) (some (.t 76)) none none),
 oc 79 (.load none (.t 78)),
 oc 80 (.build [(.d (.int .i64 0)),(.d (.int .i64 0)),(.d (.str [])),(.full []),(.full []),(.full []),(.full [])] [(0,4,(.t 70)),(4,1,(.t 72)),(5,1,(.t 77)),(6,1,(.t 79))]),
 oc 14 (.alloc [(.d (.int .i64 0)),(.d (.int .i64 0)),(.d (.str [])),(.full []),(.full []),(.full []),(.full [])]),
 ⟨none,.store 7 (.t 14) (.t 80),none⟩] [5,8,68,69,70,71,72,73,74,75,76,77,78,79,80])
 (.region [oc 81 (.buildSlice 7 0 [(.int .i64 0),(.int .i64 0),(.str []),(.sl []),(.sl []),(.sl []),(.sl [])] []),
 oc 82 (.fieldAddr 2 (.t 4)),
 oc 83 (.load none (.t 82)),
 oc 85 (.load (some 7) (.t 14)),
 oc 86 (.buildSlice 7 1 [(.int .i64 0),(.int .i64 0),(.str []),(.sl []),(.sl []),(.sl []),(.sl [])] [(0,(.t 85))]),
 oc 84 (.append false 7 (.t 81) (.t 83)),
 oc 87 (.append false 7 (.t 84) (.t 86)),
 oc 88 (.fieldAddr 2 (.t 13)),
 ⟨none,.store 1 (.t 88) (.t 87),none⟩] [4,14,81,82,83,84,85,86,87,88]))
 (.skip)))
 (.seq (.region [oc 89 (.load (some 3) (.t 13)),
 ⟨none,.store 3 (.t 6) (.t 89),none⟩,
 oc 7 (.mv (.k (.c (.d (.bool true)))))] [4,5,8,13,68,89])
 (.ret))))))))))
 (.region [oa 20 8,
 oc 21 (.bin .add (.t 20) (ki 1)),
 oa 8 21] [7,20,21]))))))
 (.seq (.region [oc 90 (.load (some 3) (.t 4)),
 ⟨none,.store 3 (.t 6) (.t 90),none⟩,
 oc 7 (.mv (.k (.c (.d (.bool false)))))] [4,90])
 (.ret)))
theorem ac82_ok : cFunc Tryz.prog [1000074,1000094,1000105,15000033,4000007,4000008] [(0,[1,2,7],[]),(1,[],[]),(2,[15,16,17,18],[]),(4,[19,22,23,24,25,26,27,28,29],[]),(5,[30,31,32],[]),(6,[33,34,35,36,37,38,39],[0,1,2,4,3,5,6,7]),(7,[40,41,42,43,44,45,46,47],[0,2,4,6,1,3,5,7,8]),(8,[0,48,49,50,51],[]),(9,[9,10,11,12,52,53,54,55,56,57,58,59,60,61,62],[0,1,3,5,6,7,2,4,8,9,10,11,12]),(10,[63,64,65,66,67],[]),(11,[5,8,68,69,70,71,72,73,74,75,76,77,78,79,80],[0,2,4,6,7,9,1,3,5,8,10,11,12,13]),(12,[4,14,81,82,83,84,85,86,87,88],[0,1,2,4,5,3,6,7,8]),(13,[4,5,8,13,68,89],[]),(3,[7,20,21],[]),(14,[4,90],[])] Tryz.f82 = some (ac82,[.cell 6 (some 3),.tmp 7],91) := by kernel_rfl
/-! ## states of a search -/
/-- a goal with the clauses that are left for it, and what was known before it -/
structure Ch where
  goal : Tm
  rest : List Gl
  left : List Int
  binds : List Tm
def Ch.row (c : Ch) : List D := [.int .i64 c.goal.k, .int .i64 c.goal.n, .str c.goal.s, .sl (c.goal.kids.map Tm.row), .sl (c.rest.map Gl.row), .sl (intRows c.left), .sl (c.binds.map Tm.row)]
theorem chrow_len (c : Ch) : c.row.length = 7 := rfl
structure Ss where
  goals : List Gl
  binds : List Tm
  choices : List Ch
def Ss.ds (s : Ss) : List D := [.sl (s.goals.map Gl.row), .sl (s.binds.map Tm.row), .sl (s.choices.map Ch.row)]
/-- goals whose variables are below N, and whose cuts keep fewer and fewer choices -/
def Gs (N : Nat) : Nat → List Gl → Prop
  | _, [] => True
  | K, g :: l => g.keep ≤ K ∧ Tz N g.t ∧ Gs N g.keep l
theorem Gs.mono {N M K J : Nat} (h : N ≤ M) (hk : K ≤ J) {l : List Gl} (hg : Gs N K l) : Gs M J l := by
  induction l generalizing K J with
  | nil => trivial
  | cons g l ih => exact ⟨Nat.le_trans hg.1 hk, hg.2.1.mono h, ih (Nat.le_refl _) hg.2.2⟩
theorem Gs.app {N K : Nat} {l : List Gl} (hg : Gs N K l) : ∀ (ts : List Tm), (∀ t ∈ ts, Tz N t) → Gs N K (ts.map (fun t => Gl.mk t K) ++ l)
  | [], _ => hg
  | t :: ts, h => ⟨Nat.le_refl _, h t (by simp), Gs.app hg ts fun x hx => h x (by simp [hx])⟩
structure ChOk (np B j : Nat) (c : Ch) : Prop where
  ex : ∃ N, 26 ≤ N ∧ N + 26 ≤ B ∧ Sok N c.binds ∧ Tz N c.goal ∧ Gs N j c.rest
  rest : c.rest.length + 26 ≤ B
  left : ∀ x ∈ c.left, 0 ≤ x ∧ x < (np : Int)
  len : c.left.length ≤ 100
theorem ChOk.mono {np B C j : Nat} (h : B ≤ C) {c : Ch} (hc : ChOk np B j c) : ChOk np C j c := by
  obtain ⟨⟨N, h1, h2, h3⟩, h4, h5, h6⟩ := hc
  exact ⟨⟨N, h1, by omega, h3⟩, by omega, h5, h6⟩
/-- a state whose variables, goals and choices are bounded -/
structure SsOk (np B : Nat) (s : Ss) : Prop where
  ex : ∃ N, 26 ≤ N ∧ N ≤ B ∧ Sok N s.binds ∧ Gs N s.choices.length s.goals
  goals : s.goals.length ≤ B
  len : s.choices.length + 26 ≤ B
  all : ∀ j c, s.choices[j]? = some c → ChOk np B j c
theorem sok_ext {N k : Nat} {L : List Tm} (h : Sok N L) : Sok (N + k) (L ++ List.replicate k (.mk 0 0 [] [])) := by
  have e : lkL (L ++ List.replicate k (.mk 0 0 [] [])) = lkL L := by
    funext n
    unfold lkL
    split
    · rfl
    · rcases Nat.lt_or_ge n.toNat L.length with h1 | h1
      · rw [List.getElem?_append_left h1]
      · rw [List.getElem?_append_right h1, List.getElem?_eq_none h1, List.getElem?_replicate]
        split
        · rename_i u hu
          split at hu
          · cases hu; rfl
          · cases hu
        · rfl
  refine ⟨by simp [h.len], fun u hu => ?_, by rw [e]; exact h.wt⟩
  rcases List.mem_append.1 hu with h1 | h1
  · rcases h.ent u h1 with h2 | h2
    · exact .inl h2
    · exact .inr (h2.mono (by omega))
  · exact .inl (List.eq_of_mem_replicate h1)
/-- what l6Try does: the clauses that are left -/
noncomputable def tryL (p : List Cl) (s : Ss) (c : Ch) : List Int → Ss × Bool
  | [] => (s, false)
  | j :: l => match p[j.toNat]? with
    | none => (s, false)
    | some x => if (pk (c.binds.length + (Sv.Cl.fr x).toNat) (c.binds ++ List.replicate (Sv.Cl.fr x).toNat (.mk 0 0 [] [])) c.goal (shT (c.binds.length : Nat) x.head)).1 = true then
        (⟨x.body.map (fun t => Gl.mk (shT (c.binds.length : Nat) t) s.choices.length) ++ c.rest, (pk (c.binds.length + (Sv.Cl.fr x).toNat) (c.binds ++ List.replicate (Sv.Cl.fr x).toNat (.mk 0 0 [] [])) c.goal (shT (c.binds.length : Nat) x.head)).2,
          if l = [] then s.choices else s.choices ++ [⟨c.goal, c.rest, l, c.binds⟩]⟩, true)
      else tryL p s c l
/-- a clause is tried -/
structure TryC (N k : Nat) (x : Cl) : Prop where
  fr : Sv.Cl.fr x = k
  le : k ≤ 26
  all : ∀ t ∈ x.head :: x.body, Tz k t
theorem tryC_of {N : Nat} {x : Cl} (h : ClOk x) : ∃ k, TryC N k x := by
  obtain ⟨k, h1, h2, h3⟩ := fr_spec h
  exact ⟨k, h1, h2, h3⟩
theorem tryC_un {N k : Nat} (hN : N + k ≤ 100000) {L : List Tm} (hL : Sok N L) {g : Tm} (hg : Tz N g) {x : Cl} (h : TryC N k x) : Un (N + k) (L ++ List.replicate k (.mk 0 0 [] [])) g (shT (N : Nat) x.head) :=
  un_all hN (sok_ext hL) g _ (hg.mono (by omega)) (sh_tz (by omega) (h.all _ (by simp)))
theorem try_ok {p : List Cl} {B : Nat} (hp : ∀ x ∈ p, ClOk x) (hB : B ≤ 10000) (s : Ss) (hch : ∀ j c, s.choices[j]? = some c → ChOk p.length B j c) (c : Ch) (hl : s.choices.length + 27 ≤ B) : ∀ (l : List Int), ChOk p.length B s.choices.length ⟨c.goal, c.rest, l, c.binds⟩ → (tryL p s c l).2 = true → SsOk p.length B (tryL p s c l).1
  | [], _, h => by rw [tryL] at h; cases h
  | j :: l, hc, h => by
    have hc' : ChOk p.length B s.choices.length ⟨c.goal, c.rest, l, c.binds⟩ := ⟨hc.ex, hc.rest, fun x hx => hc.left x (by simp at hx ⊢; exact .inr hx), by have := hc.len; simp at this ⊢; omega⟩
    rw [tryL] at h ⊢
    split
    · rename_i he
      rw [he] at h
      cases h
    · rename_i x he
      rw [he] at h
      simp only at h
      have hcl := hp _ (List.mem_of_getElem? he)
      obtain ⟨⟨N, hN0, hNB, hL, hg, hgs⟩, hrest, _, _⟩ := hc
      simp only at hL hg hgs hrest
      have hlen := hL.len
      obtain ⟨k, hk⟩ := tryC_of (N := N) hcl
      have hkf : (Sv.Cl.fr x).toNat = k := by rw [hk.fr]; rfl
      have hk2 := hk.le
      have hnx := (pk_spec (tryC_un (by omega) hL hg hk)).1
      rw [hlen, hkf] at h ⊢
      split
      · rename_i hr
        have hGs : Gs (N + k) s.choices.length (x.body.map (fun t => Gl.mk (shT (N : Nat) t) s.choices.length) ++ c.rest) := by
          have := (hgs.mono (M := N + k) (by omega) (Nat.le_refl _)).app (x.body.map (shT (N : Nat))) (fun t ht => by
            obtain ⟨x, hx, rfl⟩ := List.mem_map.1 ht
            exact sh_tz (by omega) (hk.all _ (by simp [hx])))
          rwa [List.map_map] at this
        have hGl : (x.body.map (fun t => Gl.mk (shT (N : Nat) t) s.choices.length) ++ c.rest).length ≤ B := by
          have := hcl.body
          simp; omega
        split
        · exact ⟨⟨N + k, by omega, by omega, hnx.1, hGs⟩, hGl, by simp only; omega, hch⟩
        · refine ⟨⟨N + k, by omega, by omega, hnx.1, hGs.mono (Nat.le_refl _) (by simp)⟩, hGl, by simp only [List.length_append, List.length_cons, List.length_nil]; omega, fun j c hj => ?_⟩
          simp only at hj
          rcases Nat.lt_or_ge j s.choices.length with h1 | h1
          · rw [List.getElem?_append_left h1] at hj
            exact hch j c hj
          · rw [List.getElem?_append_right h1] at hj
            have : j - s.choices.length = 0 := by
              have := (List.getElem?_eq_some_iff.1 hj).1
              simp at this; omega
            rw [this] at hj
            cases hj
            have : j = s.choices.length := by omega
            subst this
            exact hc'
      · rename_i hr
        rw [if_neg hr] at h
        exact try_ok hp hB s hch c hl l hc' h
theorem take_rep {α : Type} {R : List α} {z : α} {N k g : Nat} (h : R.length = N) (hk : k ≤ g) : (R ++ List.replicate g z).take (N + k) = R ++ List.replicate k z := by
  subst h
  rw [List.take_length_add_append, List.take_replicate, Nat.min_eq_left hk]
theorem take_rep0 {α : Type} {R : List α} {z : α} {N g : Nat} (h : R.length = N) : (R ++ List.replicate g z).take N = R := by
  have := take_rep (z := z) (k := 0) h (Nat.zero_le g)
  simpa using this
theorem two_ways {P : Program} {F : Ex → St → Prop} {fs : List Fr} {c : Cd} {X : Prop} {Y : Nat → Prop} {st1 st' : St} {st2 : Nat → St} (h1 : X → St.le st1 st') (h2 : ∀ g, St.le (st2 g) st') (h : aw P c (kq P F fs) st') :
    (X → aw P (.weak c) (kq P F fs) st1) ∧ (∀ g, Y g → aw P (.weak c) (kq P F fs) (st2 g)) := ⟨fun hx => weak_le (h1 hx) h, fun g _ => weak_le (h2 g) h⟩
theorem le_csl {sl : List A} {ext l1 l2 : Heap} (i q : Nat) {rs X : List (List D)} {n sz : Nat} (hX : rs.take n = X) (h : sl[i]? = some (.c (.csl (.l (l1.length + q)) n sz))) (hq : l2[q]? = some (.rows rs)) (hlo : As.lo ext.length l1.length (sl.set i .u)) (hob : Obs.lo ext.length l1.length l1) :
    St.le ⟨sl, ext, l1 ++ l2⟩ ⟨sl.set i (.c (.fsl (.l l1.length) n sz)), ext, l1 ++ [.rows X]⟩ := hX ▸ St.le_csl i q h hq hlo hob
set_option maxHeartbeats 3200000 in
theorem try_walk {p : List Cl} {B : Nat} (hp : ∀ x ∈ p, ClOk x) (hpl : p.length ≤ 100) (hB : B ≤ 10000) (s : Ss) (c : Ch) (hc : ChOk p.length B s.choices.length c) (hl : s.choices.length + 27 ≤ B) (H : Heap) :
    ACalls Tryz.prog 82 [.c (.d (.sl (p.map Cl.row))), .agg (s.ds.map .d), .agg (c.row.map .d)] H (fun r H' => H' = H ∧ r = .tup [.agg ((tryL p s c c.left).1.ds.map .d), .c (.d (.bool (tryL p s c c.left).2))]) := by
  refine acalls Tryz.func82 (by kernel_rfl) ac82_ok fun hf => ?_
  generalize hF : tryL p s c c.left = F
  obtain ⟨sg, sb, sc⟩ := s
  obtain ⟨⟨gk, gn, gs, gl⟩, rest, left, binds⟩ := c
  obtain ⟨⟨N, hN0, hNB, hL, hg, hgs⟩, hrest, hleft, hll⟩ := hc
  simp only at hL hg hgs hrest hleft hll hl hF
  have hli : inR .i64 (left.length : Int) := small_i64 (by omega) (by omega)
  simp -implicitDefEqProofs [ac82, Ss.ds, Ch.row, Tm.k, Tm.n, Tm.s, Tm.kids, hf, go_sem, -List.set_cons_succ, -List.set_cons_zero]
  refine loop_set (σ := Nat) (fun i => [(8, .c (.d (.int .i64 i)))]) (fun _ => H) (fun i => _) (fun i => i ≤ left.length ∧ tryL p ⟨sg, sb, sc⟩ ⟨.mk gk gn gs gl, rest, left, binds⟩ (left.drop i) = F) (fun i => left.length - i) 0 (by simp [setAll]; rfl) ⟨Nat.zero_le _, hF⟩ ?_
  rintro i ⟨hi, hF1⟩
  simp -implicitDefEqProofs [setAll, hli, intRows_len, hf, go_sem, -List.set_cons_succ, -List.set_cons_zero]
  refine ⟨fun hlt => ?_, fun hge => ?_⟩
  · have hx : left[i]? = some left[i] := by simp [hlt]
    obtain ⟨l0, l1⟩ := hleft left[i] (List.getElem_mem hlt)
    have hri : (intRows left)[i]? = some [.int .i64 left[i]] := by simp [intRows, hlt]
    have hpi : left[i].toNat < p.length := by omega
    refine row_nat [.int .i64 left[i]] hri rfl ?_
    simp -implicitDefEqProofs [hf, go_sem, -List.set_cons_succ, -List.set_cons_zero]
    have hcl := hp _ (List.getElem_mem hpi)
    have hrow : (p.map Cl.row)[left[i].toNat]? = some p[left[i].toNat].row := by rw [List.getElem?_map, List.getElem?_eq_getElem hpi]; rfl
    rw [List.drop_eq_getElem_cons hlt, tryL, List.getElem?_eq_getElem hpi] at hF1
    simp only at hF1
    generalize p[left[i].toNat] = x at hcl hrow hF1
    have hbl := hL.len
    have cfr := fun H => fresh_calls hcl H
    obtain ⟨k, hk⟩ := tryC_of (N := N) hcl
    have hk1 := hk.fr
    have hk2 := hk.le
    have hk3 := hk.all
    have hun := tryC_un (by omega) hL hg hk
    have hkf : (Sv.Cl.fr x).toNat = k := by rw [hk.fr]; rfl
    rw [hbl, hkf] at hF1
    rw [hk1] at cfr
    obtain ⟨⟨xk, xn, xs, xl⟩, body⟩ := x
    simp only at hF1 hun hk3
    refine row_int _ l0 hrow rfl ?_
    simp only [Cl.row, Tm.k, Tm.n, Tm.s, Tm.kids, List.map_cons, List.map_nil] at cfr
    simp -implicitDefEqProofs [Cl.row, Tm.k, Tm.n, Tm.s, Tm.kids, hbl, hf, go_sem, -List.set_cons_succ, -List.set_cons_zero]
    refine ⟨small_i64 (by omega) (by omega), allLen_map row_len, by unfold maxApp; omega, fun h => absurd hbl (by rw [h]; simp; omega), fun _ g hgr => ?_⟩
    refine qcall_pure cfr hf rfl ?_
    simp -implicitDefEqProofs [hf, go_sem, -List.set_cons_succ, -List.set_cons_zero]
    have hRl : (binds.map Tm.row).length = N := by simp [hbl]
    refine ⟨⟨by unfold maxApp; omega, by rw [take_rep0 hRl, show binds.length + g - N = g by omega]⟩, ?_⟩
    obtain ⟨R, hR⟩ : ∃ R, R = binds.map Tm.row ++ List.replicate k [D.int IntKind.i64 0, D.int IntKind.i64 0, D.str [], D.sl []] := ⟨_, rfl⟩
    refine two_ways (fun hx => le_csl (X := R) (l1 := [_, _, _, _]) (l2 := [_]) 11 0 (by rw [take_rep hRl (by omega), hR]) rfl rfl (by simp [Sl.le, A.le_refl_iff, A.le_u_iff, As.lo, A.lo, C.lo, Ref.lo, Cs.lo, Obs.lo, Ob.lo, setAll, and_true, true_and, List.length_nil, List.length_cons]) (by simp [Sl.le, A.le_refl_iff, A.le_u_iff, As.lo, A.lo, C.lo, Ref.lo, Cs.lo, Obs.lo, Ob.lo, setAll, and_true, true_and, List.length_nil, List.length_cons])) (fun g' => le_csl (X := R) (l1 := [_, _, _, _]) (l2 := [_, _]) 11 1 (by rw [take_rep0 hRl, take_rep hRl (by omega), hR]) rfl rfl (by simp [Sl.le, A.le_refl_iff, A.le_u_iff, As.lo, A.lo, C.lo, Ref.lo, Cs.lo, Obs.lo, Ob.lo, setAll, and_true, true_and, List.length_nil, List.length_cons]) (by simp [Sl.le, A.le_refl_iff, A.le_u_iff, As.lo, A.lo, C.lo, Ref.lo, Cs.lo, Obs.lo, Ob.lo, setAll, and_true, true_and, List.length_nil, List.length_cons])) ?_
    simp -implicitDefEqProofs [hf, go_sem, -List.set_cons_succ, -List.set_cons_zero]
    have csh := fun H => shift_calls (M := k) (by omega) N (by omega) (.mk xk xn xs xl) (hk3 _ (by simp)).1 H
    simp only [row_mk, List.map_cons, List.map_nil] at csh
    refine qcall_pure csh hf (by simp [A.re, re_d]) ?_
    simp -implicitDefEqProofs [row_len, take_row, drop_row4, pure_d, re_d, hf, go_sem, -List.set_cons_succ, -List.set_cons_zero]
    have hRm : R = (binds ++ List.replicate k (Tm.mk 0 0 [] [])).map Tm.row := by rw [hR]; simp [row_mk]
    have hrl := hL.len
    generalize binds ++ List.replicate k (Tm.mk 0 0 [] []) = L1 at hRm hun hF1
    subst hRm
    have cu := @call_pkL (N + k) L1 _ _ hun
    generalize pk (N + k) L1 (.mk gk gn gs gl) (shT (N : Int) (.mk xk xn xs xl)) = PR at cu hF1
    obtain ⟨bo, L'⟩ := PR
    rw [row_mk] at cu
    simp only [List.map_cons, List.map_nil] at cu hF1
    refine cu (j := 4) rfl hf (by first | rfl | simp [Ob.re, C.re, re_d]) ?_
    simp -implicitDefEqProofs [stO, hf, go_sem, -List.set_cons_succ, -List.set_cons_zero]
    have hadd : inR .i64 ((i : Int) + 1) := small_i64 (by omega) (by omega)
    refine ⟨fun hbo => ⟨hadd, ?_⟩, fun hbo => ?_⟩
    · rw [if_neg (by simp [hbo])] at hF1
      refine loop_less (i + 1) (St.le_cut [_, _] ?_ (by simp [Sl.le, A.le_refl_iff, A.le_u_iff, As.lo, A.lo, C.lo, Ref.lo, Cs.lo, Obs.lo, Ob.lo, setAll, and_true, true_and, List.length_nil, List.length_cons]) rfl (by simp [Sl.le, A.le_refl_iff, A.le_u_iff, As.lo, A.lo, C.lo, Ref.lo, Cs.lo, Obs.lo, Ob.lo, setAll, and_true, true_and, List.length_nil, List.length_cons])) ⟨hlt, hF1⟩ (by show left.length - (i + 1) < left.length - i; omega)
      simp [setAll, Sl.le, A.le_refl_iff, A.le_u_iff, As.lo, A.lo, C.lo, Ref.lo, Cs.lo, Obs.lo, Ob.lo, setAll, and_true, true_and, List.length_nil, List.length_cons]
    · rw [if_pos hbo] at hF1
      refine weak_le (St.le_thaw (loc := [_, _, _, _]) 11 rfl (by simp [Sl.le, A.le_refl_iff, A.le_u_iff, As.lo, A.lo, C.lo, Ref.lo, Cs.lo, Obs.lo, Ob.lo, setAll, and_true, true_and, List.length_nil, List.length_cons]) (by simp [Sl.le, A.le_refl_iff, A.le_u_iff, As.lo, A.lo, C.lo, Ref.lo, Cs.lo, Obs.lo, Ob.lo, setAll, and_true, true_and, List.length_nil, List.length_cons])) ?_
      have hsl : inR .i64 (sc.length : Int) := small_i64 (by omega) (by omega)
      simp -implicitDefEqProofs [hsl, hf, go_sem, -List.set_cons_succ, -List.set_cons_zero]
      have cg := fun H => goals_calls (M := k) (by omega) body (by have := hcl.body; simp at this; omega) (fun t ht => (hk3 t (by simp [ht])).1) N (by omega) sc.length rest (by omega) H
      generalize body.map (fun t => Gl.mk (shT (N : Int) t) sc.length) ++ rest = G at cg hF1
      refine qcall_pure cg hf rfl ?_
      have hdr : (intRows left).drop (i + 1) = intRows (left.drop (i + 1)) := by simp [intRows, List.map_drop]
      simp -implicitDefEqProofs [intRows_len, hli, hadd, hdr, hf, go_sem, -List.set_cons_succ, -List.set_cons_zero]
      refine ⟨fun hlt2 => ⟨allLen_ints _, ⟨by omega, by omega⟩, allLen_map chrow_len, by unfold maxApp; omega, allLen_map chrow_len, by unfold maxApp; omega, ?_⟩, fun hge2 => ?_⟩
      · rw [← hF1, if_neg (fun h => by have := congrArg List.length h; simp at this; omega)]
        simp [Ss.ds, Ch.row, Tm.k, Tm.n, Tm.s, Tm.kids]
      · rw [← hF1, if_pos (List.drop_of_length_le (by omega))]
        simp [Ss.ds]
  · rw [List.drop_of_length_le hge, tryL] at hF1
    rw [← hF1]
    simp [Ss.ds]
theorem try_calls {p : List Cl} {B : Nat} (hp : ∀ x ∈ p, ClOk x) (hpl : p.length ≤ 100) (hB : B ≤ 10000) (s : Ss) (hch : ∀ j c, s.choices[j]? = some c → ChOk p.length B j c) (c : Ch) (hc : ChOk p.length B s.choices.length c) (hl : s.choices.length + 27 ≤ B) :
    ∃ F : Ss × Bool, (F.2 = true → SsOk p.length B F.1) ∧ ∀ H, ACalls Tryz.prog 82 [.c (.d (.sl (p.map Cl.row))), .agg (s.ds.map .d), .agg (c.row.map .d)] H (fun r H' => H' = H ∧ r = .tup [.agg (F.1.ds.map .d), .c (.d (.bool F.2))]) :=
  ⟨tryL p s c c.left, try_ok hp hB s hch c hl c.left hc, fun H => try_walk hp hpl hB s c hc hl H⟩
end Sv
-- 44 loop.example/prologserver/impl.ClauseValid params 1 ntmps 16
def ac44 : Cd := .seq (.region [oc 1 (.box (.t 0)),
 oc 2 (.mv (.k (.c (.d (.bool false)))))] [0,2])
 (.seq (.region [oc 3 (.fieldAddr 0 (.t 1)),
 oc 4 (.load (some 4) (.t 3)),
 oc 5 (.qcall 64 [(.t 4)]),
 oa 6 5,
 ⟨some 7,.fieldAddr 0 (.t 1),some (6,true)⟩,
 ⟨some 8,.load (some 4) (.t 7),some (6,true)⟩,
 ⟨some 9,.qcall 19 [(.t 8)],some (6,true)⟩,
 oc 10 (.pick (.t 6) (.t 9) (.k (.c (.d (.bool false))))),
 oa 11 10,
 ⟨some 12,.fieldAddr 4 (.t 1),some (11,true)⟩,
 ⟨some 13,.load none (.t 12),some (11,true)⟩,
 ⟨some 14,.qcall 65 [(.t 13)],some (11,true)⟩,
 oc 15 (.pick (.t 11) (.t 14) (.k (.c (.d (.bool false))))),
 oa 2 15] [1,3,4,5,6,7,8,9,10,11,12,13,14,15])
 (.ret))
theorem ac44_ok : cFunc Tryz.prog [1000019,1000064,1000065] [(0,[0,2],[]),(1,[1,3,4,5,6,7,8,9,10,11,12,13,14,15],[])] Tryz.f44 = some (ac44,[.tmp 2],16) := by kernel_rfl
-- 47 loop.example/prologserver/spec.ClauseValid params 1 ntmps 36
-- loop head live: [1,3]
def ac47 : Cd := .seq (.region [oc 1 (.box (.t 0)),
 oc 2 (.mv (.k (.c (.d (.bool false)))))] [0,2])
 (.seq (.seq (.region [oc 3 (.mv (ki 0))] [])
 (.block 0 (.loop (.seq (.seq (.region [oa 4 3,
 oc 5 (.fieldAddr 4 (.t 1)),
 oc 6 (.load none (.t 5)),
 oc 7 (.len 1 (.t 6)),
 oc 8 (.bin .lss (.t 4) (.t 7)),
 oa 9 8,
 ⟨some 10,.mv (.t 3),some (9,true)⟩,
 ⟨some 11,.bin .leq (.t 10) (ki 6),some (9,true)⟩,
 oc 12 (.pick (.t 9) (.t 11) (.k (.c (.d (.bool false)))))] [4,5,6,7,8,9,10,11])
 (.cond (.t 12)
 (.skip)
 (.exit 0)))
 (.seq (.block 1 (.seq (.region [oc 15 (.fieldAddr 4 (.t 1)),
 oc 16 (.load none (.t 15)),
 oa 17 3,
 oc 18 (.indexAddr 4 (.t 16) (.t 17)),
 oc 19 (.load (some 4) (.t 18)),
 oc 20 (.qcall 66 [(.t 19)]),
 oc 21 (.un .not (.t 20))] [12,15,16,17,18,19,20])
 (.cond (.t 21)
 (.seq (.region [oc 2 (.mv (.k (.c (.d (.bool false)))))] [1,3,21])
 (.ret))
 (.skip))))
 (.region [oa 13 3,
 oc 14 (.bin .add (.t 13) (ki 1)),
 oa 3 14] [2,13,14,21]))))))
 (.seq (.region [oc 22 (.fieldAddr 4 (.t 1)),
 oc 23 (.load none (.t 22)),
 oc 24 (.len 1 (.t 23)),
 oc 25 (.bin .leq (.t 24) (ki 6)),
 oa 26 25,
 ⟨some 27,.fieldAddr 0 (.t 1),some (26,true)⟩,
 ⟨some 28,.load (some 4) (.t 27),some (26,true)⟩,
 ⟨some 29,.qcall 67 [(.t 28)],some (26,true)⟩,
 oc 30 (.pick (.t 26) (.t 29) (.k (.c (.d (.bool false))))),
 oa 31 30,
 ⟨some 32,.fieldAddr 0 (.t 1),some (31,true)⟩,
 ⟨some 33,.load (some 4) (.t 32),some (31,true)⟩,
 ⟨some 34,.qcall 27 [(.t 33)],some (31,true)⟩,
 oc 35 (.pick (.t 31) (.t 34) (.k (.c (.d (.bool false))))),
 oa 2 35] [1,22,23,24,25,26,27,28,29,30,31,32,33,34,35])
 (.ret)))
theorem ac47_ok : cFunc Tryz.prog [1000027,1000066,1000067] [(0,[0,2],[]),(1,[],[]),(2,[4,5,6,7,8,9,10,11],[]),(4,[12,15,16,17,18,19,20],[]),(5,[1,3,21],[]),(3,[2,13,14,21],[]),(6,[1,22,23,24,25,26,27,28,29,30,31,32,33,34,35],[])] Tryz.f47 = some (ac47,[.tmp 2],36) := by kernel_rfl
-- 43 loop.example/prologserver/impl.ProgramValid$1 params 1 ntmps 6
def ac43 : Cd := .seq (.region [oc 1 (.box (.t 0)),
 oc 2 (.mv (.k (.c (.d (.bool false)))))] [0,2])
 (.seq (.region [oc 3 (.load (some 5) (.t 1)),
 oc 4 (.qcall 44 [(.t 3)]),
 oc 5 (.un .not (.t 4)),
 oa 2 5] [1,3,4,5])
 (.ret))
theorem ac43_ok : cFunc Tryz.prog [1000044] [(0,[0,2],[]),(1,[1,3,4,5],[])] Tryz.f43 = some (ac43,[.tmp 2],6) := by kernel_rfl
-- 21 loop.example/prologserver/impl.ProgramValid params 1 ntmps 11
def ac21 : Cd := .seq (.region [oc 2 (.mv (.k (.c (.d (.bool false)))))] [2])
 (.seq (.region [oa 3 0,
 oc 4 (.len 1 (.t 3)),
 oc 5 (.bin .leq (.t 4) (ki 20)),
 oa 6 5,
 ⟨some 7,.mv (.t 0),some (6,true)⟩,
 ⟨some 8,.qcall 22 [(.t 7),(.k (.c (.fn 43 [])))],some (6,true)⟩,
 ⟨some 9,.un .not (.t 8),some (6,true)⟩,
 oc 10 (.pick (.t 6) (.t 9) (.k (.c (.d (.bool false))))),
 oa 2 10] [0,3,4,5,6,7,8,9,10])
 (.ret))
theorem ac21_ok : cFunc Tryz.prog [1000022] [(0,[2],[]),(1,[0,3,4,5,6,7,8,9,10],[])] Tryz.f21 = some (ac21,[.tmp 2],11) := by kernel_rfl
-- 26 loop.example/prologserver/spec.ProgramValid params 1 ntmps 23
-- loop head live: [0,3]
def ac26 : Cd := .seq (.region [oc 2 (.mv (.k (.c (.d (.bool false)))))] [2])
 (.seq (.seq (.region [oc 3 (.mv (ki 0))] [])
 (.block 0 (.loop (.seq (.seq (.region [oa 4 3,
 oa 5 0,
 oc 6 (.len 1 (.t 5)),
 oc 7 (.bin .lss (.t 4) (.t 6)),
 oa 8 7,
 ⟨some 9,.mv (.t 3),some (8,true)⟩,
 ⟨some 10,.bin .leq (.t 9) (ki 20),some (8,true)⟩,
 oc 11 (.pick (.t 8) (.t 10) (.k (.c (.d (.bool false)))))] [4,5,6,7,8,9,10])
 (.cond (.t 11)
 (.skip)
 (.exit 0)))
 (.seq (.block 1 (.seq (.region [oa 14 0,
 oa 15 3,
 oc 16 (.indexAddr 5 (.t 14) (.t 15)),
 oc 17 (.load (some 5) (.t 16)),
 oc 18 (.qcall 47 [(.t 17)]),
 oc 19 (.un .not (.t 18))] [11,14,15,16,17,18])
 (.cond (.t 19)
 (.seq (.region [oc 2 (.mv (.k (.c (.d (.bool false)))))] [0,3,19])
 (.ret))
 (.skip))))
 (.region [oa 12 3,
 oc 13 (.bin .add (.t 12) (ki 1)),
 oa 3 13] [2,12,13,19]))))))
 (.seq (.region [oa 20 0,
 oc 21 (.len 1 (.t 20)),
 oc 22 (.bin .leq (.t 21) (ki 20)),
 oa 2 22] [0,20,21,22])
 (.ret)))
theorem ac26_ok : cFunc Tryz.prog [1000047] [(0,[2],[]),(1,[],[]),(2,[4,5,6,7,8,9,10],[]),(4,[11,14,15,16,17,18],[]),(5,[0,3,19],[]),(3,[2,12,13,19],[]),(6,[0,20,21,22],[])] Tryz.f26 = some (ac26,[.tmp 2],23) := by kernel_rfl
-- 45 slices.IndexFunc[[]loop.example/prologserver/impl.Clause,loop.example/prologserver/impl.Clause] params 2 ntmps 19
-- loop head live: [0,1,7,8]
def ac45 : Cd := .seq (.region [oc 4 (.mv (ki 0))] [4])
 (.seq (.seq (.region [oa 6 0,
 oc 7 (.len 1 (.t 6)),
 oc 8 (.mv (ki 0))] [6])
 (.block 0 (.loop (.seq (.region [oc 9 (.bin .lss (.t 8) (.t 7))] [])
 (.seq (.cond (.t 9)
 (.skip)
 (.exit 0))
 (.seq (.block 1 (.seq (.region [oa 10 8,
 oa 5 10] [9,10])
 (.seq (.region [oa 11 1,
 oa 12 0,
 oa 13 5,
 oc 14 (.indexAddr 5 (.t 12) (.t 13)),
 oc 15 (.load (some 5) (.t 14)),
 oc 16 (.callv (.t 11) [(.t 15)])] [11,12,13,14,15])
 (.cond (.t 16)
 (.seq (.region [oa 17 5,
 oa 4 17] [0,1,5,7,8,16,17])
 (.ret))
 (.skip)))))
 (.region [oc 18 (.bin .add (.t 8) (ki 1)),
 oa 8 18] [4,5,16,18])))))))
 (.seq (.region [oc 4 (.mv (ki (-1)))] [])
 (.ret)))
theorem ac45_ok : cFunc Tryz.prog [] [(0,[4],[]),(1,[6],[]),(2,[],[]),(3,[9,10],[]),(4,[11,12,13,14,15],[]),(5,[0,1,5,7,8,16,17],[]),(6,[4,5,16,18],[]),(7,[],[])] Tryz.f45 = some (ac45,[.tmp 4],19) := by kernel_rfl
-- 22 slices.ContainsFunc[[]loop.example/prologserver/impl.Clause,loop.example/prologserver/impl.Clause] params 2 ntmps 9
def ac22 : Cd := .seq (.region [oc 4 (.mv (.k (.c (.d (.bool false)))))] [4])
 (.seq (.region [oa 5 0,
 oa 6 1,
 oc 7 (.call false 45 [(.t 5),(.t 6)]),
 oc 8 (.bin .geq (.t 7) (ki 0)),
 oa 4 8] [0,1,5,6,7,8])
 (.ret))
theorem ac22_ok : cFunc Tryz.prog [] [(0,[4],[]),(1,[0,1,5,6,7,8],[])] Tryz.f22 = some (ac22,[.tmp 4],9) := by kernel_rfl
theorem clF_idx {σ : Type} (Hp : σ → Heap) (n : Nat) (hn : ∀ s, (Hp s).length = n) (hfit : ∀ s, Obs.fits n 0 (Hp s)) (g : FuncId) (caps : List (Nat × Nat)) (step : σ → Cl → Bool × σ) (P : σ → Prop) (l : List Cl) (hl : l.length ≤ 1048576)
    (h : ∀ s, P s → ∀ t ∈ l, ACalls Tryz.prog g (.agg ((Cl.row t).map .d) :: caps.map fun x => .c (.ptr (.e x.1) x.2)) (Hp s) (fun r H' => r = .c (.d (.bool (step s t).1)) ∧ H' = Hp (step s t).2)) (hP : ∀ s, P s → ∀ t ∈ l, (step s t).1 = false → P (step s t).2) (s : σ) (h0 : P s) :
    ACalls Tryz.prog 45 [.c (.d (.sl (l.map Cl.row))), .c (.fn g (caps.map fun x => (.e x.1, x.2)))] (Hp s) (fun r H' => (∃ k : Int, r = .c (.d (.int .i64 k)) ∧ decide (0 ≤ k) = (anyS step l s).1) ∧ H' = Hp (anyS step l s).2) := by
  refine acalls Tryz.func45 (by kernel_rfl) ac45_ok fun hf => ?_
  have hli : inR .i64 (l.length : Int) := small_i64 (by omega) (by omega)
  simp -implicitDefEqProofs [ac45, hli, go_sem, -List.set_cons_succ, -List.set_cons_zero]
  refine loop_set (σ := Nat × σ) (fun x => [(8, .c (.d (.int .i64 x.1)))]) (fun x => Hp x.2) (fun _ => []) (fun x => x.1 ≤ l.length ∧ P x.2 ∧ anyS step (l.drop x.1) x.2 = anyS step l s) (fun x => l.length - x.1) (0, s) rfl ⟨Nat.zero_le _, h0, rfl⟩ ?_
  rintro ⟨i, q⟩ ⟨hi, hq, hrun⟩
  simp only at hi hq hrun
  simp -implicitDefEqProofs [setAll, hli, go_sem, -List.set_cons_succ, -List.set_cons_zero]
  refine ⟨fun hlt => ?_, fun hge => ?_⟩
  · refine row_of hlt (crow_len _) ?_
    simp -implicitDefEqProofs [crow_len, take_crow, pure_d, re_d, callArgs_ptrs, go_sem, -List.set_cons_succ, -List.set_cons_zero]
    have hd : l.drop i = l[i] :: l.drop (i + 1) := List.drop_eq_getElem_cons hlt
    rw [hd, anyS] at hrun
    have hadd : inR .i64 ((i : Int) + 1) := small_i64 (by omega) (by omega)
    refine (h q hq l[i] (List.getElem_mem hlt)).mono fun r H' ⟨h1, h2⟩ => ⟨Hp (step q l[i]).2, [], .c (.d (.bool (step q l[i]).1)), by simpa using h2, by simp only [hn], Nat.le_refl _, by simp only [hn]; exact hfit _, h1, ?_⟩
    cases hs : (step q l[i]).1 with
    | true =>
      rw [if_pos hs] at hrun
      simp -implicitDefEqProofs [hs, go_sem, -List.set_cons_succ, -List.set_cons_zero]
      rw [← hrun]
      exact ⟨by simp, rfl⟩
    | false =>
      rw [if_neg (by simp [hs])] at hrun
      simp -implicitDefEqProofs [hs, hadd, go_sem, -List.set_cons_succ, -List.set_cons_zero]
      exact loop_back (i + 1, (step q l[i]).2) (by simp [setAll]) ⟨hlt, hP q hq _ (List.getElem_mem hlt) hs, hrun⟩ (by show l.length - (i + 1) < l.length - i; omega)
  · rw [List.drop_of_length_le hge] at hrun
    simp only [anyS] at hrun
    rw [← hrun]
    exact ⟨by simp, rfl⟩
theorem clF_con {σ : Type} (Hp : σ → Heap) (n : Nat) (hn : ∀ s, (Hp s).length = n) (hfit : ∀ s, Obs.fits n 0 (Hp s)) (g : FuncId) (caps : List (Nat × Nat)) (step : σ → Cl → Bool × σ) (P : σ → Prop) (l : List Cl) (hl : l.length ≤ 1048576)
    (h : ∀ s, P s → ∀ t ∈ l, ACalls Tryz.prog g (.agg ((Cl.row t).map .d) :: caps.map fun x => .c (.ptr (.e x.1) x.2)) (Hp s) (fun r H' => r = .c (.d (.bool (step s t).1)) ∧ H' = Hp (step s t).2)) (hP : ∀ s, P s → ∀ t ∈ l, (step s t).1 = false → P (step s t).2) (s : σ) (h0 : P s) :
    ACalls Tryz.prog 22 [.c (.d (.sl (l.map Cl.row))), .c (.fn g (caps.map fun x => (.e x.1, x.2)))] (Hp s) (fun r H' => r = .c (.d (.bool (anyS step l s).1)) ∧ H' = Hp (anyS step l s).2) := by
  refine acalls Tryz.func22 (by kernel_rfl) ac22_ok fun hf => ?_
  simp -implicitDefEqProofs [ac22, go_sem, -List.set_cons_succ, -List.set_cons_zero]
  simp only [List.map_map, Function.comp_def, Ref.re]
  refine (clF_idx Hp n hn hfit g caps step P l hl h hP s h0).mono fun r H' ⟨⟨k, h1, h2⟩, h3⟩ => ⟨Hp (anyS step l s).2, [], .c (.d (.int .i64 k)), by simpa using h3, by simp only [hn], Nat.le_refl _, by simp only [hn]; exact hfit _, h1, ?_⟩
  simp -implicitDefEqProofs [go_sem, -List.set_cons_succ, -List.set_cons_zero]
  rw [← h2]
/-- .. where the function looks at what it is given alone -/
theorem clF_any (g : FuncId) (p : Cl → Bool) (l : List Cl) (hl : l.length ≤ 1048576) (h : ∀ t ∈ l, ∀ H, ACalls Tryz.prog g [.agg ((Cl.row t).map .d)] H (fun r H' => H' = H ∧ r = .c (.d (.bool (p t))))) (H : Heap) :
    ACalls Tryz.prog 22 [.c (.d (.sl (l.map Cl.row))), .c (.fn g [])] H (fun r H' => H' = H ∧ r = .c (.d (.bool (l.any p)))) := by
  refine acalls_fits Tryz.func22 (by kernel_rfl) (by kernel_rfl) fun hf => ?_
  have := clF_con (σ := Unit) (fun _ => H) H.length (fun _ => rfl) (fun _ => hf) g [] (fun _ t => (p t, ())) (fun _ => True) l hl (fun s _ t ht => (h t ht H).mono fun r H' ⟨h1, h2⟩ => ⟨h2, h1⟩) (fun _ _ _ _ _ => trivial) () trivial
  rw [anyS_const] at this
  exact this.mono fun r H' ⟨h1, h2⟩ => ⟨h2, h1⟩

def Cl.validB (c : Cl) : Bool := (c.head.valid && c.head.plain) && goalsB c.body
/-- as many valid clauses as a program may have -/
def progB (p : List Cl) : Bool := decide (p.length ≤ 20) && p.all Cl.validB
theorem cvImpl_calls (c : Cl) (hc : c.fits) (H : Heap) : ACalls Tryz.prog 44 [.agg (c.row.map .d)] H (fun r H' => H' = H ∧ r = .c (.d (.bool c.validB))) := by
  obtain ⟨h, b⟩ := c
  obtain ⟨hh, hl, hb⟩ := hc
  simp only at hh hl hb
  have c1 := tvImpl_calls h hh
  have c2 := plainImpl_calls h hh
  rw [row_eq] at c1 c2
  simp only [List.map_cons, List.map_nil] at c1 c2
  refine acalls Tryz.func44 (by kernel_rfl) ac44_ok fun hf => ?_
  simp -implicitDefEqProofs [ac44, Cl.row, go_sem, -List.set_cons_succ, -List.set_cons_zero]
  refine qcall_pure c1 hf rfl ?_
  cases h1 : h.valid with
  | false => simp -implicitDefEqProofs [h1, Cl.validB, go_sem, -List.set_cons_succ, -List.set_cons_zero]
  | true =>
    simp -implicitDefEqProofs [h1, go_sem, -List.set_cons_succ, -List.set_cons_zero]
    refine qcall_pure c2 hf rfl ?_
    cases h2 : h.plain with
    | false => simp -implicitDefEqProofs [h1, h2, Cl.validB, go_sem, -List.set_cons_succ, -List.set_cons_zero]
    | true =>
      simp -implicitDefEqProofs [h1, h2, go_sem, -List.set_cons_succ, -List.set_cons_zero]
      refine qcall_pure (goalsImpl_calls b hl hb) hf rfl ?_
      simp -implicitDefEqProofs [h1, h2, Cl.validB, go_sem, -List.set_cons_succ, -List.set_cons_zero]
theorem cvSpec_calls (c : Cl) (hc : c.fits) (H : Heap) : ACalls Tryz.prog 47 [.agg (c.row.map .d)] H (fun r H' => H' = H ∧ r = .c (.d (.bool c.validB))) := by
  obtain ⟨h, b⟩ := c
  obtain ⟨hh, hl, hb⟩ := hc
  simp only at hh hl hb
  have c1 := tvSpec_calls h hh
  have c2 := plainSpec_calls h hh
  rw [row_eq] at c1 c2
  simp only [List.map_cons, List.map_nil] at c1 c2
  have hli : inR .i64 (b.length : Int) := small_i64 (by omega) (by omega)
  refine acalls Tryz.func47 (by kernel_rfl) ac47_ok fun hf => ?_
  simp -implicitDefEqProofs [ac47, Cl.row, hli, go_sem, -List.set_cons_succ, -List.set_cons_zero]
  refine loop_set (σ := Nat) (fun i => [(3, .c (.d (.int .i64 i)))]) (fun _ => H) (fun _ => [_]) (fun i => i ≤ b.length ∧ ∀ t ∈ b.take i, t.goal = true) (fun i => b.length - i) 0 rfl ⟨Nat.zero_le _, by simp⟩ ?_
  rintro i ⟨hi, hall⟩
  by_cases hlt : i < b.length
  · by_cases hi6 : i ≤ 6
    · have hi6' : (i : Int) ≤ 6 := by omega
      simp -implicitDefEqProofs [setAll, hli, hlt, hi6, hi6', go_sem, -List.set_cons_succ, -List.set_cons_zero]
      refine row_of hlt (row_len _) ?_
      simp -implicitDefEqProofs [row_len, take_row, pure_d, re_d, go_sem, -List.set_cons_succ, -List.set_cons_zero]
      refine qcall_pure (goalSpec_calls b[i] (hb _ (List.getElem_mem hlt))) hf rfl ?_
      have hadd : inR .i64 ((i : Int) + 1) := small_i64 (by omega) (by omega)
      simp -implicitDefEqProofs [hadd, go_sem, -List.set_cons_succ, -List.set_cons_zero]
      refine ⟨fun hg => ?_, fun hg => loop_back (i + 1) (by simp [setAll]) ⟨hlt, goal_take hlt hall hg⟩ (by show b.length - (i + 1) < b.length - i; omega)⟩
      have : b.all Tm.goal = false := by
        rw [List.all_eq_false]
        exact ⟨b[i], List.getElem_mem hlt, by simp [hg]⟩
      simp [Cl.validB, goalsB, this]
    · have hl6 : ¬ b.length ≤ 6 := by omega
      have hl6' : ¬ (b.length : Int) ≤ 6 := by omega
      have hi6' : ¬ (i : Int) ≤ 6 := by omega
      simp -implicitDefEqProofs [setAll, hli, hlt, hi6, hi6', hl6, hl6', goalsB, Cl.validB, go_sem, -List.set_cons_succ, -List.set_cons_zero]
  · have hil : i = b.length := by omega
    subst hil
    rw [List.take_length] at hall
    have hal : b.all Tm.goal = true := List.all_eq_true.2 hall
    by_cases h6 : b.length ≤ 6
    · have h6' : (b.length : Int) ≤ 6 := by omega
      simp -implicitDefEqProofs [setAll, hli, h6', go_sem, -List.set_cons_succ, -List.set_cons_zero]
      refine qcall_pure c1 hf rfl ?_
      cases h1 : h.valid with
      | false => simp -implicitDefEqProofs [h1, Cl.validB, go_sem, -List.set_cons_succ, -List.set_cons_zero]
      | true =>
        simp -implicitDefEqProofs [h1, go_sem, -List.set_cons_succ, -List.set_cons_zero]
        refine qcall_pure c2 hf rfl ?_
        simp -implicitDefEqProofs [h1, h6, hal, goalsB, Cl.validB, go_sem, -List.set_cons_succ, -List.set_cons_zero]
    · have h6' : ¬ (b.length : Int) ≤ 6 := by omega
      simp -implicitDefEqProofs [setAll, hli, h6', h6, goalsB, Cl.validB, go_sem, -List.set_cons_succ, -List.set_cons_zero]
theorem any_notC (l : List Cl) : (l.any fun t => !t.validB) = !l.all Cl.validB := by
  induction l with
  | nil => rfl
  | cons t l ih => simp only [List.any_cons, List.all_cons, ih, Bool.not_and]
theorem notClause_calls (c : Cl) (hc : c.fits) (H : Heap) : ACalls Tryz.prog 43 [.agg (c.row.map .d)] H (fun r H' => H' = H ∧ r = .c (.d (.bool (!c.validB)))) := by
  refine acalls Tryz.func43 (by kernel_rfl) ac43_ok fun hf => ?_
  simp -implicitDefEqProofs [ac43, crow_len, take_crow, pure_d, re_d, go_sem, -List.set_cons_succ, -List.set_cons_zero]
  refine qcall_pure (cvImpl_calls c hc) hf rfl ?_
  simp -implicitDefEqProofs [go_sem, -List.set_cons_succ, -List.set_cons_zero]
theorem pvImpl_calls (p : List Cl) (hp : FitsC p) (H : Heap) : ACalls Tryz.prog 21 [.c (.d (.sl (p.map Cl.row)))] H (fun r H' => H' = H ∧ r = .c (.d (.bool (progB p)))) := by
  obtain ⟨hl, h⟩ := hp
  refine acalls Tryz.func21 (by kernel_rfl) ac21_ok fun hf => ?_
  have hli : inR .i64 (p.length : Int) := small_i64 (by omega) (by omega)
  by_cases h6 : p.length ≤ 20
  · have h6' : (p.length : Int) ≤ 20 := by omega
    simp -implicitDefEqProofs [ac21, hli, h6', go_sem, -List.set_cons_succ, -List.set_cons_zero]
    refine qcall_pure (clF_any 43 (fun t => !t.validB) p hl fun t ht => notClause_calls t (h t ht)) hf rfl ?_
    rw [any_notC]
    simp -implicitDefEqProofs [h6, progB, go_sem, -List.set_cons_succ, -List.set_cons_zero]
  · have h6' : ¬ (p.length : Int) ≤ 20 := by omega
    simp -implicitDefEqProofs [ac21, hli, h6', h6, progB, go_sem, -List.set_cons_succ, -List.set_cons_zero]
theorem valid_take {l : List Cl} {i : Nat} (h : i < l.length) (ha : ∀ t ∈ l.take i, t.validB = true) (hb : l[i].validB = true) : ∀ t ∈ l.take (i + 1), t.validB = true := by
  intro t h'
  rw [List.take_succ_eq_append_getElem h, List.mem_append] at h'
  rcases h' with h' | h'
  · exact ha t h'
  · simp at h'; subst h'; exact hb
theorem pvSpec_calls (p : List Cl) (hp : FitsC p) (H : Heap) : ACalls Tryz.prog 26 [.c (.d (.sl (p.map Cl.row)))] H (fun r H' => H' = H ∧ r = .c (.d (.bool (progB p)))) := by
  obtain ⟨hl, h⟩ := hp
  refine acalls Tryz.func26 (by kernel_rfl) ac26_ok fun hf => ?_
  have hli : inR .i64 (p.length : Int) := small_i64 (by omega) (by omega)
  simp -implicitDefEqProofs [ac26, hli, go_sem, -List.set_cons_succ, -List.set_cons_zero]
  refine loop_set (σ := Nat) (fun i => [(3, .c (.d (.int .i64 i)))]) (fun _ => H) (fun _ => []) (fun i => i ≤ p.length ∧ ∀ t ∈ p.take i, t.validB = true) (fun i => p.length - i) 0 rfl ⟨Nat.zero_le _, by simp⟩ ?_
  rintro i ⟨hi, hall⟩
  by_cases hlt : i < p.length
  · by_cases hi6 : i ≤ 20
    · have hi6' : (i : Int) ≤ 20 := by omega
      simp -implicitDefEqProofs [setAll, hli, hlt, hi6, hi6', go_sem, -List.set_cons_succ, -List.set_cons_zero]
      refine row_of hlt (crow_len _) ?_
      simp -implicitDefEqProofs [crow_len, take_crow, pure_d, re_d, go_sem, -List.set_cons_succ, -List.set_cons_zero]
      refine qcall_pure (cvSpec_calls p[i] (h _ (List.getElem_mem hlt))) hf rfl ?_
      have hadd : inR .i64 ((i : Int) + 1) := small_i64 (by omega) (by omega)
      simp -implicitDefEqProofs [hadd, go_sem, -List.set_cons_succ, -List.set_cons_zero]
      refine ⟨fun hg => ?_, fun hg => loop_back (i + 1) (by simp [setAll]) ⟨hlt, valid_take hlt hall hg⟩ (by show p.length - (i + 1) < p.length - i; omega)⟩
      have : p.all Cl.validB = false := by
        rw [List.all_eq_false]
        exact ⟨p[i], List.getElem_mem hlt, by simp [hg]⟩
      simp [progB, this]
    · have hl6 : ¬ p.length ≤ 20 := by omega
      have hl6' : ¬ (p.length : Int) ≤ 20 := by omega
      have hi6' : ¬ (i : Int) ≤ 20 := by omega
      simp -implicitDefEqProofs [setAll, hli, hlt, hi6, hi6', hl6, hl6', progB, go_sem, -List.set_cons_succ, -List.set_cons_zero]
  · have hil : i = p.length := by omega
    subst hil
    rw [List.take_length] at hall
    have hal : p.all Cl.validB = true := List.all_eq_true.2 hall
    simp -implicitDefEqProofs [setAll, hli, progB, hal, go_sem, -List.set_cons_succ, -List.set_cons_zero]
    all_goals omega
-- 81 loop.example/prologserver/spec.l4For params 2 ntmps 41
-- loop head live: [0,3,5,6]
def ac81 : Cd := .seq (.region [oc 3 (.box (.t 1)),
 oc 4 (.mv (.k (.c (.full []))))] [1,4])
 (.seq (.region [oc 7 (.buildSlice 1 0 [(.int .i64 0)] []),
 oa 5 7] [7])
 (.seq (.seq (.region [oc 6 (.mv (ki 0))] [])
 (.block 0 (.loop (.seq (.seq (.region [oa 8 6,
 oa 9 0,
 oc 10 (.len 1 (.t 9)),
 oc 11 (.bin .lss (.t 8) (.t 10))] [8,9,10])
 (.cond (.t 11)
 (.skip)
 (.exit 0)))
 (.seq (.block 1 (.seq (.region [oa 14 0,
 oa 15 6,
 oc 16 (.indexAddr 5 (.t 14) (.t 15)),
 oc 17 (.fieldAddr 0 (.t 16)),
 oc 18 (.fieldAddr 2 (.t 17)),
 oc 20 (.fieldAddr 2 (.t 3)),
 oc 19 (.load none (.t 18)),
 oc 21 (.load none (.t 20)),
 oc 22 (.bin .eql (.t 19) (.t 21)),
 oa 23 22,
 ⟨some 24,.mv (.t 0),some (23,true)⟩,
 ⟨some 25,.mv (.t 6),some (23,true)⟩,
 ⟨some 26,.indexAddr 5 (.t 24) (.t 25),some (23,true)⟩,
 ⟨some 27,.fieldAddr 0 (.t 26),some (23,true)⟩,
 ⟨some 28,.fieldAddr 3 (.t 27),some (23,true)⟩,
 ⟨some 31,.fieldAddr 3 (.t 3),some (23,true)⟩,
 ⟨some 29,.load none (.t 28),some (23,true)⟩,
 ⟨some 30,.len 1 (.t 29),some (23,true)⟩,
 ⟨some 32,.load none (.t 31),some (23,true)⟩,
 ⟨some 33,.len 1 (.t 32),some (23,true)⟩,
 ⟨some 34,.bin .eql (.t 30) (.t 33),some (23,true)⟩,
 oc 35 (.pick (.t 23) (.t 34) (.k (.c (.d (.bool false)))))] [11,14,15,16,17,18,19,20,21,22,23,24,25,26,27,28,29,30,31,32,33,34])
 (.cond (.t 35)
 (.region [oa 36 5,
 oa 37 6,
 oc 38 (.buildSlice 1 1 [(.int .i64 0)] [(0,(.t 37))]),
 oc 39 (.append false 1 (.t 36) (.t 38)),
 oa 5 39] [35,36,37,38,39])
 (.skip))))
 (.region [oa 12 6,
 oc 13 (.bin .add (.t 12) (ki 1)),
 oa 6 13] [12,13,35]))))))
 (.seq (.region [oa 40 5,
 oa 4 40] [5,40])
 (.ret))))
theorem ac81_ok : cFunc Tryz.prog [] [(0,[1,4],[]),(1,[7],[]),(2,[],[]),(3,[8,9,10],[]),(5,[11,14,15,16,17,18,19,20,21,22,23,24,25,26,27,28,29,30,31,32,33,34],[0,1,2,3,4,6,5,7,8,9,10,11,12,13,14,17,15,16,18,19,20,21]),(6,[35,36,37,38,39],[]),(4,[12,13,35],[]),(7,[5,40],[])] Tryz.f81 = some (ac81,[.tmp 4],41) := by kernel_rfl
def hits (c : Cl) (g : Tm) : Bool := decide (c.head.s = g.s) && decide ((c.head.kids.length : Int) = g.kids.length)
/-- the places of the clauses for a goal -/
def forI (p : List Cl) (g : Tm) : Nat → List Int
  | 0 => []
  | i + 1 => forI p g i ++ (match p[i]? with | some c => if hits c g then [(i : Int)] else [] | none => [])
theorem forI_len (p : List Cl) (g : Tm) : ∀ i, (forI p g i).length ≤ i
  | 0 => by simp [forI]
  | i + 1 => by
    have := forI_len p g i
    rw [forI, List.length_append]
    split
    · split <;> simp <;> omega
    · simp; omega
theorem forI_hit {p : List Cl} {g : Tm} {i : Nat} (hi : i < p.length) (h : hits p[i] g = true) : forI p g (i + 1) = forI p g i ++ [(i : Int)] := by
  rw [forI, List.getElem?_eq_getElem hi]; simp [h]
theorem forI_miss {p : List Cl} {g : Tm} {i : Nat} (hi : i < p.length) (h : hits p[i] g = false) : forI p g (i + 1) = forI p g i := by
  rw [forI, List.getElem?_eq_getElem hi]; simp [h]
theorem l4For_calls (p : List Cl) (hp : FitsC p) (g : Tm) (hg : g.fits) (H : Heap) : ACalls Tryz.prog 81 [.c (.d (.sl (p.map Cl.row))), .agg (g.row.map .d)] H (fun r H' => H' = H ∧ r = .c (.d (.sl (intRows (forI p g p.length))))) := by
  have hl := hp.1
  have hli : inR .i64 (p.length : Int) := small_i64 (by omega) (by omega)
  obtain ⟨gk, gn, gs, gl⟩ := g
  obtain ⟨_, _, _, hgl, _⟩ := hg
  have hgi : inR .i64 (gl.length : Int) := small_i64 (by omega) (by omega)
  generalize hG : Tm.mk gk gn gs gl = G
  have es : G.s = gs := by rw [← hG]; rfl
  have el : G.kids = gl := by rw [← hG]; rfl
  have er : G.row = [.int .i64 gk, .int .i64 gn, .str gs, .sl (gl.map Tm.row)] := by rw [← hG]; exact row_mk _ _ _ _
  refine acalls Tryz.func81 (by kernel_rfl) ac81_ok fun hf => ?_
  rw [er]
  simp -implicitDefEqProofs [ac81, hli, go_sem, -List.set_cons_succ, -List.set_cons_zero]
  refine loop_enter (St.le_token 5 1 rfl) ?_
  refine loop_set (σ := Nat) (fun i => [(6, .c (.d (.int .i64 i))), (5, .c (.own (.l 1) (forI p G i).length (intRows (forI p G i))))]) (fun _ => H) (fun i => [.cells [.d (.int .i64 gk), .d (.int .i64 gn), .d (.str gs), .d (.sl (gl.map Tm.row))], .grow (forI p G i).length 1]) (fun i => i ≤ p.length) (fun i => p.length - i) 0 rfl (Nat.zero_le _) ?_
  intro i hi
  have hfl := forI_len p G i
  simp -implicitDefEqProofs [setAll, hli, go_sem, -List.set_cons_succ, -List.set_cons_zero]
  refine ⟨fun hlt => ?_, fun hge => ?_⟩
  · have hc := hp.2 p[i] (List.getElem_mem hlt)
    have hkl : p[i].head.kids.length ≤ 1048576 := by
      have := hc.head
      cases hh : p[i].head with
      | mk a b c d => rw [hh] at this; obtain ⟨_, _, _, h4, _⟩ := this; exact h4
    have hki : inR .i64 (p[i].head.kids.length : Int) := small_i64 (by omega) (by omega)
    have hadd : inR .i64 ((i : Int) + 1) := small_i64 (by omega) (by omega)
    refine row_of hlt rfl ?_
    simp -implicitDefEqProofs [Cl.row, hf, hki, hgi, hadd, go_sem, -List.set_cons_succ, -List.set_cons_zero]
    refine ⟨fun _ => by omega, p[i].row, fun _ => ⟨by simp [hlt], rfl⟩, ?_⟩
    simp -implicitDefEqProofs [Cl.row, hf, hki, hgi, hadd, go_sem, -List.set_cons_succ, -List.set_cons_zero]
    refine ⟨fun e1 e2 => ?_, fun h => ?_⟩
    · have hh : hits p[i] G = true := by simp [hits, es, el, e1]; omega
      have hnx := forI_hit hlt hh
      have hr : intRows (forI p G i) ++ [[D.int IntKind.i64 (i : Int)]] = intRows (forI p G (i + 1)) := by rw [hnx]; simp [intRows]
      have hn : (forI p G i).length + 1 = (forI p G (i + 1)).length := by rw [hnx]; simp
      simp -implicitDefEqProofs [allLen_ints, go_sem, -List.set_cons_succ, -List.set_cons_zero]
      refine ⟨by rw [intRows_len]; unfold maxApp; omega, ?_⟩
      rw [hr, hn]
      exact loop_back (i + 1) (by simp [setAll]) hlt (by show p.length - (i + 1) < p.length - i; omega)
    · have hh : hits p[i] G = false := by
        simp only [hits, es, el, Bool.and_eq_false_iff, decide_eq_false_iff_not]
        by_cases e : p[i].head.s = gs
        · exact .inr (h e)
        · exact .inl e
      have hnx := forI_miss hlt hh
      exact loop_back (i + 1) (by simp [setAll, hnx]) hlt (by show p.length - (i + 1) < p.length - i; omega)
  · obtain rfl : i = p.length := by omega
    simp
namespace Sv
-- 56 loop.example/prologserver/spec.l6Start params 1 ntmps 10
def ac56 : Cd := .seq (.region [oc 2 (.alloc [(.full []),(.full []),(.full [])])] [])
 (.seq (.region [oc 4 (.mkSlice [(.int .i64 0),(.int .i64 0),(.str []),(.sl [])] (ki 26)),
 oc 5 (.build [(.full []),(.full []),(.full [])] [(1,1,(.t 4))]),
 oc 3 (.alloc [(.full []),(.full []),(.full [])]),
 ⟨none,.store 3 (.t 3) (.t 5),none⟩] [4,5])
 (.seq (.region [oa 6 0,
 oc 7 (.qcall 74 [(.t 6),(ki 0),(ki 0),(.k (.c (.full [])))]),
 oc 8 (.fieldAddr 0 (.t 3)),
 ⟨none,.store 1 (.t 8) (.t 7),none⟩] [0,6,7,8])
 (.seq (.region [oc 9 (.load (some 3) (.t 3)),
 ⟨none,.store 3 (.t 2) (.t 9),none⟩] [3,9])
 (.ret))))
theorem ac56_ok : cFunc Tryz.prog [1000074] [(0,[],[]),(1,[4,5],[]),(2,[0,6,7,8],[]),(3,[3,9],[])] Tryz.f56 = some (ac56,[.cell 2 (some 3)],10) := by kernel_rfl
-- 59 loop.example/prologserver/spec.l6Back params 2 ntmps 42
-- loop head live: [0,3,4]
def ac59 : Cd := .seq (.region [oc 3 (.box (.t 1)),
 oc 4 (.alloc [(.full []),(.full []),(.full [])]),
 oc 5 (.mv (.k (.c (.d (.bool false)))))] [1,5])
 (.seq (.block 0 (.loop (.seq (.seq (.region [oc 10 (.fieldAddr 2 (.t 3)),
 oc 11 (.load none (.t 10)),
 oc 12 (.len 1 (.t 11)),
 oc 13 (.bin .gtr (.t 12) (ki 0))] [10,11,12])
 (.cond (.t 13)
 (.skip)
 (.exit 0)))
 (.block 1 (.seq (.region [oc 14 (.fieldAddr 2 (.t 3)),
 oc 15 (.load none (.t 14)),
 oc 16 (.len 1 (.t 15)),
 oc 17 (.bin .sub (.t 16) (ki 1)),
 oa 6 17] [13,14,15,16,17])
 (.seq (.region [oc 18 (.fieldAddr 2 (.t 3)),
 oc 19 (.load none (.t 18)),
 oa 20 6,
 oc 21 (.indexAddr 7 (.t 19) (.t 20)),
 oc 22 (.load (some 7) (.t 21)),
 oc 7 (.alloc [(.d (.int .i64 0)),(.d (.int .i64 0)),(.d (.str [])),(.full []),(.full []),(.full []),(.full [])]),
 ⟨none,.store 7 (.t 7) (.t 22),none⟩] [18,19,20,21,22])
 (.seq (.region [oa 24 0,
 oc 25 (.fieldAddr 2 (.t 3)),
 oa 27 6,
 oc 26 (.load none (.t 25)),
 oc 28 (.slice 7 (.t 26) none (some (.t 27)) none),
 oc 29 (.build [(.full []),(.full []),(.full [])] [(2,1,(.t 28))]),
 oc 30 (.load (some 7) (.t 7)),
 oc 31 (.qcall 82 [(.t 24),(.t 29),(.t 30)]),
 oa 23 31,
 oc 32 (.extract 0 (.t 23)),
 oc 33 (.extract 1 (.t 23)),
 oc 8 (.alloc [(.full []),(.full []),(.full [])]),
 ⟨none,.store 3 (.t 8) (.t 32),none⟩,
 oa 9 33] [7,23,24,25,26,27,28,29,30,31,32,33])
 (.seq (.seq (.region [oa 34 9] [9])
 (.cond (.t 34)
 (.seq (.region [oc 35 (.load (some 3) (.t 8)),
 ⟨none,.store 3 (.t 4) (.t 35),none⟩,
 oc 5 (.mv (.k (.c (.d (.bool true)))))] [0,3,6,8,34,35])
 (.ret))
 (.skip)))
 (.region [oc 36 (.fieldAddr 2 (.t 3)),
 oc 37 (.load none (.t 36)),
 oa 38 6,
 oc 39 (.slice 7 (.t 37) none (some (.t 38)) none),
 oc 40 (.build [(.full []),(.full []),(.full [])] [(2,1,(.t 39))]),
 ⟨none,.store 3 (.t 3) (.t 40),none⟩] [5,6,8,34,36,37,38,39,40])))))))))
 (.seq (.region [oc 41 (.load (some 3) (.t 3)),
 ⟨none,.store 3 (.t 4) (.t 41),none⟩,
 oc 5 (.mv (.k (.c (.d (.bool false)))))] [3,41])
 (.ret)))
theorem ac59_ok : cFunc Tryz.prog [1000082] [(0,[1,5],[]),(1,[10,11,12],[]),(2,[13,14,15,16,17],[]),(3,[18,19,20,21,22],[]),(4,[7,23,24,25,26,27,28,29,30,31,32,33],[0,1,3,2,4,5,6,7,8,9,10,11,12,13]),(5,[9],[]),(6,[0,3,6,8,34,35],[]),(7,[5,6,8,34,36,37,38,39,40],[]),(8,[3,41],[])] Tryz.f59 = some (ac59,[.cell 4 (some 3),.tmp 5],42) := by kernel_rfl
-- 80 loop.example/prologserver/spec.l6End params 1 ntmps 10
def ac80 : Cd := .seq (.region [oc 2 (.mv (ki 0))] [2])
 (.seq (.seq (.region [oa 3 0] [0])
 (.block 0 (.seq (.region [oc 5 (.bin .eql (.t 3) (ki 2)),
 oa 4 5] [5])
 (.cond (.t 4)
 (.seq (.region [oc 2 (.mv (ki 4))] [3,4])
 (.ret))
 (.seq (.region [oc 7 (.bin .eql (.t 3) (ki 3)),
 oa 6 7] [4,7])
 (.cond (.t 6)
 (.seq (.region [oc 2 (.mv (ki 5))] [3,6])
 (.ret))
 (.seq (.region [oc 9 (.bin .eql (.t 3) (ki 4)),
 oa 8 9] [3,6,9])
 (.cond (.t 8)
 (.seq (.region [oc 2 (.mv (ki 6))] [8])
 (.ret))
 (.skip)))))))))
 (.seq (.region [oc 2 (.mv (ki 7))] [8])
 (.ret)))
theorem ac80_ok : cFunc Tryz.prog [] [(0,[2],[]),(1,[0],[]),(2,[5],[]),(3,[3,4],[]),(4,[4,7],[]),(5,[3,6],[]),(6,[3,6,9],[]),(7,[8],[]),(8,[8],[])] Tryz.f80 = some (ac80,[.tmp 2],10) := by kernel_rfl
-- 58 loop.example/prologserver/spec.l6Step params 2 ntmps 94
def ac58 : Cd := .seq (.region [oc 3 (.box (.t 1)),
 oc 4 (.alloc [(.full []),(.full []),(.full [])]),
 oc 5 (.mv (ki 0))] [1,5])
 (.seq (.region [oc 15 (.fieldAddr 0 (.t 3)),
 oc 16 (.load none (.t 15)),
 oc 17 (.indexAddr 5 (.t 16) (ki 0)),
 oc 18 (.load (some 5) (.t 17)),
 oc 6 (.alloc [(.d (.int .i64 0)),(.d (.int .i64 0)),(.d (.str [])),(.full []),(.d (.int .i64 0))]),
 ⟨none,.store 5 (.t 6) (.t 18),none⟩] [15,16,17,18])
 (.seq (.region [oc 19 (.fieldAddr 0 (.t 3)),
 oc 20 (.load none (.t 19)),
 oc 21 (.slice 5 (.t 20) (some (ki 1)) none none),
 oa 7 21] [19,20,21])
 (.seq (.region [oc 23 (.fieldAddr 0 (.t 6)),
 oc 24 (.load (some 4) (.t 23)),
 oc 25 (.fieldAddr 1 (.t 3)),
 oc 26 (.load none (.t 25)),
 oc 27 (.call false 75 [(.t 24),(.t 26)]),
 oa 22 27,
 oc 28 (.extract 0 (.t 22)),
 oc 29 (.extract 1 (.t 22)),
 oc 8 (.alloc [(.d (.int .i64 0)),(.d (.int .i64 0)),(.d (.str [])),(.full [])]),
 ⟨none,.store 4 (.t 8) (.t 28),none⟩,
 oa 9 29] [22,23,24,25,26,27,28,29])
 (.seq (.seq (.region [oa 30 9,
 oc 31 (.un .not (.t 30))] [9,30])
 (.cond (.t 31)
 (.seq (.region [oc 32 (.load (some 3) (.t 3)),
 ⟨none,.store 3 (.t 4) (.t 32),none⟩,
 oc 5 (.mv (ki 3))] [0,3,6,7,8,31,32])
 (.ret))
 (.skip)))
 (.seq (.seq (.region [oc 33 (.load (some 4) (.t 8)),
 oc 34 (.qcall 78 [(.t 33)])] [5,31,33])
 (.cond (.t 34)
 (.seq (.region [oa 35 7,
 oc 36 (.fieldAddr 1 (.t 3)),
 oc 38 (.fieldAddr 2 (.t 3)),
 oc 40 (.fieldAddr 4 (.t 6)),
 oc 37 (.load none (.t 36)),
 oc 39 (.load none (.t 38)),
 oc 41 (.load none (.t 40)),
 oc 42 (.slice 7 (.t 39) none (some (.t 41)) none),
 oc 43 (.build [(.full []),(.full []),(.full [])] [(0,1,(.t 35)),(1,1,(.t 37)),(2,1,(.t 42))]),
 ⟨none,.store 3 (.t 4) (.t 43),none⟩,
 oc 5 (.mv (ki (-1)))] [0,3,6,7,8,34,35,36,37,38,39,40,41,42,43])
 (.ret))
 (.skip)))
 (.seq (.seq (.region [oc 44 (.fieldAddr 2 (.t 8)),
 oc 45 (.load none (.t 44)),
 oc 46 (.fieldAddr 3 (.t 8)),
 oc 47 (.load none (.t 46)),
 oc 48 (.len 1 (.t 47)),
 oc 49 (.qcall 49 [(.t 45),(.t 48)])] [5,6,34,44,45,46,47,48])
 (.cond (.t 49)
 (.seq (.region [oc 50 (.buildSlice 4 0 [(.int .i64 0),(.int .i64 0),(.str []),(.sl [])] []),
 oc 51 (.fieldAddr 1 (.t 3)),
 oc 52 (.load none (.t 51)),
 oc 53 (.appendF 4 (.t 50) (.t 52)),
 oa 10 53] [0,49,50,51,52,53])
 (.seq (.region [oc 54 (.load (some 4) (.t 8)),
 oa 55 10,
 oc 56 (.call false 79 [(.t 54),(.t 55)]),
 oa 11 56] [8,54,55,56])
 (.seq (.seq (.weak (.region [oa 57 11] []))
 (.block 0 (.seq (.region [oc 59 (.bin .eql (.t 57) (ki 0)),
 oa 58 59] [59])
 (.cond (.t 58)
 (.seq (.region [oa 60 7,
 oa 61 10,
 oc 62 (.fieldAddr 2 (.t 3)),
 oc 63 (.load none (.t 62)),
 oc 64 (.build [(.full []),(.full []),(.full [])] [(0,1,(.t 60)),(1,1,(.t 61)),(2,1,(.t 63))]),
 ⟨none,.store 3 (.t 4) (.t 64),none⟩,
 oc 5 (.mv (ki (-1)))] [3,7,10,11,57,58,60,61,62,63,64])
 (.ret))
 (.seq (.region [oc 66 (.bin .eql (.t 57) (ki 1)),
 oa 65 66] [7,10,57,58,66])
 (.cond (.t 65)
 (.seq (.region [oc 67 (.load (some 3) (.t 3)),
 ⟨none,.store 3 (.t 4) (.t 67),none⟩,
 oc 5 (.mv (ki (-2)))] [3,11,65,67])
 (.ret))
 (.skip)))))))
 (.seq (.region [oa 69 11,
 oc 68 (.load (some 3) (.t 3)),
 oc 70 (.qcall 80 [(.t 69)]),
 ⟨none,.store 3 (.t 4) (.t 68),none⟩,
 oa 5 70] [3,11,65,68,69,70])
 (.ret)))))
 (.skip)))
 (.seq (.region [oa 71 0,
 oc 72 (.load (some 4) (.t 8)),
 oc 73 (.qcall 81 [(.t 71),(.t 72)]),
 oa 12 73] [5,49,71,72,73])
 (.seq (.seq (.region [oa 74 12,
 oc 75 (.len 1 (.t 74)),
 oc 76 (.bin .eql (.t 75) (ki 0))] [74,75])
 (.cond (.t 76)
 (.seq (.region [oc 77 (.load (some 3) (.t 3)),
 ⟨none,.store 3 (.t 4) (.t 77),none⟩,
 oc 5 (.mv (ki 8))] [0,3,7,8,12,76,77])
 (.ret))
 (.skip)))
 (.seq (.region [oa 79 0,
 oc 80 (.load (some 3) (.t 3)),
 oc 81 (.load (some 4) (.t 8)),
 oa 82 7,
 oa 83 12,
 oc 84 (.fieldAddr 1 (.t 3)),
 oc 85 (.load none (.t 84)),
 oc 86 (.build [(.d (.int .i64 0)),(.d (.int .i64 0)),(.d (.str [])),(.full []),(.full []),(.full []),(.full [])] [(0,4,(.t 81)),(4,1,(.t 82)),(5,1,(.t 83)),(6,1,(.t 85))]),
 oc 87 (.qcall 82 [(.t 79),(.t 80),(.t 86)]),
 oa 78 87,
 oc 88 (.extract 0 (.t 78)),
 oc 89 (.extract 1 (.t 78)),
 oc 13 (.alloc [(.full []),(.full []),(.full [])]),
 ⟨none,.store 3 (.t 13) (.t 88),none⟩,
 oa 14 89] [0,5,7,8,12,76,78,79,80,81,82,83,84,85,86,87,88,89])
 (.seq (.seq (.region [oa 90 14,
 oc 91 (.un .not (.t 90))] [14,90])
 (.cond (.t 91)
 (.seq (.region [oc 92 (.load (some 3) (.t 3)),
 ⟨none,.store 3 (.t 4) (.t 92),none⟩,
 oc 5 (.mv (ki (-2)))] [3,13,91,92])
 (.ret))
 (.skip)))
 (.seq (.region [oc 93 (.load (some 3) (.t 13)),
 ⟨none,.store 3 (.t 4) (.t 93),none⟩,
 oc 5 (.mv (ki (-1)))] [3,13,91,93])
 (.ret))))))))))))
theorem ac58_ok : cFunc Tryz.prog [1000049,1000078,1000080,1000081,1000082,3000050,4000011] [(0,[1,5],[]),(1,[15,16,17,18],[]),(2,[19,20,21],[]),(3,[22,23,24,25,26,27,28,29],[]),(4,[9,30],[]),(5,[0,3,6,7,8,31,32],[]),(6,[5,31,33],[]),(7,[0,3,6,7,8,34,35,36,37,38,39,40,41,42,43],[0,1,3,5,2,4,6,7,8,9,10]),(8,[5,6,34,44,45,46,47,48],[]),(9,[0,49,50,51,52,53],[]),(10,[8,54,55,56],[]),(11,[],[]),(12,[59],[]),(13,[3,7,10,11,57,58,60,61,62,63,64],[]),(14,[7,10,57,58,66],[]),(15,[3,11,65,67],[]),(16,[3,11,65,68,69,70],[1,0,2,3,4]),(17,[5,49,71,72,73],[]),(18,[74,75],[]),(19,[0,3,7,8,12,76,77],[]),(20,[0,5,7,8,12,76,78,79,80,81,82,83,84,85,86,87,88,89],[]),(21,[14,90],[]),(22,[3,13,91,92],[]),(23,[3,13,91,93],[])] Tryz.f58 = some (ac58,[.cell 4 (some 3),.tmp 5],94) := by kernel_rfl
theorem ss_take {np B : Nat} {chs : List Ch} (h : ∀ j c, chs[j]? = some c → ChOk np B j c) (n : Nat) : ∀ j c, (chs.take n)[j]? = some c → ChOk np B j c := fun j c hj => by
  rw [List.getElem?_take] at hj
  split at hj
  · exact h j c hj
  · cases hj
theorem sl_refl : ∀ l : List A, Sl.le l l
  | [] => trivial
  | a :: l => ⟨.refl a, sl_refl l⟩
/-! ## going back -/
/-- a state that is all right where there is one -/
def TryR (np B : Nat) (r : A) : Prop := ∃ (s : Ss) (ok : Bool), r = .tup [.agg (s.ds.map .d), .c (.d (.bool ok))] ∧ (ok = true → SsOk np B s)
theorem TryR.re {np B n : Nat} {r : A} (h : TryR np B r) : A.re n r = r := by
  obtain ⟨s, ok, rfl, _⟩ := h
  rfl
set_option maxHeartbeats 1600000 in
theorem back_calls {p : List Cl} {B : Nat} (hp : ∀ x ∈ p, ClOk x) (hpl : p.length ≤ 100) (hB : B ≤ 10000) (s : Ss) (hs : SsOk p.length B s) (H : Heap) :
    ACalls Tryz.prog 59 [.c (.d (.sl (p.map Cl.row))), .agg (s.ds.map .d)] H (fun r H' => H' = H ∧ TryR p.length B r) := by
  refine acalls Tryz.func59 (by kernel_rfl) ac59_ok fun hf => ?_
  obtain ⟨sg, sb, sc⟩ := s
  have hch := hs.all
  have hl := hs.len
  simp only at hch hl
  simp -implicitDefEqProofs [ac59, Ss.ds, hf, go_sem, -List.set_cons_succ, -List.set_cons_zero]
  refine loop_le (σ := Ss) (fun s => []) (fun _ => H) (fun s => [.cells [.d (.sl (s.goals.map Gl.row)), .d (.sl (s.binds.map Tm.row)), .d (.sl (s.choices.map Ch.row))], .cells [.full [], .full [], .full []]]) (fun s => s.choices.length ≤ sc.length ∧ ∀ j c, s.choices[j]? = some c → ChOk p.length B j c) (fun s => s.choices.length) ⟨sg, sb, sc⟩ (St.le_refl _) ⟨Nat.le_refl _, hch⟩ ?_
  rintro ⟨qg, qb, qc⟩ ⟨hq1, hq2⟩
  simp only at hq1 hq2
  have hli : inR .i64 (qc.length : Int) := small_i64 (by omega) (by omega)
  simp -implicitDefEqProofs [setAll, hli, hf, go_sem, -List.set_cons_succ, -List.set_cons_zero]
  refine ⟨fun hlt => ?_, fun hge => ⟨⟨qg, qb, qc⟩, false, rfl, by simp⟩⟩
  have hsub : inR .i64 ((qc.length : Int) - 1) := small_i64 (by omega) (by omega)
  have hlast : qc.length - 1 < qc.length := by omega
  have hrow : (qc.map Ch.row)[((qc.length : Int) - 1).toNat]? = some qc[qc.length - 1].row := by
    rw [show ((qc.length : Int) - 1).toNat = qc.length - 1 by omega, List.getElem?_map, List.getElem?_eq_getElem hlast]; rfl
  have hco := hq2 (qc.length - 1) _ (List.getElem?_eq_getElem hlast)
  generalize qc[qc.length - 1] = c at hrow hco
  simp -implicitDefEqProofs [hsub, hf, go_sem, -List.set_cons_succ, -List.set_cons_zero]
  refine row_int _ (by omega) hrow rfl ?_
  have hsl : ((qc.length : Int) - 1).toNat = qc.length - 1 := by omega
  have htl : (qc.take (qc.length - 1)).length = qc.length - 1 := by simp
  obtain ⟨F, hF, ct⟩ := try_calls hp hpl hB ⟨[], [], qc.take (qc.length - 1)⟩ (ss_take hq2 _) c (by simp only; rw [htl]; exact hco) (by simp only; rw [htl]; omega)
  obtain ⟨⟨fg, fb, fc⟩, ok⟩ := F
  obtain ⟨⟨gk, gn, gs, gl⟩, rest, left, binds⟩ := c
  simp only [Ch.row, Ss.ds, List.map_cons, List.map_nil, Tm.k, Tm.n, Tm.s, Tm.kids, List.map_take] at ct
  simp -implicitDefEqProofs [Ch.row, Tm.k, Tm.n, Tm.s, Tm.kids, hsl, hf, go_sem, -List.set_cons_succ, -List.set_cons_zero]
  refine ⟨allLen_map chrow_len, ⟨by omega, by omega⟩, ?_⟩
  refine qcall_pure ct hf rfl ?_
  simp -implicitDefEqProofs [hsl, hf, go_sem, -List.set_cons_succ, -List.set_cons_zero]
  refine ⟨fun hok => ⟨⟨fg, fb, fc⟩, true, rfl, fun _ => hF hok⟩, fun hok => ?_⟩
  refine ⟨allLen_map chrow_len, ⟨by omega, by omega⟩, ?_⟩
  refine loop_less ⟨[], [], qc.take (qc.length - 1)⟩ (St.le_trans (St.le_cut [_, _] (loc' := [_, _]) ?_ ?_ rfl ?_) (St.le_more (sl_refl _) ⟨by simpa [C.pure] using Ob.le.pure [.full [], .full [], .d (.sl ((qc.map Ch.row).take (qc.length - 1)))], Ob.le.refl _, trivial⟩)) ⟨by simp only; omega, ss_take hq2 _⟩ (by show (qc.take (qc.length - 1)).length < qc.length; omega)
  · simp [setAll, Sl.le, A.le_refl_iff, A.le_u_iff, As.lo, A.lo, C.lo, Ref.lo, Cs.lo, Obs.lo, Ob.lo, setAll, and_true, true_and, List.length_nil, List.length_cons]
  · simp [setAll, Sl.le, A.le_refl_iff, A.le_u_iff, As.lo, A.lo, C.lo, Ref.lo, Cs.lo, Obs.lo, Ob.lo, setAll, and_true, true_and, List.length_nil, List.length_cons]
  · simp [Sl.le, A.le_refl_iff, A.le_u_iff, As.lo, A.lo, C.lo, Ref.lo, Cs.lo, Obs.lo, Ob.lo, setAll, and_true, true_and, List.length_nil, List.length_cons]
/-! ## the start -/
def startS (q : List Tm) : Ss := ⟨q.map fun t => Gl.mk (shT (0 : Nat) t) 0, List.replicate 26 (.mk 0 0 [] []), []⟩
theorem start_ok {np : Nat} {q : List Tm} (hq : q.length ≤ 7) (h : ∀ t ∈ q, Tz 26 t) : SsOk np 26 (startS q) := by
  have h0 : Sok 0 [] := ⟨rfl, by simp, ⟨fun _ => 1, ⟨fun _ => Nat.le_refl _, fun n u h => ?_⟩⟩⟩
  · have := sok_ext (k := 26) h0
    rw [List.nil_append, Nat.zero_add] at this
    refine ⟨⟨26, by omega, by omega, this, ?_⟩, by simp [startS]; omega, by simp [startS], by simp [startS]⟩
    have := Gs.app (N := 26) (K := 0) (l := []) trivial (q.map (shT (0 : Nat))) (fun t ht => by
      obtain ⟨x, hx, rfl⟩ := List.mem_map.1 ht
      exact sh_tz (by omega) (h x hx))
    rw [List.map_map, List.append_nil] at this
    exact this
  · obtain ⟨_, h2, _⟩ := lkL_some h
    simp at h2
theorem start_calls {q : List Tm} (hq : q.length ≤ 7) (h : ∀ t ∈ q, Tz 26 t) (H : Heap) : ACalls Tryz.prog 56 [.c (.d (.sl (q.map Tm.row)))] H (fun r H' => H' = H ∧ r = .agg ((startS q).ds.map .d)) := by
  refine acalls Tryz.func56 (by kernel_rfl) ac56_ok fun hf => ?_
  simp -implicitDefEqProofs [ac56, hf, go_sem, -List.set_cons_succ, -List.set_cons_zero]
  refine ⟨by unfold maxApp; omega, ?_⟩
  have cg := fun H => goals_calls (M := 26) (by omega) q hq (fun t ht => (h t ht).1) 0 (by omega) 0 [] (by simp) H
  refine qcall_pure cg hf rfl ?_
  simp -implicitDefEqProofs [startS, Ss.ds, row_mk, hf, go_sem, -List.set_cons_succ, -List.set_cons_zero]
/-! ## the first goal -/
theorem end_calls (c : Int) (H : Heap) : ACalls Tryz.prog 80 [.c (.d (.int .i64 c))] H (fun r H' => H' = H ∧ r = .c (.d (.int .i64 (if c = 2 then 4 else if c = 3 then 5 else if c = 4 then 6 else 7)))) := by
  refine acalls Tryz.func80 (by kernel_rfl) ac80_ok fun hf => ?_
  simp -implicitDefEqProofs [ac80, hf, go_sem, -List.set_cons_succ, -List.set_cons_zero]
  refine ⟨fun h => by simp [h], fun h1 => ⟨fun h => by simp [h], fun h2 => ⟨fun h => by simp [h], fun h3 => by simp [h1, h2, h3]⟩⟩⟩
/-- a search is over, or the goal fails, or the search goes on from a state that is all right -/
def StepR (np B : Nat) (r : A) : Prop := ∃ (s : Ss) (e : Int), r = .tup [.agg (s.ds.map .d), .c (.d (.int .i64 e))] ∧ (0 ≤ e ∨ e = -2 ∨ e = -1 ∧ SsOk np B s)
theorem StepR.re {np B n : Nat} {r : A} (h : StepR np B r) : A.re n r = r := by
  obtain ⟨s, e, rfl, _⟩ := h
  rfl
theorem forI_mem {p : List Cl} {g : Tm} : ∀ i, ∀ x ∈ forI p g i, 0 ≤ x ∧ x < (i : Int)
  | 0, x, h => by simp [forI] at h
  | i + 1, x, h => by
    rw [forI] at h
    rcases List.mem_append.1 h with h | h
    · have := forI_mem i x h
      omega
    · split at h
      · split at h
        · rw [List.mem_singleton.1 h]; omega
        · simp at h
      · simp at h
theorem call_solveL {N : Nat} {L : List Tm} {g : Tm} (hc : ∀ (H : Heap) (i : Nat), H[i]? = some (stO L) → ACalls Tryz.prog 79 [.agg (g.row.map .d), .c (.fsl (.e i) N 4)] H (fun r H' => SolveR N L H i r H')) {ext : Heap} {j : Nat} {sl : List A} {loc H₂ : Heap} {K : A → St → Prop}
    (hj : loc[j]? = some (stO L)) (hf : Obs.fits ext.length 0 ext) (hH : H₂ = ext ++ loc.map (Ob.re ext.length)) (hk : ∀ code L', Nx N L L' → K (.c (.d (.int .i64 code))) ⟨sl, ext, loc.set j (stO L')⟩) : ACalls Tryz.prog 79 [.agg (g.row.map .d), .c (.fsl (.e (ext.length + j)) N 4)] H₂ (CallK K ⟨sl, ext, loc⟩) := by
  subst hH
  refine (hc _ (ext.length + j) (by rw [List.getElem?_append_right (by omega), Nat.add_sub_cancel_left, List.getElem?_map, hj]; rfl)).mono fun r H' ⟨code, L', h1, h2, h3⟩ => ?_
  refine ⟨ext, loc.set j (stO L'), _, ?_, rfl, by simp, hf, by rw [h1]; rfl, hk code L' h2⟩
  rw [h3, List.set_append_right _ _ (by omega), Nat.add_sub_cancel_left, List.map_set]
  rfl
set_option maxHeartbeats 3200000 in
theorem step_calls {p : List Cl} {B : Nat} (hp : ∀ x ∈ p, ClOk x) (hpl : p.length ≤ 100) (hB : B ≤ 9900) (s : Ss) (hs : SsOk p.length B s) (hg0 : s.goals ≠ []) (H : Heap) :
    ACalls Tryz.prog 58 [.c (.d (.sl (p.map Cl.row))), .agg (s.ds.map .d)] H (fun r H' => H' = H ∧ StepR p.length (B + 26) r) := by
  refine acalls Tryz.func58 (by kernel_rfl) ac58_ok fun hf => ?_
  obtain ⟨sg, sb, sc⟩ := s
  obtain ⟨⟨N, hN0, hNB, hL, hgs⟩, hgl, hcl, hch⟩ := hs
  simp only at hL hgs hgl hcl hch hg0
  obtain ⟨⟨⟨gk, gn, gs, gl⟩, keep⟩, rest, rfl⟩ := List.exists_cons_of_ne_nil hg0
  obtain ⟨hkp, hgz, hrs⟩ := hgs
  simp only at hkp hgz hrs
  simp only [List.length_cons] at hgl
  have hkl : keep ≤ sc.length := hkp
  have hki : inR .i64 (keep : Int) := small_i64 (by omega) (by omega)
  have cs := fun H => small_calls (by omega) hL (.mk gk gn gs gl) hgz H
  simp only [row_mk, List.map_cons, List.map_nil] at cs
  simp -implicitDefEqProofs [ac58, Ss.ds, Gl.row, Tm.k, Tm.n, Tm.s, Tm.kids, hf, go_sem, -List.set_cons_succ, -List.set_cons_zero]
  refine row_nat (i := 0) _ (by simp; rfl) rfl ?_
  simp -implicitDefEqProofs [hf, go_sem, -List.set_cons_succ, -List.set_cons_zero]
  refine ⟨allLen_map grow_len, by omega, ?_⟩
  refine call_some (cs _) (by first | rfl | simp [Ob.re, C.re, re_d]) (fun r hr => hr.re) hf ?_
  rintro r ⟨u, ok, rfl, hu, hok⟩
  obtain ⟨uk, un, us, ul⟩ := u
  have ccut := cutSpec_calls (.mk uk un us ul) hu
  generalize Tm.cutB (.mk uk un us ul) = ctb at ccut
  simp only [row_mk, List.map_cons, List.map_nil] at ccut
  simp -implicitDefEqProofs [row_mk, hf, go_sem, -List.set_cons_succ, -List.set_cons_zero]
  refine ⟨fun _ => ⟨⟨⟨.mk gk gn gs gl, keep⟩ :: rest, sb, sc⟩, 3, rfl, .inl (by omega)⟩, fun hok1 => ?_⟩
  have ht := hok hok1
  have hul : ul.length ≤ 4 := ht.1.kids.1
  refine qcall_pure ccut hf rfl ?_
  simp -implicitDefEqProofs [hf, go_sem, -List.set_cons_succ, -List.set_cons_zero]
  have hchm : ∀ j c, sc[j]? = some c → ChOk p.length (B + 26) j c := fun j c h => (hch j c h).mono (by omega)
  refine ⟨fun _ => ⟨allLen_map chrow_len, hkl, ⟨rest, sb, sc.take keep⟩, -1, by simp [Ss.ds], .inr (.inr ⟨rfl, ⟨⟨N, hN0, by omega, hL, hrs.mono (Nat.le_refl _) (by simp; omega)⟩, by simp only; omega, by simp only [List.length_take]; omega, ss_take hchm keep⟩⟩)⟩, fun _ => ⟨small_i64 (by omega) (by omega), ?_⟩⟩
  refine qcall_pure (builtSpec_calls us ul.length) hf rfl ?_
  generalize hbu : builtB us ul.length = bu
  have hbl := hL.len
  simp -implicitDefEqProofs [hbl, hf, go_sem, -List.set_cons_succ, -List.set_cons_zero]
  have same : ∀ e : Int, (0 ≤ e ∨ e = -2) → StepR p.length (B + 26) (.tup [.agg [.d (.sl ([.int .i64 gk, .int .i64 gn, .str gs, .sl (gl.map Tm.row), .int .i64 keep] :: rest.map Gl.row)), .d (.sl (sb.map Tm.row)), .d (.sl (sc.map Ch.row))], .c (.d (.int .i64 e))]) := fun e he =>
    ⟨⟨⟨.mk gk gn gs gl, keep⟩ :: rest, sb, sc⟩, e, rfl, he.elim .inl fun h => .inr (.inl h)⟩
  refine ⟨fun hb => ⟨allLen_map row_len, by unfold maxApp; omega, fun h => absurd hbl (by rw [h]; simp; omega), fun _ => ?_⟩, fun hb => ?_⟩
  · have cso := @call_solveL N sb (.mk uk un us ul) (fun H i hi => solve_calls (by omega) (by omega) hL (.mk uk un us ul) ht (by rw [← hb, ← hbu]; rfl) H i hi)
    simp only [row_mk, List.map_cons, List.map_nil] at cso
    refine cso (j := 4) rfl hf (by first | rfl | simp [Ob.re, C.re, re_d]) fun code L' hx => ?_
    simp -implicitDefEqProofs [stO, hf, go_sem, -List.set_cons_succ, -List.set_cons_zero]
    refine weak_le (St.le_thaw (loc := [_, _, _, _]) 10 rfl (by simp [Sl.le, A.le_refl_iff, A.le_u_iff, As.lo, A.lo, C.lo, Ref.lo, Cs.lo, Obs.lo, Ob.lo, setAll, and_true, true_and, List.length_nil, List.length_cons]) (by simp [Sl.le, A.le_refl_iff, A.le_u_iff, As.lo, A.lo, C.lo, Ref.lo, Cs.lo, Obs.lo, Ob.lo, setAll, and_true, true_and, List.length_nil, List.length_cons])) ?_
    simp -implicitDefEqProofs [hf, go_sem, -List.set_cons_succ, -List.set_cons_zero]
    refine ⟨fun _ => ⟨⟨rest, L', sc⟩, -1, rfl, .inr (.inr ⟨rfl, ⟨⟨N, hN0, by omega, hx.1, hrs.mono (Nat.le_refl _) hkl⟩, by simp only; omega, by simp only; omega, hchm⟩⟩)⟩, fun _ => ⟨fun _ => same _ (.inr rfl), fun _ => ?_⟩⟩
    refine qcall_pure (end_calls code) hf rfl ?_
    simp -implicitDefEqProofs [hf, go_sem, -List.set_cons_succ, -List.set_cons_zero]
    refine same _ (.inl ?_)
    (repeat' split) <;> omega
  · have hpf : FitsC p := ⟨by omega, fun c hc => ⟨(hp c hc).head.1.fits (by omega), by have := (hp c hc).body; omega, fun t ht => ((hp c hc).all t ht).1.fits (by omega)⟩⟩
    have cfo := fun H => l4For_calls p hpf (.mk uk un us ul) hu H
    have hfl := forI_len p (.mk uk un us ul) p.length
    have hfm := forI_mem (p := p) (g := .mk uk un us ul) p.length
    generalize forI p (.mk uk un us ul) p.length = W at cfo hfl hfm
    simp only [row_mk, List.map_cons, List.map_nil] at cfo
    have hWi : inR .i64 (W.length : Int) := small_i64 (by omega) (by omega)
    refine qcall_pure cfo hf rfl ?_
    simp -implicitDefEqProofs [intRows_len, hWi, hf, go_sem, -List.set_cons_succ, -List.set_cons_zero]
    refine ⟨fun _ => same _ (.inl (by omega)), fun _ => ?_⟩
    obtain ⟨F, hF, ct⟩ := try_calls (B := B + 26) hp hpl (by omega) ⟨⟨.mk gk gn gs gl, keep⟩ :: rest, sb, sc⟩ hchm ⟨.mk uk un us ul, rest, W, sb⟩ ⟨⟨N, hN0, by omega, hL, ht, hrs.mono (Nat.le_refl _) hkl⟩, by simp only; omega, hfm, by simp only; omega⟩ (by simp only; omega)
    obtain ⟨⟨fg, fb, fc⟩, fo⟩ := F
    simp only [Ch.row, Ss.ds, Gl.row, List.map_cons, List.map_nil, Tm.k, Tm.n, Tm.s, Tm.kids] at ct
    refine qcall_pure ct hf rfl ?_
    simp -implicitDefEqProofs [hf, go_sem, -List.set_cons_succ, -List.set_cons_zero]
    exact ⟨fun _ => same _ (.inr rfl), fun h => ⟨⟨fg, fb, fc⟩, -1, rfl, .inr (.inr ⟨rfl, hF h⟩)⟩⟩
end Sv
-- 77 loop.example/prologserver/spec.l1All params 1 ntmps 16
-- loop head live: [0,3]
def ac77 : Cd := .seq (.region [oc 2 (.mv (.k (.c (.d (.bool false)))))] [2])
 (.seq (.seq (.region [oc 3 (.mv (ki 0))] [])
 (.block 0 (.loop (.seq (.seq (.region [oa 4 3,
 oa 5 0,
 oc 6 (.len 1 (.t 5)),
 oc 7 (.bin .lss (.t 4) (.t 6))] [4,5,6])
 (.cond (.t 7)
 (.skip)
 (.exit 0)))
 (.seq (.block 1 (.seq (.region [oa 10 0,
 oa 11 3,
 oc 12 (.indexAddr 4 (.t 10) (.t 11)),
 oc 13 (.load (some 4) (.t 12)),
 oc 14 (.qcall 67 [(.t 13)]),
 oc 15 (.un .not (.t 14))] [7,10,11,12,13,14])
 (.cond (.t 15)
 (.seq (.region [oc 2 (.mv (.k (.c (.d (.bool false)))))] [0,3,15])
 (.ret))
 (.skip))))
 (.region [oa 8 3,
 oc 9 (.bin .add (.t 8) (ki 1)),
 oa 3 9] [2,8,9,15]))))))
 (.seq (.region [oc 2 (.mv (.k (.c (.d (.bool true)))))] [])
 (.ret)))
theorem ac77_ok : cFunc Tryz.prog [1000067] [(0,[2],[]),(1,[],[]),(2,[4,5,6],[]),(4,[7,10,11,12,13,14],[]),(5,[0,3,15],[]),(3,[2,8,9,15],[]),(6,[],[])] Tryz.f77 = some (ac77,[.tmp 2],16) := by kernel_rfl
theorem l1All_calls (l : List Tm) (hl : l.length ≤ 1048576) (h : ∀ t ∈ l, t.fits) (H : Heap) : ACalls Tryz.prog 77 [.c (.d (.sl (l.map Tm.row)))] H (fun r H' => H' = H ∧ r = .c (.d (.bool (l.all Tm.valid)))) := by
  refine acalls Tryz.func77 (by kernel_rfl) ac77_ok fun hf => ?_
  have hli : inR .i64 (l.length : Int) := small_i64 (by omega) (by omega)
  simp -implicitDefEqProofs [ac77, hli, go_sem, -List.set_cons_succ, -List.set_cons_zero]
  refine loop_set (σ := Nat) (fun i => [(3, .c (.d (.int .i64 i)))]) (fun _ => H) (fun _ => []) (fun i => i ≤ l.length ∧ ∀ x ∈ l.take i, x.valid = true) (fun i => l.length - i) 0 rfl ⟨Nat.zero_le _, by simp⟩ ?_
  rintro i ⟨hi, hall⟩
  simp -implicitDefEqProofs [setAll, hli, go_sem, -List.set_cons_succ, -List.set_cons_zero]
  refine ⟨fun hlt => ?_, fun hge => ?_⟩
  · have hadd : inR .i64 ((i : Int) + 1) := small_i64 (by omega) (by omega)
    refine row_of hlt (row_len _) ?_
    simp -implicitDefEqProofs [row_len, take_row, pure_d, re_d, go_sem, -List.set_cons_succ, -List.set_cons_zero]
    refine qcall_pure (tvSpec_calls l[i] (h _ (List.getElem_mem hlt))) hf rfl ?_
    cases hv : l[i].valid with
    | false =>
      simp -implicitDefEqProofs [hv, go_sem, -List.set_cons_succ, -List.set_cons_zero]
      exact ⟨l[i], List.getElem_mem hlt, hv⟩
    | true =>
      simp -implicitDefEqProofs [hv, hadd, go_sem, -List.set_cons_succ, -List.set_cons_zero]
      refine loop_back (i + 1) (by simp [setAll]) ⟨hlt, fun x hx => ?_⟩ (by show l.length - (i + 1) < l.length - i; omega)
      rw [List.take_succ_eq_append_getElem hlt, List.mem_append] at hx
      rcases hx with hx | hx
      · exact hall x hx
      · simp at hx; subst hx; exact hv
  · rw [List.take_of_length_le hge] at hall
    exact hall
namespace Sv
-- 97 loop.example/prologserver/spec.l1Rename params 2 ntmps 55
-- loop head live: [1,2,4,5,6]
-- loop head live: [1,2,4,5,7]
def ac97 : Cd := .seq (.region [oc 2 (.box (.t 0)),
 oc 4 (.alloc [(.d (.int .i64 0)),(.d (.int .i64 0)),(.d (.str [])),(.full [])])] [0])
 (.seq (.region [oc 8 (.fieldAddr 0 (.t 2)),
 oc 9 (.load none (.t 8)),
 oc 10 (.fieldAddr 1 (.t 2)),
 oc 11 (.load none (.t 10)),
 oc 12 (.fieldAddr 2 (.t 2)),
 oc 13 (.load none (.t 12)),
 oc 14 (.build [(.d (.int .i64 0)),(.d (.int .i64 0)),(.d (.str [])),(.full [])] [(0,1,(.t 9)),(1,1,(.t 11)),(2,1,(.t 13))]),
 oc 5 (.alloc [(.d (.int .i64 0)),(.d (.int .i64 0)),(.d (.str [])),(.full [])]),
 ⟨none,.store 4 (.t 5) (.t 14),none⟩] [8,9,10,11,12,13,14])
 (.seq (.seq (.region [oc 6 (.mv (ki 0))] [])
 (.block 0 (.loop (.seq (.seq (.region [oa 15 6,
 oa 16 1,
 oc 17 (.len 1 (.t 16)),
 oc 18 (.bin .lss (.t 15) (.t 17)),
 oa 19 18,
 ⟨some 20,.fieldAddr 0 (.t 2),some (19,true)⟩,
 ⟨some 21,.load none (.t 20),some (19,true)⟩,
 ⟨some 22,.bin .eql (.t 21) (ki 1),some (19,true)⟩,
 oc 23 (.pick (.t 19) (.t 22) (.k (.c (.d (.bool false)))))] [15,16,17,18,19,20,21,22])
 (.cond (.t 23)
 (.skip)
 (.exit 0)))
 (.seq (.block 1 (.seq (.region [oa 26 1,
 oa 27 6,
 oc 28 (.indexAddr 1 (.t 26) (.t 27)),
 oc 30 (.fieldAddr 1 (.t 2)),
 oc 29 (.load none (.t 28)),
 oc 31 (.load none (.t 30)),
 oc 32 (.bin .eql (.t 29) (.t 31))] [23,26,27,28,29,30,31])
 (.cond (.t 32)
 (.region [oa 33 6,
 oc 34 (.fieldAddr 1 (.t 5)),
 ⟨none,.store 1 (.t 34) (.t 33),none⟩] [32,33,34])
 (.skip))))
 (.region [oa 24 6,
 oc 25 (.bin .add (.t 24) (ki 1)),
 oa 6 25] [24,25,32]))))))
 (.seq (.seq (.region [oc 7 (.mv (ki 0))] [])
 (.block 2 (.loop (.seq (.seq (.region [oa 35 7,
 oc 36 (.fieldAddr 3 (.t 2)),
 oc 37 (.load none (.t 36)),
 oc 38 (.len 1 (.t 37)),
 oc 39 (.bin .lss (.t 35) (.t 38))] [35,36,37,38])
 (.cond (.t 39)
 (.skip)
 (.exit 2)))
 (.seq (.block 3 (.region [oc 42 (.fieldAddr 3 (.t 5)),
 oc 44 (.fieldAddr 3 (.t 2)),
 oa 46 7,
 oa 49 1,
 oc 43 (.load none (.t 42)),
 oc 45 (.load none (.t 44)),
 oc 47 (.indexAddr 4 (.t 45) (.t 46)),
 oc 48 (.load (some 4) (.t 47)),
 oc 50 (.qcall 97 [(.t 48),(.t 49)]),
 oc 51 (.buildSlice 4 1 [(.int .i64 0),(.int .i64 0),(.str []),(.sl [])] [(0,(.t 50))]),
 oc 52 (.append false 4 (.t 43) (.t 51)),
 oc 53 (.fieldAddr 3 (.t 5)),
 ⟨none,.store 1 (.t 53) (.t 52),none⟩] [39,42,43,44,45,46,47,48,49,50,51,52,53]))
 (.region [oa 40 7,
 oc 41 (.bin .add (.t 40) (ki 1)),
 oa 7 41] [40,41]))))))
 (.seq (.region [oc 54 (.load (some 4) (.t 5)),
 ⟨none,.store 4 (.t 4) (.t 54),none⟩] [5,54])
 (.ret)))))
theorem ac97_ok : cFunc Tryz.prog [1000097] [(0,[0],[]),(1,[8,9,10,11,12,13,14],[]),(2,[],[]),(3,[15,16,17,18,19,20,21,22],[]),(5,[23,26,27,28,29,30,31],[0,1,2,4,3,5,6]),(6,[32,33,34],[]),(4,[24,25,32],[]),(7,[],[]),(8,[35,36,37,38],[]),(10,[39,42,43,44,45,46,47,48,49,50,51,52,53],[0,2,4,7,1,3,5,6,8,9,10,11,12]),(9,[40,41],[]),(11,[5,54],[])] Tryz.f97 = some (ac97,[.cell 4 (some 4)],55) := by kernel_rfl
-- 76 loop.example/prologserver/spec.l1Renumber params 1 ntmps 37
-- loop head live: [0,3,4]
-- loop head live: [0,3,5,6]
def ac76 : Cd := .seq (.region [oc 2 (.mv (.k (.c (.full []))))] [2])
 (.seq (.region [oc 7 (.buildSlice 1 0 [(.int .i64 0)] []),
 oa 3 7] [7])
 (.seq (.seq (.region [oc 4 (.mv (ki 0))] [])
 (.block 0 (.loop (.seq (.seq (.region [oa 8 4,
 oa 9 0,
 oc 10 (.len 1 (.t 9)),
 oc 11 (.bin .lss (.t 8) (.t 10))] [8,9,10])
 (.cond (.t 11)
 (.skip)
 (.exit 0)))
 (.seq (.block 1 (.region [oa 14 3,
 oa 15 0,
 oa 16 4,
 oc 17 (.indexAddr 4 (.t 15) (.t 16)),
 oc 18 (.load (some 4) (.t 17)),
 oc 19 (.call true 73 [(.t 14),(.t 18)]),
 oa 3 19] [11,14,15,16,17,18,19]))
 (.region [oa 12 4,
 oc 13 (.bin .add (.t 12) (ki 1)),
 oa 4 13] [12,13]))))))
 (.seq (.region [oc 20 (.buildSlice 4 0 [(.int .i64 0),(.int .i64 0),(.str []),(.sl [])] []),
 oa 5 20] [20])
 (.seq (.seq (.region [oc 6 (.mv (ki 0))] [])
 (.block 2 (.loop (.seq (.seq (.region [oa 21 6,
 oa 22 0,
 oc 23 (.len 1 (.t 22)),
 oc 24 (.bin .lss (.t 21) (.t 23))] [21,22,23])
 (.cond (.t 24)
 (.skip)
 (.exit 2)))
 (.seq (.block 3 (.region [oa 27 5,
 oa 28 0,
 oa 29 6,
 oc 30 (.indexAddr 4 (.t 28) (.t 29)),
 oc 31 (.load (some 4) (.t 30)),
 oa 32 3,
 oc 33 (.qcall 97 [(.t 31),(.t 32)]),
 oc 34 (.buildSlice 4 1 [(.int .i64 0),(.int .i64 0),(.str []),(.sl [])] [(0,(.t 33))]),
 oc 35 (.append false 4 (.t 27) (.t 34)),
 oa 5 35] [24,27,28,29,30,31,32,33,34,35]))
 (.region [oa 25 6,
 oc 26 (.bin .add (.t 25) (ki 1)),
 oa 6 26] [25,26]))))))
 (.seq (.region [oa 36 5,
 oa 2 36] [5,36])
 (.ret))))))
theorem ac76_ok : cFunc Tryz.prog [73,1000097] [(0,[2],[]),(1,[7],[]),(2,[],[]),(3,[8,9,10],[]),(5,[11,14,15,16,17,18,19],[]),(4,[12,13],[]),(6,[20],[]),(7,[],[]),(8,[21,22,23],[]),(10,[24,27,28,29,30,31,32,33,34,35],[]),(9,[25,26],[]),(11,[5,36],[])] Tryz.f76 = some (ac76,[.tmp 2],37) := by kernel_rfl
-- 57 loop.example/prologserver/spec.l6Answer params 2 ntmps 42
-- loop head live: [0,1,4,6,7]
def ac57 : Cd := .seq (.region [oc 4 (.alloc [(.full [])]),
 oc 5 (.mv (.k (.c (.d (.bool false)))))] [5])
 (.seq (.region [oc 11 (.buildSlice 4 0 [(.int .i64 0),(.int .i64 0),(.str []),(.sl [])] []),
 oa 6 11] [11])
 (.seq (.seq (.region [oc 7 (.mv (ki 0))] [])
 (.block 0 (.loop (.seq (.seq (.region [oa 12 7,
 oa 13 0,
 oc 14 (.len 1 (.t 13)),
 oc 15 (.bin .lss (.t 12) (.t 14))] [12,13,14])
 (.cond (.t 15)
 (.skip)
 (.exit 0)))
 (.seq (.block 1 (.seq (.region [oa 19 0,
 oa 20 7,
 oc 21 (.indexAddr 1 (.t 19) (.t 20)),
 oc 22 (.load none (.t 21)),
 oc 23 (.qcall 36 [(.t 22)]),
 oa 24 1,
 oc 25 (.call false 75 [(.t 23),(.t 24)]),
 oa 18 25,
 oc 26 (.extract 0 (.t 18)),
 oc 27 (.extract 1 (.t 18)),
 oc 8 (.alloc [(.d (.int .i64 0)),(.d (.int .i64 0)),(.d (.str [])),(.full [])]),
 ⟨none,.store 4 (.t 8) (.t 26),none⟩,
 oa 9 27] [15,18,19,20,21,22,23,24,25,26,27])
 (.seq (.seq (.region [oa 28 9,
 oc 29 (.un .not (.t 28))] [9,28])
 (.cond (.t 29)
 (.seq (.region [oc 30 (.build [(.full [])] []),
 ⟨none,.store 1 (.t 4) (.t 30),none⟩,
 oc 5 (.mv (.k (.c (.d (.bool false)))))] [0,1,6,7,8,29,30])
 (.ret))
 (.skip)))
 (.region [oa 31 6,
 oc 32 (.load (some 4) (.t 8)),
 oc 33 (.buildSlice 4 1 [(.int .i64 0),(.int .i64 0),(.str []),(.sl [])] [(0,(.t 32))]),
 oc 34 (.append false 4 (.t 31) (.t 33)),
 oa 6 34] [5,8,29,31,32,33,34]))))
 (.region [oa 16 7,
 oc 17 (.bin .add (.t 16) (ki 1)),
 oa 7 17] [16,17]))))))
 (.seq (.region [oa 35 6,
 oc 36 (.qcall 76 [(.t 35)]),
 oc 37 (.build [(.full [])] [(0,1,(.t 36))]),
 oc 10 (.alloc [(.full [])]),
 ⟨none,.store 1 (.t 10) (.t 37),none⟩] [6,35,36,37])
 (.seq (.region [oc 39 (.fieldAddr 0 (.t 10)),
 oc 38 (.load (some 1) (.t 10)),
 oc 40 (.load none (.t 39)),
 oc 41 (.qcall 77 [(.t 40)]),
 ⟨none,.store 1 (.t 4) (.t 38),none⟩,
 oa 5 41] [10,38,39,40,41])
 (.ret)))))
theorem ac57_ok : cFunc Tryz.prog [1000036,1000076,1000077] [(0,[5],[]),(1,[11],[]),(2,[],[]),(3,[12,13,14],[]),(5,[15,18,19,20,21,22,23,24,25,26,27],[]),(6,[9,28],[]),(7,[0,1,6,7,8,29,30],[]),(8,[5,8,29,31,32,33,34],[]),(4,[16,17],[]),(9,[6,35,36,37],[]),(10,[10,38,39,40,41],[1,0,2,3,4,5])] Tryz.f57 = some (ac57,[.cell 4 (some 1),.tmp 5],42) := by kernel_rfl
/-! ## variables numbered anew -/
def rnI (W : List Int) (n : Int) : Nat → Int
  | 0 => n
  | i + 1 => if W[i]? = some n then (i : Int) else rnI W n i
theorem rnI_in (W : List Int) {n : Int} (h : inR .i64 n) : ∀ i, i ≤ 100000 → inR .i64 (rnI W n i)
  | 0, _ => h
  | i + 1, hi => by
    rw [rnI]
    split
    · exact small_i64 (by omega) (by omega)
    · exact rnI_in W h i (by omega)
mutual
def rnT (W : List Int) : Tm → Tm
  | .mk k n s l => .mk k (if k = 1 then rnI W n W.length else n) s (rnL W l)
def rnL (W : List Int) : List Tm → List Tm
  | [] => []
  | t :: l => rnT W t :: rnL W l
end
theorem rnL_map (W : List Int) : ∀ l : List Tm, rnL W l = l.map (rnT W)
  | [] => by rw [rnL]; rfl
  | t :: l => by rw [rnL, rnL_map W l]; rfl
theorem rn_mk (W : List Int) (k n : Int) (s : List UInt8) (l : List Tm) : rnT W (.mk k n s l) = .mk k (if k = 1 then rnI W n W.length else n) s (l.map (rnT W)) := by rw [rnT, rnL_map]
theorem rn_fits {W : List Int} (hW : W.length ≤ 100000) : ∀ t : Tm, t.fits → (rnT W t).fits := by
  refine Tm.ind fun k n s l ih h => ?_
  obtain ⟨h1, h2, h3, h4, h5⟩ := h
  rw [rn_mk]
  refine .mk h1 (by split; exact rnI_in W h2 _ hW; exact h2) h3 (by simpa using h4) fun t ht => ?_
  obtain ⟨x, hx, rfl⟩ := List.mem_map.1 ht
  exact ih x hx (h5 x hx)
set_option maxHeartbeats 1600000 in
theorem rename_calls {W : List Int} (hW : W.length ≤ 100000) : ∀ t : Tm, t.fits → ∀ H, ACalls Tryz.prog 97 [.agg (t.row.map .d), .c (.d (.sl (intRows W)))] H (fun r H' => H' = H ∧ r = .agg ((rnT W t).row.map .d)) := by
  refine Tm.ind fun k n s l ih hw H => ?_
  obtain ⟨hk, hn, hs, hl, hkids⟩ := hw
  refine acalls Tryz.func97 (by kernel_rfl) ac97_ok fun hf => ?_
  have hli : inR .i64 (l.length : Int) := small_i64 (by omega) (by omega)
  have hWi : inR .i64 (W.length : Int) := small_i64 (by omega) (by omega)
  rw [rn_mk]
  simp -implicitDefEqProofs [ac97, row_mk, hf, hli, go_sem, -List.set_cons_succ, -List.set_cons_zero]
  refine loop_set (σ := Nat) (fun i => [(6, .c (.d (.int .i64 i)))]) (fun _ => H) (fun i => [.cells [.d (.int .i64 k), .d (.int .i64 n), .d (.str s), .d (.sl (l.map Tm.row))], .cells [.d (.int .i64 0), .d (.int .i64 0), .d (.str []), .full []], .cells [.d (.int .i64 k), .d (.int .i64 (if k = 1 then rnI W n i else n)), .d (.str s), .full []]])
      (fun i => i ≤ W.length ∧ (k ≠ 1 → i = 0)) (fun i => W.length - i) 0 (by simp [setAll, rnI]) ⟨Nat.zero_le _, fun _ => rfl⟩ ?_
  rintro i ⟨hi, hk0⟩
  simp -implicitDefEqProofs [setAll, hWi, intRows_len, hf, go_sem, -List.set_cons_succ, -List.set_cons_zero]
  refine ⟨fun hlt hk1 => ?_, fun hge => ?_⟩
  · have hadd : inR .i64 ((i : Int) + 1) := small_i64 (by omega) (by omega)
    have hri : (intRows W)[i]? = some [.int .i64 W[i]] := by simp [intRows, hlt]
    refine row_nat [.int .i64 W[i]] hri rfl ?_
    simp -implicitDefEqProofs [hadd, hf, go_sem, -List.set_cons_succ, -List.set_cons_zero]
    refine ⟨fun he => ?_, fun he => ?_⟩
    · exact loop_back (i + 1) (by simp [setAll, hk1, rnI, hlt, he]) ⟨hlt, fun h => absurd hk1 h⟩ (by show W.length - (i + 1) < W.length - i; omega)
    · exact loop_back (i + 1) (by simp [setAll, hk1, rnI, hlt, he]) ⟨hlt, fun h => absurd hk1 h⟩ (by show W.length - (i + 1) < W.length - i; omega)
  · obtain ⟨n', hn'⟩ : ∃ n', n' = if k = 1 then rnI W n i else n := ⟨_, rfl⟩
    have hfin : (if k = 1 then rnI W n W.length else n) = n' := by
      rw [hn']
      by_cases h1 : k = 1
      · have : i = W.length := by
          rcases Nat.lt_or_ge i W.length with h | h
          · exact absurd h1 (hge h)
          · omega
        rw [this]
      · rw [if_neg h1, if_neg h1]
    rw [hfin, ← hn']
    refine loop_enter (St.le_tokenC 2 3 4 rfl rfl) ?_
    refine loop_set (σ := Nat) (fun i => [(7, .c (.d (.int .i64 i)))]) (fun _ => H) (fun i => [.cells [.d (.int .i64 k), .d (.int .i64 n), .d (.str s), .d (.sl (l.map Tm.row))], .cells [.d (.int .i64 0), .d (.int .i64 0), .d (.str []), .full []], .cells [.d (.int .i64 k), .d (.int .i64 n'), .d (.str s), .own (.l 3) i ((l.map (Tm.row ∘ rnT W)).take i)], .grow i 4])
      (fun i => i ≤ l.length) (fun i => l.length - i) 0 rfl (Nat.zero_le _) ?_
    intro i hi
    simp -implicitDefEqProofs [setAll, hli, go_sem, -List.set_cons_succ, -List.set_cons_zero]
    refine ⟨fun hlt => ?_, fun hge => ?_⟩
    · have hadd : inR .i64 ((i : Int) + 1) := small_i64 (by omega) (by omega)
      refine row_of hlt (row_len _) ?_
      simp -implicitDefEqProofs [row_len, take_row, pure_d, re_d, go_sem, -List.set_cons_succ, -List.set_cons_zero]
      refine qcall_pure (ih l[i] (List.getElem_mem hlt) (hkids _ (List.getElem_mem hlt))) hf (by simp [A.re, re_d]) ?_
      simp -implicitDefEqProofs [row_len, toDs_map, hadd, hf, Nat.min_eq_left hi, go_sem, -List.set_cons_succ, -List.set_cons_zero]
      refine ⟨fun r hr => allLen_map (f := Tm.row ∘ rnT W) (fun x => row_len _) r (List.mem_of_mem_take hr), by unfold maxApp; omega, ?_⟩
      refine loop_back (i + 1) ?_ hlt (by show l.length - (i + 1) < l.length - i; omega)
      simp [setAll]
      exact take_sh hlt
    · have hil : i = l.length := by omega
      subst hil
      rw [show (l.map (Tm.row ∘ rnT W)).take l.length = l.map (Tm.row ∘ rnT W) from List.take_of_length_le (by simp)]
      simp -implicitDefEqProofs [hf, go_sem, -List.set_cons_succ, -List.set_cons_zero]
theorem renumber_calls (l : List Tm) (hl : l.length ≤ 100000) (h : ∀ t ∈ l, t.fits) (hcl : ∀ t ∈ l, t.clean) (hc : Tm.cnt l ≤ 3000000) (hW : (varsL l []).length ≤ 100000) (H : Heap) :
    ACalls Tryz.prog 76 [.c (.d (.sl (l.map Tm.row)))] H (fun r H' => H' = H ∧ r = .c (.d (.sl ((l.map (rnT (varsL l []))).map Tm.row)))) := by
  have hli : inR .i64 (l.length : Int) := small_i64 (by omega) (by omega)
  refine acalls Tryz.func76 (by kernel_rfl) ac76_ok fun hf => ?_
  obtain ⟨F, hF⟩ : ∃ F, F = varsL l [] := ⟨_, rfl⟩
  rw [← hF] at hW ⊢
  simp -implicitDefEqProofs [ac76, hli, go_sem, -List.set_cons_succ, -List.set_cons_zero]
  refine loop_enter (St.le_token 3 1 rfl) ?_
  refine loop_set (σ := Nat) (fun j => [(4, .c (.d (.int .i64 j))), (3, .c (.own (.l 0) (varsL (l.take j) []).length (intRows (varsL (l.take j) []))))]) (fun _ => H) (fun j => [.grow (varsL (l.take j) []).length 1]) (fun j => j ≤ l.length) (fun j => l.length - j) 0 (by simp [setAll, varsL_nil, intRows]) (Nat.zero_le _) ?_
  intro j hj
  obtain ⟨W, hWe⟩ : ∃ W, W = varsL (l.take j) [] := ⟨_, rfl⟩
  have hWl : W.length ≤ Tm.cnt (l.take j) := by
    have h1 := varsL_len (l.take j) []
    rw [hWe]; simpa using h1
  rw [← hWe]
  simp -implicitDefEqProofs [setAll, hli, go_sem, -List.set_cons_succ, -List.set_cons_zero]
  refine ⟨fun hjl => ?_, fun hje => ?_⟩
  · have hadd : inR .i64 ((j : Int) + 1) := small_i64 (by omega) (by omega)
    have hw1 := varsL_succ l [] hjl
    rw [← hWe] at hw1
    have hs1 := cnt_take_sub l hjl
    refine row_of hjl (row_len _) ?_
    simp -implicitDefEqProofs [row_len, take_row, pure_d, re_d, hf, go_sem, -List.set_cons_succ, -List.set_cons_zero]
    refine call_addL (j := 0) (r := .c (.own (.l 0) (l[j].vars W).length (intRows (l[j].vars W)))) (l1Vars_calls l[j] (h _ (List.getElem_mem hjl)) (hcl _ (List.getElem_mem hjl)) W _ (H.length + 0) (by simp) (by omega)) rfl rfl hf (by simp [Ob.re, C.re, re_d]) ?_
    simp -implicitDefEqProofs [hadd, go_sem, -List.set_cons_succ, -List.set_cons_zero]
    rw [← hw1]
    exact loop_back (j + 1) (by simp [setAll]) hjl (by show l.length - (j + 1) < l.length - j; omega)
  · obtain rfl : j = l.length := by omega
    rw [List.take_length] at hWe
    rw [← hF] at hWe
    subst hWe
    simp -implicitDefEqProofs [go_sem, -List.set_cons_succ, -List.set_cons_zero]
    refine loop_enter (St.le_token 5 4 rfl) ?_
    refine loop_set (σ := Nat) (fun i => [(6, .c (.d (.int .i64 i))), (5, .c (.own (.l 1) i ((l.map (Tm.row ∘ rnT W)).take i)))]) (fun _ => H) (fun i => [.grow W.length 1, .grow i 4]) (fun i => i ≤ l.length) (fun i => l.length - i) 0 rfl (Nat.zero_le _) ?_
    intro i hi
    simp -implicitDefEqProofs [setAll, hli, go_sem, -List.set_cons_succ, -List.set_cons_zero]
    refine ⟨fun hlt => ?_, fun hge => ?_⟩
    · have hadd : inR .i64 ((i : Int) + 1) := small_i64 (by omega) (by omega)
      refine row_of hlt (row_len _) ?_
      simp -implicitDefEqProofs [row_len, take_row, pure_d, re_d, go_sem, -List.set_cons_succ, -List.set_cons_zero]
      refine qcall_pure (rename_calls hW l[i] (h _ (List.getElem_mem hlt))) hf (by simp [A.re, re_d]) ?_
      simp -implicitDefEqProofs [row_len, toDs_map, hadd, hf, Nat.min_eq_left hi, go_sem, -List.set_cons_succ, -List.set_cons_zero]
      refine ⟨fun r hr => allLen_map (f := Tm.row ∘ rnT W) (fun x => row_len _) r (List.mem_of_mem_take hr), by unfold maxApp; omega, ?_⟩
      refine loop_back (i + 1) ?_ hlt (by show l.length - (i + 1) < l.length - i; omega)
      simp [setAll]
      exact take_sh hlt
    · have hil : i = l.length := by omega
      subst hil
      rw [show (l.map (Tm.row ∘ rnT W)).take l.length = l.map (Tm.row ∘ rnT W) from List.take_of_length_le (by simp)]
/-! ## answers -/
/-- a list of terms that fit, and a flag -/
def AnsR (r : A) : Prop := ∃ (l : List Tm) (ok : Bool), r = .tup [.agg [.d (.sl (l.map Tm.row))], .c (.d (.bool ok))] ∧ l.length ≤ 26 ∧ ∀ t ∈ l, t.fits
theorem AnsR.re {n : Nat} {r : A} (h : AnsR r) : A.re n r = r := by
  obtain ⟨l, ok, rfl, _⟩ := h
  rfl
set_option maxHeartbeats 1600000 in
theorem answer_calls {N : Nat} (hN : 26 ≤ N) (hN2 : N ≤ 10000) {L : List Tm} (hL : Sok N L) (V : List Int) (hVl : V.length ≤ 26) (hV : ∀ v ∈ V, 0 ≤ v ∧ v < 26) (H : Heap) :
    ACalls Tryz.prog 57 [.c (.d (.sl (intRows V))), .c (.d (.sl (L.map Tm.row)))] H (fun r H' => H' = H ∧ AnsR r) := by
  have hli : inR .i64 (V.length : Int) := small_i64 (by omega) (by omega)
  refine acalls Tryz.func57 (by kernel_rfl) ac57_ok fun hf => ?_
  simp -implicitDefEqProofs [ac57, hli, hf, go_sem, -List.set_cons_succ, -List.set_cons_zero]
  refine loop_enter (St.le_token 6 4 rfl) ?_
  refine loop_set (σ := List Tm) (fun l => [(7, .c (.d (.int .i64 l.length))), (6, .c (.own (.l 1) l.length (l.map Tm.row)))]) (fun _ => H) (fun l => [.cells [.full []], .grow l.length 4]) (fun l => l.length ≤ V.length ∧ ∀ t ∈ l, Tz N t) (fun l => V.length - l.length) [] rfl ⟨Nat.zero_le _, by simp⟩ ?_
  rintro l ⟨hll, hlz⟩
  simp -implicitDefEqProofs [setAll, hli, intRows_len, hf, go_sem, -List.set_cons_succ, -List.set_cons_zero]
  refine ⟨fun hlt => ?_, fun hge => ?_⟩
  · have hri : (intRows V)[l.length]? = some [.int .i64 V[l.length]] := by simp [intRows, hlt]
    obtain ⟨v0, v1⟩ := hV V[l.length] (List.getElem_mem hlt)
    have hadd : inR .i64 ((l.length : Int) + 1) := small_i64 (by omega) (by omega)
    refine row_nat [.int .i64 V[l.length]] hri rfl ?_
    simp -implicitDefEqProofs [hf, go_sem, -List.set_cons_succ, -List.set_cons_zero]
    generalize V[l.length] = v at v0 v1
    refine qcall_pure (var_calls v) hf (by simp [A.re, re_d]) ?_
    simp -implicitDefEqProofs [row_mk, hf, go_sem, -List.set_cons_succ, -List.set_cons_zero]
    have cs := small_calls (by omega) hL (.mk 1 v [] []) ⟨.var v0 (by omega), by rw [sub_mk, cnt_nil]; omega⟩
    simp only [row_mk, List.map_cons, List.map_nil] at cs
    refine call_some (cs _) (by first | rfl | simp [Ob.re, C.re, re_d]) (fun r hr => hr.re) hf ?_
    rintro r ⟨u, ok, rfl, hu, hok⟩
    obtain ⟨uk, un, us, ul⟩ := u
    simp -implicitDefEqProofs [row_mk, hf, go_sem, -List.set_cons_succ, -List.set_cons_zero]
    refine ⟨fun _ => ⟨[], false, rfl, by simp, by simp⟩, fun hok1 => ⟨allLen_map row_len, by unfold maxApp; omega, ?_⟩⟩
    simp -implicitDefEqProofs [hadd, hf, go_sem, -List.set_cons_succ, -List.set_cons_zero]
    refine loop_less (l ++ [.mk uk un us ul]) (St.le_cut [_] ?_ (by simp [Sl.le, A.le_refl_iff, A.le_u_iff, As.lo, A.lo, C.lo, Ref.lo, Cs.lo, Obs.lo, Ob.lo, setAll, and_true, true_and, List.length_nil, List.length_cons]) (by simp; rfl) (by simp [Sl.le, A.le_refl_iff, A.le_u_iff, As.lo, A.lo, C.lo, Ref.lo, Cs.lo, Obs.lo, Ob.lo, setAll, and_true, true_and, List.length_nil, List.length_cons])) ⟨by simp; omega, fun t ht => ?_⟩ (by show V.length - (l ++ [Tm.mk uk un us ul]).length < V.length - l.length; simp; omega)
    · simp [setAll, row_mk, Sl.le, A.le_refl_iff, A.le_u_iff, As.lo, A.lo, C.lo, Ref.lo, Cs.lo, Obs.lo, Ob.lo, setAll, and_true, true_and, List.length_nil, List.length_cons]
    · rcases List.mem_append.1 ht with h1 | h1
      · exact hlz t h1
      · rw [List.mem_singleton.1 h1]; exact hok hok1
  · have hfit : ∀ t ∈ l, t.fits := fun t ht => (hlz t ht).1.fits (by omega)
    have hcnt : Tm.cnt l ≤ 3000000 := by
      have := cnt_le (B := 1000) l fun t ht => (hlz t ht).2
      omega
    have hvs := vs_list (N := N) l (fun t ht => vs_of (hlz t ht).1) []
    have hWl := nodup_bound N _ (hvs.nod List.nodup_nil) (hvs.bnd (by simp))
    have cr := fun H => renumber_calls l (by omega) hfit (fun t ht => tz_clean (hlz t ht).1) hcnt (by omega) H
    refine qcall_pure cr hf rfl ?_
    have hO : ∀ t ∈ l.map (rnT (varsL l [])), t.fits := fun t ht => by
      obtain ⟨x, hx, rfl⟩ := List.mem_map.1 ht
      exact rn_fits (by omega) x (hfit x hx)
    have hOl : (l.map (rnT (varsL l []))).length ≤ 26 := by simp; omega
    generalize l.map (rnT (varsL l [])) = O at hO hOl
    simp -implicitDefEqProofs [hf, go_sem, -List.set_cons_succ, -List.set_cons_zero]
    refine qcall_pure (fun H => l1All_calls O (by omega) hO H) hf rfl ?_
    simp -implicitDefEqProofs [hf, go_sem, -List.set_cons_succ, -List.set_cons_zero]
    exact ⟨O, _, rfl, hOl, hO⟩
end Sv
namespace Sv
-- 29 loop.example/prologserver/spec.l6Run params 4 ntmps 79
-- loop head live: [0,2,3,10,11,12]
def ac29 : Cd := .seq (.region [oc 8 (.mv (.k (.c (.full [])))),
 oc 9 (.mv (ki 0))] [8,9])
 (.seq (.region [oc 20 (.buildSlice 1 0 [(.sl [])] []),
 oa 10 20] [20])
 (.seq (.region [oa 21 1,
 oc 22 (.qcall 55 [(.t 21)]),
 oa 11 22] [21,22])
 (.seq (.region [oa 23 1,
 oc 24 (.qcall 56 [(.t 23)]),
 oc 12 (.alloc [(.full []),(.full []),(.full [])]),
 ⟨none,.store 3 (.t 12) (.t 24),none⟩] [1,23,24])
 (.block 0 (.loop (.block 1 (.seq (.region [oc 13 (.mv (.k (.c (.d (.bool false)))))] [13])
 (.seq (.seq (.region [oc 25 (.fieldAddr 0 (.t 12)),
 oc 26 (.load none (.t 25)),
 oc 27 (.len 1 (.t 26)),
 oc 28 (.bin .eql (.t 27) (ki 0))] [25,26,27])
 (.cond (.t 28)
 (.seq (.seq (.region [oa 29 10,
 oc 30 (.len 1 (.t 29)),
 oa 31 2,
 oc 32 (.bin .eql (.t 30) (.t 31))] [28,29,30,31])
 (.cond (.t 32)
 (.seq (.region [oa 33 10,
 oa 8 33,
 oc 9 (.mv (ki 1))] [0,2,3,10,11,12,32,33])
 (.ret))
 (.skip)))
 (.seq (.region [oa 35 11,
 oc 36 (.fieldAddr 1 (.t 12)),
 oc 37 (.load none (.t 36)),
 oc 38 (.call false 57 [(.t 35),(.t 37)]),
 oa 34 38,
 oc 39 (.extract 0 (.t 34)),
 oc 40 (.extract 1 (.t 34)),
 oc 14 (.alloc [(.full [])]),
 ⟨none,.store 1 (.t 14) (.t 39),none⟩,
 oa 15 40] [8,9,32,34,35,36,37,38,39,40])
 (.seq (.seq (.region [oa 41 15,
 oc 42 (.un .not (.t 41))] [15,41])
 (.cond (.t 42)
 (.seq (.region [oa 43 10,
 oa 8 43,
 oc 9 (.mv (ki 3))] [0,2,3,10,11,12,14,42,43])
 (.ret))
 (.skip)))
 (.seq (.region [oa 44 10,
 oc 45 (.load (some 1) (.t 14)),
 oc 46 (.buildSlice 1 1 [(.sl [])] [(0,(.t 45))]),
 oc 47 (.append false 1 (.t 44) (.t 46)),
 oa 10 47] [8,9,14,42,44,45,46,47])
 (.region [oc 13 (.mv (.k (.c (.d (.bool true)))))] [])))))
 (.seq (.seq (.region [oa 48 3,
 oc 49 (.bin .eql (.t 48) (ki 0))] [28,48])
 (.cond (.t 49)
 (.seq (.region [oa 50 10,
 oa 8 50,
 oc 9 (.mv (ki 2))] [0,2,3,10,11,12,49,50])
 (.ret))
 (.skip)))
 (.seq (.region [oa 51 3,
 oc 52 (.bin .sub (.t 51) (ki 1)),
 oa 3 52] [8,9,49,51,52])
 (.seq (.region [oa 54 0,
 oc 55 (.load (some 3) (.t 12)),
 oc 56 (.call false 58 [(.t 54),(.t 55)]),
 oa 53 56,
 oc 57 (.extract 0 (.t 53)),
 oc 58 (.extract 1 (.t 53)),
 oc 16 (.alloc [(.full []),(.full []),(.full [])]),
 ⟨none,.store 3 (.t 16) (.t 57),none⟩,
 oa 17 58] [53,54,55,56,57,58])
 (.seq (.seq (.region [oa 59 17,
 oc 60 (.bin .geq (.t 59) (ki 0))] [59])
 (.cond (.t 60)
 (.seq (.region [oa 61 10,
 oa 62 17,
 oa 8 61,
 oa 9 62] [0,2,3,10,11,12,16,17,60,61,62])
 (.ret))
 (.skip)))
 (.seq (.region [oa 63 17,
 oc 64 (.bin .eql (.t 63) (ki (-2))),
 oa 13 64] [8,9,17,60,63,64])
 (.seq (.region [oa 65 13,
 oc 66 (.un .not (.t 65))] [65])
 (.cond (.t 66)
 (.region [oc 67 (.load (some 3) (.t 16)),
 ⟨none,.store 3 (.t 12) (.t 67),none⟩] [16,66,67])
 (.skip))))))))))
 (.seq (.region [oa 68 13] [13,16,66])
 (.cond (.t 68)
 (.seq (.region [oa 70 0,
 oc 71 (.load (some 3) (.t 12)),
 oc 72 (.call false 59 [(.t 70),(.t 71)]),
 oa 69 72,
 oc 73 (.extract 0 (.t 69)),
 oc 74 (.extract 1 (.t 69)),
 oc 18 (.alloc [(.full []),(.full []),(.full [])]),
 ⟨none,.store 3 (.t 18) (.t 73),none⟩,
 oa 19 74] [68,69,70,71,72,73,74])
 (.seq (.seq (.region [oa 75 19,
 oc 76 (.un .not (.t 75))] [19,75])
 (.cond (.t 76)
 (.seq (.region [oa 77 10,
 oa 8 77,
 oc 9 (.mv (ki 0))] [0,2,3,10,11,12,18,76,77])
 (.ret))
 (.skip)))
 (.region [oc 78 (.load (some 3) (.t 18)),
 ⟨none,.store 3 (.t 12) (.t 78),none⟩] [8,9,18,76,78])))
 (.skip)))))))))))
theorem ac29_ok : cFunc Tryz.prog [1000055,1000056] [(0,[8,9],[]),(1,[20],[]),(2,[21,22],[]),(3,[1,23,24],[]),(4,[13],[]),(5,[25,26,27],[]),(6,[28,29,30,31],[]),(7,[0,2,3,10,11,12,32,33],[]),(8,[8,9,32,34,35,36,37,38,39,40],[]),(9,[15,41],[]),(10,[0,2,3,10,11,12,14,42,43],[]),(11,[8,9,14,42,44,45,46,47],[]),(12,[],[]),(13,[28,48],[]),(14,[0,2,3,10,11,12,49,50],[]),(15,[8,9,49,51,52],[]),(16,[53,54,55,56,57,58],[]),(17,[59],[]),(18,[0,2,3,10,11,12,16,17,60,61,62],[]),(19,[8,9,17,60,63,64],[]),(20,[65],[]),(21,[16,66,67],[]),(22,[13,16,66],[]),(23,[68,69,70,71,72,73,74],[]),(24,[19,75],[]),(25,[0,2,3,10,11,12,18,76,77],[]),(26,[8,9,18,76,78],[])] Tryz.f29 = some (ac29,[.tmp 8,.tmp 9],79) := by kernel_rfl
def ansRow (l : List Tm) : List D := [.sl (l.map Tm.row)]
theorem ansrow_len (l : List Tm) : (ansRow l).length = 1 := rfl
/-- answers that fit, and how the search ended -/
def RunR (r : A) : Prop := ∃ (an : List (List Tm)) (e : Int), r = .tup [.c (.d (.sl (an.map ansRow))), .c (.d (.int .i64 e))] ∧ an.length ≤ 5 ∧ ∀ l ∈ an, l.length ≤ 26 ∧ ∀ t ∈ l, t.fits
theorem RunR.re {n : Nat} {r : A} (h : RunR r) : A.re n r = r := by
  obtain ⟨an, e, rfl, _⟩ := h
  rfl
theorem SsOk.mono {np B C : Nat} (h : B ≤ C) {s : Ss} (hs : SsOk np B s) : SsOk np C s := by
  obtain ⟨⟨N, h1, h2, h3⟩, h4, h5, h6⟩ := hs
  exact ⟨⟨N, h1, by omega, h3⟩, by omega, by omega, fun j c hj => (h6 j c hj).mono h⟩
set_option maxHeartbeats 3200000 in
theorem run_calls {p : List Cl} (hp : ∀ x ∈ p, ClOk x) (hpl : p.length ≤ 100) {q : List Tm} (hq : q.length ≤ 7) (hqz : ∀ t ∈ q, Tz 26 t) (H : Heap) :
    ACalls Tryz.prog 29 [.c (.d (.sl (p.map Cl.row))), .c (.d (.sl (q.map Tm.row))), .c (.d (.int .i64 5)), .c (.d (.int .i64 100))] H (fun r H' => H' = H ∧ RunR r) := by
  refine acalls Tryz.func29 (by kernel_rfl) ac29_ok fun hf => ?_
  have hcnt : Tm.cnt q ≤ 3000000 := by
    have := cnt_le (B := 1000) q fun t ht => (hqz t ht).2
    omega
  have hvs := vs_list (N := 26) q (fun t ht => vs_of (hqz t ht).1) []
  have hVb := hvs.bnd (by simp)
  have hVl := nodup_bound 26 _ (hvs.nod List.nodup_nil) hVb
  have cv := fun H => l6Vars_calls q (by omega) (fun t ht => (hqz t ht).1.fits (by omega)) (fun t ht => tz_clean (hqz t ht).1) hcnt H
  generalize varsL q [] = V at cv hVb hVl
  have cst := fun H => start_calls hq hqz H
  have hst := start_ok (np := p.length) hq hqz
  generalize startS q = s0 at cst hst
  obtain ⟨sg, sb, sc⟩ := s0
  simp only [Ss.ds, List.map_cons, List.map_nil] at cst
  simp -implicitDefEqProofs [ac29, hf, go_sem, -List.set_cons_succ, -List.set_cons_zero]
  refine qcall_pure cv hf rfl ?_
  simp -implicitDefEqProofs [hf, go_sem, -List.set_cons_succ, -List.set_cons_zero]
  refine qcall_pure cst hf rfl ?_
  simp -implicitDefEqProofs [hf, go_sem, -List.set_cons_succ, -List.set_cons_zero]
  refine loop_enter (St.le_token 10 1 rfl) ?_
  refine loop_set (σ := List (List Tm) × Ss × Nat) (fun x => [(3, .c (.d (.int .i64 x.2.2))), (10, .c (.own (.l 1) x.1.length (x.1.map ansRow)))]) (fun _ => H) (fun x => [.cells (x.2.1.ds.map .d), .grow x.1.length 1])
    (fun x => x.1.length ≤ 5 ∧ (∀ l ∈ x.1, l.length ≤ 26 ∧ ∀ t ∈ l, t.fits) ∧ x.2.2 ≤ 100 ∧ SsOk p.length (26 + 26 * (100 - x.2.2)) x.2.1) (fun x => x.2.2 + (5 - x.1.length)) ([], ⟨sg, sb, sc⟩, 100)
    rfl ⟨by simp, by simp, by simp, hst⟩ ?_
  rintro ⟨an, ⟨qg, qb, qc⟩, f⟩ ⟨has, hfit, hfu, hs⟩
  simp only at has hfit hfu hs
  have hni : inR .i64 (an.length : Int) := small_i64 (by omega) (by omega)
  have hgl := hs.goals
  have hgi : inR .i64 (qg.length : Int) := small_i64 (by simp only at hgl; omega) (by simp only at hgl; omega)
  simp -implicitDefEqProofs [setAll, Ss.ds, hni, hgi, hf, go_sem, -List.set_cons_succ, -List.set_cons_zero]
  obtain ⟨⟨N, hN0, hNB, hL, hgs⟩, hgl2, hcl, hch⟩ := hs
  simp only at hL hgs hgl2 hcl hch
  have fin : ∀ e : Int, RunR (.tup [.c (.d (.sl (an.map ansRow))), .c (.d (.int .i64 e))]) := fun e => ⟨an, e, rfl, has, hfit⟩
  refine ⟨fun hg0 => ⟨fun _ => fin _, fun hne => ?_⟩, fun hg0 => ⟨fun _ => fin _, fun hf0 => ⟨small_i64 (by omega) (by omega), ?_⟩⟩⟩
  · refine call_some (answer_calls hN0 (by omega) hL V hVl hVb _) (by first | rfl | simp [Ob.re, C.re, re_d]) (fun r hr => hr.re) hf ?_
    rintro r ⟨l, ok, rfl, hl26, hlf⟩
    simp -implicitDefEqProofs [hf, go_sem, -List.set_cons_succ, -List.set_cons_zero]
    refine ⟨fun _ => fin _, fun _ => ⟨allLen_map ansrow_len, by unfold maxApp; omega, ?_⟩⟩
    have cb := back_calls hp hpl (B := 26 + 26 * (100 - f)) (by omega) ⟨qg, qb, qc⟩ ⟨⟨N, hN0, hNB, hL, hgs⟩, hgl2, hcl, hch⟩
    simp only [Ss.ds, List.map_cons, List.map_nil] at cb
    refine call_some (cb _) (by first | rfl | simp [Ob.re, C.re, re_d]) (fun r hr => hr.re) hf ?_
    rintro r ⟨⟨bg, bb, bc⟩, ok2, rfl, hok2⟩
    simp -implicitDefEqProofs [Ss.ds, hf, go_sem, -List.set_cons_succ, -List.set_cons_zero]
    have hfit2 : ∀ x ∈ an ++ [l], x.length ≤ 26 ∧ ∀ t ∈ x, t.fits := fun x hx => by
      rcases List.mem_append.1 hx with h1 | h1
      · exact hfit x h1
      · rw [List.mem_singleton.1 h1]; exact ⟨hl26, hlf⟩
    have hlt : an.length < 5 := by omega
    refine ⟨fun _ => ⟨an ++ [l], 0, by simp [ansRow], by simp; omega, hfit2⟩, fun h2 => ?_⟩
    refine loop_less (an ++ [l], ⟨bg, bb, bc⟩, f) (St.le_cut [_, _] ?_ (by simp [Sl.le, A.le_refl_iff, A.le_u_iff, As.lo, A.lo, C.lo, Ref.lo, Cs.lo, Obs.lo, Ob.lo, setAll, and_true, true_and, List.length_nil, List.length_cons]) (by simp; exact ⟨rfl, rfl⟩) (by simp [Sl.le, A.le_refl_iff, A.le_u_iff, As.lo, A.lo, C.lo, Ref.lo, Cs.lo, Obs.lo, Ob.lo, setAll, and_true, true_and, List.length_nil, List.length_cons])) ⟨by simp; omega, hfit2, hfu, hok2 h2⟩ (by show f + (5 - (an ++ [l]).length) < f + (5 - an.length); simp; omega)
    simp [setAll, ansRow, Sl.le, A.le_refl_iff, A.le_u_iff, As.lo, A.lo, C.lo, Ref.lo, Cs.lo, Obs.lo, Ob.lo, setAll, and_true, true_and, List.length_nil, List.length_cons]
  · have cs := step_calls hp hpl (B := 26 + 26 * (100 - f)) (by omega) ⟨qg, qb, qc⟩ ⟨⟨N, hN0, hNB, hL, hgs⟩, hgl2, hcl, hch⟩ hg0
    simp only [Ss.ds, List.map_cons, List.map_nil] at cs
    refine call_some (cs _) (by first | rfl | simp [Ob.re, C.re, re_d]) (fun r hr => hr.re) hf ?_
    rintro r ⟨⟨bg, bb, bc⟩, e, rfl, he⟩
    simp -implicitDefEqProofs [Ss.ds, hf, go_sem, -List.set_cons_succ, -List.set_cons_zero]
    have hf1 : ((f : Int) - 1) = ((f - 1 : Nat) : Int) := by omega
    refine ⟨fun _ => fin _, fun hneg => ⟨fun hn2 => ⟨fun h => absurd h hn2, fun _ => ?_⟩, fun h2 => ?_⟩⟩
    · rcases he with h | h | ⟨h, hsn⟩
      · omega
      · exact absurd h hn2
      · refine loop_less (an, ⟨bg, bb, bc⟩, f - 1) (St.le_cut [_] ?_ (by simp [Sl.le, A.le_refl_iff, A.le_u_iff, As.lo, A.lo, C.lo, Ref.lo, Cs.lo, Obs.lo, Ob.lo, setAll, and_true, true_and, List.length_nil, List.length_cons]) (by simp; rfl) (by simp [Sl.le, A.le_refl_iff, A.le_u_iff, As.lo, A.lo, C.lo, Ref.lo, Cs.lo, Obs.lo, Ob.lo, setAll, and_true, true_and, List.length_nil, List.length_cons])) ⟨has, hfit, by simp only; omega, hsn.mono (by simp only; omega)⟩ (by show f - 1 + (5 - an.length) < f + (5 - an.length); omega)
        simp [setAll, hf1, Sl.le, A.le_refl_iff, A.le_u_iff, As.lo, A.lo, C.lo, Ref.lo, Cs.lo, Obs.lo, Ob.lo, setAll, and_true, true_and, List.length_nil, List.length_cons]
    · refine ⟨fun _ => ?_, fun h => absurd h2 h⟩
      have cb := back_calls hp hpl (B := 26 + 26 * (100 - f)) (by omega) ⟨qg, qb, qc⟩ ⟨⟨N, hN0, hNB, hL, hgs⟩, hgl2, hcl, hch⟩
      simp only [Ss.ds, List.map_cons, List.map_nil] at cb
      refine call_some (cb _) (by first | rfl | simp [Ob.re, C.re, re_d]) (fun r hr => hr.re) hf ?_
      rintro r ⟨⟨kg, kb, kc⟩, ok2, rfl, hok2⟩
      simp -implicitDefEqProofs [Ss.ds, hf, go_sem, -List.set_cons_succ, -List.set_cons_zero]
      refine ⟨fun _ => fin _, fun h3 => ?_⟩
      refine loop_less (an, ⟨kg, kb, kc⟩, f - 1) (St.le_cut [_, _] ?_ (by simp [Sl.le, A.le_refl_iff, A.le_u_iff, As.lo, A.lo, C.lo, Ref.lo, Cs.lo, Obs.lo, Ob.lo, setAll, and_true, true_and, List.length_nil, List.length_cons]) (by simp; exact ⟨rfl, rfl⟩) (by simp [Sl.le, A.le_refl_iff, A.le_u_iff, As.lo, A.lo, C.lo, Ref.lo, Cs.lo, Obs.lo, Ob.lo, setAll, and_true, true_and, List.length_nil, List.length_cons])) ⟨has, hfit, by simp only; omega, (hok2 h3).mono (by simp only; omega)⟩ (by show f - 1 + (5 - an.length) < f + (5 - an.length); omega)
      simp [setAll, hf1, Sl.le, A.le_refl_iff, A.le_u_iff, As.lo, A.lo, C.lo, Ref.lo, Cs.lo, Obs.lo, Ob.lo, setAll, and_true, true_and, List.length_nil, List.length_cons]
end Sv
-- 31 loop.example/prologserver/spec.l1Copy params 1 ntmps 31
-- loop head live: [1,2,3,4]
def ac31 : Cd := .seq (.region [oc 1 (.box (.t 0)),
 oc 2 (.alloc [(.d (.int .i64 0)),(.d (.int .i64 0)),(.d (.str [])),(.full [])])] [0])
 (.seq (.region [oc 5 (.fieldAddr 0 (.t 1)),
 oc 6 (.load none (.t 5)),
 oc 7 (.fieldAddr 1 (.t 1)),
 oc 8 (.load none (.t 7)),
 oc 9 (.fieldAddr 2 (.t 1)),
 oc 10 (.load none (.t 9)),
 oc 11 (.build [(.d (.int .i64 0)),(.d (.int .i64 0)),(.d (.str [])),(.full [])] [(0,1,(.t 6)),(1,1,(.t 8)),(2,1,(.t 10))]),
 oc 3 (.alloc [(.d (.int .i64 0)),(.d (.int .i64 0)),(.d (.str [])),(.full [])]),
 ⟨none,.store 4 (.t 3) (.t 11),none⟩] [5,6,7,8,9,10,11])
 (.seq (.seq (.region [oc 4 (.mv (ki 0))] [])
 (.block 0 (.loop (.seq (.seq (.region [oa 12 4,
 oc 13 (.fieldAddr 3 (.t 1)),
 oc 14 (.load none (.t 13)),
 oc 15 (.len 1 (.t 14)),
 oc 16 (.bin .lss (.t 12) (.t 15))] [12,13,14,15])
 (.cond (.t 16)
 (.skip)
 (.exit 0)))
 (.seq (.block 1 (.region [oc 19 (.fieldAddr 3 (.t 3)),
 oc 21 (.fieldAddr 3 (.t 1)),
 oa 23 4,
 oc 20 (.load none (.t 19)),
 oc 22 (.load none (.t 21)),
 oc 24 (.indexAddr 4 (.t 22) (.t 23)),
 oc 25 (.load (some 4) (.t 24)),
 oc 26 (.qcall 31 [(.t 25)]),
 oc 27 (.buildSlice 4 1 [(.int .i64 0),(.int .i64 0),(.str []),(.sl [])] [(0,(.t 26))]),
 oc 28 (.append false 4 (.t 20) (.t 27)),
 oc 29 (.fieldAddr 3 (.t 3)),
 ⟨none,.store 1 (.t 29) (.t 28),none⟩] [16,19,20,21,22,23,24,25,26,27,28,29]))
 (.region [oa 17 4,
 oc 18 (.bin .add (.t 17) (ki 1)),
 oa 4 18] [17,18]))))))
 (.seq (.region [oc 30 (.load (some 4) (.t 3)),
 ⟨none,.store 4 (.t 2) (.t 30),none⟩] [3,30])
 (.ret))))
theorem ac31_ok : cFunc Tryz.prog [1000031] [(0,[0],[]),(1,[5,6,7,8,9,10,11],[]),(2,[],[]),(3,[12,13,14,15],[]),(5,[16,19,20,21,22,23,24,25,26,27,28,29],[0,2,4,1,3,5,6,7,8,9,10,11]),(4,[17,18],[]),(6,[3,30],[])] Tryz.f31 = some (ac31,[.cell 2 (some 4)],31) := by kernel_rfl
theorem take_map_succ {l : List Tm} {i : Nat} (h : i < l.length) : (l.map Tm.row).take (i + 1) = (l.map Tm.row).take i ++ [l[i].row] := by
  rw [List.take_succ_eq_append_getElem (by simpa using h)]; simp
theorem copy_calls : ∀ t : Tm, t.fits → ∀ H, ACalls Tryz.prog 31 [.agg (t.row.map .d)] H (fun r H' => H' = H ∧ r = .agg (t.row.map .d)) := by
  refine Tm.ind fun k n s l ih hfits H => ?_
  obtain ⟨hk, hn, hs, hl, hkids⟩ := hfits
  refine acalls Tryz.func31 (by kernel_rfl) ac31_ok fun hf => ?_
  have hli : inR .i64 (l.length : Int) := small_i64 (by omega) (by omega)
  simp -implicitDefEqProofs [ac31, row_mk, hf, hli, go_sem, -List.set_cons_succ, -List.set_cons_zero]
  refine loop_enter (St.le_tokenC 2 3 4 rfl rfl) ?_
  refine loop_set (σ := Nat) (fun i => [(4, .c (.d (.int .i64 i)))]) (fun _ => H) (fun i => [.cells [.d (.int .i64 k), .d (.int .i64 n), .d (.str s), .d (.sl (l.map Tm.row))], .cells [.d (.int .i64 0), .d (.int .i64 0), .d (.str []), .full []], .cells [.d (.int .i64 k), .d (.int .i64 n), .d (.str s), .own (.l 3) i ((l.map Tm.row).take i)], .grow i 4])
    (fun i => i ≤ l.length) (fun i => l.length - i) 0 rfl (Nat.zero_le _) ?_
  intro i hi
  simp -implicitDefEqProofs [setAll, hli, go_sem, -List.set_cons_succ, -List.set_cons_zero]
  refine ⟨fun hlt => ?_, fun hge => ?_⟩
  · have hadd : inR .i64 ((i : Int) + 1) := small_i64 (by omega) (by omega)
    refine row_of hlt (row_len _) ?_
    simp -implicitDefEqProofs [row_len, take_row, pure_d, re_d, go_sem, -List.set_cons_succ, -List.set_cons_zero]
    refine qcall_pure (ih l[i] (List.getElem_mem hlt) (hkids _ (List.getElem_mem hlt))) hf (by simp [A.re, re_d]) ?_
    simp -implicitDefEqProofs [row_len, toDs_map, hadd, hf, Nat.min_eq_left hi, go_sem, -List.set_cons_succ, -List.set_cons_zero]
    refine ⟨fun r hr => allLen_map row_len r (List.mem_of_mem_take hr), by unfold maxApp; omega, ?_⟩
    refine loop_back (i + 1) ?_ hlt (by show l.length - (i + 1) < l.length - i; omega)
    simp [setAll, take_map_succ hlt]
  · have hil : i = l.length := by omega
    subst hil
    rw [show (l.map Tm.row).take l.length = l.map Tm.row from List.take_of_length_le (by simp)]
    simp -implicitDefEqProofs [hf, go_sem, -List.set_cons_succ, -List.set_cons_zero]
-- 35 loop.example/prologserver/spec.l1Struct params 2 ntmps 10
def ac35 : Cd := .seq (.region [oc 4 (.alloc [(.d (.int .i64 0)),(.d (.int .i64 0)),(.d (.str [])),(.full [])])] [])
 (.seq (.region [oa 5 0,
 oc 6 (.buildSlice 4 0 [(.int .i64 0),(.int .i64 0),(.str []),(.sl [])] []),
 oa 7 1,
 oc 8 (.append false 4 (.t 6) (.t 7)),
 oc 9 (.build [(.d (.int .i64 0)),(.d (.int .i64 0)),(.d (.str [])),(.full [])] [(0,1,(ki 3)),(2,1,(.t 5)),(3,1,(.t 8))]),
 ⟨none,.store 4 (.t 4) (.t 9),none⟩] [0,1,5,6,7,8,9])
 (.ret))
theorem ac35_ok : cFunc Tryz.prog [] [(0,[],[]),(1,[0,1,5,6,7,8,9],[])] Tryz.f35 = some (ac35,[.cell 4 (some 4)],10) := by kernel_rfl
theorem struct_calls (name : List UInt8) (l : List Tm) (hl : l.length ≤ 1048576) (H : Heap) : ACalls Tryz.prog 35 [.c (.d (.str name)), .c (.d (.sl (l.map Tm.row)))] H (fun r H' => H' = H ∧ r = .agg ((Tm.mk 3 0 name l).row.map .d)) := by
  refine acalls Tryz.func35 (by kernel_rfl) ac35_ok fun hf => ?_
  simp -implicitDefEqProofs [ac35, row_mk, hf, go_sem, -List.set_cons_succ, -List.set_cons_zero]
  exact ⟨allLen_map row_len, by unfold maxApp; omega⟩
theorem bytesRows_len {s : List UInt8} : (bytesRows s).length = s.length := by simp [bytesRows]
theorem bytesRows_nil {s : List UInt8} : bytesRows s = [] ↔ s = [] := by simp [bytesRows]
theorem bytesRows_get {s : List UInt8} {i : Nat} (h : i < s.length) : (bytesRows s)[i]? = some [.int .u8 s[i].toNat] := by simp [bytesRows, h]
theorem bytes_ty {row : List D} (h : HasTy Tryz.prog 22 row) : ∃ s : List UInt8, row = [.sl (bytesRows s)] ∧ s.length ≤ reachBytes := by
  obtain ⟨rows, rfl, hb, hc, ht⟩ := h.sl_inv Tryz.underlying22
  rw [show Tryz.prog.bytesOf 5 = 1 from by kernel_rfl] at hb
  obtain ⟨l, rfl, hl⟩ := list_of_ty (f := fun b : UInt8 => [.int .u8 b.toNat]) (p := fun _ => True) (rows := rows) (fun r hr => by
    obtain ⟨n, e, hn⟩ := (ht r hr).int_inv Tryz.underlying5
    refine ⟨UInt8.ofNat n.toNat, ?_, trivial⟩
    rw [e]
    have h1 : 0 ≤ n ∧ n ≤ 255 := by simpa [inR, IntKind.min, IntKind.max, IntKind.signed, IntKind.bits] using hn
    have : ((UInt8.ofNat n.toNat).toNat : Int) = n := by
      rw [UInt8.toNat_ofNat']
      omega
    rw [this])
  exact ⟨l, rfl, by simpa using hb⟩
theorem byteRow {s : List UInt8} {i : Int} {K : A → St → Prop} {st : St} (h0 : 0 ≤ i) (h : i < s.length) (hk : K (.c (.el [.int .u8 (s[i.toNat]'(by omega)).toNat] 0)) st) : RowK true (bytesRows s) i 1 K st :=
  row_int _ h0 (bytesRows_get (by omega)) rfl hk
theorem u8_i64 (b : UInt8) : IntKind.wrap .i64 (b.toNat : Int) = b.toNat := by
  rw [IntKind.wrap_i64]
  have := b.toNat_lt
  omega
end Go.Proofs.YtcapnainldlnjaaGreat
