/-
  Contracts of functions that the law reaches, and plain lemmas: several texts in one.
  Conditions: none.
-/
import Derived.Test.YtbblefjbgbocoaaGreatDoorBundB
import Derived.Test.YtbblefjbgbocoaaGreatDoorBundC
import Derived.Test.YtbblefjbgbocoaaGreatDoorAbsN
open Go Go.AM Go.Proofs
attribute [local go_sem] kw ew sw tw a_ b_ c_ A.ok A.val d_ e_ f_ g_ h_ i_ j_ k_ l_ m_ unA unD n_ AOp.total o_ p_ q_ r_ s_ t_ u_ v_ A.thaw C.thaw A.fits As.fits C.fits evs oks w_ A.pure C.pure A.re C.re x_ y_ cut A.cells C.rows? z_ A_ B_ C_ a0_ b0_ D_ Ob.re Cs.fits E_ F_ G_ H_ I_ J_ K_ L_ M_ N_ O_ C.toD P_ Q_ R_ S_ T_ Obs.fits U_ eqD V_ W_ X_ Y_ Z_
/-
  The program's reader hands out terms that stand in arrays of their own: terms without operators.
  Conditions: none.
-/
open Go Go.AM Go.Proofs
namespace Go.Proofs.YtbblefjbgbocoaaGreatDoor
open Go.ChangeShapes Go.WideShapes Go.ChangeAt Go.RowKit
set_option linter.unusedVariables false
set_option linter.unusedSimpArgs false
set_option maxRecDepth 100000
/-- a struct without arguments is handed out -/
theorem fin_full {H : Heap} {rs : List Rv} {Q : A → Heap → Prop} {st : St} {n : List UInt8} (hok : r_ st rs) (hg : Goes H st.ext) (hr : resRaw st rs = some (.agg [.d (.int .i64 3), .d (.int .i64 0), .d (.str n), .full []]))
    (hq : ∀ x, Q (.agg ((srow (.mk 3 0 n []) x).map .d)) (st.ext ++ [ktree (.mk 3 0 n []) x])) : FinG H rs Q .ret st :=
  finG_ret _ hok hg hr fun kv => ⟨_, _, _, [], [], .one (.agg (.cons (.leaf rfl) (.cons (.leaf rfl) (.cons (.leaf rfl) (.cons .full .nil))))), rfl, rfl, by simp, hq _⟩
theorem OutF.nil : OutF [] := fun q hq => by simp at hq
theorem strip_out : ∀ out : List (Tm × Value), Strip (out.map fun q => q.1.row).flatten (out.map sq).flatten (out.map kq1)
  | [] => ⟨rfl, rfl⟩
  | q :: out => by
    have h := strip_terms ((q :: out).map Prod.fst) ((q :: out).map Prod.snd) (by simp)
    have e1 : List.zipWith srow ((q :: out).map Prod.fst) ((q :: out).map Prod.snd) = (q :: out).map sq := by rw [List.zipWith_map, List.zipWith_self]; rfl
    have e2 : List.zipWith ktree ((q :: out).map Prod.fst) ((q :: out).map Prod.snd) = (q :: out).map kq1 := by rw [List.zipWith_map, List.zipWith_self]; rfl
    rw [e1, e2, List.map_map] at h
    exact h
/-- .. with arguments -/
theorem fin_own {H : Heap} {rs : List Rv} {Q : A → Heap → Prop} {sl : List A} {ext : Heap} {o0 o1 o2 : Ob} {n : List UInt8} {out : List (Tm × Value)} (hok : r_ ⟨sl, ext, o0 :: o1 :: o2 :: .grow out.length 4 :: out.map kq1⟩ rs) (hg : Goes H ext)
    (hr : resRaw ⟨sl, ext, o0 :: o1 :: o2 :: .grow out.length 4 :: out.map kq1⟩ rs = some (.agg [.d (.int .i64 3), .d (.int .i64 0), .d (.str n), .own (.l 3) out.length (out.map sq)]))
    (hq : ∀ x, Q (.agg ((srow (.mk 3 0 n (out.map Prod.fst)) x).map .d)) (ext ++ [ktree (.mk 3 0 n (out.map Prod.fst)) x])) : FinG H rs Q .ret ⟨sl, ext, o0 :: o1 :: o2 :: .grow out.length 4 :: out.map kq1⟩ := by
  refine finG_ret _ hok hg hr fun kv => ⟨_, _, _, [], [], .one (.agg (.cons (.leaf rfl) (.cons (.leaf rfl) (.cons (.leaf rfl) (.cons (.own (i := 3) (pos := out.length) (sz := 4) (rows' := out.map fun q => q.1.row) (trs := out.map kq1) (js := (List.range out.length).map (4 + ·)) rfl (by simp) (strip_out out) (by simp [row_len, sq, srow]) fun m hm => ?_) .nil))))), rfl, rfl, ?_, ?_⟩
  · have hm : m < out.length := by simpa using hm
    refine ⟨4 + m, by simp [hm], ?_⟩
    have hl : ∀ o ∈ out.map kq1, Ob.lf o = o := fun o ho => by
      obtain ⟨q, _, rfl⟩ := List.mem_map.1 ho
      rfl
    simp only [List.map_cons]
    rw [show 4 + m = m + 1 + 1 + 1 + 1 by omega, List.getElem?_cons_succ, List.getElem?_cons_succ, List.getElem?_cons_succ, List.getElem?_cons_succ]
    rw [show (out.map kq1).map Ob.lf = out.map kq1 by simpa using List.map_congr_left hl]
  · simp only [List.append_nil, List.nil_append, List.cons_append]
    refine List.nodup_cons.2 ⟨fun h => ?_, List.Pairwise.map _ (fun a b h e => h (by omega)) List.nodup_range⟩
    obtain ⟨a, _, h⟩ := List.mem_map.1 h
    omega
  · have := hq (kv 0 3)
    simpa [ktree, Tm.kids, srow, Tm.k, Tm.n, Tm.s, List.map_map, Function.comp_def] using this
section
variable {s : List UInt8} (hs : s.length ≤ 1000000) {f : Nat}
include hs
set_option maxHeartbeats 6400000 in
theorem primeO_of (h : ∀ g, g ≤ f → Pro s g) (d a : Nat) (r : Rs) (ha : a ≤ s.length) (hd : d ≤ 2000000) (hr : rp s (f + 1) (.prime d a) = some r) : Rdo 168 [.c (.d (.int .i64 d))] s a r := fun H i hp htl h2 hi => by
  refine acallsG Tryz.func168 (by kernel_rfl) Full.ac168_ok fun hf => ?_
  rw [ro_len] at hf
  have hf1 := fun a' b' => ro_fits (s' := s) (a' := a') (b' := b') hf
  have hfr : ∀ a' b', Obs.fits (ro H i s a' b').length 0 (ro H i s a' b') := fun a' b' => by rw [ro_len]; exact hf1 a' b'
  have hg0 := fun a' b' => ro_goes htl i s a a' (-1) b' hi
  have hr : pstep s (rp s f) (.prime d a) = some r := hr
  have zf : (Tm.mk 0 0 [] []).fits := .mk (small_i64 (by omega) (by omega)) (small_i64 (by omega) (by omega)) (by simp) (by simp) (by simp)
  simp only [pstep] at hr
  by_cases hd30 : 30 < d
  · rw [if_pos hd30] at hr
    cases hr
    have hd30' : (30 : Int) < d := by omega
    simp -implicitDefEqProofs [Full.ac168, ro_get hi, ro_len, hd30', Ref.re, go_sem, -List.set_cons_succ, -List.set_cons_zero]
    refine call_mv (stop_mv s a (-1) a) hp h2 hi (by simp [Ob.re, C.re]) (zeroA_re _) (hf1 _ _) ?_
    simp -implicitDefEqProofs [zeroA, ro_len, row_len, take_row, drop_row, pure_d, re_d, thaw_d, fits_map, hfr, hf1, go_sem, -List.set_cons_succ, -List.set_cons_zero]
    exact fin_nil rfl ⟨trivial, trivial⟩ (hg0 _ _) rfl fun x => rqo_bad zf ha
  · rw [if_neg hd30] at hr
    have hd30' : ¬ (30 : Int) < d := by omega
    simp -implicitDefEqProofs [Full.ac168, ro_get hi, ro_len, hd30', Ref.re, go_sem, -List.set_cons_succ, -List.set_cons_zero]
    refine call_mv (next_mv s hs a (-1) (by omega)) hp h2 hi (by simp [Ob.re, C.re]) rfl (hf1 _ _) ?_
    have bad0 : nxt s a (-1) = 0 → some (Rs.bad a) = some r → (?stop : Prop) := ?stopP
    cases hb : s[a]? with
    | none =>
      rw [hb] at hr
      have hn : nxt s a (-1) = 0 := by unfold nxt; rw [if_neg (by decide), hb]
      exact bad0 hn hr
    | some b =>
      have hlt := (List.getElem?_eq_some_iff.1 hb).1
      have hn : nxt s a (-1) = b := by unfold nxt; rw [if_neg (by decide), hb]
      rw [hb] at hr
      simp only at hr
      by_cases hb0 : b = 0
      · subst hb0
        rw [name_zero ha hb] at hr
        exact bad0 hn (by simpa [bigB, digB] using hr)
      · have hb0' : ¬ ((b.toNat : Int) = 0) := fun e => hb0 (UInt8.toNat_inj.1 (by simpa using e))
        rw [hn]
        simp -implicitDefEqProofs [hb0', ro_len, go_sem, -List.set_cons_succ, -List.set_cons_zero]
        have hbz : ¬ b.toNat = 0 := fun e => hb0 (UInt8.toNat_inj.1 (by simpa using e))
        have hb255 := b.toNat_lt
        have i4 : inR .i64 ((a : Int) + 1) := small_i64 (by omega) (by omega)
        refine ⟨fun h => absurd h hbz, fun _ => ⟨fun q1 q2 => ?_, fun q1 => ?_⟩⟩
        · have hbig : bigB b = true := by simp [bigB]; omega
          rw [if_pos hbig] at hr
          cases hr
          have i5 : inR .u8 ((b.toNat : Int) - 65) := by simp [inR, IntKind.min, IntKind.max, IntKind.signed, IntKind.bits]; omega
          have i6 : IntKind.wrap .i64 ((b.toNat : Int) - 65) = (b.toNat : Int) - 65 := wrap_inR (small_i64 (by omega) (by omega))
          have e1 : (b.toNat : Int) - 65 = ((b.toNat - 65 : Nat) : Int) := by omega
          simp -implicitDefEqProofs [ro_get hi, ro_len, ro_up, i4, i5, i6, Ref.re, hf1, hfr, go_sem, -List.set_cons_succ, -List.set_cons_zero]
          refine qcall_pure (variableR_calls _) (hfr _ _) (by simp [A.re, re_d]) ?_
          rw [e1]
          simp -implicitDefEqProofs [ro_len, row_len, take_row, drop_row, pure_d, re_d, thaw_d, fits_map, hfr, hf1, go_sem, -List.set_cons_succ, -List.set_cons_zero]
          exact fin_nil (t := .mk 1 ((b.toNat - 65 : Nat) : Int) [] []) rfl ⟨trivial, trivial⟩ (hg0 _ _) rfl fun x => rqo_ok (.mk (by decide) (small_i64 (by omega) (by omega)) (by simp) (by simp) (by simp))
        · have hbig : ¬ bigB b = true := by simp [bigB]; omega
          rw [if_neg hbig] at hr
          refine call_mv (isNumber_mv s hs a (by omega)) hp h2 hi (by simp [Ob.re, C.re]) rfl (hf1 _ _) ?_
          have hdg : digAt s a = digB b := by unfold digAt; rw [hb]
          have hsg45 : sgn s a 45 = (b == 45) := by unfold sgn; rw [hb]
          rw [hdg, hsg45]
          by_cases hnum : (digB b || b == 45 && digAt s (a + 1)) = true
          · rw [if_pos hnum] at hr
            have hnum' : digAt s a = true ∨ (sgn s a 45 = true ∧ digAt s (a + 1) = true) := by
              rw [hdg, hsg45]
              simp only [Bool.or_eq_true, Bool.and_eq_true] at hnum
              exact hnum
            rw [hnum]
            simp -implicitDefEqProofs [ro_len, go_sem, -List.set_cons_succ, -List.set_cons_zero]
            refine call_mv (number_mv s hs a ha hnum') hp h2 hi (by simp [Ob.re, C.re]) (by unfold numV2; split <;> simp [zeroA, A.re, re_d]) (hf1 _ _) ?_
            obtain ⟨l1, l2, l3, l4⟩ := number_law ha hnum'
            cases hn4 : numR s a with
            | none =>
              rw [hn4] at hr
              cases hr
              simp -implicitDefEqProofs [numV2, numB, hn4, zeroA, ro_len, row_len, take_row, drop_row, pure_d, re_d, thaw_d, fits_map, hfr, hf1, go_sem, -List.set_cons_succ, -List.set_cons_zero]
              exact fin_nil rfl ⟨trivial, trivial⟩ (hg0 _ _) rfl fun x => rqo_bad zf l2
            | some x =>
              obtain ⟨n, j⟩ := x
              rw [hn4] at hr l4
              cases hr
              obtain ⟨_, _, w3, w4, w5⟩ := l4
              simp -implicitDefEqProofs [numV2, numB, hn4, w3, ro_len, row_len, take_row, drop_row, pure_d, re_d, thaw_d, fits_map, hfr, hf1, go_sem, -List.set_cons_succ, -List.set_cons_zero]
              exact fin_nil (t := .mk 2 n [] []) rfl ⟨trivial, trivial⟩ (hg0 _ _) rfl fun x => rqo_ok (.mk (by decide) (small_i64 (by omega) (by omega)) (by simp) (by simp) (by simp))
          · rw [if_neg hnum] at hr
            have hnum2 : (digB b || b == 45 && digAt s (a + 1)) = false := by simpa using hnum
            rw [hnum2]
            have nameK : (match nameR s a with
              | none => some (Rs.bad a)
              | some (n, j) => if sgn s j 40 then thn (rp s f (.args d j)) fun ts k => if sgn s k 41 then some (Rs.ok [.mk 3 0 n ts] (k + 1)) else some (Rs.bad k)
                else some (Rs.ok [.mk 3 0 n []] j)) = some r → (?nm : Prop) := ?nmP
            by_cases h40 : b = 40
            · subst h40
              rw [if_pos rfl] at hr
              obtain ⟨w, hw⟩ : ∃ w, rp s f (.term 3 d (a + 1)) = some w := by
                rcases thn_some hr with ⟨e, h1, _⟩ | ⟨ts, j, h1, _⟩
                · exact ⟨_, h1⟩
                · exact ⟨_, h1⟩
              have c1 := (h f (Nat.le_refl _)).term 3 d (a + 1) w (by omega) (by omega) hd hw
              have p1 := rp_post hs (j := .term 3 d (a + 1)) ⟨by omega, by omega⟩ hw
              rw [hw] at hr
              simp -implicitDefEqProofs [ro_get hi, ro_len, ro_up, i4, Ref.re, hf1, go_sem, -List.set_cons_succ, -List.set_cons_zero]
              refine call_rdo c1 (by simp [A.portB, C.portB, D.leaf]) hp htl h2 hi (by simp [Ob.re, C.re]) (hf1 _ _) ?_
              rintro t x a' b' ⟨ht, hm⟩
              have ha' : a' ≤ s.length := by
                cases w with
                | bad e => exact hm.1
                | ok ts k => rw [hm.2.1]; exact p1.2.1
              simp -implicitDefEqProofs [ro_len, srow, hfr, hf1, go_sem, -List.set_cons_succ, -List.set_cons_zero]
              refine call_mv (skip_mv s hs a' b' (by omega) 41) hp h2 hi (by simp [Ob.re, C.re]) rfl (hf1 _ _) ?_
              simp -implicitDefEqProofs [ro_len, row_len, take_row, drop_row, pure_d, re_d, thaw_d, fits_map, hfr, hf1, go_sem, -List.set_cons_succ, -List.set_cons_zero]
              refine fin_tok 1 ⟨trivial, trivial⟩ (hg0 _ _) rfl rfl ?_
              cases w with
              | bad e =>
                obtain ⟨g1, g2⟩ := hm
                subst g2
                cases hr
                rw [nxt_bad, if_neg (by decide), if_neg (by decide), if_neg (by omega)]
                exact rqo_bad ht ha'
              | ok ts k =>
                obtain ⟨g1, g2, g3⟩ := hm
                subst g2
                subst g3
                rw [thn_ok, ← g1] at hr
                exact skip_rqo hr ht ha'
            · rw [if_neg h40] at hr
              have h40' : ¬ b.toNat = 40 := fun e => h40 (UInt8.toNat_inj.1 (by simpa using e))
              by_cases h91 : b = 91
              · subst h91
                have hrest : s.drop a = 91 :: s.drop (a + 1) := by
                  obtain ⟨g1, g2⟩ := List.getElem?_eq_some_iff.1 hb
                  rw [List.drop_eq_getElem_cons g1, g2]
                have hpre : ((s.drop a).take ([91, 93] : List UInt8).length == [91, 93]) = sgn s (a + 1) 93 := by
                  rw [hrest]
                  unfold sgn
                  cases hr1 : s.drop (a + 1) with
                  | nil =>
                    have : s[a + 1]? = none := by rw [List.getElem?_eq_none_iff]; have := List.drop_eq_nil_iff.1 hr1; omega
                    rw [this]; rfl
                  | cons c w =>
                    have : s[a + 1]? = some c := at_dr hr1
                    rw [this]
                    simp [Bool.eq_iff_iff]
                simp -implicitDefEqProofs [ro_get hi, ro_len, Ref.re, go_sem, -List.set_cons_succ, -List.set_cons_zero]
                refine ⟨ha, qcall_pure (hasPrefix_calls (s.drop a) [91, 93] (by simp; omega) (by simp)) (hfr _ _) rfl ?_⟩
                rw [hpre]
                cases hsg : sgn s (a + 1) 93 with
                | true =>
                  rw [if_neg (fun h => by rw [hsg] at h; cases h.2)] at hr
                  simp -implicitDefEqProofs [ro_get hi, ro_len, Ref.re, go_sem, -List.set_cons_succ, -List.set_cons_zero]
                  exact nameK hr
                | false =>
                  rw [if_pos ⟨rfl, hsg⟩] at hr
                  have c1 := listO_of hs h d (a + 1) r (by omega) (by omega) hr
                  simp -implicitDefEqProofs [ro_get hi, ro_len, ro_up, i4, Ref.re, hf1, go_sem, -List.set_cons_succ, -List.set_cons_zero]
                  refine call_rdo c1 (by simp [A.portB, C.portB, D.leaf]) hp htl h2 hi (by simp [Ob.re, C.re]) (hf1 _ _) ?_
                  rintro t x a' b' ⟨ht, hm⟩
                  simp -implicitDefEqProofs [srow, ro_len, row_len, take_row, drop_row, pure_d, re_d, thaw_d, fits_map, hfr, hf1, go_sem, -List.set_cons_succ, -List.set_cons_zero]
                  exact fin_tok 1 ⟨trivial, trivial⟩ (hg0 _ _) rfl rfl ⟨t, x, a', b', ⟨ht, hm⟩, rfl, rfl⟩
              · have h91' : ¬ b.toNat = 91 := fun e => h91 (UInt8.toNat_inj.1 (by simpa using e))
                rw [if_neg (fun h => h91 h.1)] at hr
                simp -implicitDefEqProofs [ro_get hi, ro_len, h40', h91', Ref.re, go_sem, -List.set_cons_succ, -List.set_cons_zero]
                refine ⟨fun h => absurd h (by omega), fun _ => ⟨fun _ => ha, fun h => absurd h (by omega), fun _ => ?_⟩⟩
                exact nameK hr
            case nmP =>
              intro hr
              refine call_mv (name_mv s hs a ha) hp h2 hi (by simp [Ob.re, C.re]) (by unfold nameV; split <;> simp [A.re, C.re]) (hf1 _ _) ?_
              cases hn : nameR s a with
              | none =>
                rw [hn] at hr
                cases hr
                simp -implicitDefEqProofs [nameV, nameJ, nameF, hn, ro_len, go_sem, -List.set_cons_succ, -List.set_cons_zero]
                refine call_newR (atom_full []) (by simp [Ob.re, C.re]) (by simp [A.re, C.re]) (hfr _ _) (by simp [Ob.re, C.re]) ?_
                simp -implicitDefEqProofs [ro_len, hf1, go_sem, -List.set_cons_succ, -List.set_cons_zero]
                refine call_mv (next_mv s hs a a (by omega)) hp h2 hi (by simp [Ob.re, C.re]) rfl (hf1 _ _) ?_
                rw [nxt_bad]
                simp -implicitDefEqProofs [ro_len, hfr, hf1, go_sem, -List.set_cons_succ, -List.set_cons_zero]
                exact fin_full (n := []) ⟨trivial, trivial⟩ (hg0 _ _) rfl fun x => rqo_bad (fits_st (by simp) (by simp) (by simp)) ha
              | some x =>
                obtain ⟨n, j⟩ := x
                rw [hn] at hr
                simp only at hr
                obtain ⟨n1, n2, n3⟩ := nameR_ok ha hn
                have hnf : (Tm.mk 3 0 n []).fits := fits_st n3 (by simp) (by simp)
                simp -implicitDefEqProofs [nameV, nameJ, nameF, hn, ro_len, go_sem, -List.set_cons_succ, -List.set_cons_zero]
                refine call_newR (atom_full n) (by simp [Ob.re, C.re]) (by simp [A.re, C.re]) (hfr _ _) (by simp [Ob.re, C.re]) ?_
                simp -implicitDefEqProofs [ro_len, hf1, go_sem, -List.set_cons_succ, -List.set_cons_zero]
                refine call_mv (next_mv s hs j (-1) (by omega)) hp h2 hi (by simp [Ob.re, C.re]) rfl (hf1 _ _) ?_
                have e40 : (((nxt s j (-1)).toNat : Int) == 40) = sgn s j 40 := nxt_eq s j 40 (by decide)
                cases hsg : sgn s j 40 with
                | false =>
                  rw [hsg] at hr e40
                  have he : ¬ ((nxt s j (-1)).toNat : Int) = 40 := fun h => by rw [beq_iff_eq.2 h] at e40; cases e40
                  cases hr
                  simp -implicitDefEqProofs [he, ro_len, hfr, hf1, go_sem, -List.set_cons_succ, -List.set_cons_zero]
                  exact fin_full (n := n) ⟨trivial, trivial⟩ (hg0 _ _) rfl fun x => rqo_ok hnf
                | true =>
                  rw [hsg] at hr e40
                  have he : ((nxt s j (-1)).toNat : Int) = 40 := beq_iff_eq.1 e40
                  simp only [if_true] at hr
                  have hjl := sgn_lt hsg
                  obtain ⟨R, hR⟩ : ∃ R, rp s f (.args d j) = some R := by
                    rcases thn_some hr with ⟨e, h1, _⟩ | ⟨ts, j, h1, _⟩
                    · exact ⟨_, h1⟩
                    · exact ⟨_, h1⟩
                  have pR := rp_post hs (j := .args d j) hjl hR
                  rw [hR] at hr
                  simp -implicitDefEqProofs [he, ro_len, hfr, hf1, go_sem, -List.set_cons_succ, -List.set_cons_zero]
                  refine loop_enter (St.le_tokenC 2 3 4 rfl rfl) ?_
                  refine loop_set (σ := Nat × Int × List (Tm × Value) × Nat × Rs × Bool) (fun x => [(8, .c (.d (.bool x.2.2.2.2.2)))]) (fun x => ro H i s x.1 x.2.1)
                    (fun x => [.cells [.d (.int .i64 0), .d (.int .i64 0), .d (.str []), .full []], .cells [.d (.int .i64 3), .d (.int .i64 0), .d (.str n), .full []], .cells [.d (.int .i64 3), .d (.int .i64 0), .d (.str n), .own (.l 3) x.2.2.1.length (x.2.2.1.map sq)], .grow x.2.2.1.length 4] ++ x.2.2.1.map kq1)
                    (fun x => x.1 ≤ s.length ∧ x.2.2.1.length ≤ 1000001 ∧ OutF x.2.2.1 ∧
                      ((x.2.2.2.2.2 = true ∧ x.2.1 = -1 ∧ x.2.2.1.length ≤ x.1 ∧ x.1 < s.length ∧ x.2.2.2.1 ≤ f ∧ rp s x.2.2.2.1 (.args d x.1) = some x.2.2.2.2.1 ∧ x.2.2.2.2.1.app2 (x.2.2.1.map Prod.fst) = R) ∨
                       (x.2.2.2.2.2 = false ∧ ((x.2.1 = -1 ∧ R = .ok (x.2.2.1.map Prod.fst) x.1) ∨ ∃ e : Nat, x.2.1 = e ∧ R = .bad e))))
                    (fun x => if x.2.2.2.2.2 then x.2.2.2.1 + 1 else 0) (j, -1, [], f, R, true) (by simp [setAll, sq, srow, kq1]) ⟨n2, by simp, OutF.nil, .inl ⟨rfl, rfl, by simp, hjl, Nat.le_refl _, hR, by cases R <;> rfl⟩⟩ ?_
                  rintro ⟨p, b2, out, g, q, more⟩ ⟨hpl, hol, hof, hst⟩
                  simp only at hpl hol hof hst
                  simp -implicitDefEqProofs [setAll, ro_len, go_sem, -List.set_cons_succ, -List.set_cons_zero]
                  refine ⟨fun hmore => ?_, fun hmore => ?_⟩
                  · rcases hst with ⟨_, rfl, hop, hpl2, hg, hq, happ⟩ | ⟨hmf, _⟩
                    · subst hmore
                      cases g with
                      | zero => cases hq
                      | succ g =>
                        have hq : pstep s (rp s g) (.args d p) = some q := hq
                        simp only [pstep] at hq
                        obtain ⟨w, hw⟩ : ∃ w, rp s g (.term 3 (d + 1) (p + 1)) = some w := by
                          rcases thn_some hq with ⟨e, h1, _⟩ | ⟨ts, j, h1, _⟩
                          · exact ⟨_, h1⟩
                          · exact ⟨_, h1⟩
                        have c1 := partO_of (h g (by omega)) (d + 1) (p + 1) w (by omega) (by omega) hw
                        have p1 := rp_post hs (j := .term 3 (d + 1) (p + 1)) ⟨by omega, by omega⟩ hw
                        rw [hw] at hq
                        have e1 : ((d + 1 : Nat) : Int) = (d : Int) + 1 := by omega
                        rw [e1] at c1
                        have i1 : inR .i64 ((d : Int) + 1) := small_i64 (by omega) (by omega)
                        have i5 : inR .i64 ((p : Int) + 1) := small_i64 (by omega) (by omega)
                        simp -implicitDefEqProofs [ro_len, ro_get hi, ro_up, i1, i5, Ref.re, hf1, go_sem, -List.set_cons_succ, -List.set_cons_zero]
                        refine call_rdo c1 (by simp [A.portB, C.portB, D.leaf]) hp htl h2 hi (by simp [Ob.re, C.re, Ref.re, kq1_re]) (hf1 _ _) ?_
                        rintro t x a' b' ⟨ht, hm⟩
                        refine ⟨LocSame.push _ _, ?_⟩
                        have ha' : a' ≤ s.length ∧ (∀ e : Nat, w = .bad e → b' = e) := by
                          cases w with
                          | bad e => exact ⟨hm.1, fun e' he => by cases he; exact hm.2⟩
                          | ok ts k => exact ⟨by rw [hm.2.1]; exact p1.2.1, fun e' he => by cases he⟩
                        simp -implicitDefEqProofs [ro_len, srow, hfr, hf1, go_sem, -List.set_cons_succ, -List.set_cons_zero]
                        refine ⟨allLen_map (fun q => rfl), by unfold maxApp; omega, ?_⟩
                        refine call_mv (next_mv s hs a' b' (by omega)) hp h2 hi (by simp [Ob.re, C.re, Ref.re, kq1_re, ktree]) rfl (hf1 _ _) ?_
                        simp -implicitDefEqProofs [ro_len, go_sem, -List.set_cons_succ, -List.set_cons_zero]
                        have hfo : OutF (out ++ [(t, x)]) := fun q hx => by
                          rcases List.mem_append.1 hx with hx | hx
                          · exact hof q hx
                          · rw [List.mem_singleton.1 hx]; exact ht
                        cases w with
                        | bad e =>
                          obtain ⟨g1, g2⟩ := hm
                          subst g2
                          rw [nxt_bad]
                          cases hq
                          have hRe : R = .bad e := by rw [← happ]; rfl
                          exact loop_back (a', (e : Int), out ++ [(t, x)], 0, .bad e, false) (by simp [setAll, sq, srow, kq1]) ⟨g1, by simp; omega, hfo, .inr ⟨rfl, .inr ⟨e, rfl, hRe⟩⟩⟩ (by show 0 < g + 1 + 1; omega)
                        | ok ts k =>
                          obtain ⟨g1, g2, g3⟩ := hm
                          subst g2
                          subst g3
                          obtain ⟨q1, q2, q3⟩ := p1
                          have e44 : (((nxt s a' (-1)).toNat : Int) == 44) = sgn s a' 44 := nxt_eq s a' 44 (by decide)
                          rw [thn_ok, ← g1] at hq
                          cases hsg : sgn s a' 44 with
                          | true =>
                            rw [hsg] at hq e44
                            simp only [if_true] at hq
                            have hlt := sgn_lt hsg
                            obtain ⟨v, hv, hva⟩ : ∃ v, rp s g (.args d a') = some v ∧ v.app2 (out.map Prod.fst ++ [t]) = R := by
                              rcases thn_some hq with ⟨e, h1, h3⟩ | ⟨us, k2, h1, h3⟩
                              · exact ⟨_, h1, by rw [← happ, h3]; rfl⟩
                              · cases h3
                                exact ⟨_, h1, by rw [← happ]; simp [Rs.app2]⟩
                            rw [e44]
                            exact loop_back (a', -1, out ++ [(t, x)], g, v, true) (by simp [setAll, sq, srow, kq1]) ⟨q2, by simp; omega, hfo, .inl ⟨rfl, rfl, by simp; omega, hlt, by show g ≤ f; omega, hv, by simpa using hva⟩⟩ (by show g + 1 < g + 1 + 1; omega)
                          | false =>
                            rw [hsg] at hq e44
                            simp only [Bool.false_eq_true, if_false, Option.some.injEq] at hq
                            rw [e44]
                            exact loop_back (a', -1, out ++ [(t, x)], 0, q, false) (by simp [setAll, sq, srow, kq1]) ⟨q2, by simp; omega, hfo, .inr ⟨rfl, .inl ⟨rfl, by rw [← happ, ← hq]; simp [Rs.app2]⟩⟩⟩ (by show 0 < g + 1 + 1; omega)
                    · rw [hmore] at hmf; cases hmf
                  · rcases hst with ⟨hmt, _⟩ | ⟨_, hst⟩
                    · rw [hmore] at hmt; cases hmt
                    · subst hmore
                      refine call_mv (skip_mv s hs p b2 (by omega) 41) hp h2 hi (by simp [Ob.re, C.re, Ref.re, kq1_re, ktree]) rfl (hf1 _ _) ?_
                      simp -implicitDefEqProofs [srow, ro_len, hfr, hf1, go_sem, -List.set_cons_succ, -List.set_cons_zero]
                      have hof2 : (Tm.mk 3 0 n (out.map Prod.fst)).fits := fits_st n3 (by simp; omega) fun t ht => by
                        obtain ⟨q, hq, rfl⟩ := List.mem_map.1 ht
                        exact hof q hq
                      refine fin_own (n := n) (out := out) ⟨trivial, trivial⟩ (hg0 _ _) rfl fun x => ?_
                      rcases hst with ⟨rfl, hRo⟩ | ⟨e, rfl, hRe⟩
                      · subst hRo
                        rw [thn_ok] at hr
                        exact skip_rqo hr hof2 hpl
                      · subst hRe
                        cases hr
                        rw [nxt_bad, if_neg (by decide), if_neg (by decide), if_neg (by omega)]
                        exact rqo_bad hof2 hpl
    case stopP =>
      intro hn hr
      cases hr
      rw [hn]
      simp -implicitDefEqProofs [ro_get hi, ro_len, Ref.re, go_sem, -List.set_cons_succ, -List.set_cons_zero]
      refine call_mv (stop_mv s a (-1) a) hp h2 hi (by simp [Ob.re, C.re]) (zeroA_re _) (hf1 _ _) ?_
      simp -implicitDefEqProofs [zeroA, ro_len, row_len, take_row, drop_row, pure_d, re_d, thaw_d, fits_map, hfr, hf1, go_sem, -List.set_cons_succ, -List.set_cons_zero]
      exact fin_nil rfl ⟨trivial, trivial⟩ (hg0 _ _) rfl fun x => rqo_bad zf ha
end
/-- the program's reader does what it is said to do -/
theorem pro (s : List UInt8) (hs : s.length ≤ 1000000) : ∀ f, Pro s f := by
  intro f
  induction f using Nat.strongRecOn with
  | ind f ih =>
    cases f with
    | zero => exact ⟨fun _ _ _ _ _ _ _ h => (by cases h), fun _ _ _ _ _ h => (by cases h)⟩
    | succ f =>
      have h : ∀ g, g ≤ f → Pro s g := fun g hg => ih g (by omega)
      exact ⟨fun l d a r ha hl hd hr => termO_of hs h l d a r ha hl hd hr, fun d a r ha hd hr => primeO_of hs h d a r ha hd hr⟩
end Go.Proofs.YtbblefjbgbocoaaGreatDoor

/-
  ParseQuery hands out goals that stand in arrays of their own.
  Conditions: none.
-/
open Go Go.AM Go.Proofs
namespace Go.Proofs.YtbblefjbgbocoaaGreatDoor
open Go.ChangeShapes Go.WideShapes Go.ChangeAt Go.RowKit
set_option linter.unusedVariables false
set_option linter.unusedSimpArgs false
set_option maxRecDepth 100000
namespace Own
-- 60 (*loop.example/prologserver/impl.reader).goals params 1 ntmps 23
-- loop head live: [0,3,4]
def ac60 : Cd := .seq (.region [⟨(some 2),.mv (.k (.c (.full []))),none⟩] [2])
 (.seq (.region [⟨(some 3),.mv (.k (.c (.full []))),none⟩] [])
 (.seq (.seq (.region [⟨(some 4),.mv (.k (.c (.d (.bool true)))),none⟩] [])
 (.block 0 (.loop (.seq (.seq (.region [⟨(some 5),.mv (.t 4),none⟩] [4])
 (.cond (.t 5)
 (.skip)
 (.exit 0)))
 (.block 1 (.seq (.region [⟨(some 6),.mv (.t 3),none⟩,
 ⟨(some 7),.mv (.t 0),none⟩,
 ⟨(some 8),.call false 109 [(.t 7),(.k (.c (.d (.int .i64 3)))),(.k (.c (.d (.int .i64 1))))],none⟩,
 ⟨(some 9),.buildSlice 4 1 [(.int .i64 0),(.int .i64 0),(.str []),(.sl [])] [(0,(.t 8))],none⟩,
 ⟨(some 10),.append false 4 (.t 6) (.t 9),none⟩,
 ⟨(some 3),.mv (.t 10),none⟩] [5,6,7,8,9,10])
 (.seq (.region [⟨(some 11),.mv (.t 0),none⟩,
 ⟨(some 12),.call false 110 [(.t 11)],none⟩,
 ⟨(some 13),.bin .eql (.t 12) (.k (.c (.d (.int .u8 44)))),none⟩,
 ⟨(some 4),.mv (.t 13),none⟩] [11,12,13])
 (.seq (.region [⟨(some 14),.mv (.t 4),none⟩] [])
 (.cond (.t 14)
 (.region [⟨(some 15),.mv (.t 0),none⟩,
 ⟨(some 16),.nilCheck (.t 15),none⟩,
 ⟨(some 17),.fieldAddr 1 (.t 16),none⟩,
 ⟨(some 18),.load none (.t 17),none⟩,
 ⟨(some 19),.bin .add (.t 18) (.k (.c (.d (.int .i64 1)))),none⟩,
 ⟨(some 20),.nilCheck (.t 15),none⟩,
 ⟨(some 21),.fieldAddr 1 (.t 20),none⟩,
 ⟨none,.store 1 (.t 21) (.t 19),none⟩] [14,15,16,17,18,19,20,21])
 (.skip))))))))))
 (.seq (.region [⟨(some 22),.mv (.t 3),none⟩,
 ⟨(some 2),.mv (.t 22),none⟩] [3,22])
 (.ret))))
theorem ac60_ok : cFunc Tryz.prog [] [(0,[2],[]),(1,[],[]),(2,[],[]),(3,[4],[]),(4,[5,6,7,8,9,10],[]),(5,[11,12,13],[]),(6,[],[]),(7,[14,15,16,17,18,19,20,21],[]),(8,[3,22],[])] Tryz.f60 = some (ac60,[.tmp 2],23) := by kernel_rfl
-- 15 loop.example/prologserver/impl.ParseQuery params 1 ntmps 34
def ac15 : Cd := .seq (.region [⟨(some 2),.mv (.k (.c (.full []))),none⟩,
 ⟨(some 3),.mv (.k (.c (.d (.bool false)))),none⟩] [2,3])
 (.seq (.seq (.region [⟨(some 6),.mv (.t 0),none⟩,
 ⟨(some 7),.len 0 (.t 6),none⟩,
 ⟨(some 8),.bin .gtr (.t 7) (.k (.c (.d (.int .i64 1000)))),none⟩] [6,7])
 (.cond (.t 8)
 (.seq (.region [⟨(some 2),.mv (.k (.c (.full []))),none⟩,
 ⟨(some 3),.mv (.k (.c (.d (.bool false)))),none⟩] [0,8])
 (.ret))
 (.skip)))
 (.seq (.region [⟨(some 9),.mv (.t 0),none⟩,
 ⟨(some 10),.build [(.d (.str [])),(.d (.int .i64 0)),(.d (.int .i64 0)),(.d (.bool false))] [(0,1,(.t 9)),(2,1,(.k (.c (.d (.int .i64 (-1)))))),(3,1,(.k (.c (.d (.bool true)))))],none⟩,
 ⟨(some 11),.box (.t 10),none⟩,
 ⟨(some 4),.mv (.t 11),none⟩] [2,3,8,9,10,11])
 (.seq (.region [⟨(some 12),.mv (.t 4),none⟩,
 ⟨(some 13),.call false 60 [(.t 12)],none⟩,
 ⟨(some 5),.mv (.t 13),none⟩] [12,13])
 (.seq (.seq (.region [⟨(some 14),.mv (.t 4),none⟩,
 ⟨(some 15),.nilCheck (.t 14),none⟩,
 ⟨(some 16),.fieldAddr 2 (.t 15),none⟩,
 ⟨(some 17),.load none (.t 16),none⟩,
 ⟨(some 18),.bin .geq (.t 17) (.k (.c (.d (.int .i64 0)))),none⟩,
 ⟨(some 19),.mv (.t 18),none⟩,
 ⟨(some 20),.mv (.t 4),some (19,false)⟩,
 ⟨(some 21),.nilCheck (.t 20),some (19,false)⟩,
 ⟨(some 22),.fieldAddr 1 (.t 21),some (19,false)⟩,
 ⟨(some 23),.load none (.t 22),some (19,false)⟩,
 ⟨(some 24),.mv (.t 0),some (19,false)⟩,
 ⟨(some 25),.len 0 (.t 24),some (19,false)⟩,
 ⟨(some 26),.bin .neq (.t 23) (.t 25),some (19,false)⟩,
 ⟨(some 27),.pick (.t 19) (.k (.c (.d (.bool true)))) (.t 26),none⟩,
 ⟨(some 28),.mv (.t 27),none⟩,
 ⟨(some 29),.mv (.t 5),some (28,false)⟩,
 ⟨(some 30),.qcall 25 [(.t 29)],some (28,false)⟩,
 ⟨(some 31),.un .not (.t 30),some (28,false)⟩,
 ⟨(some 32),.pick (.t 28) (.k (.c (.d (.bool true)))) (.t 31),none⟩] [0,4,14,15,16,17,18,19,20,21,22,23,24,25,26,27,28,29,30,31])
 (.cond (.t 32)
 (.seq (.region [⟨(some 2),.mv (.k (.c (.full []))),none⟩,
 ⟨(some 3),.mv (.k (.c (.d (.bool false)))),none⟩] [5,32])
 (.ret))
 (.skip)))
 (.seq (.region [⟨(some 33),.mv (.t 5),none⟩,
 ⟨(some 2),.mv (.t 33),none⟩,
 ⟨(some 3),.mv (.k (.c (.d (.bool true)))),none⟩] [5,32,33])
 (.ret))))))
theorem ac15_ok : cFunc Tryz.prog [1000025] [(0,[2,3],[]),(1,[6,7],[]),(2,[0,8],[]),(3,[2,3,8,9,10,11],[]),(4,[12,13],[]),(5,[0,4,14,15,16,17,18,19,20,21,22,23,24,25,26,27,28,29,30,31],[]),(6,[5,32],[]),(7,[5,32,33],[])] Tryz.f15 = some (ac15,[.tmp 2,.tmp 3],34) := by kernel_rfl
end Own
/-- rows of terms are handed out -/
theorem fin_rows {H : Heap} {rs : List Rv} {Q : A → Heap → Prop} {sl : List A} {ext : Heap} {out : List (Tm × Value)} (hok : r_ ⟨sl, ext, .grow out.length 4 :: out.map kq1⟩ rs) (hg : Goes H ext)
    (hr : resRaw ⟨sl, ext, .grow out.length 4 :: out.map kq1⟩ rs = some (.c (.own (.l 0) out.length (out.map sq))))
    (hq : ∀ y, Q (.c (.d (.v y))) (ext ++ [.tree y ((out.map Prod.fst).map Tm.row)])) : FinG H rs Q .ret ⟨sl, ext, .grow out.length 4 :: out.map kq1⟩ := by
  refine finG_ret _ hok hg hr fun kv => ⟨_, _, _, [], [], .one (.c (.own (i := 0) (pos := out.length) (sz := 4) (rows' := out.map fun q => q.1.row) (trs := out.map kq1) (js := (List.range out.length).map (1 + ·)) rfl (by simp) (strip_out out) (by simp [row_len, sq, srow]) fun m hm => ?_)), rfl, rfl, ?_, ?_⟩
  · have hm : m < out.length := by simpa using hm
    refine ⟨1 + m, by simp [hm], ?_⟩
    have hl : ∀ o ∈ out.map kq1, Ob.lf o = o := fun o ho => by
      obtain ⟨q, _, rfl⟩ := List.mem_map.1 ho
      rfl
    simp only [List.map_cons]
    rw [show 1 + m = m + 1 by omega, List.getElem?_cons_succ]
    rw [show (out.map kq1).map Ob.lf = out.map kq1 by simpa using List.map_congr_left hl]
  · simp only [List.append_nil, List.nil_append, List.cons_append]
    refine List.nodup_cons.2 ⟨fun h => ?_, List.Pairwise.map _ (fun a b h e => h (by omega)) List.nodup_range⟩
    obtain ⟨a, _, h⟩ := List.mem_map.1 h
    omega
  · have := hq (kv 0 0)
    simpa [List.map_map, Function.comp_def] using this
set_option maxHeartbeats 3200000 in
theorem goalsO_calls (s : List UInt8) (hs : s.length ≤ 1000000) (H : Heap) (i : Nat) (hp : Hp H) (htl : H.all Ob.tellB = true) (h2 : 2 ≤ i) (hi : i < H.length) : ACalls Tryz.prog 60 [.c (.ptr (.e i) 0)] (ro H i s 0 (-1))
    (fun r H' => ∃ (ts : List Tm) (a : Nat) (b : Int) (y : Value), r = .c (.d (.v y)) ∧ (∀ t ∈ ts, t.fits) ∧ ts.length ≤ s.length + 1 ∧ a ≤ s.length ∧ Gq s ts a b ∧ H' = ro H i s a b ++ [.tree y (ts.map Tm.row)]) := by
  refine acallsG Tryz.func60 (by kernel_rfl) Own.ac60_ok fun hf => ?_
  rw [ro_len] at hf
  have hf1 := fun a' b' => ro_fits (s' := s) (a' := a') (b' := b') hf
  have hfr : ∀ a' b', Obs.fits (ro H i s a' b').length 0 (ro H i s a' b') := fun a' b' => by rw [ro_len]; exact hf1 a' b'
  have hg0 := fun a' b' => ro_goes htl i s 0 a' (-1) b' hi
  simp -implicitDefEqProofs [Own.ac60, ro_len, Ref.re, go_sem, -List.set_cons_succ, -List.set_cons_zero]
  refine loop_enter (St.le_token 3 4 rfl) ?_
  refine loop_set (σ := Nat × Int × List (Tm × Value) × Bool) (fun x => [(3, .c (.own (.l 0) x.2.2.1.length (x.2.2.1.map sq))), (4, .c (.d (.bool x.2.2.2)))]) (fun x => ro H i s x.1 x.2.1)
    (fun x => [.grow x.2.2.1.length 4] ++ x.2.2.1.map kq1)
    (fun x => x.1 ≤ s.length ∧ x.2.2.1.length ≤ s.length + 1 ∧ OutF x.2.2.1 ∧
      ((x.2.2.2 = true ∧ x.2.1 = -1 ∧ x.2.2.1.length ≤ x.1 ∧ Gst s (x.2.2.1.map Prod.fst) x.1) ∨ (x.2.2.2 = false ∧ Gq s (x.2.2.1.map Prod.fst) x.1 x.2.1)))
    (fun x => if x.2.2.2 then s.length + 1 - x.1 else 0) (0, -1, [], true) (by simp [setAll]) ⟨Nat.zero_le _, by simp, OutF.nil, .inl ⟨rfl, rfl, by simp, Gst.start s⟩⟩ ?_
  rintro ⟨p, b, out, more⟩ ⟨hpl, hol, hof, hst⟩
  simp only at hpl hol hof hst
  simp -implicitDefEqProofs [setAll, ro_len, go_sem, -List.set_cons_succ, -List.set_cons_zero]
  rcases hst with ⟨rfl, rfl, hop, hG⟩ | ⟨rfl, hG⟩
  · obtain ⟨w, hw, _⟩ := rp_total s hs (8 * (s.length + 1) + 5) (.term 3 1 p) (by simp [PJ.m]; omega) ⟨hpl, Nat.le_refl _⟩
    have c1 := (pro s hs _).term 3 1 p w hpl (Nat.le_refl _) (by omega) hw
    have p1 := rp_post hs (j := .term 3 1 p) ⟨hpl, Nat.le_refl _⟩ hw
    have tl := rp_tells hs _ (.term 3 1 p) w hw ⟨hpl, Nat.le_refl _⟩ 30 (Nat.le_refl _)
    simp -implicitDefEqProofs [ro_len, go_sem, -List.set_cons_succ, -List.set_cons_zero]
    refine call_rdo c1 (by simp [A.portB, C.portB, D.leaf]) hp htl h2 hi (by simp [Ob.re, C.re, kq1_re]) (hf1 _ _) ?_
    rintro t x a' b' ⟨ht, hm⟩
    have ha' : a' ≤ s.length := by
      cases w with
      | bad e => exact hm.1
      | ok ts k => rw [hm.2.1]; exact p1.2.1
    simp -implicitDefEqProofs [srow, ro_len, hfr, hf1, go_sem, -List.set_cons_succ, -List.set_cons_zero]
    refine ⟨allLen_map (fun q => rfl), by unfold maxApp; omega, ?_⟩
    refine call_mv (next_mv s hs a' b' (by omega)) hp h2 hi (by simp [Ob.re, C.re, kq1_re, ktree]) rfl (hf1 _ _) ?_
    simp -implicitDefEqProofs [ro_len, go_sem, -List.set_cons_succ, -List.set_cons_zero]
    have hfo : OutF (out ++ [(t, x)]) := fun q hx => by
      rcases List.mem_append.1 hx with hx | hx
      · exact hof q hx
      · rw [List.mem_singleton.1 hx]; exact ht
    cases w with
    | bad e =>
      obtain ⟨g1, g2⟩ := hm
      subst g2
      rw [nxt_bad]
      have hB : Gbad s := hG.bad fun us k hk => by
        obtain ⟨u, hu, hsh⟩ := tl us k hk
        have h5 := (read_one hs hpl (Nat.le_refl _) hk).1
        rw [h5] at hu
        rw [List.mem_singleton.1 hu] at hsh
        exact hsh
      simp -implicitDefEqProofs [ro_len, go_sem, -List.set_cons_succ, -List.set_cons_zero]
      refine loop_less (a', (e : Int), out ++ [(t, x)], false) (St.le_more ?_ (by simp [kq1]; exact Obs.le_refl _)) ⟨g1, by simp; omega, hfo, .inr ⟨rfl, .inr ⟨⟨e, rfl⟩, hB⟩⟩⟩ (by show 0 < s.length + 1 - p; omega)
      simp [setAll, sq, srow, kq1, Sl.le, A.le_refl_iff, A.le_u_iff, As.lo, A.lo, C.lo, Ref.lo, Cs.lo, Obs.lo, Ob.lo, setAll, and_true, true_and, List.length_nil, List.length_cons]
    | ok ts k =>
      obtain ⟨g1, g2, g3⟩ := hm
      subst g2
      subst g3
      obtain ⟨q1, q2, q3⟩ := p1
      have tl : rdF s (.read p 30 3) = some (.ok ts a') := tl
      have e44 : (((nxt s a' (-1)).toNat : Int) == 44) = sgn s a' 44 := nxt_eq s a' 44 (by decide)
      cases hsg : sgn s a' 44 with
      | true =>
        rw [hsg] at e44
        have he : ((nxt s a' (-1)).toNat : Int) = 44 := beq_iff_eq.1 e44
        have hlt := sgn_lt hsg
        have i4 : inR .i64 ((a' : Int) + 1) := small_i64 (by omega) (by omega)
        have hG2 := hG.next tl hsg
        rw [← g1] at hG2
        simp -implicitDefEqProofs [he, ro_len, ro_get hi, ro_up, i4, Ref.re, hf1, go_sem, -List.set_cons_succ, -List.set_cons_zero]
        exact loop_back (a' + 1, -1, out ++ [(t, x)], true) (by simp [setAll, sq, srow, kq1]) ⟨by show a' + 1 ≤ s.length; omega, by simp; omega, hfo, .inl ⟨rfl, rfl, by simp; omega, by simpa using hG2⟩⟩ (by show s.length + 1 - (a' + 1) < s.length + 1 - p; omega)
      | false =>
        rw [hsg] at e44
        have he : ¬ ((nxt s a' (-1)).toNat : Int) = 44 := fun h => by rw [beq_iff_eq.2 h] at e44; cases e44
        have hG2 := hG.last tl hsg
        rw [← g1] at hG2
        simp -implicitDefEqProofs [he, ro_len, go_sem, -List.set_cons_succ, -List.set_cons_zero]
        refine loop_less (a', -1, out ++ [(t, x)], false) (St.le_more ?_ (by simp [kq1]; exact Obs.le_refl _)) ⟨ha', by simp; omega, hfo, .inr ⟨rfl, .inl ⟨rfl, by simp, by simpa using hG2⟩⟩⟩ (by show 0 < s.length + 1 - p; omega)
        simp [setAll, sq, srow, kq1, he, Sl.le, A.le_refl_iff, A.le_u_iff, As.lo, A.lo, C.lo, Ref.lo, Cs.lo, Obs.lo, Ob.lo, setAll, and_true, true_and, List.length_nil, List.length_cons]
        rw [e44]
        exact .refl _
  · simp -implicitDefEqProofs [ro_len, hfr, hf1, go_sem, -List.set_cons_succ, -List.set_cons_zero]
    exact fin_rows ⟨trivial, trivial⟩ (hg0 _ _) rfl fun y => ⟨out.map Prod.fst, p, b, y, rfl, fun t ht => by
      obtain ⟨q, hq, rfl⟩ := List.mem_map.1 ht
      exact hof q hq, by simpa using hol, hpl, hG, rfl⟩
/-- a pair of rows and a datum is handed out -/
theorem fin_rd2 {H : Heap} {rs : List Rv} {Q : A → Heap → Prop} {st : St} {rows : List (List D)} {x : Value} {y : D} (j : Nat) (hy : y.leaf = true) (hok : r_ st rs) (hg : Goes H st.ext) (hr : resRaw st rs = some (.tup [.c (.d (.v x)), .c (.d y)])) (hj : st.loc[j]? = some (.tree x rows))
    (hq : Q (.tup [.c (.d (.v x)), .c (.d y)]) (st.ext ++ [.tree x rows])) : FinG H rs Q .ret st :=
  finG_ret _ hok hg hr fun kv => ⟨_, [], [], [.tree x rows], [j], .tup (.cons (.c (.leaf rfl)) (.cons (.c (.leaf hy)) .nil)), by simp [hj], rfl, by simp, hq⟩
theorem fin_rnil2 {H : Heap} {rs : List Rv} {Q : A → Heap → Prop} {st : St} {y : D} (hy : y.leaf = true) (hok : r_ st rs) (hg : Goes H st.ext) (hr : resRaw st rs = some (.tup [.c (.full []), .c (.d y)]))
    (hq : ∀ x, Q (.tup [.c (.d (.v x)), .c (.d y)]) (st.ext ++ [.tree x []])) : FinG H rs Q .ret st :=
  finG_ret _ hok hg hr fun kv => ⟨_, _, _, [], [], .tup (.cons (.c .full) (.cons (.c (.leaf hy)) .nil)), rfl, rfl, by simp, hq _⟩
/-- a function that hands out rows and a datum, beside what is told -/
def HandsRD (f : FuncId) (xs : List A) (rows : List (List D)) (y : D) : Prop := ∀ H, Hp H → H.all Ob.tellB = true → ACalls Tryz.prog f xs H (fun r H' => ∃ x, r = .tup [.c (.d (.v x)), .c (.d y)] ∧ H' = H ++ [.tree x rows])
theorem call_ownO1 {f : FuncId} {s : List UInt8} {Q : List Tm → Nat → Int → Prop} (hd : ∀ (H : Heap) (i : Nat), Hp H → H.all Ob.tellB = true → 2 ≤ i → i < H.length → ACalls Tryz.prog f [.c (.ptr (.e i) 0)] (ro H i s 0 (-1)) (fun r H' => ∃ (ts : List Tm) (a : Nat) (b : Int) (y : Value), r = .c (.d (.v y)) ∧ Q ts a b ∧ H' = ro H i s a b ++ [.tree y (ts.map Tm.row)]))
    {ext : Heap} {sl : List A} {H₂ : Heap} {K : A → St → Prop} (hp : Hp ext) (ht : ext.all Ob.tellB = true) (hH : H₂ = ext ++ [rdO s 0 (-1)]) (hf : Obs.fits ext.length 0 ext) (hk : ∀ ts a' b' y, Q ts a' b' → K (.c (.d (.v y))) ⟨sl, ext, [rdO s a' b', .tree y (ts.map Tm.row)]⟩) :
    ACalls Tryz.prog f [.c (.ptr (.e ext.length) 0)] H₂ (CallK K ⟨sl, ext, [rdO s 0 (-1)]⟩) := by
  subst hH
  have hl : 2 ≤ ext.length := by
    obtain ⟨o, o2, _, h2, _⟩ := hp
    have := (List.getElem?_eq_some_iff.1 h2).1
    omega
  have hro : ∀ a' b', ro (ext ++ [rdO s 0 (-1)]) ext.length s a' b' = ext ++ [rdO s a' b'] := fun a' b' => by
    unfold ro
    rw [List.set_append_right _ _ (by omega), Nat.sub_self]
    rfl
  have h := hd (ext ++ [rdO s 0 (-1)]) ext.length (hp_append hp _) (by rw [List.all_append, ht]; rfl) hl (by simp)
  rw [hro] at h
  refine h.mono fun r' H' ⟨ts, a', b', y, h1, hq, h2⟩ => ?_
  rw [hro] at h2
  subst h1
  exact ⟨ext, [rdO s a' b', .tree y (ts.map Tm.row)], _, by rw [h2, List.append_assoc]; rfl, rfl, by simp, hf, by simp [A.re, C.re], hk _ _ _ _ hq⟩
/-- what the program reads is what the reference reads, in arrays of its own -/
theorem pqOwn_calls (s : List UInt8) (hs : s.length ≤ 100000000) : HandsRD 15 [.c (.d (.str s))] ((queryR s).1.map Tm.row) (.bool (queryR s).2) := fun H hp htl => by
  refine acallsG Tryz.func15 (by kernel_rfl) Own.ac15_ok fun hf => ?_
  have hli : inR .i64 (s.length : Int) := small_i64 (by omega) (by omega)
  have hgo := Goes.refl (tells_free htl)
  by_cases h1000 : 1000 < s.length
  · have h1 : (1000 : Int) < s.length := by omega
    have hq : queryR s = ([], false) := by unfold queryR; rw [if_pos h1000]
    rw [hq]
    simp -implicitDefEqProofs [Own.ac15, hli, h1, hf, go_sem, -List.set_cons_succ, -List.set_cons_zero]
    exact fin_rnil2 rfl ⟨trivial, trivial, trivial⟩ hgo rfl fun x => ⟨x, rfl, rfl⟩
  · have h1 : ¬ (1000 : Int) < s.length := by omega
    have hs6 : s.length ≤ 1000000 := by omega
    simp -implicitDefEqProofs [Own.ac15, hli, h1, hf, go_sem, -List.set_cons_succ, -List.set_cons_zero]
    refine call_ownO1 (Q := fun ts a b => (∀ t ∈ ts, t.fits) ∧ ts.length ≤ s.length + 1 ∧ a ≤ s.length ∧ Gq s ts a b) (fun H i q1 q2 q3 q4 => (goalsO_calls s hs6 H i q1 q2 q3 q4).mono fun r H' ⟨ts, a, b, y, e1, e2, e3, e4, e5, e6⟩ => ⟨ts, a, b, y, e1, ⟨e2, e3, e4, e5⟩, e6⟩) hp htl (by simp [rdO, Ob.re, C.re]) hf ?_
    rintro ts a b y ⟨hft, hl, ha, hG⟩
    rcases hG with ⟨rfl, h3, hE⟩ | ⟨⟨e, rfl⟩, hB⟩
    · have h7 := hE 7
      by_cases hk : a = s.length
      · subst hk
        have cq := qvImpl_calls ts (by omega) hft []
        cases hv : goalsB ts with
        | true =>
          have h6 : ts.length ≤ 6 := by simp only [goalsB, Bool.and_eq_true, decide_eq_true_eq] at hv; exact hv.1
          rw [if_pos (by omega)] at h7
          rw [queryR_some h1000 h7 rfl hv]
          rw [hv] at cq
          simp -implicitDefEqProofs [rdO, hli, hf, go_sem, -List.set_cons_succ, -List.set_cons_zero]
          refine qcall_read cq rfl hf (.cons (.c (.tree (i := H.length + 1) (by simp [Ob.re]) (by simp))) .nil) ?_
          simp -implicitDefEqProofs [hf, go_sem, -List.set_cons_succ, -List.set_cons_zero]
          exact fin_rd2 1 rfl ⟨trivial, trivial, trivial⟩ hgo rfl rfl ⟨y, rfl, rfl⟩
        | false =>
          rw [queryR_no h1000 fun l k hq hc => by
            rw [h7] at hq
            split at hq
            · cases hq; rw [hv] at hc; simp at hc
            · cases hq]
          rw [hv] at cq
          simp -implicitDefEqProofs [rdO, hli, hf, go_sem, -List.set_cons_succ, -List.set_cons_zero]
          refine qcall_read cq rfl hf (.cons (.c (.tree (i := H.length + 1) (by simp [Ob.re]) (by simp))) .nil) ?_
          simp -implicitDefEqProofs [hf, go_sem, -List.set_cons_succ, -List.set_cons_zero]
          exact fin_rnil2 rfl ⟨trivial, trivial, trivial⟩ hgo rfl fun x => ⟨x, rfl, rfl⟩
      · have hk' : ¬ (a : Int) = s.length := by omega
        rw [queryR_no h1000 fun l k hq hc => by
          rw [h7] at hq
          split at hq
          · cases hq; exact hk hc.1
          · cases hq]
        simp -implicitDefEqProofs [rdO, hli, hk, hk', hf, go_sem, -List.set_cons_succ, -List.set_cons_zero]
        exact fin_rnil2 rfl ⟨trivial, trivial, trivial⟩ hgo rfl fun x => ⟨x, rfl, rfl⟩
    · rw [queryR_no h1000 fun l k hq hc => by
        have := hB 7 l k hq
        rw [hc.2] at this
        cases this]
      simp -implicitDefEqProofs [rdO, hf, go_sem, -List.set_cons_succ, -List.set_cons_zero]
      exact fin_rnil2 rfl ⟨trivial, trivial, trivial⟩ hgo rfl fun x => ⟨x, rfl, rfl⟩
end Go.Proofs.YtbblefjbgbocoaaGreatDoor

/-
  The variables of terms, in an array of its own.
  Conditions: none.
-/
open Go Go.AM Go.Proofs
namespace Go.Proofs.YtbblefjbgbocoaaGreatDoor
open Go.ChangeShapes Go.WideShapes Go.ChangeAt Go.RowKit
set_option linter.unusedVariables false
set_option linter.unusedSimpArgs false
set_option maxRecDepth 100000
-- 176 slices.Index[[]int,int] params 2 ntmps 19
-- loop head live: [0,1,7,8]
def addI (l : List Int) (n : Int) : List Int := if l.contains n then l else l ++ [n]
mutual
/-- the variables of a term behind others -/
def Tm.vars : Tm → List Int → List Int
  | .mk k n _ kids, l => varsL kids (if k = 1 then addI l n else l)
def varsL : List Tm → List Int → List Int
  | [], l => l
  | t :: ts, l => varsL ts (t.vars l)
end
end Go.Proofs.YtbblefjbgbocoaaGreatDoor

/-
  QueryVars of the program and of the reference.
  Conditions: none.
-/
open Go Go.AM Go.Proofs
namespace Go.Proofs.YtbblefjbgbocoaaGreatDoor
open Go.ChangeShapes Go.WideShapes Go.ChangeAt Go.RowKit
set_option linter.unusedVariables false
set_option linter.unusedSimpArgs false
set_option maxRecDepth 100000
-- 114 loop.example/prologserver/spec.l1Vars params 2 ntmps 44
-- loop head live: [0,3,5]
-- loop head live: [0,3,6]
/-- a term whose variables have nothing below them -/
inductive Tm.clean : Tm → Prop
  | mk {k n : Int} {s : List UInt8} {l : List Tm} : (k = 1 → l = []) → (∀ t ∈ l, t.clean) → (Tm.mk k n s l).clean
theorem shape_clean : ∀ t : Tm, ∀ d, t.shape d = true → t.clean := by
  refine Tm.ind fun k n s l ih d h => ?_
  simp only [Tm.shape, Bool.and_eq_true] at h
  refine .mk (fun hk => own_leaf (by omega) h.2.1) ?_
  have hL : ∀ (l : List Tm), (∀ t ∈ l, ∀ d, t.shape d = true → t.clean) → shapes (d - 1) l = true → ∀ t ∈ l, t.clean := by
    intro l
    induction l with
    | nil => intro _ _ t ht; cases ht
    | cons x l ih2 =>
      intro h1 h2 t ht
      simp only [shapes, Bool.and_eq_true] at h2
      rcases List.mem_cons.1 ht with rfl | ht
      · exact h1 _ (by simp) _ h2.1
      · exact ih2 (fun t ht => h1 t (by simp [ht])) h2.2 t ht
  exact hL l ih h.2.2
end Go.Proofs.YtbblefjbgbocoaaGreatDoor

/-
  QueryVars of the reference.
  Conditions: none.
-/
open Go Go.AM Go.Proofs
namespace Go.Proofs.YtbblefjbgbocoaaGreatDoor
open Go.ChangeShapes Go.WideShapes Go.ChangeAt Go.RowKit
set_option linter.unusedVariables false
set_option linter.unusedSimpArgs false
set_option maxRecDepth 100000
theorem sub_size : ∀ t : Tm, t.sub + 1 ≤ t.size := by
  refine Tm.ind fun k n s l ih => ?_
  simp only [sub_mk, Tm.size]
  have : Tm.cnt l ≤ sizes l := by
    clear k n s
    induction l with
    | nil => simp [cnt_nil]
    | cons t l ih2 =>
      rw [cnt_cons]
      have h1 := ih t (by simp)
      have h2 := ih2 fun t ht => ih t (by simp [ht])
      simp only [sizes]
      omega
  omega
theorem cnt_le {B : Nat} : ∀ (l : List Tm), (∀ t ∈ l, t.sub ≤ B) → Tm.cnt l ≤ l.length * (B + 1)
  | [], _ => by simp [cnt_nil]
  | t :: l, h => by
    have h1 := cnt_le l fun t ht => h t (by simp [ht])
    have h2 := h t (by simp)
    rw [cnt_cons, List.length_cons, Nat.succ_mul]
    omega
theorem goals_ok {l : List Tm} (h : goalsB l = true) : Tm.cnt l ≤ 726 ∧ ∀ t ∈ l, t.clean := by
  simp only [goalsB, Bool.and_eq_true, decide_eq_true_eq, List.all_eq_true] at h
  have h2 : ∀ t ∈ l, t.sub ≤ 120 ∧ t.clean := fun t ht => by
    have h3 := h.2 t ht
    simp only [Tm.goal, Tm.valid, Bool.and_eq_true, decide_eq_true_eq] at h3
    have h4 := sub_size t
    exact ⟨by omega, shape_clean t _ h3.1.1⟩
  have h5 := cnt_le l fun t ht => (h2 t ht).1
  refine ⟨Nat.le_trans h5 (Nat.le_trans (Nat.mul_le_mul_right 121 h.1) (by omega)), fun t ht => (h2 t ht).2⟩
end Go.Proofs.YtbblefjbgbocoaaGreatDoor
