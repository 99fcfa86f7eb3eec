/-
  Copies of clauses that stand in arrays of their own.
  Conditions: none.
-/
import Derived.Test.YtaegeehpajlebaaTermMk
import Derived.Test.YtaegeehpajlebaaClause
import Derived.Test.YtaegeehpajlebaaRowsT
open Go Go.AM Go.Proofs
namespace Go.Proofs.Ytaegeehpajlebaa
open Go.ChangeShapes Go.WideShapes Go.ChangeAt Go.RowKit
set_option linter.unusedVariables false
set_option linter.unusedSimpArgs false
set_option maxRecDepth 100000
namespace Own
-- 35 loop.example/prologserver/laws.toClauseS params 1 ntmps 23
-- loop head live: [0, 3, 4]
def ac35 : Cd := .seq (.region [⟨(some 2), .mv (.k (.c (.full []))), none⟩] [2])
  (.seq (.region [⟨(some 5), .mv (.t 0), none⟩,
      ⟨(some 6), .len 1 (.t 5), none⟩,
      ⟨(some 7), .mkSlice [(.int .i64 0), (.int .i64 0), (.str []), (.sl []), (.sl [])] (.t 6), none⟩,
      ⟨(some 3), .mv (.t 7), none⟩] [5, 6, 7])
  (.seq (.seq (.region [⟨(some 4), .mv (.k (.c (.d (.int .i64 0)))), none⟩] [])
    (.block 0 (.loop (.seq (.seq (.region [⟨(some 8), .mv (.t 4), none⟩,
              ⟨(some 9), .mv (.t 0), none⟩,
              ⟨(some 10), .len 1 (.t 9), none⟩,
              ⟨(some 11), .bin .lss (.t 8) (.t 10), none⟩] [8, 9, 10])
          (.cond (.t 11)
            (.skip)
            (.exit 0)))
        (.seq (.block 1 (.region [⟨(some 14), .mv (.t 3), none⟩,
              ⟨(some 15), .mv (.t 4), none⟩,
              ⟨(some 16), .mv (.t 0), none⟩,
              ⟨(some 17), .mv (.t 4), none⟩,
              ⟨(some 18), .indexAddr 5 (.t 16) (.t 17), none⟩,
              ⟨(some 19), .load (some 5) (.t 18), none⟩,
              ⟨(some 20), .call false 29 [(.t 19)], none⟩,
              ⟨(some 21), .indexAddr 5 (.t 14) (.t 15), none⟩,
              ⟨none, .store 5 (.t 21) (.t 20), none⟩] [11, 14, 15, 16, 17, 18, 19, 20, 21]))
        (.region [⟨(some 12), .mv (.t 4), none⟩,
          ⟨(some 13), .bin .add (.t 12) (.k (.c (.d (.int .i64 1)))), none⟩,
          ⟨(some 4), .mv (.t 13), none⟩] [12, 13]))))))
  (.seq (.region [⟨(some 22), .mv (.t 3), none⟩,
      ⟨(some 2), .mv (.t 22), none⟩] [3, 22])
  (.ret))))
theorem ac35_ok : cFunc Try.prog [] [(0, [2], []), (1, [5, 6, 7], []), (2, [], []), (3, [8, 9, 10], []), (5, [11, 14, 15, 16, 17, 18, 19, 20, 21], []), (4, [12, 13], []), (6, [3, 22], [])] Try.f35 = some (ac35, [.tmp 2], 23) := by kernel_rfl
-- 29 loop.example/prologserver/laws.toClause params 1 ntmps 13
def ac29 : Cd := .seq (.region [⟨(some 1), .box (.t 0), none⟩,
      ⟨(some 2), .alloc [(.d (.int .i64 0)), (.d (.int .i64 0)), (.d (.str [])), (.full []), (.full [])], none⟩] [0])
  (.seq (.region [⟨(some 3), .alloc [(.d (.int .i64 0)), (.d (.int .i64 0)), (.d (.str [])), (.full []), (.full [])], none⟩] [])
  (.seq (.region [⟨(some 4), .fieldAddr 0 (.t 1), none⟩,
      ⟨(some 5), .load (some 4) (.t 4), none⟩,
      ⟨(some 6), .call false 10 [(.t 5)], none⟩,
      ⟨(some 7), .fieldAddr 0 (.t 3), none⟩,
      ⟨none, .store 4 (.t 7) (.t 6), none⟩] [4, 5, 6, 7])
  (.seq (.region [⟨(some 8), .fieldAddr 4 (.t 1), none⟩,
      ⟨(some 9), .load none (.t 8), none⟩,
      ⟨(some 10), .call false 20 [(.t 9)], none⟩,
      ⟨(some 11), .fieldAddr 4 (.t 3), none⟩,
      ⟨none, .store 1 (.t 11) (.t 10), none⟩] [1, 8, 9, 10, 11])
  (.seq (.region [⟨(some 12), .load (some 5) (.t 3), none⟩,
      ⟨none, .store 5 (.t 2) (.t 12), none⟩] [3, 12])
  (.ret)))))
theorem ac29_ok : cFunc Try.prog [] [(0, [0], []), (1, [], []), (2, [4, 5, 6, 7], []), (3, [1, 8, 9, 10, 11], []), (4, [3, 12], [])] Try.f29 = some (ac29, [.cell 2 (some 5)], 13) := by kernel_rfl
end Own
theorem toClauseS_own (l : List Cl) (hl : l.length ≤ 1048576) (h : ∀ t ∈ l, ACalls Try.prog 29 [.agg ((Cl.row t).map .d)] [] (HandsRow (Cl.row t))) : ACalls Try.prog 35 [.c (.d (.sl (l.map Cl.row)))] [] (HandsRows (l.map Cl.row)) := by
  refine acallsT Try.func35 (by kernel_rfl) Own.ac35_ok ?_
  have hli : inR .i64 (l.length : Int) := small_i64 (by omega) (by omega)
  simp -implicitDefEqProofs [Own.ac35, hli, kw, ew, sw, tw, a_, b_, c_, -List.set_cons_succ, -List.set_cons_zero, A.ok, A.val, d_, e_, f_, g_, h_, i_, j_, k_, l_, m_, unA, unD, n_, AOp.total, o_, p_, q_, r_, s_, t_, u_, v_, A.thaw, C.thaw, A.fits, As.fits, C.fits, evs, oks, w_, A.pure, C.pure, A.re, C.re, x_, y_, cut, A.cells, C.rows?, z_, A_, B_, C_, D_, Ob.re, Cs.fits, E_, F_, G_, H_, I_, J_, K_, L_, M_, N_, O_, C.toD, P_, Q_, R_, S_, T_, Obs.fits, U_, eqD, V_, W_, X_, Y_, Z_]
  refine ⟨by unfold maxApp; omega, ?_⟩
  refine loop_set (σ := List (List Value)) (fun vss => [(4, .c (.d (.int .i64 vss.length)))]) (fun _ => []) (fun vss => .rows (fillR (l.map Cl.row) vss [.int .i64 0, .int .i64 0, .str [], .sl [], .sl []]) :: (List.zipWith trs (l.map Cl.row) vss).flatten) (fun vss => vss.length ≤ l.length ∧ ∀ vs ∈ vss, vs.length = 2) (fun vss => l.length - vss.length) [] (by simp [setAll, fillR_nil]) ⟨Nat.zero_le _, by simp⟩ ?_
  rintro vss ⟨hi, hvm⟩
  have htr : ((List.zipWith trs (l.map Cl.row) vss).flatten).all Ob.isTreeB = true := flat_trees (zipt_trees _ _)
  generalize hTR : (List.zipWith trs (l.map Cl.row) vss).flatten = TR at htr ⊢
  have hre := trees_map_re htr 0
  simp -implicitDefEqProofs [setAll, hli, hre, kw, ew, sw, tw, a_, b_, c_, -List.set_cons_succ, -List.set_cons_zero, A.ok, A.val, d_, e_, f_, g_, h_, i_, j_, k_, l_, m_, unA, unD, n_, AOp.total, o_, p_, q_, r_, s_, t_, u_, v_, A.thaw, C.thaw, A.fits, As.fits, C.fits, evs, oks, w_, A.pure, C.pure, A.re, C.re, x_, y_, cut, A.cells, C.rows?, z_, A_, B_, C_, D_, Ob.re, Cs.fits, E_, F_, G_, H_, I_, J_, K_, L_, M_, N_, O_, C.toD, P_, Q_, R_, S_, T_, Obs.fits, U_, eqD, V_, W_, X_, Y_, Z_]
  refine ⟨fun hlt => ?_, fun hge => ?_⟩
  · have hadd : inR .i64 ((vss.length : Int) + 1) := small_i64 (by omega) (by omega)
    refine row_of hlt (crow_len _) ?_
    simp -implicitDefEqProofs [crow_len, take_crow, pure_d, re_d, hre, kw, ew, sw, tw, a_, b_, c_, -List.set_cons_succ, -List.set_cons_zero, A.ok, A.val, d_, e_, f_, g_, h_, i_, j_, k_, l_, m_, unA, unD, n_, AOp.total, o_, p_, q_, r_, s_, t_, u_, v_, A.thaw, C.thaw, A.fits, As.fits, C.fits, evs, oks, w_, A.pure, C.pure, A.re, C.re, x_, y_, cut, A.cells, C.rows?, z_, A_, B_, C_, D_, Ob.re, Cs.fits, E_, F_, G_, H_, I_, J_, K_, L_, M_, N_, O_, C.toD, P_, Q_, R_, S_, T_, Obs.fits, U_, eqD, V_, W_, X_, Y_, Z_]
    refine call_loc (J := []) (h l[vss.length] (List.getElem_mem hlt)) (fun r H' h => h.handed) (by simp [Ob.re, hre]) (.cons (.agg (fzCs_id _)) .nil) List.nodup_nil rfl rfl ?_
    rintro _ _ ⟨vs, hvl, rfl, rfl⟩ _
    have hlt' : vss.length < (l.map Cl.row).length := by simpa using hlt
    have hg := fillR_get [.int .i64 0, .int .i64 0, .str [], .sl [], .sl []] hlt'
    have hset := fillR_set [.int .i64 0, .int .i64 0, .str [], .sl [], .sl []] vs hlt'
    have hsn := zipR_snoc trs (l.map Cl.row) vss vs hlt'
    simp only [List.getElem_map] at hset hsn
    simp -implicitDefEqProofs [putAll, hadd, hlt, hg, toDs_map, cut_len, crow_len, kw, ew, sw, tw, a_, b_, c_, -List.set_cons_succ, -List.set_cons_zero, A.ok, A.val, d_, e_, f_, g_, h_, i_, j_, k_, l_, m_, unA, unD, n_, AOp.total, o_, p_, q_, r_, s_, t_, u_, v_, A.thaw, C.thaw, A.fits, As.fits, C.fits, evs, oks, w_, A.pure, C.pure, A.re, C.re, x_, y_, cut, A.cells, C.rows?, z_, A_, B_, C_, D_, Ob.re, Cs.fits, E_, F_, G_, H_, I_, J_, K_, L_, M_, N_, O_, C.toD, P_, Q_, R_, S_, T_, Obs.fits, U_, eqD, V_, W_, X_, Y_, Z_]
    refine loop_back (vss ++ [vs]) ?_ ⟨by simp; omega, fun x hx => ?_⟩ (by show l.length - (vss ++ [vs]).length < l.length - vss.length; simp; omega)
    · simp only [hsn, List.flatten_append, hTR]
      simp [setAll, hset]
    · rcases List.mem_append.1 hx with hx | hx
      · exact hvm x hx
      · simp at hx; rw [hx, hvl]; rfl
  · have hvl : vss.length = (l.map Cl.row).length := by simp; omega
    have hV : Vals 2 (l.map Cl.row) vss := ⟨hvl, fun r hr => by obtain ⟨t, _, rfl⟩ := List.mem_map.1 hr; rfl, hvm⟩
    have hn : (0 :: List.range' 1 TR.length).Nodup := List.nodup_cons.2 ⟨by simp, List.nodup_range'⟩
    refine finT_ret _ ⟨trivial, trivial⟩ rfl fun kv => ⟨_, _, _, .one (.c (.fsl (trs := TR) (js := List.range' 1 TR.length) rfl (by rw [fillR_all _ hvl, ← hTR]; exact strip_rows _ _ hV) (by rw [fillR_all _ hvl, cut_lens hvl]) (fun m hm => ?_))), by simpa using hn, _, rfl, rfl⟩
    exact ⟨1 + m, by simp [hm], by rw [Nat.add_comm]; simp⟩

theorem toClauseOwn_calls (c : Cl) (hc : c.fits) : ACalls Try.prog 29 [.agg (c.row.map .d)] [] (HandsRow c.row) := by
  obtain ⟨h, b⟩ := c
  obtain ⟨hh, hl, hb⟩ := hc
  simp only at hh hl hb
  have c1 := toO_calls h hh
  unfold ToO at c1
  rw [row_eq] at c1
  simp only [List.map_cons, List.map_nil] at c1
  refine acallsT Try.func29 (by kernel_rfl) Own.ac29_ok ?_
  simp -implicitDefEqProofs [Own.ac29, Cl.row, kw, ew, sw, tw, a_, b_, c_, -List.set_cons_succ, -List.set_cons_zero, A.ok, A.val, d_, e_, f_, g_, h_, i_, j_, k_, l_, m_, unA, unD, n_, AOp.total, o_, p_, q_, r_, s_, t_, u_, v_, A.thaw, C.thaw, A.fits, As.fits, C.fits, evs, oks, w_, A.pure, C.pure, A.re, C.re, x_, y_, cut, A.cells, C.rows?, z_, A_, B_, C_, D_, Ob.re, Cs.fits, E_, F_, G_, H_, I_, J_, K_, L_, M_, N_, O_, C.toD, P_, Q_, R_, S_, T_, Obs.fits, U_, eqD, V_, W_, X_, Y_, Z_]
  refine call_loc (J := []) c1 (fun r H' h => h.handed) rfl (.cons (.agg (fzCs_id [.int .i64 h.k, .int .i64 h.n, .str h.s, .sl (h.kids.map Tm.row)])) .nil) List.nodup_nil rfl rfl ?_
  rintro _ _ ⟨v, rfl, rfl⟩ _
  simp -implicitDefEqProofs [putAll, kw, ew, sw, tw, a_, b_, c_, -List.set_cons_succ, -List.set_cons_zero, A.ok, A.val, d_, e_, f_, g_, h_, i_, j_, k_, l_, m_, unA, unD, n_, AOp.total, o_, p_, q_, r_, s_, t_, u_, v_, A.thaw, C.thaw, A.fits, As.fits, C.fits, evs, oks, w_, A.pure, C.pure, A.re, C.re, x_, y_, cut, A.cells, C.rows?, z_, A_, B_, C_, D_, Ob.re, Cs.fits, E_, F_, G_, H_, I_, J_, K_, L_, M_, N_, O_, C.toD, P_, Q_, R_, S_, T_, Obs.fits, U_, eqD, V_, W_, X_, Y_, Z_]
  refine call_loc (J := []) (toTermSOwn_calls b hl hb) (fun r H' h => h.handed) rfl (.cons (.c .d) .nil) List.nodup_nil rfl rfl ?_
  rintro _ _ ⟨w, rfl, rfl⟩ _
  simp -implicitDefEqProofs [putAll, kw, ew, sw, tw, a_, b_, c_, -List.set_cons_succ, -List.set_cons_zero, A.ok, A.val, d_, e_, f_, g_, h_, i_, j_, k_, l_, m_, unA, unD, n_, AOp.total, o_, p_, q_, r_, s_, t_, u_, v_, A.thaw, C.thaw, A.fits, As.fits, C.fits, evs, oks, w_, A.pure, C.pure, A.re, C.re, x_, y_, cut, A.cells, C.rows?, z_, A_, B_, C_, D_, Ob.re, Cs.fits, E_, F_, G_, H_, I_, J_, K_, L_, M_, N_, O_, C.toD, P_, Q_, R_, S_, T_, Obs.fits, U_, eqD, V_, W_, X_, Y_, Z_]
  exact finT_ret _ ⟨trivial, trivial⟩ rfl fun kv => ⟨_, _, _, .one (.agg (.cons (.leaf rfl) (.cons (.leaf rfl) (.cons (.leaf rfl) (.cons (.tree (j := 3) rfl) (.cons (.tree (j := 4) rfl) .nil)))))), by simp, [_, _], rfl, rfl, rfl⟩
theorem toClauseSOwn_calls (l : List Cl) (h : FitsC l) : ACalls Try.prog 35 [.c (.d (.sl (l.map Cl.row)))] [] (HandsRows (l.map Cl.row)) :=
  toClauseS_own l h.1 fun c hc => toClauseOwn_calls c (h.2 c hc)
end Go.Proofs.Ytaegeehpajlebaa
