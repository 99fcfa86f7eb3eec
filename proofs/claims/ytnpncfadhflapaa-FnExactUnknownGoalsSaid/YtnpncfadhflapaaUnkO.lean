/-
  impl.UnknownGoals: what it hands out stands in an array of its own.
  Conditions: none.
-/
import Derived.Test.YtnpncfadhflapaaUnk
import Derived.Test.YtnpncfadhflapaaListO
open Go Go.AM Go.Proofs
namespace Go.Proofs.Ytnpncfadhflapaa
open Go.ChangeShapes Go.WideShapes Go.ChangeAt Go.RowKit
set_option linter.unusedVariables false
set_option linter.unusedSimpArgs false
set_option maxRecDepth 100000
/-- objects among which the trees of terms stand -/
structure Acc (E : Heap) (us : List Tm) (vs : List Value) (js : List Nat) : Prop where
  vl : vs.length = us.length
  jl : js.length = us.length
  jn : js.Nodup
  jlt : ∀ j ∈ js, j < E.length
  get : ∀ m, m < us.length → ∃ j, js[m]? = some j ∧ E[j]? = (List.zipWith ktree us vs)[m]?
  re : E.map (Ob.re 0) = E
theorem Acc.nil : Acc [] [] [] [] := ⟨rfl, rfl, List.nodup_nil, fun j h => by simp at h, fun m h => by simp at h, rfl⟩
theorem Acc.more {E : Heap} {us : List Tm} {vs : List Value} {js : List Nat} (h : Acc E us vs js) : Acc (E ++ [.dead]) us vs js :=
  ⟨h.vl, h.jl, h.jn, fun j hj => by have := h.jlt j hj; simp; omega, fun m hm => by
    obtain ⟨j, h1, h2⟩ := h.get m hm
    exact ⟨j, h1, by rw [List.getElem?_append_left (h.jlt j (List.mem_of_getElem? h1))]; exact h2⟩, by rw [List.map_append, h.re]; rfl⟩
theorem Acc.push {E : Heap} {us : List Tm} {vs : List Value} {js : List Nat} (h : Acc E us vs js) (t : Tm) (v : Value) : Acc (E ++ [ktree t v]) (us ++ [t]) (vs ++ [v]) (js ++ [E.length]) := by
  have hz : List.zipWith ktree (us ++ [t]) (vs ++ [v]) = List.zipWith ktree us vs ++ [ktree t v] := by rw [List.zipWith_append h.vl.symm]; rfl
  refine ⟨by simp [h.vl], by simp [h.jl], ?_, fun j hj => ?_, fun m hm => ?_, by rw [List.map_append, h.re]; rfl⟩
  · refine List.nodup_append.2 ⟨h.jn, by simp, fun a ha b hb => ?_⟩
    simp at hb
    have := h.jlt a ha
    omega
  · rcases List.mem_append.1 hj with hj | hj
    · have := h.jlt j hj; simp; omega
    · simp at hj; simp; omega
  · rw [hz]
    rcases Nat.lt_or_ge m us.length with h1 | h1
    · obtain ⟨j, h2, h3⟩ := h.get m h1
      refine ⟨j, by rw [List.getElem?_append_left (by rw [h.jl]; exact h1)]; exact h2, ?_⟩
      rw [List.getElem?_append_left (h.jlt j (List.mem_of_getElem? h2)), List.getElem?_append_left (by simp [h.vl]; omega)]
      exact h3
    · have hm' : m = us.length := by simp at hm; omega
      subst hm'
      exact ⟨E.length, by rw [List.getElem?_append_right (by rw [h.jl]; exact Nat.le_refl _)]; simp [h.jl], by rw [List.getElem?_append_right (Nat.le_refl _), List.getElem?_append_right (by simp [h.vl])]; simp [h.vl]⟩
theorem sl_refl : ∀ l : List A, Sl.le l l
  | [] => trivial
  | a :: l => ⟨.refl a, sl_refl l⟩
theorem le_dead (sl : List A) (ext E : Heap) (g o : Ob) : St.le ⟨sl, ext, g :: (E ++ [o])⟩ ⟨sl, ext, g :: (E ++ [.dead])⟩ := St.le_more (sl_refl sl) ⟨.refl _, Obs.le_append (Obs.le_refl E) ⟨.dead _, trivial⟩⟩
namespace Own
-- 33 loop.example/prologserver/impl.UnknownGoals params 1 ntmps 42
-- loop head live: [0, 3, 11, 12, 13]
-- loop head live: [0, 3, 11, 12, 13, 18, 19, 20]
def ac33 : Cd := .seq (.region [⟨(some 2), .mv (.k (.c (.full []))), none⟩] [2])
  (.seq (.seq (.region [⟨(some 8), .mv (.t 0), none⟩,
        ⟨(some 9), .qcall 84 [(.t 8)], none⟩,
        ⟨(some 10), .un .not (.t 9), none⟩] [8, 9])
    (.cond (.t 10)
      (.seq (.region [⟨(some 2), .mv (.k (.c (.full []))), none⟩] [0, 10])
      (.ret))
      (.skip)))
  (.seq (.region [⟨(some 3), .mv (.k (.c (.full []))), none⟩] [2, 10])
  (.seq (.seq (.region [⟨(some 11), .mv (.t 0), none⟩,
        ⟨(some 12), .len 1 (.t 11), none⟩,
        ⟨(some 13), .mv (.k (.c (.d (.int .i64 0)))), none⟩] [])
    (.block 0 (.loop (.seq (.region [⟨(some 14), .bin .lss (.t 13) (.t 12), none⟩] [])
        (.seq (.cond (.t 14)
            (.skip)
            (.exit 0))
        (.seq (.block 1 (.seq (.region [⟨(some 15), .indexAddr 5 (.t 11) (.t 13), none⟩,
                ⟨(some 16), .load (some 5) (.t 15), none⟩,
                ⟨(some 5), .alloc [(.d (.int .i64 0)), (.d (.int .i64 0)), (.d (.str [])), (.full []), (.full [])], none⟩,
                ⟨none, .store 5 (.t 5) (.t 16), none⟩] [14, 15, 16])
            (.seq (.region [⟨(some 17), .fieldAddr 4 (.t 5), none⟩,
                ⟨(some 18), .load none (.t 17), none⟩,
                ⟨(some 19), .len 1 (.t 18), none⟩,
                ⟨(some 20), .mv (.k (.c (.d (.int .i64 0)))), none⟩] [5, 17])
            (.block 2 (.loop (.seq (.region [⟨(some 21), .bin .lss (.t 20) (.t 19), none⟩] [])
                (.seq (.cond (.t 21)
                    (.skip)
                    (.exit 2))
                (.seq (.block 3 (.seq (.region [⟨(some 22), .indexAddr 4 (.t 18) (.t 20), none⟩,
                        ⟨(some 23), .load (some 4) (.t 22), none⟩,
                        ⟨(some 7), .alloc [(.d (.int .i64 0)), (.d (.int .i64 0)), (.d (.str [])), (.full [])], none⟩,
                        ⟨none, .store 4 (.t 7) (.t 23), none⟩] [21, 22, 23])
                    (.seq (.region [⟨(some 24), .load (some 4) (.t 7), none⟩,
                        ⟨(some 25), .qcall 85 [(.t 24)], none⟩,
                        ⟨(some 26), .mv (.t 25), none⟩,
                        ⟨(some 27), .mv (.t 0), some (26, true)⟩,
                        ⟨(some 28), .load (some 4) (.t 7), some (26, true)⟩,
                        ⟨(some 29), .qcall 87 [(.t 28)], some (26, true)⟩,
                        ⟨(some 30), .qcall 86 [(.t 27), (.t 29)], some (26, true)⟩,
                        ⟨(some 31), .len 1 (.t 30), some (26, true)⟩,
                        ⟨(some 32), .bin .eql (.t 31) (.k (.c (.d (.int .i64 0)))), some (26, true)⟩,
                        ⟨(some 33), .pick (.t 26) (.t 32) (.k (.c (.d (.bool false)))), none⟩] [24, 25, 26, 27, 28, 29, 30, 31, 32])
                    (.cond (.t 33)
                      (.region [⟨(some 34), .mv (.t 3), none⟩,
                        ⟨(some 35), .load (some 4) (.t 7), none⟩,
                        ⟨(some 36), .call false 59 [(.t 35)], none⟩,
                        ⟨(some 37), .buildSlice 4 1 [(.int .i64 0), (.int .i64 0), (.str []), (.sl [])] [(0, (.t 36))], none⟩,
                        ⟨(some 38), .append false 4 (.t 34) (.t 37), none⟩,
                        ⟨(some 3), .mv (.t 38), none⟩] [7, 33, 34, 35, 36, 37, 38])
                      (.skip)))))
                (.region [⟨(some 39), .bin .add (.t 20) (.k (.c (.d (.int .i64 1)))), none⟩,
                  ⟨(some 20), .mv (.t 39), none⟩] [7, 33, 39])))))))))
        (.region [⟨(some 40), .bin .add (.t 13) (.k (.c (.d (.int .i64 1)))), none⟩,
          ⟨(some 13), .mv (.t 40), none⟩] [40])))))))
  (.seq (.region [⟨(some 41), .mv (.t 3), none⟩,
      ⟨(some 2), .mv (.t 41), none⟩] [3, 41])
  (.ret)))))
theorem ac33_ok : cFunc Try.prog [1000084, 1000085, 1000086, 1000087] [(0, [2], []), (1, [8, 9], []), (2, [0, 10], []), (3, [2, 10], []), (4, [], []), (5, [], []), (6, [14, 15, 16], []), (7, [5, 17], []), (8, [], []), (9, [21, 22, 23], []), (10, [24, 25, 26, 27, 28, 29, 30, 31, 32], []), (11, [7, 33, 34, 35, 36, 37, 38], []), (12, [7, 33, 39], []), (13, [40], []), (14, [3, 41], [])] Try.f33 = some (ac33, [.tmp 2], 42) := by kernel_rfl
end Own
theorem unkOwn_calls (p : List Cl) (hp : FitsC p) : ACalls Try.prog 33 [.c (.d (.sl (p.map Cl.row)))] [] (HandsRows ((unkP p).map Tm.row)) := by
  have hl := hp.1
  have hli : inR .i64 (p.length : Int) := small_i64 (by omega) (by omega)
  refine acallsT Try.func33 (by kernel_rfl) Own.ac33_ok ?_
  simp -implicitDefEqProofs [Own.ac33, hli, aw_skip, aw_region, aw_seq, aw_block, aw_cond, aw_exit, aw_ret, kq_nil, kq_seq, kq_seq_ret, kq_seq_exit, kq_block, kq_block_ret, kq_block_exit, kq_loop, kq_loop_ret, kq_loop_exit, awOps_nil, awOps_cons, awOps_guardE, nx_eq, awOp, ev_k, ev_0, ev_1, ev_2, ev_3, ev_4, ev_5, ev_6, ev_7, ev_8, set_0, set_1, set_2, set_3, set_4, set_5, set_6, set_7, set_8, -List.set_cons_succ, -List.set_cons_zero, A.ok, A.val, setSl, wrapG, guardB, getB, pickA, binA, binC, binD, cmpD, isCmp, unA, unD, lenA, AOp.total, kills, litB, FinQ, resOks, resOk, resA, resList, resOne, A.thaw, C.thaw, A.fits, As.fits, C.fits, evs, oks, callArgs, A.pure, C.pure, A.re, C.re, fieldAddrA, loadC, cut, A.cells, C.rows?, getOb, newOb, setOb, storeC, splice, Ob.re, Cs.fits, partsA, partsOk, parts2A, parts2Ok, fillC, fillRows, optInt, optOk, sliceA, clipC, optK_some, storeK_some, Option.map_some, toDs, C.toD, spliceD, appendA, capsOf, srcRows, allLen_nil_iff, allLen_cons_iff, allLen_append_iff, dropC, Obs.fits, eqCs, eqD]
  have hpv := pvImpl_calls p hp
  cases hb : progB p with
  | false =>
    simp only [hb] at hpv
    refine qcall_pure hpv trivial rfl ?_
    simp -implicitDefEqProofs [aw_skip, aw_region, aw_seq, aw_block, aw_cond, aw_exit, aw_ret, kq_nil, kq_seq, kq_seq_ret, kq_seq_exit, kq_block, kq_block_ret, kq_block_exit, kq_loop, kq_loop_ret, kq_loop_exit, awOps_nil, awOps_cons, awOps_guardE, nx_eq, awOp, ev_k, ev_0, ev_1, ev_2, ev_3, ev_4, ev_5, ev_6, ev_7, ev_8, set_0, set_1, set_2, set_3, set_4, set_5, set_6, set_7, set_8, -List.set_cons_succ, -List.set_cons_zero, A.ok, A.val, setSl, wrapG, guardB, getB, pickA, binA, binC, binD, cmpD, isCmp, unA, unD, lenA, AOp.total, kills, litB, FinQ, resOks, resOk, resA, resList, resOne, A.thaw, C.thaw, A.fits, As.fits, C.fits, evs, oks, callArgs, A.pure, C.pure, A.re, C.re, fieldAddrA, loadC, cut, A.cells, C.rows?, getOb, newOb, setOb, storeC, splice, Ob.re, Cs.fits, partsA, partsOk, parts2A, parts2Ok, fillC, fillRows, optInt, optOk, sliceA, clipC, optK_some, storeK_some, Option.map_some, toDs, C.toD, spliceD, appendA, capsOf, srcRows, allLen_nil_iff, allLen_cons_iff, allLen_append_iff, dropC, Obs.fits, eqCs, eqD]
    have : unkP p = [] := by rw [unkP, hb]; rfl
    rw [this]
    exact finT_ret _ ⟨trivial, trivial⟩ rfl fun kv => ⟨_, _, _, .one (.c .full), by simp, _, rfl, rfl⟩
  | true =>
    simp only [hb] at hpv
    have hpl := prog_len hb
    refine qcall_pure hpv trivial rfl ?_
    simp -implicitDefEqProofs [hli, aw_skip, aw_region, aw_seq, aw_block, aw_cond, aw_exit, aw_ret, kq_nil, kq_seq, kq_seq_ret, kq_seq_exit, kq_block, kq_block_ret, kq_block_exit, kq_loop, kq_loop_ret, kq_loop_exit, awOps_nil, awOps_cons, awOps_guardE, nx_eq, awOp, ev_k, ev_0, ev_1, ev_2, ev_3, ev_4, ev_5, ev_6, ev_7, ev_8, set_0, set_1, set_2, set_3, set_4, set_5, set_6, set_7, set_8, -List.set_cons_succ, -List.set_cons_zero, A.ok, A.val, setSl, wrapG, guardB, getB, pickA, binA, binC, binD, cmpD, isCmp, unA, unD, lenA, AOp.total, kills, litB, FinQ, resOks, resOk, resA, resList, resOne, A.thaw, C.thaw, A.fits, As.fits, C.fits, evs, oks, callArgs, A.pure, C.pure, A.re, C.re, fieldAddrA, loadC, cut, A.cells, C.rows?, getOb, newOb, setOb, storeC, splice, Ob.re, Cs.fits, partsA, partsOk, parts2A, parts2Ok, fillC, fillRows, optInt, optOk, sliceA, clipC, optK_some, storeK_some, Option.map_some, toDs, C.toD, spliceD, appendA, capsOf, srcRows, allLen_nil_iff, allLen_cons_iff, allLen_append_iff, dropC, Obs.fits, eqCs, eqD]
    refine loop_enter (St.le_token 3 4 rfl) ?_
    refine loop_set (σ := Nat × Heap × List Value × List Nat) (fun x => [(13, .c (.d (.int .i64 x.1))), (3, .c (.own (.l 0) (unkT p x.1).length (List.zipWith srow (unkT p x.1) x.2.2.1)))]) (fun _ => []) (fun x => .grow (unkT p x.1).length 4 :: x.2.1) (fun x => x.1 ≤ p.length ∧ Acc x.2.1 (unkT p x.1) x.2.2.1 x.2.2.2) (fun x => p.length - x.1) (0, [], [], []) (by simp [setAll, unkT]) ⟨Nat.zero_le _, Acc.nil⟩ ?_
    rintro ⟨i, E, vs, js⟩ ⟨hi, ha⟩
    simp only at hi ha
    simp -implicitDefEqProofs [setAll, hli, aw_skip, aw_region, aw_seq, aw_block, aw_cond, aw_exit, aw_ret, kq_nil, kq_seq, kq_seq_ret, kq_seq_exit, kq_block, kq_block_ret, kq_block_exit, kq_loop, kq_loop_ret, kq_loop_exit, awOps_nil, awOps_cons, awOps_guardE, nx_eq, awOp, ev_k, ev_0, ev_1, ev_2, ev_3, ev_4, ev_5, ev_6, ev_7, ev_8, set_0, set_1, set_2, set_3, set_4, set_5, set_6, set_7, set_8, -List.set_cons_succ, -List.set_cons_zero, A.ok, A.val, setSl, wrapG, guardB, getB, pickA, binA, binC, binD, cmpD, isCmp, unA, unD, lenA, AOp.total, kills, litB, FinQ, resOks, resOk, resA, resList, resOne, A.thaw, C.thaw, A.fits, As.fits, C.fits, evs, oks, callArgs, A.pure, C.pure, A.re, C.re, fieldAddrA, loadC, cut, A.cells, C.rows?, getOb, newOb, setOb, storeC, splice, Ob.re, Cs.fits, partsA, partsOk, parts2A, parts2Ok, fillC, fillRows, optInt, optOk, sliceA, clipC, optK_some, storeK_some, Option.map_some, toDs, C.toD, spliceD, appendA, capsOf, srcRows, allLen_nil_iff, allLen_cons_iff, allLen_append_iff, dropC, Obs.fits, eqCs, eqD]
    refine ⟨fun hlt => ?_, fun hge => ?_⟩
    · have hbl := body_len hb hlt
      have hbi : inR .i64 (p[i].body.length : Int) := small_i64 (by omega) (by omega)
      have hul := unk_len hb i hi
      have hc := hp.2 p[i] (List.getElem_mem hlt)
      obtain ⟨V, hV⟩ : ∃ V : Nat → List Tm, ∀ j, V j = unkT p i ++ (p[i].body.take j).filter (unkB p) := ⟨_, fun _ => rfl⟩
      refine row_of hlt rfl ?_
      simp -implicitDefEqProofs [Cl.row, hbi, aw_skip, aw_region, aw_seq, aw_block, aw_cond, aw_exit, aw_ret, kq_nil, kq_seq, kq_seq_ret, kq_seq_exit, kq_block, kq_block_ret, kq_block_exit, kq_loop, kq_loop_ret, kq_loop_exit, awOps_nil, awOps_cons, awOps_guardE, nx_eq, awOp, ev_k, ev_0, ev_1, ev_2, ev_3, ev_4, ev_5, ev_6, ev_7, ev_8, set_0, set_1, set_2, set_3, set_4, set_5, set_6, set_7, set_8, -List.set_cons_succ, -List.set_cons_zero, A.ok, A.val, setSl, wrapG, guardB, getB, pickA, binA, binC, binD, cmpD, isCmp, unA, unD, lenA, AOp.total, kills, litB, FinQ, resOks, resOk, resA, resList, resOne, A.thaw, C.thaw, A.fits, As.fits, C.fits, evs, oks, callArgs, A.pure, C.pure, A.re, C.re, fieldAddrA, loadC, cut, A.cells, C.rows?, getOb, newOb, setOb, storeC, splice, Ob.re, Cs.fits, partsA, partsOk, parts2A, parts2Ok, fillC, fillRows, optInt, optOk, sliceA, clipC, optK_some, storeK_some, Option.map_some, toDs, C.toD, spliceD, appendA, capsOf, srcRows, allLen_nil_iff, allLen_cons_iff, allLen_append_iff, dropC, Obs.fits, eqCs, eqD]
      have hloc : ∀ (E : Heap) (c d g : Ob), (g :: (E ++ [c])).set (E.length + 1) d = g :: (E ++ [d]) := fun E c d g => by rw [List.set_cons_succ, set_end]
      rw [hloc]
      refine loop_enter (le_dead _ _ E _ _) ?_
      refine loop_set (σ := Nat × Heap × List Value × List Nat) (fun x => [(20, .c (.d (.int .i64 x.1))), (3, .c (.own (.l 0) (V x.1).length (List.zipWith srow (V x.1) x.2.2.1)))]) (fun _ => []) (fun x => .grow (V x.1).length 4 :: x.2.1) (fun x => x.1 ≤ p[i].body.length ∧ Acc x.2.1 (V x.1) x.2.2.1 x.2.2.2) (fun x => p[i].body.length - x.1) (0, E ++ [.dead], vs, js) (by simp [setAll, hV]) ⟨Nat.zero_le _, by simpa [hV] using ha.more⟩ ?_
      rintro ⟨j, E, vs, js⟩ ⟨hj, ha⟩
      simp only at hj ha
      obtain ⟨U, hU⟩ : ∃ U, U = V j := ⟨_, rfl⟩
      have hUl : U.length ≤ 6 * i + j := by
        have : ((p[i].body.take j).filter (unkB p)).length ≤ (p[i].body.take j).length := List.length_filter_le _ _
        rw [hU, hV, List.length_append]; simp at this; omega
      rw [← hU] at ha ⊢
      have hEr := ha.re
      simp -implicitDefEqProofs [setAll, hli, hbi, aw_skip, aw_region, aw_seq, aw_block, aw_cond, aw_exit, aw_ret, kq_nil, kq_seq, kq_seq_ret, kq_seq_exit, kq_block, kq_block_ret, kq_block_exit, kq_loop, kq_loop_ret, kq_loop_exit, awOps_nil, awOps_cons, awOps_guardE, nx_eq, awOp, ev_k, ev_0, ev_1, ev_2, ev_3, ev_4, ev_5, ev_6, ev_7, ev_8, set_0, set_1, set_2, set_3, set_4, set_5, set_6, set_7, set_8, -List.set_cons_succ, -List.set_cons_zero, A.ok, A.val, setSl, wrapG, guardB, getB, pickA, binA, binC, binD, cmpD, isCmp, unA, unD, lenA, AOp.total, kills, litB, FinQ, resOks, resOk, resA, resList, resOne, A.thaw, C.thaw, A.fits, As.fits, C.fits, evs, oks, callArgs, A.pure, C.pure, A.re, C.re, fieldAddrA, loadC, cut, A.cells, C.rows?, getOb, newOb, setOb, storeC, splice, Ob.re, Cs.fits, partsA, partsOk, parts2A, parts2Ok, fillC, fillRows, optInt, optOk, sliceA, clipC, optK_some, storeK_some, Option.map_some, toDs, C.toD, spliceD, appendA, capsOf, srcRows, allLen_nil_iff, allLen_cons_iff, allLen_append_iff, dropC, Obs.fits, eqCs, eqD]
      refine ⟨fun hjl => ?_, fun hje => ?_⟩
      · have hadd : inR .i64 ((j : Int) + 1) := small_i64 (by omega) (by omega)
        have hg := hc.body p[i].body[j] (List.getElem_mem hjl)
        have hfs := filt_succ (unkB p) p[i].body hjl
        refine row_of hjl (row_len _) ?_
        simp -implicitDefEqProofs [row_len, take_row, pure_d, re_d, aw_skip, aw_region, aw_seq, aw_block, aw_cond, aw_exit, aw_ret, kq_nil, kq_seq, kq_seq_ret, kq_seq_exit, kq_block, kq_block_ret, kq_block_exit, kq_loop, kq_loop_ret, kq_loop_exit, awOps_nil, awOps_cons, awOps_guardE, nx_eq, awOp, ev_k, ev_0, ev_1, ev_2, ev_3, ev_4, ev_5, ev_6, ev_7, ev_8, set_0, set_1, set_2, set_3, set_4, set_5, set_6, set_7, set_8, -List.set_cons_succ, -List.set_cons_zero, A.ok, A.val, setSl, wrapG, guardB, getB, pickA, binA, binC, binD, cmpD, isCmp, unA, unD, lenA, AOp.total, kills, litB, FinQ, resOks, resOk, resA, resList, resOne, A.thaw, C.thaw, A.fits, As.fits, C.fits, evs, oks, callArgs, A.pure, C.pure, A.re, C.re, fieldAddrA, loadC, cut, A.cells, C.rows?, getOb, newOb, setOb, storeC, splice, Ob.re, Cs.fits, partsA, partsOk, parts2A, parts2Ok, fillC, fillRows, optInt, optOk, sliceA, clipC, optK_some, storeK_some, Option.map_some, toDs, C.toD, spliceD, appendA, capsOf, srcRows, allLen_nil_iff, allLen_cons_iff, allLen_append_iff, dropC, Obs.fits, eqCs, eqD]
        rw [hloc]
        have hps := plainImpl_calls _ hg
        have nextF : unkB p p[i].body[j] = false → V (j + 1) = U := fun hq => by rw [hV, hfs, ← List.append_assoc, ← hV, ← hU, hq]; simp
        have nextT : unkB p p[i].body[j] = true → V (j + 1) = U ++ [p[i].body[j]] := fun hq => by rw [hV, hfs, ← List.append_assoc, ← hV, ← hU, hq]; simp
        cases hpn : p[i].body[j].plain with
        | false =>
          simp only [hpn] at hps
          refine qcall_pure hps trivial rfl ?_
          have hnx := nextF (by simp [unkB, hpn])
          simp -implicitDefEqProofs [row_len, take_row, pure_d, re_d, hadd, aw_skip, aw_region, aw_seq, aw_block, aw_cond, aw_exit, aw_ret, kq_nil, kq_seq, kq_seq_ret, kq_seq_exit, kq_block, kq_block_ret, kq_block_exit, kq_loop, kq_loop_ret, kq_loop_exit, awOps_nil, awOps_cons, awOps_guardE, nx_eq, awOp, ev_k, ev_0, ev_1, ev_2, ev_3, ev_4, ev_5, ev_6, ev_7, ev_8, set_0, set_1, set_2, set_3, set_4, set_5, set_6, set_7, set_8, -List.set_cons_succ, -List.set_cons_zero, A.ok, A.val, setSl, wrapG, guardB, getB, pickA, binA, binC, binD, cmpD, isCmp, unA, unD, lenA, AOp.total, kills, litB, FinQ, resOks, resOk, resA, resList, resOne, A.thaw, C.thaw, A.fits, As.fits, C.fits, evs, oks, callArgs, A.pure, C.pure, A.re, C.re, fieldAddrA, loadC, cut, A.cells, C.rows?, getOb, newOb, setOb, storeC, splice, Ob.re, Cs.fits, partsA, partsOk, parts2A, parts2Ok, fillC, fillRows, optInt, optOk, sliceA, clipC, optK_some, storeK_some, Option.map_some, toDs, C.toD, spliceD, appendA, capsOf, srcRows, allLen_nil_iff, allLen_cons_iff, allLen_append_iff, dropC, Obs.fits, eqCs, eqD]
          refine loop_less (j + 1, E ++ [.dead], vs, js) (St.le_more ?_ ?_) ⟨hjl, by show Acc _ (V (j + 1)) _ _; rw [hnx]; exact ha.more⟩ (by show p[i].body.length - (j + 1) < p[i].body.length - j; omega)
          · simp only [hnx]; simp [setAll, Sl.le, A.le_refl_iff, A.le_u_iff, As.lo, A.lo, C.lo, Ref.lo, Cs.lo, Obs.lo, Ob.lo, setAll, and_true, true_and, List.length_nil, List.length_cons]
          · show Obs.le _ (.grow (V (j + 1)).length 4 :: (E ++ [.dead])); rw [hnx]; exact ⟨.refl _, Obs.le_append (Obs.le_refl E) ⟨.dead _, trivial⟩⟩
        | true =>
          simp only [hpn] at hps
          refine qcall_pure hps trivial rfl ?_
          simp -implicitDefEqProofs [row_len, take_row, pure_d, re_d, hadd, aw_skip, aw_region, aw_seq, aw_block, aw_cond, aw_exit, aw_ret, kq_nil, kq_seq, kq_seq_ret, kq_seq_exit, kq_block, kq_block_ret, kq_block_exit, kq_loop, kq_loop_ret, kq_loop_exit, awOps_nil, awOps_cons, awOps_guardE, nx_eq, awOp, ev_k, ev_0, ev_1, ev_2, ev_3, ev_4, ev_5, ev_6, ev_7, ev_8, set_0, set_1, set_2, set_3, set_4, set_5, set_6, set_7, set_8, -List.set_cons_succ, -List.set_cons_zero, A.ok, A.val, setSl, wrapG, guardB, getB, pickA, binA, binC, binD, cmpD, isCmp, unA, unD, lenA, AOp.total, kills, litB, FinQ, resOks, resOk, resA, resList, resOne, A.thaw, C.thaw, A.fits, As.fits, C.fits, evs, oks, callArgs, A.pure, C.pure, A.re, C.re, fieldAddrA, loadC, cut, A.cells, C.rows?, getOb, newOb, setOb, storeC, splice, Ob.re, Cs.fits, partsA, partsOk, parts2A, parts2Ok, fillC, fillRows, optInt, optOk, sliceA, clipC, optK_some, storeK_some, Option.map_some, toDs, C.toD, spliceD, appendA, capsOf, srcRows, allLen_nil_iff, allLen_cons_iff, allLen_append_iff, dropC, Obs.fits, eqCs, eqD]
          refine qcall_pure (pred_calls _ hg) trivial rfl ?_
          simp -implicitDefEqProofs [row_len, take_row, pure_d, re_d, hadd, aw_skip, aw_region, aw_seq, aw_block, aw_cond, aw_exit, aw_ret, kq_nil, kq_seq, kq_seq_ret, kq_seq_exit, kq_block, kq_block_ret, kq_block_exit, kq_loop, kq_loop_ret, kq_loop_exit, awOps_nil, awOps_cons, awOps_guardE, nx_eq, awOp, ev_k, ev_0, ev_1, ev_2, ev_3, ev_4, ev_5, ev_6, ev_7, ev_8, set_0, set_1, set_2, set_3, set_4, set_5, set_6, set_7, set_8, -List.set_cons_succ, -List.set_cons_zero, A.ok, A.val, setSl, wrapG, guardB, getB, pickA, binA, binC, binD, cmpD, isCmp, unA, unD, lenA, AOp.total, kills, litB, FinQ, resOks, resOk, resA, resList, resOne, A.thaw, C.thaw, A.fits, As.fits, C.fits, evs, oks, callArgs, A.pure, C.pure, A.re, C.re, fieldAddrA, loadC, cut, A.cells, C.rows?, getOb, newOb, setOb, storeC, splice, Ob.re, Cs.fits, partsA, partsOk, parts2A, parts2Ok, fillC, fillRows, optInt, optOk, sliceA, clipC, optK_some, storeK_some, Option.map_some, toDs, C.toD, spliceD, appendA, capsOf, srcRows, allLen_nil_iff, allLen_cons_iff, allLen_append_iff, dropC, Obs.fits, eqCs, eqD]
          refine qcall_pure (cfor_calls p hp _ hg) trivial rfl ?_
          have hfl := forI_len p p[i].body[j] p.length
          have hfi : inR .i64 ((forI p p[i].body[j] p.length).length : Int) := small_i64 (by omega) (by omega)
          simp -implicitDefEqProofs [row_len, take_row, pure_d, re_d, hadd, hfi, hEr, intRows_len, aw_skip, aw_region, aw_seq, aw_block, aw_cond, aw_exit, aw_ret, kq_nil, kq_seq, kq_seq_ret, kq_seq_exit, kq_block, kq_block_ret, kq_block_exit, kq_loop, kq_loop_ret, kq_loop_exit, awOps_nil, awOps_cons, awOps_guardE, nx_eq, awOp, ev_k, ev_0, ev_1, ev_2, ev_3, ev_4, ev_5, ev_6, ev_7, ev_8, set_0, set_1, set_2, set_3, set_4, set_5, set_6, set_7, set_8, -List.set_cons_succ, -List.set_cons_zero, A.ok, A.val, setSl, wrapG, guardB, getB, pickA, binA, binC, binD, cmpD, isCmp, unA, unD, lenA, AOp.total, kills, litB, FinQ, resOks, resOk, resA, resList, resOne, A.thaw, C.thaw, A.fits, As.fits, C.fits, evs, oks, callArgs, A.pure, C.pure, A.re, C.re, fieldAddrA, loadC, cut, A.cells, C.rows?, getOb, newOb, setOb, storeC, splice, Ob.re, Cs.fits, partsA, partsOk, parts2A, parts2Ok, fillC, fillRows, optInt, optOk, sliceA, clipC, optK_some, storeK_some, Option.map_some, toDs, C.toD, spliceD, appendA, capsOf, srcRows, allLen_nil_iff, allLen_cons_iff, allLen_append_iff, dropC, Obs.fits, eqCs, eqD]
          refine ⟨fun he => ?_, fun he => ?_⟩
          · have hnx := nextT (by simp [unkB, hpn]; exact he)
            refine call_loc (J := []) (ownO_calls _ hg) (fun r H' h => h.handed) (by simp [Ob.re, hEr, re_d]) (.cons (.agg (fzCs_id _)) .nil) List.nodup_nil rfl rfl ?_
            rintro _ _ ⟨v, rfl, rfl⟩ _
            simp -implicitDefEqProofs [putAll, hadd, aw_skip, aw_region, aw_seq, aw_block, aw_cond, aw_exit, aw_ret, kq_nil, kq_seq, kq_seq_ret, kq_seq_exit, kq_block, kq_block_ret, kq_block_exit, kq_loop, kq_loop_ret, kq_loop_exit, awOps_nil, awOps_cons, awOps_guardE, nx_eq, awOp, ev_k, ev_0, ev_1, ev_2, ev_3, ev_4, ev_5, ev_6, ev_7, ev_8, set_0, set_1, set_2, set_3, set_4, set_5, set_6, set_7, set_8, -List.set_cons_succ, -List.set_cons_zero, A.ok, A.val, setSl, wrapG, guardB, getB, pickA, binA, binC, binD, cmpD, isCmp, unA, unD, lenA, AOp.total, kills, litB, FinQ, resOks, resOk, resA, resList, resOne, A.thaw, C.thaw, A.fits, As.fits, C.fits, evs, oks, callArgs, A.pure, C.pure, A.re, C.re, fieldAddrA, loadC, cut, A.cells, C.rows?, getOb, newOb, setOb, storeC, splice, Ob.re, Cs.fits, partsA, partsOk, parts2A, parts2Ok, fillC, fillRows, optInt, optOk, sliceA, clipC, optK_some, storeK_some, Option.map_some, toDs, C.toD, spliceD, appendA, capsOf, srcRows, allLen_nil_iff, allLen_cons_iff, allLen_append_iff, dropC, Obs.fits, eqCs, eqD]
            refine ⟨allLen_zip U vs, by have := ha.vl; unfold maxApp; omega, ?_⟩
            have hsn : List.zipWith srow (U ++ [p[i].body[j]]) (vs ++ [v]) = List.zipWith srow U vs ++ [[.int .i64 p[i].body[j].k, .int .i64 p[i].body[j].n, .str p[i].body[j].s, .v v]] := by rw [List.zipWith_append ha.vl.symm]; rfl
            refine loop_less (j + 1, (E ++ [.dead]) ++ [ktree p[i].body[j] v], vs ++ [v], js ++ [(E ++ [Ob.dead]).length]) (St.le_more ?_ ?_) ⟨hjl, by show Acc _ (V (j + 1)) _ _; rw [hnx]; exact ha.more.push _ v⟩ (by show p[i].body.length - (j + 1) < p[i].body.length - j; omega)
            · simp only [hnx, hsn]; simp [setAll, Sl.le, A.le_refl_iff, A.le_u_iff, As.lo, A.lo, C.lo, Ref.lo, Cs.lo, Obs.lo, Ob.lo, setAll, and_true, true_and, List.length_nil, List.length_cons]
            · show Obs.le _ (.grow (V (j + 1)).length 4 :: ((E ++ [.dead]) ++ [ktree p[i].body[j] v]))
              rw [hnx, List.append_assoc, List.length_append]
              exact ⟨.refl _, Obs.le_append (Obs.le_refl E) ⟨.dead _, .refl _, trivial⟩⟩
          · have hnx := nextF (by simp [unkB, hpn]; exact he)
            refine loop_less (j + 1, E ++ [.dead], vs, js) (St.le_more ?_ ?_) ⟨hjl, by show Acc _ (V (j + 1)) _ _; rw [hnx]; exact ha.more⟩ (by show p[i].body.length - (j + 1) < p[i].body.length - j; omega)
            · simp only [hnx]; simp [setAll, Sl.le, A.le_refl_iff, A.le_u_iff, As.lo, A.lo, C.lo, Ref.lo, Cs.lo, Obs.lo, Ob.lo, setAll, and_true, true_and, List.length_nil, List.length_cons]
            · show Obs.le _ (.grow (V (j + 1)).length 4 :: (E ++ [.dead])); rw [hnx]; exact ⟨.refl _, Obs.le_append (Obs.le_refl E) ⟨.dead _, trivial⟩⟩
      · obtain rfl : j = p[i].body.length := by omega
        have hadd : inR .i64 ((i : Int) + 1) := small_i64 (by omega) (by omega)
        have hU2 : U = unkT p (i + 1) := by rw [hU, hV, unk_succ p hlt, List.take_length]; rfl
        rw [hU2] at ha ⊢
        exact ⟨hadd, loop_less (i + 1, E, vs, js) (St.le_slots (by simp [setAll, Sl.le, A.le_refl_iff, A.le_u_iff, As.lo, A.lo, C.lo, Ref.lo, Cs.lo, Obs.lo, Ob.lo, setAll, and_true, true_and, List.length_nil, List.length_cons])) ⟨hlt, ha⟩ (by show p.length - (i + 1) < p.length - i; omega)⟩
    · obtain rfl : i = p.length := by omega
      have hn : (0 :: js.map (· + 1)).Nodup := by
        refine List.nodup_cons.2 ⟨by simp, ?_⟩
        exact List.Pairwise.map _ (fun a b (h : a ≠ b) => by simp; omega) ha.jn
      have : unkP p = unkT p p.length := by rw [unkP, hb]; rfl
      rw [this]
      refine finT_ret _ ⟨trivial, trivial⟩ rfl fun kv => ⟨_, _, _, .one (.c (.own (js := js.map (· + 1)) rfl (by simp [ha.vl]) (strip_terms _ vs ha.vl) (by rw [zip_lens ha.vl]) (fun m hm => ?_))), hn, _, rfl, rfl⟩
      obtain ⟨j, h1, h2⟩ := ha.get m (by simp [ha.vl] at hm; exact hm)
      exact ⟨j + 1, by simp [h1], by rw [List.getElem?_cons_succ]; exact h2⟩
end Go.Proofs.Ytnpncfadhflapaa
