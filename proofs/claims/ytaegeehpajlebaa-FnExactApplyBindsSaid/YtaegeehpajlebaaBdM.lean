/-
  Bindings are marked.
  Conditions: none.
-/
import Derived.Test.YtaegeehpajlebaaBd
open Go Go.AM Go.Proofs
namespace Go.Proofs.Ytaegeehpajlebaa
open Go.ChangeShapes Go.WideShapes Go.ChangeAt Go.RowKit
set_option linter.unusedVariables false
set_option linter.unusedSimpArgs false
set_option maxRecDepth 100000
-- 16 loop.example/prologserver/laws.markBindS params 2 ntmps 53
-- loop head live: [0, 1, 5]
def ac16 : Cd := .seq (.region [⟨(some 4), .mv (.k (.c (.d (.int .i64 0)))), none⟩] [4])
  (.seq (.seq (.region [⟨(some 5), .mv (.k (.c (.d (.int .i64 0)))), none⟩] [])
    (.block 0 (.loop (.seq (.seq (.region [⟨(some 6), .mv (.t 5), none⟩,
              ⟨(some 7), .mv (.t 0), none⟩,
              ⟨(some 8), .len 1 (.t 7), none⟩,
              ⟨(some 9), .bin .lss (.t 6) (.t 8), none⟩] [6, 7, 8])
          (.cond (.t 9)
            (.skip)
            (.exit 0)))
        (.seq (.block 1 (.seq (.region [⟨(some 12), .mv (.t 0), none⟩,
                ⟨(some 13), .mv (.t 5), none⟩,
                ⟨(some 14), .mv (.t 1), none⟩,
                ⟨(some 15), .indexAddr 5 (.t 12) (.t 13), none⟩,
                ⟨(some 16), .fieldAddr 0 (.t 15), none⟩,
                ⟨none, .store 1 (.t 16) (.t 14), none⟩] [9, 12, 13, 14, 15, 16])
            (.seq (.region [⟨(some 17), .mv (.t 1), none⟩,
                ⟨(some 18), .bin .add (.t 17) (.k (.c (.d (.int .i64 1)))), none⟩,
                ⟨(some 1), .mv (.t 18), none⟩] [17, 18])
            (.seq (.region [⟨(some 19), .mv (.t 0), none⟩,
                ⟨(some 20), .mv (.t 5), none⟩,
                ⟨(some 21), .mv (.t 1), none⟩,
                ⟨(some 22), .indexAddr 5 (.t 19) (.t 20), none⟩,
                ⟨(some 23), .fieldAddr 1 (.t 22), none⟩,
                ⟨(some 24), .fieldAddr 0 (.t 23), none⟩,
                ⟨none, .store 1 (.t 24) (.t 21), none⟩] [19, 20, 21, 22, 23, 24])
            (.seq (.region [⟨(some 25), .mv (.t 1), none⟩,
                ⟨(some 26), .bin .add (.t 25) (.k (.c (.d (.int .i64 1)))), none⟩,
                ⟨(some 1), .mv (.t 26), none⟩] [25, 26])
            (.seq (.region [⟨(some 27), .mv (.t 0), none⟩,
                ⟨(some 28), .mv (.t 5), none⟩,
                ⟨(some 29), .mv (.t 1), none⟩,
                ⟨(some 30), .indexAddr 5 (.t 27) (.t 28), none⟩,
                ⟨(some 31), .fieldAddr 1 (.t 30), none⟩,
                ⟨(some 32), .fieldAddr 1 (.t 31), none⟩,
                ⟨none, .store 1 (.t 32) (.t 29), none⟩] [27, 28, 29, 30, 31, 32])
            (.seq (.region [⟨(some 33), .mv (.t 1), none⟩,
                ⟨(some 34), .bin .add (.t 33) (.k (.c (.d (.int .i64 1)))), none⟩,
                ⟨(some 1), .mv (.t 34), none⟩] [33, 34])
            (.seq (.region [⟨(some 35), .mv (.t 0), none⟩,
                ⟨(some 36), .mv (.t 5), none⟩,
                ⟨(some 37), .mv (.t 1), none⟩,
                ⟨(some 38), .qcall 56 [(.t 37)], none⟩,
                ⟨(some 39), .indexAddr 5 (.t 35) (.t 36), none⟩,
                ⟨(some 40), .fieldAddr 1 (.t 39), none⟩,
                ⟨(some 41), .fieldAddr 2 (.t 40), none⟩,
                ⟨none, .store 1 (.t 41) (.t 38), none⟩] [35, 36, 37, 38, 39, 40, 41])
            (.seq (.region [⟨(some 42), .mv (.t 1), none⟩,
                ⟨(some 43), .bin .add (.t 42) (.k (.c (.d (.int .i64 1)))), none⟩,
                ⟨(some 1), .mv (.t 43), none⟩] [42, 43])
            (.region [⟨(some 44), .mv (.t 0), none⟩,
              ⟨(some 45), .mv (.t 5), none⟩,
              ⟨(some 46), .indexAddr 5 (.t 44) (.t 45), none⟩,
              ⟨(some 47), .fieldAddr 1 (.t 46), none⟩,
              ⟨(some 48), .fieldAddr 3 (.t 47), none⟩,
              ⟨(some 49), .load none (.t 48), none⟩,
              ⟨(some 50), .mv (.t 1), none⟩,
              ⟨(some 51), .call false 24 [(.t 49), (.t 50)], none⟩,
              ⟨(some 1), .mv (.t 51), none⟩] [44, 45, 46, 47, 48, 49, 50, 51]))))))))))
        (.region [⟨(some 10), .mv (.t 5), none⟩,
          ⟨(some 11), .bin .add (.t 10) (.k (.c (.d (.int .i64 1)))), none⟩,
          ⟨(some 5), .mv (.t 11), none⟩] [10, 11]))))))
  (.seq (.region [⟨(some 52), .mv (.t 1), none⟩,
      ⟨(some 4), .mv (.t 52), none⟩] [1, 52])
  (.ret)))
theorem ac16_ok : cFunc Try.prog [1000056] [(0, [4], []), (1, [], []), (2, [6, 7, 8], []), (4, [9, 12, 13, 14, 15, 16], []), (5, [17, 18], []), (6, [19, 20, 21, 22, 23, 24], []), (7, [25, 26], []), (8, [27, 28, 29, 30, 31, 32], []), (9, [33, 34], []), (10, [35, 36, 37, 38, 39, 40, 41], []), (11, [42, 43], []), (12, [44, 45, 46, 47, 48, 49, 50, 51], []), (3, [10, 11], []), (13, [1, 52], [])] Try.f16 = some (ac16, [.tmp 4], 53) := by kernel_rfl
def Bd.adv (b : Bd) : Nat := 3 + 3 * b.t.sub
/-- a binding that bears marks -/
def mBd (k : Int) (b : Bd) : Bd := ⟨k, mTm (k + 1) b.t⟩
def mBds (k : Int) : List Bd → List Bd
  | [] => []
  | c :: l => mBd k c :: mBds (k + 1 + c.adv) l
theorem mBds_len : ∀ (k : Int) (l : List Bd), (mBds k l).length = l.length
  | k, [] => rfl
  | k, c :: l => by rw [mBds, List.length_cons, mBds_len, List.length_cons]
theorem mBds_get : ∀ (k : Int) (l : List Bd) (i : Nat) (h : i < l.length), (mBds k l)[i]? = some (mBd (k + wsum Bd.adv (l.take i)) l[i])
  | k, c :: l, 0, h => by rw [mBds]; simp [wsum]
  | k, c :: l, i + 1, h => by
    rw [mBds, List.getElem?_cons_succ, mBds_get _ l i (by simpa using h)]
    simp only [List.take_succ_cons, wsum, List.getElem_cons_succ]
    congr 2
    simp only [Int.natCast_add]
    omega
theorem mBd_row (k : Int) (b : Bd) : (mBd k b).row = [.int .i64 k, .int .i64 (k + 1), .int .i64 (k + 1 + 1), .str (mText (k + 1 + 1 + 1)), .sl ((mTms (k + 1 + 1 + 1 + 1) b.t.kids).map Tm.row)] := by
  have h := mTm_row (k + 1) b.t
  rw [row_eq] at h
  simp only [List.cons.injEq, D.int.injEq, D.str.injEq, D.sl.injEq, and_true, true_and] at h
  simp only [mBd, Bd.row]
  rw [h.1, h.2.1, h.2.2.1, h.2.2.2, show k + 1 + 1 + 1 = k + 1 + 2 by omega, show k + 1 + 2 + 1 = k + 1 + 3 by omega]
theorem bd_rows (l : List Bd) : ∀ r ∈ l.map Bd.row, r.length = 5 := fun r hr => by obtain ⟨t, _, rfl⟩ := List.mem_map.1 hr; rfl
theorem bd_nsl (l : List Bd) : ∀ r ∈ l.map Bd.row, nsl r = 1 := fun r hr => by obtain ⟨t, _, rfl⟩ := List.mem_map.1 hr; rfl
theorem markBindS_calls (l : List Bd) (h : FitsB l) (k : Int) (h0 : 0 ≤ k) (h1 : k + wsum Bd.adv l ≤ 500000000000000) (kv : Value) :
    ACalls Try.prog 16 [.c (.d (.v kv)), .c (.d (.int .i64 k))] [.tree kv (l.map Bd.row)]
    (fun r H' => H' = [.tree kv ((mBds k l).map Bd.row)] ∧ r = .c (.d (.int .i64 (k + wsum Bd.adv l)))) := by
  have hl := h.1
  refine (acalls_tree (f := 16) (pre := []) (post := [.c (.d (.int .i64 k))]) (rows := l.map Bd.row) (Q := fun r rows' => r = .c (.d (.int .i64 (k + wsum Bd.adv l))) ∧ rows' = (mBds k l).map Bd.row) 5 (bd_rows l) rfl rfl (fun he => ?_) (fun hne srows trees hst hlens => ?_) kv).mono fun r H' ⟨rows', h1, _, h2, h3⟩ => ⟨by rw [h1, h3], h2⟩
  · obtain rfl : l = [] := by simpa using he
    have hk0 : inR .i64 k := small_i64 (by simp [wsum] at h1; omega) (by simp [wsum] at h1; omega)
    have hz0 : inR .i64 0 := small_i64 (by omega) (by omega)
    refine acalls Try.func16 (by kernel_rfl) ac16_ok fun hf => ?_
    simp -implicitDefEqProofs [ac16, aw_skip, aw_region, aw_seq, aw_block, aw_cond, aw_exit, aw_ret, kq_nil, kq_seq, kq_seq_ret, kq_seq_exit, kq_block, kq_block_ret, kq_block_exit, kq_loop, kq_loop_ret, kq_loop_exit, awOps_nil, awOps_cons, awOps_guardE, nx_eq, awOp, ev_k, ev_0, ev_1, ev_2, ev_3, ev_4, ev_5, ev_6, ev_7, ev_8, set_0, set_1, set_2, set_3, set_4, set_5, set_6, set_7, set_8, -List.set_cons_succ, -List.set_cons_zero, A.ok, A.val, setSl, wrapG, guardB, getB, pickA, binA, binC, binD, cmpD, isCmp, unA, unD, lenA, AOp.total, kills, litB, FinQ, resOks, resOk, resA, resList, resOne, A.thaw, C.thaw, A.fits, As.fits, C.fits, evs, oks, callArgs, A.pure, C.pure, A.re, C.re, fieldAddrA, loadC, cut, A.cells, C.rows?, getOb, newOb, setOb, storeC, splice, Ob.re, Cs.fits, partsA, partsOk, parts2A, parts2Ok, fillC, fillRows, optInt, optOk, sliceA, clipC, optK_some, storeK_some, Option.map_some, toDs, C.toD, spliceD, appendA, capsOf, srcRows, allLen_nil_iff, allLen_cons_iff, allLen_append_iff, dropC, Obs.fits, eqCs, eqD]
    refine loop_set (σ := Unit) (fun _ => [(5, .c (.d (.int .i64 0)))]) (fun _ => []) (fun _ => []) (fun _ => True) (fun _ => 0) () rfl trivial ?_
    intro _ _
    simp -implicitDefEqProofs [setAll, hz0, mBds, wsum, A.portT, A.portB, C.portB, D.leaf, aw_skip, aw_region, aw_seq, aw_block, aw_cond, aw_exit, aw_ret, kq_nil, kq_seq, kq_seq_ret, kq_seq_exit, kq_block, kq_block_ret, kq_block_exit, kq_loop, kq_loop_ret, kq_loop_exit, awOps_nil, awOps_cons, awOps_guardE, nx_eq, awOp, ev_k, ev_0, ev_1, ev_2, ev_3, ev_4, ev_5, ev_6, ev_7, ev_8, set_0, set_1, set_2, set_3, set_4, set_5, set_6, set_7, set_8, -List.set_cons_succ, -List.set_cons_zero, A.ok, A.val, setSl, wrapG, guardB, getB, pickA, binA, binC, binD, cmpD, isCmp, unA, unD, lenA, AOp.total, kills, litB, FinQ, resOks, resOk, resA, resList, resOne, A.thaw, C.thaw, A.fits, As.fits, C.fits, evs, oks, callArgs, A.pure, C.pure, A.re, C.re, fieldAddrA, loadC, cut, A.cells, C.rows?, getOb, newOb, setOb, storeC, splice, Ob.re, Cs.fits, partsA, partsOk, parts2A, parts2Ok, fillC, fillRows, optInt, optOk, sliceA, clipC, optK_some, storeK_some, Option.map_some, toDs, C.toD, spliceD, appendA, capsOf, srcRows, allLen_nil_iff, allLen_cons_iff, allLen_append_iff, dropC, Obs.fits, eqCs, eqD]
  · obtain ⟨vss, hV, hc, ht⟩ := rows_unstrip (m := 1) _ _ _ (bd_nsl l) hst
    obtain rfl := flatten_uniq hc (by rw [hlens, cut_lens hV.1])
    subst ht
    have hvl : vss.length = l.length := by rw [hV.1]; simp
    obtain ⟨kk, hkk⟩ : ∃ kk : Nat → Int, ∀ j, kk j = k + (wsum Bd.adv (l.take j) : Int) := ⟨_, fun _ => rfl⟩
    obtain ⟨fr, hfr⟩ : ∃ fr : Nat → List D, ∀ j, fr j = cutR (mBd (kk j) (l.getD j ⟨0, default⟩)).row (vss.getD j []) := ⟨_, fun _ => rfl⟩
    obtain ⟨ft, hft⟩ : ∃ ft : Nat → Heap, ∀ j, ft j = trs (mBd (kk j) (l.getD j ⟨0, default⟩)).row (vss.getD j []) := ⟨_, fun _ => rfl⟩
    obtain ⟨R, hR⟩ : ∃ R, R = List.zipWith cutR (l.map Bd.row) vss := ⟨_, rfl⟩
    obtain ⟨T, hT⟩ : ∃ T, T = List.zipWith trs (l.map Bd.row) vss := ⟨_, rfl⟩
    have hRl : R.length = l.length := by simp [hR, hvl]
    have hTl : T.length = l.length := by simp [hT, hvl]
    have hTm : ∀ p ∈ T, p.length = 1 := by rw [hT]; exact zipt_lens hV
    have hTt : ∀ p ∈ T, p.all Ob.isTreeB = true := by rw [hT]; exact zipt_trees _ _
    have hRi : ∀ i (hi : i < l.length), ∃ v, vss[i]? = some [v] ∧ R[i]? = some [.int .i64 l[i].n, .int .i64 l[i].t.k, .int .i64 l[i].t.n, .str l[i].t.s, .v v] ∧ T[i]? = some [.tree v (l[i].t.kids.map Tm.row)] := fun i hi => by
      have h1 : vss[i]? = some (vss[i]'(by omega)) := List.getElem?_eq_getElem _
      have h2 := hV.2.2 _ (List.mem_of_getElem? h1)
      match hvi : vss[i]'(by omega), h2 with
      | [v], _ =>
        rw [hvi] at h1
        refine ⟨v, h1, ?_, ?_⟩
        · rw [hR, List.getElem?_zipWith, h1]; simp [hi]; rfl
        · rw [hT, List.getElem?_zipWith, h1]; simp [hi]; rfl
    have hmem : ∀ i (hi : i ≤ l.length), ∀ p ∈ mixed ft T i, p.length = 1 := fun i hi p hp => by
      rcases List.mem_append.1 hp with hp | hp
      · obtain ⟨j, hj, rfl⟩ := List.mem_map.1 hp
        have hjl : j < l.length := by simp at hj; omega
        obtain ⟨v, e1, _, _⟩ := hRi j hjl
        rw [hft, trs_len _ _ (by simp [List.getD, e1, Bd.row, nsl])]
        rfl
      · exact hTm p (List.mem_of_mem_drop hp)
    have hmt : ∀ i, (mixed ft T i).flatten.all Ob.isTreeB = true := fun i => flat_trees fun p hp => by
      rcases List.mem_append.1 hp with hp | hp
      · obtain ⟨j, hj, rfl⟩ := List.mem_map.1 hp
        rw [hft]; exact trs_trees _ _
      · exact hTt p (List.mem_of_mem_drop hp)
    rw [← hR, ← hT]
    refine acalls Try.func16 (by kernel_rfl) ac16_ok fun hf => ?_
    have hli : inR .i64 (l.length : Int) := small_i64 (by omega) (by omega)
    simp -implicitDefEqProofs [ac16, hli, aw_skip, aw_region, aw_seq, aw_block, aw_cond, aw_exit, aw_ret, kq_nil, kq_seq, kq_seq_ret, kq_seq_exit, kq_block, kq_block_ret, kq_block_exit, kq_loop, kq_loop_ret, kq_loop_exit, awOps_nil, awOps_cons, awOps_guardE, nx_eq, awOp, ev_k, ev_0, ev_1, ev_2, ev_3, ev_4, ev_5, ev_6, ev_7, ev_8, set_0, set_1, set_2, set_3, set_4, set_5, set_6, set_7, set_8, -List.set_cons_succ, -List.set_cons_zero, A.ok, A.val, setSl, wrapG, guardB, getB, pickA, binA, binC, binD, cmpD, isCmp, unA, unD, lenA, AOp.total, kills, litB, FinQ, resOks, resOk, resA, resList, resOne, A.thaw, C.thaw, A.fits, As.fits, C.fits, evs, oks, callArgs, A.pure, C.pure, A.re, C.re, fieldAddrA, loadC, cut, A.cells, C.rows?, getOb, newOb, setOb, storeC, splice, Ob.re, Cs.fits, partsA, partsOk, parts2A, parts2Ok, fillC, fillRows, optInt, optOk, sliceA, clipC, optK_some, storeK_some, Option.map_some, toDs, C.toD, spliceD, appendA, capsOf, srcRows, allLen_nil_iff, allLen_cons_iff, allLen_append_iff, dropC, Obs.fits, eqCs, eqD]
    refine loop_set (σ := Nat) (fun i => [(5, .c (.d (.int .i64 i))), (1, .c (.d (.int .i64 (kk i))))]) (fun i => .rows (mixed fr R i) :: (mixed ft T i).flatten) (fun _ => []) (fun i => i ≤ l.length) (fun i => l.length - i) 0 (by simp [setAll, mixed_zero, hkk, wsum]) (Nat.zero_le _) ?_
    intro i hi
    obtain ⟨TT, hTT⟩ : ∃ TT, TT = (mixed ft T i).flatten := ⟨_, rfl⟩
    have hTa : TT.all Ob.isTreeB = true := by rw [hTT]; exact hmt i
    rw [← hTT]
    simp -implicitDefEqProofs [setAll, hli, aw_skip, aw_region, aw_seq, aw_block, aw_cond, aw_exit, aw_ret, kq_nil, kq_seq, kq_seq_ret, kq_seq_exit, kq_block, kq_block_ret, kq_block_exit, kq_loop, kq_loop_ret, kq_loop_exit, awOps_nil, awOps_cons, awOps_guardE, nx_eq, awOp, ev_k, ev_0, ev_1, ev_2, ev_3, ev_4, ev_5, ev_6, ev_7, ev_8, set_0, set_1, set_2, set_3, set_4, set_5, set_6, set_7, set_8, -List.set_cons_succ, -List.set_cons_zero, A.ok, A.val, setSl, wrapG, guardB, getB, pickA, binA, binC, binD, cmpD, isCmp, unA, unD, lenA, AOp.total, kills, litB, FinQ, resOks, resOk, resA, resList, resOne, A.thaw, C.thaw, A.fits, As.fits, C.fits, evs, oks, callArgs, A.pure, C.pure, A.re, C.re, fieldAddrA, loadC, cut, A.cells, C.rows?, getOb, newOb, setOb, storeC, splice, Ob.re, Cs.fits, partsA, partsOk, parts2A, parts2Ok, fillC, fillRows, optInt, optOk, sliceA, clipC, optK_some, storeK_some, Option.map_some, toDs, C.toD, spliceD, appendA, capsOf, srcRows, allLen_nil_iff, allLen_cons_iff, allLen_append_iff, dropC, Obs.fits, eqCs, eqD]
    refine ⟨fun hlt => ⟨hlt, ?_⟩, fun hge => ?_⟩
    · have hs := wsum_take_sub Bd.adv l hlt
      have hki := hkk i
      obtain ⟨v, hv, hRv, hTv⟩ := hRi i hlt
      have hc := h.2 l[i] (List.getElem_mem hlt)
      have hcs : l[i].adv = 3 + 3 * l[i].t.sub := rfl
      have hRlt : i < R.length := by omega
      have hTlt : i < T.length := by omega
      have hlm : i < (mixed fr R i).length := by rw [mixed_len _ _ (by omega)]; exact hRlt
      have hgs : ∀ r, ((mixed fr R i).set i r)[i]? = some r := fun r => List.getElem?_set_self hlm
      have hget : (mixed fr R i)[i]? = some [.int .i64 l[i].n, .int .i64 l[i].t.k, .int .i64 l[i].t.n, .str l[i].t.s, .v v] := by rw [mixed_get _ _ hRlt, ← List.getElem?_eq_getElem hRlt, hRv]
      have hTg : (mixed ft T i)[i]? = some [.tree v (l[i].t.kids.map Tm.row)] := by rw [mixed_get _ _ hTlt, ← List.getElem?_eq_getElem hTlt, hTv]
      have hg0 : TT[i]? = some (.tree v (l[i].t.kids.map Tm.row)) := by
        have := fl_get (j := 0) (hmem i hi) hTg (by omega)
        rw [hTT]; simpa using this
      have i0 : inR .i64 (kk i) := small_i64 (by omega) (by omega)
      have i1 : inR .i64 (kk i + 1) := small_i64 (by omega) (by omega)
      have i2 : inR .i64 (kk i + 1 + 1) := small_i64 (by omega) (by omega)
      have i3 : inR .i64 (kk i + 1 + 1 + 1) := small_i64 (by omega) (by omega)
      have i4 : inR .i64 (kk i + 1 + 1 + 1 + 1) := small_i64 (by omega) (by omega)
      have hadd : inR .i64 ((i : Int) + 1) := small_i64 (by omega) (by omega)
      have hfx : ∀ rs (T' : Heap), T'.all Ob.isTreeB = true → Obs.fits ((Ob.rows rs :: T').length) 0 (Ob.rows rs :: T') := fun rs T' h => ⟨trivial, trees_fits h⟩
      simp -implicitDefEqProofs [hget, hgs, i0, i1, i2, i3, i4, hadd, aw_skip, aw_region, aw_seq, aw_block, aw_cond, aw_exit, aw_ret, kq_nil, kq_seq, kq_seq_ret, kq_seq_exit, kq_block, kq_block_ret, kq_block_exit, kq_loop, kq_loop_ret, kq_loop_exit, awOps_nil, awOps_cons, awOps_guardE, nx_eq, awOp, ev_k, ev_0, ev_1, ev_2, ev_3, ev_4, ev_5, ev_6, ev_7, ev_8, set_0, set_1, set_2, set_3, set_4, set_5, set_6, set_7, set_8, -List.set_cons_succ, -List.set_cons_zero, A.ok, A.val, setSl, wrapG, guardB, getB, pickA, binA, binC, binD, cmpD, isCmp, unA, unD, lenA, AOp.total, kills, litB, FinQ, resOks, resOk, resA, resList, resOne, A.thaw, C.thaw, A.fits, As.fits, C.fits, evs, oks, callArgs, A.pure, C.pure, A.re, C.re, fieldAddrA, loadC, cut, A.cells, C.rows?, getOb, newOb, setOb, storeC, splice, Ob.re, Cs.fits, partsA, partsOk, parts2A, parts2Ok, fillC, fillRows, optInt, optOk, sliceA, clipC, optK_some, storeK_some, Option.map_some, toDs, C.toD, spliceD, appendA, capsOf, srcRows, allLen_nil_iff, allLen_cons_iff, allLen_append_iff, dropC, Obs.fits, eqCs, eqD]
      refine ⟨hfx _ _ hTa, hlt, hfx _ _ hTa, hlt, hfx _ _ hTa, qcall_pure (markText_calls _ (by omega)) (hfx _ _ hTa) rfl ?_⟩
      simp -implicitDefEqProofs [hget, hgs, hlt, i0, i1, i2, i3, i4, hadd, aw_skip, aw_region, aw_seq, aw_block, aw_cond, aw_exit, aw_ret, kq_nil, kq_seq, kq_seq_ret, kq_seq_exit, kq_block, kq_block_ret, kq_block_exit, kq_loop, kq_loop_ret, kq_loop_exit, awOps_nil, awOps_cons, awOps_guardE, nx_eq, awOp, ev_k, ev_0, ev_1, ev_2, ev_3, ev_4, ev_5, ev_6, ev_7, ev_8, set_0, set_1, set_2, set_3, set_4, set_5, set_6, set_7, set_8, -List.set_cons_succ, -List.set_cons_zero, A.ok, A.val, setSl, wrapG, guardB, getB, pickA, binA, binC, binD, cmpD, isCmp, unA, unD, lenA, AOp.total, kills, litB, FinQ, resOks, resOk, resA, resList, resOne, A.thaw, C.thaw, A.fits, As.fits, C.fits, evs, oks, callArgs, A.pure, C.pure, A.re, C.re, fieldAddrA, loadC, cut, A.cells, C.rows?, getOb, newOb, setOb, storeC, splice, Ob.re, Cs.fits, partsA, partsOk, parts2A, parts2Ok, fillC, fillRows, optInt, optOk, sliceA, clipC, optK_some, storeK_some, Option.map_some, toDs, C.toD, spliceD, appendA, capsOf, srcRows, allLen_nil_iff, allLen_cons_iff, allLen_append_iff, dropC, Obs.fits, eqCs, eqD]
      have hca : ∀ (a : Ob) (l : Heap) (n : Nat) (b : Ob), (a :: l).set (n + 1) b = a :: l.set n b := fun _ _ _ _ => rfl
      refine ⟨hfx _ _ hTa, call_ext (loc := []) (J := [i + 1]) (markT_calls l[i].t hc.t (kk i + 1 + 1 + 1 + 1) (by omega) (by omega) v) (fun r H' ⟨h1, h2⟩ => by subst h1; subst h2; exact ⟨⟨rfl, rfl⟩, rfl⟩) (by simp) (.cons (.c .d) (.cons (.c .d) .nil)) (by simp) (by simp [hg0]) rfl (hfx _ _ hTa) ?_⟩
      rintro _ _ ⟨rfl, rfl⟩
      simp -implicitDefEqProofs [putAll, hca, hadd, aw_skip, aw_region, aw_seq, aw_block, aw_cond, aw_exit, aw_ret, kq_nil, kq_seq, kq_seq_ret, kq_seq_exit, kq_block, kq_block_ret, kq_block_exit, kq_loop, kq_loop_ret, kq_loop_exit, awOps_nil, awOps_cons, awOps_guardE, nx_eq, awOp, ev_k, ev_0, ev_1, ev_2, ev_3, ev_4, ev_5, ev_6, ev_7, ev_8, set_0, set_1, set_2, set_3, set_4, set_5, set_6, set_7, set_8, -List.set_cons_succ, -List.set_cons_zero, A.ok, A.val, setSl, wrapG, guardB, getB, pickA, binA, binC, binD, cmpD, isCmp, unA, unD, lenA, AOp.total, kills, litB, FinQ, resOks, resOk, resA, resList, resOne, A.thaw, C.thaw, A.fits, As.fits, C.fits, evs, oks, callArgs, A.pure, C.pure, A.re, C.re, fieldAddrA, loadC, cut, A.cells, C.rows?, getOb, newOb, setOb, storeC, splice, Ob.re, Cs.fits, partsA, partsOk, parts2A, parts2Ok, fillC, fillRows, optInt, optOk, sliceA, clipC, optK_some, storeK_some, Option.map_some, toDs, C.toD, spliceD, appendA, capsOf, srcRows, allLen_nil_iff, allLen_cons_iff, allLen_append_iff, dropC, Obs.fits, eqCs, eqD]
      have hk1 : kk (i + 1) = kk i + 1 + 1 + 1 + 1 + 3 * (l[i].t.sub : Int) := by
        have := wsum_take_succ Bd.adv l hlt
        rw [hkk, hkk]; omega
      have hvd : vss.getD i [] = [v] := by simp [List.getD, hv]
      have hld : l.getD i ⟨0, default⟩ = l[i] := by simp [hlt]
      have e1 := mixed_set fr R hRlt
      have e2 := mixed_set ft T hTlt
      rw [hfr, hld, hvd, mBd_row] at e1
      rw [hft, hld, hvd, mBd_row] at e2
      have s1 := fl_set (j := 0) (hmem i hi) hTg (by omega) (.tree v ((mTms (kk i + 1 + 1 + 1 + 1) l[i].t.kids).map Tm.row))
      have s3 : TT.set i (.tree v ((mTms (kk i + 1 + 1 + 1 + 1) l[i].t.kids).map Tm.row)) = (mixed ft T (i + 1)).flatten := by
        rw [← e2, hTT]
        simp only [Nat.mul_one, Nat.add_zero] at s1
        exact s1
      refine loop_back (i + 1) ?_ hlt (by show l.length - (i + 1) < l.length - i; omega)
      simp only [hk1, ← e1, ← s3]
      simp [setAll, cutR]
    · obtain rfl : i = l.length := by omega
      have hml := mBds_len k l
      have hV' : Vals 1 ((mBds k l).map Bd.row) vss := ⟨by simp [hml, hvl], bd_nsl _, hV.2.2⟩
      have e1 : mixed fr R l.length = List.zipWith cutR ((mBds k l).map Bd.row) vss := by
        refine List.ext_getElem? fun j => ?_
        rw [mixed_get' _ _ (by omega)]
        by_cases hj : j < l.length
        · obtain ⟨v, hv, _, _⟩ := hRi j hj
          rw [if_pos hj, hfr, List.getElem?_zipWith, List.getElem?_map, mBds_get k l j hj, hv, hkk]; simp [hj, List.getD, hv]
        · rw [if_neg hj, List.getElem?_eq_none (by omega), List.getElem?_eq_none (by simp [hml]; omega)]
      have e2 : mixed ft T l.length = List.zipWith trs ((mBds k l).map Bd.row) vss := by
        refine List.ext_getElem? fun j => ?_
        rw [mixed_get' _ _ (by omega)]
        by_cases hj : j < l.length
        · obtain ⟨v, hv, _, _⟩ := hRi j hj
          rw [if_pos hj, hft, List.getElem?_zipWith, List.getElem?_map, mBds_get k l j hj, hv, hkk]; simp [hj, List.getD, hv]
        · rw [if_neg hj, List.getElem?_eq_none (by omega), List.getElem?_eq_none (by simp [hml]; omega)]
      rw [e1, hTT, e2]
      refine ⟨_, _, _, strip_rows _ _ hV', by simp [hml], bd_rows _, cut_lens hV'.1, ?_, ⟨rfl, rfl⟩, rfl, by rw [hkk, List.take_length], rfl⟩
      rw [List.length_flatten, sum_len (zipt_lens hV'), sum_len hTm, hTl]
      simp [hml, hvl]
end Go.Proofs.Ytaegeehpajlebaa
