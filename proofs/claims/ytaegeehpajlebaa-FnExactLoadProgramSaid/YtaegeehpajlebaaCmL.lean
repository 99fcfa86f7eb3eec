/-
  Lists of code: written, marked, and looked at again.
  Conditions: none.
-/
import Derived.Test.YtaegeehpajlebaaCmP
import Derived.Test.YtaegeehpajlebaaInsM
open Go Go.AM Go.Proofs
namespace Go.Proofs.Ytaegeehpajlebaa
open Go.ChangeShapes Go.WideShapes Go.ChangeAt Go.RowKit
set_option linter.unusedVariables false
set_option linter.unusedSimpArgs false
set_option maxRecDepth 100000
-- 37 loop.example/prologserver/laws.eqInstrSS params 2 ntmps 27
-- loop head live: [0, 1, 5]
def ac37 : Cd := .seq (.region [⟨(some 4), .mv (.k (.c (.d (.bool false)))), none⟩] [4])
  (.seq (.seq (.region [⟨(some 6), .mv (.t 0), none⟩,
        ⟨(some 7), .len 1 (.t 6), none⟩,
        ⟨(some 8), .mv (.t 1), none⟩,
        ⟨(some 9), .len 1 (.t 8), none⟩,
        ⟨(some 10), .bin .neq (.t 7) (.t 9), none⟩] [6, 7, 8, 9])
    (.cond (.t 10)
      (.seq (.region [⟨(some 4), .mv (.k (.c (.d (.bool false)))), none⟩] [0, 1, 10])
      (.ret))
      (.skip)))
  (.seq (.seq (.region [⟨(some 5), .mv (.k (.c (.d (.int .i64 0)))), none⟩] [4, 10])
    (.block 0 (.loop (.seq (.seq (.region [⟨(some 11), .mv (.t 5), none⟩,
              ⟨(some 12), .mv (.t 0), none⟩,
              ⟨(some 13), .len 1 (.t 12), none⟩,
              ⟨(some 14), .bin .lss (.t 11) (.t 13), none⟩] [11, 12, 13])
          (.cond (.t 14)
            (.skip)
            (.exit 0)))
        (.seq (.block 1 (.seq (.region [⟨(some 17), .mv (.t 0), none⟩,
                ⟨(some 18), .mv (.t 5), none⟩,
                ⟨(some 19), .indexAddr 1 (.t 17) (.t 18), none⟩,
                ⟨(some 21), .mv (.t 1), none⟩,
                ⟨(some 22), .mv (.t 5), none⟩,
                ⟨(some 23), .indexAddr 1 (.t 21) (.t 22), none⟩,
                ⟨(some 20), .load none (.t 19), none⟩,
                ⟨(some 24), .load none (.t 23), none⟩,
                ⟨(some 25), .qcall 22 [(.t 20), (.t 24)], none⟩,
                ⟨(some 26), .un .not (.t 25), none⟩] [14, 17, 18, 19, 20, 21, 22, 23, 24, 25])
            (.cond (.t 26)
              (.seq (.region [⟨(some 4), .mv (.k (.c (.d (.bool false)))), none⟩] [0, 1, 5, 26])
              (.ret))
              (.skip))))
        (.region [⟨(some 15), .mv (.t 5), none⟩,
          ⟨(some 16), .bin .add (.t 15) (.k (.c (.d (.int .i64 1)))), none⟩,
          ⟨(some 5), .mv (.t 16), none⟩] [4, 15, 16, 26]))))))
  (.seq (.region [⟨(some 4), .mv (.k (.c (.d (.bool true)))), none⟩] [])
  (.ret))))
theorem ac37_ok : cFunc Try.prog [1000022] [(0, [4], []), (1, [6, 7, 8, 9], []), (2, [0, 1, 10], []), (3, [4, 10], []), (4, [11, 12, 13], []), (6, [14, 17, 18, 19, 20, 21, 22, 23, 24, 25], [0, 1, 2, 4, 5, 6, 3, 7, 8, 9]), (7, [0, 1, 5, 26], []), (5, [4, 15, 16, 26], []), (8, [], [])] Try.f37 = some (ac37, [.tmp 4], 27) := by kernel_rfl
-- 41 loop.example/prologserver/laws.heldInstrSS params 2 ntmps 21
-- loop head live: [0, 1, 5]
def ac41 : Cd := .seq (.region [⟨(some 4), .mv (.k (.c (.d (.int .i64 0)))), none⟩] [4])
  (.seq (.seq (.region [⟨(some 5), .mv (.k (.c (.d (.int .i64 0)))), none⟩] [])
    (.block 0 (.loop (.seq (.seq (.region [⟨(some 6), .mv (.t 5), none⟩,
              ⟨(some 7), .mv (.t 0), none⟩,
              ⟨(some 8), .len 1 (.t 7), none⟩,
              ⟨(some 9), .bin .lss (.t 6) (.t 8), none⟩] [6, 7, 8])
          (.cond (.t 9)
            (.skip)
            (.exit 0)))
        (.seq (.block 1 (.seq (.region [⟨(some 12), .mv (.t 0), none⟩,
                ⟨(some 13), .mv (.t 5), none⟩,
                ⟨(some 14), .indexAddr 1 (.t 12) (.t 13), none⟩,
                ⟨(some 15), .load none (.t 14), none⟩,
                ⟨(some 16), .mv (.t 1), none⟩,
                ⟨(some 17), .qcall 26 [(.t 15), (.t 16)], none⟩,
                ⟨(some 1), .mv (.t 17), none⟩] [9, 12, 13, 14, 15, 16, 17])
            (.seq (.region [⟨(some 18), .mv (.t 1), none⟩,
                ⟨(some 19), .bin .lss (.t 18) (.k (.c (.d (.int .i64 0)))), none⟩] [18])
            (.cond (.t 19)
              (.seq (.region [⟨(some 4), .mv (.k (.c (.d (.int .i64 (-1))))), none⟩] [0, 1, 5, 19])
              (.ret))
              (.skip)))))
        (.region [⟨(some 10), .mv (.t 5), none⟩,
          ⟨(some 11), .bin .add (.t 10) (.k (.c (.d (.int .i64 1)))), none⟩,
          ⟨(some 5), .mv (.t 11), none⟩] [4, 10, 11, 19]))))))
  (.seq (.region [⟨(some 20), .mv (.t 1), none⟩,
      ⟨(some 4), .mv (.t 20), none⟩] [1, 20])
  (.ret)))
theorem ac41_ok : cFunc Try.prog [1000026] [(0, [4], []), (1, [], []), (2, [6, 7, 8], []), (4, [9, 12, 13, 14, 15, 16, 17], []), (5, [18], []), (6, [0, 1, 5, 19], []), (3, [4, 10, 11, 19], []), (7, [1, 20], [])] Try.f41 = some (ac41, [.tmp 4], 21) := by kernel_rfl
-- 40 loop.example/prologserver/laws.markInstrSS params 2 ntmps 19
-- loop head live: [0, 1, 5]
def ac40 : Cd := .seq (.region [⟨(some 4), .mv (.k (.c (.d (.int .i64 0)))), none⟩] [4])
  (.seq (.seq (.region [⟨(some 5), .mv (.k (.c (.d (.int .i64 0)))), none⟩] [])
    (.block 0 (.loop (.seq (.seq (.region [⟨(some 6), .mv (.t 5), none⟩,
              ⟨(some 7), .mv (.t 0), none⟩,
              ⟨(some 8), .len 1 (.t 7), none⟩,
              ⟨(some 9), .bin .lss (.t 6) (.t 8), none⟩] [6, 7, 8])
          (.cond (.t 9)
            (.skip)
            (.exit 0)))
        (.seq (.block 1 (.region [⟨(some 12), .mv (.t 0), none⟩,
              ⟨(some 13), .mv (.t 5), none⟩,
              ⟨(some 14), .indexAddr 1 (.t 12) (.t 13), none⟩,
              ⟨(some 15), .load none (.t 14), none⟩,
              ⟨(some 16), .mv (.t 1), none⟩,
              ⟨(some 17), .call false 25 [(.t 15), (.t 16)], none⟩,
              ⟨(some 1), .mv (.t 17), none⟩] [9, 12, 13, 14, 15, 16, 17]))
        (.region [⟨(some 10), .mv (.t 5), none⟩,
          ⟨(some 11), .bin .add (.t 10) (.k (.c (.d (.int .i64 1)))), none⟩,
          ⟨(some 5), .mv (.t 11), none⟩] [10, 11]))))))
  (.seq (.region [⟨(some 18), .mv (.t 1), none⟩,
      ⟨(some 4), .mv (.t 18), none⟩] [1, 18])
  (.ret)))
theorem ac40_ok : cFunc Try.prog [] [(0, [4], []), (1, [], []), (2, [6, 7, 8], []), (4, [9, 12, 13, 14, 15, 16, 17], []), (3, [10, 11], []), (5, [1, 18], [])] Try.f40 = some (ac40, [.tmp 4], 19) := by kernel_rfl
-- 69 loop.example/prologserver/spec.l9Load params 1 ntmps 21
-- loop head live: [0, 3, 4]
def ac69 : Cd := .seq (.region [⟨(some 2), .mv (.k (.c (.full []))), none⟩] [2])
  (.seq (.region [⟨(some 5), .buildSlice 1 0 [(.sl [])] [], none⟩,
      ⟨(some 3), .mv (.t 5), none⟩] [5])
  (.seq (.seq (.region [⟨(some 4), .mv (.k (.c (.d (.int .i64 0)))), none⟩] [])
    (.block 0 (.loop (.seq (.seq (.region [⟨(some 6), .mv (.t 4), none⟩,
              ⟨(some 7), .mv (.t 0), none⟩,
              ⟨(some 8), .len 1 (.t 7), none⟩,
              ⟨(some 9), .bin .lss (.t 6) (.t 8), none⟩] [6, 7, 8])
          (.cond (.t 9)
            (.skip)
            (.exit 0)))
        (.seq (.block 1 (.region [⟨(some 12), .mv (.t 3), none⟩,
              ⟨(some 13), .mv (.t 0), none⟩,
              ⟨(some 14), .mv (.t 4), none⟩,
              ⟨(some 15), .indexAddr 5 (.t 13) (.t 14), none⟩,
              ⟨(some 16), .load (some 5) (.t 15), none⟩,
              ⟨(some 17), .qcall 65 [(.t 16)], none⟩,
              ⟨(some 18), .buildSlice 1 1 [(.sl [])] [(0, (.t 17))], none⟩,
              ⟨(some 19), .append false 1 (.t 12) (.t 18), none⟩,
              ⟨(some 3), .mv (.t 19), none⟩] [9, 12, 13, 14, 15, 16, 17, 18, 19]))
        (.region [⟨(some 10), .mv (.t 4), none⟩,
          ⟨(some 11), .bin .add (.t 10) (.k (.c (.d (.int .i64 1)))), none⟩,
          ⟨(some 4), .mv (.t 11), none⟩] [10, 11]))))))
  (.seq (.region [⟨(some 20), .mv (.t 3), none⟩,
      ⟨(some 2), .mv (.t 20), none⟩] [3, 20])
  (.ret))))
theorem ac69_ok : cFunc Try.prog [1000065] [(0, [2], []), (1, [5], []), (2, [], []), (3, [6, 7, 8], []), (5, [9, 12, 13, 14, 15, 16, 17, 18, 19], []), (4, [10, 11], []), (6, [3, 20], [])] Try.f69 = some (ac69, [.tmp 2], 21) := by kernel_rfl
-- 34 loop.example/prologserver/spec.LoadProgram params 1 ntmps 10
def ac34 : Cd := .seq (.region [⟨(some 2), .mv (.k (.c (.full []))), none⟩,
      ⟨(some 3), .mv (.k (.c (.d (.bool false)))), none⟩] [2, 3])
  (.seq (.seq (.region [⟨(some 4), .mv (.t 0), none⟩,
        ⟨(some 5), .qcall 68 [(.t 4)], none⟩,
        ⟨(some 6), .un .not (.t 5), none⟩] [4, 5])
    (.cond (.t 6)
      (.seq (.region [⟨(some 7), .buildSlice 1 0 [(.sl [])] [], none⟩,
          ⟨(some 2), .mv (.t 7), none⟩,
          ⟨(some 3), .mv (.k (.c (.d (.bool false)))), none⟩] [0, 6, 7])
      (.ret))
      (.skip)))
  (.seq (.region [⟨(some 8), .mv (.t 0), none⟩,
      ⟨(some 9), .qcall 69 [(.t 8)], none⟩,
      ⟨(some 2), .mv (.t 9), none⟩,
      ⟨(some 3), .mv (.k (.c (.d (.bool true)))), none⟩] [0, 6, 8, 9])
  (.ret)))
theorem ac34_ok : cFunc Try.prog [1000068, 1000069] [(0, [2, 3], []), (1, [4, 5], []), (2, [0, 6, 7], []), (3, [0, 6, 8, 9], [])] Try.f34 = some (ac34, [.tmp 2, .tmp 3], 10) := by kernel_rfl
-- 36 loop.example/prologserver/impl.LoadProgram params 1 ntmps 23
-- loop head live: [4, 10, 11, 12]
def ac36 : Cd := .seq (.region [⟨(some 2), .mv (.k (.c (.full []))), none⟩,
      ⟨(some 3), .mv (.k (.c (.d (.bool false)))), none⟩] [2, 3])
  (.seq (.seq (.region [⟨(some 7), .mv (.t 0), none⟩,
        ⟨(some 8), .qcall 70 [(.t 7)], none⟩,
        ⟨(some 9), .un .not (.t 8), none⟩] [7, 8])
    (.cond (.t 9)
      (.seq (.region [⟨(some 2), .mv (.k (.c (.full []))), none⟩,
          ⟨(some 3), .mv (.k (.c (.d (.bool false)))), none⟩] [0, 9])
      (.ret))
      (.skip)))
  (.seq (.region [⟨(some 4), .mv (.k (.c (.full []))), none⟩] [2, 3, 9])
  (.seq (.seq (.region [⟨(some 10), .mv (.t 0), none⟩,
        ⟨(some 11), .len 1 (.t 10), none⟩,
        ⟨(some 12), .mv (.k (.c (.d (.int .i64 0)))), none⟩] [0])
    (.block 0 (.loop (.seq (.region [⟨(some 13), .bin .lss (.t 12) (.t 11), none⟩] [])
        (.seq (.cond (.t 13)
            (.skip)
            (.exit 0))
        (.seq (.block 1 (.seq (.region [⟨(some 14), .indexAddr 5 (.t 10) (.t 12), none⟩,
                ⟨(some 15), .load (some 5) (.t 14), none⟩,
                ⟨(some 6), .alloc [(.d (.int .i64 0)), (.d (.int .i64 0)), (.d (.str [])), (.full []), (.full [])], none⟩,
                ⟨none, .store 5 (.t 6) (.t 15), none⟩] [13, 14, 15])
            (.region [⟨(some 16), .mv (.t 4), none⟩,
              ⟨(some 17), .load (some 5) (.t 6), none⟩,
              ⟨(some 18), .call false 67 [(.t 17)], none⟩,
              ⟨(some 19), .buildSlice 1 1 [(.sl [])] [(0, (.t 18))], none⟩,
              ⟨(some 20), .append false 1 (.t 16) (.t 19), none⟩,
              ⟨(some 4), .mv (.t 20), none⟩] [6, 16, 17, 18, 19, 20])))
        (.region [⟨(some 21), .bin .add (.t 12) (.k (.c (.d (.int .i64 1)))), none⟩,
          ⟨(some 12), .mv (.t 21), none⟩] [21])))))))
  (.seq (.region [⟨(some 22), .mv (.t 4), none⟩,
      ⟨(some 2), .mv (.t 22), none⟩,
      ⟨(some 3), .mv (.k (.c (.d (.bool true)))), none⟩] [4, 22])
  (.ret)))))
theorem ac36_ok : cFunc Try.prog [1000070] [(0, [2, 3], []), (1, [7, 8], []), (2, [0, 9], []), (3, [2, 3, 9], []), (4, [0], []), (5, [], []), (6, [13, 14, 15], []), (7, [6, 16, 17, 18, 19, 20], []), (8, [21], []), (9, [4, 22], [])] Try.f36 = some (ac36, [.tmp 2, .tmp 3], 23) := by kernel_rfl
/-- rows of one slice each -/
def sls (ds : List (List (List D))) : List (List D) := ds.map fun d => [.sl d]
def vls (vs : List Value) : List (List D) := vs.map fun v => [.v v]
def kts (ds : List (List (List D))) (vs : List Value) : Heap := List.zipWith (fun d v => Ob.tree v d) ds vs
theorem sls_len (ds : List (List (List D))) : (sls ds).length = ds.length := by simp [sls]
theorem sls_all (ds : List (List (List D))) : allLen 1 (sls ds) := allLen_map fun _ => rfl
theorem vls_all (vs : List Value) : allLen 1 (vls vs) := allLen_map fun _ => rfl
theorem sls_lens (ds : List (List (List D))) : (sls ds).map List.length = List.replicate ds.length 1 := by rw [List.eq_replicate_iff]; simp [sls]
theorem vls_lens (vs : List Value) : (vls vs).map List.length = List.replicate vs.length 1 := by rw [List.eq_replicate_iff]; simp [vls]
theorem set_end2 (X : Heap) (a b : Ob) : (X ++ [a]).set X.length b = X ++ [b] := by rw [List.set_append_right _ _ (Nat.le_refl _)]; simp
theorem sls_get {ds : List (List (List D))} {i : Nat} (h : i < ds.length) : (sls ds)[i]? = some [.sl ds[i]] := by simp [sls, h]
theorem strip_sls : ∀ (ds : List (List (List D))) (vs : List Value), vs.length = ds.length → Strip (sls ds).flatten (vls vs).flatten (kts ds vs)
  | [], [], _ => ⟨rfl, rfl⟩
  | [], _ :: _, h => by simp at h
  | _ :: _, [], h => by simp at h
  | d :: ds, v :: vs, h => ⟨v, _, _, rfl, rfl, strip_sls ds vs (by simpa using h)⟩
theorem unstrip_sls : ∀ (ds : List (List (List D))) (c : List D) (t : Heap), Strip (sls ds).flatten c t → ∃ vs : List Value, vs.length = ds.length ∧ c = (vls vs).flatten ∧ t = kts ds vs
  | [], c, t, ⟨h1, h2⟩ => ⟨[], rfl, h1, h2⟩
  | d :: ds, c, t, h => by
    obtain ⟨v, c', t', rfl, rfl, h2⟩ := h
    obtain ⟨vs, h3, rfl, rfl⟩ := unstrip_sls ds c' t' h2
    exact ⟨v :: vs, by simp [h3], rfl, rfl⟩
theorem kts_trees (ds : List (List (List D))) (vs : List Value) : (kts ds vs).all Ob.isTreeB = true := by
  rw [List.all_eq_true]
  intro o ho
  simp only [kts] at ho
  obtain ⟨i, hi⟩ := List.mem_iff_getElem?.1 ho
  rw [List.getElem?_zipWith] at hi
  split at hi
  · cases hi; rfl
  · cases hi
theorem kts_len {ds : List (List (List D))} {vs : List Value} (h : vs.length = ds.length) : (kts ds vs).length = ds.length := by simp [kts, h]
theorem kts_get {ds : List (List (List D))} {vs : List Value} (h : vs.length = ds.length) {i : Nat} (hi : i < ds.length) : (kts ds vs)[i]? = some (.tree (vs[i]'(by omega)) ds[i]) := by
  simp [kts, List.getElem?_zipWith, hi, h]
theorem kts_set {ds : List (List (List D))} {vs : List Value} (h : vs.length = ds.length) {i : Nat} (hi : i < ds.length) (d : List (List D)) : (kts ds vs).set i (.tree (vs[i]'(by omega)) d) = kts (ds.set i d) vs := by
  refine List.ext_getElem? fun j => ?_
  by_cases hj : j < ds.length
  · rw [kts_get (by simpa using h) (by simpa using hj), List.getElem?_set]
    by_cases he : i = j
    · subst he
      simp [kts_len h, hi]
    · rw [if_neg he, kts_get h hj]
      simp [he]
  · rw [List.getElem?_eq_none (by rw [List.length_set, kts_len h]; omega), List.getElem?_eq_none (by rw [kts_len (by simpa using h)]; simp; omega)]
/-- code of clauses, one after the other -/
def insR2 (us : List (List Ins)) : List (List (List D)) := us.map fun u => u.map Ins.row
theorem insR2_len (us : List (List Ins)) : (insR2 us).length = us.length := by simp [insR2]
theorem eqInstrSS_calls (us : List (List Ins)) (hl : us.length ≤ 1000000) (hu : ∀ u ∈ us, u.length ≤ 1000000) (H : Heap) : ACalls Try.prog 37 [.c (.d (.sl (sls (insR2 us)))), .c (.d (.sl (sls (insR2 us))))] H (fun r H' => H' = H ∧ r = .c (.d (.bool true))) := by
  refine acalls Try.func37 (by kernel_rfl) ac37_ok fun hf => ?_
  have hli : inR .i64 (us.length : Int) := small_i64 (by omega) (by omega)
  simp -implicitDefEqProofs [ac37, hli, sls_len, insR2_len, kw, ew, sw, tw, a_, b_, c_, -List.set_cons_succ, -List.set_cons_zero, A.ok, A.val, d_, e_, f_, g_, h_, i_, j_, k_, l_, m_, unA, unD, n_, AOp.total, o_, p_, q_, r_, s_, t_, u_, v_, A.thaw, C.thaw, A.fits, As.fits, C.fits, evs, oks, w_, A.pure, C.pure, A.re, C.re, x_, y_, cut, A.cells, C.rows?, z_, A_, B_, C_, D_, Ob.re, Cs.fits, E_, F_, G_, H_, I_, J_, K_, L_, M_, N_, O_, C.toD, P_, Q_, R_, S_, T_, Obs.fits, U_, eqD, V_, W_, X_, Y_, Z_]
  refine loop_set (σ := Nat) (fun i => [(5, .c (.d (.int .i64 i)))]) (fun _ => H) (fun _ => []) (fun i => i ≤ us.length) (fun i => us.length - i) 0 rfl (Nat.zero_le _) ?_
  intro i hi
  simp -implicitDefEqProofs [setAll, hli, sls_len, insR2_len, kw, ew, sw, tw, a_, b_, c_, -List.set_cons_succ, -List.set_cons_zero, A.ok, A.val, d_, e_, f_, g_, h_, i_, j_, k_, l_, m_, unA, unD, n_, AOp.total, o_, p_, q_, r_, s_, t_, u_, v_, A.thaw, C.thaw, A.fits, As.fits, C.fits, evs, oks, w_, A.pure, C.pure, A.re, C.re, x_, y_, cut, A.cells, C.rows?, z_, A_, B_, C_, D_, Ob.re, Cs.fits, E_, F_, G_, H_, I_, J_, K_, L_, M_, N_, O_, C.toD, P_, Q_, R_, S_, T_, Obs.fits, U_, eqD, V_, W_, X_, Y_, Z_]
  intro hlt
  have hadd : inR .i64 ((i : Int) + 1) := small_i64 (by omega) (by omega)
  have hrow : (sls (insR2 us))[i]? = some [.sl (us[i].map Ins.row)] := by simp [sls, insR2, hlt]
  refine row_nat _ hrow rfl ?_
  simp -implicitDefEqProofs [kw, ew, sw, tw, a_, b_, c_, -List.set_cons_succ, -List.set_cons_zero, A.ok, A.val, d_, e_, f_, g_, h_, i_, j_, k_, l_, m_, unA, unD, n_, AOp.total, o_, p_, q_, r_, s_, t_, u_, v_, A.thaw, C.thaw, A.fits, As.fits, C.fits, evs, oks, w_, A.pure, C.pure, A.re, C.re, x_, y_, cut, A.cells, C.rows?, z_, A_, B_, C_, D_, Ob.re, Cs.fits, E_, F_, G_, H_, I_, J_, K_, L_, M_, N_, O_, C.toD, P_, Q_, R_, S_, T_, Obs.fits, U_, eqD, V_, W_, X_, Y_, Z_]
  refine row_nat _ hrow rfl ?_
  simp -implicitDefEqProofs [kw, ew, sw, tw, a_, b_, c_, -List.set_cons_succ, -List.set_cons_zero, A.ok, A.val, d_, e_, f_, g_, h_, i_, j_, k_, l_, m_, unA, unD, n_, AOp.total, o_, p_, q_, r_, s_, t_, u_, v_, A.thaw, C.thaw, A.fits, As.fits, C.fits, evs, oks, w_, A.pure, C.pure, A.re, C.re, x_, y_, cut, A.cells, C.rows?, z_, A_, B_, C_, D_, Ob.re, Cs.fits, E_, F_, G_, H_, I_, J_, K_, L_, M_, N_, O_, C.toD, P_, Q_, R_, S_, T_, Obs.fits, U_, eqD, V_, W_, X_, Y_, Z_]
  refine qcall_pure (eqInstrS_calls us[i] (by have := hu _ (List.getElem_mem hlt); unfold reachBytes; omega)) hf rfl ?_
  simp -implicitDefEqProofs [hadd, kw, ew, sw, tw, a_, b_, c_, -List.set_cons_succ, -List.set_cons_zero, A.ok, A.val, d_, e_, f_, g_, h_, i_, j_, k_, l_, m_, unA, unD, n_, AOp.total, o_, p_, q_, r_, s_, t_, u_, v_, A.thaw, C.thaw, A.fits, As.fits, C.fits, evs, oks, w_, A.pure, C.pure, A.re, C.re, x_, y_, cut, A.cells, C.rows?, z_, A_, B_, C_, D_, Ob.re, Cs.fits, E_, F_, G_, H_, I_, J_, K_, L_, M_, N_, O_, C.toD, P_, Q_, R_, S_, T_, Obs.fits, U_, eqD, V_, W_, X_, Y_, Z_]
  exact loop_back (i + 1) (by simp [setAll]) hlt (by show us.length - (i + 1) < us.length - i; omega)
/-- how much the first of them hold -/
def tot (us : List (List Ins)) : Nat := (us.map List.length).sum
theorem tot_succ (us : List (List Ins)) {i : Nat} (h : i < us.length) : tot (us.take (i + 1)) = tot (us.take i) + us[i].length := by
  rw [List.take_succ_eq_append_getElem h]
  simp only [tot, List.map_append, List.sum_append, List.map_cons, List.map_nil, List.sum_cons, List.sum_nil, Nat.add_zero]
theorem tot_le (us : List (List Ins)) (i : Nat) : tot (us.take i) ≤ tot us := by
  have : tot us = tot (us.take i) + tot (us.drop i) := by
    conv => lhs; rw [← List.take_append_drop i us]
    simp only [tot, List.map_append, List.sum_append]
  omega
/-- .. marked -/
def mSS (k : Int) (us : List (List Ins)) : List (List (List D)) := (List.range us.length).map fun j => mIns (k + 4 * tot (us.take j)) (us.getD j []).length
theorem mSS_len (k : Int) (us : List (List Ins)) : (mSS k us).length = us.length := by simp [mSS]
theorem mSS_get {k : Int} {us : List (List Ins)} {i : Nat} (h : i < us.length) : (mSS k us)[i]? = some (mIns (k + 4 * tot (us.take i)) us[i].length) := by
  simp [mSS, h, List.getD]
theorem heldInstrSS_calls (us : List (List Ins)) (hl : us.length ≤ 1000000) (k : Int) (h0 : 0 ≤ k) (h1 : k + 4 * tot us ≤ 400000000000000) (H : Heap) : ACalls Try.prog 41 [.c (.d (.sl (sls (mSS k us)))), .c (.d (.int .i64 k))] H
    (fun r H' => H' = H ∧ r = .c (.d (.int .i64 (k + 4 * tot us)))) := by
  refine acalls Try.func41 (by kernel_rfl) ac41_ok fun hf => ?_
  have hli : inR .i64 (us.length : Int) := small_i64 (by omega) (by omega)
  simp -implicitDefEqProofs [ac41, hli, sls_len, mSS_len, kw, ew, sw, tw, a_, b_, c_, -List.set_cons_succ, -List.set_cons_zero, A.ok, A.val, d_, e_, f_, g_, h_, i_, j_, k_, l_, m_, unA, unD, n_, AOp.total, o_, p_, q_, r_, s_, t_, u_, v_, A.thaw, C.thaw, A.fits, As.fits, C.fits, evs, oks, w_, A.pure, C.pure, A.re, C.re, x_, y_, cut, A.cells, C.rows?, z_, A_, B_, C_, D_, Ob.re, Cs.fits, E_, F_, G_, H_, I_, J_, K_, L_, M_, N_, O_, C.toD, P_, Q_, R_, S_, T_, Obs.fits, U_, eqD, V_, W_, X_, Y_, Z_]
  refine loop_set (σ := Nat) (fun i => [(5, .c (.d (.int .i64 i))), (1, .c (.d (.int .i64 (k + 4 * tot (us.take i)))))]) (fun i => H) (fun _ => []) (fun i => i ≤ us.length) (fun i => us.length - i) 0 (by simp [setAll, tot]) (Nat.zero_le _) ?_
  intro i hi
  simp -implicitDefEqProofs [setAll, hli, sls_len, mSS_len, kw, ew, sw, tw, a_, b_, c_, -List.set_cons_succ, -List.set_cons_zero, A.ok, A.val, d_, e_, f_, g_, h_, i_, j_, k_, l_, m_, unA, unD, n_, AOp.total, o_, p_, q_, r_, s_, t_, u_, v_, A.thaw, C.thaw, A.fits, As.fits, C.fits, evs, oks, w_, A.pure, C.pure, A.re, C.re, x_, y_, cut, A.cells, C.rows?, z_, A_, B_, C_, D_, Ob.re, Cs.fits, E_, F_, G_, H_, I_, J_, K_, L_, M_, N_, O_, C.toD, P_, Q_, R_, S_, T_, Obs.fits, U_, eqD, V_, W_, X_, Y_, Z_]
  refine ⟨fun hlt => ?_, fun hge => ?_⟩
  · have hadd : inR .i64 ((i : Int) + 1) := small_i64 (by omega) (by omega)
    have hs := tot_succ us hlt
    have hle := tot_le us (i + 1)
    have hrow : (sls (mSS k us))[i]? = some [.sl (mIns (k + 4 * tot (us.take i)) us[i].length)] := by
      rw [sls, List.getElem?_map, mSS_get hlt]; rfl
    have hng : ¬ (k + 4 * (tot (us.take i) : Int) + 4 * (us[i].length : Int) < 0) := by omega
    refine row_nat _ hrow rfl ?_
    simp -implicitDefEqProofs [kw, ew, sw, tw, a_, b_, c_, -List.set_cons_succ, -List.set_cons_zero, A.ok, A.val, d_, e_, f_, g_, h_, i_, j_, k_, l_, m_, unA, unD, n_, AOp.total, o_, p_, q_, r_, s_, t_, u_, v_, A.thaw, C.thaw, A.fits, As.fits, C.fits, evs, oks, w_, A.pure, C.pure, A.re, C.re, x_, y_, cut, A.cells, C.rows?, z_, A_, B_, C_, D_, Ob.re, Cs.fits, E_, F_, G_, H_, I_, J_, K_, L_, M_, N_, O_, C.toD, P_, Q_, R_, S_, T_, Obs.fits, U_, eqD, V_, W_, X_, Y_, Z_]
    refine qcall_pure (heldInstrS_calls us[i].length (k + 4 * tot (us.take i)) (by omega) (by omega)) hf rfl ?_
    simp -implicitDefEqProofs [hng, hadd, kw, ew, sw, tw, a_, b_, c_, -List.set_cons_succ, -List.set_cons_zero, A.ok, A.val, d_, e_, f_, g_, h_, i_, j_, k_, l_, m_, unA, unD, n_, AOp.total, o_, p_, q_, r_, s_, t_, u_, v_, A.thaw, C.thaw, A.fits, As.fits, C.fits, evs, oks, w_, A.pure, C.pure, A.re, C.re, x_, y_, cut, A.cells, C.rows?, z_, A_, B_, C_, D_, Ob.re, Cs.fits, E_, F_, G_, H_, I_, J_, K_, L_, M_, N_, O_, C.toD, P_, Q_, R_, S_, T_, Obs.fits, U_, eqD, V_, W_, X_, Y_, Z_]
    exact loop_back (i + 1) (by simp [setAll, hs]; omega) hlt (by show us.length - (i + 1) < us.length - i; omega)
  · obtain rfl : i = us.length := by omega
    simp
theorem markInstrSS_calls (us : List (List Ins)) (hl : us.length ≤ 1000000) (k : Int) (h0 : 0 ≤ k) (h1 : k + 4 * tot us ≤ 400000000000000) (kv : Value) : ACalls Try.prog 40 [.c (.d (.v kv)), .c (.d (.int .i64 k))] [.tree kv (sls (insR2 us))]
    (fun r H' => H' = [.tree kv (sls (mSS k us))] ∧ r = .c (.d (.int .i64 (k + 4 * tot us)))) := by
  refine (acalls_tree (f := 40) (pre := []) (post := [.c (.d (.int .i64 k))]) (rows := sls (insR2 us)) (Q := fun r rows' => r = .c (.d (.int .i64 (k + 4 * tot us))) ∧ rows' = sls (mSS k us)) 1 (sls_all _) rfl rfl (fun he => ?_) (fun hne srows trees hst hlens => ?_) kv).mono fun r H' ⟨rows', h1, _, h2, h3⟩ => ⟨by rw [h1, h3], h2⟩
  · obtain rfl : us = [] := by simpa [sls, insR2] using he
    have hk0 : inR .i64 k := small_i64 (by simp [tot] at h1; omega) (by simp [tot] at h1; omega)
    have hz0 : inR .i64 0 := small_i64 (by omega) (by omega)
    refine acalls Try.func40 (by kernel_rfl) ac40_ok fun hf => ?_
    simp -implicitDefEqProofs [ac40, kw, ew, sw, tw, a_, b_, c_, -List.set_cons_succ, -List.set_cons_zero, A.ok, A.val, d_, e_, f_, g_, h_, i_, j_, k_, l_, m_, unA, unD, n_, AOp.total, o_, p_, q_, r_, s_, t_, u_, v_, A.thaw, C.thaw, A.fits, As.fits, C.fits, evs, oks, w_, A.pure, C.pure, A.re, C.re, x_, y_, cut, A.cells, C.rows?, z_, A_, B_, C_, D_, Ob.re, Cs.fits, E_, F_, G_, H_, I_, J_, K_, L_, M_, N_, O_, C.toD, P_, Q_, R_, S_, T_, Obs.fits, U_, eqD, V_, W_, X_, Y_, Z_]
    refine loop_set (σ := Unit) (fun _ => [(5, .c (.d (.int .i64 0)))]) (fun _ => []) (fun _ => []) (fun _ => True) (fun _ => 0) () rfl trivial ?_
    intro _ _
    simp -implicitDefEqProofs [setAll, hz0, mSS, sls, tot, A.portT, A.portB, C.portB, D.leaf, kw, ew, sw, tw, a_, b_, c_, -List.set_cons_succ, -List.set_cons_zero, A.ok, A.val, d_, e_, f_, g_, h_, i_, j_, k_, l_, m_, unA, unD, n_, AOp.total, o_, p_, q_, r_, s_, t_, u_, v_, A.thaw, C.thaw, A.fits, As.fits, C.fits, evs, oks, w_, A.pure, C.pure, A.re, C.re, x_, y_, cut, A.cells, C.rows?, z_, A_, B_, C_, D_, Ob.re, Cs.fits, E_, F_, G_, H_, I_, J_, K_, L_, M_, N_, O_, C.toD, P_, Q_, R_, S_, T_, Obs.fits, U_, eqD, V_, W_, X_, Y_, Z_]
  · obtain ⟨vs, hv, hc, rfl⟩ := unstrip_sls _ _ _ hst
    rw [insR2_len] at hv
    obtain rfl := flatten_uniq hc (by rw [hlens, sls_lens, vls_lens, insR2_len, hv])
    obtain ⟨fm, hfm⟩ : ∃ fm : Nat → List (List D), ∀ j, fm j = (mSS k us).getD j [] := ⟨_, fun _ => rfl⟩
    have hli : inR .i64 (us.length : Int) := small_i64 (by omega) (by omega)
    refine acalls Try.func40 (by kernel_rfl) ac40_ok fun hf => ?_
    simp -implicitDefEqProofs [ac40, hli, sls_len, insR2_len, kw, ew, sw, tw, a_, b_, c_, -List.set_cons_succ, -List.set_cons_zero, A.ok, A.val, d_, e_, f_, g_, h_, i_, j_, k_, l_, m_, unA, unD, n_, AOp.total, o_, p_, q_, r_, s_, t_, u_, v_, A.thaw, C.thaw, A.fits, As.fits, C.fits, evs, oks, w_, A.pure, C.pure, A.re, C.re, x_, y_, cut, A.cells, C.rows?, z_, A_, B_, C_, D_, Ob.re, Cs.fits, E_, F_, G_, H_, I_, J_, K_, L_, M_, N_, O_, C.toD, P_, Q_, R_, S_, T_, Obs.fits, U_, eqD, V_, W_, X_, Y_, Z_]
    refine loop_set (σ := Nat) (fun i => [(5, .c (.d (.int .i64 i))), (1, .c (.d (.int .i64 (k + 4 * tot (us.take i)))))]) (fun i => .rows (vls vs) :: kts (mixed fm (insR2 us) i) vs) (fun _ => []) (fun i => i ≤ us.length) (fun i => us.length - i) 0 (by simp [setAll, mixed_zero, tot]) (Nat.zero_le _) ?_
    intro i hi
    have hml := mixed_len fm (insR2 us) (i := i) (by rw [insR2_len]; omega)
    rw [insR2_len] at hml
    obtain ⟨X, hX⟩ : ∃ X, X = mixed fm (insR2 us) i := ⟨_, rfl⟩
    rw [← hX] at hml ⊢
    have hXt := kts_trees X vs
    obtain ⟨T, hT⟩ : ∃ T, T = kts X vs := ⟨_, rfl⟩
    rw [← hT] at hXt ⊢
    have hfx : ∀ rs (T' : Heap), T'.all Ob.isTreeB = true → Obs.fits ((Ob.rows rs :: T').length) 0 (Ob.rows rs :: T') := fun rs T' h => ⟨trivial, trees_fits h⟩
    simp -implicitDefEqProofs [setAll, hli, kw, ew, sw, tw, a_, b_, c_, -List.set_cons_succ, -List.set_cons_zero, A.ok, A.val, d_, e_, f_, g_, h_, i_, j_, k_, l_, m_, unA, unD, n_, AOp.total, o_, p_, q_, r_, s_, t_, u_, v_, A.thaw, C.thaw, A.fits, As.fits, C.fits, evs, oks, w_, A.pure, C.pure, A.re, C.re, x_, y_, cut, A.cells, C.rows?, z_, A_, B_, C_, D_, Ob.re, Cs.fits, E_, F_, G_, H_, I_, J_, K_, L_, M_, N_, O_, C.toD, P_, Q_, R_, S_, T_, Obs.fits, U_, eqD, V_, W_, X_, Y_, Z_]
    refine ⟨fun hlt => ⟨hlt, ?_⟩, fun hge => ?_⟩
    · have hadd : inR .i64 ((i : Int) + 1) := small_i64 (by omega) (by omega)
      have hs := tot_succ us hlt
      have hle := tot_le us (i + 1)
      have hlt2 : i < (insR2 us).length := by rw [insR2_len]; exact hlt
      have hXi : X[i]? = some (us[i].map Ins.row) := by rw [hX, mixed_get _ _ hlt2]; simp [insR2]
      have hXi' : X[i]'(by omega) = us[i].map Ins.row := by
        have := List.getElem?_eq_getElem (l := X) (i := i) (by omega)
        rw [hXi] at this
        exact (Option.some.inj this).symm
      have hTi : T[i]? = some (.tree (vs[i]'(by omega)) (us[i].map Ins.row)) := by rw [hT, kts_get (by omega) (by omega), hXi']
      have hvr : (vls vs)[i]? = some [.v (vs[i]'(by omega))] := by simp [vls, hv, hlt]
      have hset := kts_set (ds := X) (vs := vs) (by omega) (i := i) (by omega) (mIns (k + 4 * tot (us.take i)) us[i].length)
      have hmix : X.set i (mIns (k + 4 * tot (us.take i)) us[i].length) = mixed fm (insR2 us) (i + 1) := by
        rw [hX]
        refine mixed_setx _ _ hlt2 _ ?_
        rw [hfm, List.getD, mSS_get hlt, Option.getD_some]
      rw [← hT, hmix] at hset
      simp -implicitDefEqProofs [hvr, kw, ew, sw, tw, a_, b_, c_, -List.set_cons_succ, -List.set_cons_zero, A.ok, A.val, d_, e_, f_, g_, h_, i_, j_, k_, l_, m_, unA, unD, n_, AOp.total, o_, p_, q_, r_, s_, t_, u_, v_, A.thaw, C.thaw, A.fits, As.fits, C.fits, evs, oks, w_, A.pure, C.pure, A.re, C.re, x_, y_, cut, A.cells, C.rows?, z_, A_, B_, C_, D_, Ob.re, Cs.fits, E_, F_, G_, H_, I_, J_, K_, L_, M_, N_, O_, C.toD, P_, Q_, R_, S_, T_, Obs.fits, U_, eqD, V_, W_, X_, Y_, Z_]
      refine call_ext (J := [i + 1]) (markInstrS_calls us[i] (k + 4 * tot (us.take i)) (by omega) (by omega) (vs[i]'(by omega))) (fun r H' ⟨h1, h2⟩ => by subst h1; subst h2; exact ⟨⟨rfl, rfl⟩, rfl⟩) (by simp) (.cons (.c .d) (.cons (.c .d) .nil)) (by simp) (by simp [hTi]) rfl (hfx _ _ hXt) ?_
      rintro _ _ ⟨rfl, rfl⟩
      simp -implicitDefEqProofs [putAll, hadd, kw, ew, sw, tw, a_, b_, c_, -List.set_cons_succ, -List.set_cons_zero, A.ok, A.val, d_, e_, f_, g_, h_, i_, j_, k_, l_, m_, unA, unD, n_, AOp.total, o_, p_, q_, r_, s_, t_, u_, v_, A.thaw, C.thaw, A.fits, As.fits, C.fits, evs, oks, w_, A.pure, C.pure, A.re, C.re, x_, y_, cut, A.cells, C.rows?, z_, A_, B_, C_, D_, Ob.re, Cs.fits, E_, F_, G_, H_, I_, J_, K_, L_, M_, N_, O_, C.toD, P_, Q_, R_, S_, T_, Obs.fits, U_, eqD, V_, W_, X_, Y_, Z_]
      refine loop_back (i + 1) ?_ hlt (by show us.length - (i + 1) < us.length - i; omega)
      have hca : (Ob.rows (vls vs) :: T).set (i + 1) (.tree (vs[i]'(by omega)) (mIns (k + 4 * tot (us.take i)) us[i].length)) = .rows (vls vs) :: T.set i (.tree (vs[i]'(by omega)) (mIns (k + 4 * tot (us.take i)) us[i].length)) := rfl
      rw [hca, hset]
      simp [setAll, hs]
      omega
    · obtain rfl : i = us.length := by omega
      have e1 : X = mSS k us := by
        have := mixed_all fm (insR2 us)
        rw [insR2_len] at this
        rw [hX, this]
        refine List.ext_getElem? fun j => ?_
        by_cases hj : j < us.length
        · simp [hj, hfm, mSS_get hj, List.getD]
        · rw [List.getElem?_eq_none (by simp; omega), List.getElem?_eq_none (by rw [mSS_len]; omega)]
      rw [hT, e1]
      refine ⟨_, _, _, strip_sls (mSS k us) vs (by rw [mSS_len, hv]), by simp [sls_len, mSS_len, insR2_len], sls_all _, by rw [vls_lens, sls_lens, mSS_len, hv], ?_, ⟨rfl, rfl⟩, rfl, by rw [List.take_length], rfl⟩
      rw [kts_len (by rw [mSS_len, hv]), kts_len (by rw [insR2_len, hv]), mSS_len, insR2_len]
/-- dead objects and trees -/
def dt (l : Heap) : Heap := (l.map fun t => [Ob.dead, t]).flatten
theorem dt_snoc (l : Heap) (t : Ob) : dt (l ++ [t]) = dt l ++ [.dead, t] := by simp [dt]
theorem dt_len (l : Heap) : (dt l).length = 2 * l.length := by
  induction l with
  | nil => rfl
  | cons a l ih => simp only [dt] at ih ⊢; simp only [List.map_cons, List.flatten_cons, List.length_append, List.length_cons, List.length_nil, ih]; omega
theorem dt_get : ∀ (l : Heap) (m : Nat), (dt l)[2 * m + 1]? = l[m]?
  | [], m => by simp [dt]
  | a :: l, 0 => by simp [dt]
  | a :: l, m + 1 => by
    have := dt_get l m
    simp only [dt] at this ⊢
    simp only [List.map_cons, List.flatten_cons, show 2 * (m + 1) + 1 = (2 * m + 1) + 1 + 1 by omega, List.cons_append, List.nil_append, List.getElem?_cons_succ, this]
theorem dt_re {l : Heap} (h : l.all Ob.isTreeB = true) (n : Nat) : (dt l).map (Ob.re n) = dt l := by
  induction l with
  | nil => rfl
  | cons a l ih =>
    simp only [List.all_cons, Bool.and_eq_true] at h
    have := ih h.2
    have ha : Ob.re n a = a := by
      have := trees_re (l := [a]) (by simp only [List.all_cons, List.all_nil, h.1, Bool.and_true]) n
      simpa using this
    simp only [dt] at this ⊢
    simp only [List.map_cons, List.flatten_cons, List.map_append, this, ha, List.map_nil]
    rfl
theorem kts_snoc {ds : List (List (List D))} {vs : List Value} (v : Value) (h : vs.length < ds.length) : kts ds (vs ++ [v]) = kts ds vs ++ [.tree v ds[vs.length]] := zip_snoc _ ds vs v h
theorem kts_short {ds : List (List (List D))} {vs : List Value} (h : vs.length ≤ ds.length) : (kts ds vs).length = vs.length := by simp [kts]; omega
theorem vls_snoc (vs : List Value) (v : Value) : vls (vs ++ [v]) = vls vs ++ [[.v v]] := by simp [vls]
theorem vls_len (vs : List Value) : (vls vs).length = vs.length := by simp [vls]
/-- the code of a program -/
def loadR (p : List Cl) : List (List (List D)) := if progB p then p.map codeC else []
theorem progB_all {p : List Cl} (h : progB p = true) : p.length ≤ 20 ∧ ∀ c ∈ p, c.validB = true := by simpa [progB] using h
theorem lpOwn_calls (p : List Cl) (hp : FitsC p) : ACalls Try.prog 36 [.c (.d (.sl (p.map Cl.row)))] [] (HandsCode (sls (loadR p)) (progB p)) := by
  have hpl := hp.1
  refine acallsT Try.func36 (by kernel_rfl) ac36_ok ?_
  have hli : inR .i64 (p.length : Int) := small_i64 (by omega) (by omega)
  simp -implicitDefEqProofs [ac36, hli, kw, ew, sw, tw, a_, b_, c_, -List.set_cons_succ, -List.set_cons_zero, A.ok, A.val, d_, e_, f_, g_, h_, i_, j_, k_, l_, m_, unA, unD, n_, AOp.total, o_, p_, q_, r_, s_, t_, u_, v_, A.thaw, C.thaw, A.fits, As.fits, C.fits, evs, oks, w_, A.pure, C.pure, A.re, C.re, x_, y_, cut, A.cells, C.rows?, z_, A_, B_, C_, D_, Ob.re, Cs.fits, E_, F_, G_, H_, I_, J_, K_, L_, M_, N_, O_, C.toD, P_, Q_, R_, S_, T_, Obs.fits, U_, eqD, V_, W_, X_, Y_, Z_]
  refine qcall_pure (pvImpl_calls p hp) trivial rfl ?_
  cases hv : progB p with
  | false =>
    have : loadR p = [] := by rw [loadR, hv]; rfl
    rw [this]
    simp -implicitDefEqProofs [kw, ew, sw, tw, a_, b_, c_, -List.set_cons_succ, -List.set_cons_zero, A.ok, A.val, d_, e_, f_, g_, h_, i_, j_, k_, l_, m_, unA, unD, n_, AOp.total, o_, p_, q_, r_, s_, t_, u_, v_, A.thaw, C.thaw, A.fits, As.fits, C.fits, evs, oks, w_, A.pure, C.pure, A.re, C.re, x_, y_, cut, A.cells, C.rows?, z_, A_, B_, C_, D_, Ob.re, Cs.fits, E_, F_, G_, H_, I_, J_, K_, L_, M_, N_, O_, C.toD, P_, Q_, R_, S_, T_, Obs.fits, U_, eqD, V_, W_, X_, Y_, Z_]
    exact finT_ret _ ⟨trivial, trivial, trivial⟩ rfl fun kv => ⟨_, _, _, .tup (.cons (.c .full) (.cons (.c (.leaf rfl)) .nil)), by simp, _, rfl, rfl⟩
  | true =>
    obtain ⟨hpl2, hcv⟩ := progB_all hv
    have hR : loadR p = p.map codeC := by rw [loadR, hv]; rfl
    rw [hR]
    obtain ⟨ds, hds⟩ : ∃ ds, ds = p.map codeC := ⟨_, rfl⟩
    have hdl : ds.length = p.length := by simp [hds]
    rw [← hds]
    simp -implicitDefEqProofs [hli, kw, ew, sw, tw, a_, b_, c_, -List.set_cons_succ, -List.set_cons_zero, A.ok, A.val, d_, e_, f_, g_, h_, i_, j_, k_, l_, m_, unA, unD, n_, AOp.total, o_, p_, q_, r_, s_, t_, u_, v_, A.thaw, C.thaw, A.fits, As.fits, C.fits, evs, oks, w_, A.pure, C.pure, A.re, C.re, x_, y_, cut, A.cells, C.rows?, z_, A_, B_, C_, D_, Ob.re, Cs.fits, E_, F_, G_, H_, I_, J_, K_, L_, M_, N_, O_, C.toD, P_, Q_, R_, S_, T_, Obs.fits, U_, eqD, V_, W_, X_, Y_, Z_]
    refine loop_enter (St.le_token 4 1 rfl) ?_
    refine loop_set (σ := List Value) (fun vs => [(12, .c (.d (.int .i64 vs.length))), (4, .c (.own (.l 0) vs.length (vls vs)))]) (fun _ => []) (fun vs => .grow vs.length 1 :: dt (kts ds vs)) (fun vs => vs.length ≤ p.length) (fun vs => p.length - vs.length) [] (by simp [setAll, dt, kts, vls]) (Nat.zero_le _) ?_
    intro vs hi
    have hre := dt_re (kts_trees ds vs)
    simp -implicitDefEqProofs [setAll, hli, kw, ew, sw, tw, a_, b_, c_, -List.set_cons_succ, -List.set_cons_zero, A.ok, A.val, d_, e_, f_, g_, h_, i_, j_, k_, l_, m_, unA, unD, n_, AOp.total, o_, p_, q_, r_, s_, t_, u_, v_, A.thaw, C.thaw, A.fits, As.fits, C.fits, evs, oks, w_, A.pure, C.pure, A.re, C.re, x_, y_, cut, A.cells, C.rows?, z_, A_, B_, C_, D_, Ob.re, Cs.fits, E_, F_, G_, H_, I_, J_, K_, L_, M_, N_, O_, C.toD, P_, Q_, R_, S_, T_, Obs.fits, U_, eqD, V_, W_, X_, Y_, Z_]
    refine ⟨fun hlt => ?_, fun hge => ?_⟩
    · have hadd : inR .i64 ((vs.length : Int) + 1) := small_i64 (by omega) (by omega)
      have hcc := ccOwn_calls (hp.2 _ (List.getElem_mem hlt)) (hcv _ (List.getElem_mem hlt))
      refine row_of hlt (crow_len _) ?_
      simp -implicitDefEqProofs [crow_len, take_crow, pure_d, re_d, hre, List.set_cons_succ, set_end2, kw, ew, sw, tw, a_, b_, c_, -List.set_cons_succ, -List.set_cons_zero, A.ok, A.val, d_, e_, f_, g_, h_, i_, j_, k_, l_, m_, unA, unD, n_, AOp.total, o_, p_, q_, r_, s_, t_, u_, v_, A.thaw, C.thaw, A.fits, As.fits, C.fits, evs, oks, w_, A.pure, C.pure, A.re, C.re, x_, y_, cut, A.cells, C.rows?, z_, A_, B_, C_, D_, Ob.re, Cs.fits, E_, F_, G_, H_, I_, J_, K_, L_, M_, N_, O_, C.toD, P_, Q_, R_, S_, T_, Obs.fits, U_, eqD, V_, W_, X_, Y_, Z_]
      refine call_loc (J := []) hcc (fun r H' h => h.handed) (by simp [hre, Ob.re, re_d]) (.cons (.agg (fzCs_id _)) .nil) List.nodup_nil rfl rfl ?_
      rintro _ _ ⟨v, rfl, rfl⟩ _
      simp -implicitDefEqProofs [putAll, hadd, vls_all, vls_len, kw, ew, sw, tw, a_, b_, c_, -List.set_cons_succ, -List.set_cons_zero, A.ok, A.val, d_, e_, f_, g_, h_, i_, j_, k_, l_, m_, unA, unD, n_, AOp.total, o_, p_, q_, r_, s_, t_, u_, v_, A.thaw, C.thaw, A.fits, As.fits, C.fits, evs, oks, w_, A.pure, C.pure, A.re, C.re, x_, y_, cut, A.cells, C.rows?, z_, A_, B_, C_, D_, Ob.re, Cs.fits, E_, F_, G_, H_, I_, J_, K_, L_, M_, N_, O_, C.toD, P_, Q_, R_, S_, T_, Obs.fits, U_, eqD, V_, W_, X_, Y_, Z_]
      refine ⟨by unfold maxApp; omega, ?_⟩
      have hloc : ∀ (c d g g' t : Ob), ((g :: (dt (kts ds vs) ++ [c])).set ((dt (kts ds vs)).length + 1) d).set 0 g' ++ [t] = g' :: (dt (kts ds vs) ++ [d, t]) := fun c d g g' t => by rw [List.set_cons_succ, set_end2]; simp
      rw [hloc]
      have hdi : ds[vs.length]'(by omega) = codeC p[vs.length] := by simp [hds]
      have hks := kts_snoc v (show vs.length < ds.length by omega)
      rw [hdi] at hks
      refine loop_less (vs ++ [v]) (St.le_more (by simp [setAll, vls_snoc, Sl.le, A.le_refl_iff, A.le_u_iff, As.lo, A.lo, C.lo, Ref.lo, Cs.lo, Obs.lo, Ob.lo, setAll, and_true, true_and, List.length_nil, List.length_cons]) ?_) (by simp; omega) (by show p.length - (vs ++ [v]).length < p.length - vs.length; simp; omega)
      simp only [hks, dt_snoc, List.length_append, List.length_cons, List.length_nil]
      exact ⟨.refl _, Obs.le_append (Obs.le_refl _) ⟨.dead _, .refl _, trivial⟩⟩
    · have hvl : vs.length = p.length := by omega
      have hn : (0 :: (List.range vs.length).map fun m => 2 * m + 2).Nodup := by
        refine List.nodup_cons.2 ⟨by simp, ?_⟩
        exact List.Pairwise.map _ (fun a b (h : a ≠ b) => by simp; omega) List.nodup_range
      refine finT_ret _ ⟨trivial, trivial, trivial⟩ rfl fun kv => ⟨_, _, _, .tup (.cons (.c (.own (js := (List.range vs.length).map fun m => 2 * m + 2) rfl (by simp [vls_len]) (strip_sls ds vs (by omega)) (by rw [sls_lens, vls_lens, hvl, hdl]) (fun m hm => ?_))) (.cons (.c (.leaf rfl)) .nil)), by simpa using hn, _, rfl, rfl⟩
      have hm' : m < vs.length := by rw [kts_short (by omega)] at hm; omega
      exact ⟨2 * m + 2, by simp [hm'], by rw [List.getElem?_cons_succ]; exact dt_get _ m⟩
theorem lSpec_calls (p : List Cl) (hp : FitsC p) (hv : progB p = true) (H : Heap) : ACalls Try.prog 69 [.c (.d (.sl (p.map Cl.row)))] H (fun r H' => H' = H ∧ r = .c (.d (.sl (sls (p.map codeC))))) := by
  obtain ⟨hpl2, hcv⟩ := progB_all hv
  refine acalls Try.func69 (by kernel_rfl) ac69_ok fun hf => ?_
  have hli : inR .i64 (p.length : Int) := small_i64 (by omega) (by omega)
  simp -implicitDefEqProofs [ac69, hli, kw, ew, sw, tw, a_, b_, c_, -List.set_cons_succ, -List.set_cons_zero, A.ok, A.val, d_, e_, f_, g_, h_, i_, j_, k_, l_, m_, unA, unD, n_, AOp.total, o_, p_, q_, r_, s_, t_, u_, v_, A.thaw, C.thaw, A.fits, As.fits, C.fits, evs, oks, w_, A.pure, C.pure, A.re, C.re, x_, y_, cut, A.cells, C.rows?, z_, A_, B_, C_, D_, Ob.re, Cs.fits, E_, F_, G_, H_, I_, J_, K_, L_, M_, N_, O_, C.toD, P_, Q_, R_, S_, T_, Obs.fits, U_, eqD, V_, W_, X_, Y_, Z_]
  refine loop_enter (St.le_token 3 1 rfl) ?_
  refine loop_set (σ := Nat) (fun i => [(4, .c (.d (.int .i64 i))), (3, .c (.own (.l 0) i (sls ((p.map codeC).take i))))]) (fun _ => H) (fun i => [.grow i 1]) (fun i => i ≤ p.length) (fun i => p.length - i) 0 (by simp [setAll, sls]) (Nat.zero_le _) ?_
  intro i hi
  simp -implicitDefEqProofs [setAll, hli, kw, ew, sw, tw, a_, b_, c_, -List.set_cons_succ, -List.set_cons_zero, A.ok, A.val, d_, e_, f_, g_, h_, i_, j_, k_, l_, m_, unA, unD, n_, AOp.total, o_, p_, q_, r_, s_, t_, u_, v_, A.thaw, C.thaw, A.fits, As.fits, C.fits, evs, oks, w_, A.pure, C.pure, A.re, C.re, x_, y_, cut, A.cells, C.rows?, z_, A_, B_, C_, D_, Ob.re, Cs.fits, E_, F_, G_, H_, I_, J_, K_, L_, M_, N_, O_, C.toD, P_, Q_, R_, S_, T_, Obs.fits, U_, eqD, V_, W_, X_, Y_, Z_]
  refine ⟨fun hlt => ?_, fun hge => ?_⟩
  · have hadd : inR .i64 ((i : Int) + 1) := small_i64 (by omega) (by omega)
    refine row_of hlt (crow_len _) ?_
    simp -implicitDefEqProofs [crow_len, take_crow, pure_d, re_d, hf, kw, ew, sw, tw, a_, b_, c_, -List.set_cons_succ, -List.set_cons_zero, A.ok, A.val, d_, e_, f_, g_, h_, i_, j_, k_, l_, m_, unA, unD, n_, AOp.total, o_, p_, q_, r_, s_, t_, u_, v_, A.thaw, C.thaw, A.fits, As.fits, C.fits, evs, oks, w_, A.pure, C.pure, A.re, C.re, x_, y_, cut, A.cells, C.rows?, z_, A_, B_, C_, D_, Ob.re, Cs.fits, E_, F_, G_, H_, I_, J_, K_, L_, M_, N_, O_, C.toD, P_, Q_, R_, S_, T_, Obs.fits, U_, eqD, V_, W_, X_, Y_, Z_]
    refine qcall_pure (l8Clause_calls p[i] (hp.2 _ (List.getElem_mem hlt)) (hcv _ (List.getElem_mem hlt))) hf rfl ?_
    simp -implicitDefEqProofs [hadd, hf, kw, ew, sw, tw, a_, b_, c_, -List.set_cons_succ, -List.set_cons_zero, A.ok, A.val, d_, e_, f_, g_, h_, i_, j_, k_, l_, m_, unA, unD, n_, AOp.total, o_, p_, q_, r_, s_, t_, u_, v_, A.thaw, C.thaw, A.fits, As.fits, C.fits, evs, oks, w_, A.pure, C.pure, A.re, C.re, x_, y_, cut, A.cells, C.rows?, z_, A_, B_, C_, D_, Ob.re, Cs.fits, E_, F_, G_, H_, I_, J_, K_, L_, M_, N_, O_, C.toD, P_, Q_, R_, S_, T_, Obs.fits, U_, eqD, V_, W_, X_, Y_, Z_]
    refine ⟨sls_all _, by rw [sls_len]; simp; unfold maxApp; omega, ?_⟩
    refine loop_less (i + 1) (St.le_cut [] ?_ (by simp [Sl.le, A.le_refl_iff, A.le_u_iff, As.lo, A.lo, C.lo, Ref.lo, Cs.lo, Obs.lo, Ob.lo, setAll, and_true, true_and, List.length_nil, List.length_cons]) (by simp) (by simp [Sl.le, A.le_refl_iff, A.le_u_iff, As.lo, A.lo, C.lo, Ref.lo, Cs.lo, Obs.lo, Ob.lo, setAll, and_true, true_and, List.length_nil, List.length_cons])) hlt (by show p.length - (i + 1) < p.length - i; omega)
    have hts : (p.map codeC).take (i + 1) = (p.map codeC).take i ++ [codeC p[i]] := by rw [List.take_succ_eq_append_getElem (by simpa using hlt)]; simp
    rw [hts]
    simp [setAll, sls, Sl.le, A.le_refl_iff, A.le_u_iff, As.lo, A.lo, C.lo, Ref.lo, Cs.lo, Obs.lo, Ob.lo, setAll, and_true, true_and, List.length_nil, List.length_cons]
  · obtain rfl : i = p.length := by omega
    rw [List.take_of_length_le (by simp)]
theorem lpSpec_calls (p : List Cl) (hp : FitsC p) (H : Heap) : ACalls Try.prog 34 [.c (.d (.sl (p.map Cl.row)))] H (fun r H' => H' = H ∧ r = .tup [.c (.d (.sl (sls (loadR p)))), .c (.d (.bool (progB p)))]) := by
  refine acalls Try.func34 (by kernel_rfl) ac34_ok fun hf => ?_
  simp -implicitDefEqProofs [ac34, kw, ew, sw, tw, a_, b_, c_, -List.set_cons_succ, -List.set_cons_zero, A.ok, A.val, d_, e_, f_, g_, h_, i_, j_, k_, l_, m_, unA, unD, n_, AOp.total, o_, p_, q_, r_, s_, t_, u_, v_, A.thaw, C.thaw, A.fits, As.fits, C.fits, evs, oks, w_, A.pure, C.pure, A.re, C.re, x_, y_, cut, A.cells, C.rows?, z_, A_, B_, C_, D_, Ob.re, Cs.fits, E_, F_, G_, H_, I_, J_, K_, L_, M_, N_, O_, C.toD, P_, Q_, R_, S_, T_, Obs.fits, U_, eqD, V_, W_, X_, Y_, Z_]
  refine qcall_pure (pvSpec_calls p hp) hf rfl ?_
  cases hv : progB p with
  | false =>
    have : loadR p = [] := by rw [loadR, hv]; rfl
    rw [this]
    simp -implicitDefEqProofs [sls, kw, ew, sw, tw, a_, b_, c_, -List.set_cons_succ, -List.set_cons_zero, A.ok, A.val, d_, e_, f_, g_, h_, i_, j_, k_, l_, m_, unA, unD, n_, AOp.total, o_, p_, q_, r_, s_, t_, u_, v_, A.thaw, C.thaw, A.fits, As.fits, C.fits, evs, oks, w_, A.pure, C.pure, A.re, C.re, x_, y_, cut, A.cells, C.rows?, z_, A_, B_, C_, D_, Ob.re, Cs.fits, E_, F_, G_, H_, I_, J_, K_, L_, M_, N_, O_, C.toD, P_, Q_, R_, S_, T_, Obs.fits, U_, eqD, V_, W_, X_, Y_, Z_]
  | true =>
    have hR : loadR p = p.map codeC := by rw [loadR, hv]; rfl
    rw [hR]
    simp -implicitDefEqProofs [kw, ew, sw, tw, a_, b_, c_, -List.set_cons_succ, -List.set_cons_zero, A.ok, A.val, d_, e_, f_, g_, h_, i_, j_, k_, l_, m_, unA, unD, n_, AOp.total, o_, p_, q_, r_, s_, t_, u_, v_, A.thaw, C.thaw, A.fits, As.fits, C.fits, evs, oks, w_, A.pure, C.pure, A.re, C.re, x_, y_, cut, A.cells, C.rows?, z_, A_, B_, C_, D_, Ob.re, Cs.fits, E_, F_, G_, H_, I_, J_, K_, L_, M_, N_, O_, C.toD, P_, Q_, R_, S_, T_, Obs.fits, U_, eqD, V_, W_, X_, Y_, Z_]
    refine qcall_pure (lSpec_calls p hp hv) hf rfl ?_
    simp -implicitDefEqProofs [hf, kw, ew, sw, tw, a_, b_, c_, -List.set_cons_succ, -List.set_cons_zero, A.ok, A.val, d_, e_, f_, g_, h_, i_, j_, k_, l_, m_, unA, unD, n_, AOp.total, o_, p_, q_, r_, s_, t_, u_, v_, A.thaw, C.thaw, A.fits, As.fits, C.fits, evs, oks, w_, A.pure, C.pure, A.re, C.re, x_, y_, cut, A.cells, C.rows?, z_, A_, B_, C_, D_, Ob.re, Cs.fits, E_, F_, G_, H_, I_, J_, K_, L_, M_, N_, O_, C.toD, P_, Q_, R_, S_, T_, Obs.fits, U_, eqD, V_, W_, X_, Y_, Z_]
theorem load_ins (p : List Cl) : ∃ us, loadR p = insR2 us ∧ us.length ≤ 20 ∧ ∀ u ∈ us, u.length ≤ 1000000 := by
  unfold loadR
  cases hv : progB p with
  | false => exact ⟨[], rfl, by simp, by simp⟩
  | true =>
    obtain ⟨hpl2, hcv⟩ := progB_all hv
    have key : ∀ l : List Cl, (∀ c ∈ l, c.validB = true) → ∃ us, l.map codeC = insR2 us ∧ us.length = l.length ∧ ∀ u ∈ us, u.length ≤ 1000000 := by
      intro l
      induction l with
      | nil => intro _; exact ⟨[], rfl, rfl, by simp⟩
      | cons c l ih =>
        intro h
        obtain ⟨us, e1, e2, e3⟩ := ih fun c hc => h c (by simp [hc])
        obtain ⟨u, f1, f2⟩ := codeC_ins c
        rw [h c (by simp)] at f1
        simp at f1
        exact ⟨u :: us, by simp [insR2, f1] at e1 ⊢; exact e1, by simp [e2], fun w hw => by
          rcases List.mem_cons.1 hw with rfl | hw
          · exact f2
          · exact e3 w hw⟩
    obtain ⟨us, e1, e2, e3⟩ := key p hcv
    exact ⟨us, e1, by omega, e3⟩
end Go.Proofs.Ytaegeehpajlebaa
