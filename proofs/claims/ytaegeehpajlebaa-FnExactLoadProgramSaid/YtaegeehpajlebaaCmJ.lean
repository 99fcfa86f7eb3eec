/-
  Bodies as the program makes them.
  Conditions: none.
-/
import Derived.Test.YtaegeehpajlebaaCmH
open Go Go.AM Go.Proofs
namespace Go.Proofs.Ytaegeehpajlebaa
open Go.ChangeShapes Go.WideShapes Go.ChangeAt Go.RowKit
set_option linter.unusedVariables false
set_option linter.unusedSimpArgs false
set_option maxRecDepth 100000
-- 103 (*loop.example/prologserver/impl.coding).build params 2 ntmps 67
-- loop head live: [0, 3, 5, 16, 17, 18]
-- loop head live: [0, 5, 8, 45, 46, 47]
def ac103 : Cd := .seq (.region [⟨(some 3), .box (.t 1), none⟩,
      ⟨(some 4), .mv (.k (.c (.d (.int .i64 0)))), none⟩] [1, 4])
  (.seq (.region [⟨(some 11), .fieldAddr 3 (.t 3), none⟩,
      ⟨(some 12), .load none (.t 11), none⟩,
      ⟨(some 13), .len 1 (.t 12), none⟩,
      ⟨(some 14), .mkSlice [(.int .i64 0)] (.t 13), none⟩,
      ⟨(some 5), .mv (.t 14), none⟩] [11, 12, 13, 14])
  (.seq (.seq (.region [⟨(some 15), .fieldAddr 3 (.t 3), none⟩,
        ⟨(some 16), .load none (.t 15), none⟩,
        ⟨(some 17), .len 1 (.t 16), none⟩,
        ⟨(some 18), .mv (.k (.c (.d (.int .i64 0)))), none⟩] [15])
    (.block 0 (.loop (.seq (.region [⟨(some 19), .bin .lss (.t 18) (.t 17), none⟩] [])
        (.seq (.cond (.t 19)
            (.skip)
            (.exit 0))
        (.seq (.block 1 (.seq (.region [⟨(some 20), .mv (.t 18), none⟩,
                ⟨(some 21), .indexAddr 4 (.t 16) (.t 18), none⟩,
                ⟨(some 22), .load (some 4) (.t 21), none⟩,
                ⟨(some 7), .alloc [(.d (.int .i64 0)), (.d (.int .i64 0)), (.d (.str [])), (.full [])], none⟩,
                ⟨(some 6), .mv (.t 20), none⟩,
                ⟨none, .store 4 (.t 7) (.t 22), none⟩] [19, 20, 21, 22])
            (.seq (.region [⟨(some 23), .fieldAddr 0 (.t 7), none⟩,
                ⟨(some 24), .load none (.t 23), none⟩,
                ⟨(some 25), .bin .eql (.t 24) (.k (.c (.d (.int .i64 3)))), none⟩] [23, 24])
            (.cond (.t 25)
              (.region [⟨(some 26), .mv (.t 5), none⟩,
                ⟨(some 27), .mv (.t 6), none⟩,
                ⟨(some 28), .mv (.t 0), none⟩,
                ⟨(some 29), .load (some 4) (.t 7), none⟩,
                ⟨(some 30), .call false 103 [(.t 28), (.t 29)], none⟩,
                ⟨(some 31), .indexAddr 1 (.t 26) (.t 27), none⟩,
                ⟨none, .store 1 (.t 31) (.t 30), none⟩] [6, 7, 25, 26, 27, 28, 29, 30, 31])
              (.skip)))))
        (.region [⟨(some 32), .bin .add (.t 18) (.k (.c (.d (.int .i64 1)))), none⟩,
          ⟨(some 18), .mv (.t 32), none⟩] [6, 7, 25, 32])))))))
  (.seq (.region [⟨(some 33), .mv (.t 0), none⟩,
      ⟨(some 34), .call false 102 [(.t 33)], none⟩,
      ⟨(some 8), .mv (.t 34), none⟩] [33, 34])
  (.seq (.region [⟨(some 35), .mv (.t 0), none⟩,
      ⟨(some 36), .fieldAddr 3 (.t 3), none⟩,
      ⟨(some 37), .load none (.t 36), none⟩,
      ⟨(some 38), .len 1 (.t 37), none⟩,
      ⟨(some 39), .mv (.t 8), none⟩,
      ⟨(some 40), .fieldAddr 2 (.t 3), none⟩,
      ⟨(some 41), .load none (.t 40), none⟩,
      ⟨(some 42), .build [(.d (.int .i64 0)), (.d (.int .i64 0)), (.d (.int .i64 0)), (.d (.str []))] [(0, 1, (.k (.c (.d (.int .i64 7))))), (1, 1, (.t 38)), (2, 1, (.t 39)), (3, 1, (.t 41))], none⟩,
      ⟨(some 43), .call false 82 [(.t 35), (.t 42)], none⟩] [35, 36, 37, 38, 39, 40, 41, 42, 43])
  (.seq (.seq (.region [⟨(some 44), .fieldAddr 3 (.t 3), none⟩,
        ⟨(some 45), .load none (.t 44), none⟩,
        ⟨(some 46), .len 1 (.t 45), none⟩,
        ⟨(some 47), .mv (.k (.c (.d (.int .i64 0)))), none⟩] [3, 44])
    (.block 2 (.loop (.seq (.region [⟨(some 48), .bin .lss (.t 47) (.t 46), none⟩] [])
        (.seq (.cond (.t 48)
            (.skip)
            (.exit 2))
        (.seq (.block 3 (.seq (.region [⟨(some 49), .mv (.t 47), none⟩,
                ⟨(some 50), .indexAddr 4 (.t 45) (.t 47), none⟩,
                ⟨(some 51), .load (some 4) (.t 50), none⟩,
                ⟨(some 10), .alloc [(.d (.int .i64 0)), (.d (.int .i64 0)), (.d (.str [])), (.full [])], none⟩,
                ⟨(some 9), .mv (.t 49), none⟩,
                ⟨none, .store 4 (.t 10) (.t 51), none⟩] [48, 49, 50, 51])
            (.seq (.region [⟨(some 52), .fieldAddr 0 (.t 10), none⟩,
                ⟨(some 53), .load none (.t 52), none⟩,
                ⟨(some 54), .bin .eql (.t 53) (.k (.c (.d (.int .i64 3)))), none⟩] [52, 53])
            (.cond (.t 54)
              (.region [⟨(some 55), .mv (.t 0), none⟩,
                ⟨(some 56), .mv (.t 5), none⟩,
                ⟨(some 57), .mv (.t 9), none⟩,
                ⟨(some 58), .indexAddr 1 (.t 56) (.t 57), none⟩,
                ⟨(some 59), .load none (.t 58), none⟩,
                ⟨(some 60), .build [(.d (.int .i64 0)), (.d (.int .i64 0)), (.d (.int .i64 0)), (.d (.str []))] [(0, 1, (.k (.c (.d (.int .i64 5))))), (1, 1, (.t 59))], none⟩,
                ⟨(some 61), .call false 82 [(.t 55), (.t 60)], none⟩] [9, 10, 54, 55, 56, 57, 58, 59, 60, 61])
              (.region [⟨(some 62), .mv (.t 0), none⟩,
                ⟨(some 63), .load (some 4) (.t 10), none⟩,
                ⟨(some 64), .call false 111 [(.t 62), (.t 63)], none⟩] [9, 10, 54, 62, 63, 64])))))
        (.region [⟨(some 65), .bin .add (.t 47) (.k (.c (.d (.int .i64 1)))), none⟩,
          ⟨(some 47), .mv (.t 65), none⟩] [65])))))))
  (.seq (.region [⟨(some 66), .mv (.t 8), none⟩,
      ⟨(some 4), .mv (.t 66), none⟩] [8, 66])
  (.ret)))))))
theorem ac103_ok : cFunc Try.prog [] [(0, [1, 4], []), (1, [11, 12, 13, 14], []), (2, [15], []), (3, [], []), (4, [19, 20, 21, 22], []), (5, [23, 24], []), (6, [6, 7, 25, 26, 27, 28, 29, 30, 31], []), (7, [6, 7, 25, 32], []), (8, [33, 34], []), (9, [35, 36, 37, 38, 39, 40, 41, 42, 43], []), (10, [3, 44], []), (11, [], []), (12, [48, 49, 50, 51], []), (13, [52, 53], []), (14, [9, 10, 54, 55, 56, 57, 58, 59, 60, 61], []), (15, [9, 10, 54, 62, 63, 64], []), (16, [65], []), (17, [8, 66], [])] Try.f103 = some (ac103, [.tmp 4], 67) := by kernel_rfl
/-- the slots of what has been built -/
def bz (b : Int) : Int := if b < 0 then 0 else b
def bzs (n : Nat) (bs : List Int) : List (List D) := intRows (bs.map bz ++ List.replicate (n - bs.length) 0)
theorem bzs_len (n : Nat) (bs : List Int) (h : bs.length ≤ n) : (bzs n bs).length = n := by simp [bzs, intRows]; omega
theorem bzs_all (n : Nat) (bs : List Int) : allLen 1 (bzs n bs) := allLen_map fun _ => rfl
theorem bzs_set (n : Nat) (bs : List Int) (b : Int) (h : bs.length < n) (hb : 0 ≤ b) : (bzs n bs).set bs.length [.int .i64 b] = bzs n (bs ++ [b]) := by
  obtain ⟨k, hk⟩ : ∃ k, n - bs.length = k + 1 := ⟨n - bs.length - 1, by omega⟩
  have hk2 : n - (bs ++ [b]).length = k := by simp; omega
  have hb2 : bz b = b := by unfold bz; rw [if_neg (by omega)]
  have hm : (bs.map bz).length = bs.length := by simp
  simp only [bzs, intRows, hk, hk2, List.map_append, List.replicate_succ, List.map_cons]
  rw [List.set_append_right _ _ (by simp)]
  simp [hb2]
theorem bzs_skip (n : Nat) (bs : List Int) (h : bs.length < n) : bzs n (bs ++ [-1]) = bzs n bs := by
  obtain ⟨k, hk⟩ : ∃ k, n - bs.length = k + 1 := ⟨n - bs.length - 1, by omega⟩
  have hk2 : n - (bs ++ [(-1 : Int)]).length = k := by simp; omega
  have hb2 : bz (-1) = 0 := rfl
  simp only [bzs, hk, hk2, List.map_append, List.map_cons, List.map_nil, hb2, List.replicate_succ, List.append_assoc, List.singleton_append]
theorem bzs_get {n : Nat} {bs : List Int} {i : Nat} (h : i < bs.length) (h0 : 0 ≤ bs[i]) : (bzs n bs)[i]? = some [.int .i64 bs[i]] := by
  have hb2 : bz bs[i] = bs[i] := by unfold bz; rw [if_neg (by omega)]
  simp [bzs, intRows, h, hb2, List.getElem?_append_left]
theorem bzs_at {n : Nat} {bs : List Int} (h : bs.length < n) : (bzs n bs)[bs.length]? = some [.int .i64 0] := by
  obtain ⟨k, hk⟩ : ∃ k, n - bs.length = k + 1 := ⟨n - bs.length - 1, by omega⟩
  simp only [bzs, intRows, hk, List.map_append]
  rw [List.getElem?_append_right (by simp)]
  simp [List.replicate_succ]
theorem build_makes : ∀ t : Tm, t.good → ∀ (M : Mk) (B : Nat), B + 6 * t.size ≤ 800000 → M.fit B → Makes 103 [.agg (t.row.map .d)] M (buildT t M).1 (.c (.d (.int .i64 (buildT t M).2))) := by
  refine Tm.ind fun k n s l ih hg M B hB hM H i hi => ?_
  have hl4 := (good_kids hg).1
  have hkg := (good_kids hg).2
  rw [Tm.size] at hB
  refine acalls Try.func103 (by kernel_rfl) ac103_ok fun hf => ?_
  rw [cd_len] at hf
  have hf1 := fun M' => cd_fits (M' := M') hf hi
  have hli : inR .i64 (l.length : Int) := small_i64 (by omega) (by omega)
  simp -implicitDefEqProofs [ac103, hli, row_mk, kw, ew, sw, tw, a_, b_, c_, -List.set_cons_succ, -List.set_cons_zero, A.ok, A.val, d_, e_, f_, g_, h_, i_, j_, k_, l_, m_, unA, unD, n_, AOp.total, o_, p_, q_, r_, s_, t_, u_, v_, A.thaw, C.thaw, A.fits, As.fits, C.fits, evs, oks, w_, A.pure, C.pure, A.re, C.re, x_, y_, cut, A.cells, C.rows?, z_, A_, B_, C_, D_, Ob.re, Cs.fits, E_, F_, G_, H_, I_, J_, K_, L_, M_, N_, O_, C.toD, P_, Q_, R_, S_, T_, Obs.fits, U_, eqD, V_, W_, X_, Y_, Z_]
  refine ⟨by unfold maxApp; omega, ?_⟩
  obtain ⟨F, hF⟩ : ∃ F, F = buildL l M := ⟨_, rfl⟩
  have hFl := buildL_len l M
  have hFs := buildL_sign l M
  have hR : buildT (.mk k n s l) M = (partsT l F.2 (F.1.bump.emit 7 l.length F.1.next s), F.1.next) := by rw [buildT, hF]
  rw [hR]
  rw [← hF] at hFl hFs
  refine loop_set (σ := Nat × Mk × List Int) (fun x => [(18, .c (.d (.int .i64 x.1)))]) (fun x => cd H i x.2.1)
    (fun x => [.cells [.d (.int .i64 k), .d (.int .i64 n), .d (.str s), .d (.sl (l.map Tm.row))], .rows (bzs l.length x.2.2)])
    (fun x => x.1 ≤ l.length ∧ (∃ cc, x.2.1.fit cc ∧ cc + 6 * sizes (l.drop x.1) ≤ B + 6 * sizes l) ∧ F.1 = (buildL (l.drop x.1) x.2.1).1 ∧ F.2 = x.2.2 ++ (buildL (l.drop x.1) x.2.1).2 ∧ x.2.2.length = x.1) (fun x => l.length - x.1) (0, M, []) (by simp [setAll, intRows, bzs]) ⟨Nat.zero_le _, ⟨B, hM, by simp⟩, by simp [hF], by simp [hF], rfl⟩ ?_
  rintro ⟨j, N, bs⟩ ⟨hj, ⟨cc, hN, hC⟩, h1, h2, h3⟩
  simp only at hj hN hC h1 h2 h3
  simp -implicitDefEqProofs [setAll, hli, kw, ew, sw, tw, a_, b_, c_, -List.set_cons_succ, -List.set_cons_zero, A.ok, A.val, d_, e_, f_, g_, h_, i_, j_, k_, l_, m_, unA, unD, n_, AOp.total, o_, p_, q_, r_, s_, t_, u_, v_, A.thaw, C.thaw, A.fits, As.fits, C.fits, evs, oks, w_, A.pure, C.pure, A.re, C.re, x_, y_, cut, A.cells, C.rows?, z_, A_, B_, C_, D_, Ob.re, Cs.fits, E_, F_, G_, H_, I_, J_, K_, L_, M_, N_, O_, C.toD, P_, Q_, R_, S_, T_, Obs.fits, U_, eqD, V_, W_, X_, Y_, Z_]
  refine ⟨fun hlt => ?_, fun hge => ?_⟩
  · have hadd : inR .i64 ((j : Int) + 1) := small_i64 (by omega) (by omega)
    have hd : l.drop j = l[j] :: l.drop (j + 1) := List.drop_eq_getElem_cons hlt
    rw [hd, buildL] at h1 h2
    rw [hd, sizes] at hC
    have ihi := ih l[j] (List.getElem_mem hlt) (hkg _ (List.getElem_mem hlt)) N cc (by omega) hN
    have hft := build_fit l[j] N cc hN
    refine row_of hlt (row_len _) ?_
    by_cases hk3 : l[j].k = 3
    · simp only [hk3, if_true] at h1 h2
      obtain ⟨R, hRR⟩ : ∃ R, R = buildT l[j] N := ⟨_, rfl⟩
      rw [← hRR] at h1 h2 ihi hft
      rw [row_eq] at ihi ⊢
      simp only [List.map_cons, List.map_nil] at ihi
      simp -implicitDefEqProofs [hf1, hk3, cd_len, Ref.re, kw, ew, sw, tw, a_, b_, c_, -List.set_cons_succ, -List.set_cons_zero, A.ok, A.val, d_, e_, f_, g_, h_, i_, j_, k_, l_, m_, unA, unD, n_, AOp.total, o_, p_, q_, r_, s_, t_, u_, v_, A.thaw, C.thaw, A.fits, As.fits, C.fits, evs, oks, w_, A.pure, C.pure, A.re, C.re, x_, y_, cut, A.cells, C.rows?, z_, A_, B_, C_, D_, Ob.re, Cs.fits, E_, F_, G_, H_, I_, J_, K_, L_, M_, N_, O_, C.toD, P_, Q_, R_, S_, T_, Obs.fits, U_, eqD, V_, W_, X_, Y_, Z_]
      rw [hk3] at ihi
      refine call_mk ihi hi (by simp [Ob.re, C.re]) rfl (hf1 _) ?_
      simp -implicitDefEqProofs [hf1, cd_len, kw, ew, sw, tw, a_, b_, c_, -List.set_cons_succ, -List.set_cons_zero, A.ok, A.val, d_, e_, f_, g_, h_, i_, j_, k_, l_, m_, unA, unD, n_, AOp.total, o_, p_, q_, r_, s_, t_, u_, v_, A.thaw, C.thaw, A.fits, As.fits, C.fits, evs, oks, w_, A.pure, C.pure, A.re, C.re, x_, y_, cut, A.cells, C.rows?, z_, A_, B_, C_, D_, Ob.re, Cs.fits, E_, F_, G_, H_, I_, J_, K_, L_, M_, N_, O_, C.toD, P_, Q_, R_, S_, T_, Obs.fits, U_, eqD, V_, W_, X_, Y_, Z_]
      refine ⟨by omega, ?_⟩
      have hga := bzs_at (n := l.length) (bs := bs) (by omega)
      rw [h3] at hga
      simp -implicitDefEqProofs [hf1, hga, hadd, cd_len, kw, ew, sw, tw, a_, b_, c_, -List.set_cons_succ, -List.set_cons_zero, A.ok, A.val, d_, e_, f_, g_, h_, i_, j_, k_, l_, m_, unA, unD, n_, AOp.total, o_, p_, q_, r_, s_, t_, u_, v_, A.thaw, C.thaw, A.fits, As.fits, C.fits, evs, oks, w_, A.pure, C.pure, A.re, C.re, x_, y_, cut, A.cells, C.rows?, z_, A_, B_, C_, D_, Ob.re, Cs.fits, E_, F_, G_, H_, I_, J_, K_, L_, M_, N_, O_, C.toD, P_, Q_, R_, S_, T_, Obs.fits, U_, eqD, V_, W_, X_, Y_, Z_]
      have hset := bzs_set l.length bs R.2 (by omega) (by omega)
      rw [h3] at hset
      refine loop_less (j + 1, R.1, bs ++ [(R.2 : Int)]) (St.le_cut [_] ?_ (by simp [cd_len, Sl.le, A.le_refl_iff, A.le_u_iff, As.lo, A.lo, C.lo, Ref.lo, Cs.lo, Obs.lo, Ob.lo, setAll, and_true, true_and, List.length_nil, List.length_cons]; omega) (by simp [hset]; rfl) (by simp [Sl.le, A.le_refl_iff, A.le_u_iff, As.lo, A.lo, C.lo, Ref.lo, Cs.lo, Obs.lo, Ob.lo, setAll, and_true, true_and, List.length_nil, List.length_cons])) ⟨hlt, ⟨_, hft.1, by dsimp only; omega⟩, h1, by rw [h2]; simp, by simp; omega⟩ (by show l.length - (j + 1) < l.length - j; omega)
      simp [setAll, Sl.le, A.le_refl_iff, A.le_u_iff, As.lo, A.lo, C.lo, Ref.lo, Cs.lo, Obs.lo, Ob.lo, setAll, and_true, true_and, List.length_nil, List.length_cons]
    · simp only [hk3, if_false] at h1 h2
      rw [row_eq]
      simp -implicitDefEqProofs [hf1, hk3, hadd, cd_len, Ref.re, kw, ew, sw, tw, a_, b_, c_, -List.set_cons_succ, -List.set_cons_zero, A.ok, A.val, d_, e_, f_, g_, h_, i_, j_, k_, l_, m_, unA, unD, n_, AOp.total, o_, p_, q_, r_, s_, t_, u_, v_, A.thaw, C.thaw, A.fits, As.fits, C.fits, evs, oks, w_, A.pure, C.pure, A.re, C.re, x_, y_, cut, A.cells, C.rows?, z_, A_, B_, C_, D_, Ob.re, Cs.fits, E_, F_, G_, H_, I_, J_, K_, L_, M_, N_, O_, C.toD, P_, Q_, R_, S_, T_, Obs.fits, U_, eqD, V_, W_, X_, Y_, Z_]
      have hskip := bzs_skip l.length bs (by omega)
      have hsz := size_pos l[j]
      refine loop_less (j + 1, N, bs ++ [-1]) (St.le_cut [_] ?_ (by simp [cd_len, Sl.le, A.le_refl_iff, A.le_u_iff, As.lo, A.lo, C.lo, Ref.lo, Cs.lo, Obs.lo, Ob.lo, setAll, and_true, true_and, List.length_nil, List.length_cons]; omega) (by simp [hskip]; rfl) (by simp [Sl.le, A.le_refl_iff, A.le_u_iff, As.lo, A.lo, C.lo, Ref.lo, Cs.lo, Obs.lo, Ob.lo, setAll, and_true, true_and, List.length_nil, List.length_cons])) ⟨hlt, ⟨cc, hN, by dsimp only; omega⟩, h1, by rw [h2]; simp, by simp; omega⟩ (by show l.length - (j + 1) < l.length - j; omega)
      simp [setAll, Sl.le, A.le_refl_iff, A.le_u_iff, As.lo, A.lo, C.lo, Ref.lo, Cs.lo, Obs.lo, Ob.lo, setAll, and_true, true_and, List.length_nil, List.length_cons]
  · obtain rfl : j = l.length := by omega
    simp [buildL] at h1 h2
    rw [List.drop_of_length_le (by omega)] at hC
    simp only [sizes, Nat.mul_zero, Nat.add_zero] at hC
    have hnx := hN.next
    have hcd := hN.code
    have hal := hN.all
    rw [h1, h2]
    rw [h2] at hFl hFs
    simp -implicitDefEqProofs [hli, hf1, cd_len, Ref.re, kw, ew, sw, tw, a_, b_, c_, -List.set_cons_succ, -List.set_cons_zero, A.ok, A.val, d_, e_, f_, g_, h_, i_, j_, k_, l_, m_, unA, unD, n_, AOp.total, o_, p_, q_, r_, s_, t_, u_, v_, A.thaw, C.thaw, A.fits, As.fits, C.fits, evs, oks, w_, A.pure, C.pure, A.re, C.re, x_, y_, cut, A.cells, C.rows?, z_, A_, B_, C_, D_, Ob.re, Cs.fits, E_, F_, G_, H_, I_, J_, K_, L_, M_, N_, O_, C.toD, P_, Q_, R_, S_, T_, Obs.fits, U_, eqD, V_, W_, X_, Y_, Z_]
    refine call_mk (slot_makes N (by omega)) hi (by simp [Ob.re, C.re]) rfl (hf1 _) ?_
    simp -implicitDefEqProofs [hli, hf1, cd_len, Ref.re, kw, ew, sw, tw, a_, b_, c_, -List.set_cons_succ, -List.set_cons_zero, A.ok, A.val, d_, e_, f_, g_, h_, i_, j_, k_, l_, m_, unA, unD, n_, AOp.total, o_, p_, q_, r_, s_, t_, u_, v_, A.thaw, C.thaw, A.fits, As.fits, C.fits, evs, oks, w_, A.pure, C.pure, A.re, C.re, x_, y_, cut, A.cells, C.rows?, z_, A_, B_, C_, D_, Ob.re, Cs.fits, E_, F_, G_, H_, I_, J_, K_, L_, M_, N_, O_, C.toD, P_, Q_, R_, S_, T_, Obs.fits, U_, eqD, V_, W_, X_, Y_, Z_]
    refine call_mk (add_makes N.bump 7 l.length N.next s (by show N.code.length ≤ _; omega) hal) hi (by simp [Ob.re, C.re]) rfl (hf1 _) ?_
    simp -implicitDefEqProofs [hli, hf1, cd_len, Ref.re, kw, ew, sw, tw, a_, b_, c_, -List.set_cons_succ, -List.set_cons_zero, A.ok, A.val, d_, e_, f_, g_, h_, i_, j_, k_, l_, m_, unA, unD, n_, AOp.total, o_, p_, q_, r_, s_, t_, u_, v_, A.thaw, C.thaw, A.fits, As.fits, C.fits, evs, oks, w_, A.pure, C.pure, A.re, C.re, x_, y_, cut, A.cells, C.rows?, z_, A_, B_, C_, D_, Ob.re, Cs.fits, E_, F_, G_, H_, I_, J_, K_, L_, M_, N_, O_, C.toD, P_, Q_, R_, S_, T_, Obs.fits, U_, eqD, V_, W_, X_, Y_, Z_]
    obtain ⟨G, hG⟩ : ∃ G, G = partsT l bs (N.bump.emit 7 l.length N.next s) := ⟨_, rfl⟩
    rw [← hG]
    have hN2 := hN.bump.emit 7 l.length N.next s
    refine loop_set (σ := Nat × Mk) (fun x => [(47, .c (.d (.int .i64 x.1)))]) (fun x => cd H i x.2)
      (fun x => [.cells [.d (.int .i64 k), .d (.int .i64 n), .d (.str s), .d (.sl (l.map Tm.row))], .rows (bzs l.length bs)])
      (fun x => x.1 ≤ l.length ∧ x.2.fit (cc + 2 + 2 * x.1) ∧ partsT (l.drop x.1) (bs.drop x.1) x.2 = G) (fun x => l.length - x.1) (0, N.bump.emit 7 l.length N.next s) (by simp [setAll]) ⟨Nat.zero_le _, hN2.mono (by omega), by simp [hG]⟩ ?_
    rintro ⟨j, P⟩ ⟨hj, hP, e1⟩
    simp only at hj hP e1
    simp -implicitDefEqProofs [setAll, hli, kw, ew, sw, tw, a_, b_, c_, -List.set_cons_succ, -List.set_cons_zero, A.ok, A.val, d_, e_, f_, g_, h_, i_, j_, k_, l_, m_, unA, unD, n_, AOp.total, o_, p_, q_, r_, s_, t_, u_, v_, A.thaw, C.thaw, A.fits, As.fits, C.fits, evs, oks, w_, A.pure, C.pure, A.re, C.re, x_, y_, cut, A.cells, C.rows?, z_, A_, B_, C_, D_, Ob.re, Cs.fits, E_, F_, G_, H_, I_, J_, K_, L_, M_, N_, O_, C.toD, P_, Q_, R_, S_, T_, Obs.fits, U_, eqD, V_, W_, X_, Y_, Z_]
    refine ⟨fun hlt => ?_, fun hge => ?_⟩
    · have hadd : inR .i64 ((j : Int) + 1) := small_i64 (by omega) (by omega)
      have hlb : j < bs.length := by omega
      have hd : l.drop j = l[j] :: l.drop (j + 1) := List.drop_eq_getElem_cons hlt
      have hdb : bs.drop j = bs[j] :: bs.drop (j + 1) := List.drop_eq_getElem_cons hlb
      rw [hd, hdb, partsT] at e1
      have hsg := hFs j l[j] bs[j] (by simp) (by simp)
      have hPn := hP.next
      have hPc := hP.code
      have hPa := hP.all
      refine row_of hlt (row_len _) ?_
      by_cases hk3 : l[j].k = 3
      · have h0 := hsg.1 hk3
        have hge := bzs_get (n := l.length) hlb h0
        simp only [hk3, if_true] at e1
        rw [row_eq]
        simp -implicitDefEqProofs [hf1, hk3, hge, cd_len, Ref.re, kw, ew, sw, tw, a_, b_, c_, -List.set_cons_succ, -List.set_cons_zero, A.ok, A.val, d_, e_, f_, g_, h_, i_, j_, k_, l_, m_, unA, unD, n_, AOp.total, o_, p_, q_, r_, s_, t_, u_, v_, A.thaw, C.thaw, A.fits, As.fits, C.fits, evs, oks, w_, A.pure, C.pure, A.re, C.re, x_, y_, cut, A.cells, C.rows?, z_, A_, B_, C_, D_, Ob.re, Cs.fits, E_, F_, G_, H_, I_, J_, K_, L_, M_, N_, O_, C.toD, P_, Q_, R_, S_, T_, Obs.fits, U_, eqD, V_, W_, X_, Y_, Z_]
        refine ⟨by omega, ?_⟩
        refine call_mk (add_makes P 5 bs[j] 0 [] (by omega) hPa) hi (by simp [Ob.re, C.re]) rfl (hf1 _) ?_
        simp -implicitDefEqProofs [hadd, cd_len, kw, ew, sw, tw, a_, b_, c_, -List.set_cons_succ, -List.set_cons_zero, A.ok, A.val, d_, e_, f_, g_, h_, i_, j_, k_, l_, m_, unA, unD, n_, AOp.total, o_, p_, q_, r_, s_, t_, u_, v_, A.thaw, C.thaw, A.fits, As.fits, C.fits, evs, oks, w_, A.pure, C.pure, A.re, C.re, x_, y_, cut, A.cells, C.rows?, z_, A_, B_, C_, D_, Ob.re, Cs.fits, E_, F_, G_, H_, I_, J_, K_, L_, M_, N_, O_, C.toD, P_, Q_, R_, S_, T_, Obs.fits, U_, eqD, V_, W_, X_, Y_, Z_]
        refine loop_less (j + 1, P.emit 5 bs[j] 0 []) (St.le_cut [_] ?_ (by simp [cd_len, Sl.le, A.le_refl_iff, A.le_u_iff, As.lo, A.lo, C.lo, Ref.lo, Cs.lo, Obs.lo, Ob.lo, setAll, and_true, true_and, List.length_nil, List.length_cons]; omega) (by simp; rfl) (by simp [Sl.le, A.le_refl_iff, A.le_u_iff, As.lo, A.lo, C.lo, Ref.lo, Cs.lo, Obs.lo, Ob.lo, setAll, and_true, true_and, List.length_nil, List.length_cons])) ⟨hlt, (hP.emit ..).mono (by dsimp only; omega), e1⟩ (by show l.length - (j + 1) < l.length - j; omega)
        simp [setAll, Sl.le, A.le_refl_iff, A.le_u_iff, As.lo, A.lo, C.lo, Ref.lo, Cs.lo, Obs.lo, Ob.lo, setAll, and_true, true_and, List.length_nil, List.length_cons]
      · simp only [hk3, if_false] at e1
        have cde := described_makes l[j] (hkg _ (List.getElem_mem hlt)) hk3 P _ hP (by omega)
        rw [row_eq] at cde ⊢
        simp only [List.map_cons, List.map_nil] at cde
        simp -implicitDefEqProofs [hf1, hk3, cd_len, Ref.re, kw, ew, sw, tw, a_, b_, c_, -List.set_cons_succ, -List.set_cons_zero, A.ok, A.val, d_, e_, f_, g_, h_, i_, j_, k_, l_, m_, unA, unD, n_, AOp.total, o_, p_, q_, r_, s_, t_, u_, v_, A.thaw, C.thaw, A.fits, As.fits, C.fits, evs, oks, w_, A.pure, C.pure, A.re, C.re, x_, y_, cut, A.cells, C.rows?, z_, A_, B_, C_, D_, Ob.re, Cs.fits, E_, F_, G_, H_, I_, J_, K_, L_, M_, N_, O_, C.toD, P_, Q_, R_, S_, T_, Obs.fits, U_, eqD, V_, W_, X_, Y_, Z_]
        refine call_mk cde hi (by simp [Ob.re, C.re]) rfl (hf1 _) ?_
        simp -implicitDefEqProofs [hadd, cd_len, kw, ew, sw, tw, a_, b_, c_, -List.set_cons_succ, -List.set_cons_zero, A.ok, A.val, d_, e_, f_, g_, h_, i_, j_, k_, l_, m_, unA, unD, n_, AOp.total, o_, p_, q_, r_, s_, t_, u_, v_, A.thaw, C.thaw, A.fits, As.fits, C.fits, evs, oks, w_, A.pure, C.pure, A.re, C.re, x_, y_, cut, A.cells, C.rows?, z_, A_, B_, C_, D_, Ob.re, Cs.fits, E_, F_, G_, H_, I_, J_, K_, L_, M_, N_, O_, C.toD, P_, Q_, R_, S_, T_, Obs.fits, U_, eqD, V_, W_, X_, Y_, Z_]
        refine loop_less (j + 1, P.desc l[j]) (St.le_cut [_] ?_ (by simp [cd_len, Sl.le, A.le_refl_iff, A.le_u_iff, As.lo, A.lo, C.lo, Ref.lo, Cs.lo, Obs.lo, Ob.lo, setAll, and_true, true_and, List.length_nil, List.length_cons]; omega) (by simp; rfl) (by simp [Sl.le, A.le_refl_iff, A.le_u_iff, As.lo, A.lo, C.lo, Ref.lo, Cs.lo, Obs.lo, Ob.lo, setAll, and_true, true_and, List.length_nil, List.length_cons])) ⟨hlt, (hP.desc _).mono (by dsimp only; omega), e1⟩ (by show l.length - (j + 1) < l.length - j; omega)
        simp [setAll, Sl.le, A.le_refl_iff, A.le_u_iff, As.lo, A.lo, C.lo, Ref.lo, Cs.lo, Obs.lo, Ob.lo, setAll, and_true, true_and, List.length_nil, List.length_cons]
    · obtain rfl : j = l.length := by omega
      rw [List.drop_of_length_le (by omega), partsT] at e1
      · subst e1
        simp -implicitDefEqProofs [hf1, cd_len, kw, ew, sw, tw, a_, b_, c_, -List.set_cons_succ, -List.set_cons_zero, A.ok, A.val, d_, e_, f_, g_, h_, i_, j_, k_, l_, m_, unA, unD, n_, AOp.total, o_, p_, q_, r_, s_, t_, u_, v_, A.thaw, C.thaw, A.fits, As.fits, C.fits, evs, oks, w_, A.pure, C.pure, A.re, C.re, x_, y_, cut, A.cells, C.rows?, z_, A_, B_, C_, D_, Ob.re, Cs.fits, E_, F_, G_, H_, I_, J_, K_, L_, M_, N_, O_, C.toD, P_, Q_, R_, S_, T_, Obs.fits, U_, eqD, V_, W_, X_, Y_, Z_]
      · simp

-- 81 (*loop.example/prologserver/impl.coding).goal params 2 ntmps 90
-- loop head live: [0, 3, 16, 17, 18]
def ac81 : Cd := .seq (.region [⟨(some 3), .box (.t 1), none⟩] [1])
  (.seq (.seq (.region [⟨(some 10), .load (some 4) (.t 3), none⟩,
        ⟨(some 11), .qcall 101 [(.t 10)], none⟩] [10])
    (.cond (.t 11)
      (.seq (.region [⟨(some 12), .mv (.t 0), none⟩,
          ⟨(some 13), .build [(.d (.int .i64 0)), (.d (.int .i64 0)), (.d (.int .i64 0)), (.d (.str []))] [(0, 1, (.k (.c (.d (.int .i64 13)))))], none⟩,
          ⟨(some 14), .call false 82 [(.t 12), (.t 13)], none⟩] [0, 3, 11, 12, 13, 14])
      (.ret))
      (.skip)))
  (.seq (.seq (.region [⟨(some 15), .fieldAddr 3 (.t 3), none⟩,
        ⟨(some 16), .load none (.t 15), none⟩,
        ⟨(some 17), .len 1 (.t 16), none⟩,
        ⟨(some 18), .mv (.k (.c (.d (.int .i64 0)))), none⟩] [11, 15])
    (.block 0 (.loop (.seq (.region [⟨(some 19), .bin .lss (.t 18) (.t 17), none⟩] [])
        (.seq (.cond (.t 19)
            (.skip)
            (.exit 0))
        (.seq (.block 1 (.seq (.region [⟨(some 20), .mv (.t 18), none⟩,
                ⟨(some 21), .indexAddr 4 (.t 16) (.t 18), none⟩,
                ⟨(some 22), .load (some 4) (.t 21), none⟩,
                ⟨(some 5), .alloc [(.d (.int .i64 0)), (.d (.int .i64 0)), (.d (.str [])), (.full [])], none⟩,
                ⟨(some 4), .mv (.t 20), none⟩,
                ⟨none, .store 4 (.t 5) (.t 22), none⟩] [19, 20, 21, 22])
            (.seq (.region [⟨(some 23), .fieldAddr 0 (.t 5), none⟩,
                ⟨(some 24), .load none (.t 23), none⟩] [23])
            (.block 2 (.seq (.region [⟨(some 34), .bin .eql (.t 24) (.k (.c (.d (.int .i64 2)))), none⟩,
                  ⟨(some 33), .mv (.t 34), none⟩] [34])
              (.cond (.t 33)
                (.region [⟨(some 35), .mv (.t 0), none⟩,
                  ⟨(some 36), .fieldAddr 1 (.t 5), none⟩,
                  ⟨(some 37), .load none (.t 36), none⟩,
                  ⟨(some 38), .mv (.t 4), none⟩,
                  ⟨(some 39), .build [(.d (.int .i64 0)), (.d (.int .i64 0)), (.d (.int .i64 0)), (.d (.str []))] [(0, 1, (.k (.c (.d (.int .i64 10))))), (1, 1, (.t 37)), (2, 1, (.t 38))], none⟩,
                  ⟨(some 40), .call false 82 [(.t 35), (.t 39)], none⟩] [4, 5, 24, 33, 35, 36, 37, 38, 39, 40])
                (.seq (.region [⟨(some 42), .bin .eql (.t 24) (.k (.c (.d (.int .i64 1)))), none⟩,
                    ⟨(some 41), .mv (.t 42), none⟩] [24, 33, 42])
                (.cond (.t 41)
                  (.seq (.region [⟨(some 44), .mv (.t 0), none⟩,
                      ⟨(some 45), .nilCheck (.t 44), none⟩,
                      ⟨(some 46), .fieldAddr 0 (.t 45), none⟩,
                      ⟨(some 48), .fieldAddr 1 (.t 5), none⟩,
                      ⟨(some 47), .load none (.t 46), none⟩,
                      ⟨(some 49), .load none (.t 48), none⟩,
                      ⟨(some 50), .mapGet none [(.int .i64 0)] true (.t 47) (.t 49), none⟩,
                      ⟨(some 43), .mv (.t 50), none⟩,
                      ⟨(some 51), .extract 0 (.t 43), none⟩,
                      ⟨(some 52), .extract 1 (.t 43), none⟩,
                      ⟨(some 6), .mv (.t 51), none⟩,
                      ⟨(some 7), .mv (.t 52), none⟩] [41, 43, 44, 45, 46, 47, 48, 49, 50, 51, 52])
                  (.seq (.region [⟨(some 53), .mv (.t 7), none⟩] [7])
                  (.cond (.t 53)
                    (.region [⟨(some 54), .mv (.t 0), none⟩,
                      ⟨(some 55), .mv (.t 6), none⟩,
                      ⟨(some 56), .mv (.t 4), none⟩,
                      ⟨(some 57), .build [(.d (.int .i64 0)), (.d (.int .i64 0)), (.d (.int .i64 0)), (.d (.str []))] [(0, 1, (.k (.c (.d (.int .i64 9))))), (1, 1, (.t 55)), (2, 1, (.t 56))], none⟩,
                      ⟨(some 58), .call false 82 [(.t 54), (.t 57)], none⟩] [4, 5, 6, 53, 54, 55, 56, 57, 58])
                    (.seq (.region [⟨(some 59), .mv (.t 0), none⟩,
                        ⟨(some 60), .nilCheck (.t 59), none⟩,
                        ⟨(some 61), .fieldAddr 0 (.t 60), none⟩,
                        ⟨(some 63), .fieldAddr 1 (.t 5), none⟩,
                        ⟨(some 65), .mv (.t 0), none⟩,
                        ⟨(some 62), .loadL true none (.t 61), none⟩,
                        ⟨(some 64), .loadL false none (.t 63), none⟩,
                        ⟨(some 66), .callL true false 102 [(.t 65)], none⟩,
                        ⟨none, .mapSet (.t 62) (.t 64) (.t 66), none⟩] [6, 53, 59, 60, 61, 62, 63, 64, 65, 66])
                    (.region [⟨(some 67), .mv (.t 0), none⟩,
                      ⟨(some 68), .mv (.t 0), none⟩,
                      ⟨(some 69), .nilCheck (.t 68), none⟩,
                      ⟨(some 70), .fieldAddr 0 (.t 69), none⟩,
                      ⟨(some 72), .fieldAddr 1 (.t 5), none⟩,
                      ⟨(some 75), .mv (.t 4), none⟩,
                      ⟨(some 71), .load none (.t 70), none⟩,
                      ⟨(some 73), .load none (.t 72), none⟩,
                      ⟨(some 74), .mapGet none [(.int .i64 0)] false (.t 71) (.t 73), none⟩,
                      ⟨(some 76), .build [(.d (.int .i64 0)), (.d (.int .i64 0)), (.d (.int .i64 0)), (.d (.str []))] [(0, 1, (.k (.c (.d (.int .i64 8))))), (1, 1, (.t 74)), (2, 1, (.t 75))], none⟩,
                      ⟨(some 77), .call false 82 [(.t 67), (.t 76)], none⟩] [4, 5, 67, 68, 69, 70, 71, 72, 73, 74, 75, 76, 77])))))
                  (.seq (.region [⟨(some 25), .mv (.t 0), none⟩,
                      ⟨(some 26), .load (some 4) (.t 5), none⟩,
                      ⟨(some 27), .call false 103 [(.t 25), (.t 26)], none⟩,
                      ⟨(some 8), .mv (.t 27), none⟩] [5, 25, 26, 27, 41])
                  (.region [⟨(some 28), .mv (.t 0), none⟩,
                    ⟨(some 29), .mv (.t 8), none⟩,
                    ⟨(some 30), .mv (.t 4), none⟩,
                    ⟨(some 31), .build [(.d (.int .i64 0)), (.d (.int .i64 0)), (.d (.int .i64 0)), (.d (.str []))] [(0, 1, (.k (.c (.d (.int .i64 9))))), (1, 1, (.t 29)), (2, 1, (.t 30))], none⟩,
                    ⟨(some 32), .call false 82 [(.t 28), (.t 31)], none⟩] [4, 8, 28, 29, 30, 31, 32]))))))))))
        (.region [⟨(some 78), .bin .add (.t 18) (.k (.c (.d (.int .i64 1)))), none⟩,
          ⟨(some 18), .mv (.t 78), none⟩] [78])))))))
  (.seq (.region [⟨(some 9), .mv (.k (.c (.d (.int .i64 11)))), none⟩] [])
  (.seq (.seq (.region [⟨(some 79), .load (some 4) (.t 3), none⟩,
        ⟨(some 80), .qcall 104 [(.t 79)], none⟩] [79])
    (.cond (.t 80)
      (.region [⟨(some 9), .mv (.k (.c (.d (.int .i64 12)))), none⟩] [80])
      (.skip)))
  (.region [⟨(some 81), .mv (.t 0), none⟩,
    ⟨(some 82), .mv (.t 9), none⟩,
    ⟨(some 83), .fieldAddr 3 (.t 3), none⟩,
    ⟨(some 84), .load none (.t 83), none⟩,
    ⟨(some 85), .len 1 (.t 84), none⟩,
    ⟨(some 86), .fieldAddr 2 (.t 3), none⟩,
    ⟨(some 87), .load none (.t 86), none⟩,
    ⟨(some 88), .build [(.d (.int .i64 0)), (.d (.int .i64 0)), (.d (.int .i64 0)), (.d (.str []))] [(0, 1, (.t 82)), (1, 1, (.t 85)), (3, 1, (.t 87))], none⟩,
    ⟨(some 89), .call false 82 [(.t 81), (.t 88)], none⟩] [0, 3, 9, 80, 81, 82, 83, 84, 85, 86, 87, 88, 89])))))
theorem ac81_ok : cFunc Try.prog [1000101, 1000104, 12000102, 11000061, 5000063] [(0, [1], []), (1, [10], []), (2, [0, 3, 11, 12, 13, 14], []), (3, [11, 15], []), (4, [], []), (5, [19, 20, 21, 22], []), (6, [23], []), (9, [34], []), (10, [4, 5, 24, 33, 35, 36, 37, 38, 39, 40], []), (11, [24, 33, 42], []), (12, [41, 43, 44, 45, 46, 47, 48, 49, 50, 51, 52], [0, 1, 2, 4, 3, 5, 6, 7, 8, 9, 10, 11]), (13, [7], []), (14, [4, 5, 6, 53, 54, 55, 56, 57, 58], []), (15, [6, 53, 59, 60, 61, 62, 63, 64, 65, 66], [0, 1, 2, 4, 6, 3, 5, 7, 8]), (16, [4, 5, 67, 68, 69, 70, 71, 72, 73, 74, 75, 76, 77], [0, 1, 2, 3, 5, 8, 4, 6, 7, 9, 10]), (7, [5, 25, 26, 27, 41], []), (8, [4, 8, 28, 29, 30, 31, 32], []), (17, [78], []), (18, [], []), (19, [79], []), (20, [80], []), (21, [0, 3, 9, 80, 81, 82, 83, 84, 85, 86, 87, 88, 89], [])] Try.f81 = some (ac81, [], 90) := by kernel_rfl
set_option maxHeartbeats 1600000 in
theorem goal_makes (g : Tm) (hfit : g.fits) (hgd : g.good) (hk3 : g.k = 3) (hz : g.size ≤ 200) (M : Mk) (B : Nat) (hB : B ≤ 100000) (hM : M.fit B) : Makes 81 [.agg (g.row.map .d)] M (goalT g M) (.tup []) := fun H i hi => by
  have c1 := cutImpl_calls g hfit
  have c2 := isBuilt_calls g hfit
  have hnx := hM.next
  have hcd := hM.code
  have hal := hM.all
  obtain ⟨k, n, s, l⟩ := g
  obtain rfl : k = 3 := hk3
  rw [Tm.size] at hz
  have hkg := good_kids hgd
  have hbt : (Tm.mk 3 n s l).built = builtB s l.length := by simp [Tm.built, Tm.k, Tm.s, Tm.kids]
  rw [hbt] at c2
  rw [row_mk] at c1 c2
  simp only [List.map_cons, List.map_nil] at c1 c2
  refine acalls Try.func81 (by kernel_rfl) ac81_ok fun hf => ?_
  rw [cd_len] at hf
  have hf1 := fun M' => cd_fits (M' := M') hf hi
  have hli : inR .i64 (l.length : Int) := small_i64 (by omega) (by omega)
  simp -implicitDefEqProofs [ac81, hli, row_mk, kw, ew, sw, tw, a_, b_, c_, -List.set_cons_succ, -List.set_cons_zero, A.ok, A.val, d_, e_, f_, g_, h_, i_, j_, k_, l_, m_, unA, unD, n_, AOp.total, o_, p_, q_, r_, s_, t_, u_, v_, A.thaw, C.thaw, A.fits, As.fits, C.fits, evs, oks, w_, A.pure, C.pure, A.re, C.re, x_, y_, cut, A.cells, C.rows?, z_, A_, B_, C_, D_, Ob.re, Cs.fits, E_, F_, G_, H_, I_, J_, K_, L_, M_, N_, O_, C.toD, P_, Q_, R_, S_, T_, Obs.fits, U_, eqD, V_, W_, X_, Y_, Z_]
  refine qcall_pure c1 (by simpa [cd_len] using hf) rfl ?_
  cases hcut : (Tm.mk 3 n s l).cutB with
  | true =>
    have e : goalT (.mk 3 n s l) M = M.emit 13 0 0 [] := by rw [goalT, hcut]; rfl
    rw [e]
    simp -implicitDefEqProofs [hf1, cd_len, Ref.re, kw, ew, sw, tw, a_, b_, c_, -List.set_cons_succ, -List.set_cons_zero, A.ok, A.val, d_, e_, f_, g_, h_, i_, j_, k_, l_, m_, unA, unD, n_, AOp.total, o_, p_, q_, r_, s_, t_, u_, v_, A.thaw, C.thaw, A.fits, As.fits, C.fits, evs, oks, w_, A.pure, C.pure, A.re, C.re, x_, y_, cut, A.cells, C.rows?, z_, A_, B_, C_, D_, Ob.re, Cs.fits, E_, F_, G_, H_, I_, J_, K_, L_, M_, N_, O_, C.toD, P_, Q_, R_, S_, T_, Obs.fits, U_, eqD, V_, W_, X_, Y_, Z_]
    refine call_mk (add_makes M 13 0 0 [] (by omega) hal) hi (by simp [Ob.re, C.re]) rfl (hf1 _) ?_
    simp -implicitDefEqProofs [cd_len, kw, ew, sw, tw, a_, b_, c_, -List.set_cons_succ, -List.set_cons_zero, A.ok, A.val, d_, e_, f_, g_, h_, i_, j_, k_, l_, m_, unA, unD, n_, AOp.total, o_, p_, q_, r_, s_, t_, u_, v_, A.thaw, C.thaw, A.fits, As.fits, C.fits, evs, oks, w_, A.pure, C.pure, A.re, C.re, x_, y_, cut, A.cells, C.rows?, z_, A_, B_, C_, D_, Ob.re, Cs.fits, E_, F_, G_, H_, I_, J_, K_, L_, M_, N_, O_, C.toD, P_, Q_, R_, S_, T_, Obs.fits, U_, eqD, V_, W_, X_, Y_, Z_]
  | false =>
    obtain ⟨G, hG⟩ : ∃ G, G = putsT l 0 M := ⟨_, rfl⟩
    have hGf := puts_fit l 0 M _ hM
    have e : goalT (.mk 3 n s l) M = G.emit (if builtB s l.length then 12 else 11) l.length 0 s := by rw [goalT, hcut, hG]; rfl
    rw [e]
    rw [← hG] at hGf
    simp -implicitDefEqProofs [hli, hf1, cd_len, Ref.re, kw, ew, sw, tw, a_, b_, c_, -List.set_cons_succ, -List.set_cons_zero, A.ok, A.val, d_, e_, f_, g_, h_, i_, j_, k_, l_, m_, unA, unD, n_, AOp.total, o_, p_, q_, r_, s_, t_, u_, v_, A.thaw, C.thaw, A.fits, As.fits, C.fits, evs, oks, w_, A.pure, C.pure, A.re, C.re, x_, y_, cut, A.cells, C.rows?, z_, A_, B_, C_, D_, Ob.re, Cs.fits, E_, F_, G_, H_, I_, J_, K_, L_, M_, N_, O_, C.toD, P_, Q_, R_, S_, T_, Obs.fits, U_, eqD, V_, W_, X_, Y_, Z_]
    refine loop_set (σ := Nat × Mk) (fun x => [(18, .c (.d (.int .i64 x.1)))]) (fun x => cd H i x.2)
      (fun x => [.cells [.d (.int .i64 3), .d (.int .i64 n), .d (.str s), .d (.sl (l.map Tm.row))]])
      (fun x => x.1 ≤ l.length ∧ x.2 = putsT (l.take x.1) 0 M) (fun x => l.length - x.1) (0, M) (by simp [setAll]) ⟨Nat.zero_le _, by simp [putsT]⟩ ?_
    rintro ⟨j, P⟩ ⟨hj, e1⟩
    simp only at hj e1
    simp -implicitDefEqProofs [setAll, hli, kw, ew, sw, tw, a_, b_, c_, -List.set_cons_succ, -List.set_cons_zero, A.ok, A.val, d_, e_, f_, g_, h_, i_, j_, k_, l_, m_, unA, unD, n_, AOp.total, o_, p_, q_, r_, s_, t_, u_, v_, A.thaw, C.thaw, A.fits, As.fits, C.fits, evs, oks, w_, A.pure, C.pure, A.re, C.re, x_, y_, cut, A.cells, C.rows?, z_, A_, B_, C_, D_, Ob.re, Cs.fits, E_, F_, G_, H_, I_, J_, K_, L_, M_, N_, O_, C.toD, P_, Q_, R_, S_, T_, Obs.fits, U_, eqD, V_, W_, X_, Y_, Z_]
    refine ⟨fun hlt => ?_, fun hge => ?_⟩
    · have hadd : inR .i64 ((j : Int) + 1) := small_i64 (by omega) (by omega)
      have hPf := puts_fit (l.take j) 0 M _ hM
      have hszj : sizes (l.take j) + l[j].size ≤ sizes l := by
        have e2 : sizes (l.take (j + 1)) = sizes (l.take j) + l[j].size := by
          rw [List.take_succ_eq_append_getElem hlt, sizes_app]; simp [sizes]
        have e3 : sizes l = sizes (l.take (j + 1)) + sizes (l.drop (j + 1)) := by rw [← sizes_app, List.take_append_drop]
        omega
      have hput : putT P l[j] j = putsT (l.take (j + 1)) 0 M := by
        rw [List.take_succ_eq_append_getElem hlt, puts_last, e1]
        congr 1
        simp
        omega
      have hjt : (l.take j).length ≤ 4 := by simp; omega
      rw [← e1] at hPf
      have hPn := hPf.next
      have hPc := hPf.code
      have hPa := hPf.all
      have hgt := hkg.2 l[j] (List.getElem_mem hlt)
      have hbm := build_makes l[j] hgt P _ (by omega) hPf
      have hbf := build_fit l[j] P _ hPf
      have hrow : (l.map Tm.row)[j]? = some l[j].row := by simp [hlt]
      obtain ⟨W, hW⟩ : ∃ W, W = putsT (l.take (j + 1)) 0 M := ⟨_, rfl⟩
      rw [← hW] at hput
      have hback : ∀ (sl : List A) (x : List C), True := fun _ _ => trivial
      have hvs := var_slot hgt
      obtain ⟨t, ht⟩ : ∃ t, t = l[j] := ⟨_, rfl⟩
      rw [← ht] at hgt hbm hbf hrow hput hvs hszj
      clear ht
      obtain ⟨R, hR⟩ : ∃ R, R = buildT t P := ⟨_, rfl⟩
      rw [← hR] at hbm hbf
      obtain ⟨k', n', s', kids⟩ := t
      have hpt : putT P (.mk k' n' s' kids) j = if k' = 2 then P.emit 10 n' j [] else if k' = 1 then (match slotO P.sl n' with | some v => P.emit 9 v j [] | none => ((P.give n' P.next).bump).emit 8 P.next j []) else R.1.emit 9 R.2 j [] := by
        rw [hR]; rfl
      rw [hpt] at hput
      refine row_nat _ hrow rfl ?_
      cases hgt with
      | mk ho hk =>
        rcases own_cases ho with ⟨rfl, n0, n1, rfl, rfl⟩ | ⟨rfl, n0, n1, rfl, rfl⟩ | ⟨rfl, rfl, hs2, hl4⟩
        · obtain ⟨v, hv, hv26⟩ := hvs rfl
          simp only [Tm.n] at hv
          subst hv
          simp at hput
          cases hsv : slotO P.sl v with
          | some u =>
            simp only [hsv] at hput
            simp -implicitDefEqProofs [row_mk, cd_0 P hi, cd_1 P hi, cd_2 P hi, cd_len, Ref.re, hf1, slotsM_row, hsv, kw, ew, sw, tw, a_, b_, c_, -List.set_cons_succ, -List.set_cons_zero, A.ok, A.val, d_, e_, f_, g_, h_, i_, j_, k_, l_, m_, unA, unD, n_, AOp.total, o_, p_, q_, r_, s_, t_, u_, v_, A.thaw, C.thaw, A.fits, As.fits, C.fits, evs, oks, w_, A.pure, C.pure, A.re, C.re, x_, y_, cut, A.cells, C.rows?, z_, A_, B_, C_, D_, Ob.re, Cs.fits, E_, F_, G_, H_, I_, J_, K_, L_, M_, N_, O_, C.toD, P_, Q_, R_, S_, T_, Obs.fits, U_, eqD, V_, W_, X_, Y_, Z_]
            refine call_mk (add_makes P 9 u j [] (by omega) hPa) hi (by simp [Ob.re, C.re]) rfl (hf1 _) ?_
            rw [hput]
            simp -implicitDefEqProofs [hadd, cd_len, kw, ew, sw, tw, a_, b_, c_, -List.set_cons_succ, -List.set_cons_zero, A.ok, A.val, d_, e_, f_, g_, h_, i_, j_, k_, l_, m_, unA, unD, n_, AOp.total, o_, p_, q_, r_, s_, t_, u_, v_, A.thaw, C.thaw, A.fits, As.fits, C.fits, evs, oks, w_, A.pure, C.pure, A.re, C.re, x_, y_, cut, A.cells, C.rows?, z_, A_, B_, C_, D_, Ob.re, Cs.fits, E_, F_, G_, H_, I_, J_, K_, L_, M_, N_, O_, C.toD, P_, Q_, R_, S_, T_, Obs.fits, U_, eqD, V_, W_, X_, Y_, Z_]
            refine loop_less (j + 1, W) (St.le_cut [_] ?_ (by simp [cd_len, Sl.le, A.le_refl_iff, A.le_u_iff, As.lo, A.lo, C.lo, Ref.lo, Cs.lo, Obs.lo, Ob.lo, setAll, and_true, true_and, List.length_nil, List.length_cons]; omega) rfl (by simp [Sl.le, A.le_refl_iff, A.le_u_iff, As.lo, A.lo, C.lo, Ref.lo, Cs.lo, Obs.lo, Ob.lo, setAll, and_true, true_and, List.length_nil, List.length_cons])) ⟨hlt, hW⟩ (by show l.length - (j + 1) < l.length - j; omega)
            simp [setAll, Sl.le, A.le_refl_iff, A.le_u_iff, As.lo, A.lo, C.lo, Ref.lo, Cs.lo, Obs.lo, Ob.lo, setAll, and_true, true_and, List.length_nil, List.length_cons]
          | none =>
            simp only [hsv] at hput
            have hpu := slotsM_put v P.next P.sl hsv
            have hset := cd_set0 H i P.bump (P.give v P.next).bump rfl rfl
            have hse2 : slotO (P.sl ++ [((v : Int), P.next)]) v = some P.next := by rw [slotO_snoc _ _ _ _ hsv, if_pos rfl]
            simp -implicitDefEqProofs [row_mk, cd_0 P hi, cd_1 P hi, cd_2 P hi, cd_len, Ref.re, hf1, slotsM_row, hsv, kw, ew, sw, tw, a_, b_, c_, -List.set_cons_succ, -List.set_cons_zero, A.ok, A.val, d_, e_, f_, g_, h_, i_, j_, k_, l_, m_, unA, unD, n_, AOp.total, o_, p_, q_, r_, s_, t_, u_, v_, A.thaw, C.thaw, A.fits, As.fits, C.fits, evs, oks, w_, A.pure, C.pure, A.re, C.re, x_, y_, cut, A.cells, C.rows?, z_, A_, B_, C_, D_, Ob.re, Cs.fits, E_, F_, G_, H_, I_, J_, K_, L_, M_, N_, O_, C.toD, P_, Q_, R_, S_, T_, Obs.fits, U_, eqD, V_, W_, X_, Y_, Z_]
            refine call_mk (slot_makes P (by omega)) hi (by simp [Ob.re, C.re]) rfl (hf1 _) ?_
            refine ⟨⟨LocSame.refl _, cd_head _ _ hi⟩, ?_⟩
            simp -implicitDefEqProofs [cd_0 P.bump hi, cd_len, kw, ew, sw, tw, a_, b_, c_, -List.set_cons_succ, -List.set_cons_zero, A.ok, A.val, d_, e_, f_, g_, h_, i_, j_, k_, l_, m_, unA, unD, n_, AOp.total, o_, p_, q_, r_, s_, t_, u_, v_, A.thaw, C.thaw, A.fits, As.fits, C.fits, evs, oks, w_, A.pure, C.pure, A.re, C.re, x_, y_, cut, A.cells, C.rows?, z_, A_, B_, C_, D_, Ob.re, Cs.fits, E_, F_, G_, H_, I_, J_, K_, L_, M_, N_, O_, C.toD, P_, Q_, R_, S_, T_, Obs.fits, U_, eqD, V_, W_, X_, Y_, Z_]
            have hs0 : P.bump.sl = P.sl := rfl
            rw [hs0, hpu, show P.sl ++ [((v : Int), P.next)] = (P.give v P.next).bump.sl from rfl, hset]
            refine ⟨hf1 _, ?_⟩
            simp -implicitDefEqProofs [cd_0 _ hi, cd_1 _ hi, cd_2 _ hi, cd_len, Ref.re, hf1, slotsM_row, kw, ew, sw, tw, a_, b_, c_, -List.set_cons_succ, -List.set_cons_zero, A.ok, A.val, d_, e_, f_, g_, h_, i_, j_, k_, l_, m_, unA, unD, n_, AOp.total, o_, p_, q_, r_, s_, t_, u_, v_, A.thaw, C.thaw, A.fits, As.fits, C.fits, evs, oks, w_, A.pure, C.pure, A.re, C.re, x_, y_, cut, A.cells, C.rows?, z_, A_, B_, C_, D_, Ob.re, Cs.fits, E_, F_, G_, H_, I_, J_, K_, L_, M_, N_, O_, C.toD, P_, Q_, R_, S_, T_, Obs.fits, U_, eqD, V_, W_, X_, Y_, Z_]
            rw [show (P.give v P.next).bump.sl = P.sl ++ [((v : Int), P.next)] from rfl, hse2]
            simp -implicitDefEqProofs [cd_len, kw, ew, sw, tw, a_, b_, c_, -List.set_cons_succ, -List.set_cons_zero, A.ok, A.val, d_, e_, f_, g_, h_, i_, j_, k_, l_, m_, unA, unD, n_, AOp.total, o_, p_, q_, r_, s_, t_, u_, v_, A.thaw, C.thaw, A.fits, As.fits, C.fits, evs, oks, w_, A.pure, C.pure, A.re, C.re, x_, y_, cut, A.cells, C.rows?, z_, A_, B_, C_, D_, Ob.re, Cs.fits, E_, F_, G_, H_, I_, J_, K_, L_, M_, N_, O_, C.toD, P_, Q_, R_, S_, T_, Obs.fits, U_, eqD, V_, W_, X_, Y_, Z_]
            refine call_mk (add_makes (P.give v P.next).bump 8 P.next j [] (by show P.code.length ≤ _; omega) hPa) hi (by simp [Ob.re, C.re]) rfl (hf1 _) ?_
            rw [hput]
            simp -implicitDefEqProofs [hadd, cd_len, kw, ew, sw, tw, a_, b_, c_, -List.set_cons_succ, -List.set_cons_zero, A.ok, A.val, d_, e_, f_, g_, h_, i_, j_, k_, l_, m_, unA, unD, n_, AOp.total, o_, p_, q_, r_, s_, t_, u_, v_, A.thaw, C.thaw, A.fits, As.fits, C.fits, evs, oks, w_, A.pure, C.pure, A.re, C.re, x_, y_, cut, A.cells, C.rows?, z_, A_, B_, C_, D_, Ob.re, Cs.fits, E_, F_, G_, H_, I_, J_, K_, L_, M_, N_, O_, C.toD, P_, Q_, R_, S_, T_, Obs.fits, U_, eqD, V_, W_, X_, Y_, Z_]
            refine loop_less (j + 1, W) (St.le_cut [_] ?_ (by simp [cd_len, Sl.le, A.le_refl_iff, A.le_u_iff, As.lo, A.lo, C.lo, Ref.lo, Cs.lo, Obs.lo, Ob.lo, setAll, and_true, true_and, List.length_nil, List.length_cons]; omega) rfl (by simp [Sl.le, A.le_refl_iff, A.le_u_iff, As.lo, A.lo, C.lo, Ref.lo, Cs.lo, Obs.lo, Ob.lo, setAll, and_true, true_and, List.length_nil, List.length_cons])) ⟨hlt, hW⟩ (by show l.length - (j + 1) < l.length - j; omega)
            simp [setAll, Sl.le, A.le_refl_iff, A.le_u_iff, As.lo, A.lo, C.lo, Ref.lo, Cs.lo, Obs.lo, Ob.lo, setAll, and_true, true_and, List.length_nil, List.length_cons]
        · simp at hput
          simp -implicitDefEqProofs [row_mk, cd_0 P hi, cd_1 P hi, cd_2 P hi, cd_len, Ref.re, hf1, kw, ew, sw, tw, a_, b_, c_, -List.set_cons_succ, -List.set_cons_zero, A.ok, A.val, d_, e_, f_, g_, h_, i_, j_, k_, l_, m_, unA, unD, n_, AOp.total, o_, p_, q_, r_, s_, t_, u_, v_, A.thaw, C.thaw, A.fits, As.fits, C.fits, evs, oks, w_, A.pure, C.pure, A.re, C.re, x_, y_, cut, A.cells, C.rows?, z_, A_, B_, C_, D_, Ob.re, Cs.fits, E_, F_, G_, H_, I_, J_, K_, L_, M_, N_, O_, C.toD, P_, Q_, R_, S_, T_, Obs.fits, U_, eqD, V_, W_, X_, Y_, Z_]
          refine call_mk (add_makes P 10 n' j [] (by omega) hPa) hi (by simp [Ob.re, C.re]) rfl (hf1 _) ?_
          rw [hput]
          simp -implicitDefEqProofs [hadd, cd_len, kw, ew, sw, tw, a_, b_, c_, -List.set_cons_succ, -List.set_cons_zero, A.ok, A.val, d_, e_, f_, g_, h_, i_, j_, k_, l_, m_, unA, unD, n_, AOp.total, o_, p_, q_, r_, s_, t_, u_, v_, A.thaw, C.thaw, A.fits, As.fits, C.fits, evs, oks, w_, A.pure, C.pure, A.re, C.re, x_, y_, cut, A.cells, C.rows?, z_, A_, B_, C_, D_, Ob.re, Cs.fits, E_, F_, G_, H_, I_, J_, K_, L_, M_, N_, O_, C.toD, P_, Q_, R_, S_, T_, Obs.fits, U_, eqD, V_, W_, X_, Y_, Z_]
          refine loop_less (j + 1, W) (St.le_cut [_] ?_ (by simp [cd_len, Sl.le, A.le_refl_iff, A.le_u_iff, As.lo, A.lo, C.lo, Ref.lo, Cs.lo, Obs.lo, Ob.lo, setAll, and_true, true_and, List.length_nil, List.length_cons]; omega) rfl (by simp [Sl.le, A.le_refl_iff, A.le_u_iff, As.lo, A.lo, C.lo, Ref.lo, Cs.lo, Obs.lo, Ob.lo, setAll, and_true, true_and, List.length_nil, List.length_cons])) ⟨hlt, hW⟩ (by show l.length - (j + 1) < l.length - j; omega)
          simp [setAll, Sl.le, A.le_refl_iff, A.le_u_iff, As.lo, A.lo, C.lo, Ref.lo, Cs.lo, Obs.lo, Ob.lo, setAll, and_true, true_and, List.length_nil, List.length_cons]
        · simp at hput
          rw [row_mk] at hbm
          simp only [List.map_cons, List.map_nil] at hbm
          have hcd2 := hbf.1.code
          simp -implicitDefEqProofs [row_mk, cd_0 P hi, cd_1 P hi, cd_2 P hi, cd_len, Ref.re, hf1, kw, ew, sw, tw, a_, b_, c_, -List.set_cons_succ, -List.set_cons_zero, A.ok, A.val, d_, e_, f_, g_, h_, i_, j_, k_, l_, m_, unA, unD, n_, AOp.total, o_, p_, q_, r_, s_, t_, u_, v_, A.thaw, C.thaw, A.fits, As.fits, C.fits, evs, oks, w_, A.pure, C.pure, A.re, C.re, x_, y_, cut, A.cells, C.rows?, z_, A_, B_, C_, D_, Ob.re, Cs.fits, E_, F_, G_, H_, I_, J_, K_, L_, M_, N_, O_, C.toD, P_, Q_, R_, S_, T_, Obs.fits, U_, eqD, V_, W_, X_, Y_, Z_]
          refine call_mk hbm hi (by simp [Ob.re, C.re]) rfl (hf1 _) ?_
          simp -implicitDefEqProofs [cd_len, Ref.re, hf1, kw, ew, sw, tw, a_, b_, c_, -List.set_cons_succ, -List.set_cons_zero, A.ok, A.val, d_, e_, f_, g_, h_, i_, j_, k_, l_, m_, unA, unD, n_, AOp.total, o_, p_, q_, r_, s_, t_, u_, v_, A.thaw, C.thaw, A.fits, As.fits, C.fits, evs, oks, w_, A.pure, C.pure, A.re, C.re, x_, y_, cut, A.cells, C.rows?, z_, A_, B_, C_, D_, Ob.re, Cs.fits, E_, F_, G_, H_, I_, J_, K_, L_, M_, N_, O_, C.toD, P_, Q_, R_, S_, T_, Obs.fits, U_, eqD, V_, W_, X_, Y_, Z_]
          refine call_mk (add_makes R.1 9 R.2 j [] (by omega) hbf.1.all) hi (by simp [Ob.re, C.re]) rfl (hf1 _) ?_
          rw [hput]
          simp -implicitDefEqProofs [hadd, cd_len, kw, ew, sw, tw, a_, b_, c_, -List.set_cons_succ, -List.set_cons_zero, A.ok, A.val, d_, e_, f_, g_, h_, i_, j_, k_, l_, m_, unA, unD, n_, AOp.total, o_, p_, q_, r_, s_, t_, u_, v_, A.thaw, C.thaw, A.fits, As.fits, C.fits, evs, oks, w_, A.pure, C.pure, A.re, C.re, x_, y_, cut, A.cells, C.rows?, z_, A_, B_, C_, D_, Ob.re, Cs.fits, E_, F_, G_, H_, I_, J_, K_, L_, M_, N_, O_, C.toD, P_, Q_, R_, S_, T_, Obs.fits, U_, eqD, V_, W_, X_, Y_, Z_]
          refine loop_less (j + 1, W) (St.le_cut [_] ?_ (by simp [cd_len, Sl.le, A.le_refl_iff, A.le_u_iff, As.lo, A.lo, C.lo, Ref.lo, Cs.lo, Obs.lo, Ob.lo, setAll, and_true, true_and, List.length_nil, List.length_cons]; omega) rfl (by simp [Sl.le, A.le_refl_iff, A.le_u_iff, As.lo, A.lo, C.lo, Ref.lo, Cs.lo, Obs.lo, Ob.lo, setAll, and_true, true_and, List.length_nil, List.length_cons])) ⟨hlt, hW⟩ (by show l.length - (j + 1) < l.length - j; omega)
          simp [setAll, Sl.le, A.le_refl_iff, A.le_u_iff, As.lo, A.lo, C.lo, Ref.lo, Cs.lo, Obs.lo, Ob.lo, setAll, and_true, true_and, List.length_nil, List.length_cons]
    · obtain rfl : j = l.length := by omega
      rw [List.take_length, ← hG] at e1
      subst e1
      have hPc := hGf.code
      have hPa := hGf.all
      simp -implicitDefEqProofs [hf1, cd_len, kw, ew, sw, tw, a_, b_, c_, -List.set_cons_succ, -List.set_cons_zero, A.ok, A.val, d_, e_, f_, g_, h_, i_, j_, k_, l_, m_, unA, unD, n_, AOp.total, o_, p_, q_, r_, s_, t_, u_, v_, A.thaw, C.thaw, A.fits, As.fits, C.fits, evs, oks, w_, A.pure, C.pure, A.re, C.re, x_, y_, cut, A.cells, C.rows?, z_, A_, B_, C_, D_, Ob.re, Cs.fits, E_, F_, G_, H_, I_, J_, K_, L_, M_, N_, O_, C.toD, P_, Q_, R_, S_, T_, Obs.fits, U_, eqD, V_, W_, X_, Y_, Z_]
      refine qcall_pure c2 (by simpa [cd_len] using hf1 P) rfl ?_
      cases hbb : builtB s l.length with
      | true =>
        simp -implicitDefEqProofs [hli, hf1, cd_len, Ref.re, kw, ew, sw, tw, a_, b_, c_, -List.set_cons_succ, -List.set_cons_zero, A.ok, A.val, d_, e_, f_, g_, h_, i_, j_, k_, l_, m_, unA, unD, n_, AOp.total, o_, p_, q_, r_, s_, t_, u_, v_, A.thaw, C.thaw, A.fits, As.fits, C.fits, evs, oks, w_, A.pure, C.pure, A.re, C.re, x_, y_, cut, A.cells, C.rows?, z_, A_, B_, C_, D_, Ob.re, Cs.fits, E_, F_, G_, H_, I_, J_, K_, L_, M_, N_, O_, C.toD, P_, Q_, R_, S_, T_, Obs.fits, U_, eqD, V_, W_, X_, Y_, Z_]
        refine call_mk (add_makes P 12 l.length 0 s (by omega) hPa) hi (by simp [Ob.re, C.re]) rfl (hf1 _) ?_
        simp -implicitDefEqProofs [cd_len, kw, ew, sw, tw, a_, b_, c_, -List.set_cons_succ, -List.set_cons_zero, A.ok, A.val, d_, e_, f_, g_, h_, i_, j_, k_, l_, m_, unA, unD, n_, AOp.total, o_, p_, q_, r_, s_, t_, u_, v_, A.thaw, C.thaw, A.fits, As.fits, C.fits, evs, oks, w_, A.pure, C.pure, A.re, C.re, x_, y_, cut, A.cells, C.rows?, z_, A_, B_, C_, D_, Ob.re, Cs.fits, E_, F_, G_, H_, I_, J_, K_, L_, M_, N_, O_, C.toD, P_, Q_, R_, S_, T_, Obs.fits, U_, eqD, V_, W_, X_, Y_, Z_]
      | false =>
        simp -implicitDefEqProofs [hli, hf1, cd_len, Ref.re, kw, ew, sw, tw, a_, b_, c_, -List.set_cons_succ, -List.set_cons_zero, A.ok, A.val, d_, e_, f_, g_, h_, i_, j_, k_, l_, m_, unA, unD, n_, AOp.total, o_, p_, q_, r_, s_, t_, u_, v_, A.thaw, C.thaw, A.fits, As.fits, C.fits, evs, oks, w_, A.pure, C.pure, A.re, C.re, x_, y_, cut, A.cells, C.rows?, z_, A_, B_, C_, D_, Ob.re, Cs.fits, E_, F_, G_, H_, I_, J_, K_, L_, M_, N_, O_, C.toD, P_, Q_, R_, S_, T_, Obs.fits, U_, eqD, V_, W_, X_, Y_, Z_]
        refine call_mk (add_makes P 11 l.length 0 s (by omega) hPa) hi (by simp [Ob.re, C.re]) rfl (hf1 _) ?_
        simp -implicitDefEqProofs [cd_len, kw, ew, sw, tw, a_, b_, c_, -List.set_cons_succ, -List.set_cons_zero, A.ok, A.val, d_, e_, f_, g_, h_, i_, j_, k_, l_, m_, unA, unD, n_, AOp.total, o_, p_, q_, r_, s_, t_, u_, v_, A.thaw, C.thaw, A.fits, As.fits, C.fits, evs, oks, w_, A.pure, C.pure, A.re, C.re, x_, y_, cut, A.cells, C.rows?, z_, A_, B_, C_, D_, Ob.re, Cs.fits, E_, F_, G_, H_, I_, J_, K_, L_, M_, N_, O_, C.toD, P_, Q_, R_, S_, T_, Obs.fits, U_, eqD, V_, W_, X_, Y_, Z_]
end Go.Proofs.Ytaegeehpajlebaa
