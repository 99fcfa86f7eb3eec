/-
  Code of queries and clauses, as values and as memory that is handed out.
  Conditions: none.
-/
import Derived.Test.YtaegeehpajlebaaCmJ
import Derived.Test.YtaegeehpajlebaaTermO
open Go Go.AM Go.Proofs
namespace Go.Proofs.Ytaegeehpajlebaa
open Go.ChangeShapes Go.WideShapes Go.ChangeAt Go.RowKit
set_option linter.unusedVariables false
set_option linter.unusedSimpArgs false
set_option maxRecDepth 100000
-- 62 (*loop.example/prologserver/impl.coding).body params 2 ntmps 24
-- loop head live: [0, 7, 8, 9]
def ac62 : Cd := .seq (.region [⟨(some 4), .mv (.k (.c (.full []))), none⟩] [4])
  (.seq (.seq (.region [⟨(some 7), .mv (.t 1), none⟩,
        ⟨(some 8), .len 1 (.t 7), none⟩,
        ⟨(some 9), .mv (.k (.c (.d (.int .i64 0)))), none⟩] [1])
    (.block 0 (.loop (.seq (.region [⟨(some 10), .bin .lss (.t 9) (.t 8), none⟩] [])
        (.seq (.cond (.t 10)
            (.skip)
            (.exit 0))
        (.seq (.block 1 (.seq (.region [⟨(some 11), .indexAddr 4 (.t 7) (.t 9), none⟩,
                ⟨(some 12), .load (some 4) (.t 11), none⟩,
                ⟨(some 6), .alloc [(.d (.int .i64 0)), (.d (.int .i64 0)), (.d (.str [])), (.full [])], none⟩,
                ⟨none, .store 4 (.t 6) (.t 12), none⟩] [10, 11, 12])
            (.region [⟨(some 13), .mv (.t 0), none⟩,
              ⟨(some 14), .load (some 4) (.t 6), none⟩,
              ⟨(some 15), .call false 81 [(.t 13), (.t 14)], none⟩] [6, 13, 14, 15])))
        (.region [⟨(some 16), .bin .add (.t 9) (.k (.c (.d (.int .i64 1)))), none⟩,
          ⟨(some 9), .mv (.t 16), none⟩] [16])))))))
  (.seq (.region [⟨(some 17), .mv (.t 0), none⟩,
      ⟨(some 18), .build [(.d (.int .i64 0)), (.d (.int .i64 0)), (.d (.int .i64 0)), (.d (.str []))] [(0, 1, (.k (.c (.d (.int .i64 14)))))], none⟩,
      ⟨(some 19), .call false 82 [(.t 17), (.t 18)], none⟩] [17, 18, 19])
  (.seq (.region [⟨(some 20), .mv (.t 0), none⟩,
      ⟨(some 21), .nilCheck (.t 20), none⟩,
      ⟨(some 22), .fieldAddr 2 (.t 21), none⟩,
      ⟨(some 23), .load none (.t 22), none⟩,
      ⟨(some 4), .mv (.t 23), none⟩] [0, 20, 21, 22, 23])
  (.ret))))
theorem ac62_ok : cFunc Try.prog [] [(0, [4], []), (1, [1], []), (2, [], []), (3, [10, 11, 12], []), (4, [6, 13, 14, 15], []), (5, [16], []), (6, [17, 18, 19], []), (7, [0, 20, 21, 22, 23], [])] Try.f62 = some (ac62, [.tmp 4], 24) := by kernel_rfl
theorem body_calls (l : List Tm) (hl : l.length ≤ 6) (hft : ∀ t ∈ l, t.fits) (hg : ∀ t ∈ l, t.goal = true) (M : Mk) (B : Nat) (hB : B ≤ 10000) (hM : M.fit B) (H : Heap) (i : Nat) (hi : i + 2 < H.length) :
    ACalls Try.prog 62 [.c (.ptr (.e (i + 1)) 0), .c (.d (.sl (l.map Tm.row)))] (cd H i M) (fun r H' => r = .c (.own (.e (i + 2)) (bodyT l M).code.length (bodyT l M).code) ∧ H' = cd H i (bodyT l M)) := by
  refine acalls Try.func62 (by kernel_rfl) ac62_ok fun hf => ?_
  rw [cd_len] at hf
  have hf1 := fun M' => cd_fits (M' := M') hf hi
  have hli : inR .i64 (l.length : Int) := small_i64 (by omega) (by omega)
  have hsz := goals_sizes l hg
  simp -implicitDefEqProofs [ac62, hli, kw, ew, sw, tw, a_, b_, c_, -List.set_cons_succ, -List.set_cons_zero, A.ok, A.val, d_, e_, f_, g_, h_, i_, j_, k_, l_, m_, unA, unD, n_, AOp.total, o_, p_, q_, r_, s_, t_, u_, v_, A.thaw, C.thaw, A.fits, As.fits, C.fits, evs, oks, w_, A.pure, C.pure, A.re, C.re, x_, y_, cut, A.cells, C.rows?, z_, A_, B_, C_, D_, Ob.re, Cs.fits, E_, F_, G_, H_, I_, J_, K_, L_, M_, N_, O_, C.toD, P_, Q_, R_, S_, T_, Obs.fits, U_, eqD, V_, W_, X_, Y_, Z_]
  refine loop_set (σ := Nat × Mk) (fun x => [(9, .c (.d (.int .i64 x.1)))]) (fun x => cd H i x.2) (fun x => [])
    (fun x => x.1 ≤ l.length ∧ (∃ cc, x.2.fit cc ∧ cc + 9 * sizes (l.drop x.1) ≤ B + 9 * sizes l) ∧ bodyT (l.drop x.1) x.2 = bodyT l M) (fun x => l.length - x.1) (0, M) (by simp [setAll]) ⟨Nat.zero_le _, ⟨B, hM, by simp⟩, by simp⟩ ?_
  rintro ⟨j, N⟩ ⟨hj, ⟨cc, hN, hC⟩, h1⟩
  simp only at hj hN hC h1
  have hnx := hN.next
  have hcd := hN.code
  have hal := hN.all
  simp -implicitDefEqProofs [setAll, hli, kw, ew, sw, tw, a_, b_, c_, -List.set_cons_succ, -List.set_cons_zero, A.ok, A.val, d_, e_, f_, g_, h_, i_, j_, k_, l_, m_, unA, unD, n_, AOp.total, o_, p_, q_, r_, s_, t_, u_, v_, A.thaw, C.thaw, A.fits, As.fits, C.fits, evs, oks, w_, A.pure, C.pure, A.re, C.re, x_, y_, cut, A.cells, C.rows?, z_, A_, B_, C_, D_, Ob.re, Cs.fits, E_, F_, G_, H_, I_, J_, K_, L_, M_, N_, O_, C.toD, P_, Q_, R_, S_, T_, Obs.fits, U_, eqD, V_, W_, X_, Y_, Z_]
  refine ⟨fun hlt => ?_, fun hge => ?_⟩
  · have hadd : inR .i64 ((j : Int) + 1) := small_i64 (by omega) (by omega)
    have hd : l.drop j = l[j] :: l.drop (j + 1) := List.drop_eq_getElem_cons hlt
    rw [hd, sizes] at hC
    have hgf := goal_fit l[j] hN
    rw [hd, bodyT, goalsT] at h1
    have hgo := hg _ (List.getElem_mem hlt)
    simp only [Tm.goal, Bool.and_eq_true] at hgo
    have hv := hgo.1
    simp only [Tm.valid, Bool.and_eq_true, decide_eq_true_eq] at hv
    have hk3 : l[j].k = 3 := by
      have h2 := hgo.2
      simp [Tm.plain, Tm.built, Tm.cutB] at h2
      rcases h2 with (h2 | h2) | h2 <;> exact h2.1
    have hps := size_pos l[j]
    have cg := goal_makes l[j] (hft _ (List.getElem_mem hlt)) (shape_good _ _ hv.1) hk3 (by omega) N _ (by omega) hN
    refine row_of hlt (row_len _) ?_
    rw [row_eq] at cg ⊢
    simp only [List.map_cons, List.map_nil] at cg
    simp -implicitDefEqProofs [hf1, cd_len, Ref.re, kw, ew, sw, tw, a_, b_, c_, -List.set_cons_succ, -List.set_cons_zero, A.ok, A.val, d_, e_, f_, g_, h_, i_, j_, k_, l_, m_, unA, unD, n_, AOp.total, o_, p_, q_, r_, s_, t_, u_, v_, A.thaw, C.thaw, A.fits, As.fits, C.fits, evs, oks, w_, A.pure, C.pure, A.re, C.re, x_, y_, cut, A.cells, C.rows?, z_, A_, B_, C_, D_, Ob.re, Cs.fits, E_, F_, G_, H_, I_, J_, K_, L_, M_, N_, O_, C.toD, P_, Q_, R_, S_, T_, Obs.fits, U_, eqD, V_, W_, X_, Y_, Z_]
    refine call_mk cg hi (by simp [Ob.re, C.re]) rfl (hf1 _) ?_
    simp -implicitDefEqProofs [hadd, cd_len, kw, ew, sw, tw, a_, b_, c_, -List.set_cons_succ, -List.set_cons_zero, A.ok, A.val, d_, e_, f_, g_, h_, i_, j_, k_, l_, m_, unA, unD, n_, AOp.total, o_, p_, q_, r_, s_, t_, u_, v_, A.thaw, C.thaw, A.fits, As.fits, C.fits, evs, oks, w_, A.pure, C.pure, A.re, C.re, x_, y_, cut, A.cells, C.rows?, z_, A_, B_, C_, D_, Ob.re, Cs.fits, E_, F_, G_, H_, I_, J_, K_, L_, M_, N_, O_, C.toD, P_, Q_, R_, S_, T_, Obs.fits, U_, eqD, V_, W_, X_, Y_, Z_]
    refine loop_less (j + 1, goalT l[j] N) (St.le_cut [_] ?_ (by simp [cd_len, Sl.le, A.le_refl_iff, A.le_u_iff, As.lo, A.lo, C.lo, Ref.lo, Cs.lo, Obs.lo, Ob.lo, setAll, and_true, true_and, List.length_nil, List.length_cons]; omega) rfl (by simp [Sl.le, A.le_refl_iff, A.le_u_iff, As.lo, A.lo, C.lo, Ref.lo, Cs.lo, Obs.lo, Ob.lo, setAll, and_true, true_and, List.length_nil, List.length_cons])) ⟨hlt, ⟨_, hgf, by dsimp only; omega⟩, h1⟩ (by show l.length - (j + 1) < l.length - j; omega)
    simp [setAll, Sl.le, A.le_refl_iff, A.le_u_iff, As.lo, A.lo, C.lo, Ref.lo, Cs.lo, Obs.lo, Ob.lo, setAll, and_true, true_and, List.length_nil, List.length_cons]
  · obtain rfl : j = l.length := by omega
    rw [List.drop_of_length_le (by omega)] at h1
    have e : bodyT [] N = N.emit 14 0 0 [] := rfl
    rw [← h1, e]
    simp -implicitDefEqProofs [hf1, cd_len, Ref.re, kw, ew, sw, tw, a_, b_, c_, -List.set_cons_succ, -List.set_cons_zero, A.ok, A.val, d_, e_, f_, g_, h_, i_, j_, k_, l_, m_, unA, unD, n_, AOp.total, o_, p_, q_, r_, s_, t_, u_, v_, A.thaw, C.thaw, A.fits, As.fits, C.fits, evs, oks, w_, A.pure, C.pure, A.re, C.re, x_, y_, cut, A.cells, C.rows?, z_, A_, B_, C_, D_, Ob.re, Cs.fits, E_, F_, G_, H_, I_, J_, K_, L_, M_, N_, O_, C.toD, P_, Q_, R_, S_, T_, Obs.fits, U_, eqD, V_, W_, X_, Y_, Z_]
    refine call_mk (add_makes N 14 0 0 [] (by omega) hal) hi (by simp [Ob.re, C.re]) rfl (hf1 _) ?_
    simp -implicitDefEqProofs [cd_1 (N.emit 14 0 0 []) hi, cd_len, hf1, kw, ew, sw, tw, a_, b_, c_, -List.set_cons_succ, -List.set_cons_zero, A.ok, A.val, d_, e_, f_, g_, h_, i_, j_, k_, l_, m_, unA, unD, n_, AOp.total, o_, p_, q_, r_, s_, t_, u_, v_, A.thaw, C.thaw, A.fits, As.fits, C.fits, evs, oks, w_, A.pure, C.pure, A.re, C.re, x_, y_, cut, A.cells, C.rows?, z_, A_, B_, C_, D_, Ob.re, Cs.fits, E_, F_, G_, H_, I_, J_, K_, L_, M_, N_, O_, C.toD, P_, Q_, R_, S_, T_, Obs.fits, U_, eqD, V_, W_, X_, Y_, Z_]
    show i + 2 < H.length + 0
    omega
def cdCl (j : Nat) (M : Mk) : Ob := .cells [.map (.l j), .d (.int .i64 M.next), .own (.l (j + 2)) M.code.length M.code]
theorem cd_mid (H T : Heap) (a b c : Ob) (M : Mk) : cd (H ++ a :: b :: c :: T) H.length M = H ++ cdM M :: cdC H.length M :: cdG M :: T := by
  simp only [cd]
  rw [List.set_append_right _ _ (by omega), List.set_append_right _ _ (by omega), List.set_append_right _ _ (by omega)]
  simp
theorem loc_re (n : Nat) (pre post : Heap) (M : Mk) : (pre ++ cdM M :: cdCl pre.length M :: cdG M :: post).map (Ob.re n) = pre.map (Ob.re n) ++ cdM M :: cdC (n + pre.length) M :: cdG M :: post.map (Ob.re n) := by
  simp [cdM, cdC, cdCl, cdG, Ob.re, C.re, Ref.re, Nat.add_assoc]
/-- the code that is made, among the own objects -/
theorem heap_cd (ext pre post : Heap) (M M' : Mk) : cd (ext ++ (pre ++ cdM M :: cdCl pre.length M :: cdG M :: post).map (Ob.re ext.length)) (ext.length + pre.length) M' = ext ++ (pre ++ cdM M' :: cdCl pre.length M' :: cdG M' :: post).map (Ob.re ext.length) := by
  rw [loc_re, loc_re, ← List.append_assoc, ← List.append_assoc]
  have := cd_mid (ext ++ pre.map (Ob.re ext.length)) (post.map (Ob.re ext.length)) (cdM M) (cdC (ext.length + pre.length) M) (cdG M) M'
  simp only [List.length_append, List.length_map] at this
  exact this
theorem call_mkL {f : FuncId} {xs : List A} {M M' : Mk} {r : A} (hd : Makes f xs M M' r) {sl : List A} {ext pre post H₂ : Heap} {q : Nat} {K : A → St → Prop} (hq : q = ext.length + pre.length + 1)
    (hH : H₂ = ext ++ (pre ++ cdM M :: cdCl pre.length M :: cdG M :: post).map (Ob.re ext.length)) (hr : A.re ext.length r = r) (hf : Obs.fits ext.length 0 ext) (hk : K r ⟨sl, ext, pre ++ cdM M' :: cdCl pre.length M' :: cdG M' :: post⟩) :
    ACalls Try.prog f (.c (.ptr (.e q) 0) :: xs) H₂ (CallK K ⟨sl, ext, pre ++ cdM M :: cdCl pre.length M :: cdG M :: post⟩) := by
  subst hH; subst hq
  have h := hd (ext ++ (pre ++ cdM M :: cdCl pre.length M :: cdG M :: post).map (Ob.re ext.length)) (ext.length + pre.length) (by simp; omega)
  rw [heap_cd, heap_cd] at h
  exact h.mono fun r' H' ⟨h1, h2⟩ => ⟨ext, _, r, h2, rfl, by simp, hf, by rw [h1, hr], hk⟩
theorem call_newC {sl : List A} {ext loc H₂ : Heap} {K : A → St → Prop} (hH : H₂ = ext ++ loc.map (Ob.re ext.length)) (hf : Obs.fits ext.length 0 ext) (hk : K (.c (.ptr (.l (loc.length + 1)) 0)) ⟨sl, ext, loc ++ [cdM mk0, cdCl loc.length mk0, cdG mk0]⟩) :
    ACalls Try.prog 61 [] H₂ (CallK K ⟨sl, ext, loc⟩) := by
  subst hH
  refine (new_calls _).mono fun r' H' ⟨h1, h2⟩ => ⟨ext, loc ++ [cdM mk0, cdCl loc.length mk0, cdG mk0], .c (.ptr (.l (loc.length + 1)) 0), ?_, rfl, by simp, hf, ?_, hk⟩
  · rw [h2]
    simp [cdM, cdCl, cdG, mk0, slotsM, Ob.re, C.re, Ref.re, Nat.add_assoc]
  · rw [h1]
    simp [A.re, C.re, Ref.re, Nat.add_assoc]
theorem call_body {l : List Tm} (hl : l.length ≤ 6) (hft : ∀ t ∈ l, t.fits) (hg : ∀ t ∈ l, t.goal = true) {M : Mk} {B : Nat} (hB : B ≤ 10000) (hM : M.fit B) {sl : List A} {ext H₂ : Heap} (pre post : Heap) {q : Nat} {K : A → St → Prop} (hq : q = ext.length + pre.length + 1)
    (hH : H₂ = ext ++ (pre ++ cdM M :: cdCl pre.length M :: cdG M :: post).map (Ob.re ext.length)) (hf : Obs.fits ext.length 0 ext)
    (hk : K (.c (.own (.l (pre.length + 2)) (bodyT l M).code.length (bodyT l M).code)) ⟨sl, ext, pre ++ cdM (bodyT l M) :: cdCl pre.length (bodyT l M) :: cdG (bodyT l M) :: post⟩) :
    ACalls Try.prog 62 [.c (.ptr (.e q) 0), .c (.d (.sl (l.map Tm.row)))] H₂ (CallK K ⟨sl, ext, pre ++ cdM M :: cdCl pre.length M :: cdG M :: post⟩) := by
  subst hH; subst hq
  have h := body_calls l hl hft hg M B hB hM (ext ++ (pre ++ cdM M :: cdCl pre.length M :: cdG M :: post).map (Ob.re ext.length)) (ext.length + pre.length) (by simp; omega)
  rw [heap_cd, heap_cd] at h
  exact h.mono fun r' H' ⟨h1, h2⟩ => ⟨ext, _, _, h2, rfl, by simp, hf, by rw [h1]; rfl, hk⟩
theorem goalsB_all {l : List Tm} (h : goalsB l = true) : l.length ≤ 6 ∧ ∀ t ∈ l, t.goal = true := by
  simpa [goalsB] using h
theorem code_flat (M : Mk) (B : Nat) (h : M.fit B) : Flat M.code := by
  intro x hx
  obtain ⟨r, hr, hx⟩ := List.mem_flatten.1 hx
  obtain ⟨y, rfl⟩ := h.rows r hr
  simp [Ins.row] at hx
  rcases hx with rfl | rfl | rfl | rfl <;> rfl
/-- rows and a bool are handed out -/
def HandsCode (rows : List (List D)) (b : Bool) (r : A) (H : Heap) : Prop := ∃ v : Value, r = .tup [.c (.d (.v v)), .c (.d (.bool b))] ∧ H = [.tree v rows]
theorem HandsCode.handed {rows : List (List D)} {b : Bool} {r : A} {H : Heap} (h : HandsCode rows b r H) : Handed r H := by
  obtain ⟨v, rfl, rfl⟩ := h
  exact ⟨rfl, rfl⟩
namespace Own
-- 21 loop.example/prologserver/impl.CompileQuery params 1 ntmps 10
def ac21 : Cd := .seq (.region [⟨(some 2), .mv (.k (.c (.full []))), none⟩,
      ⟨(some 3), .mv (.k (.c (.d (.bool false)))), none⟩] [2, 3])
  (.seq (.seq (.region [⟨(some 4), .mv (.t 0), none⟩,
        ⟨(some 5), .qcall 60 [(.t 4)], none⟩,
        ⟨(some 6), .un .not (.t 5), none⟩] [4, 5])
    (.cond (.t 6)
      (.seq (.region [⟨(some 2), .mv (.k (.c (.full []))), none⟩,
          ⟨(some 3), .mv (.k (.c (.d (.bool false)))), none⟩] [0, 6])
      (.ret))
      (.skip)))
  (.seq (.region [⟨(some 7), .call false 61 [], none⟩,
      ⟨(some 8), .mv (.t 0), none⟩,
      ⟨(some 9), .call false 62 [(.t 7), (.t 8)], none⟩,
      ⟨(some 2), .mv (.t 9), none⟩,
      ⟨(some 3), .mv (.k (.c (.d (.bool true)))), none⟩] [0, 6, 7, 8, 9])
  (.ret)))
theorem ac21_ok : cFunc Try.prog [1000060] [(0, [2, 3], []), (1, [4, 5], []), (2, [0, 6], []), (3, [0, 6, 7, 8, 9], [])] Try.f21 = some (ac21, [.tmp 2, .tmp 3], 10) := by kernel_rfl
-- 67 loop.example/prologserver/impl.compileClause params 1 ntmps 14
def ac67 : Cd := .seq (.region [⟨(some 1), .box (.t 0), none⟩,
      ⟨(some 2), .mv (.k (.c (.full []))), none⟩] [0, 2])
  (.seq (.region [⟨(some 4), .call false 61 [], none⟩,
      ⟨(some 3), .mv (.t 4), none⟩] [4])
  (.seq (.region [⟨(some 5), .mv (.t 3), none⟩,
      ⟨(some 6), .fieldAddr 0 (.t 1), none⟩,
      ⟨(some 7), .fieldAddr 3 (.t 6), none⟩,
      ⟨(some 8), .load none (.t 7), none⟩,
      ⟨(some 9), .call false 86 [(.t 5), (.t 8)], none⟩] [5, 6, 7, 8, 9])
  (.seq (.region [⟨(some 10), .mv (.t 3), none⟩,
      ⟨(some 11), .fieldAddr 4 (.t 1), none⟩,
      ⟨(some 12), .load none (.t 11), none⟩,
      ⟨(some 13), .call false 62 [(.t 10), (.t 12)], none⟩,
      ⟨(some 2), .mv (.t 13), none⟩] [1, 3, 10, 11, 12, 13])
  (.ret))))
theorem ac67_ok : cFunc Try.prog [] [(0, [0, 2], []), (1, [4], []), (2, [5, 6, 7, 8, 9], []), (3, [1, 3, 10, 11, 12, 13], [])] Try.f67 = some (ac67, [.tmp 2], 14) := by kernel_rfl
-- 30 loop.example/prologserver/impl.CompileClause params 1 ntmps 9
def ac30 : Cd := .seq (.region [⟨(some 1), .box (.t 0), none⟩,
      ⟨(some 2), .mv (.k (.c (.full []))), none⟩,
      ⟨(some 3), .mv (.k (.c (.d (.bool false)))), none⟩] [0, 2, 3])
  (.seq (.seq (.region [⟨(some 4), .load (some 5) (.t 1), none⟩,
        ⟨(some 5), .qcall 66 [(.t 4)], none⟩,
        ⟨(some 6), .un .not (.t 5), none⟩] [4, 5])
    (.cond (.t 6)
      (.seq (.region [⟨(some 2), .mv (.k (.c (.full []))), none⟩,
          ⟨(some 3), .mv (.k (.c (.d (.bool false)))), none⟩] [1, 6])
      (.ret))
      (.skip)))
  (.seq (.region [⟨(some 7), .load (some 5) (.t 1), none⟩,
      ⟨(some 8), .call false 67 [(.t 7)], none⟩,
      ⟨(some 2), .mv (.t 8), none⟩,
      ⟨(some 3), .mv (.k (.c (.d (.bool true)))), none⟩] [1, 6, 7, 8])
  (.ret)))
theorem ac30_ok : cFunc Try.prog [1000066] [(0, [0, 2, 3], []), (1, [4, 5], []), (2, [1, 6], []), (3, [1, 6, 7, 8], [])] Try.f30 = some (ac30, [.tmp 2, .tmp 3], 9) := by kernel_rfl
end Own
theorem cqImpl_calls (l : List Tm) (hl : l.length ≤ 1048576) (hft : ∀ t ∈ l, t.fits) (H : Heap) : ACalls Try.prog 21 [.c (.d (.sl (l.map Tm.row)))] H
    (fun r H' => H' = H ∧ r = .tup [.c (.d (.sl (if goalsB l then codeQ l else []))), .c (.d (.bool (goalsB l)))]) := by
  refine acalls Try.func21 (by kernel_rfl) Own.ac21_ok fun hf => ?_
  simp -implicitDefEqProofs [Own.ac21, kw, ew, sw, tw, a_, b_, c_, -List.set_cons_succ, -List.set_cons_zero, A.ok, A.val, d_, e_, f_, g_, h_, i_, j_, k_, l_, m_, unA, unD, n_, AOp.total, o_, p_, q_, r_, s_, t_, u_, v_, A.thaw, C.thaw, A.fits, As.fits, C.fits, evs, oks, w_, A.pure, C.pure, A.re, C.re, x_, y_, cut, A.cells, C.rows?, z_, A_, B_, C_, D_, Ob.re, Cs.fits, E_, F_, G_, H_, I_, J_, K_, L_, M_, N_, O_, C.toD, P_, Q_, R_, S_, T_, Obs.fits, U_, eqD, V_, W_, X_, Y_, Z_]
  refine qcall_pure (qvImpl_calls l hl hft) hf rfl ?_
  cases hv : goalsB l with
  | false => simp -implicitDefEqProofs [kw, ew, sw, tw, a_, b_, c_, -List.set_cons_succ, -List.set_cons_zero, A.ok, A.val, d_, e_, f_, g_, h_, i_, j_, k_, l_, m_, unA, unD, n_, AOp.total, o_, p_, q_, r_, s_, t_, u_, v_, A.thaw, C.thaw, A.fits, As.fits, C.fits, evs, oks, w_, A.pure, C.pure, A.re, C.re, x_, y_, cut, A.cells, C.rows?, z_, A_, B_, C_, D_, Ob.re, Cs.fits, E_, F_, G_, H_, I_, J_, K_, L_, M_, N_, O_, C.toD, P_, Q_, R_, S_, T_, Obs.fits, U_, eqD, V_, W_, X_, Y_, Z_]
  | true =>
    simp -implicitDefEqProofs [kw, ew, sw, tw, a_, b_, c_, -List.set_cons_succ, -List.set_cons_zero, A.ok, A.val, d_, e_, f_, g_, h_, i_, j_, k_, l_, m_, unA, unD, n_, AOp.total, o_, p_, q_, r_, s_, t_, u_, v_, A.thaw, C.thaw, A.fits, As.fits, C.fits, evs, oks, w_, A.pure, C.pure, A.re, C.re, x_, y_, cut, A.cells, C.rows?, z_, A_, B_, C_, D_, Ob.re, Cs.fits, E_, F_, G_, H_, I_, J_, K_, L_, M_, N_, O_, C.toD, P_, Q_, R_, S_, T_, Obs.fits, U_, eqD, V_, W_, X_, Y_, Z_]
    refine call_newC (by simp) hf ?_
    simp -implicitDefEqProofs [hf, kw, ew, sw, tw, a_, b_, c_, -List.set_cons_succ, -List.set_cons_zero, A.ok, A.val, d_, e_, f_, g_, h_, i_, j_, k_, l_, m_, unA, unD, n_, AOp.total, o_, p_, q_, r_, s_, t_, u_, v_, A.thaw, C.thaw, A.fits, As.fits, C.fits, evs, oks, w_, A.pure, C.pure, A.re, C.re, x_, y_, cut, A.cells, C.rows?, z_, A_, B_, C_, D_, Ob.re, Cs.fits, E_, F_, G_, H_, I_, J_, K_, L_, M_, N_, O_, C.toD, P_, Q_, R_, S_, T_, Obs.fits, U_, eqD, V_, W_, X_, Y_, Z_]
    obtain ⟨g1, g2⟩ := goalsB_all hv
    refine call_body g1 hft g2 (by omega) mk0_fit [] [] rfl rfl hf ?_
    simp -implicitDefEqProofs [hf, codeQ, kw, ew, sw, tw, a_, b_, c_, -List.set_cons_succ, -List.set_cons_zero, A.ok, A.val, d_, e_, f_, g_, h_, i_, j_, k_, l_, m_, unA, unD, n_, AOp.total, o_, p_, q_, r_, s_, t_, u_, v_, A.thaw, C.thaw, A.fits, As.fits, C.fits, evs, oks, w_, A.pure, C.pure, A.re, C.re, x_, y_, cut, A.cells, C.rows?, z_, A_, B_, C_, D_, Ob.re, Cs.fits, E_, F_, G_, H_, I_, J_, K_, L_, M_, N_, O_, C.toD, P_, Q_, R_, S_, T_, Obs.fits, U_, eqD, V_, W_, X_, Y_, Z_]
theorem cqOwn_calls (l : List Tm) (hl : l.length ≤ 1048576) (hft : ∀ t ∈ l, t.fits) : ACalls Try.prog 21 [.c (.d (.sl (l.map Tm.row)))] [] (HandsCode (if goalsB l then codeQ l else []) (goalsB l)) := by
  refine acallsT Try.func21 (by kernel_rfl) Own.ac21_ok ?_
  simp -implicitDefEqProofs [Own.ac21, kw, ew, sw, tw, a_, b_, c_, -List.set_cons_succ, -List.set_cons_zero, A.ok, A.val, d_, e_, f_, g_, h_, i_, j_, k_, l_, m_, unA, unD, n_, AOp.total, o_, p_, q_, r_, s_, t_, u_, v_, A.thaw, C.thaw, A.fits, As.fits, C.fits, evs, oks, w_, A.pure, C.pure, A.re, C.re, x_, y_, cut, A.cells, C.rows?, z_, A_, B_, C_, D_, Ob.re, Cs.fits, E_, F_, G_, H_, I_, J_, K_, L_, M_, N_, O_, C.toD, P_, Q_, R_, S_, T_, Obs.fits, U_, eqD, V_, W_, X_, Y_, Z_]
  refine qcall_pure (qvImpl_calls l hl hft) trivial rfl ?_
  cases hv : goalsB l with
  | false =>
    simp -implicitDefEqProofs [kw, ew, sw, tw, a_, b_, c_, -List.set_cons_succ, -List.set_cons_zero, A.ok, A.val, d_, e_, f_, g_, h_, i_, j_, k_, l_, m_, unA, unD, n_, AOp.total, o_, p_, q_, r_, s_, t_, u_, v_, A.thaw, C.thaw, A.fits, As.fits, C.fits, evs, oks, w_, A.pure, C.pure, A.re, C.re, x_, y_, cut, A.cells, C.rows?, z_, A_, B_, C_, D_, Ob.re, Cs.fits, E_, F_, G_, H_, I_, J_, K_, L_, M_, N_, O_, C.toD, P_, Q_, R_, S_, T_, Obs.fits, U_, eqD, V_, W_, X_, Y_, Z_]
    exact finT_ret _ ⟨trivial, trivial, trivial⟩ rfl fun kv => ⟨_, _, _, .tup (.cons (.c .full) (.cons (.c (.leaf rfl)) .nil)), by simp, _, rfl, rfl⟩
  | true =>
    simp -implicitDefEqProofs [kw, ew, sw, tw, a_, b_, c_, -List.set_cons_succ, -List.set_cons_zero, A.ok, A.val, d_, e_, f_, g_, h_, i_, j_, k_, l_, m_, unA, unD, n_, AOp.total, o_, p_, q_, r_, s_, t_, u_, v_, A.thaw, C.thaw, A.fits, As.fits, C.fits, evs, oks, w_, A.pure, C.pure, A.re, C.re, x_, y_, cut, A.cells, C.rows?, z_, A_, B_, C_, D_, Ob.re, Cs.fits, E_, F_, G_, H_, I_, J_, K_, L_, M_, N_, O_, C.toD, P_, Q_, R_, S_, T_, Obs.fits, U_, eqD, V_, W_, X_, Y_, Z_]
    refine call_newC (by simp) trivial ?_
    simp -implicitDefEqProofs [kw, ew, sw, tw, a_, b_, c_, -List.set_cons_succ, -List.set_cons_zero, A.ok, A.val, d_, e_, f_, g_, h_, i_, j_, k_, l_, m_, unA, unD, n_, AOp.total, o_, p_, q_, r_, s_, t_, u_, v_, A.thaw, C.thaw, A.fits, As.fits, C.fits, evs, oks, w_, A.pure, C.pure, A.re, C.re, x_, y_, cut, A.cells, C.rows?, z_, A_, B_, C_, D_, Ob.re, Cs.fits, E_, F_, G_, H_, I_, J_, K_, L_, M_, N_, O_, C.toD, P_, Q_, R_, S_, T_, Obs.fits, U_, eqD, V_, W_, X_, Y_, Z_]
    obtain ⟨g1, g2⟩ := goalsB_all hv
    have hfit := (goals_fit l mk0 4 mk0_fit).emit 14 0 0 []
    refine call_body g1 hft g2 (by omega) mk0_fit [] [] rfl rfl trivial ?_
    simp -implicitDefEqProofs [codeQ, kw, ew, sw, tw, a_, b_, c_, -List.set_cons_succ, -List.set_cons_zero, A.ok, A.val, d_, e_, f_, g_, h_, i_, j_, k_, l_, m_, unA, unD, n_, AOp.total, o_, p_, q_, r_, s_, t_, u_, v_, A.thaw, C.thaw, A.fits, As.fits, C.fits, evs, oks, w_, A.pure, C.pure, A.re, C.re, x_, y_, cut, A.cells, C.rows?, z_, A_, B_, C_, D_, Ob.re, Cs.fits, E_, F_, G_, H_, I_, J_, K_, L_, M_, N_, O_, C.toD, P_, Q_, R_, S_, T_, Obs.fits, U_, eqD, V_, W_, X_, Y_, Z_]
    exact finT_ret _ ⟨trivial, trivial, trivial⟩ rfl fun kv => ⟨_, _, _, .tup (.cons (.c (.own (js := []) rfl rfl ((strip_flat (code_flat _ _ hfit)).2 ⟨rfl, rfl⟩) rfl (fun m hm => by simp at hm))) (.cons (.c (.leaf rfl)) .nil)), by simp, _, rfl, rfl⟩
end Go.Proofs.Ytaegeehpajlebaa
