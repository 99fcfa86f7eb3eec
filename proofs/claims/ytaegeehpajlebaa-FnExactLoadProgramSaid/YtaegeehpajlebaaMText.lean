/-
  The law's text for a mark.
  Conditions: none.
-/
import Derived.Test.YtaegeehpajlebaaMarks
open Go Go.AM Go.Proofs
namespace Go.Proofs.Ytaegeehpajlebaa
open Go.ChangeShapes Go.WideShapes Go.ChangeAt Go.RowKit
set_option linter.unusedVariables false
set_option linter.unusedSimpArgs false
set_option maxRecDepth 100000
-- 56 loop.example/prologserver/laws.markText params 1 ntmps 20
-- loop head live: [0, 3]
def ac56 : Cd := .seq (.region [⟨(some 2), .mv (.k (.c (.d (.str [])))), none⟩] [2])
  (.seq (.seq (.region [⟨(some 4), .mv (.t 0), none⟩,
        ⟨(some 5), .bin .leq (.t 4) (.k (.c (.d (.int .i64 0)))), none⟩] [4])
    (.cond (.t 5)
      (.seq (.region [⟨(some 2), .mv (.k (.c (.d (.str [109, 48])))), none⟩] [0, 5])
      (.ret))
      (.skip)))
  (.seq (.region [⟨(some 3), .mv (.k (.c (.d (.str [])))), none⟩] [2, 5])
  (.seq (.block 0 (.loop (.seq (.seq (.region [⟨(some 6), .mv (.t 0), none⟩,
              ⟨(some 7), .bin .gtr (.t 6) (.k (.c (.d (.int .i64 0)))), none⟩] [6])
          (.cond (.t 7)
            (.skip)
            (.exit 0)))
        (.block 1 (.seq (.region [⟨(some 8), .mv (.t 0), none⟩,
              ⟨(some 9), .bin .rem (.t 8) (.k (.c (.d (.int .i64 10)))), none⟩,
              ⟨(some 10), .bin .add (.k (.c (.d (.int .i64 48)))) (.t 9), none⟩,
              ⟨(some 11), .cvInt .u8 (.t 10), none⟩,
              ⟨(some 12), .buildSlice 1 1 [(.int .u8 0)] [(0, (.t 11))], none⟩,
              ⟨(some 13), .cvB2S (.t 12), none⟩,
              ⟨(some 14), .mv (.t 3), none⟩,
              ⟨(some 15), .bin .add (.t 13) (.t 14), none⟩,
              ⟨(some 3), .mv (.t 15), none⟩] [7, 8, 9, 10, 11, 12, 13, 14, 15])
          (.region [⟨(some 16), .mv (.t 0), none⟩,
            ⟨(some 17), .bin .quo (.t 16) (.k (.c (.d (.int .i64 10)))), none⟩,
            ⟨(some 0), .mv (.t 17), none⟩] [16, 17]))))))
  (.seq (.region [⟨(some 18), .mv (.t 3), none⟩,
      ⟨(some 19), .bin .add (.k (.c (.d (.str [109])))) (.t 18), none⟩,
      ⟨(some 2), .mv (.t 19), none⟩] [3, 18, 19])
  (.ret)))))
theorem ac56_ok : cFunc Try.prog [] [(0, [2], []), (1, [4], []), (2, [0, 5], []), (3, [2, 5], []), (4, [6], []), (5, [7, 8, 9, 10, 11, 12, 13, 14, 15], []), (6, [16, 17], []), (7, [3, 18, 19], [])] Try.f56 = some (ac56, [.tmp 2], 20) := by kernel_rfl
def digs (k : Nat) (out : List UInt8) : List UInt8 := if h : k = 0 then out else digs (k / 10) (UInt8.ofNat (48 + k % 10) :: out)
termination_by k
decreasing_by omega
theorem digs_go {k : Nat} {out : List UInt8} (h : 0 < k) : digs k out = digs (k / 10) (UInt8.ofNat (48 + k % 10) :: out) := by rw [digs, dif_neg (by omega)]
theorem digs_zero (out : List UInt8) : digs 0 out = out := by rw [digs, dif_pos rfl]
def mText (k : Int) : List UInt8 := if k ≤ 0 then [109, 48] else 109 :: digs k.toNat []
theorem markText_calls (k : Int) (hk : k ≤ 1000000000000000) (H : Heap) : ACalls Try.prog 56 [.c (.d (.int .i64 k))] H (fun r H' => H' = H ∧ r = .c (.d (.str (mText k)))) := by
  refine acalls Try.func56 (by kernel_rfl) ac56_ok fun hf => ?_
  simp -implicitDefEqProofs [ac56, kw, ew, sw, tw, a_, b_, c_, -List.set_cons_succ, -List.set_cons_zero, A.ok, A.val, d_, e_, f_, g_, h_, i_, j_, k_, l_, m_, unA, unD, n_, AOp.total, o_, p_, q_, r_, s_, t_, u_, v_, A.thaw, C.thaw, A.fits, As.fits, C.fits, evs, oks, w_, A.pure, C.pure, A.re, C.re, x_, y_, cut, A.cells, C.rows?, z_, A_, B_, C_, D_, Ob.re, Cs.fits, E_, F_, G_, H_, I_, J_, K_, L_, M_, N_, O_, C.toD, P_, Q_, R_, S_, T_, Obs.fits, U_, eqD, V_, W_, X_, Y_, Z_]
  refine ⟨fun h => by simp [mText, h], fun h => ?_⟩
  refine loop_set (σ := Nat × List UInt8) (fun x => [(0, .c (.d (.int .i64 x.1))), (3, .c (.d (.str x.2)))]) (fun _ => H) (fun _ => []) (fun x => x.1 + x.2.length ≤ k.toNat ∧ digs x.1 x.2 = digs k.toNat []) (fun x => x.1) (k.toNat, []) (by simp [setAll]; omega) ⟨by simp, rfl⟩ ?_
  rintro ⟨n, out⟩ ⟨h1, h2⟩
  simp only at h1 h2
  have hn : (n : Int) ≤ 1000000000000000 := by omega
  have hm : ((n : Int).tmod 10) = ((n % 10 : Nat) : Int) := by rw [Int.tmod_eq_emod_of_nonneg (by omega)]; omega
  have hd : ((n : Int).tdiv 10) = ((n / 10 : Nat) : Int) := by rw [Int.tdiv_eq_ediv_of_nonneg (by omega)]; omega
  have hr : inR .i64 (((n % 10 : Nat) : Int)) := small_i64 (by omega) (by omega)
  have hr2 : inR .i64 (48 + ((n % 10 : Nat) : Int)) := small_i64 (by omega) (by omega)
  have hq : inR .i64 ((n / 10 : Nat) : Int) := small_i64 (by omega) (by omega)
  have hw : IntKind.u8.wrap (48 + ((n % 10 : Nat) : Int)) = ((UInt8.ofNat (48 + n % 10)).toNat : Int) := by
    rw [UInt8.toNat_ofNat']
    simp [IntKind.wrap, IntKind.signed, IntKind.bits]
  have hb : [[D.int IntKind.u8 (IntKind.u8.wrap (48 + ((n % 10 : Nat) : Int)))]] = bytesRows [UInt8.ofNat (48 + n % 10)] := by rw [hw]; rfl
  simp only [Int.natCast_emod, Int.natCast_ediv, Int.cast_ofNat_Int] at hr hr2 hq hb
  simp -implicitDefEqProofs [setAll, hm, hd, hr, hr2, hq, kw, ew, sw, tw, a_, b_, c_, -List.set_cons_succ, -List.set_cons_zero, A.ok, A.val, d_, e_, f_, g_, h_, i_, j_, k_, l_, m_, unA, unD, n_, AOp.total, o_, p_, q_, r_, s_, t_, u_, v_, A.thaw, C.thaw, A.fits, As.fits, C.fits, evs, oks, w_, A.pure, C.pure, A.re, C.re, x_, y_, cut, A.cells, C.rows?, z_, A_, B_, C_, D_, Ob.re, Cs.fits, E_, F_, G_, H_, I_, J_, K_, L_, M_, N_, O_, C.toD, P_, Q_, R_, S_, T_, Obs.fits, U_, eqD, V_, W_, X_, Y_, Z_]
  refine ⟨fun hlt => ?_, fun h0 => ⟨by unfold maxStr; omega, ?_⟩⟩
  · rw [hb]
    refine b2s_of ?_
    have hgo := digs_go (out := out) hlt
    simp -implicitDefEqProofs [hm, hd, hr, hr2, hq, kw, ew, sw, tw, a_, b_, c_, -List.set_cons_succ, -List.set_cons_zero, A.ok, A.val, d_, e_, f_, g_, h_, i_, j_, k_, l_, m_, unA, unD, n_, AOp.total, o_, p_, q_, r_, s_, t_, u_, v_, A.thaw, C.thaw, A.fits, As.fits, C.fits, evs, oks, w_, A.pure, C.pure, A.re, C.re, x_, y_, cut, A.cells, C.rows?, z_, A_, B_, C_, D_, Ob.re, Cs.fits, E_, F_, G_, H_, I_, J_, K_, L_, M_, N_, O_, C.toD, P_, Q_, R_, S_, T_, Obs.fits, U_, eqD, V_, W_, X_, Y_, Z_]
    refine ⟨by unfold maxStr; omega, ?_⟩
    refine loop_back (n / 10, UInt8.ofNat (48 + n % 10) :: out) (by simp [setAll]) ⟨?_, by rw [← hgo]; exact h2⟩ (by show n / 10 < n; omega)
    simp
    omega
  · subst h0
    rw [digs_zero] at h2
    rw [mText, if_neg (by omega), h2]
end Go.Proofs.Ytaegeehpajlebaa
