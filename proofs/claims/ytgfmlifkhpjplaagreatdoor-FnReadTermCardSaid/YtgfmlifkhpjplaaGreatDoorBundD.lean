/-
  Contracts of functions that the law reaches, and plain lemmas: several texts in one.
  Conditions: none.
-/
import Derived.Test.YtgfmlifkhpjplaaGreatDoorBundA
import Derived.Test.YtgfmlifkhpjplaaGreatDoorBundB
import Derived.Test.YtgfmlifkhpjplaaGreatDoorBundC
import Derived.Test.YtgfmlifkhpjplaaGreatDoorAbsN
import Derived.Shelf.Strings.OnBuilder
open Go Go.AM Go.Proofs
attribute [local go_sem] kw ew sw tw a_ b_ c_ A.ok A.val d_ e_ f_ g_ h_ i_ j_ k_ l_ m_ unA unD n_ AOp.total o_ p_ q_ r_ s_ t_ u_ v_ A.thaw C.thaw A.fits As.fits C.fits evs oks w_ A.pure C.pure A.re C.re x_ y_ cut A.cells C.rows? z_ A_ B_ C_ a0_ b0_ D_ Ob.re Cs.fits E_ F_ G_ H_ I_ J_ K_ L_ M_ N_ O_ C.toD P_ Q_ R_ S_ T_ Obs.fits U_ eqD V_ W_ X_ Y_ Z_
/-
  Terms that are drawn.
  Conditions: none.
-/
open Go Go.AM Go.Proofs
namespace Go.Proofs.YtgfmlifkhpjplaaGreatDoor
open Go.ChangeShapes Go.WideShapes Go.ChangeAt Go.RowKit
set_option linter.unusedVariables false
set_option linter.unusedSimpArgs false
set_option maxRecDepth 100000
-- 54 (*loop.example/prologserver/spec.l18Rd).of params 2 ntmps 12
def ac54 : Cd := .seq (.region [⟨(some 4),.mv (.k (.c (.d (.str [])))),none⟩] [4])
 (.seq (.region [⟨(some 5),.mv (.t 1),none⟩,
 ⟨(some 6),.mv (.t 0),none⟩,
 ⟨(some 7),.mv (.t 1),none⟩,
 ⟨(some 8),.len 1 (.t 7),none⟩,
 ⟨(some 9),.call false 53 [(.t 6),(.t 8)],none⟩,
 ⟨(some 10),.indexAddr 1 (.t 5) (.t 9),none⟩,
 ⟨(some 11),.load none (.t 10),none⟩,
 ⟨(some 4),.mv (.t 11),none⟩] [0,1,5,6,7,8,9,10,11])
 (.ret))
theorem ac54_ok : cFunc Tryz.prog [] [(0,[4],[]),(1,[0,1,5,6,7,8,9,10,11],[])] Tryz.f54 = some (ac54,[.tmp 4],12) := by kernel_rfl
-- 56 loop.example/prologserver/spec.l1Draw params 2 ntmps 65
-- loop head live: [0,1,4,5,6]
def ac56 : Cd := .seq (.region [⟨(some 4),.alloc [(.d (.int .i64 0)),(.d (.int .i64 0)),(.d (.str [])),(.full [])],none⟩] [])
 (.seq (.seq (.region [⟨(some 7),.mv (.t 1),none⟩,
 ⟨(some 8),.bin .lss (.t 7) (.k (.c (.d (.int .i64 2)))),none⟩,
 ⟨(some 9),.mv (.t 8),none⟩,
 ⟨(some 10),.mv (.t 0),some (9,false)⟩,
 ⟨(some 11),.call false 53 [(.t 10),(.k (.c (.d (.int .i64 4))))],some (9,false)⟩,
 ⟨(some 12),.bin .eql (.t 11) (.k (.c (.d (.int .i64 0)))),some (9,false)⟩,
 ⟨(some 13),.pick (.t 9) (.k (.c (.d (.bool true)))) (.t 12),none⟩] [7,8,9,10,11,12])
 (.cond (.t 13)
 (.seq (.seq (.region [⟨(some 14),.mv (.t 0),none⟩,
 ⟨(some 15),.call false 53 [(.t 14),(.k (.c (.d (.int .i64 4))))],none⟩] [1,13,14])
 (.block 0 (.seq (.region [⟨(some 17),.bin .eql (.t 15) (.k (.c (.d (.int .i64 0)))),none⟩,
 ⟨(some 16),.mv (.t 17),none⟩] [17])
 (.cond (.t 16)
 (.seq (.region [⟨(some 18),.mv (.t 0),none⟩,
 ⟨(some 19),.call false 53 [(.t 18),(.k (.c (.d (.int .i64 4))))],none⟩,
 ⟨(some 20),.qcall 79 [(.t 19)],none⟩,
 ⟨none,.store 4 (.t 4) (.t 20),none⟩] [0,15,16,18,19,20])
 (.ret))
 (.seq (.region [⟨(some 22),.bin .eql (.t 15) (.k (.c (.d (.int .i64 1)))),none⟩,
 ⟨(some 21),.mv (.t 22),none⟩] [15,16,22])
 (.cond (.t 21)
 (.seq (.region [⟨(some 23),.mv (.t 0),none⟩,
 ⟨(some 24),.buildSlice 1 6 [(.int .i64 0)] [(0,(.k (.c (.d (.int .i64 0))))),(1,(.k (.c (.d (.int .i64 1))))),(2,(.k (.c (.d (.int .i64 7))))),(3,(.k (.c (.d (.int .i64 (-3)))))),(4,(.k (.c (.d (.int .i64 999))))),(5,(.k (.c (.d (.int .i64 (-999))))))],none⟩,
 ⟨(some 25),.call false 37 [(.t 23),(.t 24)],none⟩,
 ⟨(some 26),.qcall 55 [(.t 25)],none⟩,
 ⟨none,.store 4 (.t 4) (.t 26),none⟩] [0,21,23,24,25,26])
 (.ret))
 (.skip)))))))
 (.seq (.region [⟨(some 27),.mv (.t 0),none⟩,
 ⟨(some 28),.buildSlice 1 6 [(.str [])] [(0,(.k (.c (.d (.str [97]))))),(1,(.k (.c (.d (.str [98]))))),(2,(.k (.c (.d (.str [110,105,108]))))),(3,(.k (.c (.d (.str [91,93]))))),(4,(.k (.c (.d (.str [102,111,111]))))),(5,(.k (.c (.d (.str [43])))))],none⟩,
 ⟨(some 29),.call false 54 [(.t 27),(.t 28)],none⟩,
 ⟨(some 30),.call false 48 [(.t 29),(.k (.c (.full [])))],none⟩,
 ⟨none,.store 4 (.t 4) (.t 30),none⟩] [0,21,27,28,29,30])
 (.ret)))
 (.skip)))
 (.seq (.seq (.region [⟨(some 31),.mv (.t 0),none⟩,
 ⟨(some 32),.call false 53 [(.t 31),(.k (.c (.d (.int .i64 3))))],none⟩,
 ⟨(some 33),.bin .eql (.t 32) (.k (.c (.d (.int .i64 0)))),none⟩] [13,31,32])
 (.cond (.t 33)
 (.seq (.region [⟨(some 34),.mv (.t 0),none⟩,
 ⟨(some 35),.mv (.t 1),none⟩,
 ⟨(some 36),.bin .sub (.t 35) (.k (.c (.d (.int .i64 1)))),none⟩,
 ⟨(some 37),.callL false false 56 [(.t 34),(.t 36)],none⟩,
 ⟨(some 38),.mv (.t 0),none⟩,
 ⟨(some 39),.mv (.t 1),none⟩,
 ⟨(some 40),.bin .sub (.t 39) (.k (.c (.d (.int .i64 1)))),none⟩,
 ⟨(some 41),.callL false false 56 [(.t 38),(.t 40)],none⟩,
 ⟨(some 42),.buildSlice 4 2 [(.int .i64 0),(.int .i64 0),(.str []),(.sl [])] [(0,(.t 37)),(1,(.t 41))],none⟩,
 ⟨(some 43),.call false 48 [(.k (.c (.d (.str [46])))),(.t 42)],none⟩,
 ⟨none,.store 4 (.t 4) (.t 43),none⟩] [0,1,33,34,35,36,37,38,39,40,41,42,43])
 (.ret))
 (.skip)))
 (.seq (.region [⟨(some 44),.mv (.t 0),none⟩,
 ⟨(some 45),.buildSlice 1 7 [(.str [])] [(0,(.k (.c (.d (.str [102]))))),(1,(.k (.c (.d (.str [103]))))),(2,(.k (.c (.d (.str [115]))))),(3,(.k (.c (.d (.str [43]))))),(4,(.k (.c (.d (.str [61]))))),(5,(.k (.c (.d (.str [105,115]))))),(6,(.k (.c (.d (.str [102,111,111])))))],none⟩,
 ⟨(some 46),.call false 54 [(.t 44),(.t 45)],none⟩,
 ⟨(some 47),.call false 48 [(.t 46),(.k (.c (.full [])))],none⟩,
 ⟨(some 5),.alloc [(.d (.int .i64 0)),(.d (.int .i64 0)),(.d (.str [])),(.full [])],none⟩,
 ⟨none,.store 4 (.t 5) (.t 47),none⟩] [33,44,45,46,47])
 (.seq (.seq (.region [⟨(some 48),.mv (.t 0),none⟩,
 ⟨(some 49),.buildSlice 1 4 [(.int .i64 0)] [(0,(.k (.c (.d (.int .i64 2))))),(1,(.k (.c (.d (.int .i64 1))))),(2,(.k (.c (.d (.int .i64 3))))),(3,(.k (.c (.d (.int .i64 2)))))],none⟩,
 ⟨(some 50),.call false 37 [(.t 48),(.t 49)],none⟩,
 ⟨(some 6),.mv (.t 50),none⟩] [48,49,50])
 (.block 1 (.loop (.seq (.seq (.region [⟨(some 51),.mv (.t 6),none⟩,
 ⟨(some 52),.bin .gtr (.t 51) (.k (.c (.d (.int .i64 0)))),none⟩] [51])
 (.cond (.t 52)
 (.skip)
 (.exit 1)))
 (.seq (.block 2 (.region [⟨(some 55),.fieldAddr 3 (.t 5),none⟩,
 ⟨(some 57),.mv (.t 0),none⟩,
 ⟨(some 58),.mv (.t 1),none⟩,
 ⟨(some 59),.bin .sub (.t 58) (.k (.c (.d (.int .i64 1)))),none⟩,
 ⟨(some 56),.loadL false none (.t 55),none⟩,
 ⟨(some 60),.callL false false 56 [(.t 57),(.t 59)],none⟩,
 ⟨(some 61),.buildSlice 4 1 [(.int .i64 0),(.int .i64 0),(.str []),(.sl [])] [(0,(.t 60))],none⟩,
 ⟨(some 62),.append false 4 (.t 56) (.t 61),none⟩,
 ⟨(some 63),.fieldAddr 3 (.t 5),none⟩,
 ⟨none,.store 1 (.t 63) (.t 62),none⟩] [52,55,56,57,58,59,60,61,62,63]))
 (.region [⟨(some 53),.mv (.t 6),none⟩,
 ⟨(some 54),.bin .sub (.t 53) (.k (.c (.d (.int .i64 1)))),none⟩,
 ⟨(some 6),.mv (.t 54),none⟩] [53,54]))))))
 (.seq (.region [⟨(some 64),.load (some 4) (.t 5),none⟩,
 ⟨none,.store 4 (.t 4) (.t 64),none⟩] [5,64])
 (.ret))))))
theorem ac56_ok : cFunc Tryz.prog [1000055,1000079,5000055,6000056] [(0,[],[]),(1,[7,8,9,10,11,12],[]),(2,[1,13,14],[]),(3,[17],[]),(4,[0,15,16,18,19,20],[]),(5,[15,16,22],[]),(6,[0,21,23,24,25,26],[]),(7,[0,21,27,28,29,30],[]),(8,[13,31,32],[]),(9,[0,1,33,34,35,36,37,38,39,40,41,42,43],[]),(10,[33,44,45,46,47],[]),(11,[48,49,50],[]),(12,[51],[]),(14,[52,55,56,57,58,59,60,61,62,63],[0,2,3,4,1,5,6,7,8,9]),(13,[53,54],[]),(15,[5,64],[])] Tryz.f56 = some (ac56,[.cell 4 (some 4)],65) := by kernel_rfl
namespace Full
-- 48 loop.example/prologserver/spec.l1Struct params 2 ntmps 10
def ac48 : Cd := .seq (.region [⟨(some 4),.alloc [(.d (.int .i64 0)),(.d (.int .i64 0)),(.d (.str [])),(.full [])],none⟩] [])
 (.seq (.region [⟨(some 5),.mv (.t 0),none⟩,
 ⟨(some 6),.buildSlice 4 0 [(.int .i64 0),(.int .i64 0),(.str []),(.sl [])] [],none⟩,
 ⟨(some 7),.mv (.t 1),none⟩,
 ⟨(some 8),.appendF 4 (.t 6) (.t 7),none⟩,
 ⟨(some 9),.build [(.d (.int .i64 0)),(.d (.int .i64 0)),(.d (.str [])),(.full [])] [(0,1,(.k (.c (.d (.int .i64 3))))),(2,1,(.t 5)),(3,1,(.t 8))],none⟩,
 ⟨none,.store 4 (.t 4) (.t 9),none⟩] [0,1,5,6,7,8,9])
 (.ret))
theorem ac48_ok : cFunc Tryz.prog [3000006] [(0,[],[]),(1,[0,1,5,6,7,8,9],[])] Tryz.f48 = some (ac48,[.cell 4 (some 4)],10) := by kernel_rfl
end Full
theorem of_draws (l : List (List UInt8)) (hl : 1 ≤ l.length ∧ l.length ≤ 1000) : Draws 54 [.c (.d (.sl (l.map fun s => [.str s])))] 1 (fun r => ∃ s ∈ l, r = .c (.d (.str s))) := fun c p H i hc hp hp1 hi => by
  refine acalls Tryz.func54 (by kernel_rfl) ac54_ok fun hf => ?_
  simp only [List.length_set] at hf
  have hll : inR .i64 (l.length : Int) := small_i64 (by omega) (by omega)
  simp -implicitDefEqProofs [ac54, hll, go_sem, -List.set_cons_succ, -List.set_cons_zero]
  refine call_drawE (pick_draws l.length ⟨by omega, by omega⟩) hc hp hp1 hi (by simp) (fun r => IntIn.re) hf ?_
  rintro _ p' ⟨k, rfl, h1, h2⟩ h3 h4
  simp -implicitDefEqProofs [go_sem, -List.set_cons_succ, -List.set_cons_zero]
  have hk : k.toNat < l.length := by omega
  refine row_int [.str l[k.toNat]] h1 (by simp [hk]) rfl ?_
  simp -implicitDefEqProofs [go_sem, -List.set_cons_succ, -List.set_cons_zero]
  exact ⟨⟨_, List.getElem_mem hk, rfl⟩, p', h3, h4, rfl⟩
/-- a structure without arguments: nothing stands behind its arguments -/
theorem struct_full (name : List UInt8) (H : Heap) : ACalls Tryz.prog 48 [.c (.d (.str name)), .c (.d (.sl []))] H (fun r H' => H' = H ++ [.cells [.d (.int .i64 3), .d (.int .i64 0), .d (.str name), .full []]] ∧ r = .agg [.d (.int .i64 3), .d (.int .i64 0), .d (.str name), .full []]) := by
  refine acallsK Tryz.func48 (by kernel_rfl) Full.ac48_ok fun hf => ?_
  simp -implicitDefEqProofs [Full.ac48, hf, go_sem, -List.set_cons_succ, -List.set_cons_zero]
  refine finK_ret _ ⟨trivial, trivial⟩ rfl ?_
  simp [Ob.re, C.re, A.re]
/-- a call that leaves one object more, which looks at no other -/
theorem call_new {P : Program} {f : FuncId} {xs : List A} {sl : List A} {ext loc H₂ : Heap} {o : Ob} {r : A} {K : A → St → Prop} (hc : ∀ H, ACalls P f xs H (fun r' H' => H' = H ++ [o] ∧ r' = r)) (ho : Ob.re ext.length o = o) (hr : A.re ext.length r = r)
    (hf : Obs.fits ext.length 0 ext) (hH : H₂ = ext ++ loc.map (Ob.re ext.length)) (hk : K r ⟨sl, ext, loc ++ [o]⟩) : ACalls P f xs H₂ (CallK K ⟨sl, ext, loc⟩) := by
  subst hH
  exact (hc _).mono fun r' H' ⟨h1, h2⟩ => ⟨ext, loc ++ [o], r, by rw [h1, List.append_assoc, List.map_append]; simp [ho], rfl, by simp, hf, by rw [h2]; exact hr.symm, hk⟩
/-- a term that a law looks at -/
def TmR (r : A) : Prop := ∃ t : Tm, r = .agg (t.row.map .d) ∧ t.fits
theorem TmR.re {n : Nat} {r : A} (h : TmR r) : A.re n r = r := by
  obtain ⟨t, rfl, _⟩ := h
  simp [A.re, re_d]
/-- the names that are drawn -/
def drawNames : List (List UInt8) := [[97], [98], [110, 105, 108], [91, 93], [102, 111, 111], [43], [46], [102], [103], [115], [61], [105, 115]]
theorem draw_names {l : List (List UInt8)} {s : List UInt8} (h : s ∈ l) (hl : l.all (drawNames.contains ·) = true := by decide) : s ∈ drawNames := by
  simp only [List.all_eq_true, List.contains_iff_mem] at hl
  exact hl s h
/-- a term that is drawn -/
def TmP (P : Tm → Prop) (r : A) : Prop := ∃ t : Tm, r = .agg (t.row.map .d) ∧ t.fits ∧ P t
theorem TmP.re {P : Tm → Prop} {n : Nat} {r : A} (h : TmP P r) : A.re n r = r := by
  obtain ⟨t, rfl, _⟩ := h
  simp [A.re, re_d]
theorem draw_of {P Q : Tm → Prop} (hP1 : ∀ n, 0 ≤ n → n ≤ 25 → P (.mk 1 n [] [])) (hP2 : ∀ n, -999 ≤ n → n ≤ 999 → P (.mk 2 n [] [])) (hP3 : ∀ s ∈ drawNames, ∀ l : List Tm, l.length ≤ 3 → (∀ t ∈ l, Q t) → P (.mk 3 0 s l))
    (d : Nat) (hd : d ≤ 6) (M N : Int) (hM : 0 ≤ M) (hN : 4 + 3 * M ≤ N) (ih : 2 ≤ d → Draws 56 [.c (.d (.int .i64 ((d : Int) - 1)))] M (TmP Q)) : Draws 56 [.c (.d (.int .i64 d))] N (TmP P) := fun c p H i hc hp hp1 hi => by
  refine acalls Tryz.func56 (by kernel_rfl) ac56_ok fun hf => ?_
  simp only [List.length_set] at hf
  simp -implicitDefEqProofs [ac56, go_sem, -List.set_cons_succ, -List.set_cons_zero]
  have hf0 : ∀ q, Obs.fits H.length 0 (H.set i (Rd c q)) := fun q => fits_reset (b := Rd c q) hf ⟨trivial, trivial, trivial⟩
  have hf1 : ∀ q, Obs.fits (H.set i (Rd c q)).length 0 (H.set i (Rd c q)) := fun q => by simpa using hf0 q
  have done : ∀ (t : Tm) (q : Int), p ≤ q → q ≤ p + N → t.fits → P t → ∀ r, r = .agg (t.row.map .d) → Drew (TmP P) N c p H i r (H.set i (Rd c q)) := fun t q a1 a2 a3 a4 r hr => ⟨⟨t, hr, a3, a4⟩, q, a1, a2, rfl⟩
  refine ⟨fun h2 => ⟨h2, ?_⟩, fun h2 => ?_⟩
  · refine call_drawE (pick_draws 4 (by omega)) hc hp (by omega) hi (by simp [Ob.re, C.re]) (fun r => IntIn.re) (hf0 _) ?_
    rintro _ p0 ⟨k, rfl, k0, k1⟩ h3 h4
    have hd0 : ¬ ((d : Int) < 2) := by omega
    simp -implicitDefEqProofs [hf0, hd0, go_sem, -List.set_cons_succ, -List.set_cons_zero]
    refine ⟨fun _ => ?_, fun _ => ?_⟩
    · skip
      refine call_drawE (pick_draws 4 (by omega)) hc (by omega) (by omega) hi (by simp [Ob.re, C.re]) (fun r => IntIn.re) (hf0 _) ?_
      rintro _ p1 ⟨k, rfl, k0, k1⟩ h3 h4
      simp -implicitDefEqProofs [hf0, go_sem, -List.set_cons_succ, -List.set_cons_zero]
      refine ⟨fun _ => ?_, fun _ => ⟨fun _ => ?_, fun _ => ?_⟩⟩
      · refine call_drawE (pick_draws 4 (by omega)) hc (by omega) (by omega) hi (by simp [Ob.re, C.re]) (fun r => IntIn.re) (hf0 _) ?_
        rintro _ p2 ⟨n, rfl, n0, n1⟩ h5 h6
        simp -implicitDefEqProofs [hf0, go_sem, -List.set_cons_succ, -List.set_cons_zero]
        refine qcall_pure (var_calls n) (hf1 _) (by simp [A.re, re_d]) ?_
        simp -implicitDefEqProofs [hf0, row_mk, go_sem, -List.set_cons_succ, -List.set_cons_zero]
        exact done (.mk 1 n [] []) p2 (by omega) (by omega) (.mk (small_i64 (by omega) (by omega)) (small_i64 (by omega) (by omega)) (by simp) (by simp) (by simp)) (hP1 n (by omega) (by omega)) _ (by simp [row_mk])
      · refine call_drawE (num_draws [0, 1, 7, -3, 999, -999] (by decide)) hc (by omega) (by omega) hi (by simp [Ob.re, C.re]) (fun r ⟨n, _, hn⟩ => by subst hn; rfl) (hf0 _) ?_
        rintro _ p2 ⟨n, hn, rfl⟩ h5 h6
        have hn : -999 ≤ n ∧ n ≤ 999 := by simp at hn; omega
        simp -implicitDefEqProofs [hf0, go_sem, -List.set_cons_succ, -List.set_cons_zero]
        refine qcall_pure (int_calls n) (hf1 _) (by simp [A.re, re_d]) ?_
        simp -implicitDefEqProofs [hf0, row_mk, go_sem, -List.set_cons_succ, -List.set_cons_zero]
        exact done (.mk 2 n [] []) p2 (by omega) (by omega) (.mk (small_i64 (by omega) (by omega)) (small_i64 (by omega) (by omega)) (by simp) (by simp) (by simp)) (hP2 n (by omega) (by omega)) _ (by simp [row_mk])
      · refine call_drawE (of_draws [[97], [98], [110, 105, 108], [91, 93], [102, 111, 111], [43]] (by decide)) hc (by omega) (by omega) hi (by simp [Ob.re, C.re]) (fun r ⟨n, _, hn⟩ => by subst hn; rfl) (hf0 _) ?_
        rintro _ p2 ⟨s, hs, rfl⟩ h5 h6
        have hsm : s ∈ drawNames := draw_names hs
        have hs : s.length ≤ 3 := by simp at hs; rcases hs with rfl | rfl | rfl | rfl | rfl | rfl <;> decide
        simp -implicitDefEqProofs [hf0, go_sem, -List.set_cons_succ, -List.set_cons_zero]
        refine call_new (struct_full s) (by simp [Ob.re, C.re]) (by simp [A.re, C.re]) (hf1 _) (by simp [Ob.re, C.re]) ?_
        simp -implicitDefEqProofs [hf0, go_sem, -List.set_cons_succ, -List.set_cons_zero]
        exact done (.mk 3 0 s []) p2 (by omega) (by omega) (.mk (small_i64 (by omega) (by omega)) (small_i64 (by omega) (by omega)) (by omega) (by simp) (by simp)) (hP3 s hsm [] (by simp) (by simp)) _ (by simp [row_mk])
    · refine call_drawE (pick_draws 3 (by omega)) hc (by omega) (by omega) hi (by simp [Ob.re, C.re]) (fun r => IntIn.re) (hf0 _) ?_
      rintro _ p1 ⟨k2, rfl, k3, k4⟩ h5 h6
      have hsub : inR .i64 ((d : Int) - 1) := small_i64 (by omega) (by omega)
      simp -implicitDefEqProofs [hf0, hsub, go_sem, -List.set_cons_succ, -List.set_cons_zero]
      refine ⟨fun _ => ?_, fun _ => ?_⟩
      · refine call_drawE (ih (by omega)) hc (by omega) (by omega) hi (by simp [Ob.re, C.re]) (fun r => TmP.re) (hf0 _) ?_
        rintro _ p2 ⟨a, rfl, ha, haQ⟩ h7 h8
        refine ⟨LocSame.refl _, ?_⟩
        simp -implicitDefEqProofs [hf0, hsub, row_len, take_row, go_sem, -List.set_cons_succ, -List.set_cons_zero]
        refine call_drawE (ih (by omega)) hc (by omega) (by omega) hi (by simp [Ob.re, C.re]) (fun r => TmP.re) (hf0 _) ?_
        rintro _ p3 ⟨b, rfl, hb, hbQ⟩ h9 h10
        refine ⟨LocSame.refl _, ?_⟩
        simp -implicitDefEqProofs [hf0, hsub, row_len, take_row, toDs_map, go_sem, -List.set_cons_succ, -List.set_cons_zero]
        have hs := struct_calls [46] [a, b] (by simp)
        simp only [List.map_cons, List.map_nil] at hs
        refine call_same (r := .agg ((Tm.mk 3 0 [46] [a, b]).row.map .d)) (hs _) (by simp [Ob.re, C.re]) (by simp [A.re, re_d]) (hf1 _) ?_
        simp -implicitDefEqProofs [hf0, row_mk, go_sem, -List.set_cons_succ, -List.set_cons_zero]
        exact done (.mk 3 0 [46] [a, b]) p3 (by omega) (by omega) (.mk (small_i64 (by omega) (by omega)) (small_i64 (by omega) (by omega)) (by simp) (by simp) (by simp [ha, hb])) (hP3 [46] (by decide) [a, b] (by simp) (by simp [haQ, hbQ])) _ (by simp [row_mk])
      · refine call_drawE (of_draws [[102], [103], [115], [43], [61], [105, 115], [102, 111, 111]] (by decide)) hc (by omega) (by omega) hi (by simp [Ob.re, C.re]) (fun r ⟨n, _, hn⟩ => by subst hn; rfl) (hf0 _) ?_
        rintro _ p2 ⟨s, hs, rfl⟩ h7 h8
        have hsm : s ∈ drawNames := draw_names hs
        have hs : s.length ≤ 3 := by simp at hs; rcases hs with rfl | rfl | rfl | rfl | rfl | rfl | rfl <;> decide
        simp -implicitDefEqProofs [hf0, go_sem, -List.set_cons_succ, -List.set_cons_zero]
        refine call_new (struct_full s) (by simp [Ob.re, C.re]) (by simp [A.re, C.re]) (hf1 _) (by simp [Ob.re, C.re]) ?_
        simp -implicitDefEqProofs [hf0, go_sem, -List.set_cons_succ, -List.set_cons_zero]
        refine call_drawE (num_draws [2, 1, 3, 2] (by decide)) hc (by omega) (by omega) hi (by simp [Ob.re, C.re]) (fun r ⟨n, _, hn⟩ => by subst hn; rfl) (hf0 _) ?_
        rintro _ p3 ⟨n, hn, rfl⟩ h9 h10
        have hn : 0 ≤ n ∧ n ≤ 3 := by simp at hn; omega
        have hnM : n * M ≤ 3 * M := Int.mul_le_mul_of_nonneg_right hn.2 hM
        simp -implicitDefEqProofs [hf0, go_sem, -List.set_cons_succ, -List.set_cons_zero]
        refine loop_enter (St.le_tokenC 2 3 4 rfl rfl) ?_
        refine loop_set (σ := Int × List Tm × Int) (fun x => [(6, .c (.d (.int .i64 x.1)))]) (fun x => H.set i (Rd c x.2.2)) (fun x => [.cells [.d (.int .i64 0), .d (.int .i64 0), .d (.str []), .full []], .cells [.d (.int .i64 3), .d (.int .i64 0), .d (.str s), .full []], .cells [.d (.int .i64 3), .d (.int .i64 0), .d (.str s), .own (.l 3) x.2.1.length (x.2.1.map Tm.row)], .grow x.2.1.length 4])
          (fun x => 0 ≤ x.1 ∧ x.1 + x.2.1.length ≤ 3 ∧ p ≤ x.2.2 ∧ x.2.2 + x.1 * M ≤ p + N ∧ (∀ t ∈ x.2.1, t.fits) ∧ ∀ t ∈ x.2.1, Q t) (fun x => x.1.toNat) (n, [], p3) rfl ⟨hn.1, by simp; omega, by simp; omega, by simp; omega, by simp, by simp⟩ ?_
        rintro ⟨m, l, q⟩ ⟨i0, i1, i2, i3, i4, i5⟩
        simp only at i0 i1 i2 i3 i4 i5
        have hmM : 0 ≤ m * M := Int.mul_nonneg i0 hM
        simp -implicitDefEqProofs [setAll, hf0, hsub, go_sem, -List.set_cons_succ, -List.set_cons_zero]
        refine ⟨fun hlt => ?_, fun hge => ?_⟩
        · have hm1 : (m - 1) * M = m * M - M := by rw [Int.sub_mul, Int.one_mul]
          have hm2 : 0 ≤ (m - 1) * M := Int.mul_nonneg (by omega) hM
          have hsubm : inR .i64 (m - 1) := small_i64 (by omega) (by omega)
          refine call_drawE (ih (by omega)) hc (by omega) (by omega) hi (by simp [Ob.re, C.re]) (fun r => TmP.re) (hf0 _) ?_
          rintro _ q2 ⟨a, rfl, ha, haQ⟩ h11 h12
          refine ⟨LocSame.refl _, ?_⟩
          simp -implicitDefEqProofs [hf0, hsubm, row_len, take_row, toDs_map, go_sem, -List.set_cons_succ, -List.set_cons_zero]
          refine ⟨allLen_map row_len, by unfold maxApp; omega, ?_⟩
          refine loop_back (m - 1, l ++ [a], q2) (by simp [setAll]) ⟨by simp; omega, by simp; omega, by simp; omega, by simp; omega, fun t ht => ?_, fun t ht => ?_⟩ (by show (m - 1).toNat < m.toNat; omega)
          · rcases List.mem_append.1 ht with ht | ht
            · exact i4 t ht
            · simp at ht; subst ht; exact ha
          · rcases List.mem_append.1 ht with ht | ht
            · exact i5 t ht
            · simp at ht; subst ht; exact haQ
        · exact done (.mk 3 0 s l) q i2 (by omega) (.mk (small_i64 (by omega) (by omega)) (small_i64 (by omega) (by omega)) (by omega) (by omega) i4) (hP3 s hsm l (by omega) i5) _ (by simp [row_mk])
  · skip
    refine call_drawE (pick_draws 4 (by omega)) hc (by omega) (by omega) hi (by simp [Ob.re, C.re]) (fun r => IntIn.re) (hf0 _) ?_
    rintro _ p1 ⟨k, rfl, k0, k1⟩ h3 h4
    simp -implicitDefEqProofs [hf0, go_sem, -List.set_cons_succ, -List.set_cons_zero]
    refine ⟨fun _ => ?_, fun _ => ⟨fun _ => ?_, fun _ => ?_⟩⟩
    · refine call_drawE (pick_draws 4 (by omega)) hc (by omega) (by omega) hi (by simp [Ob.re, C.re]) (fun r => IntIn.re) (hf0 _) ?_
      rintro _ p2 ⟨n, rfl, n0, n1⟩ h5 h6
      simp -implicitDefEqProofs [hf0, go_sem, -List.set_cons_succ, -List.set_cons_zero]
      refine qcall_pure (var_calls n) (hf1 _) (by simp [A.re, re_d]) ?_
      simp -implicitDefEqProofs [hf0, row_mk, go_sem, -List.set_cons_succ, -List.set_cons_zero]
      exact done (.mk 1 n [] []) p2 (by omega) (by omega) (.mk (small_i64 (by omega) (by omega)) (small_i64 (by omega) (by omega)) (by simp) (by simp) (by simp)) (hP1 n (by omega) (by omega)) _ (by simp [row_mk])
    · refine call_drawE (num_draws [0, 1, 7, -3, 999, -999] (by decide)) hc (by omega) (by omega) hi (by simp [Ob.re, C.re]) (fun r ⟨n, _, hn⟩ => by subst hn; rfl) (hf0 _) ?_
      rintro _ p2 ⟨n, hn, rfl⟩ h5 h6
      have hn : -999 ≤ n ∧ n ≤ 999 := by simp at hn; omega
      simp -implicitDefEqProofs [hf0, go_sem, -List.set_cons_succ, -List.set_cons_zero]
      refine qcall_pure (int_calls n) (hf1 _) (by simp [A.re, re_d]) ?_
      simp -implicitDefEqProofs [hf0, row_mk, go_sem, -List.set_cons_succ, -List.set_cons_zero]
      exact done (.mk 2 n [] []) p2 (by omega) (by omega) (.mk (small_i64 (by omega) (by omega)) (small_i64 (by omega) (by omega)) (by simp) (by simp) (by simp)) (hP2 n (by omega) (by omega)) _ (by simp [row_mk])
    · refine call_drawE (of_draws [[97], [98], [110, 105, 108], [91, 93], [102, 111, 111], [43]] (by decide)) hc (by omega) (by omega) hi (by simp [Ob.re, C.re]) (fun r ⟨n, _, hn⟩ => by subst hn; rfl) (hf0 _) ?_
      rintro _ p2 ⟨s, hs, rfl⟩ h5 h6
      have hsm : s ∈ drawNames := draw_names hs
      have hs : s.length ≤ 3 := by simp at hs; rcases hs with rfl | rfl | rfl | rfl | rfl | rfl <;> decide
      simp -implicitDefEqProofs [hf0, go_sem, -List.set_cons_succ, -List.set_cons_zero]
      refine call_new (struct_full s) (by simp [Ob.re, C.re]) (by simp [A.re, C.re]) (hf1 _) (by simp [Ob.re, C.re]) ?_
      simp -implicitDefEqProofs [hf0, go_sem, -List.set_cons_succ, -List.set_cons_zero]
      exact done (.mk 3 0 s []) p2 (by omega) (by omega) (.mk (small_i64 (by omega) (by omega)) (small_i64 (by omega) (by omega)) (by omega) (by simp) (by simp)) (hP3 s hsm [] (by simp) (by simp)) _ (by simp [row_mk])
/-- whatever holds of leaves and is handed on, holds of what is drawn -/
theorem l1DrawP_draws (P : Nat → Tm → Prop) (h1 : ∀ d n, 0 ≤ n → n ≤ 25 → P d (.mk 1 n [] [])) (h2 : ∀ d n, -999 ≤ n → n ≤ 999 → P d (.mk 2 n [] [])) (h30 : ∀ s ∈ drawNames, P 0 (.mk 3 0 s []))
    (h3 : ∀ d, ∀ s ∈ drawNames, ∀ l : List Tm, l.length ≤ 3 → (∀ t ∈ l, P d t) → P (d + 1) (.mk 3 0 s l)) : ∀ d : Nat, d ≤ 6 → Draws 56 [.c (.d (.int .i64 d))] ((5 * 4 ^ d : Nat) : Int) (TmP (P d))
  | 0, h => draw_of (P := P 0) (Q := fun _ => False) (h1 0) (h2 0) (fun s hs l hl hq => by
      cases l with
      | nil => exact h30 s hs
      | cons a l => exact (hq a (by simp)).elim) 0 h 0 _ (by omega) (by decide) (fun h => absurd h (by omega))
  | d + 1, h => by
    refine draw_of (h1 _) (h2 _) (h3 d) (d + 1) h ((5 * 4 ^ d : Nat) : Int) _ (by omega) ?_ fun _ => ?_
    · have : 0 < 4 ^ d := Nat.pos_of_ne_zero (by simp)
      rw [Nat.pow_succ]; omega
    · have := l1DrawP_draws P h1 h2 h30 h3 d (by omega)
      rw [show (((d + 1 : Nat) : Int) - 1) = (d : Int) by omega]
      exact this
theorem l1Draw_draws (d : Nat) (hd : d ≤ 6) : Draws 56 [.c (.d (.int .i64 d))] ((5 * 4 ^ d : Nat) : Int) TmR := fun c p H i hc hp hp1 hi =>
  (l1DrawP_draws (fun _ _ => True) (fun _ _ _ _ => trivial) (fun _ _ _ _ => trivial) (fun _ _ => trivial) (fun _ _ _ _ _ _ => trivial) d hd c p H i hc hp hp1 hi).mono fun r H' ⟨⟨t, h1, h2, _⟩, h3⟩ => ⟨⟨t, h1, h2⟩, h3⟩
end Go.Proofs.YtgfmlifkhpjplaaGreatDoor

/-
  Terms that are drawn: copies that are changed.
  Conditions: none.
-/
open Go Go.AM Go.Proofs
namespace Go.Proofs.YtgfmlifkhpjplaaGreatDoor
open Go.ChangeShapes Go.WideShapes Go.ChangeAt Go.RowKit
set_option linter.unusedVariables false
set_option linter.unusedSimpArgs false
set_option maxRecDepth 100000
-- 75 loop.example/prologserver/spec.l1Some params 1 ntmps 8
def ac75 : Cd := .seq (.region [⟨(some 2),.alloc [(.d (.int .i64 0)),(.d (.int .i64 0)),(.d (.str [])),(.full [])],none⟩] [])
 (.seq (.region [⟨(some 3),.mv (.t 0),none⟩,
 ⟨(some 4),.mv (.t 0),none⟩,
 ⟨(some 5),.buildSlice 1 4 [(.int .i64 0)] [(0,(.k (.c (.d (.int .i64 3))))),(1,(.k (.c (.d (.int .i64 2))))),(2,(.k (.c (.d (.int .i64 4))))),(3,(.k (.c (.d (.int .i64 1)))))],none⟩,
 ⟨(some 6),.call false 37 [(.t 4),(.t 5)],none⟩,
 ⟨(some 7),.call false 56 [(.t 3),(.t 6)],none⟩,
 ⟨none,.store 4 (.t 2) (.t 7),none⟩] [0,3,4,5,6,7])
 (.ret))
theorem ac75_ok : cFunc Tryz.prog [] [(0,[],[]),(1,[0,3,4,5,6,7],[])] Tryz.f75 = some (ac75,[.cell 2 (some 4)],8) := by kernel_rfl
-- 35 loop.example/prologserver/spec.l1Mutate params 2 ntmps 51
-- loop head live: [4,5]
-- loop head live: [4,5,6]
def ac35 : Cd := .seq (.region [⟨(some 3),.box (.t 1),none⟩,
 ⟨(some 4),.alloc [(.d (.int .i64 0)),(.d (.int .i64 0)),(.d (.str [])),(.full [])],none⟩] [1])
 (.seq (.region [⟨(some 7),.load (some 4) (.t 3),none⟩,
 ⟨(some 8),.call false 29 [(.t 7)],none⟩,
 ⟨(some 5),.alloc [(.d (.int .i64 0)),(.d (.int .i64 0)),(.d (.str [])),(.full [])],none⟩,
 ⟨none,.store 4 (.t 5) (.t 8),none⟩] [3,7,8])
 (.seq (.seq (.region [⟨(some 9),.mv (.t 0),none⟩,
 ⟨(some 10),.call false 53 [(.t 9),(.k (.c (.d (.int .i64 50))))],none⟩] [9])
 (.block 0 (.seq (.region [⟨(some 12),.bin .eql (.t 10) (.k (.c (.d (.int .i64 0)))),none⟩,
 ⟨(some 11),.mv (.t 12),none⟩] [12])
 (.cond (.t 11)
 (.region [⟨(some 13),.mv (.t 0),none⟩,
 ⟨(some 14),.buildSlice 1 5 [(.int .i64 0)] [(0,(.k (.c (.d (.int .i64 0))))),(1,(.k (.c (.d (.int .i64 4))))),(2,(.k (.c (.d (.int .i64 1))))),(3,(.k (.c (.d (.int .i64 2))))),(4,(.k (.c (.d (.int .i64 3)))))],none⟩,
 ⟨(some 15),.call false 37 [(.t 13),(.t 14)],none⟩,
 ⟨(some 16),.fieldAddr 0 (.t 5),none⟩,
 ⟨none,.store 1 (.t 16) (.t 15),none⟩] [0,10,11,13,14,15,16])
 (.seq (.region [⟨(some 18),.bin .eql (.t 10) (.k (.c (.d (.int .i64 1)))),none⟩,
 ⟨(some 17),.mv (.t 18),none⟩] [11,18])
 (.cond (.t 17)
 (.region [⟨(some 19),.mv (.t 0),none⟩,
 ⟨(some 20),.buildSlice 1 5 [(.int .i64 0)] [(0,(.k (.c (.d (.int .i64 26))))),(1,(.k (.c (.d (.int .i64 1000))))),(2,(.k (.c (.d (.int .i64 (-1000)))))),(3,(.k (.c (.d (.int .i64 (-1)))))),(4,(.k (.c (.d (.int .i64 1)))))],none⟩,
 ⟨(some 21),.call false 37 [(.t 19),(.t 20)],none⟩,
 ⟨(some 22),.fieldAddr 1 (.t 5),none⟩,
 ⟨none,.store 1 (.t 22) (.t 21),none⟩] [0,10,17,19,20,21,22])
 (.seq (.region [⟨(some 24),.bin .eql (.t 10) (.k (.c (.d (.int .i64 2)))),none⟩,
 ⟨(some 23),.mv (.t 24),none⟩] [17,24])
 (.cond (.t 23)
 (.region [⟨(some 25),.mv (.t 0),none⟩,
 ⟨(some 26),.buildSlice 1 5 [(.str [])] [(0,(.k (.c (.d (.str []))))),(1,(.k (.c (.d (.str [88]))))),(2,(.k (.c (.d (.str [116,111,111,108,111,110,103]))))),(3,(.k (.c (.d (.str [195,169]))))),(4,(.k (.c (.d (.str [97])))))],none⟩,
 ⟨(some 27),.call false 54 [(.t 25),(.t 26)],none⟩,
 ⟨(some 28),.fieldAddr 2 (.t 5),none⟩,
 ⟨none,.store 1 (.t 28) (.t 27),none⟩] [0,10,23,25,26,27,28])
 (.seq (.region [⟨(some 30),.bin .eql (.t 10) (.k (.c (.d (.int .i64 3)))),none⟩,
 ⟨(some 29),.mv (.t 30),none⟩] [0,23,30])
 (.cond (.t 29)
 (.block 1 (.loop (.seq (.seq (.region [⟨(some 31),.fieldAddr 3 (.t 5),none⟩,
 ⟨(some 32),.load none (.t 31),none⟩,
 ⟨(some 33),.len 1 (.t 32),none⟩,
 ⟨(some 34),.bin .leq (.t 33) (.k (.c (.d (.int .i64 4)))),none⟩] [31,32,33])
 (.cond (.t 34)
 (.skip)
 (.exit 1)))
 (.block 2 (.region [⟨(some 35),.fieldAddr 3 (.t 5),none⟩,
 ⟨(some 36),.load none (.t 35),none⟩,
 ⟨(some 37),.qcall 55 [(.k (.c (.d (.int .i64 1))))],none⟩,
 ⟨(some 38),.buildSlice 4 1 [(.int .i64 0),(.int .i64 0),(.str []),(.sl [])] [(0,(.t 37))],none⟩,
 ⟨(some 39),.append false 4 (.t 36) (.t 38),none⟩,
 ⟨(some 40),.fieldAddr 3 (.t 5),none⟩,
 ⟨none,.store 1 (.t 40) (.t 39),none⟩] [34,35,36,37,38,39,40])))))
 (.seq (.region [⟨(some 42),.bin .eql (.t 10) (.k (.c (.d (.int .i64 4)))),none⟩,
 ⟨(some 41),.mv (.t 42),none⟩] [10,29,42])
 (.cond (.t 41)
 (.seq (.region [⟨(some 6),.mv (.k (.c (.d (.int .i64 0)))),none⟩] [41])
 (.block 3 (.loop (.seq (.seq (.region [⟨(some 43),.mv (.t 6),none⟩,
 ⟨(some 44),.bin .lss (.t 43) (.k (.c (.d (.int .i64 30)))),none⟩] [43])
 (.cond (.t 44)
 (.skip)
 (.exit 3)))
 (.seq (.block 4 (.region [⟨(some 47),.load (some 4) (.t 5),none⟩,
 ⟨(some 48),.buildSlice 4 1 [(.int .i64 0),(.int .i64 0),(.str []),(.sl [])] [(0,(.t 47))],none⟩,
 ⟨(some 49),.qcall 48 [(.k (.c (.d (.str [115])))),(.t 48)],none⟩,
 ⟨none,.store 4 (.t 5) (.t 49),none⟩] [44,47,48,49]))
 (.region [⟨(some 45),.mv (.t 6),none⟩,
 ⟨(some 46),.bin .add (.t 45) (.k (.c (.d (.int .i64 1)))),none⟩,
 ⟨(some 6),.mv (.t 46),none⟩] [45,46]))))))
 (.skip)))))))))))))
 (.seq (.region [⟨(some 50),.load (some 4) (.t 5),none⟩,
 ⟨none,.store 4 (.t 4) (.t 50),none⟩] [5,41,50])
 (.ret))))
theorem ac35_ok : cFunc Tryz.prog [1000048,1000055] [(0,[1],[]),(1,[3,7,8],[]),(2,[9],[]),(3,[12],[]),(4,[0,10,11,13,14,15,16],[]),(5,[11,18],[]),(6,[0,10,17,19,20,21,22],[]),(7,[17,24],[]),(8,[0,10,23,25,26,27,28],[]),(9,[0,23,30],[]),(10,[31,32,33],[]),(11,[34,35,36,37,38,39,40],[0,1,2,3,4,5,6]),(12,[10,29,42],[]),(13,[41],[]),(14,[43],[]),(16,[44,47,48,49],[]),(15,[45,46],[]),(17,[5,41,50],[])] Tryz.f35 = some (ac35,[.cell 4 (some 4)],51) := by kernel_rfl
theorem Draws.mono {f : FuncId} {xs : List A} {N N' : Int} {R : A → Prop} (h : Draws f xs N R) (hN : N ≤ N') : Draws f xs N' R := fun c p H i hc hp hp1 hi =>
  (h c p H i hc hp (by omega) hi).mono fun r H' ⟨h1, p', h2, h3, h4⟩ => ⟨h1, p', h2, by omega, h4⟩
theorem l1Some_draws : Draws 75 [] 1281 TmR := fun c p H i hc hp hp1 hi => by
  refine acalls Tryz.func75 (by kernel_rfl) ac75_ok fun hf => ?_
  simp only [List.length_set] at hf
  have hf0 : ∀ q, Obs.fits H.length 0 (H.set i (Rd c q)) := fun q => fits_reset (b := Rd c q) hf ⟨trivial, trivial, trivial⟩
  simp -implicitDefEqProofs [ac75, hf0, go_sem, -List.set_cons_succ, -List.set_cons_zero]
  refine call_drawE (num_draws [3, 2, 4, 1] (by decide)) hc (by omega) (by omega) hi (by simp [Ob.re, C.re]) (fun r ⟨n, _, hn⟩ => by subst hn; rfl) (hf0 _) ?_
  rintro _ p1 ⟨n, hn, rfl⟩ h1 h2
  obtain ⟨d, rfl, hd⟩ : ∃ d : Nat, n = (d : Int) ∧ d ≤ 4 := ⟨n.toNat, by simp at hn; omega, by simp at hn; omega⟩
  have hdr : Draws 56 [.c (.d (.int .i64 d))] 1280 TmR := (l1Draw_draws d (by omega)).mono (by
    have : 4 ^ d ≤ 4 ^ 4 := Nat.pow_le_pow_right (by omega) hd
    omega)
  simp -implicitDefEqProofs [hf0, go_sem, -List.set_cons_succ, -List.set_cons_zero]
  refine call_drawE hdr hc (by omega) (by omega) hi (by simp [Ob.re, C.re]) (fun r => TmR.re) (hf0 _) ?_
  rintro _ p2 ⟨t, rfl, ht⟩ h3 h4
  rw [row_eq]
  simp -implicitDefEqProofs [hf0, go_sem, -List.set_cons_succ, -List.set_cons_zero]
  exact ⟨⟨t, by rw [row_eq]; rfl, ht⟩, p2, by omega, by omega, rfl⟩
theorem copy_own (k n : Int) (s : List UInt8) (l : List Tm) (hfits : (Tm.mk k n s l).fits) (H : Heap) : ACalls Tryz.prog 29 [.agg ((Tm.mk k n s l).row.map .d)] H (fun r H' =>
    H' = H ++ [.cells [.d (.int .i64 k), .d (.int .i64 n), .d (.str s), .d (.sl (l.map Tm.row))], .cells [.d (.int .i64 k), .d (.int .i64 n), .d (.str s), .own (.e (H.length + 3)) l.length (l.map Tm.row)], .cells [.d (.int .i64 k), .d (.int .i64 n), .d (.str s), .own (.e (H.length + 3)) l.length (l.map Tm.row)], .grow l.length 4] ∧
    r = .agg [.d (.int .i64 k), .d (.int .i64 n), .d (.str s), .own (.e (H.length + 3)) l.length (l.map Tm.row)]) := by
  obtain ⟨hk, hn, hs, hl, hkids⟩ := hfits
  refine acallsK Tryz.func29 (by kernel_rfl) ac29_ok fun hf => ?_
  have hli : inR .i64 (l.length : Int) := small_i64 (by omega) (by omega)
  simp -implicitDefEqProofs [ac29, row_mk, hf, hli, go_sem, -List.set_cons_succ, -List.set_cons_zero]
  refine loop_enter (St.le_tokenC 2 3 4 rfl rfl) ?_
  refine loop_set (σ := Nat) (fun i => [(4, .c (.d (.int .i64 i)))]) (fun _ => H) (fun i => [.cells [.d (.int .i64 k), .d (.int .i64 n), .d (.str s), .d (.sl (l.map Tm.row))], .cells [.d (.int .i64 0), .d (.int .i64 0), .d (.str []), .full []], .cells [.d (.int .i64 k), .d (.int .i64 n), .d (.str s), .own (.l 3) i ((l.map Tm.row).take i)], .grow i 4])
    (fun i => i ≤ l.length) (fun i => l.length - i) 0 rfl (Nat.zero_le _) ?_
  intro i hi
  simp -implicitDefEqProofs [setAll, hli, go_sem, -List.set_cons_succ, -List.set_cons_zero]
  refine ⟨fun hlt => ?_, fun hge => ?_⟩
  · have hadd : inR .i64 ((i : Int) + 1) := small_i64 (by omega) (by omega)
    refine row_of hlt (row_len _) ?_
    simp -implicitDefEqProofs [row_len, take_row, pure_d, re_d, go_sem, -List.set_cons_succ, -List.set_cons_zero]
    refine qcall_pure (copy_calls l[i] (hkids _ (List.getElem_mem hlt))) hf (by simp [A.re, re_d]) ?_
    simp -implicitDefEqProofs [row_len, toDs_map, hadd, hf, Nat.min_eq_left hi, go_sem, -List.set_cons_succ, -List.set_cons_zero]
    refine ⟨fun r hr => allLen_map row_len r (List.mem_of_mem_take hr), by unfold maxApp; omega, ?_⟩
    refine loop_back (i + 1) ?_ hlt (by show l.length - (i + 1) < l.length - i; omega)
    simp [setAll, take_map_succ hlt]
  · have hil : i = l.length := by omega
    subst hil
    rw [show (l.map Tm.row).take l.length = l.map Tm.row from List.take_of_length_le (by simp)]
    simp -implicitDefEqProofs [hf, go_sem, -List.set_cons_succ, -List.set_cons_zero]
    refine finK_ret _ ⟨trivial, trivial⟩ rfl ?_
    simp [Ob.re, C.re, A.re, Ref.re]
theorem l1Mutate_draws (t : Tm) (ht : t.fits) : Draws 35 [.agg (t.row.map .d)] 2 TmR := fun c p H i hc hp hp1 hi => by
  obtain ⟨k, n, s, l⟩ := t
  refine acalls Tryz.func35 (by kernel_rfl) ac35_ok fun hf => ?_
  simp only [List.length_set] at hf
  have hf0 : ∀ q, Obs.fits H.length 0 (H.set i (Rd c q)) := fun q => fits_reset (b := Rd c q) hf ⟨trivial, trivial, trivial⟩
  have hf1 : ∀ q, Obs.fits (H.set i (Rd c q)).length 0 (H.set i (Rd c q)) := fun q => by simpa using hf0 q
  have hcopy := copy_own k n s l ht
  obtain ⟨hk, hn, hs, hl, hkids⟩ := ht
  rw [row_mk] at hcopy ⊢
  simp -implicitDefEqProofs [ac35, hf0, go_sem, -List.set_cons_succ, -List.set_cons_zero]
  have done : ∀ (t : Tm) (q : Int), p ≤ q → q ≤ p + 2 → t.fits → ∀ r, r = .agg (t.row.map .d) → Drew TmR 2 c p H i r (H.set i (Rd c q)) := fun t q a1 a2 a3 r hr => ⟨⟨t, hr, a3⟩, q, a1, a2, rfl⟩
  refine (hcopy _).mono fun r H' ⟨g1, g2⟩ => ⟨H.set i (Rd c p), [.cells [.d (.int .i64 k), .d (.int .i64 n), .d (.str s), .d (.sl (l.map Tm.row))], .cells [.d (.int .i64 0), .d (.int .i64 0), .d (.str []), .full []], .cells [.d (.int .i64 k), .d (.int .i64 n), .d (.str s), .d (.sl (l.map Tm.row))], .cells [.d (.int .i64 k), .d (.int .i64 n), .d (.str s), .own (.l 5) l.length (l.map Tm.row)], .cells [.d (.int .i64 k), .d (.int .i64 n), .d (.str s), .own (.l 5) l.length (l.map Tm.row)], .grow l.length 4],
    .agg [.d (.int .i64 k), .d (.int .i64 n), .d (.str s), .own (.l 5) l.length (l.map Tm.row)], by rw [g1]; simp [Ob.re, C.re, Ref.re], by simp, by simp, by simpa using hf0 p, by rw [g2]; simp [A.re, C.re, Ref.re], ?_⟩
  clear hcopy
  simp -implicitDefEqProofs [hf0, go_sem, -List.set_cons_succ, -List.set_cons_zero]
  refine call_drawE (pick_draws 50 (by omega)) hc (by omega) (by omega) hi (by simp [Ob.re, C.re, Ref.re]) (fun r => IntIn.re) (hf0 _) ?_
  rintro _ p1 ⟨m, rfl, m0, m1⟩ h1 h2
  simp -implicitDefEqProofs [hf0, go_sem, -List.set_cons_succ, -List.set_cons_zero]
  refine ⟨fun _ => ?_, fun _ => ⟨fun _ => ?_, fun _ => ⟨fun _ => ?_, fun _ => ⟨fun _ => ?_, fun _ => ⟨fun _ => ?_, fun _ => ?_⟩⟩⟩⟩⟩
  · refine call_drawE (num_draws [0, 4, 1, 2, 3] (by decide)) hc (by omega) (by omega) hi (by simp [Ob.re, C.re]) (fun r ⟨n, _, hn⟩ => by subst hn; rfl) (hf0 _) ?_
    rintro _ p2 ⟨x, hx, rfl⟩ h3 h4
    have hx : -1000 ≤ x ∧ x ≤ 1000 := by simp at hx; omega
    simp -implicitDefEqProofs [hf0, go_sem, -List.set_cons_succ, -List.set_cons_zero]
    exact done (.mk x n s l) p2 (by omega) (by omega) (.mk (small_i64 (by omega) (by omega)) hn hs hl hkids) _ (by simp [row_mk])
  · refine call_drawE (num_draws [26, 1000, -1000, -1, 1] (by decide)) hc (by omega) (by omega) hi (by simp [Ob.re, C.re]) (fun r ⟨n, _, hn⟩ => by subst hn; rfl) (hf0 _) ?_
    rintro _ p2 ⟨x, hx, rfl⟩ h3 h4
    have hx : -1000 ≤ x ∧ x ≤ 1000 := by simp at hx; omega
    simp -implicitDefEqProofs [hf0, go_sem, -List.set_cons_succ, -List.set_cons_zero]
    exact done (.mk k x s l) p2 (by omega) (by omega) (.mk hk (small_i64 (by omega) (by omega)) hs hl hkids) _ (by simp [row_mk])
  · refine call_drawE (of_draws [[], [88], [116, 111, 111, 108, 111, 110, 103], [195, 169], [97]] (by decide)) hc (by omega) (by omega) hi (by simp [Ob.re, C.re]) (fun r ⟨n, _, hn⟩ => by subst hn; rfl) (hf0 _) ?_
    rintro _ p2 ⟨x, hx, rfl⟩ h3 h4
    have hx : x.length ≤ 1000 := by simp at hx; rcases hx with rfl | rfl | rfl | rfl | rfl <;> decide
    simp -implicitDefEqProofs [hf0, go_sem, -List.set_cons_succ, -List.set_cons_zero]
    exact done (.mk k n x l) p2 (by omega) (by omega) (.mk hk hn (by omega) hl hkids) _ (by simp [row_mk])
  · refine loop_set (σ := List Tm) (fun _ => []) (fun _ => H.set i (Rd c p1)) (fun y => [.cells [.d (.int .i64 k), .d (.int .i64 n), .d (.str s), .d (.sl (l.map Tm.row))], .cells [.d (.int .i64 0), .d (.int .i64 0), .d (.str []), .full []], .cells [.d (.int .i64 k), .d (.int .i64 n), .d (.str s), .d (.sl (l.map Tm.row))], .cells [.d (.int .i64 k), .d (.int .i64 n), .d (.str s), .own (.l 5) l.length (l.map Tm.row)], .cells [.d (.int .i64 k), .d (.int .i64 n), .d (.str s), .own (.l 5) l.length (l.map Tm.row)], .grow y.length 4, .cells [.d (.int .i64 k), .d (.int .i64 n), .d (.str s), .own (.l 5) y.length (y.map Tm.row)]])
      (fun y => y.length ≤ 1048576 ∧ ∀ t ∈ y, t.fits) (fun y => 5 - y.length) l rfl ⟨hl, hkids⟩ ?_
    rintro y ⟨hy, hyf⟩
    have hly : inR .i64 (y.length : Int) := small_i64 (by omega) (by omega)
    simp -implicitDefEqProofs [setAll, hf0, hly, go_sem, -List.set_cons_succ, -List.set_cons_zero]
    refine ⟨fun hlt => ?_, fun hge => ?_⟩
    · refine qcall_pure (int_calls 1) (hf1 _) (by simp [A.re, re_d]) ?_
      simp -implicitDefEqProofs [hf0, row_mk, go_sem, -List.set_cons_succ, -List.set_cons_zero]
      refine ⟨allLen_map row_len, by unfold maxApp; omega, ?_⟩
      refine loop_back (y ++ [Tm.mk 2 1 [] []]) (by simp [setAll, row_mk]) ⟨by simp; omega, fun t ht => ?_⟩ (by show 5 - (y ++ [Tm.mk 2 1 [] []]).length < 5 - y.length; simp; omega)
      rcases List.mem_append.1 ht with ht | ht
      · exact hyf t ht
      · simp at ht; subst ht; exact .mk (small_i64 (by omega) (by omega)) (small_i64 (by omega) (by omega)) (by simp) (by simp) (by simp)
    · exact done (.mk k n s y) p1 (by omega) (by omega) (.mk hk hn hs hy hyf) _ (by simp [row_mk])
  · refine loop_set (σ := Nat × Tm) (fun x => [(6, .c (.d (.int .i64 x.1)))]) (fun _ => H.set i (Rd c p1)) (fun x => [.cells [.d (.int .i64 k), .d (.int .i64 n), .d (.str s), .d (.sl (l.map Tm.row))], .cells [.d (.int .i64 0), .d (.int .i64 0), .d (.str []), .full []], .cells [.d (.int .i64 k), .d (.int .i64 n), .d (.str s), .d (.sl (l.map Tm.row))], .cells [.d (.int .i64 k), .d (.int .i64 n), .d (.str s), .own (.l 5) l.length (l.map Tm.row)], .cells [.d (.int .i64 k), .d (.int .i64 n), .d (.str s), .own (.l 5) l.length (l.map Tm.row)], .grow l.length 4, .cells (if x.1 = 0 then [.d (.int .i64 k), .d (.int .i64 n), .d (.str s), .own (.l 5) l.length (l.map Tm.row)] else x.2.row.map .d)])
      (fun x => x.1 ≤ 30 ∧ x.2.fits ∧ (x.1 = 0 → x.2 = .mk k n s l)) (fun x => 30 - x.1) (0, Tm.mk k n s l) rfl ⟨by omega, .mk hk hn hs hl hkids, fun _ => rfl⟩ ?_
    rintro ⟨j, u⟩ ⟨hj, hu, hj0⟩
    simp only at hj hu hj0
    have hadd : inR .i64 ((j : Int) + 1) := small_i64 (by omega) (by omega)
    have hone : (Tm.mk 3 0 [115] [u]).fits := .mk (small_i64 (by omega) (by omega)) (small_i64 (by omega) (by omega)) (by simp) (by simp) (by simpa using hu)
    have hst := struct_calls [115] [u] (by simp)
    simp only [List.map_cons, List.map_nil] at hst
    by_cases hz : j = 0
    · subst hz
      have hu := hj0 rfl
      subst hu
      have h1 : inR .i64 1 := small_i64 (by omega) (by omega)
      simp -implicitDefEqProofs [setAll, hf0, go_sem, -List.set_cons_succ, -List.set_cons_zero]
      rw [row_mk] at hst
      refine qcall_pure hst (hf1 _) (by simp [A.re, re_d]) ?_
      simp -implicitDefEqProofs [hf0, h1, row_len, take_row, go_sem, -List.set_cons_succ, -List.set_cons_zero]
      exact loop_back (1, Tm.mk 3 0 [115] [Tm.mk k n s l]) (by simp [setAll]) ⟨by simp, hone, fun h => by simp at h⟩ (by show 30 - 1 < 30 - 0; omega)
    · simp -implicitDefEqProofs [setAll, hf0, hz, hadd, row_len, take_row, toDs_map, go_sem, -List.set_cons_succ, -List.set_cons_zero]
      refine ⟨fun hlt => ?_, fun hge => ?_⟩
      · refine qcall_pure hst (hf1 _) (by simp [A.re, re_d, row_len]) ?_
        simp -implicitDefEqProofs [hf0, hadd, row_len, take_row, go_sem, -List.set_cons_succ, -List.set_cons_zero]
        exact loop_back (j + 1, Tm.mk 3 0 [115] [u]) (by simp [setAll, row_len]) ⟨by show j + 1 ≤ 30; omega, hone, fun h => by simp at h⟩ (by show 30 - (j + 1) < 30 - j; omega)
      · simp [thaw_d, fits_map]
        exact done u p1 (by omega) (by omega) hu _ rfl
  · exact done (.mk k n s l) p1 (by omega) (by omega) (.mk hk hn hs hl hkids) _ (by simp [row_mk])
end Go.Proofs.YtgfmlifkhpjplaaGreatDoor

/-
  Terms with operators, drawn.
  Conditions: none.
-/
open Go Go.AM Go.Proofs
namespace Go.Proofs.YtgfmlifkhpjplaaGreatDoor
open Go.ChangeShapes Go.WideShapes Go.ChangeAt Go.RowKit
set_option linter.unusedVariables false
set_option linter.unusedSimpArgs false
set_option maxRecDepth 100000
-- 36 loop.example/prologserver/spec.l2Draw params 2 ntmps 28
def ac36 : Cd := .seq (.region [⟨(some 4),.alloc [(.d (.int .i64 0)),(.d (.int .i64 0)),(.d (.str [])),(.full [])],none⟩] [])
 (.seq (.seq (.region [⟨(some 5),.mv (.t 1),none⟩,
 ⟨(some 6),.bin .lss (.t 5) (.k (.c (.d (.int .i64 2)))),none⟩] [5])
 (.cond (.t 6)
 (.seq (.region [⟨(some 7),.mv (.t 0),none⟩,
 ⟨(some 8),.call false 56 [(.t 7),(.k (.c (.d (.int .i64 1))))],none⟩,
 ⟨none,.store 4 (.t 4) (.t 8),none⟩] [0,1,6,7,8])
 (.ret))
 (.skip)))
 (.seq (.seq (.region [⟨(some 9),.mv (.t 0),none⟩,
 ⟨(some 10),.call false 53 [(.t 9),(.k (.c (.d (.int .i64 3))))],none⟩,
 ⟨(some 11),.bin .eql (.t 10) (.k (.c (.d (.int .i64 0)))),none⟩] [6,9,10])
 (.cond (.t 11)
 (.seq (.region [⟨(some 12),.mv (.t 0),none⟩,
 ⟨(some 13),.mv (.t 1),none⟩,
 ⟨(some 14),.call false 56 [(.t 12),(.t 13)],none⟩,
 ⟨none,.store 4 (.t 4) (.t 14),none⟩] [0,1,11,12,13,14])
 (.ret))
 (.skip)))
 (.seq (.region [⟨(some 15),.mv (.t 0),none⟩,
 ⟨(some 16),.buildSlice 1 8 [(.str [])] [(0,(.k (.c (.d (.str [43]))))),(1,(.k (.c (.d (.str [45]))))),(2,(.k (.c (.d (.str [42]))))),(3,(.k (.c (.d (.str [105,115]))))),(4,(.k (.c (.d (.str [109,111,100]))))),(5,(.k (.c (.d (.str [61]))))),(6,(.k (.c (.d (.str [47,47]))))),(7,(.k (.c (.d (.str [61,60])))))],none⟩,
 ⟨(some 17),.call false 54 [(.t 15),(.t 16)],none⟩,
 ⟨(some 18),.mv (.t 0),none⟩,
 ⟨(some 19),.mv (.t 1),none⟩,
 ⟨(some 20),.bin .sub (.t 19) (.k (.c (.d (.int .i64 1)))),none⟩,
 ⟨(some 21),.call false 36 [(.t 18),(.t 20)],none⟩,
 ⟨(some 22),.mv (.t 0),none⟩,
 ⟨(some 23),.mv (.t 1),none⟩,
 ⟨(some 24),.bin .sub (.t 23) (.k (.c (.d (.int .i64 1)))),none⟩,
 ⟨(some 25),.call false 36 [(.t 22),(.t 24)],none⟩,
 ⟨(some 26),.buildSlice 4 2 [(.int .i64 0),(.int .i64 0),(.str []),(.sl [])] [(0,(.t 21)),(1,(.t 25))],none⟩,
 ⟨(some 27),.qcall 48 [(.t 17),(.t 26)],none⟩,
 ⟨none,.store 4 (.t 4) (.t 27),none⟩] [0,1,11,15,16,17,18,19,20,21,22,23,24,25,26,27])
 (.ret))))
theorem ac36_ok : cFunc Tryz.prog [1000048] [(0,[],[]),(1,[5],[]),(2,[0,1,6,7,8],[]),(3,[6,9,10],[]),(4,[0,1,11,12,13,14],[]),(5,[0,1,11,15,16,17,18,19,20,21,22,23,24,25,26,27],[])] Tryz.f36 = some (ac36,[.cell 4 (some 4)],28) := by kernel_rfl
-- 14 loop.example/prologserver/spec.DrawWriteTerm params 1 ntmps 13
def nD (d : Nat) : Int := ((6 * 4 ^ d + 20 : Nat) : Int)
theorem nD_le {d : Nat} (h : d ≤ 5) : 0 ≤ nD d ∧ nD d ≤ 10000 := by
  have : 4 ^ d ≤ 4 ^ 5 := Nat.pow_le_pow_right (by omega) h
  unfold nD; omega
end Go.Proofs.YtgfmlifkhpjplaaGreatDoor

/-
  Drawn terms are small and have names.
  Conditions: none.
-/
open Go Go.AM Go.Proofs
namespace Go.Proofs.YtgfmlifkhpjplaaGreatDoor
open Go.ChangeShapes Go.WideShapes Go.ChangeAt Go.RowKit
set_option linter.unusedVariables false
set_option linter.unusedSimpArgs false
set_option maxRecDepth 100000
theorem names_ok : ∀ s ∈ drawNames, nameB s = true := by decide
theorem shapes_of {d : Nat} : ∀ {l : List Tm}, (∀ t ∈ l, t.shape d = true) → shapes d l = true := fun h => by
  rw [shapes_all, List.all_eq_true]
  exact h
theorem sizes_of {n : Nat} : ∀ {l : List Tm}, (∀ t ∈ l, t.size ≤ n) → sizes l ≤ l.length * n
  | [], _ => by simp [sizes]
  | t :: l, h => by
    have h1 := h t (by simp)
    have h2 := sizes_of (l := l) fun u hu => h u (by simp [hu])
    simp only [sizes, List.length_cons, Nat.add_mul, Nat.one_mul]
    omega
theorem struct_shape {d : Nat} {s : List UInt8} {l : List Tm} (hs : nameB s = true) (hl : l.length ≤ 4) (h : ∀ t ∈ l, t.shape d = true) : (Tm.mk 3 0 s l).shape (d + 1) = true := by
  simp [Tm.shape, Tm.ownB, hs, hl, shapes_of h]
def sz3 : Nat → Nat
  | 0 => 1
  | d + 1 => 3 * sz3 d + 1
theorem sz3_pos (d : Nat) : 1 ≤ sz3 d := by cases d <;> simp [sz3]
def VW (d : Nat) (t : Tm) : Prop := t.shape (d + 1) = true ∧ t.size ≤ sz3 d
theorem drawW (d : Nat) (hd : d ≤ 6) : Draws 56 [.c (.d (.int .i64 d))] ((5 * 4 ^ d : Nat) : Int) (TmP (VW d)) :=
  l1DrawP_draws VW (fun d n h0 h1 => ⟨by simp [Tm.shape, Tm.ownB, shapes, h0, h1], by have := sz3_pos d; simp [Tm.size, sizes]; omega⟩)
    (fun d n h0 h1 => ⟨by simp [Tm.shape, Tm.ownB, shapes, h0, h1], by have := sz3_pos d; simp [Tm.size, sizes]; omega⟩)
    (fun s hs => ⟨struct_shape (names_ok s hs) (by simp) (by simp), by simp [Tm.size, sizes, sz3]⟩)
    (fun d s hs l hl h => ⟨struct_shape (names_ok s hs) (by omega) fun t ht => (h t ht).1, by
      have h1 := sizes_of (l := l) fun t ht => (h t ht).2
      have h2 : l.length * sz3 d ≤ 3 * sz3 d := Nat.mul_le_mul_right _ hl
      rw [Tm.size, sz3]
      omega⟩) d hd
end Go.Proofs.YtgfmlifkhpjplaaGreatDoor

/-
  Texts of terms with operators, drawn.
  Conditions: none.
-/
open Go Go.AM Go.Proofs
namespace Go.Proofs.YtgfmlifkhpjplaaGreatDoor
open Go.ChangeShapes Go.WideShapes Go.ChangeAt Go.RowKit
set_option linter.unusedVariables false
set_option linter.unusedSimpArgs false
set_option maxRecDepth 100000
-- 42 loop.example/prologserver/spec.l1Bend params 3 ntmps 35
def ac42 : Cd := .seq (.region [⟨(some 6),.mv (.k (.c (.d (.str [])))),none⟩] [6])
 (.seq (.seq (.region [⟨(some 8),.mv (.t 1),none⟩,
 ⟨(some 9),.len 0 (.t 8),none⟩,
 ⟨(some 10),.bin .eql (.t 9) (.k (.c (.d (.int .i64 0)))),none⟩,
 ⟨(some 11),.mv (.t 10),none⟩,
 ⟨(some 12),.mv (.t 0),some (11,false)⟩,
 ⟨(some 13),.call false 53 [(.t 12),(.k (.c (.d (.int .i64 2))))],some (11,false)⟩,
 ⟨(some 14),.bin .eql (.t 13) (.k (.c (.d (.int .i64 0)))),some (11,false)⟩,
 ⟨(some 15),.pick (.t 11) (.k (.c (.d (.bool true)))) (.t 14),none⟩] [8,9,10,11,12,13,14])
 (.cond (.t 15)
 (.seq (.region [⟨(some 16),.mv (.t 1),none⟩,
 ⟨(some 6),.mv (.t 16),none⟩] [0,1,2,15,16])
 (.ret))
 (.skip)))
 (.seq (.region [⟨(some 17),.mv (.t 0),none⟩,
 ⟨(some 18),.mv (.t 1),none⟩,
 ⟨(some 19),.len 0 (.t 18),none⟩,
 ⟨(some 20),.call false 53 [(.t 17),(.t 19)],none⟩,
 ⟨(some 7),.mv (.t 20),none⟩] [6,15,17,18,19,20])
 (.seq (.region [⟨(some 21),.mv (.t 1),none⟩,
 ⟨(some 22),.mv (.t 7),none⟩,
 ⟨(some 23),.slice 0 (.t 21) none (some (.t 22)) none,none⟩,
 ⟨(some 24),.mv (.t 0),none⟩,
 ⟨(some 25),.mv (.t 2),none⟩,
 ⟨(some 28),.mv (.t 1),none⟩,
 ⟨(some 29),.mv (.t 7),none⟩,
 ⟨(some 30),.mv (.t 0),none⟩,
 ⟨(some 26),.call false 54 [(.t 24),(.t 25)],none⟩,
 ⟨(some 27),.bin .add (.t 23) (.t 26),none⟩,
 ⟨(some 31),.call false 53 [(.t 30),(.k (.c (.d (.int .i64 2))))],none⟩,
 ⟨(some 32),.bin .add (.t 29) (.t 31),none⟩,
 ⟨(some 33),.slice 0 (.t 28) (some (.t 32)) none none,none⟩,
 ⟨(some 34),.bin .add (.t 27) (.t 33),none⟩,
 ⟨(some 6),.mv (.t 34),none⟩] [0,1,2,7,21,22,23,24,25,26,27,28,29,30,31,32,33,34])
 (.ret))))
theorem ac42_ok : cFunc Tryz.prog [] [(0,[6],[]),(1,[8,9,10,11,12,13,14],[]),(2,[0,1,2,15,16],[]),(3,[6,15,17,18,19,20],[]),(4,[0,1,2,7,21,22,23,24,25,26,27,28,29,30,31,32,33,34],[0,1,2,3,4,7,8,9,5,6,10,11,12,13,14])] Tryz.f42 = some (ac42,[.tmp 6],35) := by kernel_rfl
-- 19 loop.example/prologserver/spec.DrawReadTerm params 1 ntmps 15
def ac19 : Cd := .seq (.region [⟨(some 2),.mv (.k (.c (.d (.str [])))),none⟩] [2])
 (.seq (.region [⟨(some 4),.mv (.t 0),none⟩,
 ⟨(some 5),.call false 34 [(.t 4)],none⟩,
 ⟨(some 3),.mv (.t 5),none⟩] [0,4,5])
 (.seq (.region [⟨(some 6),.mv (.t 3),none⟩,
 ⟨(some 7),.mv (.t 3),none⟩,
 ⟨(some 8),.mv (.t 3),none⟩,
 ⟨(some 9),.buildSlice 1 4 [(.int .i64 0)] [(0,(.k (.c (.d (.int .i64 3))))),(1,(.k (.c (.d (.int .i64 2))))),(2,(.k (.c (.d (.int .i64 4))))),(3,(.k (.c (.d (.int .i64 1)))))],none⟩,
 ⟨(some 10),.call false 37 [(.t 8),(.t 9)],none⟩,
 ⟨(some 11),.call false 36 [(.t 7),(.t 10)],none⟩,
 ⟨(some 12),.qcall 39 [(.t 11)],none⟩,
 ⟨(some 13),.buildSlice 1 9 [(.str [])] [(0,(.k (.c (.d (.str []))))),(1,(.k (.c (.d (.str [40]))))),(2,(.k (.c (.d (.str [41]))))),(3,(.k (.c (.d (.str [43]))))),(4,(.k (.c (.d (.str [65]))))),(5,(.k (.c (.d (.str [49]))))),(6,(.k (.c (.d (.str [32]))))),(7,(.k (.c (.d (.str [45]))))),(8,(.k (.c (.d (.str [105,115])))))],none⟩,
 ⟨(some 14),.call false 42 [(.t 6),(.t 12),(.t 13)],none⟩,
 ⟨(some 2),.mv (.t 14),none⟩] [3,6,7,8,9,10,11,12,13,14])
 (.ret)))
theorem ac19_ok : cFunc Tryz.prog [1000039] [(0,[2],[]),(1,[0,4,5],[]),(2,[3,6,7,8,9,10,11,12,13,14],[])] Tryz.f19 = some (ac19,[.tmp 2],15) := by kernel_rfl
/-- a text that is drawn -/
def StrR (n : Nat) (r : A) : Prop := ∃ s : List UInt8, r = .c (.d (.str s)) ∧ s.length ≤ n
theorem StrR.re {n m : Nat} {r : A} (h : StrR n r) : A.re m r = r := by obtain ⟨s, rfl, _⟩ := h; simp [A.re, C.re]
theorem bend_draws (s : List UInt8) (hs : s.length ≤ 100000) (l : List (List UInt8)) (hl : (1 ≤ l.length ∧ l.length ≤ 1000) ∧ ∀ x ∈ l, x.length ≤ 10) : Draws 42 [.c (.d (.str s)), .c (.d (.sl (l.map fun s => [.str s])))] 4 (StrR (s.length + 10)) := fun c p H i hc hp hp1 hi => by
  refine acalls Tryz.func42 (by kernel_rfl) ac42_ok fun hf => ?_
  simp only [List.length_set] at hf
  have hf0 : ∀ q, Obs.fits H.length 0 (H.set i (Rd c q)) := fun q => fits_reset (b := Rd c q) hf ⟨trivial, trivial, trivial⟩
  have hli : inR .i64 (s.length : Int) := small_i64 (by omega) (by omega)
  have fin : ∀ (t : List UInt8) (q : Int), t.length ≤ s.length + 10 → p ≤ q → q ≤ p + 4 → Drew (StrR (s.length + 10)) 4 c p H i (.c (.d (.str t))) (H.set i (Rd c q)) := fun t q h a1 a2 => ⟨⟨t, rfl, h⟩, q, a1, a2, rfl⟩
  cases hse : s with
  | nil =>
    subst hse
    simp -implicitDefEqProofs [ac42, hf0, go_sem, -List.set_cons_succ, -List.set_cons_zero]
    exact ⟨small_i64 (by omega) (by omega), fin [] p (by simp) (by omega) (by omega)⟩
  | cons b w =>
    rw [← hse]
    have hpos : 0 < s.length := by rw [hse]; simp
    have hz : ¬ ((s.length : Int) = 0) := by omega
    have hz2 : ¬ s = [] := by rw [hse]; simp
    simp -implicitDefEqProofs [ac42, hf0, hli, hz, hz2, go_sem, -List.set_cons_succ, -List.set_cons_zero]
    refine call_drawE (pick_draws 2 (by omega)) hc (by omega) (by omega) hi (by simp [Ob.re, C.re]) (fun r => IntIn.re) (hf0 _) ?_
    rintro _ p1 ⟨k, rfl, k1, k2⟩ h1 h2
    simp -implicitDefEqProofs [hf0, hli, hz, go_sem, -List.set_cons_succ, -List.set_cons_zero]
    refine ⟨fun _ => fin s p1 (by omega) (by omega) (by omega), fun _ => ?_⟩
    refine call_drawE (pick_draws s.length (by omega)) hc (by omega) (by omega) hi (by simp [Ob.re, C.re]) (fun r => IntIn.re) (hf0 _) ?_
    rintro _ p2 ⟨m, rfl, m1, m2⟩ h3 h4
    simp -implicitDefEqProofs [hf0, hli, go_sem, -List.set_cons_succ, -List.set_cons_zero]
    refine ⟨⟨m1, by omega⟩, ?_⟩
    refine call_drawE (of_draws l hl.1) hc (by omega) (by omega) hi (by simp [Ob.re, C.re]) (fun r ⟨n, _, hn⟩ => by subst hn; rfl) (hf0 _) ?_
    rintro _ p3 ⟨x, hx, rfl⟩ h5 h6
    have hxl := hl.2 x hx
    simp -implicitDefEqProofs [hf0, hli, go_sem, -List.set_cons_succ, -List.set_cons_zero]
    refine ⟨by unfold maxStr; omega, ?_⟩
    refine call_drawE (pick_draws 2 (by omega)) hc (by omega) (by omega) hi (by simp [Ob.re, C.re]) (fun r => IntIn.re) (hf0 _) ?_
    rintro _ p4 ⟨j, rfl, j1, j2⟩ h7 h8
    have hmj : inR .i64 (m + j) := small_i64 (by omega) (by omega)
    simp -implicitDefEqProofs [hf0, hli, hmj, go_sem, -List.set_cons_succ, -List.set_cons_zero]
    refine ⟨by omega, ?_⟩
    have e1 : (m + j).toNat = m.toNat + j.toNat := by omega
    have e2 : m.toNat ≤ s.length := by omega
    refine ⟨by unfold maxStr; omega, fin _ p4 ?_ (by omega) (by omega)⟩
    simp
    omega
def VQ (d : Nat) : Tm → Prop := VW (max d 1)
theorem VW.up {d e : Nat} {t : Tm} (h : VW d t) (hde : d ≤ e) : VW e t := by
  refine ⟨shp_mono t _ _ (by omega) h.1, Nat.le_trans h.2 ?_⟩
  clear h
  induction hde with
  | refl => exact Nat.le_refl _
  | step _ ih => simp only [sz3]; omega
theorem Draws.imp {f : FuncId} {xs : List A} {N : Int} {R R' : A → Prop} (h : Draws f xs N R) (hR : ∀ r, R r → R' r) : Draws f xs N R' := fun c p H i hc hp hp1 hi =>
  (h c p H i hc hp hp1 hi).mono fun r H' ⟨h1, p', h2, h3, h4⟩ => ⟨hR r h1, p', h2, h3, h4⟩
theorem TmP.imp {P Q : Tm → Prop} {r : A} (h : ∀ t, P t → Q t) : TmP P r → TmP Q r := fun ⟨t, h1, h2, h3⟩ => ⟨t, h1, h2, h t h3⟩
theorem l2DrawQ : ∀ d : Nat, d ≤ 5 → Draws 36 [.c (.d (.int .i64 d))] (nD d) (TmP (VQ d))
  | 0, hd => fun c p H i hc hp hp1 hi => by
    have hn := nD_le hd
    refine acalls Tryz.func36 (by kernel_rfl) ac36_ok fun hf => ?_
    simp only [List.length_set] at hf
    have hf0 : ∀ q, Obs.fits H.length 0 (H.set i (Rd c q)) := fun q => fits_reset (b := Rd c q) hf ⟨trivial, trivial, trivial⟩
    simp -implicitDefEqProofs [ac36, hf0, go_sem, -List.set_cons_succ, -List.set_cons_zero]
    have e : nD 0 = 26 := by unfold nD; rfl
    rw [e] at hp1 ⊢
    refine call_drawE (((drawW 1 (by omega)).imp (R' := TmP (VQ 0)) fun r => TmP.imp fun t h => h).mono (N' := 26) (by decide)) hc (by omega) (by omega) hi (by simp [Ob.re, C.re]) (fun r => TmP.re) (hf0 _) ?_
    rintro _ p1 ⟨t, rfl, ht, hV⟩ h1 h2
    simp -implicitDefEqProofs [hf0, row_len, take_row, pure_d, re_d, thaw_d, fits_map, go_sem, -List.set_cons_succ, -List.set_cons_zero]
    exact ⟨⟨t, rfl, ht, hV⟩, p1, by omega, by omega, rfl⟩
  | d + 1, hd => fun c p H i hc hp hp1 hi => by
    have ih := l2DrawQ d (by omega)
    have hn := nD_le hd
    have h4 : 0 < 4 ^ d := Nat.pos_of_ne_zero (by simp)
    have hpow : 4 ^ (d + 1) = 4 * 4 ^ d := by rw [Nat.pow_succ]; omega
    refine acalls Tryz.func36 (by kernel_rfl) ac36_ok fun hf => ?_
    simp only [List.length_set] at hf
    have hf0 : ∀ q, Obs.fits H.length 0 (H.set i (Rd c q)) := fun q => fits_reset (b := Rd c q) hf ⟨trivial, trivial, trivial⟩
    have hf1 : ∀ q, Obs.fits (H.set i (Rd c q)).length 0 (H.set i (Rd c q)) := fun q => by simpa using hf0 q
    have fin : ∀ (t : Tm) (q : Int), t.fits → VQ (d + 1) t → p ≤ q → q ≤ p + nD (d + 1) → Drew (TmP (VQ (d + 1))) (nD (d + 1)) c p H i (.agg (t.row.map .d)) (H.set i (Rd c q)) := fun t q ht hV a1 a2 => ⟨⟨t, rfl, ht, hV⟩, q, a1, a2, rfl⟩
    have m1 : Draws 56 [.c (.d (.int .i64 1))] (nD (d + 1)) (TmP (VQ (d + 1))) := ((drawW 1 (by omega)).imp fun r => TmP.imp fun t h => h.up (by omega)).mono (by unfold nD; omega)
    have e1 : ((d + 1 : Nat) : Int) = (d : Int) + 1 := by omega
    have m2 : Draws 56 [.c (.d (.int .i64 ((d : Int) + 1)))] (nD (d + 1) - 1) (TmP (VQ (d + 1))) := by
      have := (drawW (d + 1) (by omega)).imp (R' := TmP (VQ (d + 1))) fun r => TmP.imp fun t h => h.up (by omega)
      rw [e1] at this
      exact this.mono (by unfold nD; omega)
    have hVst : ∀ {u w : Tm}, VQ d u → VQ d w → ∀ s, nameB s = true → d ≠ 0 → VQ (d + 1) (.mk 3 0 s [u, w]) := fun {u w} h1 h2 s hs h0 => by
      unfold VQ at h1 h2 ⊢
      rw [Nat.max_eq_left (by omega)] at h1 h2 ⊢
      have hp := sz3_pos d
      refine ⟨struct_shape hs (by simp) (by simp [h1.1, h2.1]), ?_⟩
      have g1 := h1.2
      have g2 := h2.2
      simp only [Tm.size, sizes, sz3]
      omega
    rw [e1]
    by_cases hd2 : d = 0
    · subst hd2
      simp -implicitDefEqProofs [ac36, hf0, go_sem, -List.set_cons_succ, -List.set_cons_zero]
      refine call_drawE m1 hc (by omega) (by omega) hi (by simp [Ob.re, C.re]) (fun r => TmP.re) (hf0 _) ?_
      rintro _ p1 ⟨t, rfl, ht, hV⟩ h1 h2
      simp -implicitDefEqProofs [hf0, row_len, take_row, pure_d, re_d, thaw_d, fits_map, go_sem, -List.set_cons_succ, -List.set_cons_zero]
      exact fin t p1 ht hV (by omega) (by omega)
    · have hge : ¬ ((d : Int) + 1 < 2) := by omega
      have hsub : inR .i64 ((d : Int) + 1 - 1) := small_i64 (by omega) (by omega)
      have esub : (d : Int) + 1 - 1 = d := by omega
      have hdi : inR .i64 (d : Int) := small_i64 (by omega) (by omega)
      have hNN : nD (d + 1) = 6 * 4 * (4 ^ d : Nat) + 20 ∧ nD d = 6 * (4 ^ d : Nat) + 20 ∧ (4 : Int) ≤ (4 ^ d : Nat) := by
        have : 4 ^ 1 ≤ 4 ^ d := Nat.pow_le_pow_right (by omega) (by omega)
        unfold nD
        rw [hpow]
        omega
      simp -implicitDefEqProofs [ac36, hge, hf0, go_sem, -List.set_cons_succ, -List.set_cons_zero]
      refine call_drawE (pick_draws 3 (by omega)) hc (by omega) (by omega) hi (by simp [Ob.re, C.re]) (fun r => IntIn.re) (hf0 _) ?_
      rintro _ p1 ⟨k, rfl, k1, k2⟩ h1 h2
      simp -implicitDefEqProofs [hf0, hsub, esub, hdi, go_sem, -List.set_cons_succ, -List.set_cons_zero]
      refine ⟨fun _ => ?_, fun _ => ?_⟩
      · refine call_drawE m2 hc (by omega) (by omega) hi (by simp [Ob.re, C.re]) (fun r => TmP.re) (hf0 _) ?_
        rintro _ p2 ⟨t, rfl, ht, hV⟩ h3 h5
        simp -implicitDefEqProofs [hf0, row_len, take_row, pure_d, re_d, thaw_d, fits_map, go_sem, -List.set_cons_succ, -List.set_cons_zero]
        exact fin t p2 ht hV (by omega) (by omega)
      · refine call_drawE (of_draws [[43], [45], [42], [105, 115], [109, 111, 100], [61], [47, 47], [61, 60]] (by decide)) hc (by omega) (by omega) hi (by simp [Ob.re, C.re]) (fun r ⟨n, _, hn⟩ => by subst hn; rfl) (hf0 _) ?_
        rintro _ p2 ⟨s, hs, rfl⟩ h3 h5
        have hsn : nameB s = true := by simp at hs; rcases hs with rfl | rfl | rfl | rfl | rfl | rfl | rfl | rfl <;> decide
        have hsl : s.length ≤ 3 := by simp at hs; rcases hs with rfl | rfl | rfl | rfl | rfl | rfl | rfl | rfl <;> decide
        simp -implicitDefEqProofs [hf0, hsub, esub, hdi, go_sem, -List.set_cons_succ, -List.set_cons_zero]
        refine call_drawE ih hc (by omega) (by omega) hi (by simp [Ob.re, C.re]) (fun r => TmP.re) (hf0 _) ?_
        rintro _ p3 ⟨u, rfl, hu, huV⟩ h6 h7
        simp -implicitDefEqProofs [hf0, hsub, esub, hdi, row_len, take_row, pure_d, re_d, go_sem, -List.set_cons_succ, -List.set_cons_zero]
        refine call_drawE ih hc (by omega) (by omega) hi (by simp [Ob.re, C.re]) (fun r => TmP.re) (hf0 _) ?_
        rintro _ p4 ⟨w, rfl, hw, hwV⟩ h8 h9
        have hst := struct_calls s [u, w] (by simp)
        simp only [List.map_cons, List.map_nil] at hst
        simp -implicitDefEqProofs [hf0, row_len, take_row, pure_d, re_d, toDs_map, go_sem, -List.set_cons_succ, -List.set_cons_zero]
        refine qcall_pure hst (hf1 _) (by simp [A.re, re_d]) ?_
        simp -implicitDefEqProofs [hf0, row_len, take_row, pure_d, re_d, thaw_d, fits_map, go_sem, -List.set_cons_succ, -List.set_cons_zero]
        exact fin (.mk 3 0 s [u, w]) p4 (.mk (by decide) (by decide) (by omega) (by simp) (by simp [hu, hw])) (hVst huV hwV s hsn hd2) (by omega) (by omega)
/-- a drawn text -/
theorem drawRt_calls (c : List UInt8) (hc : c.length ≤ 1048576) (H : Heap) : ACalls Tryz.prog 19 [.c (.d (.sl (bytesRows c)))] H (fun r H' => H' = H ∧ StrR 100010 r) := by
  refine acalls Tryz.func19 (by kernel_rfl) ac19_ok fun hf => ?_
  simp -implicitDefEqProofs [ac19, go_sem, -List.set_cons_succ, -List.set_cons_zero]
  refine (open_calls c hc _).mono fun r H' ⟨h1, c', hc', h2⟩ => ⟨H, [Rd c' 0], .c (.ptr (.l 0) 0), by rw [h2]; simp [Rd, Ob.re, C.re], rfl, by simp, hf, by rw [h1]; simp [A.re, C.re, Ref.re], ?_⟩
  simp -implicitDefEqProofs [go_sem, -List.set_cons_succ, -List.set_cons_zero]
  refine call_drawL (j := 0) (num_draws [3, 2, 4, 1] (by decide)) hc' (by omega) (by omega) rfl (by simp [Rd, Ob.re, C.re]) (fun r ⟨n, _, hn⟩ => by subst hn; rfl) hf ?_
  rintro _ p1 ⟨n, hn, rfl⟩ h1 h2
  obtain ⟨d, rfl, hd⟩ : ∃ d : Nat, n = (d : Int) ∧ d ≤ 4 := ⟨n.toNat, by simp at hn; omega, by simp at hn; omega⟩
  have hnd := nD_le (d := d) (by omega)
  simp -implicitDefEqProofs [go_sem, -List.set_cons_succ, -List.set_cons_zero]
  refine call_drawL (j := 0) (l2DrawQ d (by omega)) hc' (by omega) (by omega) rfl (by simp [Rd, Ob.re, C.re]) (fun r => TmP.re) hf ?_
  rintro _ p2 ⟨t, rfl, ht, hV⟩ h3 h4
  have hV4 : VW 4 t := VW.up hV (by omega)
  have hs121 : t.size ≤ 121 := hV4.2
  have hok : t.ok := ⟨ht, shape_good t 5 hV4.1, by omega⟩
  have hwl := hok.len.1
  simp -implicitDefEqProofs [row_len, take_row, pure_d, re_d, go_sem, -List.set_cons_succ, -List.set_cons_zero]
  refine qcall_pure (text_calls t.size t (Nat.le_refl _) hok) hf rfl ?_
  simp -implicitDefEqProofs [go_sem, -List.set_cons_succ, -List.set_cons_zero]
  refine call_drawL (j := 0) (bend_draws t.wr (by omega) [[], [40], [41], [43], [65], [49], [32], [45], [105, 115]] (by decide)) hc' (by omega) (by omega) rfl (by simp [Rd, Ob.re, C.re]) (fun r => StrR.re) hf ?_
  rintro _ p3 ⟨u, rfl, hu⟩ h5 h6
  simp -implicitDefEqProofs [hf, go_sem, -List.set_cons_succ, -List.set_cons_zero]
  exact ⟨u, rfl, by omega⟩
end Go.Proofs.YtgfmlifkhpjplaaGreatDoor

/-
  Any term, drawn.
  Conditions: none.
-/
open Go Go.AM Go.Proofs
namespace Go.Proofs.YtgfmlifkhpjplaaGreatDoor
open Go.ChangeShapes Go.WideShapes Go.ChangeAt Go.RowKit
set_option linter.unusedVariables false
set_option linter.unusedSimpArgs false
set_option maxRecDepth 100000
-- 43 loop.example/prologserver/spec.DrawTermValid params 1 ntmps 10
def ac43 : Cd := .seq (.region [⟨(some 2),.alloc [(.d (.int .i64 0)),(.d (.int .i64 0)),(.d (.str [])),(.full [])],none⟩] [])
 (.seq (.region [⟨(some 4),.mv (.t 0),none⟩,
 ⟨(some 5),.call false 34 [(.t 4)],none⟩,
 ⟨(some 3),.mv (.t 5),none⟩] [0,4,5])
 (.seq (.region [⟨(some 6),.mv (.t 3),none⟩,
 ⟨(some 7),.mv (.t 3),none⟩,
 ⟨(some 8),.call false 75 [(.t 7)],none⟩,
 ⟨(some 9),.call false 35 [(.t 6),(.t 8)],none⟩,
 ⟨none,.store 4 (.t 2) (.t 9),none⟩] [3,6,7,8,9])
 (.ret)))
theorem ac43_ok : cFunc Tryz.prog [] [(0,[],[]),(1,[0,4,5],[]),(2,[3,6,7,8,9],[])] Tryz.f43 = some (ac43,[.cell 2 (some 4)],10) := by kernel_rfl
-- 22 loop.example/prologserver/spec.DrawFormatTerm params 1 ntmps 5
def ac22 : Cd := .seq (.region [⟨(some 2),.alloc [(.d (.int .i64 0)),(.d (.int .i64 0)),(.d (.str [])),(.full [])],none⟩] [])
 (.seq (.region [⟨(some 3),.mv (.t 0),none⟩,
 ⟨(some 4),.call false 43 [(.t 3)],none⟩,
 ⟨none,.store 4 (.t 2) (.t 4),none⟩] [0,3,4])
 (.ret))
theorem ac22_ok : cFunc Tryz.prog [] [(0,[],[]),(1,[0,3,4],[])] Tryz.f22 = some (ac22,[.cell 2 (some 4)],5) := by kernel_rfl
theorem drawTerm_calls (c : List UInt8) (hc : c.length ≤ 1048576) (H : Heap) : ACalls Tryz.prog 43 [.c (.d (.sl (bytesRows c)))] H (fun r H' => H' = H ∧ TmR r) := by
  refine acalls Tryz.func43 (by kernel_rfl) ac43_ok fun hf => ?_
  simp -implicitDefEqProofs [ac43, go_sem, -List.set_cons_succ, -List.set_cons_zero]
  refine (open_calls c hc _).mono fun r H' ⟨h1, c', hc', h2⟩ => ⟨H, [.cells [.d (.int .i64 0), .d (.int .i64 0), .d (.str []), .full []], Rd c' 0], .c (.ptr (.l 1) 0), by rw [h2]; simp [Rd, Ob.re, C.re], rfl, by simp, hf, by rw [h1]; simp [A.re, C.re, Ref.re], ?_⟩
  simp -implicitDefEqProofs [go_sem, -List.set_cons_succ, -List.set_cons_zero]
  refine call_drawL (j := 1) l1Some_draws hc' (by omega) (by omega) rfl (by simp [Rd, Ob.re, C.re]) (fun r => TmR.re) hf ?_
  rintro _ q2 ⟨t, rfl, ht⟩ h5 h6
  simp -implicitDefEqProofs [row_len, take_row, pure_d, re_d, go_sem, -List.set_cons_succ, -List.set_cons_zero]
  refine call_drawL (j := 1) (l1Mutate_draws t ht) hc' (by omega) (by omega) rfl (by simp [Rd, Ob.re, C.re]) (fun r => TmR.re) hf ?_
  rintro _ q3 ⟨u, rfl, hu⟩ h7 h8
  obtain ⟨uk, un, us, ul⟩ := u
  rw [row_mk]
  simp -implicitDefEqProofs [hf, go_sem, -List.set_cons_succ, -List.set_cons_zero]
  exact ⟨_, by rw [row_mk]; rfl, hu⟩
theorem drawFm_calls (c : List UInt8) (hc : c.length ≤ 1048576) (H : Heap) : ACalls Tryz.prog 22 [.c (.d (.sl (bytesRows c)))] H (fun r H' => H' = H ∧ TmR r) := by
  refine acalls Tryz.func22 (by kernel_rfl) ac22_ok fun hf => ?_
  simp -implicitDefEqProofs [ac22, go_sem, -List.set_cons_succ, -List.set_cons_zero]
  refine call_some (drawTerm_calls c hc _) (by simp [Ob.re, C.re]) (fun r => TmR.re) hf ?_
  rintro _ ⟨t, rfl, ht⟩
  simp -implicitDefEqProofs [hf, row_len, take_row, pure_d, re_d, thaw_d, fits_map, go_sem, -List.set_cons_succ, -List.set_cons_zero]
  exact ⟨t, rfl, ht⟩
end Go.Proofs.YtgfmlifkhpjplaaGreatDoor

/-
  What is written is read back: the plain law.
  Conditions: none.
-/
open Go Go.AM Go.Proofs
namespace Go.Proofs.YtgfmlifkhpjplaaGreatDoor
set_option linter.unusedVariables false
set_option linter.unusedSimpArgs false
set_option maxRecDepth 100000
def closers : List UInt8 := [41, 44, 93, 124]
/-- an end, or a closing byte -/
def EndOr (r : List UInt8) : Prop := r = [] ∨ ∃ c r', r = c :: r' ∧ c ∈ closers
theorem EndOr.fol {r : List UInt8} (h : EndOr r) (m : Int) : Fol m r := by
  rcases h with rfl | ⟨c, r', rfl, hc⟩
  · exact .nil
  · exact .close hc
/-- a term is read back from what is written -/
def Rdb (t : Tm) : Prop := ∀ (s : List UInt8) (i : Nat) (r : List UInt8) (D l : Nat), s.length ≤ 1000000 → i ≤ s.length → s.drop i = t.wr ++ r → t.shape D = true → Fol t.lv r → (t.atomB = true → 0 < levelN t.s → EndOr r) →
  t.lv ≤ l → l ≤ 3 → rdF s (.read i D l) = contM s D t.lv.toNat l t (i + t.wr.length)
section
variable {s : List UInt8} (hs : s.length ≤ 1000000)
include hs
/-- .. to an end -/
theorem Rdb.done {t : Tm} (h : Rdb t) {i D : Nat} {r : List UInt8} (hi : i ≤ s.length) (hd : s.drop i = t.wr ++ r) (hsh : t.shape D = true) (hf : t.fits) (he : EndOr r) (hlv : t.lv ≤ 3 ∧ 0 ≤ t.lv) : rdF s (.read i D 3) = some (.ok [t] (i + t.wr.length)) := by
  have hlen := dr_len hd hi
  rw [h s i r D 3 hs hi hd hsh (he.fol _) (fun _ _ => he) hlv.1 (Nat.le_refl _), cont_loop hs (by omega) hf (by omega) (Nat.le_refl _), opR_end (by omega) (by rw [dr_add hd]; exact he)]
theorem prime_read {i D l : Nat} {t : Tm} {j : Nat} (hi : i ≤ s.length) (hl : l ≤ 3) (h : rdF s (.prime i D) = some (.ok [t] j)) : rdF s (.read i D l) = contM s D 0 l t j := by
  rw [read_cont hs D hi l hl, h, thn_ok]
  unfold contM
  simp [Rs.tm]
theorem prime_var {n : Int} (h0 : 0 ≤ n) (h1 : n ≤ 25) {i D : Nat} {r : List UInt8} (hi : i ≤ s.length) (hd : s.drop i = [UInt8.ofNat (65 + n.toNat)] ++ r) (hD : 1 ≤ D) : rdF s (.prime i D) = some (.ok [.mk 1 n [] []] (i + 1)) := by
  obtain ⟨m, rfl⟩ := Int.eq_ofNat_of_zero_le h0
  have hall : ((List.range 26).all fun m => !(UInt8.ofNat (65 + m) == 40) && !(UInt8.ofNat (65 + m) == 91) && bigB (UInt8.ofNat (65 + m)) && decide ((UInt8.ofNat (65 + m)).toNat - 65 = m)) = true := by decide
  have := List.all_eq_true.1 hall m (by simp; omega)
  simp only [Bool.and_eq_true, Bool.not_eq_true', beq_eq_false_iff_ne, decide_eq_true_eq] at this
  obtain ⟨⟨⟨a1, a2⟩, a3⟩, a4⟩ := this
  rw [Int.toNat_natCast] at hd
  rw [prime_stepF hs i D hi, at_dr (c := UInt8.ofNat (65 + m)) (r := r) (by simpa using hd)]
  simp only
  rw [if_neg (by omega), if_neg a1, if_neg (fun h => a2 h.1), if_pos a3, a4]
theorem prime_int {n : Int} (h0 : -999 ≤ n) (h1 : n ≤ 999) {i D : Nat} {r : List UInt8} (hi : i ≤ s.length) (hd : s.drop i = itoa3 n ++ r) (hD : 1 ≤ D) (hr : ∀ c r', r = c :: r' → digB c = false) : rdF s (.prime i D) = some (.ok [.mk 2 n [] []] (i + (itoa3 n).length)) := by
  have hnum := numR_dr h0 h1 hd hr
  have hdig : ∀ c, digB c = true → c ≠ 40 ∧ c ≠ 91 ∧ bigB c = false := fun c hc => by
    simp only [digB, Bool.and_eq_true, decide_eq_true_eq] at hc
    refine ⟨fun e => by subst e; simp at hc, fun e => by subst e; simp at hc, ?_⟩
    simp only [bigB, Bool.and_eq_false_iff, decide_eq_false_iff_not]; omega
  have key : ∃ c y, itoa3 n ++ r = c :: y ∧ c ≠ 40 ∧ c ≠ 91 ∧ bigB c = false ∧ (digB c || c == 45 && digAt s (i + 1)) = true := by
    by_cases hneg : n < 0
    · obtain ⟨d1, d2, d3, d4⟩ := dec3_ok (u := n.natAbs) (by omega)
      have hi3 : itoa3 n = 45 :: dec3 n.natAbs := by unfold itoa3; rw [if_pos hneg]
      refine ⟨45, dec3 n.natAbs ++ r, by rw [hi3]; rfl, by decide, by decide, by decide, ?_⟩
      cases hq : dec3 n.natAbs with
      | nil => rw [hq] at d4; simp at d4
      | cons c y =>
        have hd2 : s.drop (i + 1) = c :: (y ++ r) := by
          have := dr_add (w := [45]) (r := (c :: y) ++ r) (s := s) (i := i) (by rw [hd, hi3, hq]; rfl)
          simpa using this
        rw [dig_dr hd2, List.all_eq_true.1 (can_digs d1) c (by rw [hq]; simp)]
        simp
    · obtain ⟨d1, d2, d3, d4⟩ := dec3_ok (u := n.toNat) (by omega)
      have hi3 : itoa3 n = dec3 n.toNat := by unfold itoa3; rw [if_neg hneg]
      cases hq : dec3 n.toNat with
      | nil => rw [hq] at d4; simp at d4
      | cons c y =>
        have hc := List.all_eq_true.1 (can_digs d1) c (by rw [hq]; simp)
        obtain ⟨e1, e2, e3⟩ := hdig c hc
        exact ⟨c, y ++ r, by rw [hi3, hq]; rfl, e1, e2, e3, by rw [hc]; rfl⟩
  obtain ⟨c, y, e0, e1, e2, e3, e4⟩ := key
  rw [prime_stepF hs i D hi, at_dr (c := c) (r := y) (by rw [hd, e0])]
  simp only
  rw [if_neg (by omega), if_neg e1, if_neg (fun h => e2 h.1), if_neg (by rw [e3]; simp), if_pos e4, hnum]
theorem prime_brk {t : Tm} {i D : Nat} {w r : List UInt8} (hi : i ≤ s.length) (hd : s.drop i = 40 :: w ++ 41 :: r) (hD : 1 ≤ D) (h : rdF s (.read (i + 1) D 3) = some (.ok [t] (i + 1 + w.length))) : rdF s (.prime i D) = some (.ok [t] (i + (40 :: w ++ [41]).length)) := by
  have hd2 : s.drop (i + 1 + w.length) = 41 :: r := by
    have := dr_add (w := 40 :: w) (r := 41 :: r) hd
    rw [show i + 1 + w.length = i + (40 :: w).length by simp; omega]; exact this
  rw [prime_stepF hs i D hi, at_dr (c := 40) (r := w ++ 41 :: r) (by simpa using hd)]
  simp only
  rw [if_neg (by omega), if_pos trivial, h, thn_ok, sgn_dr hd2]
  simp [Rs.tm]; omega
/-- behind a name -/
theorem prime_name {nm : List UInt8} {i D : Nat} {r : List UInt8} (hi : i ≤ s.length) (hd : s.drop i = nm ++ r) (hD : 1 ≤ D) (hn : nameB nm = true) (hr : ∀ c r', r = c :: r' → digB c = false ∧ smaB c = false ∧ (nm ∈ signs → extB nm c = false)) :
    rdF s (.prime i D) = if sgn s (i + nm.length) 40 then thn (rdF s (.terms (i + nm.length + 1) (D - 1) 41 41)) fun ts k => some (.ok [.mk 3 0 nm ts] (k + 1)) else some (.ok [.mk 3 0 nm []] (i + nm.length)) := by
  have hna := nameR_any hi hd hn fun c r' e => (hr c r' e).2
  obtain ⟨c, y, rfl, e1, e2, e3, e4, e5⟩ := name_head hn
  have h91 : ¬ (c = 91 ∧ sgn s (i + 1) 93 = false) := by
    rintro ⟨rfl, h⟩
    have := e5 rfl
    cases this
    have hd2 : s.drop (i + 1) = 93 :: r := by
      have := dr_add (w := [91]) (r := 93 :: r) (s := s) (i := i) hd
      simpa using this
    rw [sgn_dr hd2] at h
    cases h
  have h45 : (digB c || c == 45 && digAt s (i + 1)) = false := by
    rw [e1, Bool.false_or]
    cases hc : (c == 45) with
    | false => rfl
    | true =>
      simp at hc; subst hc
      have hnm : (45 :: y) = [45] := by
        simp only [nameB, Bool.or_eq_true] at hn
        rcases hn with hn | hn
        · simp [lettersB, lowB] at hn
        · simp only [List.contains_eq_mem, decide_eq_true_eq] at hn
          have : ∀ x ∈ signs, (match x with | [] => true | c :: _ => !(c == 45) || x == [45]) = true := by decide
          have := this _ hn
          simpa using this
      cases hnm
      have hd2 : s.drop (i + 1) = r := by
        have := dr_add (w := [45]) (r := r) (s := s) (i := i) hd
        simpa using this
      cases r with
      | nil => rw [dig_end hd2]; rfl
      | cons a r' => rw [dig_dr hd2, (hr a r' rfl).1]; rfl
  rw [prime_stepF hs i D hi, at_dr (c := c) (r := y ++ r) (by simpa using hd)]
  simp only
  rw [if_neg (by omega), if_neg e4, if_neg h91, if_neg (by rw [e3]; simp), if_neg (by rw [h45]; simp), hna]
omit hs in
theorem joinS_cons (c : UInt8) (a : List UInt8) : ∀ l : List (List UInt8), joinS c (a :: l) = a ++ l.flatMap fun x => c :: x
  | [] => by simp [joinS]
  | b :: l => by rw [joinS, joinS_cons c b l]; simp
theorem read_terms {e o : UInt8} (heo : e ∈ closers ∧ o ∈ closers ∧ e ≠ 44 ∧ o ≠ 44) {D : Nat} : ∀ (ts : List Tm), ts ≠ [] → (∀ t ∈ ts, Rdb t ∧ t.shape D = true ∧ t.fits ∧ (t.lv ≤ 3 ∧ 0 ≤ t.lv)) → ∀ {i : Nat} {c : UInt8} {r : List UInt8}, i ≤ s.length → s.drop i = joinS 44 (ts.map Tm.wr) ++ c :: r → (c = e ∨ c = o) →
    rdF s (.terms i D e o) = some (.ok ts (i + (joinS 44 (ts.map Tm.wr)).length))
  | [], h, _, _, _, _, _, _, _ => absurd rfl h
  | [t], _, h, i, c, r, hi, hd, hc => by
    obtain ⟨h1, h2, h3, h4⟩ := h t (by simp)
    simp only [List.map_cons, List.map_nil, joinS] at hd ⊢
    have hcc : c ∈ closers := by rcases hc with rfl | rfl; exact heo.1; exact heo.2.1
    rw [terms_stepF hs i D e o hi, h1.done hs hi hd h2 h3 (.inr ⟨c, r, rfl, hcc⟩) h4, thn_ok]
    have hsg : ∀ d, sgn s (i + t.wr.length) d = (c == d) := fun d => sgn_dr (dr_add hd)
    rw [hsg, hsg]
    rcases hc with rfl | rfl <;> simp [Rs.tm]
  | t :: u :: ts, _, h, i, c, r, hi, hd, hc => by
    obtain ⟨h1, h2, h3, h4⟩ := h t (by simp)
    have hj : joinS 44 ((t :: u :: ts).map Tm.wr) = t.wr ++ 44 :: joinS 44 ((u :: ts).map Tm.wr) := rfl
    rw [hj] at hd ⊢
    have hd1 : s.drop i = t.wr ++ (44 :: (joinS 44 ((u :: ts).map Tm.wr) ++ c :: r)) := by rw [hd]; simp
    have hd2 := dr_add hd1
    have hlen := dr_len hd1 hi
    have hd3 : s.drop (i + t.wr.length + 1) = joinS 44 ((u :: ts).map Tm.wr) ++ c :: r := by
      have := dr_add (w := [44]) (r := joinS 44 ((u :: ts).map Tm.wr) ++ c :: r) (s := s) (i := i + t.wr.length) (by simpa using hd2)
      simpa using this
    simp at hlen
    have ih := read_terms heo (u :: ts) (by simp) (fun x hx => h x (by simp at hx ⊢; exact .inr hx)) (i := i + t.wr.length + 1) (by omega) hd3 hc
    rw [terms_stepF hs i D e o hi, h1.done hs hi hd1 h2 h3 (.inr ⟨44, _, rfl, by decide⟩) h4, thn_ok]
    have hsg : ∀ d, sgn s (i + t.wr.length) d = ((44 : UInt8) == d) := fun d => sgn_dr hd2
    have n1 : ((44 : UInt8) == e) = false := by simpa using heo.2.2.1.symm
    have n2 : ((44 : UInt8) == o) = false := by simpa using heo.2.2.2.symm
    rw [hsg, hsg, hsg, n1, n2, ih]
    simp [Rs.tm, thn_ok]; omega
end
end Go.Proofs.YtgfmlifkhpjplaaGreatDoor

/-
  What is written is read back: all valid terms.
  Conditions: none.
-/
open Go Go.AM Go.Proofs
namespace Go.Proofs.YtgfmlifkhpjplaaGreatDoor
set_option linter.unusedVariables false
set_option linter.unusedSimpArgs false
set_option maxRecDepth 100000
theorem lv_le (t : Tm) : t.lv ≤ 3 ∧ 0 ≤ t.lv := by
  unfold Tm.lv
  split
  · have := levelN_le t.s; omega
  · omega
theorem wr_kids {k n : Int} {s : List UInt8} {l : List Tm} : (Tm.mk k n s l).wr = wrNode k n s l (l.map Tm.wr) (l.map Tm.wrt) := by rw [Tm.wr, wrs_map, wrts_map]
theorem close_ext : ∀ c ∈ closers, ([61, 60, 58] : List UInt8).contains c = false := by decide
def tailW (u : Tm) : List UInt8 := if u.nilB then [] else 124 :: u.wr
theorem wrt_pair (n : Int) (a b : Tm) : (Tm.mk 3 n [46] [a, b]).wrt = 44 :: a.wr ++ b.wrt := by
  rw [Tm.wrt, wrs_map, wrts_map]
  simp
theorem wrt_end {t : Tm} (h : t.pairB = false) : t.wrt = tailW t := by
  obtain ⟨k, n, s, l⟩ := t
  unfold tailW
  rw [Tm.wrt, Tm.wr]
  have h1 : ¬ (k = 3 ∧ s = [46] ∧ l.length = 2) := by
    rintro ⟨rfl, rfl, h2⟩
    have h3 : (l.length : Int) = 2 := by omega
    simp [Tm.pairB, Tm.k, Tm.s, Tm.kids, h3] at h
  rw [if_neg h1]
  by_cases h2 : k = 3 ∧ s = [91, 93] ∧ l = []
  · obtain ⟨rfl, rfl, rfl⟩ := h2
    simp [Tm.nilB, Tm.k, Tm.kids, Tm.s]
  · have h3 : (Tm.mk k n s l).nilB = false := by
      cases hb : (Tm.mk k n s l).nilB with
      | false => rfl
      | true =>
        simp only [Tm.nilB, Tm.k, Tm.kids, Tm.s, Bool.and_eq_true, decide_eq_true_eq, beq_iff_eq, List.isEmpty_iff] at hb
        exact absurd ⟨of_decide_eq_true hb.1.1, hb.2, hb.1.2⟩ h2
    rw [if_neg h2, h3]
    rfl
theorem nil_of {t : Tm} (h : t.nilB = true) {D : Nat} (hs : t.shape D = true) : t = nilT := by
  obtain ⟨k, n, s, l⟩ := t
  simp only [Tm.nilB, Tm.k, Tm.kids, Tm.s, Bool.and_eq_true, decide_eq_true_eq, beq_iff_eq, List.isEmpty_iff] at h
  obtain ⟨⟨hk, rfl⟩, rfl⟩ := h
  obtain rfl : k = 3 := of_decide_eq_true hk
  have := (shp_spec.1 hs).2.1
  simp [Tm.ownB] at this
  rw [this.1]; rfl
/-- elements and a tail -/
theorem tail_split : ∀ b : Tm, b.fits → ∀ D, b.shape D = true → ∃ (es : List Tm) (u : Tm), b = chainT es u ∧ u.pairB = false ∧ b.wrt = (es.flatMap fun e => 44 :: e.wr) ++ tailW u ∧ (∀ e ∈ es, e.size < b.size ∧ e.shape D = true ∧ e.fits) ∧ (u.size ≤ b.size ∧ u.shape D = true ∧ u.fits) := by
  refine Tm.ind fun k n s l ih hf D hsh => ?_
  cases hp : (Tm.mk k n s l).pairB with
  | false => exact ⟨[], _, rfl, hp, by rw [wrt_end hp]; rfl, by simp, Nat.le_refl _, hsh, hf⟩
  | true =>
    simp only [Tm.pairB, Tm.k, Tm.s, Tm.kids, Bool.and_eq_true, decide_eq_true_eq, beq_iff_eq] at hp
    obtain ⟨⟨hk, rfl⟩, hl⟩ := hp
    obtain rfl : k = 3 := of_decide_eq_true hk
    have hl : (l.length : Int) = 2 := of_decide_eq_true hl
    match l, show l.length = 2 by omega with
    | [a, b], _ =>
      obtain ⟨h1, h2, h3⟩ := shp_spec.1 hsh
      have hn : n = 0 := by simp [Tm.ownB] at h2; exact h2.1
      subst hn
      obtain ⟨_, _, _, _, hk⟩ := hf
      have ha := shp_mono a (D - 1) D (by omega) (h3 a (by simp))
      have hb := shp_mono b (D - 1) D (by omega) (h3 b (by simp))
      obtain ⟨es, u, e1, e2, e3, e4, e5⟩ := ih b (by simp) (hk b (by simp)) D hb
      have hsz : (Tm.mk 3 0 [46] [a, b]).size = 1 + (a.size + (b.size + 0)) := rfl
      refine ⟨a :: es, u, by rw [chainT, ← e1]; rfl, e2, by rw [wrt_pair, e3]; simp, fun e he => ?_, by omega, e5.2⟩
      rcases List.mem_cons.1 he with rfl | he
      · exact ⟨by omega, ha, hk _ (by simp)⟩
      · exact ⟨by have := (e4 e he).1; omega, (e4 e he).2⟩
theorem opnd_brk {t : Tm} {w : List UInt8} {m : Int} {rt : Bool} : opnd t w m rt = 40 :: w ++ [41] ∨ (opnd t w m rt = w ∧ t.lv ≤ m ∧ (t.atomB = true → ¬ 0 < levelN t.s) ∧ (rt = true → plainC (w.headD 0) = true)) := by
  unfold opnd
  split
  · exact .inl rfl
  · rename_i h
    refine .inr ⟨rfl, ?_, fun ha hl => ?_, fun hr => ?_⟩
    · simp at h; omega
    · simp [ha, hl] at h
    · simp [hr] at h
      rw [List.headD_eq_head?_getD]; exact h.2
section
variable {s : List UInt8} (hs : s.length ≤ 1000000)
include hs
/-- an operand -/
theorem opnd_read {t : Tm} (h : Rdb t) {i D l : Nat} {m : Int} {rt : Bool} {r : List UInt8} (hi : i ≤ s.length) (hd : s.drop i = opnd t t.wr m rt ++ r) (hsh : t.shape D = true) (hf : t.fits) (hfol : Fol m r) (hm : m ≤ l) (hl : l ≤ 3) (hm0 : 0 ≤ m) :
    ∃ q : Nat, (q : Int) ≤ m ∧ q ≤ 3 ∧ rdF s (.read i D l) = contM s D q l t (i + (opnd t t.wr m rt).length) := by
  have hD : 1 ≤ D := by
    cases D with
    | zero => rw [shape_zero] at hsh; cases hsh
    | succ D => omega
  rcases opnd_brk (t := t) (w := t.wr) (m := m) (rt := rt) with h1 | ⟨h1, h2, h3, _⟩
  · rw [h1] at hd ⊢
    have hd1 : s.drop i = 40 :: t.wr ++ 41 :: r := by rw [hd]; simp
    have hd2 : s.drop (i + 1) = t.wr ++ (41 :: r) := by
      have := dr_add (w := [40]) (r := t.wr ++ 41 :: r) (s := s) (i := i) (by simpa using hd1)
      simpa using this
    have hlen := dr_len hd1 hi
    simp at hlen
    have hrd := h.done hs (by omega) hd2 hsh hf (.inr ⟨41, r, rfl, by decide⟩) (lv_le t)
    exact ⟨0, by omega, by omega, prime_read hs hi hl (prime_brk hs hi hd1 hD hrd)⟩
  · rw [h1] at hd ⊢
    have hlv := lv_le t
    exact ⟨t.lv.toNat, by omega, by omega, h s i r D l hs hi hd hsh (hfol.mono h2) (fun ha hb => absurd hb (h3 ha)) (by omega) hl⟩
omit hs in
theorem head_not : ∀ t : Tm, t.good → ∃ c y, t.wr = c :: y ∧ c ≠ 93 := by
  refine Tm.ind fun k n s l ih hg => ?_
  obtain ⟨ho, hk⟩ := hg
  rw [wr_kids]
  rcases own_cases ho with ⟨rfl, h0, h1, rfl, rfl⟩ | ⟨rfl, h0, h1, rfl, rfl⟩ | ⟨rfl, rfl, hnm, hk4⟩
  · obtain ⟨m, rfl⟩ := Int.eq_ofNat_of_zero_le h0
    have hall : ((List.range 26).all fun m => !(UInt8.ofNat (65 + m) == 93)) = true := by decide
    have := List.all_eq_true.1 hall m (by simp; omega)
    exact ⟨UInt8.ofNat (65 + m), [], rfl, by simpa using this⟩
  · have hw : wrNode 2 n [] [] ([].map Tm.wr) ([].map Tm.wrt) = itoa3 n := by rw [itoa3_eq h0 h1]; rfl
    rw [hw]
    unfold itoa3
    split
    · exact ⟨45, _, rfl, by decide⟩
    · obtain ⟨d1, d2, d3, d4⟩ := dec3_ok (u := n.toNat) (by omega)
      cases hq : dec3 n.toNat with
      | nil => rw [hq] at d4; simp at d4
      | cons c y =>
        have hc := List.all_eq_true.1 (can_digs d1) c (by rw [hq]; simp)
        exact ⟨c, y, rfl, fun e => by subst e; simp [digB] at hc⟩
  · obtain ⟨c, y, e0, e1, e2, _⟩ := name_head hnm
    unfold wrNode
    rw [if_neg (by decide), if_neg (by decide)]
    split
    · exact ⟨91, _, rfl, by decide⟩
    · split
      · rename_i h2
        match l, h2.1 with
        | [a, b], _ =>
          rcases opnd_brk (t := a) (w := a.wr) (m := leftMost s) (rt := false) with h3 | ⟨h3, _⟩
          · exact ⟨40, a.wr ++ [41] ++ opSp s ++ opnd b b.wr (levelN s - 1) true, by simp [h3], by decide⟩
          · obtain ⟨c', y', hc, hn⟩ := ih a (by simp) (hk a (by simp))
            exact ⟨c', y' ++ opSp s ++ opnd b b.wr (levelN s - 1) true, by simp [h3]; rw [hc]; simp, hn⟩
      · split
        · exact ⟨c, y, e0, e2⟩
        · exact ⟨c, y ++ 40 :: joinS 44 (l.map Tm.wr) ++ [41], by rw [e0]; simp, e2⟩
/-- two operands -/
theorem op_read {a b : Tm} {n : List UInt8} (ha : Rdb a) (hb : Rdb b) {i D l : Nat} {r : List UInt8} (hi : i ≤ s.length) (hl0 : 1 ≤ levelN n) (hn : n.length ≤ 6)
    (hd : s.drop i = opnd a a.wr (leftMost n) false ++ opSp n ++ opnd b b.wr (levelN n - 1) true ++ r) (ha1 : a.shape D = true) (hb1 : b.shape D = true) (ha2 : a.fits) (hb2 : b.fits) (hfol : Fol (levelN n) r) (hl : levelN n ≤ l) (hl3 : l ≤ 3) :
    rdF s (.read i D l) = contM s D (levelN n).toNat l (.mk 3 0 n [a, b]) (i + (opnd a a.wr (leftMost n) false ++ opSp n ++ opnd b b.wr (levelN n - 1) true).length) := by
  have hlv : 1 ≤ levelN n ∧ levelN n ≤ 3 := ⟨hl0, (levelN_le n).2⟩
  have hlm := leftMost_lv hlv
  have hlm1 : leftMost n ≤ levelN n ∧ 0 ≤ leftMost n := by rw [hlm]; split <;> omega
  -- the right operand begins with a plain byte
  have hpl : ∃ c y, opnd b b.wr (levelN n - 1) true = c :: y ∧ plainC c = true := by
    rcases opnd_brk (t := b) (w := b.wr) (m := levelN n - 1) (rt := true) with h1 | ⟨h1, _, _, h2⟩
    · exact ⟨40, b.wr ++ [41], by rw [h1]; rfl, by decide⟩
    · have h2 := h2 rfl
      rw [h1]
      cases hw : b.wr with
      | nil => rw [hw] at h2; simp [plainC] at h2
      | cons c y => rw [hw] at h2; exact ⟨c, y, rfl, by simpa using h2⟩
  obtain ⟨c, y, hcy, hc⟩ := hpl
  have hd1 : s.drop i = opnd a a.wr (leftMost n) false ++ (opSp n ++ c :: (y ++ r)) := by rw [hd, hcy]; simp
  obtain ⟨q, q1, q2, q3⟩ := opnd_read hs ha hi hd1 ha1 ha2 (.op hl0 hlm1.1 hc) (by omega) hl3 hlm1.2
  have hlen1 := dr_len hd1 hi
  have hd2 := dr_add hd1
  have hop := opR_op (by omega) hd2 hl0 hc
  have hlen2 := dr_len hd2 (by omega)
  have hd3 : s.drop (i + (opnd a a.wr (leftMost n) false).length + (opSp n).length) = opnd b b.wr (levelN n - 1) true ++ r := by rw [dr_add hd2, hcy]; simp
  have hlen3 := dr_len hd3 (by omega)
  rw [q3, cont_loop hs (by omega) ha2 q2 hl3, hop]
  simp only
  rw [if_neg (by omega)]
  obtain ⟨p, p1, p2, p3⟩ := opnd_read hs hb (i := i + (opnd a a.wr (leftMost n) false).length + (opSp n).length) (by omega) hd3 hb1 hb2 (hfol.mono (by omega)) (l := (levelN n - 1).toNat) (by omega) (by omega) (by omega)
  have hd4 := dr_add hd3
  have hb3 : contM s D p (levelN n - 1).toNat b (i + (opnd a a.wr (leftMost n) false).length + (opSp n).length + (opnd b b.wr (levelN n - 1) true).length) = some (.ok [b] (i + (opnd a a.wr (leftMost n) false).length + (opSp n).length + (opnd b b.wr (levelN n - 1) true).length)) := by
    rw [cont_loop hs (by omega) hb2 p2 (by omega)]
    rcases opR_fol (s := s) (i := i + (opnd a a.wr (leftMost n) false).length + (opSp n).length + (opnd b b.wr (levelN n - 1) true).length) (m := levelN n) (by omega) (by rw [hd4]; exact hfol) with h | ⟨n', j', h, h2⟩
    · rw [h]
    · rw [h]
      simp only
      rw [if_pos (.inl (by omega))]
  rw [p3, hb3, thn_ok]
  congr 1
  simp; omega
end
theorem rdb_all : ∀ (N : Nat) (t : Tm), t.size ≤ N → t.fits → (∃ D, t.shape D = true) → Rdb t
  | 0, t, hN, _, _ => by
    have : 1 ≤ t.size := by cases t; rw [Tm.size]; omega
    omega
  | N + 1, t, hN, hf, ⟨D0, hD0⟩ => by
    intro s i r D l hs hi hd hsh hfol hsole hlv hl3
    have hlen := dr_len hd hi
    have hD : 1 ≤ D := by
      cases D with
      | zero => rw [shape_zero] at hsh; cases hsh
      | succ D => omega
    have ih : ∀ u : Tm, u.size ≤ N → u.fits → (∃ D, u.shape D = true) → Rdb u := fun u h1 h2 h3 => rdb_all N u h1 h2 h3
    have hhead := hfol.head
    obtain ⟨k, n, nm, kids⟩ := t
    obtain ⟨g1, g2, g3⟩ := shp_spec.1 hsh
    have hkf : ∀ u ∈ kids, u.fits := by obtain ⟨_, _, _, _, h⟩ := hf; exact h
    have hks : ∀ u ∈ kids, u.size ≤ N := fun u hu => by
      have := sizes_mem hu
      rw [Tm.size] at hN; omega
    rcases own_cases g2 with ⟨rfl, h0, h1, rfl, rfl⟩ | ⟨rfl, h0, h1, rfl, rfl⟩ | ⟨rfl, rfl, hnm, hk4⟩
    · -- a variable
      have hw : (Tm.mk 1 n [] []).wr = [UInt8.ofNat (65 + n.toNat)] := by rw [wr_kids]; rfl
      rw [hw] at hd ⊢
      exact prime_read hs hi hl3 (prime_var hs h0 h1 hi hd hD)
    · -- a number
      have hw : (Tm.mk 2 n [] []).wr = itoa3 n := by rw [wr_kids, itoa3_eq h0 h1]; rfl
      rw [hw] at hd ⊢
      exact prime_read hs hi hl3 (prime_int hs h0 h1 hi hd hD fun c r' e => (hhead c r' e).1)
    · by_cases hpair : nm = [46] ∧ kids.length = 2
      · -- a list
        obtain ⟨rfl, hl2⟩ := hpair
        match kids, hl2 with
        | [a, b], _ =>
          obtain ⟨es, u, e1, e2, e3, e4, e5⟩ := tail_split b (hkf b (by simp)) (D - 1) (g3 b (by simp))
          have hw : (Tm.mk 3 0 [46] [a, b]).wr = 91 :: (joinS 44 ((a :: es).map Tm.wr) ++ tailW u ++ [93]) := by
            have hjs : joinS 44 ((a :: es).map Tm.wr) = a.wr ++ (es.map Tm.wr).flatMap fun x => 44 :: x := joinS_cons _ _ _
            rw [wr_kids, hjs]
            simp [wrNode, e3, List.flatMap_map]
          have hlv0 : (Tm.mk 3 0 [46] [a, b]).lv = 0 := rfl
          have hch : Tm.mk 3 0 [46] [a, b] = chainT (a :: es) u := by rw [chainT, ← e1]; rfl
          have hsz : (Tm.mk 3 0 [46] [a, b]).size = 1 + (a.size + (b.size + 0)) := rfl
          have hau : ∀ x ∈ a :: es, Rdb x ∧ x.shape (D - 1) = true ∧ x.fits ∧ (x.lv ≤ 3 ∧ 0 ≤ x.lv) := fun x hx => by
            rcases List.mem_cons.1 hx with rfl | hx
            · exact ⟨ih _ (hks _ (by simp)) (hkf _ (by simp)) ⟨_, g3 _ (by simp)⟩, g3 _ (by simp), hkf _ (by simp), lv_le _⟩
            · obtain ⟨q1, q2, q3⟩ := e4 x hx
              exact ⟨ih _ (by omega) q3 ⟨_, q2⟩, q2, q3, lv_le _⟩
          refine prime_read hs hi hl3 ?_
          rw [hw] at hd ⊢
          have hat := at_dr (s := s) (i := i) (c := 91) (r := joinS 44 ((a :: es).map Tm.wr) ++ tailW u ++ [93] ++ r) (by rw [hd]; simp)
          -- the first element does not begin with a closing bracket
          have hne93 : sgn s (i + 1) 93 = false := by
            have hawne : a.wr ≠ [] := (wr_len a (shape_good a _ (g3 a (by simp)))).2
            have hfirst : ∃ c y, a.wr = c :: y ∧ c ≠ 93 := head_not a (shape_good a _ (g3 a (by simp)))
            obtain ⟨c, y, hcy, hc⟩ := hfirst
            have hd2 : s.drop (i + 1) = c :: (y ++ (es.flatMap fun e => 44 :: e.wr) ++ tailW u ++ [93] ++ r) := by
              have := dr_add (w := [91]) (r := c :: (y ++ (es.flatMap fun e => 44 :: e.wr) ++ tailW u ++ [93] ++ r)) (s := s) (i := i) (by rw [hd, List.map_cons, joinS_cons, hcy]; simp [List.flatMap_map])
              simpa using this
            rw [sgn_dr hd2]
            simpa using hc
          rw [prime_stepF hs i D hi, hat]
          simp only
          rw [if_neg (by omega), if_neg (by decide), if_pos ⟨trivial, hne93⟩]
          by_cases hnil : u.nilB = true
          · have htw : tailW u = [] := by unfold tailW; rw [if_pos hnil]
            rw [htw] at hd ⊢
            have hd1 : s.drop (i + 1) = joinS 44 ((a :: es).map Tm.wr) ++ 93 :: r := by
              have := dr_add (w := [91]) (r := joinS 44 ((a :: es).map Tm.wr) ++ 93 :: r) (s := s) (i := i) (by rw [hd]; simp)
              simpa using this
            have hlen0 := dr_len hd1 (by have := dr_len hd hi; simp at this; omega)
            rw [read_terms hs (e := 93) (o := 124) (by decide) (a :: es) (by simp) hau (by have := dr_len hd hi; simp at this; omega) hd1 (.inl rfl), thn_ok, sgn_dr (dr_add hd1)]
            have hu := nil_of hnil e5.2.1
            rw [hch, hu]
            simp; omega
          · have htw : tailW u = 124 :: u.wr := by unfold tailW; rw [if_neg hnil]
            rw [htw] at hd ⊢
            have hd1 : s.drop (i + 1) = joinS 44 ((a :: es).map Tm.wr) ++ 124 :: (u.wr ++ 93 :: r) := by
              have := dr_add (w := [91]) (r := joinS 44 ((a :: es).map Tm.wr) ++ 124 :: (u.wr ++ 93 :: r)) (s := s) (i := i) (by rw [hd]; simp)
              simpa using this
            have hlen0 := dr_len hd1 (by have := dr_len hd hi; simp at this; omega)
            have hd2 := dr_add hd1
            have hd3 : s.drop (i + 1 + (joinS 44 ((a :: es).map Tm.wr)).length + 1) = u.wr ++ 93 :: r := by
              have := dr_add (w := [124]) (r := u.wr ++ 93 :: r) (s := s) (i := i + 1 + (joinS 44 ((a :: es).map Tm.wr)).length) (by simpa using hd2)
              simpa using this
            simp at hlen0
            have hu : Rdb u := ih u (by omega) e5.2.2 ⟨_, e5.2.1⟩
            rw [read_terms hs (e := 93) (o := 124) (by decide) (a :: es) (by simp) hau (by omega) hd1 (.inr rfl), thn_ok, sgn_dr hd2]
            simp only [show ((124 : UInt8) == 93) = false from rfl, Bool.false_eq_true, if_false]
            rw [hu.done hs (by simp; omega) hd3 e5.2.1 e5.2.2 (.inr ⟨93, r, rfl, by decide⟩) (lv_le u), thn_ok, sgn_dr (dr_add hd3)]
            rw [hch]
            simp [Rs.tm]; omega
      · by_cases hop : kids.length = 2 ∧ 0 < levelN nm
        · -- an operator
          obtain ⟨hl2, hl0⟩ := hop
          match kids, hl2 with
          | [a, b], _ =>
            have hw : (Tm.mk 3 0 nm [a, b]).wr = opnd a a.wr (leftMost nm) false ++ opSp nm ++ opnd b b.wr (levelN nm - 1) true := by
              rw [wr_kids]
              have hn46 : nm ≠ [46] := fun e => hpair ⟨e, rfl⟩
              simp [wrNode, hn46, hl0]
            have hlvm : (Tm.mk 3 0 nm [a, b]).lv = levelN nm := rfl
            rw [hw] at hd ⊢
            rw [hlvm] at hfol hlv ⊢
            have ha1 := shp_mono a (D - 1) D (by omega) (g3 a (by simp))
            have hb1 := shp_mono b (D - 1) D (by omega) (g3 b (by simp))
            exact op_read hs (ih a (hks a (by simp)) (hkf a (by simp)) ⟨_, ha1⟩) (ih b (hks b (by simp)) (hkf b (by simp)) ⟨_, hb1⟩) hi (by omega) (name_len hnm).2 hd ha1 hb1 (hkf a (by simp)) (hkf b (by simp)) hfol hlv hl3
        · have hlv0 : (Tm.mk 3 0 nm kids).lv = 0 := by
            unfold Tm.lv
            split
            · rename_i h2
              have := levelN_le nm
              have h3 : ¬ 0 < levelN nm := fun h => hop ⟨h2, h⟩
              show levelN nm = 0
              omega
            · rfl
          rw [hlv0] at hfol ⊢
          refine prime_read hs hi hl3 ?_
          by_cases hkn : kids = []
          · -- an atom
            subst hkn
            have hw : (Tm.mk 3 0 nm []).wr = nm := by rw [wr_kids]; simp [wrNode]
            rw [hw] at hd ⊢
            have hnext : ∀ c r', r = c :: r' → digB c = false ∧ smaB c = false ∧ (nm ∈ signs → extB nm c = false) := fun c r' e => by
              obtain ⟨q1, q2, q3⟩ := hhead c r' e
              refine ⟨q1, q2, fun hsg => ?_⟩
              by_cases hz : 0 < levelN nm
              · rcases hsole rfl hz with he | ⟨c', r'', he, hc⟩
                · rw [he] at e; cases e
                · rw [he] at e; cases e
                  exact extB_of hsg (close_ext c hc)
              · exact ext_zero hsg (by have := levelN_le nm; omega) c
            rw [prime_name hs hi hd hD hnm hnext]
            have h40 : sgn s (i + nm.length) 40 = false := by
              cases r with
              | nil => exact sgn_end (dr_add hd)
              | cons c r' =>
                rw [sgn_dr (dr_add hd)]
                have := (hhead c r' rfl).2.2
                simpa using this
            rw [h40]; rfl
          · -- a structure
            have hw : (Tm.mk 3 0 nm kids).wr = nm ++ 40 :: joinS 44 (kids.map Tm.wr) ++ [41] := by
              rw [wr_kids]
              have h2 : ¬ (nm = [46] ∧ kids.length = 2) := hpair
              have h3 : ¬ (kids.length = 2 ∧ 0 < levelN nm) := hop
              unfold wrNode
              rw [if_neg (by decide), if_neg (by decide), if_neg h2, if_neg h3, if_neg hkn]
            rw [hw] at hd ⊢
            have hd1 : s.drop i = nm ++ (40 :: (joinS 44 (kids.map Tm.wr) ++ 41 :: r)) := by rw [hd]; simp
            have hd2 := dr_add hd1
            have hlen1 := dr_len hd1 hi
            simp at hlen1
            have hd3 : s.drop (i + nm.length + 1) = joinS 44 (kids.map Tm.wr) ++ 41 :: r := by
              have := dr_add (w := [40]) (r := joinS 44 (kids.map Tm.wr) ++ 41 :: r) (s := s) (i := i + nm.length) (by simpa using hd2)
              simpa using this
            rw [prime_name hs hi hd1 hD hnm (fun c r' e => by cases e; exact ⟨by decide, by decide, fun hsg => extB_of hsg (by decide)⟩), sgn_dr hd2]
            simp only [show ((40 : UInt8) == 40) = true from rfl, if_true]
            rw [read_terms hs (e := 41) (o := 41) (by decide) kids hkn (fun x hx => ⟨ih x (hks x hx) (hkf x hx) ⟨_, g3 x hx⟩, g3 x hx, hkf x hx, lv_le x⟩) (by omega) hd3 (.inl rfl), thn_ok]
            simp; omega
end Go.Proofs.YtgfmlifkhpjplaaGreatDoor

/-
  Terms as they are written without operators: the plain text, and that it is read back.
  Conditions: none.
-/
open Go Go.AM Go.Proofs
namespace Go.Proofs.YtgfmlifkhpjplaaGreatDoor
set_option linter.unusedVariables false
set_option linter.unusedSimpArgs false
set_option maxRecDepth 100000
def txNode (k n : Int) (s : List UInt8) (l : List Tm) (ws ts : List (List UInt8)) : List UInt8 :=
  if k = 1 then [UInt8.ofNat (65 + n.toNat)]
  else if k = 2 then Lib.itoa n
  else if s = [46] ∧ l.length = 2 then 91 :: ws.headD [] ++ ts.getD 1 [] ++ [93]
  else if l = [] then s else s ++ 40 :: joinS 44 ws ++ [41]
mutual
/-- a term without operators -/
def Tm.tx : Tm → List UInt8
  | .mk k n s l => txNode k n s l (txs l) (txts l)
/-- the rest of a list -/
def Tm.txt : Tm → List UInt8
  | .mk k n s l => if k = 3 ∧ s = [46] ∧ l.length = 2 then 44 :: (txs l).headD [] ++ (txts l).getD 1 []
    else if k = 3 ∧ s = [91, 93] ∧ l = [] then [] else 124 :: txNode k n s l (txs l) (txts l)
def txs : List Tm → List (List UInt8)
  | [] => []
  | t :: l => t.tx :: txs l
def txts : List Tm → List (List UInt8)
  | [] => []
  | t :: l => t.txt :: txts l
end
theorem txs_map : ∀ l : List Tm, txs l = l.map Tm.tx
  | [] => by rw [txs]; rfl
  | t :: l => by rw [txs, txs_map l]; rfl
theorem txts_map : ∀ l : List Tm, txts l = l.map Tm.txt
  | [] => by rw [txts]; rfl
  | t :: l => by rw [txts, txts_map l]; rfl
theorem sum_tx : ∀ l : List Tm, (∀ t ∈ l, t.tx.length ≤ 20 * t.size) → ((l.map Tm.tx).map fun x => x.length + 1).sum ≤ 20 * sizes l + l.length
  | [], _ => by simp [sizes]
  | a :: l, h => by
    have ha := h a (by simp)
    have := sum_tx l fun t ht => h t (by simp [ht])
    simp [sizes] at this ⊢
    omega
/-- how long a text is -/
theorem tx_len : ∀ t : Tm, t.good → (t.tx.length ≤ 20 * t.size ∧ t.txt.length ≤ 20 * t.size + 1) ∧ t.tx ≠ [] := by
  refine Tm.ind fun k n s l ih hg => ?_
  obtain ⟨ho, hk⟩ := hg
  have ih2 := fun t ht => ih t ht (hk t ht)
  have hnode : (txNode k n s l (txs l) (txts l)).length ≤ 20 * (Tm.mk k n s l).size ∧ txNode k n s l (txs l) (txts l) ≠ [] := by
    unfold txNode
    rw [txs_map, txts_map, Tm.size]
    rcases own_cases ho with ⟨rfl, _, _, rfl, rfl⟩ | ⟨rfl, n0, n1, rfl, rfl⟩ | ⟨rfl, rfl, hs, hl⟩
    · simp; omega
    · have := itoa_short n0 n1
      simp
      refine ⟨by omega, fun h => ?_⟩
      rw [h] at this
      simp at this
    · obtain ⟨s1, s6⟩ := name_len hs
      have hsne : s ≠ [] := by intro h; subst h; simp at s1
      simp only [show ¬ (3 : Int) = 1 by decide, show ¬ (3 : Int) = 2 by decide, if_false]
      split
      · rename_i hp
        match l, hp.2, ih2 with
        | [a, b], _, ih2 =>
          have ha := ih2 a (by simp)
          have hb := ih2 b (by simp)
          simp [sizes]
          omega
      · split
        · simp [hsne]; omega
        · refine ⟨?_, by simp⟩
          have hj := joinS_len 44 (l.map Tm.tx)
          have hsum := sum_tx l (fun t ht => (ih2 t ht).1.1)
          simp
          omega
  refine ⟨⟨by rw [Tm.tx]; exact hnode.1, ?_⟩, by rw [Tm.tx]; exact hnode.2⟩
  rw [Tm.txt]
  split
  · rename_i hp
    rw [txs_map, txts_map, Tm.size]
    match l, hp.2.2, ih2 with
    | [a, b], _, ih2 =>
      have ha := ih2 a (by simp)
      have hb := ih2 b (by simp)
      simp [sizes]
      omega
  · split
    · simp
    · simp
      exact hnode.1
theorem tx_kids {k n : Int} {s : List UInt8} {l : List Tm} : (Tm.mk k n s l).tx = txNode k n s l (l.map Tm.tx) (l.map Tm.txt) := by rw [Tm.tx, txs_map, txts_map]
def tailX (u : Tm) : List UInt8 := if u.nilB then [] else 124 :: u.tx
theorem txt_pair (n : Int) (a b : Tm) : (Tm.mk 3 n [46] [a, b]).txt = 44 :: a.tx ++ b.txt := by
  rw [Tm.txt, txs_map, txts_map]
  simp
theorem txt_end {t : Tm} (h : t.pairB = false) : t.txt = tailX t := by
  obtain ⟨k, n, s, l⟩ := t
  unfold tailX
  rw [Tm.txt, Tm.tx]
  have h1 : ¬ (k = 3 ∧ s = [46] ∧ l.length = 2) := by
    rintro ⟨rfl, rfl, h2⟩
    have h3 : (l.length : Int) = 2 := by omega
    simp [Tm.pairB, Tm.k, Tm.s, Tm.kids, h3] at h
  rw [if_neg h1]
  by_cases h2 : k = 3 ∧ s = [91, 93] ∧ l = []
  · obtain ⟨rfl, rfl, rfl⟩ := h2
    simp [Tm.nilB, Tm.k, Tm.kids, Tm.s]
  · have h3 : (Tm.mk k n s l).nilB = false := by
      cases hb : (Tm.mk k n s l).nilB with
      | false => rfl
      | true =>
        simp only [Tm.nilB, Tm.k, Tm.kids, Tm.s, Bool.and_eq_true, decide_eq_true_eq, beq_iff_eq, List.isEmpty_iff] at hb
        exact absurd ⟨of_decide_eq_true hb.1.1, hb.2, hb.1.2⟩ h2
    rw [if_neg h2, h3]
    rfl
/-- elements and a tail -/
theorem tail_splitx : ∀ b : Tm, b.fits → ∀ D, b.shape D = true → ∃ (es : List Tm) (u : Tm), b = chainT es u ∧ u.pairB = false ∧ b.txt = (es.flatMap fun e => 44 :: e.tx) ++ tailX u ∧ (∀ e ∈ es, e.size < b.size ∧ e.shape D = true ∧ e.fits) ∧ (u.size ≤ b.size ∧ u.shape D = true ∧ u.fits) := by
  refine Tm.ind fun k n s l ih hf D hsh => ?_
  cases hp : (Tm.mk k n s l).pairB with
  | false => exact ⟨[], _, rfl, hp, by rw [txt_end hp]; rfl, by simp, Nat.le_refl _, hsh, hf⟩
  | true =>
    simp only [Tm.pairB, Tm.k, Tm.s, Tm.kids, Bool.and_eq_true, decide_eq_true_eq, beq_iff_eq] at hp
    obtain ⟨⟨hk, rfl⟩, hl⟩ := hp
    obtain rfl : k = 3 := of_decide_eq_true hk
    have hl : (l.length : Int) = 2 := of_decide_eq_true hl
    match l, show l.length = 2 by omega with
    | [a, b], _ =>
      obtain ⟨h1, h2, h3⟩ := shp_spec.1 hsh
      have hn : n = 0 := by simp [Tm.ownB] at h2; exact h2.1
      subst hn
      obtain ⟨_, _, _, _, hk⟩ := hf
      have ha := shp_mono a (D - 1) D (by omega) (h3 a (by simp))
      have hb := shp_mono b (D - 1) D (by omega) (h3 b (by simp))
      obtain ⟨es, u, e1, e2, e3, e4, e5⟩ := ih b (by simp) (hk b (by simp)) D hb
      have hsz : (Tm.mk 3 0 [46] [a, b]).size = 1 + (a.size + (b.size + 0)) := rfl
      refine ⟨a :: es, u, by rw [chainT, ← e1]; rfl, e2, by rw [txt_pair, e3]; simp, fun e he => ?_, by omega, e5.2⟩
      rcases List.mem_cons.1 he with rfl | he
      · exact ⟨by omega, ha, hk _ (by simp)⟩
      · exact ⟨by have := (e4 e he).1; omega, (e4 e he).2⟩
theorem head_notx : ∀ t : Tm, t.good → ∃ c y, t.tx = c :: y ∧ c ≠ 93 := by
  refine Tm.ind fun k n s l ih hg => ?_
  obtain ⟨ho, hk⟩ := hg
  rw [tx_kids]
  rcases own_cases ho with ⟨rfl, h0, h1, rfl, rfl⟩ | ⟨rfl, h0, h1, rfl, rfl⟩ | ⟨rfl, rfl, hnm, hk4⟩
  · obtain ⟨m, rfl⟩ := Int.eq_ofNat_of_zero_le h0
    have hall : ((List.range 26).all fun m => !(UInt8.ofNat (65 + m) == 93)) = true := by decide
    have := List.all_eq_true.1 hall m (by simp; omega)
    exact ⟨UInt8.ofNat (65 + m), [], rfl, by simpa using this⟩
  · have hw : txNode 2 n [] [] ([].map Tm.tx) ([].map Tm.txt) = itoa3 n := by rw [itoa3_eq h0 h1]; rfl
    rw [hw]
    unfold itoa3
    split
    · exact ⟨45, _, rfl, by decide⟩
    · obtain ⟨d1, d2, d3, d4⟩ := dec3_ok (u := n.toNat) (by omega)
      cases hq : dec3 n.toNat with
      | nil => rw [hq] at d4; simp at d4
      | cons c y =>
        have hc := List.all_eq_true.1 (can_digs d1) c (by rw [hq]; simp)
        exact ⟨c, y, rfl, fun e => by subst e; simp [digB] at hc⟩
  · obtain ⟨c, y, e0, e1, e2, _⟩ := name_head hnm
    unfold txNode
    rw [if_neg (by decide), if_neg (by decide)]
    split
    · exact ⟨91, _, rfl, by decide⟩
    · split
      · exact ⟨c, y, e0, e2⟩
      · exact ⟨c, y ++ 40 :: joinS 44 (l.map Tm.tx) ++ [41], by rw [e0]; simp, e2⟩
/-- a term is read back from its text -/
def Rdx (t : Tm) : Prop := ∀ (s : List UInt8) (i : Nat) (r : List UInt8) (D : Nat), s.length ≤ 1000000 → i ≤ s.length → s.drop i = t.tx ++ r → t.shape D = true → EndOr r → rdF s (.read i D 3) = some (.ok [t] (i + t.tx.length))
section
variable {s : List UInt8} (hs : s.length ≤ 1000000)
include hs
theorem prime_done {i D j : Nat} {t : Tm} {r : List UInt8} (hi : i ≤ s.length) (hj : j ≤ s.length) (hf : t.fits) (hd : s.drop j = r) (he : EndOr r) (h : rdF s (.prime i D) = some (.ok [t] j)) : rdF s (.read i D 3) = some (.ok [t] j) := by
  rw [prime_read hs hi (Nat.le_refl _) h, cont_loop hs hj hf (by omega) (Nat.le_refl _), opR_end hj (by rw [hd]; exact he)]
theorem read_termsx {e o : UInt8} (heo : e ∈ closers ∧ o ∈ closers ∧ e ≠ 44 ∧ o ≠ 44) {D : Nat} : ∀ (ts : List Tm), ts ≠ [] → (∀ t ∈ ts, Rdx t ∧ t.shape D = true) → ∀ {i : Nat} {c : UInt8} {r : List UInt8}, i ≤ s.length → s.drop i = joinS 44 (ts.map Tm.tx) ++ c :: r → (c = e ∨ c = o) →
    rdF s (.terms i D e o) = some (.ok ts (i + (joinS 44 (ts.map Tm.tx)).length))
  | [], h, _, _, _, _, _, _, _ => absurd rfl h
  | [t], _, h, i, c, r, hi, hd, hc => by
    obtain ⟨h1, h2⟩ := h t (by simp)
    simp only [List.map_cons, List.map_nil, joinS] at hd ⊢
    have hcc : c ∈ closers := by rcases hc with rfl | rfl; exact heo.1; exact heo.2.1
    rw [terms_stepF hs i D e o hi, h1 _ _ _ _ hs hi hd h2 (.inr ⟨c, r, rfl, hcc⟩), thn_ok]
    have hsg : ∀ d, sgn s (i + t.tx.length) d = (c == d) := fun d => sgn_dr (dr_add hd)
    rw [hsg, hsg]
    rcases hc with rfl | rfl <;> simp [Rs.tm]
  | t :: u :: ts, _, h, i, c, r, hi, hd, hc => by
    obtain ⟨h1, h2⟩ := h t (by simp)
    have hj : joinS 44 ((t :: u :: ts).map Tm.tx) = t.tx ++ 44 :: joinS 44 ((u :: ts).map Tm.tx) := rfl
    rw [hj] at hd ⊢
    have hd1 : s.drop i = t.tx ++ (44 :: (joinS 44 ((u :: ts).map Tm.tx) ++ c :: r)) := by rw [hd]; simp
    have hd2 := dr_add hd1
    have hlen := dr_len hd1 hi
    have hd3 : s.drop (i + t.tx.length + 1) = joinS 44 ((u :: ts).map Tm.tx) ++ c :: r := by
      have := dr_add (w := [44]) (r := joinS 44 ((u :: ts).map Tm.tx) ++ c :: r) (s := s) (i := i + t.tx.length) (by simpa using hd2)
      simpa using this
    simp at hlen
    have ih := read_termsx heo (u :: ts) (by simp) (fun x hx => h x (by simp at hx ⊢; exact .inr hx)) (i := i + t.tx.length + 1) (by omega) hd3 hc
    rw [terms_stepF hs i D e o hi, h1 _ _ _ _ hs hi hd1 h2 (.inr ⟨44, _, rfl, by decide⟩), thn_ok]
    have hsg : ∀ d, sgn s (i + t.tx.length) d = ((44 : UInt8) == d) := fun d => sgn_dr hd2
    have n1 : ((44 : UInt8) == e) = false := by simpa using heo.2.2.1.symm
    have n2 : ((44 : UInt8) == o) = false := by simpa using heo.2.2.2.symm
    rw [hsg, hsg, hsg, n1, n2, ih]
    simp [Rs.tm, thn_ok]; omega
end
theorem rdx_all : ∀ (N : Nat) (t : Tm), t.size ≤ N → t.fits → (∃ D, t.shape D = true) → Rdx t
  | 0, t, hN, _, _ => by
    have : 1 ≤ t.size := by cases t; rw [Tm.size]; omega
    omega
  | N + 1, t, hN, hf, ⟨D0, hD0⟩ => by
    intro s i r D hs hi hd hsh he
    have hlen := dr_len hd hi
    have hD : 1 ≤ D := by
      cases D with
      | zero => rw [shape_zero] at hsh; cases hsh
      | succ D => omega
    have ih : ∀ u : Tm, u.size ≤ N → u.fits → (∃ D, u.shape D = true) → Rdx u := fun u h1 h2 h3 => rdx_all N u h1 h2 h3
    have hhead := (he.fol 0).head
    obtain ⟨k, n, nm, kids⟩ := t
    obtain ⟨g1, g2, g3⟩ := shp_spec.1 hsh
    have hkf : ∀ u ∈ kids, u.fits := by obtain ⟨_, _, _, _, h⟩ := hf; exact h
    have hks : ∀ u ∈ kids, u.size ≤ N := fun u hu => by
      have := sizes_mem hu
      rw [Tm.size] at hN; omega
    rcases own_cases g2 with ⟨rfl, h0, h1, rfl, rfl⟩ | ⟨rfl, h0, h1, rfl, rfl⟩ | ⟨rfl, rfl, hnm, hk4⟩
    · -- a variable
      have hw : (Tm.mk 1 n [] []).tx = [UInt8.ofNat (65 + n.toNat)] := by rw [tx_kids]; rfl
      rw [hw] at hd ⊢
      exact prime_done hs hi (by have := dr_len hd hi; simp at this ⊢; omega) hf (dr_add hd) he (prime_var hs h0 h1 hi hd hD)
    · -- a number
      have hw : (Tm.mk 2 n [] []).tx = itoa3 n := by rw [tx_kids, itoa3_eq h0 h1]; rfl
      rw [hw] at hd ⊢
      exact prime_done hs hi (by have := dr_len hd hi; simp at this ⊢; omega) hf (dr_add hd) he (prime_int hs h0 h1 hi hd hD fun c r' e => (hhead c r' e).1)
    · by_cases hpair : nm = [46] ∧ kids.length = 2
      · -- a list
        obtain ⟨rfl, hl2⟩ := hpair
        match kids, hl2 with
        | [a, b], _ =>
          obtain ⟨es, u, e1, e2, e3, e4, e5⟩ := tail_splitx b (hkf b (by simp)) (D - 1) (g3 b (by simp))
          have hw : (Tm.mk 3 0 [46] [a, b]).tx = 91 :: (joinS 44 ((a :: es).map Tm.tx) ++ tailX u ++ [93]) := by
            have hjs : joinS 44 ((a :: es).map Tm.tx) = a.tx ++ (es.map Tm.tx).flatMap fun x => 44 :: x := joinS_cons _ _ _
            rw [tx_kids, hjs]
            simp [txNode, e3, List.flatMap_map]
          have hch : Tm.mk 3 0 [46] [a, b] = chainT (a :: es) u := by rw [chainT, ← e1]; rfl
          have hsz : (Tm.mk 3 0 [46] [a, b]).size = 1 + (a.size + (b.size + 0)) := rfl
          have hau : ∀ x ∈ a :: es, Rdx x ∧ x.shape (D - 1) = true := fun x hx => by
            rcases List.mem_cons.1 hx with rfl | hx
            · exact ⟨ih _ (hks _ (by simp)) (hkf _ (by simp)) ⟨_, g3 _ (by simp)⟩, g3 _ (by simp)⟩
            · obtain ⟨q1, q2, q3⟩ := e4 x hx
              exact ⟨ih _ (by omega) q3 ⟨_, q2⟩, q2⟩
          refine prime_done hs hi (by have := dr_len hd hi; simp at this ⊢; omega) hf (dr_add hd) he ?_
          rw [hw] at hd ⊢
          have hat := at_dr (s := s) (i := i) (c := 91) (r := joinS 44 ((a :: es).map Tm.tx) ++ tailX u ++ [93] ++ r) (by rw [hd]; simp)
          -- the first element does not begin with a closing bracket
          have hne93 : sgn s (i + 1) 93 = false := by
            have hawne : a.tx ≠ [] := (tx_len a (shape_good a _ (g3 a (by simp)))).2
            have hfirst : ∃ c y, a.tx = c :: y ∧ c ≠ 93 := head_notx a (shape_good a _ (g3 a (by simp)))
            obtain ⟨c, y, hcy, hc⟩ := hfirst
            have hd2 : s.drop (i + 1) = c :: (y ++ (es.flatMap fun e => 44 :: e.tx) ++ tailX u ++ [93] ++ r) := by
              have := dr_add (w := [91]) (r := c :: (y ++ (es.flatMap fun e => 44 :: e.tx) ++ tailX u ++ [93] ++ r)) (s := s) (i := i) (by rw [hd, List.map_cons, joinS_cons, hcy]; simp [List.flatMap_map])
              simpa using this
            rw [sgn_dr hd2]
            simpa using hc
          rw [prime_stepF hs i D hi, hat]
          simp only
          rw [if_neg (by omega), if_neg (by decide), if_pos ⟨trivial, hne93⟩]
          by_cases hnil : u.nilB = true
          · have htx : tailX u = [] := by unfold tailX; rw [if_pos hnil]
            rw [htx] at hd ⊢
            have hd1 : s.drop (i + 1) = joinS 44 ((a :: es).map Tm.tx) ++ 93 :: r := by
              have := dr_add (w := [91]) (r := joinS 44 ((a :: es).map Tm.tx) ++ 93 :: r) (s := s) (i := i) (by rw [hd]; simp)
              simpa using this
            have hlen0 := dr_len hd1 (by have := dr_len hd hi; simp at this; omega)
            rw [read_termsx hs (e := 93) (o := 124) (by decide) (a :: es) (by simp) hau (by have := dr_len hd hi; simp at this; omega) hd1 (.inl rfl), thn_ok, sgn_dr (dr_add hd1)]
            have hu := nil_of hnil e5.2.1
            rw [hch, hu]
            simp; omega
          · have htx : tailX u = 124 :: u.tx := by unfold tailX; rw [if_neg hnil]
            rw [htx] at hd ⊢
            have hd1 : s.drop (i + 1) = joinS 44 ((a :: es).map Tm.tx) ++ 124 :: (u.tx ++ 93 :: r) := by
              have := dr_add (w := [91]) (r := joinS 44 ((a :: es).map Tm.tx) ++ 124 :: (u.tx ++ 93 :: r)) (s := s) (i := i) (by rw [hd]; simp)
              simpa using this
            have hlen0 := dr_len hd1 (by have := dr_len hd hi; simp at this; omega)
            have hd2 := dr_add hd1
            have hd3 : s.drop (i + 1 + (joinS 44 ((a :: es).map Tm.tx)).length + 1) = u.tx ++ 93 :: r := by
              have := dr_add (w := [124]) (r := u.tx ++ 93 :: r) (s := s) (i := i + 1 + (joinS 44 ((a :: es).map Tm.tx)).length) (by simpa using hd2)
              simpa using this
            simp at hlen0
            have hu : Rdx u := ih u (by omega) e5.2.2 ⟨_, e5.2.1⟩
            rw [read_termsx hs (e := 93) (o := 124) (by decide) (a :: es) (by simp) hau (by omega) hd1 (.inr rfl), thn_ok, sgn_dr hd2]
            simp only [show ((124 : UInt8) == 93) = false from rfl, Bool.false_eq_true, if_false]
            rw [hu _ _ _ _ hs (by simp; omega) hd3 e5.2.1 (.inr ⟨93, r, rfl, by decide⟩), thn_ok, sgn_dr (dr_add hd3)]
            rw [hch]
            simp [Rs.tm]; omega
      · refine prime_done hs hi (by have := dr_len hd hi; simp at this ⊢; omega) hf (dr_add hd) he ?_
        by_cases hkn : kids = []
        · -- an atom
          subst hkn
          have hw : (Tm.mk 3 0 nm []).tx = nm := by rw [tx_kids]; simp [txNode]
          rw [hw] at hd ⊢
          have hnext : ∀ c r', r = c :: r' → digB c = false ∧ smaB c = false ∧ (nm ∈ signs → extB nm c = false) := fun c r' e => by
            obtain ⟨q1, q2, q3⟩ := hhead c r' e
            refine ⟨q1, q2, fun hsg => ?_⟩
            rcases he with he | ⟨c', r'', he, hc⟩
            · rw [he] at e; cases e
            · rw [he] at e; cases e
              exact extB_of hsg (close_ext c hc)
          rw [prime_name hs hi hd hD hnm hnext]
          have h40 : sgn s (i + nm.length) 40 = false := by
            cases r with
            | nil => exact sgn_end (dr_add hd)
            | cons c r' =>
              rw [sgn_dr (dr_add hd)]
              have := (hhead c r' rfl).2.2
              simpa using this
          rw [h40]; rfl
        · -- a structure
          have hw : (Tm.mk 3 0 nm kids).tx = nm ++ 40 :: joinS 44 (kids.map Tm.tx) ++ [41] := by
            rw [tx_kids]
            have h2 : ¬ (nm = [46] ∧ kids.length = 2) := hpair
            unfold txNode
            rw [if_neg (by decide), if_neg (by decide), if_neg h2, if_neg hkn]
          rw [hw] at hd ⊢
          have hd1 : s.drop i = nm ++ (40 :: (joinS 44 (kids.map Tm.tx) ++ 41 :: r)) := by rw [hd]; simp
          have hd2 := dr_add hd1
          have hlen1 := dr_len hd1 hi
          simp at hlen1
          have hd3 : s.drop (i + nm.length + 1) = joinS 44 (kids.map Tm.tx) ++ 41 :: r := by
            have := dr_add (w := [40]) (r := joinS 44 (kids.map Tm.tx) ++ 41 :: r) (s := s) (i := i + nm.length) (by simpa using hd2)
            simpa using this
          rw [prime_name hs hi hd1 hD hnm (fun c r' e => by cases e; exact ⟨by decide, by decide, fun hsg => extB_of hsg (by decide)⟩), sgn_dr hd2]
          simp only [show ((40 : UInt8) == 40) = true from rfl, if_true]
          rw [read_termsx hs (e := 41) (o := 41) (by decide) kids hkn (fun x hx => ⟨ih x (hks x hx) (hkf x hx) ⟨_, g3 x hx⟩, g3 x hx⟩) (by omega) hd3 (.inl rfl), thn_ok]
          simp; omega
/-- texts of terms are read back -/
theorem text_read {t : Tm} (ht : t.fits) (hv : t.valid = true) (hl : t.tx.length ≤ 1000) : okR t.tx = some t := by
  have hv2 := hv
  unfold Tm.valid at hv2
  rw [Bool.and_eq_true] at hv2
  have h1 := rdx_all t.size t (Nat.le_refl _) ht ⟨30, hv2.1⟩ t.tx 0 [] 30 (by omega) (Nat.zero_le _) (by simp) hv2.1 (.inl rfl)
  unfold okR
  rw [if_neg (by omega)]
  unfold okT
  rw [h1]
  simp [Rs.tm, hv]
end Go.Proofs.YtgfmlifkhpjplaaGreatDoor

/-
  strings.Join as a call of the abstract machine.
  Conditions: none.
-/
open Go Go.AM Go.Proofs
namespace Go.Proofs
open Go.Shelf
def Tryz.lays156_ren : Go.Shelf.Ren := ⟨fun | 156 => 94 | 165 => 122 | 166 => 123 | 169 => 124 | 240 => 134 | 241 => 135 | 276 => 143 | 277 => 144 | n => n, fun | 31 => 56 | 9 => 9 | 3 => 3 | 4 => 4 | 0 => 0 | 20 => 20 | 72 => 102 | 76 => 106 | 70 => 100 | 37 => 30 | 75 => 105 | 127 => 110 | 164 => 119 | 5 => 5 | 80 => 87 | n => n, fun | n => n⟩
theorem Tryz.lays156 : Go.Proofs.Lays.n156 Tryz.prog Tryz.lays156_ren := {
  mixed := by kernel_rfl
  f156 := Tryz.func94.trans (congrArg some (by kernel_rfl))
  f165 := Tryz.func122.trans (congrArg some (by kernel_rfl))
  f166 := Tryz.func123.trans (congrArg some (by kernel_rfl))
  f169 := Tryz.func124.trans (congrArg some (by kernel_rfl))
  f240 := Tryz.func134.trans (congrArg some (by kernel_rfl))
  f241 := Tryz.func135.trans (congrArg some (by kernel_rfl))
  f276 := Tryz.func143.trans (congrArg some (by kernel_rfl))
  f277 := Tryz.func144.trans (congrArg some (by kernel_rfl))
  t0 := Tryz.underlying0
  a0 := Tryz.isAgg0
  z0 := Tryz.sizeOf0
  v0 := Tryz.zeroValue0
  t3 := Tryz.underlying3
  a3 := Tryz.isAgg3
  z3 := Tryz.sizeOf3
  v3 := Tryz.zeroValue3
  t4 := Tryz.underlying4
  a4 := Tryz.isAgg4
  z4 := Tryz.sizeOf4
  v4 := Tryz.zeroValue4
  t9 := Tryz.underlying9
  a9 := Tryz.isAgg9
  z9 := Tryz.sizeOf9
  v9 := Tryz.zeroValue9
  t20 := Tryz.underlying20
  a20 := Tryz.isAgg20
  z20 := Tryz.sizeOf20
  v20 := Tryz.zeroValue20
  t31 := Tryz.underlying56
  a31 := Tryz.isAgg56
  z31 := Tryz.sizeOf56
  v31 := Tryz.zeroValue56
  t37 := Tryz.underlying30
  a37 := Tryz.isAgg30
  z37 := Tryz.sizeOf30
  v37 := Tryz.zeroValue30
  t70 := Tryz.underlying100
  a70 := Tryz.isAgg100
  z70 := Tryz.sizeOf100
  v70 := Tryz.zeroValue100
  t72 := Tryz.underlying102
  a72 := Tryz.isAgg102
  z72 := Tryz.sizeOf102
  v72 := Tryz.zeroValue102
  t75 := Tryz.underlying105
  a75 := Tryz.isAgg105
  z75 := Tryz.sizeOf105
  v75 := Tryz.zeroValue105
  t76 := Tryz.underlying106
  a76 := Tryz.isAgg106
  z76 := Tryz.sizeOf106
  v76 := Tryz.zeroValue106
  t127 := Tryz.underlying110
  a127 := Tryz.isAgg110
  z127 := Tryz.sizeOf110
  v127 := Tryz.zeroValue110
  t164 := Tryz.underlying119
  a164 := Tryz.isAgg119
  z164 := Tryz.sizeOf119
  v164 := Tryz.zeroValue119 }
theorem Tryz.Builder_Extra_156 : Builder.Extra Tryz.prog Tryz.lays156_ren := {
  sizeBuilder := by kernel_rfl
  liesBuilder := by kernel_rfl
  t5 := Tryz.underlying5
  a5 := Tryz.isAgg5
  z5 := Tryz.sizeOf5
  v5 := Tryz.zeroValue5
  infoByte := by kernel_rfl
  cellsByte := by kernel_rfl
  sizeByte := by kernel_rfl
  neB5 := by decide }
end Go.Proofs
namespace Go.Proofs.YtgfmlifkhpjplaaGreatDoor
open Go.RowKit
set_option linter.unusedVariables false
set_option linter.unusedSimpArgs false
set_option maxRecDepth 100000
theorem join_joinS (c : UInt8) : ∀ ws : List (List UInt8), Lib.join ws [c] = joinS c ws
  | [] => rfl
  | [a] => by simp [joinS, Lib.join_one]
  | a :: b :: l => by
    have ih := join_joinS c (b :: l)
    rw [joinS, ← ih, Lib.join_cons, Lib.join_cons]
    simp [Lib.joinTail]
theorem join_calls (ws : List (List UInt8)) (c : UInt8) (hn : ws.length ≤ 1000000) (hlen : (joinS c ws).length ≤ 100000000000000) (H : Heap) : ACalls Tryz.prog 94 [.c (.d (.sl (ws.map fun x => [.str x]))), .c (.d (.str [c]))] H
    (fun r H' => H' = H ∧ r = .c (.d (.str (joinS c ws)))) := by
  refine ⟨⟨_, Tryz.func94, by kernel_rfl, by decide⟩, fun w ι cargs hsim hl ha => ?_⟩
  obtain ⟨v0, v1, rfl⟩ : ∃ v0 v1, cargs = [v0, v1] := by
    match cargs, hl with
    | [a, b], _ => exact ⟨a, b, rfl⟩
  have h0 := ha 0 _ _ rfl rfl
  have h1 := ha 1 _ _ rfl rfl
  obtain ⟨sep, rfl, hsep⟩ : ∃ sep : ByteArray, v1 = .string sep ∧ sep.data.toList = [c] := by
    cases h1 with
    | c h => cases h with
      | d h =>
        generalize hcl : [c] = l at h
        cases h with
        | str s _ => exact ⟨s, rfl, by first | exact hcl.symm | rfl⟩
  have key : ∀ (e : Ending) (w' : World), (e = .returned (.string ⟨(joinS c ws).toArray⟩) ∧ Below w.heap.size w w') →
      ∃ r H' ι' v, e = .returned v ∧ (H' = H ∧ r = .c (.d (.str (joinS c ws)))) ∧ Sim w' ι' H'.length H' ∧ RA w' ι' H'.length r v ∧ Ext w ι w' ι' ∧ H.length ≤ H'.length := by
    rintro e w' ⟨rfl, hb⟩
    have hfr : ∀ b, b < w.heap.size → w'.heap[b]? = w.heap[b]? := fun b h => hb.block b h
    have hx : Ext w ι w' ι := Ext.of_blocks hb.os hb.tape hb.output hb.size hfr
    refine ⟨_, _, ι, _, rfl, ⟨rfl, rfl⟩, hsim.of_blocks hx hfr, .c (.d ?_), hx, Nat.le_refl _⟩
    have := RD.str (w := w') (S := AM.Safe w' ι) ⟨(joinS c ws).toArray⟩ (by simp [maxStr]; omega)
    simpa using this
  have hd : RD w (AM.Safe w ι) (.sl (ws.map fun x => [.str x])) v0 := by
    cases h0 with
    | c h => cases h with
      | d h => exact h
  generalize hrows : (ws.map fun x => [D.str x]) = rows at hd
  have hrl : rows.length = ws.length := by rw [← hrows]; simp
  cases hd with
  | nil a =>
    have hw : ws = [] := by
      cases ws with
      | nil => rfl
      | cons a l => simp at hrows
    subst hw
    refine (Any.strings_Join_none Tryz.lays156 Tryz.Builder_Extra_156 a 0 sep w).mono ?_
    rintro e w' ⟨rfl, rfl⟩
    exact key _ _ ⟨rfl, Below.refl _ _⟩
  | sl rows b off cap sz vs g1 g2 g3 g4 g5 =>
    by_cases hw : ws = []
    · subst hw
      simp at hrows
      subst hrows
      refine (Any.strings_Join_none Tryz.lays156 Tryz.Builder_Extra_156 (some ⟨b, off, none⟩) cap sep w).mono ?_
      rintro e w' ⟨rfl, rfl⟩
      exact key _ _ ⟨rfl, Below.refl _ _⟩
    · have hsz : sz = 1 := by
        cases ws with
        | nil => exact absurd rfl hw
        | cons a l =>
          have := g3 0 [.str a] (by rw [← hrows]; rfl)
          simpa using this.symm
      subst hsz
      have hcell : ∀ (j : Nat) (x : List UInt8), ws[j]? = some x → w.cell? ⟨b, off + j, none⟩ = some (.string ⟨x.toArray⟩) ∧ b < w.heap.size := by
        intro j x hx
        have hr : rows[j]? = some [.str x] := by rw [← hrows]; simp [hx]
        obtain ⟨c1, c2⟩ := g4 j _ 0 _ hr rfl
        have c3 := g5 j _ 0 _ hr rfl
        simp only [Nat.mul_one, Nat.add_zero] at c1 c2 c3
        generalize hl2 : x = l at c3
        generalize vs j = v at c1 c3
        cases c3 with
        | str s _ =>
          refine ⟨?_, c2.1⟩
          rw [c1]
      have hbk : b < w.heap.size := by
        cases ws with
        | nil => exact absurd rfl hw
        | cons a l => exact (hcell 0 a rfl).2
      have hxs : (ws.map fun x => (⟨x.toArray⟩ : ByteArray)).length = rows.length := by simp [hrl]
      have hmap : ((ws.map fun x => (⟨x.toArray⟩ : ByteArray)).map (·.data.toList)) = ws := by
        simp [Function.comp_def]
      have hj := Any.strings_Join Tryz.lays156 Tryz.Builder_Extra_156 b off cap (ws.map fun x => (⟨x.toArray⟩ : ByteArray)) sep w (fun j x hx => by
        simp only [List.getElem?_map, Option.map_eq_some_iff] at hx
        obtain ⟨y, hy, rfl⟩ := hx
        exact (hcell j y hy).1) hbk (by rw [hxs, hrl]; omega) (by rw [hxs]; exact g1) (by rw [hmap, hsep, join_joinS]; omega)
      rw [hmap, hsep, join_joinS, hxs] at hj
      exact hj.mono fun e w' h => key e w' h
end Go.Proofs.YtgfmlifkhpjplaaGreatDoor

/-
  Terms as the program writes them: the two functions that call each other.
  Conditions: none.
-/
open Go Go.AM Go.Proofs
namespace Go.Proofs.YtgfmlifkhpjplaaGreatDoor
open Go.ChangeShapes Go.WideShapes Go.ChangeAt Go.RowKit
set_option linter.unusedVariables false
set_option linter.unusedSimpArgs false
set_option maxRecDepth 100000
theorem tab_app {H l : Heap} {x : Ob} (h : H[0]? = some x) : (H ++ l)[0]? = some x := by
  rw [List.getElem?_append_left (List.getElem?_eq_some_iff.1 h).1]; exact h
theorem struct_wr {s : List UInt8} {l : List Tm} (hp : (Tm.mk 3 0 s l).pairB = false) (hi : infixB (Tm.mk 3 0 s l) = false) (hl : l ≠ []) : (Tm.mk 3 0 s l).wr = s ++ 40 :: joinS 44 (l.map Tm.wr) ++ [41] := by
  have h1 : ¬ (s = [46] ∧ l.length = 2) := by
    intro h
    simp [Tm.pairB, Tm.k, Tm.s, Tm.kids, h] at hp
  have h2 : ¬ (l.length = 2 ∧ 0 < levelN s) := by
    intro h
    simp [infixB, Tm.k, Tm.s, Tm.kids, h] at hi
  rw [Tm.wr, wrs_map, wrNode, if_neg (by omega), if_neg (by omega), if_neg h1, if_neg h2, if_neg hl]
theorem take_wr {l : List Tm} {i : Nat} (h : i < l.length) : (l.take i).map (fun u => [D.str u.wr]) ++ [[D.str l[i].wr]] = (l.take (i + 1)).map fun u => [D.str u.wr] := by
  rw [List.take_add_one, List.getElem?_eq_getElem h, List.map_append]
  rfl
theorem text_ok {g : Nat} {o : Obj} (hTab : Tab g o) (t : Tm) (ht : t.ok) (hi : infixB t = false) (hT : ∀ u : Tm, u.ok → u.size < t.size → TxI g o u) (H : Heap) (hH : H[0]? = some (.tab g o)) :
    ACalls Tryz.prog 62 [.agg (t.row.map .d), .c (.fn 38 [])] H (fun r H' => H' = H ∧ r = .c (.d (.str t.wr))) := by
  refine acalls Tryz.func62 (by kernel_rfl) ac62_ok fun hf => ?_
  have hpc := pairImpl_calls t ht.fits
  have hlen := ht.len
  have hts := ht.size
  cases hp : t.pairB with
  | true =>
    obtain ⟨n, a, b, rfl⟩ := pair_inv hp
    have ha := ht.kid (u := a) (by simp)
    have hb := ht.kid (u := b) (by simp)
    have hal := ha.1.len
    have hbl := hb.1.len
    have hcs : (Tm.mk 3 n [46] [a, b]).size = 1 + a.size + b.size := by simp [Tm.size, sizes]; omega
    simp [row_mk] at hpc
    simp -implicitDefEqProofs [ac62, row_mk, go_sem, -List.set_cons_succ, -List.set_cons_zero]
    refine qcall_pure hpc hf rfl ?_
    rw [hp]
    simp -implicitDefEqProofs [go_sem, -List.set_cons_succ, -List.set_cons_zero]
    refine row_int (i := 0) a.row (by omega) rfl (row_len _) ?_
    simp -implicitDefEqProofs [row_len, take_row, pure_d, re_d, ptrsOf, go_sem, -List.set_cons_succ, -List.set_cons_zero]
    refine call_same (hT a ha.1 ha.2 _ (tab_app hH)) (by simp [Ob.re, C.re]) rfl hf ?_
    simp -implicitDefEqProofs [maxStr, go_sem, -List.set_cons_succ, -List.set_cons_zero]
    refine ⟨by omega, row_int (i := 1) b.row (by omega) rfl (row_len _) ?_⟩
    simp -implicitDefEqProofs [row_len, take_row, pure_d, re_d, hf, go_sem, -List.set_cons_succ, -List.set_cons_zero]
    refine loop_set (σ := List UInt8 × Tm) (fun x => [(5, .c (.d (.str x.1)))]) (fun _ => H) (fun x => [.cells [.d (.int .i64 3), .d (.int .i64 n), .d (.str [46]), .d (.sl [a.row, b.row])], .cells (x.2.row.map .d)])
      (fun x => x.2.ok ∧ x.2.size < (Tm.mk 3 n [46] [a, b]).size ∧ (Tm.mk 3 n [46] [a, b]).wr = x.1 ++ x.2.wrt ++ [93]) (fun x => x.2.size) (91 :: a.wr, b) rfl ⟨hb.1, hb.2, by rw [pair_wr]; simp⟩ ?_
    rintro ⟨out, c⟩ ⟨hc, hcl, hw⟩
    simp only at hc hcl hw
    have hol : out.length ≤ 6000 := by
      have := hlen.1
      rw [hw] at this
      simp at this
      omega
    have hcn := hc.len
    simp -implicitDefEqProofs [setAll, row_len, take_row, pure_d, re_d, go_sem, -List.set_cons_succ, -List.set_cons_zero]
    refine qcall_pure (pairImpl_calls c hc.fits) hf rfl ?_
    cases hcp : c.pairB with
    | true =>
      obtain ⟨n2, d, e, rfl⟩ := pair_inv hcp
      have hd := hc.kid (u := d) (by simp)
      have he := hc.kid (u := e) (by simp)
      have hdl := hd.1.len
      simp -implicitDefEqProofs [row_mk, go_sem, -List.set_cons_succ, -List.set_cons_zero]
      refine row_int (i := 0) d.row (by omega) rfl (row_len _) ?_
      simp -implicitDefEqProofs [row_len, take_row, pure_d, re_d, ptrsOf, go_sem, -List.set_cons_succ, -List.set_cons_zero]
      refine call_same (hT d hd.1 (by omega) _ (tab_app hH)) (by simp [Ob.re, C.re]) rfl hf ?_
      simp -implicitDefEqProofs [maxStr, go_sem, -List.set_cons_succ, -List.set_cons_zero]
      refine ⟨by omega, by omega, row_int (i := 1) e.row (by omega) rfl (row_len _) ?_⟩
      simp -implicitDefEqProofs [row_len, take_row, pure_d, re_d, hf, go_sem, -List.set_cons_succ, -List.set_cons_zero]
      refine loop_back (out ++ 44 :: d.wr, e) (by simp [setAll]) ⟨he.1, by simp only; omega, ?_⟩ (by show e.size < (Tm.mk 3 n2 [46] [d, e]).size; omega)
      rw [hw, pair_wrt]
      simp
    | false =>
      rw [end_wrt hcp] at hw
      simp -implicitDefEqProofs [row_len, take_row, pure_d, re_d, go_sem, -List.set_cons_succ, -List.set_cons_zero]
      refine qcall_pure (nilImpl_calls c hc.fits) hf rfl ?_
      cases hn : c.nilB with
      | true =>
        rw [hn] at hw
        simp -implicitDefEqProofs [hw, maxStr, go_sem, -List.set_cons_succ, -List.set_cons_zero]
        omega
      | false =>
        rw [hn] at hw
        simp -implicitDefEqProofs [row_len, take_row, pure_d, re_d, ptrsOf, go_sem, -List.set_cons_succ, -List.set_cons_zero]
        refine call_same (hT c hc hcl _ (tab_app hH)) (by simp [Ob.re, C.re, re_d]) rfl hf ?_
        simp -implicitDefEqProofs [hw, maxStr, go_sem, -List.set_cons_succ, -List.set_cons_zero]
        omega
  | false =>
    obtain ⟨k, n, s, l⟩ := t
    have hg := ht.good
    have hfi := ht.fits
    cases hg with
    | mk ho hgk =>
      rcases own_cases ho with ⟨rfl, n0, n1, rfl, rfl⟩ | ⟨rfl, n0, n1, rfl, rfl⟩ | ⟨rfl, rfl, hs2, hl4⟩
      · obtain ⟨m, rfl⟩ := Int.eq_ofNat_of_zero_le n0
        simp -implicitDefEqProofs [ac62, row_mk, go_sem, -List.set_cons_succ, -List.set_cons_zero]
        refine qcall_pure (letterI_calls m (by omega)) hf rfl ?_
        simp -implicitDefEqProofs [Tm.wr, wrNode, go_sem, -List.set_cons_succ, -List.set_cons_zero]
      · have hn : inR .i64 n := small_i64 (by omega) (by omega)
        simp -implicitDefEqProofs [ac62, row_mk, go_sem, -List.set_cons_succ, -List.set_cons_zero]
        refine qcall_tab (itoa_call hTab n hn) hf hH rfl ?_
        simp -implicitDefEqProofs [Tm.wr, wrNode, go_sem, -List.set_cons_succ, -List.set_cons_zero]
      · have hli : inR .i64 (l.length : Int) := small_i64 (by omega) (by omega)
        have hsl := name_len hs2
        simp [row_mk] at hpc
        simp -implicitDefEqProofs [ac62, row_mk, hli, go_sem, -List.set_cons_succ, -List.set_cons_zero]
        refine qcall_pure hpc hf rfl ?_
        rw [hp]
        by_cases hl : l = []
        · subst hl
          have h00 : inR .i64 0 := small_i64 (by omega) (by omega)
          simp -implicitDefEqProofs [h00, go_sem, -List.set_cons_succ, -List.set_cons_zero]
          simp [Tm.wr, wrNode]
        · have hps : 0 < l.length := List.length_pos_iff.2 hl
          simp -implicitDefEqProofs [hli, hl, go_sem, -List.set_cons_succ, -List.set_cons_zero]
          have hwr : (Tm.mk 3 0 s l).wr = s ++ 40 :: joinS 44 (l.map Tm.wr) ++ [41] := struct_wr hp hi hl
          have hwl := hlen.1
          rw [hwr] at hwl
          simp at hwl
          refine loop_enter (St.le_token 7 1 rfl) ?_
          refine loop_set (σ := Nat) (fun i => [(74, .c (.d (.int .i64 i))), (7, .c (.own (.l 1) i ((l.take i).map fun u => [.str u.wr])))]) (fun _ => H) (fun i => [.cells [.d (.int .i64 3), .d (.int .i64 0), .d (.str s), .d (.sl (l.map Tm.row))], .grow i 1]) (fun i => i ≤ l.length) (fun i => l.length - i) 0 (by simp [setAll]) (Nat.zero_le _) ?_
          intro i hi2
          simp -implicitDefEqProofs [setAll, hli, go_sem, -List.set_cons_succ, -List.set_cons_zero]
          refine ⟨fun hlt => ?_, fun hge => ?_⟩
          · have hadd : inR .i64 ((i : Int) + 1) := small_i64 (by omega) (by omega)
            have hk := ht.kid (u := l[i]) (by simp)
            refine row_of hlt (row_len _) ?_
            simp -implicitDefEqProofs [row_len, take_row, pure_d, re_d, ptrsOf, go_sem, -List.set_cons_succ, -List.set_cons_zero]
            refine ⟨hf, ?_⟩
            refine call_same (hT l[i] hk.1 hk.2 _ (tab_app hH)) (by simp [Ob.re, C.re, re_d]) rfl hf ?_
            simp -implicitDefEqProofs [go_sem, -List.set_cons_succ, -List.set_cons_zero]
            have e0 := take_wr hlt
            rw [← List.map_take, e0]
            refine ⟨allLen_map fun _ => rfl, by unfold maxApp; omega, hadd, loop_less (i + 1) (St.le_cut [_] ?_ (by simp [Sl.le, A.le_refl_iff, A.le_u_iff, As.lo, A.lo, C.lo, Ref.lo, Cs.lo, Obs.lo, Ob.lo, setAll, and_true, true_and, List.length_nil, List.length_cons]) rfl ⟨⟨trivial, trivial, trivial, trivial, trivial⟩, trivial, trivial⟩) hlt (by show l.length - (i + 1) < l.length - i; omega)⟩
            simp [setAll, Sl.le, A.le_refl_iff, A.le_u_iff, As.lo, A.lo, C.lo, Ref.lo, Cs.lo, Obs.lo, Ob.lo, setAll, and_true, true_and, List.length_nil, List.length_cons]
          · obtain rfl : i = l.length := by omega
            have hjl : (joinS 44 (l.map Tm.wr)).length ≤ 6000 := by omega
            have e1 : (l.map fun u => [D.str u.wr]) = (l.map Tm.wr).map fun x => [D.str x] := by simp
            rw [List.take_of_length_le (by simp), e1]
            simp only [maxStr]
            refine ⟨by omega, ?_⟩
            refine qcall_pure (join_calls (l.map Tm.wr) 44 (by simp; omega) (by omega)) hf rfl ?_
            simp -implicitDefEqProofs [maxStr, go_sem, -List.set_cons_succ, -List.set_cons_zero]
            rw [hwr]
            refine ⟨by omega, by omega, by simp⟩
/-- terms are written -/
theorem writeTm_calls {g : Nat} {o : Obj} (hTab : Tab g o) : ∀ (N : Nat) (t : Tm), t.size ≤ N → t.ok → TxI g o t := by
  intro N
  induction N with
  | zero =>
    intro t h0 _
    have := size_pos t
    omega
  | succ N ih =>
    intro t hN ht H hH
    have hkid : ∀ u : Tm, u.ok → u.size < t.size → TxI g o u := fun u hu hs => ih u (by omega) hu
    have hpc := isOp_calls t.s
    have hlen := ht.len
    cases hi : infixB t with
    | true =>
      obtain ⟨k, n, s, l⟩ := t
      have hi2 := hi
      simp only [infixB, Tm.k, Tm.kids, Tm.s, Bool.and_eq_true, decide_eq_true_iff] at hi2
      obtain ⟨⟨hk3, hl2⟩, hlv⟩ := hi2
      obtain rfl : k = 3 := of_decide_eq_true hk3
      have hl2 : (l.length : Int) = 2 := of_decide_eq_true hl2
      have hlp : 0 < levelN s := of_decide_eq_true hlv
      clear hlv
      match l, show l.length = 2 by omega, ht, hkid with
      | [a, b], _, ht, hT =>
        have ha := ht.kid (u := a) (by simp)
        have hb := ht.kid (u := b) (by simp)
        have hal := ha.1.len
        have hbl := hb.1.len
        obtain ⟨hr1, hr2, hr3⟩ := lv_range hlp
        have hsl : s.length ≤ 1048576 := by
          cases ht.fits with
          | mk _ _ h3 _ _ => exact h3
        have hsub : inR .i64 (levelN s - 1) := small_i64 (by omega) (by omega)
        have hm0 : 0 ≤ leftMost s := by
          by_cases h3 : levelN s = 3
          · rw [hr2 h3]; omega
          · rw [hr3 h3]; omega
        have cl := operand_calls a ha.1 (hT a ha.1 ha.2) (leftMost s) hm0 false
        have cr := operand_calls b hb.1 (hT b hb.1 hb.2) (levelN s - 1) (by omega) true
        have hol := opnd_len a a.wr (leftMost s) false
        have hor := opnd_len b b.wr (levelN s - 1) true
        have hos := opSp_len s
        have hwr : (Tm.mk 3 n s [a, b]).wr = opnd a a.wr (leftMost s) false ++ opSp s ++ opnd b b.wr (levelN s - 1) true := by
          have hne : s ≠ [46] := by rintro rfl; simp [levelN, ops3] at hlp
          rw [Tm.wr, wrs_map, wrts_map]
          simp [wrNode, hne, hlp]
        rw [hwr, row_mk]
        refine acalls Tryz.func38 (by kernel_rfl) ac38_ok fun hf => ?_
        simp -implicitDefEqProofs [ac38, go_sem, -List.set_cons_succ, -List.set_cons_zero]
        refine ⟨small_i64 (by omega) (by omega), qcall_pure (isOp_calls s) hf rfl ?_⟩
        simp -implicitDefEqProofs [hlp, go_sem, -List.set_cons_succ, -List.set_cons_zero]
        refine qcall_pure (opLevel_calls s) hf rfl ?_
        simp -implicitDefEqProofs [hsub, go_sem, -List.set_cons_succ, -List.set_cons_zero]
        refine row_int (i := 0) a.row (by omega) rfl (row_len _) ?_
        simp -implicitDefEqProofs [row_len, take_row, pure_d, re_d, go_sem, -List.set_cons_succ, -List.set_cons_zero]
        refine qcall_pure (leftMost_calls s) hf rfl ?_
        simp -implicitDefEqProofs [go_sem, -List.set_cons_succ, -List.set_cons_zero]
        refine qcall_tab cl hf hH rfl ?_
        simp -implicitDefEqProofs [go_sem, -List.set_cons_succ, -List.set_cons_zero]
        refine qcall_pure (opText_calls s hsl) hf rfl ?_
        simp -implicitDefEqProofs [maxStr, go_sem, -List.set_cons_succ, -List.set_cons_zero]
        refine ⟨by omega, row_int (i := 1) b.row (by omega) rfl (row_len _) ?_⟩
        simp -implicitDefEqProofs [row_len, take_row, pure_d, re_d, go_sem, -List.set_cons_succ, -List.set_cons_zero]
        refine qcall_tab cr hf hH rfl ?_
        simp -implicitDefEqProofs [maxStr, go_sem, -List.set_cons_succ, -List.set_cons_zero]
        omega
    | false =>
      have hc := fun (l : Heap) => text_ok hTab t ht hi hkid (H ++ l) (tab_app hH)
      have hli : inR .i64 (t.kids.length : Int) := by
        cases ht.fits with
        | mk _ _ _ h _ => exact small_i64 (by simp only [Tm.kids]; omega) (by simp only [Tm.kids]; omega)
      rw [row_eq] at hc ⊢
      simp only [List.map_cons, List.map_nil] at hc ⊢
      refine acalls Tryz.func38 (by kernel_rfl) ac38_ok fun hf => ?_
      simp -implicitDefEqProofs [ac38, hli, go_sem, -List.set_cons_succ, -List.set_cons_zero]
      refine ⟨fun h3 h2 => ⟨⟨h3, h2⟩, ?_⟩, fun _ => ?_⟩
      · refine qcall_pure (isOp_calls t.s) hf rfl ?_
        have hnl : ¬ 0 < levelN t.s := by
          intro h
          simp [infixB, h3, h2, h] at hi
        simp -implicitDefEqProofs [h3, h2, hnl, go_sem, -List.set_cons_succ, -List.set_cons_zero]
        simp only [h3] at hc
        refine call_same (hc _) (by simp [Ob.re, C.re, re_d]) rfl hf ?_
        simp -implicitDefEqProofs [go_sem, -List.set_cons_succ, -List.set_cons_zero]
      · refine call_same (hc _) (by simp [Ob.re, C.re, re_d]) rfl hf ?_
        simp -implicitDefEqProofs [go_sem, -List.set_cons_succ, -List.set_cons_zero]
end Go.Proofs.YtgfmlifkhpjplaaGreatDoor

/-
  Texts of terms: FormatTerm of the program.
  Conditions: none.
-/
open Go Go.AM Go.Proofs
namespace Go.Proofs.YtgfmlifkhpjplaaGreatDoor
open Go.ChangeShapes Go.WideShapes Go.ChangeAt Go.RowKit
set_option linter.unusedVariables false
set_option linter.unusedSimpArgs false
set_option maxRecDepth 100000
-- 44 loop.example/prologserver/impl.plainText params 1 ntmps 5
def ac44 : Cd := .seq (.region [⟨(some 1),.box (.t 0),none⟩,
 ⟨(some 2),.mv (.k (.c (.d (.str [])))),none⟩] [0,2])
 (.seq (.region [⟨(some 3),.load (some 4) (.t 1),none⟩,
 ⟨(some 4),.qcall 62 [(.t 3),(.k (.c (.fn 44 [])))],none⟩,
 ⟨(some 2),.mv (.t 4),none⟩] [1,3,4])
 (.ret))
theorem ac44_ok : cFunc Tryz.prog [1000062] [(0,[0,2],[]),(1,[1,3,4],[])] Tryz.f44 = some (ac44,[.tmp 2],5) := by kernel_rfl
-- 23 loop.example/prologserver/impl.FormatTerm params 1 ntmps 8
def ac23 : Cd := .seq (.region [⟨(some 1),.box (.t 0),none⟩,
 ⟨(some 2),.mv (.k (.c (.d (.str [])))),none⟩] [0,2])
 (.seq (.seq (.region [⟨(some 3),.load (some 4) (.t 1),none⟩,
 ⟨(some 4),.qcall 17 [(.t 3)],none⟩,
 ⟨(some 5),.un .not (.t 4),none⟩] [3,4])
 (.cond (.t 5)
 (.seq (.region [⟨(some 2),.mv (.k (.c (.d (.str [])))),none⟩] [1,5])
 (.ret))
 (.skip)))
 (.seq (.region [⟨(some 6),.load (some 4) (.t 1),none⟩,
 ⟨(some 7),.qcall 44 [(.t 6)],none⟩,
 ⟨(some 2),.mv (.t 7),none⟩] [1,5,6,7])
 (.ret)))
theorem ac23_ok : cFunc Tryz.prog [1000017,1000044] [(0,[0,2],[]),(1,[3,4],[]),(2,[1,5],[]),(3,[1,5,6,7],[])] Tryz.f23 = some (ac23,[.tmp 2],8) := by kernel_rfl
theorem pair_txt (n : Int) (a b : Tm) : (Tm.mk 3 n [46] [a, b]).txt = 44 :: a.tx ++ b.txt := by
  rw [Tm.txt, txs_map, txts_map]
  simp
theorem pair_tx (n : Int) (a b : Tm) : (Tm.mk 3 n [46] [a, b]).tx = 91 :: (a.tx ++ b.txt) ++ [93] := by
  rw [Tm.tx, txs_map, txts_map]
  simp [txNode]
theorem end_txt {t : Tm} (h : t.pairB = false) : t.txt = if t.nilB then [] else 124 :: t.tx := txt_end h
theorem Tm.ok.lenx {t : Tm} (h : t.ok) : t.tx.length ≤ 6000 ∧ t.txt.length ≤ 6001 ∧ t.tx ≠ [] := by
  have := tx_len t h.good
  have := h.size
  exact ⟨by omega, by omega, (tx_len t h.good).2⟩
theorem struct_tx {s : List UInt8} {l : List Tm} (hp : (Tm.mk 3 0 s l).pairB = false) (hl : l ≠ []) : (Tm.mk 3 0 s l).tx = s ++ 40 :: joinS 44 (l.map Tm.tx) ++ [41] := by
  have h1 : ¬ (s = [46] ∧ l.length = 2) := by
    intro h
    simp [Tm.pairB, Tm.k, Tm.s, Tm.kids, h] at hp
  rw [Tm.tx, txs_map, txNode, if_neg (by omega), if_neg (by omega), if_neg h1, if_neg hl]
theorem take_tx {l : List Tm} {i : Nat} (h : i < l.length) : (l.take i).map (fun u => [D.str u.tx]) ++ [[D.str l[i].tx]] = (l.take (i + 1)).map fun u => [D.str u.tx] := by
  rw [List.take_add_one, List.getElem?_eq_getElem h, List.map_append]
  rfl
def TxF (g : Nat) (o : Obj) (t : Tm) : Prop := ∀ H : Heap, H[0]? = some (.tab g o) → ACalls Tryz.prog 44 [.agg (t.row.map .d)] H (fun r H' => H' = H ∧ r = .c (.d (.str t.tx)))
theorem textx_ok {g : Nat} {o : Obj} (hTab : Tab g o) (t : Tm) (ht : t.ok) (hT : ∀ u : Tm, u.ok → u.size < t.size → TxF g o u) (H : Heap) (hH : H[0]? = some (.tab g o)) :
    ACalls Tryz.prog 62 [.agg (t.row.map .d), .c (.fn 44 [])] H (fun r H' => H' = H ∧ r = .c (.d (.str t.tx))) := by
  refine acalls Tryz.func62 (by kernel_rfl) ac62_ok fun hf => ?_
  have hpc := pairImpl_calls t ht.fits
  have hlen := ht.lenx
  have hts := ht.size
  cases hp : t.pairB with
  | true =>
    obtain ⟨n, a, b, rfl⟩ := pair_inv hp
    have ha := ht.kid (u := a) (by simp)
    have hb := ht.kid (u := b) (by simp)
    have hal := ha.1.lenx
    have hbl := hb.1.lenx
    have hcs : (Tm.mk 3 n [46] [a, b]).size = 1 + a.size + b.size := by simp [Tm.size, sizes]; omega
    simp [row_mk] at hpc
    simp -implicitDefEqProofs [ac62, row_mk, go_sem, -List.set_cons_succ, -List.set_cons_zero]
    refine qcall_pure hpc hf rfl ?_
    rw [hp]
    simp -implicitDefEqProofs [go_sem, -List.set_cons_succ, -List.set_cons_zero]
    refine row_int (i := 0) a.row (by omega) rfl (row_len _) ?_
    simp -implicitDefEqProofs [row_len, take_row, pure_d, re_d, ptrsOf, go_sem, -List.set_cons_succ, -List.set_cons_zero]
    refine call_same (hT a ha.1 ha.2 _ (tab_app hH)) (by simp [Ob.re, C.re]) rfl hf ?_
    simp -implicitDefEqProofs [maxStr, go_sem, -List.set_cons_succ, -List.set_cons_zero]
    refine ⟨by omega, row_int (i := 1) b.row (by omega) rfl (row_len _) ?_⟩
    simp -implicitDefEqProofs [row_len, take_row, pure_d, re_d, hf, go_sem, -List.set_cons_succ, -List.set_cons_zero]
    refine loop_set (σ := List UInt8 × Tm) (fun x => [(5, .c (.d (.str x.1)))]) (fun _ => H) (fun x => [.cells [.d (.int .i64 3), .d (.int .i64 n), .d (.str [46]), .d (.sl [a.row, b.row])], .cells (x.2.row.map .d)])
      (fun x => x.2.ok ∧ x.2.size < (Tm.mk 3 n [46] [a, b]).size ∧ (Tm.mk 3 n [46] [a, b]).tx = x.1 ++ x.2.txt ++ [93]) (fun x => x.2.size) (91 :: a.tx, b) rfl ⟨hb.1, hb.2, by rw [pair_tx]; simp⟩ ?_
    rintro ⟨out, c⟩ ⟨hc, hcl, hw⟩
    simp only at hc hcl hw
    have hol : out.length ≤ 6000 := by
      have := hlen.1
      rw [hw] at this
      simp at this
      omega
    have hcn := hc.lenx
    simp -implicitDefEqProofs [setAll, row_len, take_row, pure_d, re_d, go_sem, -List.set_cons_succ, -List.set_cons_zero]
    refine qcall_pure (pairImpl_calls c hc.fits) hf rfl ?_
    cases hcp : c.pairB with
    | true =>
      obtain ⟨n2, d, e, rfl⟩ := pair_inv hcp
      have hd := hc.kid (u := d) (by simp)
      have he := hc.kid (u := e) (by simp)
      have hdl := hd.1.lenx
      simp -implicitDefEqProofs [row_mk, go_sem, -List.set_cons_succ, -List.set_cons_zero]
      refine row_int (i := 0) d.row (by omega) rfl (row_len _) ?_
      simp -implicitDefEqProofs [row_len, take_row, pure_d, re_d, ptrsOf, go_sem, -List.set_cons_succ, -List.set_cons_zero]
      refine call_same (hT d hd.1 (by omega) _ (tab_app hH)) (by simp [Ob.re, C.re]) rfl hf ?_
      simp -implicitDefEqProofs [maxStr, go_sem, -List.set_cons_succ, -List.set_cons_zero]
      refine ⟨by omega, by omega, row_int (i := 1) e.row (by omega) rfl (row_len _) ?_⟩
      simp -implicitDefEqProofs [row_len, take_row, pure_d, re_d, hf, go_sem, -List.set_cons_succ, -List.set_cons_zero]
      refine loop_back (out ++ 44 :: d.tx, e) (by simp [setAll]) ⟨he.1, by simp only; omega, ?_⟩ (by show e.size < (Tm.mk 3 n2 [46] [d, e]).size; omega)
      rw [hw, pair_txt]
      simp
    | false =>
      rw [end_txt hcp] at hw
      simp -implicitDefEqProofs [row_len, take_row, pure_d, re_d, go_sem, -List.set_cons_succ, -List.set_cons_zero]
      refine qcall_pure (nilImpl_calls c hc.fits) hf rfl ?_
      cases hn : c.nilB with
      | true =>
        rw [hn] at hw
        simp -implicitDefEqProofs [hw, maxStr, go_sem, -List.set_cons_succ, -List.set_cons_zero]
        omega
      | false =>
        rw [hn] at hw
        simp -implicitDefEqProofs [row_len, take_row, pure_d, re_d, ptrsOf, go_sem, -List.set_cons_succ, -List.set_cons_zero]
        refine call_same (hT c hc hcl _ (tab_app hH)) (by simp [Ob.re, C.re, re_d]) rfl hf ?_
        simp -implicitDefEqProofs [hw, maxStr, go_sem, -List.set_cons_succ, -List.set_cons_zero]
        omega
  | false =>
    obtain ⟨k, n, s, l⟩ := t
    have hg := ht.good
    have hfi := ht.fits
    cases hg with
    | mk ho hgk =>
      rcases own_cases ho with ⟨rfl, n0, n1, rfl, rfl⟩ | ⟨rfl, n0, n1, rfl, rfl⟩ | ⟨rfl, rfl, hs2, hl4⟩
      · obtain ⟨m, rfl⟩ := Int.eq_ofNat_of_zero_le n0
        simp -implicitDefEqProofs [ac62, row_mk, go_sem, -List.set_cons_succ, -List.set_cons_zero]
        refine qcall_pure (letterI_calls m (by omega)) hf rfl ?_
        simp -implicitDefEqProofs [Tm.tx, txNode, go_sem, -List.set_cons_succ, -List.set_cons_zero]
      · have hn : inR .i64 n := small_i64 (by omega) (by omega)
        simp -implicitDefEqProofs [ac62, row_mk, go_sem, -List.set_cons_succ, -List.set_cons_zero]
        refine qcall_tab (itoa_call hTab n hn) hf hH rfl ?_
        simp -implicitDefEqProofs [Tm.tx, txNode, go_sem, -List.set_cons_succ, -List.set_cons_zero]
      · have hli : inR .i64 (l.length : Int) := small_i64 (by omega) (by omega)
        have hsl := name_len hs2
        simp [row_mk] at hpc
        simp -implicitDefEqProofs [ac62, row_mk, hli, go_sem, -List.set_cons_succ, -List.set_cons_zero]
        refine qcall_pure hpc hf rfl ?_
        rw [hp]
        by_cases hl : l = []
        · subst hl
          have h00 : inR .i64 0 := small_i64 (by omega) (by omega)
          simp -implicitDefEqProofs [h00, go_sem, -List.set_cons_succ, -List.set_cons_zero]
          simp [Tm.tx, txNode]
        · have hps : 0 < l.length := List.length_pos_iff.2 hl
          simp -implicitDefEqProofs [hli, hl, go_sem, -List.set_cons_succ, -List.set_cons_zero]
          have hwr : (Tm.mk 3 0 s l).tx = s ++ 40 :: joinS 44 (l.map Tm.tx) ++ [41] := struct_tx hp hl
          have hwl := hlen.1
          rw [hwr] at hwl
          simp at hwl
          refine loop_enter (St.le_token 7 1 rfl) ?_
          refine loop_set (σ := Nat) (fun i => [(74, .c (.d (.int .i64 i))), (7, .c (.own (.l 1) i ((l.take i).map fun u => [.str u.tx])))]) (fun _ => H) (fun i => [.cells [.d (.int .i64 3), .d (.int .i64 0), .d (.str s), .d (.sl (l.map Tm.row))], .grow i 1]) (fun i => i ≤ l.length) (fun i => l.length - i) 0 (by simp [setAll]) (Nat.zero_le _) ?_
          intro i hi2
          simp -implicitDefEqProofs [setAll, hli, go_sem, -List.set_cons_succ, -List.set_cons_zero]
          refine ⟨fun hlt => ?_, fun hge => ?_⟩
          · have hadd : inR .i64 ((i : Int) + 1) := small_i64 (by omega) (by omega)
            have hk := ht.kid (u := l[i]) (by simp)
            refine row_of hlt (row_len _) ?_
            simp -implicitDefEqProofs [row_len, take_row, pure_d, re_d, ptrsOf, go_sem, -List.set_cons_succ, -List.set_cons_zero]
            refine ⟨hf, ?_⟩
            refine call_same (hT l[i] hk.1 hk.2 _ (tab_app hH)) (by simp [Ob.re, C.re, re_d]) rfl hf ?_
            simp -implicitDefEqProofs [go_sem, -List.set_cons_succ, -List.set_cons_zero]
            have e0 := take_tx hlt
            rw [← List.map_take, e0]
            refine ⟨allLen_map fun _ => rfl, by unfold maxApp; omega, hadd, loop_less (i + 1) (St.le_cut [_] ?_ (by simp [Sl.le, A.le_refl_iff, A.le_u_iff, As.lo, A.lo, C.lo, Ref.lo, Cs.lo, Obs.lo, Ob.lo, setAll, and_true, true_and, List.length_nil, List.length_cons]) rfl ⟨⟨trivial, trivial, trivial, trivial, trivial⟩, trivial, trivial⟩) hlt (by show l.length - (i + 1) < l.length - i; omega)⟩
            simp [setAll, Sl.le, A.le_refl_iff, A.le_u_iff, As.lo, A.lo, C.lo, Ref.lo, Cs.lo, Obs.lo, Ob.lo, setAll, and_true, true_and, List.length_nil, List.length_cons]
          · obtain rfl : i = l.length := by omega
            have hjl : (joinS 44 (l.map Tm.tx)).length ≤ 6000 := by omega
            have e1 : (l.map fun u => [D.str u.tx]) = (l.map Tm.tx).map fun x => [D.str x] := by simp
            rw [List.take_of_length_le (by simp), e1]
            simp only [maxStr]
            refine ⟨by omega, ?_⟩
            refine qcall_pure (join_calls (l.map Tm.tx) 44 (by simp; omega) (by omega)) hf rfl ?_
            simp -implicitDefEqProofs [maxStr, go_sem, -List.set_cons_succ, -List.set_cons_zero]
            rw [hwr]
            refine ⟨by omega, by omega, by simp⟩
theorem valid_okx {t : Tm} (ht : t.fits) (hv : t.valid = true) : t.ok := by
  unfold Tm.valid at hv
  rw [Bool.and_eq_true] at hv
  exact ⟨ht, shape_good t 30 hv.1, by have := of_decide_eq_true hv.2; omega⟩
/-- texts without operators -/
theorem plainTm_calls {g : Nat} {o : Obj} (hTab : Tab g o) : ∀ (N : Nat) (t : Tm), t.size ≤ N → t.ok → TxF g o t := by
  intro N
  induction N with
  | zero =>
    intro t h0 _
    have := size_pos t
    omega
  | succ N ih =>
    intro t hN ht H hH
    refine acalls Tryz.func44 (by kernel_rfl) ac44_ok fun hf => ?_
    simp -implicitDefEqProofs [ac44, row_len, take_row, pure_d, re_d, hf, go_sem, -List.set_cons_succ, -List.set_cons_zero]
    refine qcall_tab (fun H' hH' => textx_ok hTab t ht (fun u hu hs => ih u (by omega) hu) H' hH') hf hH rfl ?_
    simp -implicitDefEqProofs [go_sem, -List.set_cons_succ, -List.set_cons_zero]
def txS (t : Tm) : List UInt8 := if t.valid then t.tx else []
theorem fmI_calls (t : Tm) (ht : t.fits) (H : Heap) (hp : Hp H) : ACalls Tryz.prog 23 [.agg (t.row.map .d)] H (fun r H' => H' = H ∧ r = .c (.d (.str (txS t)))) := by
  refine acalls Tryz.func23 (by kernel_rfl) ac23_ok fun hf => ?_
  obtain ⟨o, o2, g1, g2, hT, hE⟩ := id hp
  simp -implicitDefEqProofs [ac23, row_len, take_row, pure_d, re_d, hf, go_sem, -List.set_cons_succ, -List.set_cons_zero]
  refine qcall_pure (tvImpl_calls t ht) hf rfl ?_
  cases hv : t.valid with
  | true =>
    simp -implicitDefEqProofs [row_len, take_row, pure_d, re_d, hf, go_sem, -List.set_cons_succ, -List.set_cons_zero]
    refine qcall_tab (fun H' hH' => plainTm_calls hT t.size t (Nat.le_refl _) (valid_okx ht hv) H' hH') hf g1 rfl ?_
    simp -implicitDefEqProofs [txS, hv, go_sem, -List.set_cons_succ, -List.set_cons_zero]
  | false =>
    simp -implicitDefEqProofs [txS, hv, go_sem, -List.set_cons_succ, -List.set_cons_zero]
end Go.Proofs.YtgfmlifkhpjplaaGreatDoor

/-
  A text that is read is read in brackets, too: the plain law.
  Conditions: none.
-/
open Go Go.AM Go.Proofs
namespace Go.Proofs.YtgfmlifkhpjplaaGreatDoor
set_option linter.unusedVariables false
set_option linter.unusedSimpArgs false
set_option maxRecDepth 100000
def Job.sh (p : Nat) : Job → Job
  | .read i d l => .read (p + i) d l
  | .ops t i d l => .ops t (p + i) d l
  | .terms i d e o => .terms (p + i) d e o
  | .prime i d => .prime (p + i) d
section
variable {s pre post : List UInt8} {c : UInt8} (hc : c = 41 ∨ c = 93)
theorem sh_get {i : Nat} (h : i < s.length) : (pre ++ (s ++ c :: post))[pre.length + i]? = s[i]? := by
  rw [List.getElem?_append_right (by omega), Nat.add_sub_cancel_left, List.getElem?_append_left h]
theorem sh_end : (pre ++ (s ++ c :: post))[pre.length + s.length]? = some c := by
  rw [List.getElem?_append_right (by omega), Nat.add_sub_cancel_left, List.getElem?_append_right (Nat.le_refl _), Nat.sub_self]; rfl
theorem sh_drop {i : Nat} (h : i ≤ s.length) : (pre ++ (s ++ c :: post)).drop (pre.length + i) = s.drop i ++ c :: post := by
  rw [← List.drop_drop, List.drop_left, List.drop_append_of_le_length h]
theorem sgn_sh {i : Nat} (h : i < s.length) (d : UInt8) : sgn (pre ++ (s ++ c :: post)) (pre.length + i) d = sgn s i d := by
  unfold sgn; rw [sh_get h]
theorem sgn_sh_true {i : Nat} {d : UInt8} (h : sgn s i d = true) : sgn (pre ++ (s ++ c :: post)) (pre.length + i) d = true := by rw [sgn_sh (sgn_lt h)]; exact h
include hc
theorem sgn_sh_le {i : Nat} (h : i ≤ s.length) (d : UInt8) (hd : d ≠ 41 ∧ d ≠ 93) : sgn (pre ++ (s ++ c :: post)) (pre.length + i) d = sgn s i d := by
  rcases Nat.lt_or_eq_of_le h with h | rfl
  · exact sgn_sh h d
  · have h1 : sgn s s.length d = false := sgn_end (by simp)
    have h2 : sgn (pre ++ (s ++ c :: post)) (pre.length + s.length) d = false := by
      unfold sgn; rw [sh_end]
      have : c ≠ d := by rcases hc with rfl | rfl; exact fun e => hd.1 e.symm; exact fun e => hd.2 e.symm
      simpa using this
    rw [h1, h2]
theorem dig_sh {i : Nat} (h : i ≤ s.length) : digAt (pre ++ (s ++ c :: post)) (pre.length + i) = digAt s i := by
  rcases Nat.lt_or_eq_of_le h with h | rfl
  · unfold digAt; rw [sh_get h]
  · have h1 : digAt s s.length = false := dig_end (by simp)
    have h2 : digAt (pre ++ (s ++ c :: post)) (pre.length + s.length) = false := by
      unfold digAt; rw [sh_end]; rcases hc with rfl | rfl <;> decide
    rw [h1, h2]
theorem sma_sh {i : Nat} (h : i ≤ s.length) : smaAt (pre ++ (s ++ c :: post)) (pre.length + i) = smaAt s i := by
  rcases Nat.lt_or_eq_of_le h with h | rfl
  · unfold smaAt; rw [sh_get h]
  · have h1 : smaAt s s.length = false := sma_end (by simp)
    have h2 : smaAt (pre ++ (s ++ c :: post)) (pre.length + s.length) = false := by
      unfold smaAt; rw [sh_end]; rcases hc with rfl | rfl <;> decide
    rw [h1, h2]
omit hc in
theorem run_sh {p : List UInt8 → Nat → Bool} (hp : ∀ i, i ≤ s.length → p (pre ++ (s ++ c :: post)) (pre.length + i) = p s i) (hlt : ∀ i, p s i = true → i < s.length) : ∀ (n i : Nat), i ≤ s.length → runE p (pre ++ (s ++ c :: post)) n (pre.length + i) = pre.length + runE p s n i
  | 0, i, _ => rfl
  | n + 1, i, h => by
    unfold runE
    rw [hp i h]
    split
    · rename_i hq
      have := hlt i hq
      rw [show pre.length + i + 1 = pre.length + (i + 1) by omega]
      exact run_sh hp hlt n (i + 1) (by omega)
    · rfl
omit hc in
theorem cut_sh {i j : Nat} (hij : i ≤ j) (hj : j ≤ s.length) : cutS (pre ++ (s ++ c :: post)) (pre.length + i) (pre.length + j) = cutS s i j := by
  rw [cutS, cutS, List.drop_take, List.drop_take, sh_drop (by omega), show pre.length + j - (pre.length + i) = j - i by omega, List.take_append_of_le_length (by simp; omega)]
omit hc in
/-- a run that is long enough is a run -/
theorem run_more {p : List UInt8 → Nat → Bool} {s : List UInt8} (hlt : ∀ i, p s i = true → i < s.length) : ∀ (n i m : Nat), s.length ≤ n + i → n ≤ m → runE p s m i = runE p s n i
  | 0, i, m, h, _ => by
    cases m with
    | zero => rfl
    | succ m =>
      have : p s i = false := by
        cases hq : p s i with
        | false => rfl
        | true => have := hlt i hq; omega
      unfold runE
      simp [this]
  | n + 1, i, m, h, hm => by
    obtain ⟨m, rfl⟩ : ∃ k, m = k + 1 := ⟨m - 1, by omega⟩
    rw [runE, runE]
    split
    · exact run_more hlt n (i + 1) m (by omega) (by omega)
    · rfl
theorem numR_sh {i : Nat} (hi : i ≤ s.length) : numR (pre ++ (s ++ c :: post)) (pre.length + i) = (numR s i).map fun x => (x.1, pre.length + x.2) := by
  have h45 : sgn (pre ++ (s ++ c :: post)) (pre.length + i) 45 = sgn s i 45 := sgn_sh_le hc hi 45 (by decide)
  have key : ∀ a, a ≤ s.length → runE digAt (pre ++ (s ++ c :: post)) 4 (pre.length + a) = pre.length + runE digAt s 4 a ∧ cutS (pre ++ (s ++ c :: post)) (pre.length + a) (pre.length + runE digAt s 4 a) = cutS s a (runE digAt s 4 a) := fun a ha => by
    have h1 := run_sh (p := digAt) (fun i h => dig_sh hc h) (fun i h => dig_lt i h) 4 a ha (pre := pre) (post := post)
    obtain ⟨q1, _, q3⟩ := runE_le (dig_lt (s := s)) 4 a
    exact ⟨h1, cut_sh q1 (q3 ha)⟩
  unfold numR
  rw [h45]
  cases hs : sgn s i 45 with
  | true =>
    have hlt := sgn_lt hs
    obtain ⟨k1, k2⟩ := key (i + 1) (by omega)
    rw [← Nat.add_assoc] at k1 k2
    simp only [if_true, k1, k2]
    split
    · split <;> rfl
    · rfl
  | false =>
    obtain ⟨k1, k2⟩ := key i hi
    simp only [Bool.false_eq_true, if_false, k1, k2]
    split
    · split <;> rfl
    · rfl
omit hc in
theorem sign_tail : ∀ x ∈ signs, ((41 : UInt8) ∈ x → False) ∧ ((93 : UInt8) ∈ x → x = [91, 93]) := by decide
/-- signs at a place of the longer text -/
theorem sign_sh {i : Nat} {x : List UInt8} (hx : x ∈ signs) (h : x <+: s.drop i ++ c :: post) : x <+: s.drop i ∨ (x = [91, 93] ∧ s.drop i = [91]) := by
  obtain ⟨y, hy⟩ := h
  rcases Nat.lt_or_ge (s.drop i).length x.length with hl | hl
  · right
    have h1 : x.take (s.drop i).length = s.drop i := by
      have := congrArg (List.take (s.drop i).length) hy
      rw [List.take_append_of_le_length (by omega), List.take_left] at this
      exact this
    have h2 : x[(s.drop i).length]? = some c := by
      have : (x ++ y)[(s.drop i).length]? = (s.drop i ++ c :: post)[(s.drop i).length]? := by rw [hy]
      rw [List.getElem?_append_left hl, List.getElem?_append_right (Nat.le_refl _), Nat.sub_self] at this
      exact this
    have hm : c ∈ x := List.mem_of_getElem? h2
    obtain ⟨t1, t2⟩ := sign_tail x hx
    rcases hc with rfl | rfl
    · exact (t1 hm).elim
    · have hxe := t2 hm
      subst hxe
      refine ⟨rfl, ?_⟩
      have hlen : (s.drop i).length = 1 := by
        have hl2 : (s.drop i).length < 2 := hl
        rcases Nat.lt_or_ge (s.drop i).length 1 with h0 | h0
        · have h00 : (s.drop i).length = 0 := by omega
          rw [h00] at h2
          simp at h2
        · omega
      rw [hlen] at h1
      exact h1.symm
  · exact .inl ⟨(s.drop i).drop x.length, by
      have := congrArg (List.take x.length) hy
      rw [List.take_left, List.take_append_of_le_length hl] at this
      conv => rhs; rw [← List.take_append_drop x.length (s.drop i), ← this]⟩
theorem nameR_sh {i j : Nat} {n : List UInt8} (hi : i ≤ s.length) (h : nameR s i = some (n, j)) : nameR (pre ++ (s ++ c :: post)) (pre.length + i) = some (n, pre.length + j) := by
  have hrun : runE smaAt (pre ++ (s ++ c :: post)) (pre ++ (s ++ c :: post)).length (pre.length + i) = pre.length + runE smaAt s s.length i := by
    rw [run_sh (p := smaAt) (fun i h => sma_sh hc h) (fun i h => sma_lt i h) _ i hi, run_more (p := smaAt) (fun i h => sma_lt i h) s.length i _ (by omega) (by simp; omega)]
  obtain ⟨q1, _, q3⟩ := runE_le (sma_lt (s := s)) s.length i
  unfold nameR at h ⊢
  rw [hrun]
  by_cases h1 : i + 6 < runE smaAt s s.length i
  · rw [if_pos h1] at h; cases h
  · rw [if_neg h1] at h
    rw [if_neg (by omega)]
    by_cases h2 : i < runE smaAt s s.length i
    · rw [if_pos h2] at h
      rw [if_pos (by omega), cut_sh q1 (q3 hi)]
      cases h; rfl
    · rw [if_neg h2] at h
      rw [if_neg (by omega)]
      by_cases h3 : bestS s i signs [] = []
      · rw [if_pos h3] at h; cases h
      · rw [if_neg h3] at h
        cases h
        obtain ⟨b1, _, b3, b4⟩ := best_max (s := s) hi signs [] ⟨s.drop i, by simp⟩
        have hmem : bestS s i signs [] ∈ signs := by rcases b4 with b4 | b4; exact absurd b4 h3; exact b4
        have hi' : pre.length + i ≤ (pre ++ (s ++ c :: post)).length := by simp; omega
        obtain ⟨d1, _, d3, d4⟩ := best_max (s := pre ++ (s ++ c :: post)) hi' signs [] ⟨_, by simp; rfl⟩
        rw [sh_drop hi] at d1 d3
        generalize bestS s i signs [] = x at h3 b1 b3 hmem
        have hxp : x <+: s.drop i ++ c :: post := b1.trans (List.prefix_append _ _)
        have hle := d3 x hmem hxp
        have hmem2 : bestS (pre ++ (s ++ c :: post)) (pre.length + i) signs [] ∈ signs := by
          rcases d4 with d4 | d4
          · rw [d4] at hle; simp only [List.length_nil] at hle
            exact absurd (List.length_eq_zero_iff.1 (by omega)) h3
          · exact d4
        generalize bestS (pre ++ (s ++ c :: post)) (pre.length + i) signs [] = z at d1 d3 hle hmem2
        have hzx : z = x := by
          rcases sign_sh hc hmem2 d1 with hz | ⟨rfl, hz⟩
          · have := b3 z hmem2 hz
            obtain ⟨y1, hy1⟩ := hz
            obtain ⟨y2, hy2⟩ := b1
            have e1 : (s.drop i).take x.length = x := by rw [← hy2, List.take_left]
            have e2 : (s.drop i).take z.length = z := by rw [← hy1, List.take_left]
            rw [← e1, ← e2, show z.length = x.length by omega]
          · exfalso
            rw [hz] at b1
            have : ∀ x ∈ signs, ¬ x <+: ([91] : List UInt8) := by decide
            exact this x hmem b1
        rw [hzx, if_neg h3]
        congr 2; omega
theorem nameR_sh_none {i : Nat} (hi : i ≤ s.length) (h : nameR s i = none) : nameR (pre ++ (s ++ c :: post)) (pre.length + i) = none ∨ ∃ j, nameR (pre ++ (s ++ c :: post)) (pre.length + i) = some ([91, 93], j) := by
  have hrun : runE smaAt (pre ++ (s ++ c :: post)) (pre ++ (s ++ c :: post)).length (pre.length + i) = pre.length + runE smaAt s s.length i := by
    rw [run_sh (p := smaAt) (fun i h => sma_sh hc h) (fun i h => sma_lt i h) _ i hi, run_more (p := smaAt) (fun i h => sma_lt i h) s.length i _ (by omega) (by simp; omega)]
  unfold nameR at h ⊢
  rw [hrun]
  by_cases h1 : i + 6 < runE smaAt s s.length i
  · rw [if_pos (by omega)]; exact .inl rfl
  · rw [if_neg h1] at h
    rw [if_neg (by omega)]
    by_cases h2 : i < runE smaAt s s.length i
    · rw [if_pos h2] at h; cases h
    · rw [if_neg h2] at h
      rw [if_neg (by omega)]
      by_cases h3 : bestS s i signs [] = []
      · obtain ⟨b1, _, b3, b4⟩ := best_max (s := s) hi signs [] ⟨s.drop i, by simp⟩
        have hi' : pre.length + i ≤ (pre ++ (s ++ c :: post)).length := by simp; omega
        obtain ⟨d1, _, d3, d4⟩ := best_max (s := pre ++ (s ++ c :: post)) hi' signs [] ⟨_, by simp; rfl⟩
        rw [sh_drop hi] at d1
        generalize bestS (pre ++ (s ++ c :: post)) (pre.length + i) signs [] = z at d1 d4
        by_cases hz0 : z = []
        · rw [if_pos hz0]; exact .inl rfl
        · rw [if_neg hz0]
          rcases d4 with d4 | d4
          · exact absurd d4 hz0
          · rcases sign_sh hc d4 d1 with hz | ⟨rfl, _⟩
            · have := b3 z d4 hz
              rw [h3] at this
              simp only [List.length_nil] at this
              exact absurd (List.length_eq_zero_iff.1 (by omega)) hz0
            · exact .inr ⟨_, rfl⟩
      · rw [if_neg h3] at h; cases h
theorem opR_sh {i : Nat} (hi : i ≤ s.length) : opR (pre ++ (s ++ c :: post)) (pre.length + i) = (opR s i).map fun x => (x.1, pre.length + x.2) := by
  have h32 : sgn (pre ++ (s ++ c :: post)) (pre.length + i) 32 = sgn s i 32 := sgn_sh_le hc hi 32 (by decide)
  unfold opR
  rw [h32]
  have hp : (if sgn s i 32 = true then pre.length + i + 1 else pre.length + i) = pre.length + (if sgn s i 32 = true then i + 1 else i) := by split <;> omega
  rw [hp]
  have hpl : (if sgn s i 32 = true then i + 1 else i) ≤ s.length := by
    split
    · rename_i h; have := sgn_lt h; omega
    · exact hi
  generalize (if sgn s i 32 = true then i + 1 else i) = p at hpl
  have hlen : (pre ++ (s ++ c :: post)).length = pre.length + (s.length + (post.length + 1)) := by simp
  rw [if_neg (show ¬ (pre ++ (s ++ c :: post)).length ≤ pre.length + p by omega)]
  by_cases hend : s.length ≤ p
  · rw [if_pos hend]
    have hpe : p = s.length := by omega
    subst hpe
    have hn : nameR s s.length = none := nameR_none (Nat.le_refl _) (fun c r' e => by simp at e) (fun x hx hxp => by
      rw [List.drop_length] at hxp
      have : ∀ x ∈ signs, x ≠ [] := by decide
      exact this x hx (List.prefix_nil.1 hxp))
    rcases nameR_sh_none hc hpl hn (pre := pre) (post := post) with h | ⟨j, h⟩
    · rw [h]; rfl
    · rw [h]; rfl
  · rw [if_neg hend]
    cases hn : nameR s p with
    | none =>
      rcases nameR_sh_none hc hpl hn (pre := pre) (post := post) with h | ⟨j, h⟩
      · rw [h]; rfl
      · rw [h]; rfl
    | some q =>
      obtain ⟨n, j⟩ := q
      have hj := nameR_ok hpl hn
      rw [nameR_sh hc hpl hn]
      simp only
      rw [sgn_sh_le hc hj.2.1 32 (by decide)]
      split
      · rfl
      · split
        · rfl
        · split <;> simp <;> omega
theorem step_sh (hs : s.length ≤ 1000000) {f : Nat} (ih : ∀ (j : Job) (ts : List Tm) (k : Nat), rd s f j = some (.ok ts k) → j.pre s → rd (pre ++ (s ++ c :: post)) f (j.sh pre.length) = some (.ok ts (pre.length + k))) (j : Job) (ts : List Tm) (k : Nat) (h : step s (rd s f) j = some (.ok ts k)) (hj : j.pre s) :
    step (pre ++ (s ++ c :: post)) (rd (pre ++ (s ++ c :: post)) f) (j.sh pre.length) = some (.ok ts (pre.length + k)) := by
  cases j with
  | read i d l =>
    obtain ⟨hi, hl⟩ := hj
    cases l with
    | zero => exact ih (.prime i d) ts k h hi
    | succ l =>
      simp only [step] at h
      cases hx : rd s f (.read i d l) with
      | none => rw [hx] at h; cases h
      | some v =>
        rw [hx] at h
        cases v with
        | bad e => cases h
        | ok us m =>
          simp only at h
          have p1 := rd_post hs (j := .read i d l) ⟨hi, by omega⟩ hx
          obtain ⟨g1, g2, t, rfl, g3⟩ := p1
          have h1 := ih (.read i d l) _ _ hx ⟨hi, by omega⟩
          have h2 := ih (.ops t m d (l + 1)) _ _ h ⟨g2, g3, by omega⟩
          simp only [Job.sh, step] at h1 h2 ⊢
          rw [h1]
          exact h2
  | ops t i d l =>
    obtain ⟨hi, ht, hl⟩ := hj
    simp only [step, Job.sh] at h ⊢
    rw [opR_sh hc hi]
    cases ho : opR s i with
    | none => rw [ho] at h; cases h; rfl
    | some q =>
      obtain ⟨n, m⟩ := q
      rw [ho] at h
      obtain ⟨o1, o2, o3⟩ := opR_ok hi ho
      simp only [Option.map_some] at h ⊢
      by_cases hlv : levelN n = l
      · rw [if_pos hlv] at h ⊢
        cases hx : rd s f (.read m d (l - 1)) with
        | none => rw [hx] at h; cases h
        | some v =>
          rw [hx] at h
          cases v with
          | bad e => cases h
          | ok us k2 =>
            simp only at h
            have p1 := rd_post hs (j := .read m d (l - 1)) ⟨o2, by omega⟩ hx
            obtain ⟨g1, g2, u, rfl, g3⟩ := p1
            have h1 := ih (.read m d (l - 1)) _ _ hx ⟨o2, by omega⟩
            simp only [Job.sh] at h1
            rw [h1]
            simp only
            by_cases h3 : l = 3
            · rw [if_pos h3] at h ⊢; cases h; rfl
            · rw [if_neg h3] at h ⊢
              exact ih (.ops (.mk 3 0 n [t, Rs.tm [u]]) k2 d l) _ _ h ⟨g2, fits_st o3 (by simp) (by simp [Rs.tm, ht, g3]), hl⟩
      · rw [if_neg hlv] at h ⊢; cases h; rfl
  | terms i d e o =>
    have hi : i ≤ s.length := hj
    simp only [step, Job.sh] at h ⊢
    cases hx : rd s f (.read i d 3) with
    | none => rw [hx] at h; cases h
    | some v =>
      rw [hx] at h
      cases v with
      | bad e => cases h
      | ok us m =>
        simp only at h
        have p1 := rd_post hs (j := .read i d 3) ⟨hi, by omega⟩ hx
        obtain ⟨g1, g2, u, rfl, g3⟩ := p1
        have h1 := ih (.read i d 3) _ _ hx ⟨hi, by omega⟩
        simp only [Job.sh] at h1
        rw [h1]
        simp only
        by_cases he : (sgn s m e || sgn s m o) = true
        · have hm : m < s.length := by
            rcases (Bool.or_eq_true _ _).mp he with he | he <;> exact sgn_lt he
          rw [if_pos he] at h
          rw [sgn_sh hm, sgn_sh hm, if_pos he]
          cases h; rfl
        · rw [if_neg he] at h
          by_cases h44 : sgn s m 44 = true
          · have hm := sgn_lt h44
            rw [if_pos h44] at h
            rw [sgn_sh hm, sgn_sh hm, sgn_sh hm, if_neg he, if_pos h44]
            cases hy : rd s f (.terms (m + 1) d e o) with
            | none => rw [hy] at h; cases h
            | some w =>
              rw [hy] at h
              cases w with
              | bad e => cases h
              | ok vs k2 =>
                have h2 := ih (.terms (m + 1) d e o) _ _ hy (show m + 1 ≤ s.length by omega)
                simp only [Job.sh] at h2
                rw [← Nat.add_assoc] at h2
                rw [h2]
                cases h; rfl
          · rw [if_neg h44] at h; cases h
  | prime i d =>
    have hi : i ≤ s.length := hj
    simp only [step, Job.sh] at h ⊢
    cases hb : s[i]? with
    | none => rw [hb] at h; cases h
    | some b =>
      have hlt := (List.getElem?_eq_some_iff.1 hb).1
      rw [hb] at h
      rw [sh_get hlt, hb]
      simp only at h ⊢
      by_cases h1 : d < 1
      · rw [if_pos h1] at h; cases h
      · rw [if_neg h1] at h ⊢
        by_cases h2 : b = 40
        · rw [if_pos h2] at h ⊢
          cases hx : rd s f (.read (i + 1) d 3) with
          | none => rw [hx] at h; cases h
          | some v =>
            rw [hx] at h
            cases v with
            | bad e => cases h
            | ok us m =>
              simp only at h
              have g1 := ih (.read (i + 1) d 3) _ _ hx ⟨by omega, by omega⟩
              simp only [Job.sh] at g1
              rw [← Nat.add_assoc] at g1
              rw [g1]
              simp only
              by_cases h3 : sgn s m 41 = true
              · rw [if_pos h3] at h
                rw [sgn_sh_true h3]
                cases h; rfl
              · rw [if_neg h3] at h; cases h
        · rw [if_neg h2] at h ⊢
          by_cases h3 : b = 91 ∧ sgn s (i + 1) 93 = false
          · rw [if_pos h3] at h
            cases hx : rd s f (.terms (i + 1) (d - 1) 93 124) with
            | none => rw [hx] at h; cases h
            | some v =>
              rw [hx] at h
              cases v with
              | bad e => cases h
              | ok us m =>
                simp only at h
                have p1 := rd_post hs (j := .terms (i + 1) (d - 1) 93 124) (show i + 1 ≤ s.length by omega) hx
                obtain ⟨q1, q2, q3, q4, q5⟩ := p1
                have g1 := ih (.terms (i + 1) (d - 1) 93 124) _ _ hx (show i + 1 ≤ s.length by omega)
                simp only [Job.sh] at g1
                rw [← Nat.add_assoc] at g1
                have hm : m < s.length := by
                  rcases (Bool.or_eq_true _ _).mp q5 with he | he <;> exact sgn_lt he
                have hsg : sgn (pre ++ (s ++ c :: post)) (pre.length + i + 1) 93 = false := by
                  rw [Nat.add_assoc, sgn_sh (by omega)]; exact h3.2
                rw [if_pos ⟨h3.1, hsg⟩, g1]
                simp only
                rw [sgn_sh hm]
                by_cases h4 : sgn s m 93 = true
                · rw [if_pos h4] at h ⊢
                  cases h; rfl
                · rw [if_neg h4] at h ⊢
                  cases hy : rd s f (.read (m + 1) (d - 1) 3) with
                  | none => rw [hy] at h; cases h
                  | some w =>
                    rw [hy] at h
                    cases w with
                    | bad e => cases h
                    | ok vs k2 =>
                      simp only at h
                      have g2 := ih (.read (m + 1) (d - 1) 3) _ _ hy ⟨by omega, by omega⟩
                      simp only [Job.sh] at g2
                      rw [← Nat.add_assoc] at g2
                      rw [g2]
                      simp only
                      by_cases h5 : sgn s k2 93 = true
                      · rw [if_pos h5] at h
                        rw [sgn_sh_true h5]
                        cases h; rfl
                      · rw [if_neg h5] at h; cases h
          · rw [if_neg h3] at h
            have h3' : ¬ (b = 91 ∧ sgn (pre ++ (s ++ c :: post)) (pre.length + i + 1) 93 = false) := fun hh => by
              apply h3
              refine ⟨hh.1, ?_⟩
              cases hq : sgn s (i + 1) 93 with
              | false => rfl
              | true =>
                have := sgn_sh_true (pre := pre) (post := post) (c := c) hq
                rw [← Nat.add_assoc, hh.2] at this
                cases this
            rw [if_neg h3']
            by_cases h4 : bigB b = true
            · rw [if_pos h4] at h ⊢; cases h; rfl
            · rw [if_neg h4] at h ⊢
              have hdg := dig_sh hc (i := i + 1) (s := s) (pre := pre) (post := post) (by omega)
              rw [← Nat.add_assoc] at hdg
              rw [hdg]
              by_cases h5 : (digB b || b == 45 && digAt s (i + 1)) = true
              · rw [if_pos h5] at h ⊢
                rw [numR_sh hc hi]
                cases hn : numR s i with
                | none => rw [hn] at h; cases h
                | some q => rw [hn] at h; cases h; rfl
              · rw [if_neg h5] at h ⊢
                cases hn : nameR s i with
                | none => rw [hn] at h; cases h
                | some q =>
                  obtain ⟨n, m⟩ := q
                  have hok := nameR_ok hi hn
                  rw [hn] at h
                  rw [nameR_sh hc hi hn]
                  simp only at h ⊢
                  rw [sgn_sh_le hc hok.2.1 40 (by decide)]
                  by_cases h6 : sgn s m 40 = true
                  · rw [if_pos h6] at h ⊢
                    have hm := sgn_lt h6
                    cases hx : rd s f (.terms (m + 1) (d - 1) 41 41) with
                    | none => rw [hx] at h; cases h
                    | some v =>
                      rw [hx] at h
                      cases v with
                      | bad e => cases h
                      | ok us k2 =>
                        have g1 := ih (.terms (m + 1) (d - 1) 41 41) _ _ hx (show m + 1 ≤ s.length by omega)
                        simp only [Job.sh] at g1
                        rw [← Nat.add_assoc] at g1
                        rw [g1]
                        cases h; rfl
                  · rw [if_neg h6] at h ⊢; cases h; rfl
/-- what is read in a text is read in brackets -/
theorem rd_shift (hs : s.length ≤ 1000000) : ∀ (f : Nat) (j : Job) (ts : List Tm) (k : Nat), rd s f j = some (.ok ts k) → j.pre s → rd (pre ++ (s ++ c :: post)) f (j.sh pre.length) = some (.ok ts (pre.length + k))
  | 0, j, ts, k, h, _ => by cases h
  | f + 1, j, ts, k, h, hj => step_sh hc hs (rd_shift hs f) j ts k h hj
end
end Go.Proofs.YtgfmlifkhpjplaaGreatDoor

/-
  Brackets, arguments, elements: the plain laws.
  Conditions: none.
-/
open Go Go.AM Go.Proofs
namespace Go.Proofs.YtgfmlifkhpjplaaGreatDoor
set_option linter.unusedVariables false
set_option linter.unusedSimpArgs false
set_option maxRecDepth 100000
theorem okR_ok {s : List UInt8} {t : Tm} (h : okR s = some t) : s.length ≤ 1000 ∧ rdF s (.read 0 30 3) = some (.ok [t] s.length) ∧ t.valid = true ∧ t.fits := by
  unfold okR at h
  split at h
  · cases h
  · rename_i hl
    obtain ⟨ts, k, h1, h2, h3, h4⟩ := okT_ok h
    have h5 := read_one (s := s) (by omega) (Nat.zero_le _) (Nat.le_refl _) h1
    subst h2
    rw [← h4] at h5
    exact ⟨by omega, by rw [h1, h5.1], h3, h5.2.2.2⟩
theorem read_in {s : List UInt8} {pre post : List UInt8} {c : UInt8} (hc : c = 41 ∨ c = 93) {D : Nat} {t : Tm} (hs : s.length ≤ 1000) (h : rdF s (.read 0 D 3) = some (.ok [t] s.length)) : rdF (pre ++ (s ++ c :: post)) (.read pre.length D 3) = some (.ok [t] (pre.length + s.length)) := by
  have h1 := rd_shift hc (pre := pre) (post := post) (by omega) _ _ _ _ h ⟨Nat.zero_le _, Nat.le_refl _⟩
  refine rd_le _ ?_ _ _ h1
  simp
  omega
/-- a term in brackets is the term -/
theorem bracket {s : List UInt8} {t : Tm} (h : okR s = some t) (hl : s.length ≤ 900) : okR (40 :: (s ++ [41])) = some t := by
  obtain ⟨h1, h2, h3, h4⟩ := okR_ok h
  have e : 40 :: (s ++ [41]) = [40] ++ (s ++ 41 :: []) := rfl
  have hr := read_in (.inl rfl) (pre := [40]) (post := []) h1 h2
  rw [← e] at hr
  have hlen : (40 :: (s ++ [41])).length = s.length + 2 := by simp
  have hp := prime_brk (s := 40 :: (s ++ [41])) (by omega) (t := t) (i := 0) (D := 30) (w := s) (r := []) (by omega) (by simp) (by omega) (by simpa [Nat.add_comm] using hr)
  have hrd := prime_read (s := 40 :: (s ++ [41])) (by omega) (l := 3) (by omega) (Nat.le_refl _) hp
  have hcl := cont_loop (s := 40 :: (s ++ [41])) (by omega) (t := t) (D := 30) (m := 0) (l := 3) (i := s.length + 2) (by omega) h4 (by omega) (by omega)
  rw [opR_end (by omega) (.inl (by rw [← hlen]; simp))] at hcl
  have e2 : 0 + (40 :: s ++ [41] : List UInt8).length = s.length + 2 := by simp
  rw [e2, hcl] at hrd
  unfold okR
  rw [if_neg (by omega)]
  unfold okT
  rw [hrd]
  simp [Rs.tm, h3]
end Go.Proofs.YtgfmlifkhpjplaaGreatDoor

/-
  TermSame of the program.
  Conditions: none.
-/
open Go Go.AM Go.Proofs
namespace Go.Proofs.YtgfmlifkhpjplaaGreatDoor
open Go.ChangeShapes Go.WideShapes Go.ChangeAt Go.RowKit
set_option linter.unusedVariables false
set_option linter.unusedSimpArgs false
set_option maxRecDepth 100000
-- 18 loop.example/prologserver/impl.TermSame params 2 ntmps 31
def ac18 : Cd := .seq (.region [⟨(some 2),.box (.t 0),none⟩,
 ⟨(some 3),.box (.t 1),none⟩,
 ⟨(some 4),.mv (.k (.c (.d (.bool false)))),none⟩] [0,1,4])
 (.seq (.region [⟨(some 5),.fieldAddr 0 (.t 2),none⟩,
 ⟨(some 6),.load none (.t 5),none⟩,
 ⟨(some 7),.fieldAddr 0 (.t 3),none⟩,
 ⟨(some 8),.load none (.t 7),none⟩,
 ⟨(some 9),.bin .eql (.t 6) (.t 8),none⟩,
 ⟨(some 10),.mv (.t 9),none⟩,
 ⟨(some 11),.fieldAddr 1 (.t 2),some (10,true)⟩,
 ⟨(some 12),.load none (.t 11),some (10,true)⟩,
 ⟨(some 13),.fieldAddr 1 (.t 3),some (10,true)⟩,
 ⟨(some 14),.load none (.t 13),some (10,true)⟩,
 ⟨(some 15),.bin .eql (.t 12) (.t 14),some (10,true)⟩,
 ⟨(some 16),.pick (.t 10) (.t 15) (.k (.c (.d (.bool false)))),none⟩,
 ⟨(some 17),.mv (.t 16),none⟩,
 ⟨(some 18),.fieldAddr 2 (.t 2),some (17,true)⟩,
 ⟨(some 19),.load none (.t 18),some (17,true)⟩,
 ⟨(some 20),.fieldAddr 2 (.t 3),some (17,true)⟩,
 ⟨(some 21),.load none (.t 20),some (17,true)⟩,
 ⟨(some 22),.bin .eql (.t 19) (.t 21),some (17,true)⟩,
 ⟨(some 23),.pick (.t 17) (.t 22) (.k (.c (.d (.bool false)))),none⟩,
 ⟨(some 24),.mv (.t 23),none⟩,
 ⟨(some 25),.fieldAddr 3 (.t 2),some (24,true)⟩,
 ⟨(some 26),.load none (.t 25),some (24,true)⟩,
 ⟨(some 27),.fieldAddr 3 (.t 3),some (24,true)⟩,
 ⟨(some 28),.load none (.t 27),some (24,true)⟩,
 ⟨(some 29),.qcall 41 [(.t 26),(.t 28),(.k (.c (.fn 18 [])))],some (24,true)⟩,
 ⟨(some 30),.pick (.t 24) (.t 29) (.k (.c (.d (.bool false)))),none⟩,
 ⟨(some 4),.mv (.t 30),none⟩] [2,3,5,6,7,8,9,10,11,12,13,14,15,16,17,18,19,20,21,22,23,24,25,26,27,28,29,30])
 (.ret))
theorem ac18_ok : cFunc Tryz.prog [1000041] [(0,[0,1,4],[]),(1,[2,3,5,6,7,8,9,10,11,12,13,14,15,16,17,18,19,20,21,22,23,24,25,26,27,28,29,30],[])] Tryz.f18 = some (ac18,[.tmp 4],31) := by kernel_rfl
-- 41 slices.EqualFunc[[]loop.example/prologserver/impl.Term,[]loop.example/prologserver/impl.Term,loop.example/prologserver/impl.Term,loop.example/prologserver/impl.Term] params 3 ntmps 32
-- loop head live: [1,2,15,16,17]
def ac41 : Cd := .seq (.region [⟨(some 6),.mv (.k (.c (.d (.bool false)))),none⟩] [6])
 (.seq (.seq (.region [⟨(some 10),.mv (.t 0),none⟩,
 ⟨(some 11),.len 1 (.t 10),none⟩,
 ⟨(some 12),.mv (.t 1),none⟩,
 ⟨(some 13),.len 1 (.t 12),none⟩,
 ⟨(some 14),.bin .neq (.t 11) (.t 13),none⟩] [10,11,12,13])
 (.cond (.t 14)
 (.seq (.region [⟨(some 6),.mv (.k (.c (.d (.bool false)))),none⟩] [0,1,2,14])
 (.ret))
 (.skip)))
 (.seq (.seq (.region [⟨(some 15),.mv (.t 0),none⟩,
 ⟨(some 16),.len 1 (.t 15),none⟩,
 ⟨(some 17),.mv (.k (.c (.d (.int .i64 0)))),none⟩] [0,6,14])
 (.block 0 (.loop (.seq (.region [⟨(some 18),.bin .lss (.t 17) (.t 16),none⟩] [])
 (.seq (.cond (.t 18)
 (.skip)
 (.exit 0))
 (.seq (.block 1 (.seq (.region [⟨(some 19),.mv (.t 17),none⟩,
 ⟨(some 20),.indexAddr 4 (.t 15) (.t 17),none⟩,
 ⟨(some 21),.load (some 4) (.t 20),none⟩,
 ⟨(some 8),.alloc [(.d (.int .i64 0)),(.d (.int .i64 0)),(.d (.str [])),(.full [])],none⟩,
 ⟨(some 7),.mv (.t 19),none⟩,
 ⟨none,.store 4 (.t 8) (.t 21),none⟩] [18,19,20,21])
 (.seq (.region [⟨(some 22),.mv (.t 1),none⟩,
 ⟨(some 23),.mv (.t 7),none⟩,
 ⟨(some 24),.indexAddr 4 (.t 22) (.t 23),none⟩,
 ⟨(some 25),.load (some 4) (.t 24),none⟩,
 ⟨(some 9),.alloc [(.d (.int .i64 0)),(.d (.int .i64 0)),(.d (.str [])),(.full [])],none⟩,
 ⟨none,.store 4 (.t 9) (.t 25),none⟩] [7,22,23,24,25])
 (.seq (.region [⟨(some 26),.mv (.t 2),none⟩,
 ⟨(some 27),.load (some 4) (.t 8),none⟩,
 ⟨(some 28),.load (some 4) (.t 9),none⟩,
 ⟨(some 29),.callv (.t 26) [(.t 27),(.t 28)],none⟩,
 ⟨(some 30),.un .not (.t 29),none⟩] [8,9,26,27,28,29])
 (.cond (.t 30)
 (.seq (.region [⟨(some 6),.mv (.k (.c (.d (.bool false)))),none⟩] [1,2,15,16,17,30])
 (.ret))
 (.skip))))))
 (.region [⟨(some 31),.bin .add (.t 17) (.k (.c (.d (.int .i64 1)))),none⟩,
 ⟨(some 17),.mv (.t 31),none⟩] [6,30,31])))))))
 (.seq (.region [⟨(some 6),.mv (.k (.c (.d (.bool true)))),none⟩] [])
 (.ret))))
theorem ac41_ok : cFunc Tryz.prog [] [(0,[6],[]),(1,[10,11,12,13],[]),(2,[0,1,2,14],[]),(3,[0,6,14],[]),(4,[],[]),(5,[18,19,20,21],[]),(6,[7,22,23,24,25],[]),(7,[8,9,26,27,28,29],[]),(8,[1,2,15,16,17,30],[]),(9,[6,30,31],[]),(10,[],[])] Tryz.f41 = some (ac41,[.tmp 6],32) := by kernel_rfl
theorem eqFunc_of (f : FuncId) (l r : List Tm) (hl : l.length ≤ 1048576) (hr : r.length ≤ 1048576) (h : ∀ x ∈ l, ∀ y ∈ r, Same2 f x y) (H : Heap) :
    ACalls Tryz.prog 41 [.c (.d (.sl (l.map Tm.row))), .c (.d (.sl (r.map Tm.row))), .c (.fn f [])] H (fun r' H' => H' = H ∧ r' = .c (.d (.bool (decide (l = r))))) := by
  refine acalls Tryz.func41 (by kernel_rfl) ac41_ok fun hf => ?_
  have hli : inR .i64 (l.length : Int) := small_i64 (by omega) (by omega)
  have hri : inR .i64 (r.length : Int) := small_i64 (by omega) (by omega)
  simp -implicitDefEqProofs [ac41, hli, hri, go_sem, -List.set_cons_succ, -List.set_cons_zero]
  refine ⟨fun h1 e => by subst e; simp at h1, fun e4 => ?_⟩
  have e4 : l.length = r.length := by omega
  refine loop_set (σ := Nat) (fun i => [(17, .c (.d (.int .i64 i)))]) (fun _ => H) (fun _ => []) (fun i => i ≤ l.length ∧ l.take i = r.take i) (fun i => l.length - i) 0 rfl ⟨Nat.zero_le _, rfl⟩ ?_
  rintro i ⟨hi, htk⟩
  simp -implicitDefEqProofs [setAll, hli, go_sem, -List.set_cons_succ, -List.set_cons_zero]
  refine ⟨fun hlt => ?_, fun hge => by rw [List.take_of_length_le hge, List.take_of_length_le (by omega)] at htk; exact htk⟩
  have hadd : inR .i64 ((i : Int) + 1) := small_i64 (by omega) (by omega)
  refine row_of hlt (row_len _) ?_
  simp -implicitDefEqProofs [row_len, take_row, fits_map, hf, go_sem, -List.set_cons_succ, -List.set_cons_zero]
  refine row_of (by omega) (row_len _) ?_
  simp -implicitDefEqProofs [row_len, take_row, fits_map, hf, go_sem, -List.set_cons_succ, -List.set_cons_zero]
  simp -implicitDefEqProofs [pure_d, re_d, go_sem, -List.set_cons_succ, -List.set_cons_zero]
  refine call_same (h l[i] (List.getElem_mem hlt) (r[i]'(by omega)) (List.getElem_mem (by omega)) _) (by simp [Ob.re, C.re, re_d]) rfl hf ?_
  simp -implicitDefEqProofs [hadd, go_sem, -List.set_cons_succ, -List.set_cons_zero]
  refine ⟨fun hne e => ?_, fun he => ?_⟩
  · subst e; exact hne rfl
  · exact loop_less (i + 1) (St.le_cut [_, _] (by simp [setAll, Sl.le, A.le_refl_iff, A.le_u_iff, As.lo, A.lo, C.lo, Ref.lo, Cs.lo, Obs.lo, Ob.lo, setAll, and_true, true_and, List.length_nil, List.length_cons]) (by simp [Sl.le, A.le_refl_iff, A.le_u_iff, As.lo, A.lo, C.lo, Ref.lo, Cs.lo, Obs.lo, Ob.lo, setAll, and_true, true_and, List.length_nil, List.length_cons]) rfl (by simp [Sl.le, A.le_refl_iff, A.le_u_iff, As.lo, A.lo, C.lo, Ref.lo, Cs.lo, Obs.lo, Ob.lo, setAll, and_true, true_and, List.length_nil, List.length_cons])) ⟨hlt, take_snoc hlt (by omega) htk he⟩ (by show l.length - (i + 1) < l.length - i; omega)
theorem sameImpl_calls : ∀ a : Tm, a.fits → ∀ b : Tm, b.fits → Same2 18 a b := by
  refine Tm.ind fun k n s l ih hfits b hb H => ?_
  obtain ⟨k', n', s', r⟩ := b
  obtain ⟨_, _, _, hl, hkids⟩ := hfits
  obtain ⟨_, _, _, hr, hkids'⟩ := hb
  refine acalls Tryz.func18 (by kernel_rfl) ac18_ok fun hf => ?_
  simp -implicitDefEqProofs [ac18, row_mk, go_sem, -List.set_cons_succ, -List.set_cons_zero]
  refine ⟨fun e1 e2 e3 => ⟨⟨⟨e1, e2⟩, e3⟩, ?_⟩, fun h => ?_⟩
  · subst e1 e2 e3
    refine qcall_pure (eqFunc_of 18 l r hl hr fun x hx y hy => ih x hx (hkids x hx) y (hkids' y hy)) hf rfl ?_
    simp -implicitDefEqProofs [go_sem, -List.set_cons_succ, -List.set_cons_zero]
  · exact fun e1 e2 e3 => absurd e3 (h e1 e2)
end Go.Proofs.YtgfmlifkhpjplaaGreatDoor

/-
  Terms that are handed to a law.
  Conditions: none.
-/
open Go Go.AM Go.Proofs
namespace Go.Proofs.YtgfmlifkhpjplaaGreatDoor
open Go.ChangeShapes Go.WideShapes Go.ChangeAt Go.RowKit
set_option linter.unusedVariables false
set_option linter.unusedSimpArgs false
set_option maxRecDepth 100000
end Go.Proofs.YtgfmlifkhpjplaaGreatDoor
