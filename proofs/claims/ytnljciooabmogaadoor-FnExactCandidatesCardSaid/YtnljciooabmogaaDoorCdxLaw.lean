/-
  The card FnExactCandidates holds: impl.Candidates answers as spec.Candidates does, with memory of its own.
  Conditions: none.
-/
import Derived.Test.YtnljciooabmogaaDoorBundB
import Derived.Test.YtnljciooabmogaaDoorBundA
import Derived.Test.YtnljciooabmogaaDoorCards
import Derived.Test.YtnljciooabmogaaDoorTie
import Derived.ProofKit
import Derived.OpenShut
import Derived.Stop.Joined
import Derived.SevenTiedAt
open Go Go.AM Go.Proofs
attribute [local go_sem] kw ew sw tw a_ b_ c_ A.ok A.val d_ e_ f_ g_ h_ i_ j_ k_ l_ m_ unA unD n_ AOp.total o_ p_ q_ r_ s_ t_ u_ v_ A.thaw C.thaw A.fits As.fits C.fits evs oks w_ A.pure C.pure A.re C.re x_ y_ cut A.cells C.rows? z_ A_ B_ C_ a0_ b0_ D_ Ob.re Cs.fits E_ F_ G_ H_ I_ J_ K_ L_ M_ N_ O_ C.toD P_ Q_ R_ S_ T_ Obs.fits U_ eqD V_ W_ X_ Y_ Z_
open Go Go.AM Go.Proofs
namespace Go.Proofs.YtnljciooabmogaaDoor
open Go.ChangeShapes Go.WideShapes Go.ChangeAt Go.WideElems Go.RowKit
set_option linter.unusedVariables false
set_option linter.unusedSimpArgs false
set_option maxRecDepth 100000
-- 3 loop.example/prologserver/laws.FnExactCandidates params 2 ntmps 92
def ac3 : Cd := .seq (.region [⟨(some 3),.box (.t 1),none⟩,
 ⟨(some 4),.mv (.k (.c (.d (.bool false)))),none⟩] [1,4])
 (.seq (.region [⟨(some 5),.mv (.k (.c (.d (.int .i64 1048576)))),none⟩] [])
 (.seq (.region [⟨(some 14),.mv (.t 0),none⟩,
 ⟨(some 15),.mv (.t 5),none⟩,
 ⟨(some 16),.call false 5 [(.t 14),(.t 15)],none⟩,
 ⟨(some 5),.mv (.t 16),none⟩] [14,15,16])
 (.seq (.seq (.region [⟨(some 17),.mv (.t 5),none⟩,
 ⟨(some 18),.bin .lss (.t 17) (.k (.c (.d (.int .i64 0)))),none⟩] [17])
 (.cond (.t 18)
 (.seq (.region [⟨(some 4),.mv (.k (.c (.d (.bool true)))),none⟩] [0,3,5,18])
 (.ret))
 (.skip)))
 (.seq (.region [⟨(some 19),.load (some 4) (.t 3),none⟩,
 ⟨(some 20),.mv (.t 5),none⟩,
 ⟨(some 21),.call false 6 [(.t 19),(.t 20)],none⟩,
 ⟨(some 5),.mv (.t 21),none⟩] [4,18,19,20,21])
 (.seq (.seq (.region [⟨(some 22),.mv (.t 5),none⟩,
 ⟨(some 23),.bin .lss (.t 22) (.k (.c (.d (.int .i64 0)))),none⟩] [5,22])
 (.cond (.t 23)
 (.seq (.region [⟨(some 4),.mv (.k (.c (.d (.bool true)))),none⟩] [0,3,23])
 (.ret))
 (.skip)))
 (.seq (.region [⟨(some 24),.mv (.t 0),none⟩,
 ⟨(some 25),.qcall 8 [(.t 24)],none⟩,
 ⟨(some 26),.load (some 4) (.t 3),none⟩,
 ⟨(some 27),.qcall 9 [(.t 26)],none⟩,
 ⟨(some 28),.qcall 7 [(.t 25),(.t 27)],none⟩,
 ⟨(some 6),.mv (.t 28),none⟩] [4,23,24,25,26,27,28])
 (.seq (.region [⟨(some 29),.mv (.t 0),none⟩,
 ⟨(some 30),.call false 8 [(.t 29)],none⟩,
 ⟨(some 7),.mv (.t 30),none⟩] [29,30])
 (.seq (.region [⟨(some 31),.load (some 4) (.t 3),none⟩,
 ⟨(some 32),.call false 9 [(.t 31)],none⟩,
 ⟨(some 8),.alloc [(.d (.int .i64 0)),(.d (.int .i64 0)),(.d (.str [])),(.full [])],none⟩,
 ⟨none,.store 4 (.t 8) (.t 32),none⟩] [31,32])
 (.seq (.region [⟨(some 33),.mv (.t 7),none⟩,
 ⟨(some 34),.load (some 4) (.t 8),none⟩,
 ⟨(some 35),.call false 10 [(.t 33),(.t 34)],none⟩,
 ⟨(some 9),.mv (.t 35),none⟩] [33,34,35])
 (.seq (.seq (.region [⟨(some 36),.mv (.t 9),none⟩,
 ⟨(some 37),.mv (.t 6),none⟩,
 ⟨(some 38),.qcall 11 [(.t 36),(.t 37)],none⟩,
 ⟨(some 39),.un .not (.t 38),none⟩] [36,37,38])
 (.cond (.t 39)
 (.seq (.region [⟨(some 4),.mv (.k (.c (.d (.bool false)))),none⟩] [0,3,6,7,8,9,39])
 (.ret))
 (.skip)))
 (.seq (.seq (.region [⟨(some 40),.mv (.t 7),none⟩,
 ⟨(some 41),.mv (.t 0),none⟩,
 ⟨(some 42),.qcall 8 [(.t 41)],none⟩,
 ⟨(some 43),.qcall 12 [(.t 40),(.t 42)],none⟩,
 ⟨(some 44),.un .not (.t 43),none⟩] [4,39,40,41,42,43])
 (.cond (.t 44)
 (.seq (.region [⟨(some 4),.mv (.k (.c (.d (.bool false)))),none⟩] [0,3,6,7,8,9,44])
 (.ret))
 (.skip)))
 (.seq (.seq (.region [⟨(some 45),.load (some 4) (.t 8),none⟩,
 ⟨(some 46),.load (some 4) (.t 3),none⟩,
 ⟨(some 47),.qcall 9 [(.t 46)],none⟩,
 ⟨(some 48),.qcall 13 [(.t 45),(.t 47)],none⟩,
 ⟨(some 49),.un .not (.t 48),none⟩] [4,44,45,46,47,48])
 (.cond (.t 49)
 (.seq (.region [⟨(some 4),.mv (.k (.c (.d (.bool false)))),none⟩] [0,3,6,7,8,9,49])
 (.ret))
 (.skip)))
 (.seq (.region [⟨(some 10),.mv (.k (.c (.d (.int .i64 1)))),none⟩] [4,49])
 (.seq (.region [⟨(some 50),.mv (.t 7),none⟩,
 ⟨(some 51),.mv (.t 10),none⟩,
 ⟨(some 52),.call false 14 [(.t 50),(.t 51)],none⟩,
 ⟨(some 10),.mv (.t 52),none⟩] [7,50,51,52])
 (.seq (.region [⟨(some 53),.load (some 4) (.t 8),none⟩,
 ⟨(some 54),.mv (.t 10),none⟩,
 ⟨(some 55),.call false 15 [(.t 53),(.t 54)],none⟩,
 ⟨(some 10),.mv (.t 55),none⟩] [8,53,54,55])
 (.seq (.seq (.region [⟨(some 56),.mv (.t 10),none⟩,
 ⟨(some 57),.bin .lss (.t 56) (.k (.c (.d (.int .i64 0)))),none⟩,
 ⟨(some 58),.mv (.t 57),none⟩,
 ⟨(some 59),.mv (.t 9),some (58,false)⟩,
 ⟨(some 60),.mv (.t 6),some (58,false)⟩,
 ⟨(some 61),.qcall 11 [(.t 59),(.t 60)],some (58,false)⟩,
 ⟨(some 62),.un .not (.t 61),some (58,false)⟩,
 ⟨(some 63),.pick (.t 58) (.k (.c (.d (.bool true)))) (.t 62),none⟩] [10,56,57,58,59,60,61,62])
 (.cond (.t 63)
 (.seq (.region [⟨(some 4),.mv (.k (.c (.d (.bool false)))),none⟩] [0,3,6,9,63])
 (.ret))
 (.skip)))
 (.seq (.region [⟨(some 11),.mv (.k (.c (.d (.int .i64 1)))),none⟩] [4,63])
 (.seq (.region [⟨(some 64),.mv (.t 9),none⟩,
 ⟨(some 65),.mv (.t 11),none⟩,
 ⟨(some 66),.call false 16 [(.t 64),(.t 65)],none⟩,
 ⟨(some 11),.mv (.t 66),none⟩] [64,65,66])
 (.seq (.region [⟨(some 12),.mv (.k (.c (.d (.int .i64 1)))),none⟩] [])
 (.seq (.region [⟨(some 67),.mv (.t 9),none⟩,
 ⟨(some 68),.mv (.t 12),none⟩,
 ⟨(some 69),.qcall 17 [(.t 67),(.t 68)],none⟩,
 ⟨(some 12),.mv (.t 69),none⟩] [67,68,69])
 (.seq (.seq (.region [⟨(some 70),.mv (.t 12),none⟩,
 ⟨(some 71),.bin .lss (.t 70) (.k (.c (.d (.int .i64 0)))),none⟩] [70])
 (.cond (.t 71)
 (.seq (.region [⟨(some 4),.mv (.k (.c (.d (.bool false)))),none⟩] [0,3,6,9,11,12,71])
 (.ret))
 (.skip)))
 (.seq (.seq (.region [⟨(some 72),.mv (.t 12),none⟩,
 ⟨(some 73),.mv (.t 11),none⟩,
 ⟨(some 74),.bin .neq (.t 72) (.t 73),none⟩] [4,12,71,72,73])
 (.cond (.t 74)
 (.seq (.region [⟨(some 4),.mv (.k (.c (.d (.bool false)))),none⟩] [0,3,6,9,11,74])
 (.ret))
 (.skip)))
 (.seq (.region [⟨(some 75),.mv (.t 0),none⟩,
 ⟨(some 76),.qcall 8 [(.t 75)],none⟩,
 ⟨(some 77),.load (some 4) (.t 3),none⟩,
 ⟨(some 78),.qcall 9 [(.t 77)],none⟩,
 ⟨(some 79),.qcall 10 [(.t 76),(.t 78)],none⟩,
 ⟨(some 13),.mv (.t 79),none⟩] [0,3,4,74,75,76,77,78,79])
 (.seq (.seq (.region [⟨(some 80),.mv (.t 13),none⟩,
 ⟨(some 81),.mv (.t 6),none⟩,
 ⟨(some 82),.qcall 11 [(.t 80),(.t 81)],none⟩,
 ⟨(some 83),.un .not (.t 82),none⟩] [6,13,80,81,82])
 (.cond (.t 83)
 (.seq (.region [⟨(some 4),.mv (.k (.c (.d (.bool false)))),none⟩] [9,11,83])
 (.ret))
 (.skip)))
 (.seq (.region [⟨(some 12),.mv (.k (.c (.d (.int .i64 1)))),none⟩] [4,83])
 (.seq (.region [⟨(some 84),.mv (.t 9),none⟩,
 ⟨(some 85),.mv (.t 12),none⟩,
 ⟨(some 86),.qcall 17 [(.t 84),(.t 85)],none⟩,
 ⟨(some 12),.mv (.t 86),none⟩] [9,84,85,86])
 (.seq (.seq (.region [⟨(some 87),.mv (.t 12),none⟩,
 ⟨(some 88),.bin .lss (.t 87) (.k (.c (.d (.int .i64 0)))),none⟩] [87])
 (.cond (.t 88)
 (.seq (.region [⟨(some 4),.mv (.k (.c (.d (.bool false)))),none⟩] [11,12,88])
 (.ret))
 (.skip)))
 (.seq (.seq (.region [⟨(some 89),.mv (.t 12),none⟩,
 ⟨(some 90),.mv (.t 11),none⟩,
 ⟨(some 91),.bin .neq (.t 89) (.t 90),none⟩] [4,11,12,88,89,90])
 (.cond (.t 91)
 (.seq (.region [⟨(some 4),.mv (.k (.c (.d (.bool false)))),none⟩] [91])
 (.ret))
 (.skip)))
 (.seq (.region [⟨(some 4),.mv (.k (.c (.d (.bool true)))),none⟩] [91])
 (.ret))))))))))))))))))))))))))))))
theorem ac3_ok : cFunc Tryd.prog [1000007,1000008,1000009,1000010,1000011,1000012,1000013,1000017,7000029,7000031,7000033] [(0,[1,4],[]),(1,[],[]),(2,[14,15,16],[]),(3,[17],[]),(4,[0,3,5,18],[]),(5,[4,18,19,20,21],[]),(6,[5,22],[]),(7,[0,3,23],[]),(8,[4,23,24,25,26,27,28],[0,1,2,3,4,5]),(9,[29,30],[]),(10,[31,32],[]),(11,[33,34,35],[]),(12,[36,37,38],[]),(13,[0,3,6,7,8,9,39],[]),(14,[4,39,40,41,42,43],[]),(15,[0,3,6,7,8,9,44],[]),(16,[4,44,45,46,47,48],[0,1,2,3,4]),(17,[0,3,6,7,8,9,49],[]),(18,[4,49],[]),(19,[7,50,51,52],[]),(20,[8,53,54,55],[]),(21,[10,56,57,58,59,60,61,62],[]),(22,[0,3,6,9,63],[]),(23,[4,63],[]),(24,[64,65,66],[]),(25,[],[]),(26,[67,68,69],[]),(27,[70],[]),(28,[0,3,6,9,11,12,71],[]),(29,[4,12,71,72,73],[]),(30,[0,3,6,9,11,74],[]),(31,[0,3,4,74,75,76,77,78,79],[0,1,2,3,4,5]),(32,[6,13,80,81,82],[]),(33,[9,11,83],[]),(34,[4,83],[]),(35,[9,84,85,86],[]),(36,[87],[]),(37,[11,12,88],[]),(38,[4,11,12,88,89,90],[]),(39,[91],[]),(40,[91],[])] Tryd.f3 = some (ac3,[.tmp 4],92) := by kernel_rfl
theorem candB_len (p : List Cl) (t : Tm) : (candB p t).length ≤ p.length := by
  have h1 := (forB_ok p t).1
  have h2 := keepI_len (strikeK p t.key) (forB p t)
  have : candB p t = keepI (strikeK p t.key) (forB p t) := rfl
  rw [this]; omega
theorem fz_tmJ {H : Heap} {J : List Nat} {i : Nat} {v : Value} {t : Tm} (h : H[i]? = some (.tree v (t.kids.map Tm.row))) (hi : i ∉ J) : FzA H J (.agg [.d (.int .i64 t.k), .d (.int .i64 t.n), .d (.str t.s), .d (.v v)]) (.agg (t.row.map .d)) := by
  rw [row_eq]
  exact .agg (.cons .d (.cons .d (.cons .d (.cons (.tree h hi) .nil))))
theorem cdxLaw_calls {g : Nat} {o : Obj} (hT : Tab g o) (p : List Cl) (hl : p.length ≤ reachBytes) (hfine : ∀ c ∈ p, c.fine) (t : Tm) (htf : t.fine) :
    ACalls Tryd.prog 3 [.c (.d (.sl (p.map Cl.row))), .agg (t.row.map .d)] [.tab g o] (fun r H' => H' = [.tab g o] ∧ r = .c (.d (.bool true))) := by
  refine acalls Tryd.func3 (by kernel_rfl) ac3_ok fun hf => ?_
  have hfb : Ob.fits 1 0 (.tab g o) := trivial
  simp -implicitDefEqProofs [ac3, row_len, take_row, pure_d, re_d, go_sem, -List.set_cons_succ, -List.set_cons_zero]
  refine call_some (szwClauseS_calls p hl hfine 1048576 (by omega) (by omega) _) (by simp [Ob.re, C.re, re_d]) (fun r => LeftW.re) hf ?_
  rintro _ ⟨k1, rfl, _, hk1, hk⟩
  simp -implicitDefEqProofs [row_len, take_row, pure_d, re_d, go_sem, -List.set_cons_succ, -List.set_cons_zero]
  intro h0
  have hw1 := (hk h0).2
  have hfit : FitsC p := (hk h0).1
  refine call_some (szwTerm_calls t htf k1 (by omega) (by omega) _) (by simp [Ob.re, C.re, re_d]) (fun r => LeftW.re) hf ?_
  rintro _ ⟨k2, rfl, _, _, hk'⟩
  simp -implicitDefEqProofs [row_len, take_row, pure_d, re_d, go_sem, -List.set_cons_succ, -List.set_cons_zero]
  intro h2
  have hw2 := (hk' h2).2
  have ht : t.fits := (hk' h2).1
  have hsw := wsum_le csub_wt p
  have hst := sub_wt t
  have hul := candB_len p t
  have hpl := hfit.1
  have cs := candS_calls p hfit t ht
  have ci := candOwn_calls hT p hfit t ht
  have ci2 := candI_calls hT p hfit t ht
  generalize candB p t = u at hul cs ci ci2
  have ctt := toTerm_calls t ht
  have cto := toO_calls t ht
  have ctc := toClauseS_calls p hfit
  have ctco := toClauseSOwn_calls p hfit
  have cet := eqTerm_calls t ht []
  simp only [decide_true] at cet
  have cec := eqClauseS_calls p hfit []
  have ceu := eqIntS_calls u (by omega) []
  have ceu' := eqIntS_calls u (by omega)
  have zu : ∀ {H : Heap} {v : Value} {i : Nat}, H[i]? = some (.tree v (intRows u)) → FzL H [] [.c (.d (.v v)), .c (.d (.sl (intRows u)))] [.c (.d (.sl (intRows u))), .c (.d (.sl (intRows u)))] := fun h =>
    .cons (.c (.tree h (by simp))) (.cons (.c .d) .nil)
  have hp1 : ¬ (1 + 3 * (wsum Cl.sub p : Int) + 3 * (t.sub : Int) < 0) := by omega
  have hp2 : ¬ (1 + (u.length : Int) < 0) := by omega
  refine qcall_pure ctc hf rfl ?_
  simp -implicitDefEqProofs [putAll, hp1, hp2, row_len, take_row, pure_d, re_d, go_sem, -List.set_cons_succ, -List.set_cons_zero]
  refine qcall_pure ctt hf (by simp [A.re, re_d]) ?_
  simp -implicitDefEqProofs [putAll, hp1, hp2, row_len, take_row, pure_d, re_d, go_sem, -List.set_cons_succ, -List.set_cons_zero]
  refine qcall_pure cs hf rfl ?_
  simp -implicitDefEqProofs [putAll, hp1, hp2, row_len, take_row, pure_d, re_d, go_sem, -List.set_cons_succ, -List.set_cons_zero]
  refine call_locT (J := []) ctco (fun r H' h => h.handed) (by simp [Ob.re, re_d, C.re]) (.cons (.c .d) .nil) List.nodup_nil rfl rfl ?_
  rintro _ _ ⟨vp, rfl, rfl⟩ _
  simp -implicitDefEqProofs [putAll, hp1, hp2, row_len, take_row, pure_d, re_d, go_sem, -List.set_cons_succ, -List.set_cons_zero]
  refine call_locT (J := []) cto (fun r H' h => h.handed) (by simp [Ob.re, re_d, C.re]) (.cons fz_row .nil) List.nodup_nil rfl rfl ?_
  rintro _ _ ⟨vt, rfl, rfl⟩ _
  simp -implicitDefEqProofs [putAll, hp1, hp2, row_len, take_row, pure_d, re_d, go_sem, -List.set_cons_succ, -List.set_cons_zero]
  refine ⟨hfb, ?_⟩
  refine call_tabT (R := HandsRows (intRows u)) ci (fun r L h => h.handed) (by simp [Ob.re, C.re, re_d]) (.cons (.c (.tree (i := 2) rfl (by simp))) (.cons (fz_tmJ (i := 3) rfl (by simp)) .nil)) ?_
  rintro _ _ ⟨vg, rfl, rfl⟩
  simp -implicitDefEqProofs [putAll, hp1, hp2, row_len, take_row, pure_d, re_d, go_sem, -List.set_cons_succ, -List.set_cons_zero]
  refine qcall_read ceu rfl hf (zu (i := 5) rfl) ?_
  simp -implicitDefEqProofs [putAll, hp1, hp2, row_len, take_row, pure_d, re_d, go_sem, -List.set_cons_succ, -List.set_cons_zero]
  refine qcall_pure ctc hf rfl ?_
  simp -implicitDefEqProofs [putAll, hp1, hp2, row_len, take_row, pure_d, re_d, go_sem, -List.set_cons_succ, -List.set_cons_zero]
  refine qcall_read cec rfl hf (.cons (.c (.tree (i := 2) rfl (by simp))) (.cons (.c .d) .nil)) ?_
  simp -implicitDefEqProofs [putAll, hp1, hp2, row_len, take_row, pure_d, re_d, go_sem, -List.set_cons_succ, -List.set_cons_zero]
  refine qcall_pure ctt hf (by simp [A.re, re_d]) ?_
  simp -implicitDefEqProofs [putAll, hp1, hp2, row_len, take_row, pure_d, re_d, go_sem, -List.set_cons_succ, -List.set_cons_zero]
  refine qcall_read cet rfl hf (.cons (fz_tm (i := 3) rfl) (.cons fz_row .nil)) ?_
  simp -implicitDefEqProofs [putAll, hp1, hp2, row_len, take_row, pure_d, re_d, go_sem, -List.set_cons_succ, -List.set_cons_zero]
  refine call_locT (J := [1]) (markClauseS_calls p hfit 1 (by omega) (by omega) vp) (fun r H' ⟨h1, h2⟩ => by subst h1; subst h2; exact ⟨rfl, rfl⟩) (by simp [Ob.re, re_d, C.re]) (.cons (.c .d) (.cons (.c .d) .nil)) (by simp) rfl rfl ?_
  rintro _ _ ⟨rfl, rfl⟩ _
  simp -implicitDefEqProofs [putAll, hp1, hp2, row_len, take_row, pure_d, re_d, go_sem, -List.set_cons_succ, -List.set_cons_zero]
  refine call_locT (J := [2]) (markTerm_calls t ht (1 + 3 * wsum Cl.sub p) (by omega) (by omega) vt) (fun r H' ⟨h1, h2⟩ => by subst h1; subst h2; exact ⟨rfl, rfl⟩) (by simp [Ob.re, re_d, C.re]) (.cons (.agg (fzCs_id [.int .i64 t.k, .int .i64 t.n, .str t.s, .v vt])) (.cons (.c .d) .nil)) (by simp) rfl rfl ?_
  rintro _ _ ⟨rfl, rfl⟩ _
  simp -implicitDefEqProofs [putAll, hp1, hp2, row_len, take_row, pure_d, re_d, go_sem, -List.set_cons_succ, -List.set_cons_zero]
  refine qcall_read ceu rfl hf (zu (i := 5) rfl) ?_
  simp -implicitDefEqProofs [putAll, hp1, hp2, row_len, take_row, pure_d, re_d, go_sem, -List.set_cons_succ, -List.set_cons_zero]
  refine call_locT (J := [4]) (markIntS_calls u 1 (by omega) (by omega) vg) (fun r H' ⟨h1, h2⟩ => by subst h1; subst h2; exact ⟨rfl, rfl⟩) (by simp [Ob.re, re_d, C.re]) (.cons (.c .d) (.cons (.c .d) .nil)) (by simp) rfl rfl ?_
  rintro _ _ ⟨rfl, rfl⟩ _
  simp -implicitDefEqProofs [putAll, hp1, hp2, row_len, take_row, pure_d, re_d, go_sem, -List.set_cons_succ, -List.set_cons_zero]
  have zg : ∀ {H : Heap}, H[5]? = some (.tree vg (mInts 1 u.length)) → FzL H [] [.c (.d (.v vg)), .c (.d (.int .i64 1))] [.c (.d (.sl (mInts 1 u.length))), .c (.d (.int .i64 1))] := fun h =>
    .cons (.c (.tree (i := 5) h (by simp))) (.cons (.c .d) .nil)
  refine qcall_read (heldIntS_calls u.length 1 (by omega) (by omega) []) rfl hf (zg rfl) ?_
  simp -implicitDefEqProofs [putAll, hp1, hp2, row_len, take_row, pure_d, re_d, go_sem, -List.set_cons_succ, -List.set_cons_zero]
  refine qcall_pure ctc hf rfl ?_
  simp -implicitDefEqProofs [putAll, hp1, hp2, row_len, take_row, pure_d, re_d, go_sem, -List.set_cons_succ, -List.set_cons_zero]
  refine qcall_pure ctt hf (by simp [A.re, re_d]) ?_
  simp -implicitDefEqProofs [putAll, hp1, hp2, row_len, take_row, pure_d, re_d, go_sem, -List.set_cons_succ, -List.set_cons_zero]
  refine qcall_tab ci2 hf rfl rfl ?_
  simp -implicitDefEqProofs [putAll, hp1, hp2, row_len, take_row, pure_d, re_d, go_sem, -List.set_cons_succ, -List.set_cons_zero]
  refine qcall_pure ceu' hf rfl ?_
  simp -implicitDefEqProofs [putAll, hp1, hp2, row_len, take_row, pure_d, re_d, go_sem, -List.set_cons_succ, -List.set_cons_zero]
  refine qcall_read (heldIntS_calls u.length 1 (by omega) (by omega) []) rfl hf (zg rfl) ?_
  simp -implicitDefEqProofs [putAll, hp1, hp2, row_len, take_row, pure_d, re_d, go_sem, -List.set_cons_succ, -List.set_cons_zero]
theorem law_run3 {g : Nat} {o : Obj} (hT : Tab g o) (rows : List (List D)) (hr : HasTys Tryd.prog (#[22, 25] : Array TypeId).toList rows) : ACalls Tryd.prog 3 (argsA Tryd.prog (#[22, 25] : Array TypeId).toList rows) [.tab g o] (fun r H' => H' = [.tab g o] ∧ r = .c (.d (.bool true))) := by
  obtain ⟨r, rs, rfl, h1, h2⟩ := hr.cons
  obtain ⟨r2, rs2, rfl, h3, h4⟩ := h2.cons
  obtain rfl := h4.nil
  obtain ⟨p, rfl, hb, hl⟩ := clauses_ty h1
  obtain ⟨t, rfl, ht⟩ := tm_ty h3
  simp only [argsA, argA, Tryd.underlying22, Tryd.underlying25, List.headD_cons]
  exact cdxLaw_calls hT p hb hl t ht
namespace fnExactCandidates
theorem own : ownKnob Tryd.prog.godebug = none := by kernel_rfl
theorem door_met (os : Os) (args : Array Value) : laidMetH Tryd.prog laid ((World.doorLaid Tryd.prog 400 os).forCall (fun _ _ => 0) ⟨#[], args, []⟩).memory :=
  laidMetH_of_parts3 (fuel := 8) (laidMet_of_run' 8 (by kernel_rfl) (by kernel_rfl)) (by kernel_rfl) (by kernel_rfl)
theorem contract (H : Type) (enc : TypeId × Value → H) (W : World) (base : Nat) (args : Array Value) (ds gs : List (DataW H)) (before : List MemPlace) (hL : laidMetH Tryd.prog laid W)
    (hval : ∀ (j : Nat) t v, Tryd.f3.params[j]? = some t → args[j]? = some v → Value.okWide Tryd.prog W .any base t v)
    (hW : DataW.Whole enc Tryd.prog Tryd.f3.params.toList Rows.fnExactCandidatesSpec.vars false W args.toList ds gs before)
    (hw : (DataW.weightsEach Tryd.prog (Tryd.f3.params.toList ++ Rows.fnExactCandidatesSpec.plain.varTypes Tryd.prog) (ds ++ gs)).all (· ≤ reachBytes) = true) :
    Calls Tryd.prog 3 args W fun e W' => ∃ v, e = .returned v ∧ Rows.fnExactCandidatesSpec.post enc Tryd.prog Tryd.f3 false true false false W args v W' := by
  refine law_contract_tab (T := Tab) (L := [3, 9, 25, 23, 52, 22]) (tb := 4) (by kernel_rfl) (by kernel_rfl) (by kernel_rfl) rfl ?_ (by kernel_rfl) Tryd.underlying4 ?_ W base args ds gs before (tab_laid hL) hval hW hw
  · intro ds hl
    match ds, hl with
    | [d0, d1], _ => rfl
  · intro g o hT rows hr
    rw [Tryd.params3] at hr ⊢
    exact law_run3 hT rows hr

theorem lifted (os : Os) (started : os.Started) (H : Type) (enc : TypeId × Value → H) :
    ReturnsInHanded {} Tryd.checked os 3 .any (fun w args => (Rows.fnExactCandidatesSpec.pre enc Tryd.prog Tryd.f3 [] false w args ∧ laidMetH Tryd.prog laid w) ∧ sizedMet enc Tryd.prog Tryd.f3 (OpenSpec.ofChange Rows.fnExactCandidatesSpec) false w args)
      (Rows.fnExactCandidatesSpec.post enc Tryd.prog Tryd.f3 false true false false) := by
  refine returnsInHanded_of_change_and (C := Tryd.checked) (X := fun w _ => laidMetH Tryd.prog laid w) (fun _ _ _ hh h => h.of_heap hh) own started (by kernel_rfl) Tryd.func3
    (ChangeSpec.witness_shaped (enc := enc) (C := Tryd.checked) (os := os) (X := fun w _ => laidMetH Tryd.prog laid w) false (World.doorLaid Tryd.prog 400 os) #[.slice none 0 0, .agg #[.int .i64 0, .int .i64 0, .string ⟨#[]⟩, .slice none 0 0]] 8 rfl (World.shaped_of_RefB (by kernel_rfl) (by kernel_rfl)) (by kernel_rfl) (by kernel_rfl) (by kernel_rfl) (door_met os _)) ?_
  intro W base args ds gs before hval hW _ hw hL _
  exact contract H enc W base args ds gs before hL hval hW hw

theorem said : Rows.FnExactCandidatesSaid :=
  OpenClaim.holds_of_wide 3 Tryd.f3 rfl rfl rfl rfl rfl rfl rfl ⟨rfl, rfl, rfl, rfl, rfl⟩ rfl rfl rfl rfl rfl (by kernel_rfl) Tryd.func3 (by kernel_rfl)
    (of_decide_eq_true (by kernel_rfl)) (by unfold Func.isWrapper; first | (rw [if_pos (by decide +kernel)]; kernel_rfl) | (rw [if_neg (by decide +kernel)]; exact ⟨rfl, rfl⟩))
    (fun os started H enc _ => lifted os started H enc)

theorem proved : Rows.FnExactCandidatesCardSaid :=
  Claim7.holds_tied_plain_at .later [] [.data, .data, .data] true Rows.fnExactCandidatesCard.stood.harness false
    said (fun _ h => by cases h) (by kernel_rfl) (fun _ h => by cases h) fnExactCandidates_row_tie rfl ⟨rfl, rfl⟩ (by kernel_rfl) rfl
    (fun f fn hf hfn => by
      obtain rfl : f = 3 := Option.some.inj ((show Tryd.prog.funcNamed Rows.fnExactCandidatesRow.func = some 3 by kernel_rfl).symm.trans hf) |>.symm
      obtain rfl : fn = Tryd.f3 := (Option.some.inj (Tryd.func3.symm.trans hfn)).symm
      exact ⟨by kernel_rfl, fun j t ht => by
        rw [Tryd.params3] at ht
        have hall : (Tryd.f3.params.toList.all fun u => !Tryd.prog.wantsStandIn u) = true := by kernel_rfl
        have hm : t ∈ Tryd.f3.params.toList := by
          rw [Tryd.params3]
          simpa using Array.mem_of_getElem? ht
        exact (show Tryd.prog.wantsStandIn t = false by simpa using List.all_eq_true.1 hall t hm)⟩)
    (by kernel_rfl)
end fnExactCandidates

end Go.Proofs.YtnljciooabmogaaDoor
