/-
  Contracts of functions that the law reaches, and plain lemmas: several texts in one.
  Conditions: none.
-/
import Derived.Test.YtoipdmomgjdnaaaDoorBundA
open Go Go.AM Go.Proofs
attribute [local go_sem] kw ew sw tw a_ b_ c_ A.ok A.val d_ e_ f_ g_ h_ i_ j_ k_ l_ m_ unA unD n_ AOp.total o_ p_ q_ r_ s_ t_ u_ v_ A.thaw C.thaw A.fits As.fits C.fits evs oks w_ A.pure C.pure A.re C.re x_ y_ cut A.cells C.rows? z_ A_ B_ C_ a0_ b0_ D_ Ob.re Cs.fits E_ F_ G_ H_ I_ J_ K_ L_ M_ N_ O_ C.toD P_ Q_ R_ S_ T_ Obs.fits U_ eqD V_ W_ X_ Y_ Z_
/-
  Determinate predicates, of the program and of the reference.
  Conditions: none.
-/
open Go Go.AM Go.Proofs
namespace Go.Proofs.YtoipdmomgjdnaaaDoor
open Go.ChangeShapes Go.WideShapes Go.ChangeAt Go.RowKit
set_option linter.unusedVariables false
set_option linter.unusedSimpArgs false
set_option maxRecDepth 100000
-- 12 loop.example/prologserver/spec.KeysFit params 2 ntmps 16
def ac12 : Cd := .seq (.region [⟨(some 4),.mv (.k (.c (.d (.bool false)))),none⟩] [4])
 (.seq (.region [⟨(some 5),.mv (.t 0),none⟩,
 ⟨(some 6),.bin .eql (.t 5) (.k (.c (.d (.str [])))),none⟩,
 ⟨(some 7),.mv (.t 6),none⟩,
 ⟨(some 8),.mv (.t 1),some (7,false)⟩,
 ⟨(some 9),.bin .eql (.t 8) (.k (.c (.d (.str [])))),some (7,false)⟩,
 ⟨(some 10),.pick (.t 7) (.k (.c (.d (.bool true)))) (.t 9),none⟩,
 ⟨(some 11),.mv (.t 10),none⟩,
 ⟨(some 12),.mv (.t 0),some (11,false)⟩,
 ⟨(some 13),.mv (.t 1),some (11,false)⟩,
 ⟨(some 14),.bin .eql (.t 12) (.t 13),some (11,false)⟩,
 ⟨(some 15),.pick (.t 11) (.k (.c (.d (.bool true)))) (.t 14),none⟩,
 ⟨(some 4),.mv (.t 15),none⟩] [0,1,5,6,7,8,9,10,11,12,13,14,15])
 (.ret))
theorem ac12_ok : cFunc Tryd.prog [] [(0,[4],[]),(1,[0,1,5,6,7,8,9,10,11,12,13,14,15],[])] Tryd.f12 = some (ac12,[.tmp 4],16) := by kernel_rfl
-- 18 loop.example/prologserver/impl.KeysFit params 2 ntmps 16
def ac18 : Cd := .seq (.region [⟨(some 4),.mv (.k (.c (.d (.bool false)))),none⟩] [4])
 (.seq (.region [⟨(some 5),.mv (.t 0),none⟩,
 ⟨(some 6),.bin .eql (.t 5) (.k (.c (.d (.str [])))),none⟩,
 ⟨(some 7),.mv (.t 6),none⟩,
 ⟨(some 8),.mv (.t 1),some (7,false)⟩,
 ⟨(some 9),.bin .eql (.t 8) (.k (.c (.d (.str [])))),some (7,false)⟩,
 ⟨(some 10),.pick (.t 7) (.k (.c (.d (.bool true)))) (.t 9),none⟩,
 ⟨(some 11),.mv (.t 10),none⟩,
 ⟨(some 12),.mv (.t 0),some (11,false)⟩,
 ⟨(some 13),.mv (.t 1),some (11,false)⟩,
 ⟨(some 14),.bin .eql (.t 12) (.t 13),some (11,false)⟩,
 ⟨(some 15),.pick (.t 11) (.k (.c (.d (.bool true)))) (.t 14),none⟩,
 ⟨(some 4),.mv (.t 15),none⟩] [0,1,5,6,7,8,9,10,11,12,13,14,15])
 (.ret))
theorem ac18_ok : cFunc Tryd.prog [] [(0,[4],[]),(1,[0,1,5,6,7,8,9,10,11,12,13,14,15],[])] Tryd.f18 = some (ac18,[.tmp 4],16) := by kernel_rfl
-- 5 loop.example/prologserver/spec.Determinate params 3 ntmps 57
-- loop head live: [0,7,8]
-- loop head live: [0,7,8,9]
def ac5 : Cd := .seq (.region [⟨(some 6),.mv (.k (.c (.d (.bool false)))),none⟩] [6])
 (.seq (.seq (.region [⟨(some 10),.mv (.t 0),none⟩,
 ⟨(some 11),.qcall 10 [(.t 10)],none⟩,
 ⟨(some 12),.un .not (.t 11),none⟩,
 ⟨(some 13),.mv (.t 12),none⟩,
 ⟨(some 14),.mv (.t 2),some (13,false)⟩,
 ⟨(some 15),.bin .lss (.t 14) (.k (.c (.d (.int .i64 0)))),some (13,false)⟩,
 ⟨(some 16),.pick (.t 13) (.k (.c (.d (.bool true)))) (.t 15),none⟩,
 ⟨(some 17),.mv (.t 16),none⟩,
 ⟨(some 18),.mv (.t 2),some (17,false)⟩,
 ⟨(some 19),.bin .gtr (.t 18) (.k (.c (.d (.int .i64 4)))),some (17,false)⟩,
 ⟨(some 20),.pick (.t 17) (.k (.c (.d (.bool true)))) (.t 19),none⟩] [10,11,12,13,14,15,16,17,18,19])
 (.cond (.t 20)
 (.seq (.region [⟨(some 6),.mv (.k (.c (.d (.bool false)))),none⟩] [0,1,2,20])
 (.ret))
 (.skip)))
 (.seq (.region [⟨(some 21),.mv (.t 0),none⟩,
 ⟨(some 22),.mv (.t 1),none⟩,
 ⟨(some 23),.mv (.t 2),none⟩,
 ⟨(some 24),.mkSlice [(.int .i64 0),(.int .i64 0),(.str []),(.sl [])] (.t 23),none⟩,
 ⟨(some 25),.build [(.d (.int .i64 0)),(.d (.int .i64 0)),(.d (.str [])),(.full [])] [(2,1,(.t 22)),(3,1,(.t 24))],none⟩,
 ⟨(some 26),.qcall 11 [(.t 21),(.t 25)],none⟩,
 ⟨(some 7),.mv (.t 26),none⟩] [1,2,6,20,21,22,23,24,25,26])
 (.seq (.seq (.region [⟨(some 8),.mv (.k (.c (.d (.int .i64 0)))),none⟩] [])
 (.block 0 (.loop (.seq (.seq (.region [⟨(some 27),.mv (.t 8),none⟩,
 ⟨(some 28),.mv (.t 7),none⟩,
 ⟨(some 29),.len 1 (.t 28),none⟩,
 ⟨(some 30),.bin .lss (.t 27) (.t 29),none⟩] [27,28,29])
 (.cond (.t 30)
 (.skip)
 (.exit 0)))
 (.seq (.block 1 (.seq (.region [⟨(some 9),.mv (.k (.c (.d (.int .i64 0)))),none⟩] [30])
 (.block 2 (.loop (.seq (.seq (.region [⟨(some 33),.mv (.t 9),none⟩,
 ⟨(some 34),.mv (.t 8),none⟩,
 ⟨(some 35),.bin .lss (.t 33) (.t 34),none⟩] [33,34])
 (.cond (.t 35)
 (.skip)
 (.exit 2)))
 (.seq (.block 3 (.seq (.region [⟨(some 38),.mv (.t 0),none⟩,
 ⟨(some 39),.mv (.t 7),none⟩,
 ⟨(some 40),.mv (.t 8),none⟩,
 ⟨(some 41),.indexAddr 1 (.t 39) (.t 40),none⟩,
 ⟨(some 47),.mv (.t 0),none⟩,
 ⟨(some 48),.mv (.t 7),none⟩,
 ⟨(some 49),.mv (.t 9),none⟩,
 ⟨(some 50),.indexAddr 1 (.t 48) (.t 49),none⟩,
 ⟨(some 42),.load none (.t 41),none⟩,
 ⟨(some 43),.indexAddr 5 (.t 38) (.t 42),none⟩,
 ⟨(some 44),.fieldAddr 0 (.t 43),none⟩,
 ⟨(some 45),.load (some 4) (.t 44),none⟩,
 ⟨(some 46),.qcall 13 [(.t 45)],none⟩,
 ⟨(some 51),.load none (.t 50),none⟩,
 ⟨(some 52),.indexAddr 5 (.t 47) (.t 51),none⟩,
 ⟨(some 53),.fieldAddr 0 (.t 52),none⟩,
 ⟨(some 54),.load (some 4) (.t 53),none⟩,
 ⟨(some 55),.qcall 13 [(.t 54)],none⟩,
 ⟨(some 56),.qcall 12 [(.t 46),(.t 55)],none⟩] [35,38,39,40,41,42,43,44,45,46,47,48,49,50,51,52,53,54,55])
 (.cond (.t 56)
 (.seq (.region [⟨(some 6),.mv (.k (.c (.d (.bool false)))),none⟩] [0,7,8,9,56])
 (.ret))
 (.skip))))
 (.region [⟨(some 36),.mv (.t 9),none⟩,
 ⟨(some 37),.bin .add (.t 36) (.k (.c (.d (.int .i64 1)))),none⟩,
 ⟨(some 9),.mv (.t 37),none⟩] [6,36,37,56])))))))
 (.region [⟨(some 31),.mv (.t 8),none⟩,
 ⟨(some 32),.bin .add (.t 31) (.k (.c (.d (.int .i64 1)))),none⟩,
 ⟨(some 8),.mv (.t 32),none⟩] [31,32]))))))
 (.seq (.region [⟨(some 6),.mv (.k (.c (.d (.bool true)))),none⟩] [])
 (.ret)))))
theorem ac5_ok : cFunc Tryd.prog [1000010,1000011,1000012,1000013] [(0,[6],[]),(1,[10,11,12,13,14,15,16,17,18,19],[]),(2,[0,1,2,20],[]),(3,[1,2,6,20,21,22,23,24,25,26],[]),(4,[],[]),(5,[27,28,29],[]),(7,[30],[]),(8,[33,34],[]),(10,[35,38,39,40,41,42,43,44,45,46,47,48,49,50,51,52,53,54,55],[0,1,2,3,9,10,11,12,4,5,6,7,8,13,14,15,16,17,18]),(11,[0,7,8,9,56],[]),(9,[6,36,37,56],[]),(6,[31,32],[]),(12,[],[])] Tryd.f5 = some (ac5,[.tmp 6],57) := by kernel_rfl
-- 7 loop.example/prologserver/impl.Determinate params 3 ntmps 55
-- loop head live: [0,7,25,26,27]
-- loop head live: [0,7,9,25,26,27,34,35,36]
def ac7 : Cd := .seq (.region [⟨(some 6),.mv (.k (.c (.d (.bool false)))),none⟩] [6])
 (.seq (.seq (.region [⟨(some 12),.mv (.t 0),none⟩,
 ⟨(some 13),.qcall 15 [(.t 12)],none⟩,
 ⟨(some 14),.un .not (.t 13),none⟩,
 ⟨(some 15),.mv (.t 14),none⟩,
 ⟨(some 16),.mv (.t 2),some (15,false)⟩,
 ⟨(some 17),.qcall 16 [(.t 16),(.k (.c (.d (.int .i64 0)))),(.k (.c (.d (.int .i64 4))))],some (15,false)⟩,
 ⟨(some 18),.un .not (.t 17),some (15,false)⟩,
 ⟨(some 19),.pick (.t 15) (.k (.c (.d (.bool true)))) (.t 18),none⟩] [12,13,14,15,16,17,18])
 (.cond (.t 19)
 (.seq (.region [⟨(some 6),.mv (.k (.c (.d (.bool false)))),none⟩] [0,1,2,19])
 (.ret))
 (.skip)))
 (.seq (.region [⟨(some 20),.mv (.t 0),none⟩,
 ⟨(some 21),.mv (.t 1),none⟩,
 ⟨(some 22),.mv (.t 2),none⟩,
 ⟨(some 23),.build [(.d (.str [])),(.d (.int .i64 0))] [(0,1,(.t 21)),(1,1,(.t 22))],none⟩,
 ⟨(some 24),.qcall 17 [(.t 20),(.t 23)],none⟩,
 ⟨(some 7),.mv (.t 24),none⟩] [1,2,6,19,20,21,22,23,24])
 (.seq (.seq (.region [⟨(some 25),.mv (.t 7),none⟩,
 ⟨(some 26),.len 1 (.t 25),none⟩,
 ⟨(some 27),.mv (.k (.c (.d (.int .i64 0)))),none⟩] [])
 (.block 0 (.loop (.seq (.region [⟨(some 28),.bin .lss (.t 27) (.t 26),none⟩] [])
 (.seq (.cond (.t 28)
 (.skip)
 (.exit 0))
 (.seq (.block 1 (.seq (.region [⟨(some 29),.mv (.t 27),none⟩,
 ⟨(some 30),.indexAddr 1 (.t 25) (.t 27),none⟩,
 ⟨(some 31),.load none (.t 30),none⟩,
 ⟨(some 8),.mv (.t 29),none⟩,
 ⟨(some 9),.mv (.t 31),none⟩] [28,29,30,31])
 (.seq (.region [⟨(some 32),.mv (.t 7),none⟩,
 ⟨(some 33),.mv (.t 8),none⟩,
 ⟨(some 34),.slice 1 (.t 32) none (some (.t 33)) none,none⟩,
 ⟨(some 35),.len 1 (.t 34),none⟩,
 ⟨(some 36),.mv (.k (.c (.d (.int .i64 0)))),none⟩] [8,32,33])
 (.block 2 (.loop (.seq (.region [⟨(some 37),.bin .lss (.t 36) (.t 35),none⟩] [])
 (.seq (.cond (.t 37)
 (.skip)
 (.exit 2))
 (.seq (.block 3 (.seq (.region [⟨(some 38),.indexAddr 1 (.t 34) (.t 36),none⟩,
 ⟨(some 39),.load none (.t 38),none⟩,
 ⟨(some 11),.mv (.t 39),none⟩] [37,38,39])
 (.seq (.region [⟨(some 40),.mv (.t 0),none⟩,
 ⟨(some 41),.mv (.t 9),none⟩,
 ⟨(some 42),.indexAddr 5 (.t 40) (.t 41),none⟩,
 ⟨(some 43),.fieldAddr 0 (.t 42),none⟩,
 ⟨(some 46),.mv (.t 0),none⟩,
 ⟨(some 47),.mv (.t 11),none⟩,
 ⟨(some 48),.indexAddr 5 (.t 46) (.t 47),none⟩,
 ⟨(some 49),.fieldAddr 0 (.t 48),none⟩,
 ⟨(some 44),.load (some 4) (.t 43),none⟩,
 ⟨(some 45),.qcall 19 [(.t 44)],none⟩,
 ⟨(some 50),.load (some 4) (.t 49),none⟩,
 ⟨(some 51),.qcall 19 [(.t 50)],none⟩,
 ⟨(some 52),.qcall 18 [(.t 45),(.t 51)],none⟩] [11,40,41,42,43,44,45,46,47,48,49,50,51])
 (.cond (.t 52)
 (.seq (.region [⟨(some 6),.mv (.k (.c (.d (.bool false)))),none⟩] [0,7,9,25,26,27,34,35,36,52])
 (.ret))
 (.skip)))))
 (.region [⟨(some 53),.bin .add (.t 36) (.k (.c (.d (.int .i64 1)))),none⟩,
 ⟨(some 36),.mv (.t 53),none⟩] [6,52,53])))))))))
 (.region [⟨(some 54),.bin .add (.t 27) (.k (.c (.d (.int .i64 1)))),none⟩,
 ⟨(some 27),.mv (.t 54),none⟩] [54])))))))
 (.seq (.region [⟨(some 6),.mv (.k (.c (.d (.bool true)))),none⟩] [])
 (.ret)))))
theorem ac7_ok : cFunc Tryd.prog [1000015,1000016,1000017,1000018,1000019] [(0,[6],[]),(1,[12,13,14,15,16,17,18],[]),(2,[0,1,2,19],[]),(3,[1,2,6,19,20,21,22,23,24],[]),(4,[],[]),(5,[],[]),(6,[28,29,30,31],[]),(7,[8,32,33],[]),(8,[],[]),(9,[37,38,39],[]),(10,[11,40,41,42,43,44,45,46,47,48,49,50,51],[0,1,2,3,6,7,8,9,4,5,10,11,12]),(11,[0,7,9,25,26,27,34,35,36,52],[]),(12,[6,52,53],[]),(13,[54],[]),(14,[],[])] Tryd.f7 = some (ac7,[.tmp 6],55) := by kernel_rfl
/-- a goal of a predicate -/
def predT (s : List UInt8) (n : Nat) : Tm := .mk 0 0 s (List.replicate n (.mk 0 0 [] []))
theorem l4ForF_calls (p : List Cl) (hp : FitsC p) (gs : List UInt8) (n : Nat) (hn : n ≤ 4) (rf : Ref) (H : Heap) : ACalls Tryd.prog 11 [.c (.d (.sl (p.map Cl.row))), .agg [.d (.int .i64 0), .d (.int .i64 0), .d (.str gs), .fsl rf n 4]] H (fun r H' => H' = H ∧ r = .c (.d (.sl (intRows (forI p (predT gs n) p.length))))) := by
  have hl := hp.1
  have hli : inR .i64 (p.length : Int) := small_i64 (by omega) (by omega)
  have hgi : inR .i64 (n : Int) := small_i64 (by omega) (by omega)
  generalize hG : predT gs n = G
  have es : G.s = gs := by rw [← hG]; rfl
  have el : G.kids.length = n := by rw [← hG]; simp [predT, Tm.kids]
  refine acalls Tryd.func11 (by kernel_rfl) ac11_ok fun hf => ?_
  simp -implicitDefEqProofs [ac11, hli, go_sem, -List.set_cons_succ, -List.set_cons_zero]
  refine loop_enter (St.le_token 5 1 rfl) ?_
  refine loop_set (σ := Nat) (fun i => [(6, .c (.d (.int .i64 i))), (5, .c (.own (.l 1) (forI p G i).length (intRows (forI p G i))))]) (fun _ => H) (fun i => [.cells [.d (.int .i64 0), .d (.int .i64 0), .d (.str gs), .fsl rf n 4], .grow (forI p G i).length 1]) (fun i => i ≤ p.length) (fun i => p.length - i) 0 rfl (Nat.zero_le _) ?_
  intro i hi
  have hfl := forI_len p G i
  simp -implicitDefEqProofs [setAll, hli, go_sem, -List.set_cons_succ, -List.set_cons_zero]
  refine ⟨fun hlt => ?_, fun hge => ?_⟩
  · have hc := hp.2 p[i] (List.getElem_mem hlt)
    have hkl : p[i].head.kids.length ≤ 1048576 := by
      have := hc.head
      cases hh : p[i].head with
      | mk a b c d => rw [hh] at this; obtain ⟨_, _, _, h4, _⟩ := this; exact h4
    have hki : inR .i64 (p[i].head.kids.length : Int) := small_i64 (by omega) (by omega)
    have hadd : inR .i64 ((i : Int) + 1) := small_i64 (by omega) (by omega)
    refine row_of hlt rfl ?_
    simp -implicitDefEqProofs [Cl.row, hf, hki, hgi, hadd, go_sem, -List.set_cons_succ, -List.set_cons_zero]
    refine ⟨fun _ => by omega, p[i].row, fun _ => ⟨by simp [hlt], rfl⟩, ?_⟩
    simp -implicitDefEqProofs [Cl.row, hf, hki, hgi, hadd, go_sem, -List.set_cons_succ, -List.set_cons_zero]
    refine ⟨fun e1 e2 => ?_, fun h => ?_⟩
    · have hh : hits p[i] G = true := by simp [hits, es, el, e1]; omega
      have hnx := forI_hit hlt hh
      have hr : intRows (forI p G i) ++ [[D.int IntKind.i64 (i : Int)]] = intRows (forI p G (i + 1)) := by rw [hnx]; simp [intRows]
      have hn : (forI p G i).length + 1 = (forI p G (i + 1)).length := by rw [hnx]; simp
      simp -implicitDefEqProofs [allLen_ints, go_sem, -List.set_cons_succ, -List.set_cons_zero]
      refine ⟨by rw [intRows_len]; unfold maxApp; omega, ?_⟩
      rw [hr, hn]
      exact loop_back (i + 1) (by simp [setAll]) hlt (by show p.length - (i + 1) < p.length - i; omega)
    · have hh : hits p[i] G = false := by
        simp only [hits, es, el, Bool.and_eq_false_iff, decide_eq_false_iff_not]
        by_cases e : p[i].head.s = gs
        · exact .inr (h e)
        · exact .inl e
      have hnx := forI_miss hlt hh
      exact loop_back (i + 1) (by simp [setAll, hnx]) hlt (by show p.length - (i + 1) < p.length - i; omega)
  · obtain rfl : i = p.length := by omega
    simp
/-- whether keys fit -/
def kfit (x y : List UInt8) : Bool := x.isEmpty || y.isEmpty || x == y
theorem kfSpec_calls (x y : List UInt8) (H : Heap) : ACalls Tryd.prog 12 [.c (.d (.str x)), .c (.d (.str y))] H (fun r H' => H' = H ∧ r = .c (.d (.bool (kfit x y)))) := by
  refine acalls Tryd.func12 (by kernel_rfl) ac12_ok fun hf => ?_
  simp -implicitDefEqProofs [ac12, kfit, go_sem, -List.set_cons_succ, -List.set_cons_zero]
theorem kfImpl_calls (x y : List UInt8) (H : Heap) : ACalls Tryd.prog 18 [.c (.d (.str x)), .c (.d (.str y))] H (fun r H' => H' = H ∧ r = .c (.d (.bool (kfit x y)))) := by
  refine acalls Tryd.func18 (by kernel_rfl) ac18_ok fun hf => ?_
  simp -implicitDefEqProofs [ac18, kfit, go_sem, -List.set_cons_succ, -List.set_cons_zero]
/-- the key of a clause's head -/
def keyAt (p : List Cl) (x : Int) : List UInt8 := match p[x.toNat]? with
  | some c => c.head.key
  | none => []
def fitAt (p : List Cl) (l : List Int) (i k : Nat) : Bool := kfit (keyAt p (l.getD i 0)) (keyAt p (l.getD k 0))
def detL (p : List Cl) (l : List Int) : Bool := (List.range l.length).all fun i => (List.range i).all fun k => !fitAt p l i k
/-- whether a predicate is determinate -/
def detB (p : List Cl) (s : List UInt8) (n : Int) : Bool := progB p && (decide (0 ≤ n) && decide (n ≤ 4)) && detL p (forI p (predT s n.toNat) p.length)
theorem forI_mem (p : List Cl) (g : Tm) : ∀ i, ∀ x ∈ forI p g i, 0 ≤ x ∧ x < p.length
  | 0, x, h => by simp [forI] at h
  | i + 1, x, h => by
    simp only [forI, List.mem_append] at h
    rcases h with h | h
    · exact forI_mem p g i x h
    · cases hi : p[i]? with
      | none => simp [hi] at h
      | some c =>
        have := (List.getElem?_eq_some_iff.1 hi).1
        simp only [hi] at h
        split at h
        · simp at h; omega
        · simp at h
theorem head_calls {p : List Cl} (hp : FitsC p) (hv : progB p = true) {x : Int} (h : 0 ≤ x ∧ x < p.length) : ∃ c : Cl, p[x.toNat]? = some c ∧ c.head.fits ∧ c.head.valid = true ∧ keyAt p x = c.head.key := by
  have hlt : x.toNat < p.length := by omega
  refine ⟨p[x.toNat], List.getElem?_eq_getElem hlt, (hp.2 _ (List.getElem_mem hlt)).head, ?_, by simp [keyAt, List.getElem?_eq_getElem hlt]⟩
  simp only [progB, Bool.and_eq_true, List.all_eq_true] at hv
  have := hv.2 _ (List.getElem_mem hlt)
  simp only [Cl.validB, Bool.and_eq_true] at this
  exact this.1.1
theorem progB_len {p : List Cl} (h : progB p = true) : p.length ≤ 20 := by simp only [progB, Bool.and_eq_true, decide_eq_true_eq] at h; exact h.1
theorem detL_of {p : List Cl} {l : List Int} (h : ∀ i < l.length, ∀ k < i, fitAt p l i k = false) : detL p l = true := by
  simp only [detL, List.all_eq_true, List.mem_range]
  intro i hi k hk
  rw [h i hi k hk]
  rfl
theorem detL_not {p : List Cl} {l : List Int} {i k : Nat} (hi : i < l.length) (hk : k < i) (h : fitAt p l i k = true) : detL p l = false := by
  cases hd : detL p l with
  | false => rfl
  | true =>
    simp only [detL, List.all_eq_true, List.mem_range] at hd
    have := hd i hi k hk
    rw [h] at this
    cases this
theorem detSpec_calls (p : List Cl) (hp : FitsC p) (s : List UInt8) (n : Int) (hn : inR .i64 n) (H : Heap) : ACalls Tryd.prog 5 [.c (.d (.sl (p.map Cl.row))), .c (.d (.str s)), .c (.d (.int .i64 n))] H (fun r H' => H' = H ∧ r = .c (.d (.bool (detB p s n)))) := by
  refine acalls Tryd.func5 (by kernel_rfl) ac5_ok fun hf => ?_
  simp -implicitDefEqProofs [ac5, go_sem, -List.set_cons_succ, -List.set_cons_zero]
  refine qcall_pure (pvSpec_calls p hp) hf rfl ?_
  cases hv : progB p with
  | false => simp -implicitDefEqProofs [detB, hv, go_sem, -List.set_cons_succ, -List.set_cons_zero]
  | true =>
    by_cases h0 : n < 0
    case pos => simp -implicitDefEqProofs [detB, hv, h0, Int.not_le.2 h0, go_sem, -List.set_cons_succ, -List.set_cons_zero]
    by_cases h4 : 4 < n
    case pos => simp -implicitDefEqProofs [detB, hv, h0, h4, Int.not_le.2 h4, go_sem, -List.set_cons_succ, -List.set_cons_zero]
    obtain ⟨m, rfl⟩ := Int.eq_ofNat_of_zero_le (show 0 ≤ n by omega)
    simp -implicitDefEqProofs [h0, h4, go_sem, -List.set_cons_succ, -List.set_cons_zero]
    refine ⟨by unfold maxApp; omega, ?_⟩
    refine qcall_pure (l4ForF_calls p hp s m (by omega) _) hf rfl ?_
    have hpl := progB_len hv
    have hll := forI_len p (predT s m) p.length
    have hmem := forI_mem p (predT s m) p.length
    have hres : detB p s m = detL p (forI p (predT s m) p.length) := by simp [detB, hv, h0, h4]; omega
    rw [hres]
    generalize forI p (predT s m) p.length = l at hll hmem
    have hli : inR .i64 (l.length : Int) := small_i64 (by omega) (by omega)
    simp -implicitDefEqProofs [go_sem, -List.set_cons_succ, -List.set_cons_zero]
    refine loop_set (σ := Nat) (fun i => [(8, .c (.d (.int .i64 i)))]) (fun _ => H) (fun _ => [_]) (fun i => i ≤ l.length ∧ ∀ i' < i, ∀ k < i', fitAt p l i' k = false) (fun i => l.length - i) 0 rfl ⟨Nat.zero_le _, by omega⟩ ?_
    rintro i ⟨hi, hall⟩
    simp -implicitDefEqProofs [setAll, intRows_len, hli, go_sem, -List.set_cons_succ, -List.set_cons_zero]
    refine ⟨fun hlt => ?_, fun hge => detL_of fun i' h' => hall i' (by omega)⟩
    obtain ⟨c, hc, hcf, hcv, hck⟩ := head_calls hp hv (hmem _ (List.getElem_mem hlt))
    have c1 := l7Key_calls c.head hcf (valid_kids hcv)
    rw [row_eq] at c1
    simp only [List.map_cons, List.map_nil] at c1
    have hi1 : inR .i64 ((i : Int) + 1) := small_i64 (by omega) (by omega)
    have hia : inR .i64 (i : Int) := small_i64 (by omega) (by omega)
    refine loop_set (σ := Nat) (fun k => [(9, .c (.d (.int .i64 k)))]) (fun _ => H) (fun _ => [_]) (fun k => k ≤ i ∧ ∀ k' < k, fitAt p l i k' = false) (fun k => i - k) 0 rfl ⟨Nat.zero_le _, by omega⟩ ?_
    rintro k ⟨hk, hin⟩
    by_cases hki : k < i
    · have hlk : k < l.length := by omega
      obtain ⟨d, hd, hdf, hdv, hdk⟩ := head_calls hp hv (hmem _ (List.getElem_mem hlk))
      have d1 := l7Key_calls d.head hdf (valid_kids hdv)
      rw [row_eq] at d1
      simp only [List.map_cons, List.map_nil] at d1
      have hk1 : inR .i64 ((k : Int) + 1) := small_i64 (by omega) (by omega)
      simp -implicitDefEqProofs [setAll, hki, go_sem, -List.set_cons_succ, -List.set_cons_zero]
      refine row_int [.int .i64 l[i]] (by omega) (by simp [intRows, hlt]) rfl ?_
      simp -implicitDefEqProofs [go_sem, -List.set_cons_succ, -List.set_cons_zero]
      refine row_int [.int .i64 l[k]] (by omega) (by simp [intRows, hlk]) rfl ?_
      simp -implicitDefEqProofs [go_sem, -List.set_cons_succ, -List.set_cons_zero]
      refine row_int c.row (hmem _ (List.getElem_mem hlt)).1 (by simp [hc]) rfl ?_
      simp -implicitDefEqProofs [Cl.row, go_sem, -List.set_cons_succ, -List.set_cons_zero]
      refine qcall_pure c1 hf rfl ?_
      simp -implicitDefEqProofs [go_sem, -List.set_cons_succ, -List.set_cons_zero]
      refine row_int d.row (hmem _ (List.getElem_mem hlk)).1 (by simp [hd]) rfl ?_
      simp -implicitDefEqProofs [Cl.row, go_sem, -List.set_cons_succ, -List.set_cons_zero]
      refine qcall_pure d1 hf rfl ?_
      simp -implicitDefEqProofs [go_sem, -List.set_cons_succ, -List.set_cons_zero]
      refine qcall_pure (kfSpec_calls _ _) hf rfl ?_
      have hfa : fitAt p l i k = kfit c.head.key d.head.key := by simp [fitAt, hlt, hlk, hck, hdk]
      cases hft : kfit c.head.key d.head.key with
      | true =>
        simp -implicitDefEqProofs [detL_not hlt hki (hfa.trans hft), go_sem, -List.set_cons_succ, -List.set_cons_zero]
      | false =>
        simp -implicitDefEqProofs [hk1, go_sem, -List.set_cons_succ, -List.set_cons_zero]
        refine loop_back (k + 1) (by simp [setAll]) ⟨hki, fun k' hk' => ?_⟩ (by show i - (k + 1) < i - k; omega)
        rcases Nat.lt_succ_iff_lt_or_eq.1 hk' with h | rfl
        · exact hin k' h
        · exact hfa.trans hft
    · obtain rfl : k = i := by omega
      simp -implicitDefEqProofs [setAll, hi1, go_sem, -List.set_cons_succ, -List.set_cons_zero]
      refine loop_less (k + 1) (St.le_more ?_ (Obs.le_refl _)) ⟨hlt, fun i' hi' => ?_⟩ (by show l.length - (k + 1) < l.length - k; omega)
      · simp [Sl.le, A.le_refl_iff, A.le_u_iff, As.lo, A.lo, C.lo, Ref.lo, Cs.lo, Obs.lo, Ob.lo, setAll, and_true, true_and, List.length_nil, List.length_cons]
      · rcases Nat.lt_succ_iff_lt_or_eq.1 hi' with h | rfl
        · exact hall i' h
        · exact hin
theorem predT_fits {s : List UInt8} {m : Nat} (hs : s.length ≤ 1048576) (hm : m ≤ 4) : (predT s m).fits := by
  refine .mk (small_i64 (by omega) (by omega)) (small_i64 (by omega) (by omega)) hs (by simp; omega) fun t ht => ?_
  rw [List.eq_of_mem_replicate ht]
  exact .mk (small_i64 (by omega) (by omega)) (small_i64 (by omega) (by omega)) (by simp) (by simp) (by simp)
theorem detImpl_calls {g : Nat} {o : Obj} (hT : Tab g o) (p : List Cl) (hp : FitsC p) (s : List UInt8) (hs : s.length ≤ 1048576) (n : Int) (hn : inR .i64 n) (H : Heap) (hH : H[0]? = some (.tab g o)) : ACalls Tryd.prog 7 [.c (.d (.sl (p.map Cl.row))), .c (.d (.str s)), .c (.d (.int .i64 n))] H (fun r H' => H' = H ∧ r = .c (.d (.bool (detB p s n)))) := by
  refine acalls Tryd.func7 (by kernel_rfl) ac7_ok fun hf => ?_
  simp -implicitDefEqProofs [ac7, go_sem, -List.set_cons_succ, -List.set_cons_zero]
  refine qcall_pure (pvImpl_calls p hp) hf rfl ?_
  cases hv : progB p with
  | false => simp -implicitDefEqProofs [detB, hv, go_sem, -List.set_cons_succ, -List.set_cons_zero]
  | true =>
    simp -implicitDefEqProofs [go_sem, -List.set_cons_succ, -List.set_cons_zero]
    refine qcall_pure (within_calls _ _ _) hf rfl ?_
    cases hw : (decide (0 ≤ n) && decide (n ≤ 4)) with
    | false => simp -implicitDefEqProofs [detB, hv, hw, go_sem, -List.set_cons_succ, -List.set_cons_zero]
    | true =>
      obtain ⟨h0, h4⟩ : 0 ≤ n ∧ n ≤ 4 := by simpa using hw
      obtain ⟨m, rfl⟩ := Int.eq_ofNat_of_zero_le h0
      simp -implicitDefEqProofs [go_sem, -List.set_cons_succ, -List.set_cons_zero]
      have hcf := cfor_calls p hp (predT s m) (predT_fits hs (by omega))
      rw [show (predT s m).s = s from rfl, show (predT s m).kids.length = m by simp [predT, Tm.kids]] at hcf
      refine qcall_pure hcf hf rfl ?_
      have hpl := progB_len hv
      have hll := forI_len p (predT s m) p.length
      have hmem := forI_mem p (predT s m) p.length
      have hres : detB p s m = detL p (forI p (predT s m) p.length) := by simp [detB, hv]; omega
      rw [hres]
      generalize forI p (predT s m) p.length = l at hll hmem
      have hli : inR .i64 (l.length : Int) := small_i64 (by omega) (by omega)
      simp -implicitDefEqProofs [intRows_len, hli, go_sem, -List.set_cons_succ, -List.set_cons_zero]
      refine loop_set (σ := Nat) (fun i => [(27, .c (.d (.int .i64 i)))]) (fun _ => H) (fun _ => []) (fun i => i ≤ l.length ∧ ∀ i' < i, ∀ k < i', fitAt p l i' k = false) (fun i => l.length - i) 0 rfl ⟨Nat.zero_le _, by omega⟩ ?_
      rintro i ⟨hi, hall⟩
      simp -implicitDefEqProofs [setAll, intRows_len, hli, go_sem, -List.set_cons_succ, -List.set_cons_zero]
      refine ⟨fun hlt => ?_, fun hge => detL_of fun i' h' => hall i' (by omega)⟩
      obtain ⟨c, hc, hcf, hcv, hck⟩ := head_calls hp hv (hmem _ (List.getElem_mem hlt))
      have c1 := key_calls hT c.head hcf
      rw [row_eq] at c1
      simp only [List.map_cons, List.map_nil] at c1
      have hi1 : inR .i64 ((i : Int) + 1) := small_i64 (by omega) (by omega)
      have hia : inR .i64 (i : Int) := small_i64 (by omega) (by omega)
      refine row_int [.int .i64 l[i]] (by omega) (by simp [intRows, hlt]) rfl ?_
      have hmin : min i l.length = i := by omega
      simp -implicitDefEqProofs [intRows_len, hmin, go_sem, -List.set_cons_succ, -List.set_cons_zero]
      refine ⟨allLen_ints l, by omega, hia, ?_⟩
      refine loop_set (σ := Nat) (fun k => [(36, .c (.d (.int .i64 k)))]) (fun _ => H) (fun _ => []) (fun k => k ≤ i ∧ ∀ k' < k, fitAt p l i k' = false) (fun k => i - k) 0 rfl ⟨Nat.zero_le _, by omega⟩ ?_
      rintro k ⟨hk, hin⟩
      by_cases hki : k < i
      · have hlk : k < l.length := by omega
        obtain ⟨d, hd, hdf, hdv, hdk⟩ := head_calls hp hv (hmem _ (List.getElem_mem hlk))
        have d1 := key_calls hT d.head hdf
        rw [row_eq] at d1
        simp only [List.map_cons, List.map_nil] at d1
        have hk1 : inR .i64 ((k : Int) + 1) := small_i64 (by omega) (by omega)
        simp -implicitDefEqProofs [setAll, hki, go_sem, -List.set_cons_succ, -List.set_cons_zero]
        refine row_int [.int .i64 l[k]] (by omega) (by simp [intRows, hlk, hki]) rfl ?_
        simp -implicitDefEqProofs [go_sem, -List.set_cons_succ, -List.set_cons_zero]
        refine row_int c.row (hmem _ (List.getElem_mem hlt)).1 (by simp [hc]) rfl ?_
        simp -implicitDefEqProofs [Cl.row, go_sem, -List.set_cons_succ, -List.set_cons_zero]
        refine row_int d.row (hmem _ (List.getElem_mem hlk)).1 (by simp [hd]) rfl ?_
        simp -implicitDefEqProofs [Cl.row, go_sem, -List.set_cons_succ, -List.set_cons_zero]
        refine qcall_tab c1 hf hH rfl ?_
        simp -implicitDefEqProofs [go_sem, -List.set_cons_succ, -List.set_cons_zero]
        refine qcall_tab d1 hf hH rfl ?_
        simp -implicitDefEqProofs [go_sem, -List.set_cons_succ, -List.set_cons_zero]
        refine qcall_pure (kfImpl_calls _ _) hf rfl ?_
        have hfa : fitAt p l i k = kfit c.head.key d.head.key := by simp [fitAt, hlt, hlk, hck, hdk]
        cases hft : kfit c.head.key d.head.key with
        | true =>
          simp -implicitDefEqProofs [detL_not hlt hki (hfa.trans hft), go_sem, -List.set_cons_succ, -List.set_cons_zero]
        | false =>
          simp -implicitDefEqProofs [hk1, go_sem, -List.set_cons_succ, -List.set_cons_zero]
          refine loop_back (k + 1) (by simp [setAll]) ⟨hki, fun k' hk' => ?_⟩ (by show i - (k + 1) < i - k; omega)
          rcases Nat.lt_succ_iff_lt_or_eq.1 hk' with h | rfl
          · exact hin k' h
          · exact hfa.trans hft
      · obtain rfl : k = i := by omega
        simp -implicitDefEqProofs [setAll, hi1, go_sem, -List.set_cons_succ, -List.set_cons_zero]
        refine loop_less (k + 1) (St.le_more ?_ (Obs.le_refl _)) ⟨hlt, fun i' hi' => ?_⟩ (by show l.length - (k + 1) < l.length - k; omega)
        · simp [setAll, Sl.le, A.le_refl_iff, A.le_u_iff, As.lo, A.lo, C.lo, Ref.lo, Cs.lo, Obs.lo, Ob.lo, setAll, and_true, true_and, List.length_nil, List.length_cons]
        · rcases Nat.lt_succ_iff_lt_or_eq.1 hi' with h | rfl
          · exact hall i' h
          · exact hin
end Go.Proofs.YtoipdmomgjdnaaaDoor
