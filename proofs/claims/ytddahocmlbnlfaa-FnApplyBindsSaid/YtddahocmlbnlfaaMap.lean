/-
  Variables of terms are replaced.
  Conditions: none.
-/
import Derived.Test.YtddahocmlbnlfaaBd
import Derived.Test.YtddahocmlbnlfaaListsA
open Go Go.AM Go.Proofs
namespace Go.Proofs.Ytddahocmlbnlfaa
open Go.ChangeShapes Go.WideShapes Go.ChangeAt Go.RowKit
set_option linter.unusedVariables false
set_option linter.unusedSimpArgs false
set_option maxRecDepth 100000
/-- the term that is bound to a variable -/
def bdFind (l : List Bd) (n : Int) : Option Tm := (l.find? fun b => decide (b.n = n)).map Bd.t
def bdTo (l : List Bd) (n : Int) : Tm := (bdFind l n).getD (.mk 1 n [] [])
mutual
/-- the variables of a term are replaced -/
def Tm.sub1 (f : Int → Tm) : Tm → Tm
  | .mk k n s l => if k = 1 then f n else .mk k n s (subL f l)
def subL (f : Int → Tm) : List Tm → List Tm
  | [] => []
  | t :: l => t.sub1 f :: subL f l
end
theorem subL_map (f : Int → Tm) : ∀ l : List Tm, subL f l = l.map (Tm.sub1 f)
  | [] => by rw [subL]; rfl
  | t :: l => by rw [subL, subL_map f l]; rfl
theorem sub1_mk (f : Int → Tm) (k n : Int) (s : List UInt8) (l : List Tm) : (Tm.mk k n s l).sub1 f = if k = 1 then f n else .mk k n s (l.map (Tm.sub1 f)) := by rw [Tm.sub1, subL_map]
theorem sub1_fits (f : Int → Tm) (hf : ∀ n, inR .i64 n → (f n).fits) : ∀ t : Tm, t.fits → (t.sub1 f).fits := by
  refine Tm.ind fun k n s l ih h => ?_
  obtain ⟨hk, hn, hs, hl, hkids⟩ := h
  rw [sub1_mk]
  split
  · exact hf n hn
  · refine .mk hk hn hs (by simpa using hl) fun t ht => ?_
    obtain ⟨x, hx, rfl⟩ := List.mem_map.1 ht
    exact ih x hx (hkids x hx)
theorem bdTo_fits {l : List Bd} (h : ∀ b ∈ l, b.fits) (n : Int) (hn : inR .i64 n) : (bdTo l n).fits := by
  unfold bdTo bdFind
  cases hx : l.find? fun b => decide (b.n = n) with
  | none => exact .mk (small_i64 (by omega) (by omega)) hn (by simp) (by simp) (by simp)
  | some b => exact (h b (List.mem_of_find?_eq_some hx)).t
-- 33 loop.example/prologserver/impl.variable params 1 ntmps 5
def ac33 : Cd := .seq (.region [⟨(some 2), .alloc [(.d (.int .i64 0)), (.d (.int .i64 0)), (.d (.str [])), (.full [])], none⟩] [])
  (.seq (.region [⟨(some 3), .mv (.t 0), none⟩,
      ⟨(some 4), .build [(.d (.int .i64 0)), (.d (.int .i64 0)), (.d (.str [])), (.full [])] [(0, 1, (.k (.c (.d (.int .i64 1))))), (1, 1, (.t 3))], none⟩,
      ⟨none, .store 4 (.t 2) (.t 4), none⟩] [0, 3, 4])
  (.ret))
theorem ac33_ok : cFunc Try.prog [] [(0, [], []), (1, [0, 3, 4], [])] Try.f33 = some (ac33, [.cell 2 (some 4)], 5) := by kernel_rfl
-- 32 loop.example/prologserver/impl.ApplyBinds$2$1 params 1 ntmps 8
def ac32 : Cd := .seq (.region [⟨(some 2), .box (.t 0), none⟩,
      ⟨(some 3), .mv (.k (.c (.d (.bool false)))), none⟩] [0, 3])
  (.seq (.region [⟨(some 4), .fieldAddr 0 (.t 2), none⟩,
      ⟨(some 5), .load none (.t 4), none⟩,
      ⟨(some 6), .load none (.t 1), none⟩,
      ⟨(some 7), .bin .eql (.t 5) (.t 6), none⟩,
      ⟨(some 3), .mv (.t 7), none⟩] [2, 4, 5, 6, 7])
  (.ret))
theorem ac32_ok : cFunc Try.prog [] [(0, [0, 3], []), (1, [2, 4, 5, 6, 7], [])] Try.f32 = some (ac32, [.tmp 3], 8) := by kernel_rfl
-- 30 loop.example/prologserver/impl.ApplyBinds$2 params 1 ntmps 17
def ac30 : Cd := .seq (.region [⟨(some 2), .box (.t 0), none⟩,
      ⟨(some 3), .alloc [(.d (.int .i64 0)), (.d (.int .i64 0)), (.d (.str [])), (.full [])], none⟩] [0])
  (.seq (.region [⟨(some 5), .load none (.t 1), none⟩,
      ⟨(some 6), .mkFunc 32 [(.t 2)], none⟩,
      ⟨(some 7), .qcall 31 [(.t 5), (.t 6)], none⟩,
      ⟨(some 4), .mv (.t 7), none⟩] [5, 6, 7])
  (.seq (.seq (.region [⟨(some 8), .mv (.t 4), none⟩,
        ⟨(some 9), .bin .lss (.t 8) (.k (.c (.d (.int .i64 0)))), none⟩] [8])
    (.cond (.t 9)
      (.seq (.region [⟨(some 10), .load none (.t 2), none⟩,
          ⟨(some 11), .qcall 33 [(.t 10)], none⟩,
          ⟨none, .store 4 (.t 3) (.t 11), none⟩] [2, 4, 9, 10, 11])
      (.ret))
      (.skip)))
  (.seq (.region [⟨(some 12), .load none (.t 1), none⟩,
      ⟨(some 13), .mv (.t 4), none⟩,
      ⟨(some 14), .indexAddr 5 (.t 12) (.t 13), none⟩,
      ⟨(some 15), .fieldAddr 1 (.t 14), none⟩,
      ⟨(some 16), .load (some 4) (.t 15), none⟩,
      ⟨none, .store 4 (.t 3) (.t 16), none⟩] [2, 4, 9, 12, 13, 14, 15, 16])
  (.ret))))
theorem ac30_ok : cFunc Try.prog [1000031, 1000033] [(0, [0], []), (1, [5, 6, 7], []), (2, [8], []), (3, [2, 4, 9, 10, 11], []), (4, [2, 4, 9, 12, 13, 14, 15, 16], [])] Try.f30 = some (ac30, [.cell 3 (some 4)], 17) := by kernel_rfl
-- 31 slices.IndexFunc[[]loop.example/prologserver/impl.Bind,loop.example/prologserver/impl.Bind] params 2 ntmps 19
-- loop head live: [0, 1, 7, 8]
def ac31 : Cd := .seq (.region [⟨(some 4), .mv (.k (.c (.d (.int .i64 0)))), none⟩] [4])
  (.seq (.seq (.region [⟨(some 6), .mv (.t 0), none⟩,
        ⟨(some 7), .len 1 (.t 6), none⟩,
        ⟨(some 8), .mv (.k (.c (.d (.int .i64 0)))), none⟩] [6])
    (.block 0 (.loop (.seq (.region [⟨(some 9), .bin .lss (.t 8) (.t 7), none⟩] [])
        (.seq (.cond (.t 9)
            (.skip)
            (.exit 0))
        (.seq (.block 1 (.seq (.region [⟨(some 10), .mv (.t 8), none⟩,
                ⟨(some 5), .mv (.t 10), none⟩] [9, 10])
            (.seq (.region [⟨(some 11), .mv (.t 1), none⟩,
                ⟨(some 12), .mv (.t 0), none⟩,
                ⟨(some 13), .mv (.t 5), none⟩,
                ⟨(some 14), .indexAddr 5 (.t 12) (.t 13), none⟩,
                ⟨(some 15), .load (some 5) (.t 14), none⟩,
                ⟨(some 16), .callv (.t 11) [(.t 15)], none⟩] [11, 12, 13, 14, 15])
            (.cond (.t 16)
              (.seq (.region [⟨(some 17), .mv (.t 5), none⟩,
                  ⟨(some 4), .mv (.t 17), none⟩] [0, 1, 5, 7, 8, 16, 17])
              (.ret))
              (.skip)))))
        (.region [⟨(some 18), .bin .add (.t 8) (.k (.c (.d (.int .i64 1)))), none⟩,
          ⟨(some 8), .mv (.t 18), none⟩] [4, 5, 16, 18])))))))
  (.seq (.region [⟨(some 4), .mv (.k (.c (.d (.int .i64 (-1))))), none⟩] [])
  (.ret)))
theorem ac31_ok : cFunc Try.prog [] [(0, [4], []), (1, [6], []), (2, [], []), (3, [9, 10], []), (4, [11, 12, 13, 14, 15], []), (5, [0, 1, 5, 7, 8, 16, 17], []), (6, [4, 5, 16, 18], []), (7, [], [])] Try.f31 = some (ac31, [.tmp 4], 19) := by kernel_rfl
-- 29 loop.example/prologserver/impl.mapVars params 2 ntmps 34
-- loop head live: [1, 2, 4, 18, 19, 20]
def ac29 : Cd := .seq (.region [⟨(some 2), .box (.t 0), none⟩,
      ⟨(some 4), .alloc [(.d (.int .i64 0)), (.d (.int .i64 0)), (.d (.str [])), (.full [])], none⟩] [0])
  (.seq (.seq (.region [⟨(some 8), .fieldAddr 0 (.t 2), none⟩,
        ⟨(some 9), .load none (.t 8), none⟩,
        ⟨(some 10), .bin .eql (.t 9) (.k (.c (.d (.int .i64 1)))), none⟩] [8, 9])
    (.cond (.t 10)
      (.seq (.region [⟨(some 11), .mv (.t 1), none⟩,
          ⟨(some 12), .fieldAddr 1 (.t 2), none⟩,
          ⟨(some 13), .load none (.t 12), none⟩,
          ⟨(some 14), .callv (.t 11) [(.t 13)], none⟩,
          ⟨none, .store 4 (.t 4) (.t 14), none⟩] [1, 2, 10, 11, 12, 13, 14])
      (.ret))
      (.skip)))
  (.seq (.region [⟨(some 15), .fieldAddr 3 (.t 2), none⟩,
      ⟨(some 16), .load none (.t 15), none⟩,
      ⟨(some 5), .mv (.t 16), none⟩] [10, 15, 16])
  (.seq (.region [⟨(some 17), .fieldAddr 3 (.t 2), none⟩,
      ⟨none, .store 1 (.t 17) (.k (.c (.full []))), none⟩] [17])
  (.seq (.seq (.region [⟨(some 18), .mv (.t 5), none⟩,
        ⟨(some 19), .len 1 (.t 18), none⟩,
        ⟨(some 20), .mv (.k (.c (.d (.int .i64 0)))), none⟩] [5])
    (.block 0 (.loop (.seq (.region [⟨(some 21), .bin .lss (.t 20) (.t 19), none⟩] [])
        (.seq (.cond (.t 21)
            (.skip)
            (.exit 0))
        (.seq (.block 1 (.seq (.region [⟨(some 22), .indexAddr 4 (.t 18) (.t 20), none⟩,
                ⟨(some 23), .load (some 4) (.t 22), none⟩,
                ⟨(some 7), .alloc [(.d (.int .i64 0)), (.d (.int .i64 0)), (.d (.str [])), (.full [])], none⟩,
                ⟨none, .store 4 (.t 7) (.t 23), none⟩] [21, 22, 23])
            (.region [⟨(some 24), .fieldAddr 3 (.t 2), none⟩,
              ⟨(some 27), .mv (.t 1), none⟩,
              ⟨(some 25), .load none (.t 24), none⟩,
              ⟨(some 26), .load (some 4) (.t 7), none⟩,
              ⟨(some 28), .qcall 29 [(.t 26), (.t 27)], none⟩,
              ⟨(some 29), .buildSlice 4 1 [(.int .i64 0), (.int .i64 0), (.str []), (.sl [])] [(0, (.t 28))], none⟩,
              ⟨(some 30), .append false 4 (.t 25) (.t 29), none⟩,
              ⟨(some 31), .fieldAddr 3 (.t 2), none⟩,
              ⟨none, .store 1 (.t 31) (.t 30), none⟩] [7, 24, 25, 26, 27, 28, 29, 30, 31])))
        (.region [⟨(some 32), .bin .add (.t 20) (.k (.c (.d (.int .i64 1)))), none⟩,
          ⟨(some 20), .mv (.t 32), none⟩] [32])))))))
  (.seq (.region [⟨(some 33), .load (some 4) (.t 2), none⟩,
      ⟨none, .store 4 (.t 4) (.t 33), none⟩] [2, 33])
  (.ret))))))
theorem ac29_ok : cFunc Try.prog [1000029] [(0, [0], []), (1, [8, 9], []), (2, [1, 2, 10, 11, 12, 13, 14], []), (3, [10, 15, 16], []), (4, [17], []), (5, [5], []), (6, [], []), (7, [21, 22, 23], []), (8, [7, 24, 25, 26, 27, 28, 29, 30, 31], [0, 3, 1, 2, 4, 5, 6, 7, 8]), (9, [32], []), (10, [2, 33], [])] Try.f29 = some (ac29, [.cell 4 (some 4)], 34) := by kernel_rfl
-- 58 loop.example/prologserver/spec.l3Find params 2 ntmps 26
-- loop head live: [0, 1, 4, 6]
def ac58 : Cd := .seq (.region [⟨(some 4), .alloc [(.d (.int .i64 0)), (.d (.int .i64 0)), (.d (.str [])), (.full [])], none⟩,
      ⟨(some 5), .mv (.k (.c (.d (.bool false)))), none⟩] [5])
  (.seq (.seq (.region [⟨(some 6), .mv (.k (.c (.d (.int .i64 0)))), none⟩] [])
    (.block 0 (.loop (.seq (.seq (.region [⟨(some 7), .mv (.t 6), none⟩,
              ⟨(some 8), .mv (.t 0), none⟩,
              ⟨(some 9), .len 1 (.t 8), none⟩,
              ⟨(some 10), .bin .lss (.t 7) (.t 9), none⟩] [7, 8, 9])
          (.cond (.t 10)
            (.skip)
            (.exit 0)))
        (.seq (.block 1 (.seq (.region [⟨(some 13), .mv (.t 0), none⟩,
                ⟨(some 14), .mv (.t 6), none⟩,
                ⟨(some 15), .indexAddr 5 (.t 13) (.t 14), none⟩,
                ⟨(some 16), .fieldAddr 0 (.t 15), none⟩,
                ⟨(some 17), .load none (.t 16), none⟩,
                ⟨(some 18), .mv (.t 1), none⟩,
                ⟨(some 19), .bin .eql (.t 17) (.t 18), none⟩] [10, 13, 14, 15, 16, 17, 18])
            (.cond (.t 19)
              (.seq (.region [⟨(some 20), .mv (.t 0), none⟩,
                  ⟨(some 21), .mv (.t 6), none⟩,
                  ⟨(some 22), .indexAddr 5 (.t 20) (.t 21), none⟩,
                  ⟨(some 23), .fieldAddr 1 (.t 22), none⟩,
                  ⟨(some 24), .load (some 4) (.t 23), none⟩,
                  ⟨none, .store 4 (.t 4) (.t 24), none⟩,
                  ⟨(some 5), .mv (.k (.c (.d (.bool true)))), none⟩] [0, 1, 6, 19, 20, 21, 22, 23, 24])
              (.ret))
              (.skip))))
        (.region [⟨(some 11), .mv (.t 6), none⟩,
          ⟨(some 12), .bin .add (.t 11) (.k (.c (.d (.int .i64 1)))), none⟩,
          ⟨(some 6), .mv (.t 12), none⟩] [5, 11, 12, 19]))))))
  (.seq (.region [⟨(some 25), .build [(.d (.int .i64 0)), (.d (.int .i64 0)), (.d (.str [])), (.full [])] [], none⟩,
      ⟨none, .store 4 (.t 4) (.t 25), none⟩,
      ⟨(some 5), .mv (.k (.c (.d (.bool false)))), none⟩] [25])
  (.ret)))
theorem ac58_ok : cFunc Try.prog [] [(0, [5], []), (1, [], []), (2, [7, 8, 9], []), (4, [10, 13, 14, 15, 16, 17, 18], []), (5, [0, 1, 6, 19, 20, 21, 22, 23, 24], []), (3, [5, 11, 12, 19], []), (6, [25], [])] Try.f58 = some (ac58, [.cell 4 (some 4), .tmp 5], 26) := by kernel_rfl
-- 35 loop.example/prologserver/spec.l3Apply params 2 ntmps 49
-- loop head live: [1, 2, 4, 7, 8]
def ac35 : Cd := .seq (.region [⟨(some 2), .box (.t 0), none⟩,
      ⟨(some 4), .alloc [(.d (.int .i64 0)), (.d (.int .i64 0)), (.d (.str [])), (.full [])], none⟩] [0])
  (.seq (.seq (.region [⟨(some 9), .fieldAddr 0 (.t 2), none⟩,
        ⟨(some 10), .load none (.t 9), none⟩,
        ⟨(some 11), .bin .eql (.t 10) (.k (.c (.d (.int .i64 1)))), none⟩] [9, 10])
    (.cond (.t 11)
      (.seq (.region [⟨(some 13), .mv (.t 1), none⟩,
          ⟨(some 14), .fieldAddr 1 (.t 2), none⟩,
          ⟨(some 15), .load none (.t 14), none⟩,
          ⟨(some 16), .qcall 58 [(.t 13), (.t 15)], none⟩,
          ⟨(some 12), .mv (.t 16), none⟩,
          ⟨(some 17), .extract 0 (.t 12), none⟩,
          ⟨(some 18), .extract 1 (.t 12), none⟩,
          ⟨(some 5), .alloc [(.d (.int .i64 0)), (.d (.int .i64 0)), (.d (.str [])), (.full [])], none⟩,
          ⟨none, .store 4 (.t 5) (.t 17), none⟩,
          ⟨(some 6), .mv (.t 18), none⟩] [11, 12, 13, 14, 15, 16, 17, 18])
      (.seq (.region [⟨(some 19), .mv (.t 6), none⟩] [6])
      (.cond (.t 19)
        (.seq (.region [⟨(some 20), .load (some 4) (.t 5), none⟩,
            ⟨(some 21), .qcall 48 [(.t 20)], none⟩,
            ⟨none, .store 4 (.t 4) (.t 21), none⟩] [1, 2, 5, 19, 20, 21])
        (.ret))
        (.skip))))
      (.skip)))
  (.seq (.region [⟨(some 22), .fieldAddr 0 (.t 2), none⟩,
      ⟨(some 23), .load none (.t 22), none⟩,
      ⟨(some 24), .fieldAddr 1 (.t 2), none⟩,
      ⟨(some 25), .load none (.t 24), none⟩,
      ⟨(some 26), .fieldAddr 2 (.t 2), none⟩,
      ⟨(some 27), .load none (.t 26), none⟩,
      ⟨(some 28), .build [(.d (.int .i64 0)), (.d (.int .i64 0)), (.d (.str [])), (.full [])] [(0, 1, (.t 23)), (1, 1, (.t 25)), (2, 1, (.t 27))], none⟩,
      ⟨(some 7), .alloc [(.d (.int .i64 0)), (.d (.int .i64 0)), (.d (.str [])), (.full [])], none⟩,
      ⟨none, .store 4 (.t 7) (.t 28), none⟩] [5, 11, 19, 22, 23, 24, 25, 26, 27, 28])
  (.seq (.seq (.region [⟨(some 8), .mv (.k (.c (.d (.int .i64 0)))), none⟩] [])
    (.block 0 (.loop (.seq (.seq (.region [⟨(some 29), .mv (.t 8), none⟩,
              ⟨(some 30), .fieldAddr 3 (.t 2), none⟩,
              ⟨(some 31), .load none (.t 30), none⟩,
              ⟨(some 32), .len 1 (.t 31), none⟩,
              ⟨(some 33), .bin .lss (.t 29) (.t 32), none⟩] [29, 30, 31, 32])
          (.cond (.t 33)
            (.skip)
            (.exit 0)))
        (.seq (.block 1 (.region [⟨(some 36), .fieldAddr 3 (.t 7), none⟩,
              ⟨(some 38), .fieldAddr 3 (.t 2), none⟩,
              ⟨(some 40), .mv (.t 8), none⟩,
              ⟨(some 43), .mv (.t 1), none⟩,
              ⟨(some 37), .load none (.t 36), none⟩,
              ⟨(some 39), .load none (.t 38), none⟩,
              ⟨(some 41), .indexAddr 4 (.t 39) (.t 40), none⟩,
              ⟨(some 42), .load (some 4) (.t 41), none⟩,
              ⟨(some 44), .qcall 35 [(.t 42), (.t 43)], none⟩,
              ⟨(some 45), .buildSlice 4 1 [(.int .i64 0), (.int .i64 0), (.str []), (.sl [])] [(0, (.t 44))], none⟩,
              ⟨(some 46), .append false 4 (.t 37) (.t 45), none⟩,
              ⟨(some 47), .fieldAddr 3 (.t 7), none⟩,
              ⟨none, .store 1 (.t 47) (.t 46), none⟩] [33, 36, 37, 38, 39, 40, 41, 42, 43, 44, 45, 46, 47]))
        (.region [⟨(some 34), .mv (.t 8), none⟩,
          ⟨(some 35), .bin .add (.t 34) (.k (.c (.d (.int .i64 1)))), none⟩,
          ⟨(some 8), .mv (.t 35), none⟩] [34, 35]))))))
  (.seq (.region [⟨(some 48), .load (some 4) (.t 7), none⟩,
      ⟨none, .store 4 (.t 4) (.t 48), none⟩] [7, 48])
  (.ret)))))
theorem ac35_ok : cFunc Try.prog [1000035, 1000048, 1000058] [(0, [0], []), (1, [9, 10], []), (2, [11, 12, 13, 14, 15, 16, 17, 18], []), (3, [6], []), (4, [1, 2, 5, 19, 20, 21], []), (5, [5, 11, 19, 22, 23, 24, 25, 26, 27, 28], []), (6, [], []), (7, [29, 30, 31, 32], []), (9, [33, 36, 37, 38, 39, 40, 41, 42, 43, 44, 45, 46, 47], [0, 2, 4, 7, 1, 3, 5, 6, 8, 9, 10, 11, 12]), (8, [34, 35], []), (10, [7, 48], [])] Try.f35 = some (ac35, [.cell 4 (some 4)], 49) := by kernel_rfl
theorem variable_calls (n : Int) (H : Heap) : ACalls Try.prog 33 [.c (.d (.int .i64 n))] H (fun r H' => H' = H ∧ r = .agg ((Tm.mk 1 n [] []).row.map .d)) := by
  refine acalls Try.func33 (by kernel_rfl) ac33_ok fun hf => ?_
  simp -implicitDefEqProofs [ac33, row_mk, hf, aw_skip, aw_region, aw_seq, aw_block, aw_cond, aw_exit, aw_ret, kq_nil, kq_seq, kq_seq_ret, kq_seq_exit, kq_block, kq_block_ret, kq_block_exit, kq_loop, kq_loop_ret, kq_loop_exit, awOps_nil, awOps_cons, awOps_guardE, nx_eq, awOp, ev_k, ev_0, ev_1, ev_2, ev_3, ev_4, ev_5, ev_6, ev_7, ev_8, set_0, set_1, set_2, set_3, set_4, set_5, set_6, set_7, set_8, -List.set_cons_succ, -List.set_cons_zero, A.ok, A.val, setSl, wrapG, guardB, getB, pickA, binA, binC, binD, cmpD, isCmp, unA, unD, lenA, AOp.total, kills, litB, FinQ, resOks, resOk, resA, resList, resOne, A.thaw, C.thaw, A.fits, As.fits, C.fits, evs, oks, callArgs, A.pure, C.pure, A.re, C.re, fieldAddrA, loadC, cut, A.cells, C.rows?, getOb, newOb, setOb, storeC, splice, Ob.re, Cs.fits, partsA, partsOk, parts2A, parts2Ok, fillC, fillRows, optInt, optOk, sliceA, clipC, optK_some, storeK_some, Option.map_some, toDs, C.toD, spliceD, appendA, capsOf, srcRows, allLen_nil_iff, allLen_cons_iff, allLen_append_iff, dropC, Obs.fits, eqCs, eqD, mapRow, mapPut, mapVal, mapOne, mapCells]
/-- the closure that looks for a variable: the variable stands in a cell -/
theorem isN_calls (b : Bd) (hb : b.fits) (n : Int) (H : Heap) (i : Nat) (hi : H[i]? = some (.cells [.d (.int .i64 n)])) : ACalls Try.prog 32 [.agg (b.row.map .d), .c (.ptr (.e i) 0)] H (fun r H' => H' = H ∧ r = .c (.d (.bool (decide (b.n = n))))) := by
  have hgi : H[i]?.getD .dead = .cells [.d (.int .i64 n)] := by simp [hi]
  refine acalls Try.func32 (by kernel_rfl) ac32_ok fun hf => ?_
  simp -implicitDefEqProofs [ac32, Bd.row, hi, hf, aw_skip, aw_region, aw_seq, aw_block, aw_cond, aw_exit, aw_ret, kq_nil, kq_seq, kq_seq_ret, kq_seq_exit, kq_block, kq_block_ret, kq_block_exit, kq_loop, kq_loop_ret, kq_loop_exit, awOps_nil, awOps_cons, awOps_guardE, nx_eq, awOp, ev_k, ev_0, ev_1, ev_2, ev_3, ev_4, ev_5, ev_6, ev_7, ev_8, set_0, set_1, set_2, set_3, set_4, set_5, set_6, set_7, set_8, -List.set_cons_succ, -List.set_cons_zero, A.ok, A.val, setSl, wrapG, guardB, getB, pickA, binA, binC, binD, cmpD, isCmp, unA, unD, lenA, AOp.total, kills, litB, FinQ, resOks, resOk, resA, resList, resOne, A.thaw, C.thaw, A.fits, As.fits, C.fits, evs, oks, callArgs, A.pure, C.pure, A.re, C.re, fieldAddrA, loadC, cut, A.cells, C.rows?, getOb, newOb, setOb, storeC, splice, Ob.re, Cs.fits, partsA, partsOk, parts2A, parts2Ok, fillC, fillRows, optInt, optOk, sliceA, clipC, optK_some, storeK_some, Option.map_some, toDs, C.toD, spliceD, appendA, capsOf, srcRows, allLen_nil_iff, allLen_cons_iff, allLen_append_iff, dropC, Obs.fits, eqCs, eqD, mapRow, mapPut, mapVal, mapOne, mapCells]
  rfl
def idxN (l : List Bd) (n : Int) : Int := match l.findIdx? (fun b => decide (b.n = n)) with | some i => i | none => -1
theorem idxN_calls (l : List Bd) (hl : FitsB l) (n : Int) (H : Heap) (i : Nat) (hi : H[i]? = some (.cells [.d (.int .i64 n)])) : ACalls Try.prog 31 [.c (.d (.sl (l.map Bd.row))), .c (.fn 32 [(.e i, 0)])] H (fun r H' => H' = H ∧ r = .c (.d (.int .i64 (idxN l n)))) := by
  have hlb := hl.1
  have hli : inR .i64 (l.length : Int) := small_i64 (by omega) (by omega)
  refine acalls Try.func31 (by kernel_rfl) ac31_ok fun hf => ?_
  simp -implicitDefEqProofs [ac31, hli, aw_skip, aw_region, aw_seq, aw_block, aw_cond, aw_exit, aw_ret, kq_nil, kq_seq, kq_seq_ret, kq_seq_exit, kq_block, kq_block_ret, kq_block_exit, kq_loop, kq_loop_ret, kq_loop_exit, awOps_nil, awOps_cons, awOps_guardE, nx_eq, awOp, ev_k, ev_0, ev_1, ev_2, ev_3, ev_4, ev_5, ev_6, ev_7, ev_8, set_0, set_1, set_2, set_3, set_4, set_5, set_6, set_7, set_8, -List.set_cons_succ, -List.set_cons_zero, A.ok, A.val, setSl, wrapG, guardB, getB, pickA, binA, binC, binD, cmpD, isCmp, unA, unD, lenA, AOp.total, kills, litB, FinQ, resOks, resOk, resA, resList, resOne, A.thaw, C.thaw, A.fits, As.fits, C.fits, evs, oks, callArgs, A.pure, C.pure, A.re, C.re, fieldAddrA, loadC, cut, A.cells, C.rows?, getOb, newOb, setOb, storeC, splice, Ob.re, Cs.fits, partsA, partsOk, parts2A, parts2Ok, fillC, fillRows, optInt, optOk, sliceA, clipC, optK_some, storeK_some, Option.map_some, toDs, C.toD, spliceD, appendA, capsOf, srcRows, allLen_nil_iff, allLen_cons_iff, allLen_append_iff, dropC, Obs.fits, eqCs, eqD, mapRow, mapPut, mapVal, mapOne, mapCells]
  refine loop_set (σ := Nat) (fun j => [(8, .c (.d (.int .i64 j)))]) (fun _ => H) (fun _ => []) (fun j => j ≤ l.length ∧ ∀ b ∈ l.take j, ¬ b.n = n) (fun j => l.length - j) 0 rfl ⟨Nat.zero_le _, by simp⟩ ?_
  rintro j ⟨hj, hno⟩
  simp -implicitDefEqProofs [setAll, hli, aw_skip, aw_region, aw_seq, aw_block, aw_cond, aw_exit, aw_ret, kq_nil, kq_seq, kq_seq_ret, kq_seq_exit, kq_block, kq_block_ret, kq_block_exit, kq_loop, kq_loop_ret, kq_loop_exit, awOps_nil, awOps_cons, awOps_guardE, nx_eq, awOp, ev_k, ev_0, ev_1, ev_2, ev_3, ev_4, ev_5, ev_6, ev_7, ev_8, set_0, set_1, set_2, set_3, set_4, set_5, set_6, set_7, set_8, -List.set_cons_succ, -List.set_cons_zero, A.ok, A.val, setSl, wrapG, guardB, getB, pickA, binA, binC, binD, cmpD, isCmp, unA, unD, lenA, AOp.total, kills, litB, FinQ, resOks, resOk, resA, resList, resOne, A.thaw, C.thaw, A.fits, As.fits, C.fits, evs, oks, callArgs, A.pure, C.pure, A.re, C.re, fieldAddrA, loadC, cut, A.cells, C.rows?, getOb, newOb, setOb, storeC, splice, Ob.re, Cs.fits, partsA, partsOk, parts2A, parts2Ok, fillC, fillRows, optInt, optOk, sliceA, clipC, optK_some, storeK_some, Option.map_some, toDs, C.toD, spliceD, appendA, capsOf, srcRows, allLen_nil_iff, allLen_cons_iff, allLen_append_iff, dropC, Obs.fits, eqCs, eqD, mapRow, mapPut, mapVal, mapOne, mapCells]
  refine ⟨fun hjl => ?_, fun hje => ?_⟩
  · refine row_of hjl rfl ?_
    simp -implicitDefEqProofs [bdrow_len, take_bdrow, pure_d, re_d, aw_skip, aw_region, aw_seq, aw_block, aw_cond, aw_exit, aw_ret, kq_nil, kq_seq, kq_seq_ret, kq_seq_exit, kq_block, kq_block_ret, kq_block_exit, kq_loop, kq_loop_ret, kq_loop_exit, awOps_nil, awOps_cons, awOps_guardE, nx_eq, awOp, ev_k, ev_0, ev_1, ev_2, ev_3, ev_4, ev_5, ev_6, ev_7, ev_8, set_0, set_1, set_2, set_3, set_4, set_5, set_6, set_7, set_8, -List.set_cons_succ, -List.set_cons_zero, A.ok, A.val, setSl, wrapG, guardB, getB, pickA, binA, binC, binD, cmpD, isCmp, unA, unD, lenA, AOp.total, kills, litB, FinQ, resOks, resOk, resA, resList, resOne, A.thaw, C.thaw, A.fits, As.fits, C.fits, evs, oks, callArgs, A.pure, C.pure, A.re, C.re, fieldAddrA, loadC, cut, A.cells, C.rows?, getOb, newOb, setOb, storeC, splice, Ob.re, Cs.fits, partsA, partsOk, parts2A, parts2Ok, fillC, fillRows, optInt, optOk, sliceA, clipC, optK_some, storeK_some, Option.map_some, toDs, C.toD, spliceD, appendA, capsOf, srcRows, allLen_nil_iff, allLen_cons_iff, allLen_append_iff, dropC, Obs.fits, eqCs, eqD, mapRow, mapPut, mapVal, mapOne, mapCells]
    have hadd : inR .i64 ((j : Int) + 1) := small_i64 (by omega) (by omega)
    refine call_same (isN_calls l[j] (hl.2 _ (List.getElem_mem hjl)) n _ i hi) (by simp) rfl hf ?_
    simp -implicitDefEqProofs [hadd, aw_skip, aw_region, aw_seq, aw_block, aw_cond, aw_exit, aw_ret, kq_nil, kq_seq, kq_seq_ret, kq_seq_exit, kq_block, kq_block_ret, kq_block_exit, kq_loop, kq_loop_ret, kq_loop_exit, awOps_nil, awOps_cons, awOps_guardE, nx_eq, awOp, ev_k, ev_0, ev_1, ev_2, ev_3, ev_4, ev_5, ev_6, ev_7, ev_8, set_0, set_1, set_2, set_3, set_4, set_5, set_6, set_7, set_8, -List.set_cons_succ, -List.set_cons_zero, A.ok, A.val, setSl, wrapG, guardB, getB, pickA, binA, binC, binD, cmpD, isCmp, unA, unD, lenA, AOp.total, kills, litB, FinQ, resOks, resOk, resA, resList, resOne, A.thaw, C.thaw, A.fits, As.fits, C.fits, evs, oks, callArgs, A.pure, C.pure, A.re, C.re, fieldAddrA, loadC, cut, A.cells, C.rows?, getOb, newOb, setOb, storeC, splice, Ob.re, Cs.fits, partsA, partsOk, parts2A, parts2Ok, fillC, fillRows, optInt, optOk, sliceA, clipC, optK_some, storeK_some, Option.map_some, toDs, C.toD, spliceD, appendA, capsOf, srcRows, allLen_nil_iff, allLen_cons_iff, allLen_append_iff, dropC, Obs.fits, eqCs, eqD, mapRow, mapPut, mapVal, mapOne, mapCells]
    refine ⟨fun he => ?_, fun he => ?_⟩
    · have : l.findIdx? (fun b => decide (b.n = n)) = some j := by
        rw [List.findIdx?_eq_some_iff_getElem]
        refine ⟨hjl, by simpa using he, fun m hm => ?_⟩
        have := hno l[m] (by rw [List.mem_iff_getElem]; exact ⟨m, by simp; omega, by simp⟩)
        simpa using this
      rw [idxN, this]
    · refine loop_back (j + 1) (by simp [setAll]) ⟨hjl, fun b hb => ?_⟩ (by show l.length - (j + 1) < l.length - j; omega)
      rw [List.take_succ_eq_append_getElem hjl, List.mem_append] at hb
      rcases hb with hb | hb
      · exact hno b hb
      · simp at hb; subst hb; exact he
  · rw [List.take_of_length_le hje] at hno
    have : l.findIdx? (fun b => decide (b.n = n)) = none := by
      rw [List.findIdx?_eq_none_iff]
      intro b hb
      simpa using hno b hb
    rw [idxN, this]
theorem idx_find (l : List Bd) (n : Int) : (idxN l n < 0 → bdFind l n = none) ∧ ∀ (h : 0 ≤ idxN l n), ∃ h' : (idxN l n).toNat < l.length, bdFind l n = some l[(idxN l n).toNat].t := by
  unfold idxN bdFind
  cases h : l.findIdx? (fun b => decide (b.n = n)) with
  | none =>
    refine ⟨fun _ => ?_, fun h' => by simp at h'⟩
    rw [List.findIdx?_eq_none_iff] at h
    rw [List.find?_eq_none.2]
    · rfl
    · intro b hb; simpa using h b hb
  | some i =>
    refine ⟨fun h' => by simp at h'; omega, fun _ => ?_⟩
    obtain ⟨h1, h2, h3⟩ := List.findIdx?_eq_some_iff_getElem.1 h
    refine ⟨by simpa using h1, ?_⟩
    have : l.find? (fun b => decide (b.n = n)) = some l[i] := by
      rw [List.find?_eq_some_iff_getElem]
      exact ⟨h2, i, h1, rfl, fun j hj => by have := h3 j hj; simpa using this⟩
    rw [this]
    simp
theorem grown_loc {ext loc ext' loc' : Heap} {i : Nat} {o : Ob} (hg : Grown ext loc ext' loc') (h : loc[i]? = some o) (h1 : o ≠ .dead) (h2 : ∀ p s, o ≠ .grow p s) : (ext' ++ loc'.map (Ob.re ext.length))[ext.length + i]? = some (Ob.re ext.length o) := by
  have := hg.same i o (by simp [List.getD, h]) h1 h2
  rw [List.getElem?_append_right (by rw [hg.1]; omega), hg.1, Nat.add_sub_cancel_left, List.getElem?_map]
  rcases Nat.lt_or_ge i loc'.length with h4 | h4
  · simp only [List.getD, List.getElem?_eq_getElem h4, Option.getD_some] at this
    rw [List.getElem?_eq_getElem h4, this]; rfl
  · simp only [List.getD, List.getElem?_eq_none h4, Option.getD_none] at this
    exact absurd this.symm h1
theorem grown_ext {ext loc ext' loc' : Heap} {i : Nat} {o : Ob} (hg : Grown ext loc ext' loc') (h : ext[i]? = some o) (h1 : o ≠ .dead) (h2 : ∀ p s, o ≠ .grow p s) : (ext' ++ loc'.map (Ob.re ext.length))[i]? = some o := by
  have hi := (List.getElem?_eq_some_iff.1 h).1
  have := hg.2.2 [] [] (.e i) o (by simp [getOb, List.getD, h]) h1 h2
  simp only [getOb, List.getD] at this
  rw [List.getElem?_append_left (by rw [hg.1]; exact hi)]
  rw [List.getElem?_eq_getElem (by rw [hg.1]; exact hi)] at this ⊢
  simpa using this
/-- the closure that gives the term for a variable: the bindings stand in a cell -/
theorem toB_calls (l : List Bd) (hl : FitsB l) (n : Int) (hn : inR .i64 n) (H : Heap) (i : Nat) (hi : H[i]? = some (.cells [.d (.sl (l.map Bd.row))])) : ACalls Try.prog 30 [.c (.d (.int .i64 n)), .c (.ptr (.e i) 0)] H (fun r H' => H' = H ∧ r = .agg ((bdTo l n).row.map .d)) := by
  have hli : inR .i64 (l.length : Int) := small_i64 (by have := hl.1; omega) (by have := hl.1; omega)
  refine acalls Try.func30 (by kernel_rfl) ac30_ok fun hf => ?_
  simp -implicitDefEqProofs [ac30, hi, hf, aw_skip, aw_region, aw_seq, aw_block, aw_cond, aw_exit, aw_ret, kq_nil, kq_seq, kq_seq_ret, kq_seq_exit, kq_block, kq_block_ret, kq_block_exit, kq_loop, kq_loop_ret, kq_loop_exit, awOps_nil, awOps_cons, awOps_guardE, nx_eq, awOp, ev_k, ev_0, ev_1, ev_2, ev_3, ev_4, ev_5, ev_6, ev_7, ev_8, set_0, set_1, set_2, set_3, set_4, set_5, set_6, set_7, set_8, -List.set_cons_succ, -List.set_cons_zero, A.ok, A.val, setSl, wrapG, guardB, getB, pickA, binA, binC, binD, cmpD, isCmp, unA, unD, lenA, AOp.total, kills, litB, FinQ, resOks, resOk, resA, resList, resOne, A.thaw, C.thaw, A.fits, As.fits, C.fits, evs, oks, callArgs, A.pure, C.pure, A.re, C.re, fieldAddrA, loadC, cut, A.cells, C.rows?, getOb, newOb, setOb, storeC, splice, Ob.re, Cs.fits, partsA, partsOk, parts2A, parts2Ok, fillC, fillRows, optInt, optOk, sliceA, clipC, optK_some, storeK_some, Option.map_some, toDs, C.toD, spliceD, appendA, capsOf, srcRows, allLen_nil_iff, allLen_cons_iff, allLen_append_iff, dropC, Obs.fits, eqCs, eqD, mapRow, mapPut, mapVal, mapOne, mapCells]
  refine ⟨hf, _, rfl, fun st' hg => idxN_calls l hl n _ _ (grown_loc (i := 0) hg rfl (by simp) (by simp)), ?_⟩
  obtain ⟨x1, x2⟩ := idx_find l n
  simp -implicitDefEqProofs [hf, aw_skip, aw_region, aw_seq, aw_block, aw_cond, aw_exit, aw_ret, kq_nil, kq_seq, kq_seq_ret, kq_seq_exit, kq_block, kq_block_ret, kq_block_exit, kq_loop, kq_loop_ret, kq_loop_exit, awOps_nil, awOps_cons, awOps_guardE, nx_eq, awOp, ev_k, ev_0, ev_1, ev_2, ev_3, ev_4, ev_5, ev_6, ev_7, ev_8, set_0, set_1, set_2, set_3, set_4, set_5, set_6, set_7, set_8, -List.set_cons_succ, -List.set_cons_zero, A.ok, A.val, setSl, wrapG, guardB, getB, pickA, binA, binC, binD, cmpD, isCmp, unA, unD, lenA, AOp.total, kills, litB, FinQ, resOks, resOk, resA, resList, resOne, A.thaw, C.thaw, A.fits, As.fits, C.fits, evs, oks, callArgs, A.pure, C.pure, A.re, C.re, fieldAddrA, loadC, cut, A.cells, C.rows?, getOb, newOb, setOb, storeC, splice, Ob.re, Cs.fits, partsA, partsOk, parts2A, parts2Ok, fillC, fillRows, optInt, optOk, sliceA, clipC, optK_some, storeK_some, Option.map_some, toDs, C.toD, spliceD, appendA, capsOf, srcRows, allLen_nil_iff, allLen_cons_iff, allLen_append_iff, dropC, Obs.fits, eqCs, eqD, mapRow, mapPut, mapVal, mapOne, mapCells]
  refine ⟨fun hneg => ?_, fun hpos => ?_⟩
  · have hb : bdTo l n = .mk 1 n [] [] := by rw [bdTo, x1 hneg]; rfl
    rw [hb]
    refine qcall_pure (variable_calls n) hf (by simp [A.re, re_d]) ?_
    simp -implicitDefEqProofs [row_len, take_row, pure_d, re_d, hf, aw_skip, aw_region, aw_seq, aw_block, aw_cond, aw_exit, aw_ret, kq_nil, kq_seq, kq_seq_ret, kq_seq_exit, kq_block, kq_block_ret, kq_block_exit, kq_loop, kq_loop_ret, kq_loop_exit, awOps_nil, awOps_cons, awOps_guardE, nx_eq, awOp, ev_k, ev_0, ev_1, ev_2, ev_3, ev_4, ev_5, ev_6, ev_7, ev_8, set_0, set_1, set_2, set_3, set_4, set_5, set_6, set_7, set_8, -List.set_cons_succ, -List.set_cons_zero, A.ok, A.val, setSl, wrapG, guardB, getB, pickA, binA, binC, binD, cmpD, isCmp, unA, unD, lenA, AOp.total, kills, litB, FinQ, resOks, resOk, resA, resList, resOne, A.thaw, C.thaw, A.fits, As.fits, C.fits, evs, oks, callArgs, A.pure, C.pure, A.re, C.re, fieldAddrA, loadC, cut, A.cells, C.rows?, getOb, newOb, setOb, storeC, splice, Ob.re, Cs.fits, partsA, partsOk, parts2A, parts2Ok, fillC, fillRows, optInt, optOk, sliceA, clipC, optK_some, storeK_some, Option.map_some, toDs, C.toD, spliceD, appendA, capsOf, srcRows, allLen_nil_iff, allLen_cons_iff, allLen_append_iff, dropC, Obs.fits, eqCs, eqD, mapRow, mapPut, mapVal, mapOne, mapCells]
    simp [thaw_d, fits_map]
  · obtain ⟨h', hx⟩ := x2 hpos
    have hb : bdTo l n = l[(idxN l n).toNat].t := by rw [bdTo, hx]; rfl
    rw [hb]
    simp -implicitDefEqProofs [hi, aw_skip, aw_region, aw_seq, aw_block, aw_cond, aw_exit, aw_ret, kq_nil, kq_seq, kq_seq_ret, kq_seq_exit, kq_block, kq_block_ret, kq_block_exit, kq_loop, kq_loop_ret, kq_loop_exit, awOps_nil, awOps_cons, awOps_guardE, nx_eq, awOp, ev_k, ev_0, ev_1, ev_2, ev_3, ev_4, ev_5, ev_6, ev_7, ev_8, set_0, set_1, set_2, set_3, set_4, set_5, set_6, set_7, set_8, -List.set_cons_succ, -List.set_cons_zero, A.ok, A.val, setSl, wrapG, guardB, getB, pickA, binA, binC, binD, cmpD, isCmp, unA, unD, lenA, AOp.total, kills, litB, FinQ, resOks, resOk, resA, resList, resOne, A.thaw, C.thaw, A.fits, As.fits, C.fits, evs, oks, callArgs, A.pure, C.pure, A.re, C.re, fieldAddrA, loadC, cut, A.cells, C.rows?, getOb, newOb, setOb, storeC, splice, Ob.re, Cs.fits, partsA, partsOk, parts2A, parts2Ok, fillC, fillRows, optInt, optOk, sliceA, clipC, optK_some, storeK_some, Option.map_some, toDs, C.toD, spliceD, appendA, capsOf, srcRows, allLen_nil_iff, allLen_cons_iff, allLen_append_iff, dropC, Obs.fits, eqCs, eqD, mapRow, mapPut, mapVal, mapOne, mapCells]
    refine row_int l[(idxN l n).toNat].row hpos (by simp [h']) rfl ?_
    rw [row_eq]
    simp -implicitDefEqProofs [Bd.row, hf, aw_skip, aw_region, aw_seq, aw_block, aw_cond, aw_exit, aw_ret, kq_nil, kq_seq, kq_seq_ret, kq_seq_exit, kq_block, kq_block_ret, kq_block_exit, kq_loop, kq_loop_ret, kq_loop_exit, awOps_nil, awOps_cons, awOps_guardE, nx_eq, awOp, ev_k, ev_0, ev_1, ev_2, ev_3, ev_4, ev_5, ev_6, ev_7, ev_8, set_0, set_1, set_2, set_3, set_4, set_5, set_6, set_7, set_8, -List.set_cons_succ, -List.set_cons_zero, A.ok, A.val, setSl, wrapG, guardB, getB, pickA, binA, binC, binD, cmpD, isCmp, unA, unD, lenA, AOp.total, kills, litB, FinQ, resOks, resOk, resA, resList, resOne, A.thaw, C.thaw, A.fits, As.fits, C.fits, evs, oks, callArgs, A.pure, C.pure, A.re, C.re, fieldAddrA, loadC, cut, A.cells, C.rows?, getOb, newOb, setOb, storeC, splice, Ob.re, Cs.fits, partsA, partsOk, parts2A, parts2Ok, fillC, fillRows, optInt, optOk, sliceA, clipC, optK_some, storeK_some, Option.map_some, toDs, C.toD, spliceD, appendA, capsOf, srcRows, allLen_nil_iff, allLen_cons_iff, allLen_append_iff, dropC, Obs.fits, eqCs, eqD, mapRow, mapPut, mapVal, mapOne, mapCells]
/-- the terms of a list are replaced one by one -/
theorem subs_succ (f : Int → Tm) {l : List Tm} {i : Nat} (h : i < l.length) : ((l.map (Tm.sub1 f)).map Tm.row).take (i + 1) = ((l.map (Tm.sub1 f)).map Tm.row).take i ++ [(l[i].sub1 f).row] := by
  have := take_map_succ (l := l.map (Tm.sub1 f)) (i := i) (by simpa using h)
  simpa using this
theorem mapVars_calls (bs : List Bd) (hbs : FitsB bs) : ∀ t : Tm, t.fits → ∀ (H : Heap) (i : Nat), H[i]? = some (.cells [.d (.sl (bs.map Bd.row))]) →
    ACalls Try.prog 29 [.agg (t.row.map .d), .c (.fn 30 [(.e i, 0)])] H (fun r H' => H' = H ∧ r = .agg ((t.sub1 (bdTo bs)).row.map .d)) := by
  refine Tm.ind fun k n s l ih hfits H p hp => ?_
  obtain ⟨hk, hn, hs, hl, hkids⟩ := hfits
  refine acalls Try.func29 (by kernel_rfl) ac29_ok fun hf => ?_
  have hli : inR .i64 (l.length : Int) := small_i64 (by omega) (by omega)
  rw [sub1_mk]
  simp -implicitDefEqProofs [ac29, row_mk, hf, hli, aw_skip, aw_region, aw_seq, aw_block, aw_cond, aw_exit, aw_ret, kq_nil, kq_seq, kq_seq_ret, kq_seq_exit, kq_block, kq_block_ret, kq_block_exit, kq_loop, kq_loop_ret, kq_loop_exit, awOps_nil, awOps_cons, awOps_guardE, nx_eq, awOp, ev_k, ev_0, ev_1, ev_2, ev_3, ev_4, ev_5, ev_6, ev_7, ev_8, set_0, set_1, set_2, set_3, set_4, set_5, set_6, set_7, set_8, -List.set_cons_succ, -List.set_cons_zero, A.ok, A.val, setSl, wrapG, guardB, getB, pickA, binA, binC, binD, cmpD, isCmp, unA, unD, lenA, AOp.total, kills, litB, FinQ, resOks, resOk, resA, resList, resOne, A.thaw, C.thaw, A.fits, As.fits, C.fits, evs, oks, callArgs, A.pure, C.pure, A.re, C.re, fieldAddrA, loadC, cut, A.cells, C.rows?, getOb, newOb, setOb, storeC, splice, Ob.re, Cs.fits, partsA, partsOk, parts2A, parts2Ok, fillC, fillRows, optInt, optOk, sliceA, clipC, optK_some, storeK_some, Option.map_some, toDs, C.toD, spliceD, appendA, capsOf, srcRows, allLen_nil_iff, allLen_cons_iff, allLen_append_iff, dropC, Obs.fits, eqCs, eqD, mapRow, mapPut, mapVal, mapOne, mapCells]
  refine ⟨fun hk1 => ?_, fun hk1 => ?_⟩
  · rw [if_pos hk1]
    have hb := toB_calls bs hbs n hn (H ++ [Ob.cells [C.d (D.int IntKind.i64 k), C.d (D.int IntKind.i64 n), C.d (D.str s), C.d (D.sl (l.map Tm.row))], Ob.cells [C.d (D.int IntKind.i64 0), C.d (D.int IntKind.i64 0), C.d (D.str []), C.full []]]) p (by rw [List.getElem?_append_left (List.getElem?_eq_some_iff.1 hp).1]; exact hp)
    refine call_same hb (by simp [Ob.re, C.re]) (by simp [A.re, re_d]) hf ?_
    simp -implicitDefEqProofs [row_len, take_row, pure_d, re_d, thaw_d, fits_map, hf, aw_skip, aw_region, aw_seq, aw_block, aw_cond, aw_exit, aw_ret, kq_nil, kq_seq, kq_seq_ret, kq_seq_exit, kq_block, kq_block_ret, kq_block_exit, kq_loop, kq_loop_ret, kq_loop_exit, awOps_nil, awOps_cons, awOps_guardE, nx_eq, awOp, ev_k, ev_0, ev_1, ev_2, ev_3, ev_4, ev_5, ev_6, ev_7, ev_8, set_0, set_1, set_2, set_3, set_4, set_5, set_6, set_7, set_8, -List.set_cons_succ, -List.set_cons_zero, A.ok, A.val, setSl, wrapG, guardB, getB, pickA, binA, binC, binD, cmpD, isCmp, unA, unD, lenA, AOp.total, kills, litB, FinQ, resOks, resOk, resA, resList, resOne, A.thaw, C.thaw, A.fits, As.fits, C.fits, evs, oks, callArgs, A.pure, C.pure, A.re, C.re, fieldAddrA, loadC, cut, A.cells, C.rows?, getOb, newOb, setOb, storeC, splice, Ob.re, Cs.fits, partsA, partsOk, parts2A, parts2Ok, fillC, fillRows, optInt, optOk, sliceA, clipC, optK_some, storeK_some, Option.map_some, toDs, C.toD, spliceD, appendA, capsOf, srcRows, allLen_nil_iff, allLen_cons_iff, allLen_append_iff, dropC, Obs.fits, eqCs, eqD, mapRow, mapPut, mapVal, mapOne, mapCells]
  · rw [if_neg hk1]
    refine loop_enter (St.le_tokenC 0 3 4 rfl rfl) ?_
    refine loop_set (σ := Nat) (fun i => [(20, .c (.d (.int .i64 i)))]) (fun _ => H) (fun i => [.cells [.d (.int .i64 k), .d (.int .i64 n), .d (.str s), .own (.l 2) i (((l.map (Tm.sub1 (bdTo bs))).map Tm.row).take i)], .cells [.d (.int .i64 0), .d (.int .i64 0), .d (.str []), .full []], .grow i 4])
      (fun i => i ≤ l.length) (fun i => l.length - i) 0 rfl (Nat.zero_le _) ?_
    intro i hi
    have hsub : inR .i64 (l.length : Int) := hli
    obtain ⟨S, hS⟩ : ∃ S, S = (l.map (Tm.sub1 (bdTo bs))).map Tm.row := ⟨_, rfl⟩
    have hSl : S.length = l.length := by simp [hS]
    have hSa : ∀ r ∈ S.take i, r.length = 4 := fun r hr => by
      have := List.mem_of_mem_take hr
      rw [hS] at this
      exact allLen_map row_len r this
    rw [← hS]
    simp -implicitDefEqProofs [setAll, hli, aw_skip, aw_region, aw_seq, aw_block, aw_cond, aw_exit, aw_ret, kq_nil, kq_seq, kq_seq_ret, kq_seq_exit, kq_block, kq_block_ret, kq_block_exit, kq_loop, kq_loop_ret, kq_loop_exit, awOps_nil, awOps_cons, awOps_guardE, nx_eq, awOp, ev_k, ev_0, ev_1, ev_2, ev_3, ev_4, ev_5, ev_6, ev_7, ev_8, set_0, set_1, set_2, set_3, set_4, set_5, set_6, set_7, set_8, -List.set_cons_succ, -List.set_cons_zero, A.ok, A.val, setSl, wrapG, guardB, getB, pickA, binA, binC, binD, cmpD, isCmp, unA, unD, lenA, AOp.total, kills, litB, FinQ, resOks, resOk, resA, resList, resOne, A.thaw, C.thaw, A.fits, As.fits, C.fits, evs, oks, callArgs, A.pure, C.pure, A.re, C.re, fieldAddrA, loadC, cut, A.cells, C.rows?, getOb, newOb, setOb, storeC, splice, Ob.re, Cs.fits, partsA, partsOk, parts2A, parts2Ok, fillC, fillRows, optInt, optOk, sliceA, clipC, optK_some, storeK_some, Option.map_some, toDs, C.toD, spliceD, appendA, capsOf, srcRows, allLen_nil_iff, allLen_cons_iff, allLen_append_iff, dropC, Obs.fits, eqCs, eqD, mapRow, mapPut, mapVal, mapOne, mapCells]
    refine ⟨fun hlt => ?_, fun hge => ?_⟩
    · have hadd : inR .i64 ((i : Int) + 1) := small_i64 (by omega) (by omega)
      refine row_of hlt (row_len _) ?_
      simp -implicitDefEqProofs [row_len, take_row, pure_d, re_d, aw_skip, aw_region, aw_seq, aw_block, aw_cond, aw_exit, aw_ret, kq_nil, kq_seq, kq_seq_ret, kq_seq_exit, kq_block, kq_block_ret, kq_block_exit, kq_loop, kq_loop_ret, kq_loop_exit, awOps_nil, awOps_cons, awOps_guardE, nx_eq, awOp, ev_k, ev_0, ev_1, ev_2, ev_3, ev_4, ev_5, ev_6, ev_7, ev_8, set_0, set_1, set_2, set_3, set_4, set_5, set_6, set_7, set_8, -List.set_cons_succ, -List.set_cons_zero, A.ok, A.val, setSl, wrapG, guardB, getB, pickA, binA, binC, binD, cmpD, isCmp, unA, unD, lenA, AOp.total, kills, litB, FinQ, resOks, resOk, resA, resList, resOne, A.thaw, C.thaw, A.fits, As.fits, C.fits, evs, oks, callArgs, A.pure, C.pure, A.re, C.re, fieldAddrA, loadC, cut, A.cells, C.rows?, getOb, newOb, setOb, storeC, splice, Ob.re, Cs.fits, partsA, partsOk, parts2A, parts2Ok, fillC, fillRows, optInt, optOk, sliceA, clipC, optK_some, storeK_some, Option.map_some, toDs, C.toD, spliceD, appendA, capsOf, srcRows, allLen_nil_iff, allLen_cons_iff, allLen_append_iff, dropC, Obs.fits, eqCs, eqD, mapRow, mapPut, mapVal, mapOne, mapCells]
      refine ⟨hf, hf, .agg ((l[i].sub1 (bdTo bs)).row.map .d), by simp [A.re, re_d], fun st' hg => ih l[i] (List.getElem_mem hlt) (hkids _ (List.getElem_mem hlt)) _ p (grown_ext hg hp (by simp) (by simp)), ?_⟩
      have hss := subs_succ (bdTo bs) hlt
      rw [← hS] at hss
      simp -implicitDefEqProofs [row_len, toDs_map, hadd, hf, Nat.min_eq_left hi, hSl, aw_skip, aw_region, aw_seq, aw_block, aw_cond, aw_exit, aw_ret, kq_nil, kq_seq, kq_seq_ret, kq_seq_exit, kq_block, kq_block_ret, kq_block_exit, kq_loop, kq_loop_ret, kq_loop_exit, awOps_nil, awOps_cons, awOps_guardE, nx_eq, awOp, ev_k, ev_0, ev_1, ev_2, ev_3, ev_4, ev_5, ev_6, ev_7, ev_8, set_0, set_1, set_2, set_3, set_4, set_5, set_6, set_7, set_8, -List.set_cons_succ, -List.set_cons_zero, A.ok, A.val, setSl, wrapG, guardB, getB, pickA, binA, binC, binD, cmpD, isCmp, unA, unD, lenA, AOp.total, kills, litB, FinQ, resOks, resOk, resA, resList, resOne, A.thaw, C.thaw, A.fits, As.fits, C.fits, evs, oks, callArgs, A.pure, C.pure, A.re, C.re, fieldAddrA, loadC, cut, A.cells, C.rows?, getOb, newOb, setOb, storeC, splice, Ob.re, Cs.fits, partsA, partsOk, parts2A, parts2Ok, fillC, fillRows, optInt, optOk, sliceA, clipC, optK_some, storeK_some, Option.map_some, toDs, C.toD, spliceD, appendA, capsOf, srcRows, allLen_nil_iff, allLen_cons_iff, allLen_append_iff, dropC, Obs.fits, eqCs, eqD, mapRow, mapPut, mapVal, mapOne, mapCells]
      have hpl : p < H.length := (List.getElem?_eq_some_iff.1 hp).1
      rw [← hss]
      refine ⟨hSa, by unfold maxApp; omega, loop_less (i + 1) (St.le_cut [_] ?_ (by simp [hpl, Sl.le, A.le_refl_iff, A.le_u_iff, As.lo, A.lo, C.lo, Ref.lo, Cs.lo, Obs.lo, Ob.lo, setAll, and_true, true_and, List.length_nil, List.length_cons]) rfl (by simp [Sl.le, A.le_refl_iff, A.le_u_iff, As.lo, A.lo, C.lo, Ref.lo, Cs.lo, Obs.lo, Ob.lo, setAll, and_true, true_and, List.length_nil, List.length_cons])) hlt (by show l.length - (i + 1) < l.length - i; omega)⟩
      simp [setAll, Sl.le, A.le_refl_iff, A.le_u_iff, As.lo, A.lo, C.lo, Ref.lo, Cs.lo, Obs.lo, Ob.lo, setAll, and_true, true_and, List.length_nil, List.length_cons]
    · have hil : i = l.length := by omega
      subst hil
      rw [show S.take l.length = S from List.take_of_length_le (by omega)]
      refine ⟨hf, ?_⟩
      rw [row_mk, hS]
      rfl
end Go.Proofs.Ytddahocmlbnlfaa
