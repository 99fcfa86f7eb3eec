/-
  Clients and servers: the laws' sizes, copies and comparisons.
  Conditions: none.
-/
import Derived.Test.YtkbbeoaoonoacaaFrameS
import Derived.Test.YtkbbeoaoonoacaaDecs
import Derived.Test.YtkbbeoaoonoacaaSess
open Go Go.AM Go.Proofs
namespace Go.Proofs.Ytkbbeoaoonoacaa
open Go.ChangeShapes Go.WideShapes Go.ChangeAt Go.RowKit
set_option linter.unusedVariables false
set_option linter.unusedSimpArgs false
set_option maxRecDepth 100000
-- 14 loop.example/prologserver/laws.szClient params 2 ntmps 36
def ac14 : Cd := .seq (.region [⟨(some 2), .box (.t 0), none⟩,
      ⟨(some 4), .mv (.k (.c (.d (.int .i64 0)))), none⟩] [0, 4])
  (.seq (.region [⟨(some 5), .fieldAddr 0 (.t 2), none⟩,
      ⟨(some 6), .load (some 2) (.t 5), none⟩,
      ⟨(some 7), .mv (.t 1), none⟩,
      ⟨(some 8), .call false 17 [(.t 6), (.t 7)], none⟩,
      ⟨(some 1), .mv (.t 8), none⟩] [5, 6, 7, 8])
  (.seq (.seq (.region [⟨(some 9), .mv (.t 1), none⟩,
        ⟨(some 10), .bin .lss (.t 9) (.k (.c (.d (.int .i64 0)))), none⟩] [9])
    (.cond (.t 10)
      (.seq (.region [⟨(some 4), .mv (.k (.c (.d (.int .i64 (-1))))), none⟩] [1, 2, 10])
      (.ret))
      (.skip)))
  (.seq (.region [⟨(some 11), .fieldAddr 2 (.t 2), none⟩,
      ⟨(some 12), .load none (.t 11), none⟩,
      ⟨(some 13), .mv (.t 1), none⟩,
      ⟨(some 14), .call false 18 [(.t 12), (.t 13)], none⟩,
      ⟨(some 1), .mv (.t 14), none⟩] [4, 10, 11, 12, 13, 14])
  (.seq (.seq (.region [⟨(some 15), .mv (.t 1), none⟩,
        ⟨(some 16), .bin .lss (.t 15) (.k (.c (.d (.int .i64 0)))), none⟩] [15])
    (.cond (.t 16)
      (.seq (.region [⟨(some 4), .mv (.k (.c (.d (.int .i64 (-1))))), none⟩] [1, 2, 16])
      (.ret))
      (.skip)))
  (.seq (.region [⟨(some 17), .fieldAddr 3 (.t 2), none⟩,
      ⟨(some 18), .load none (.t 17), none⟩,
      ⟨(some 19), .mv (.t 1), none⟩,
      ⟨(some 20), .call false 19 [(.t 18), (.t 19)], none⟩,
      ⟨(some 1), .mv (.t 20), none⟩] [4, 16, 17, 18, 19, 20])
  (.seq (.seq (.region [⟨(some 21), .mv (.t 1), none⟩,
        ⟨(some 22), .bin .lss (.t 21) (.k (.c (.d (.int .i64 0)))), none⟩] [21])
    (.cond (.t 22)
      (.seq (.region [⟨(some 4), .mv (.k (.c (.d (.int .i64 (-1))))), none⟩] [1, 2, 22])
      (.ret))
      (.skip)))
  (.seq (.region [⟨(some 23), .fieldAddr 5 (.t 2), none⟩,
      ⟨(some 24), .load (some 6) (.t 23), none⟩,
      ⟨(some 25), .mv (.t 1), none⟩,
      ⟨(some 26), .call false 20 [(.t 24), (.t 25)], none⟩,
      ⟨(some 1), .mv (.t 26), none⟩] [4, 22, 23, 24, 25, 26])
  (.seq (.seq (.region [⟨(some 27), .mv (.t 1), none⟩,
        ⟨(some 28), .bin .lss (.t 27) (.k (.c (.d (.int .i64 0)))), none⟩] [27])
    (.cond (.t 28)
      (.seq (.region [⟨(some 4), .mv (.k (.c (.d (.int .i64 (-1))))), none⟩] [1, 2, 28])
      (.ret))
      (.skip)))
  (.seq (.region [⟨(some 29), .fieldAddr 12 (.t 2), none⟩,
      ⟨(some 30), .load none (.t 29), none⟩,
      ⟨(some 31), .mv (.t 1), none⟩,
      ⟨(some 32), .call false 18 [(.t 30), (.t 31)], none⟩,
      ⟨(some 1), .mv (.t 32), none⟩] [2, 4, 28, 29, 30, 31, 32])
  (.seq (.seq (.region [⟨(some 33), .mv (.t 1), none⟩,
        ⟨(some 34), .bin .lss (.t 33) (.k (.c (.d (.int .i64 0)))), none⟩] [33])
    (.cond (.t 34)
      (.seq (.region [⟨(some 4), .mv (.k (.c (.d (.int .i64 (-1))))), none⟩] [1, 34])
      (.ret))
      (.skip)))
  (.seq (.region [⟨(some 35), .mv (.t 1), none⟩,
      ⟨(some 4), .mv (.t 35), none⟩] [1, 34, 35])
  (.ret))))))))))))
theorem ac14_ok : cFunc Try.prog [] [(0, [0, 4], []), (1, [5, 6, 7, 8], []), (2, [9], []), (3, [1, 2, 10], []), (4, [4, 10, 11, 12, 13, 14], []), (5, [15], []), (6, [1, 2, 16], []), (7, [4, 16, 17, 18, 19, 20], []), (8, [21], []), (9, [1, 2, 22], []), (10, [4, 22, 23, 24, 25, 26], []), (11, [27], []), (12, [1, 2, 28], []), (13, [2, 4, 28, 29, 30, 31, 32], []), (14, [33], []), (15, [1, 34], []), (16, [1, 34, 35], [])] Try.f14 = some (ac14, [.tmp 4], 36) := by kernel_rfl
-- 9 loop.example/prologserver/laws.szClientS params 2 ntmps 27
-- loop head live: [0, 1, 5]
def ac9 : Cd := .seq (.region [⟨(some 4), .mv (.k (.c (.d (.int .i64 0)))), none⟩] [4])
  (.seq (.region [⟨(some 6), .mv (.t 1), none⟩,
      ⟨(some 7), .mv (.t 0), none⟩,
      ⟨(some 8), .len 1 (.t 7), none⟩,
      ⟨(some 9), .bin .sub (.t 6) (.t 8), none⟩,
      ⟨(some 1), .mv (.t 9), none⟩] [6, 7, 8, 9])
  (.seq (.seq (.region [⟨(some 10), .mv (.t 1), none⟩,
        ⟨(some 11), .bin .lss (.t 10) (.k (.c (.d (.int .i64 0)))), none⟩] [10])
    (.cond (.t 11)
      (.seq (.region [⟨(some 4), .mv (.k (.c (.d (.int .i64 (-1))))), none⟩] [0, 1, 11])
      (.ret))
      (.skip)))
  (.seq (.seq (.region [⟨(some 5), .mv (.k (.c (.d (.int .i64 0)))), none⟩] [4, 11])
    (.block 0 (.loop (.seq (.seq (.region [⟨(some 12), .mv (.t 5), none⟩,
              ⟨(some 13), .mv (.t 0), none⟩,
              ⟨(some 14), .len 1 (.t 13), none⟩,
              ⟨(some 15), .bin .lss (.t 12) (.t 14), none⟩] [12, 13, 14])
          (.cond (.t 15)
            (.skip)
            (.exit 0)))
        (.seq (.block 1 (.seq (.region [⟨(some 18), .mv (.t 0), none⟩,
                ⟨(some 19), .mv (.t 5), none⟩,
                ⟨(some 20), .indexAddr 13 (.t 18) (.t 19), none⟩,
                ⟨(some 21), .load (some 13) (.t 20), none⟩,
                ⟨(some 22), .mv (.t 1), none⟩,
                ⟨(some 23), .call false 14 [(.t 21), (.t 22)], none⟩,
                ⟨(some 1), .mv (.t 23), none⟩] [15, 18, 19, 20, 21, 22, 23])
            (.seq (.region [⟨(some 24), .mv (.t 1), none⟩,
                ⟨(some 25), .bin .lss (.t 24) (.k (.c (.d (.int .i64 0)))), none⟩] [24])
            (.cond (.t 25)
              (.seq (.region [⟨(some 4), .mv (.k (.c (.d (.int .i64 (-1))))), none⟩] [0, 1, 5, 25])
              (.ret))
              (.skip)))))
        (.region [⟨(some 16), .mv (.t 5), none⟩,
          ⟨(some 17), .bin .add (.t 16) (.k (.c (.d (.int .i64 1)))), none⟩,
          ⟨(some 5), .mv (.t 17), none⟩] [4, 16, 17, 25]))))))
  (.seq (.region [⟨(some 26), .mv (.t 1), none⟩,
      ⟨(some 4), .mv (.t 26), none⟩] [1, 26])
  (.ret)))))
theorem ac9_ok : cFunc Try.prog [] [(0, [4], []), (1, [6, 7, 8, 9], []), (2, [10], []), (3, [0, 1, 11], []), (4, [4, 11], []), (5, [12, 13, 14], []), (7, [15, 18, 19, 20, 21, 22, 23], []), (8, [24], []), (9, [0, 1, 5, 25], []), (6, [4, 16, 17, 25], []), (10, [1, 26], [])] Try.f9 = some (ac9, [.tmp 4], 27) := by kernel_rfl
-- 4 loop.example/prologserver/laws.szServer params 2 ntmps 12
def ac4 : Cd := .seq (.region [⟨(some 2), .box (.t 0), none⟩,
      ⟨(some 4), .mv (.k (.c (.d (.int .i64 0)))), none⟩] [0, 4])
  (.seq (.region [⟨(some 5), .fieldAddr 0 (.t 2), none⟩,
      ⟨(some 6), .load none (.t 5), none⟩,
      ⟨(some 7), .mv (.t 1), none⟩,
      ⟨(some 8), .call false 9 [(.t 6), (.t 7)], none⟩,
      ⟨(some 1), .mv (.t 8), none⟩] [2, 5, 6, 7, 8])
  (.seq (.seq (.region [⟨(some 9), .mv (.t 1), none⟩,
        ⟨(some 10), .bin .lss (.t 9) (.k (.c (.d (.int .i64 0)))), none⟩] [9])
    (.cond (.t 10)
      (.seq (.region [⟨(some 4), .mv (.k (.c (.d (.int .i64 (-1))))), none⟩] [1, 10])
      (.ret))
      (.skip)))
  (.seq (.region [⟨(some 11), .mv (.t 1), none⟩,
      ⟨(some 4), .mv (.t 11), none⟩] [1, 10, 11])
  (.ret))))
theorem ac4_ok : cFunc Try.prog [] [(0, [0, 4], []), (1, [2, 5, 6, 7, 8], []), (2, [9], []), (3, [1, 10], []), (4, [1, 10, 11], [])] Try.f4 = some (ac4, [.tmp 4], 12) := by kernel_rfl
-- 15 loop.example/prologserver/laws.toClient params 1 ntmps 31
def ac15 : Cd := .seq (.region [⟨(some 1), .box (.t 0), none⟩,
      ⟨(some 2), .alloc [(.full []), (.d (.bool false)), (.full []), (.full []), (.d (.bool false)), (.full []), (.full []), (.d (.int .i64 0)), (.d (.int .i64 0)), (.d (.int .i64 0)), (.d (.int .i64 0)), (.d (.bool false)), (.full [])], none⟩] [0])
  (.seq (.region [⟨(some 3), .alloc [(.full []), (.d (.bool false)), (.full []), (.full []), (.d (.bool false)), (.full []), (.full []), (.d (.int .i64 0)), (.d (.int .i64 0)), (.d (.int .i64 0)), (.d (.int .i64 0)), (.d (.bool false)), (.full [])], none⟩] [])
  (.seq (.region [⟨(some 4), .fieldAddr 0 (.t 1), none⟩,
      ⟨(some 5), .load (some 2) (.t 4), none⟩,
      ⟨(some 6), .qcall 21 [(.t 5)], none⟩,
      ⟨(some 7), .fieldAddr 0 (.t 3), none⟩,
      ⟨none, .store 2 (.t 7) (.t 6), none⟩] [4, 5, 6, 7])
  (.seq (.region [⟨(some 8), .fieldAddr 2 (.t 1), none⟩,
      ⟨(some 9), .load none (.t 8), none⟩,
      ⟨(some 10), .qcall 22 [(.t 9)], none⟩,
      ⟨(some 11), .fieldAddr 2 (.t 3), none⟩,
      ⟨none, .store 1 (.t 11) (.t 10), none⟩] [8, 9, 10, 11])
  (.seq (.region [⟨(some 12), .fieldAddr 3 (.t 1), none⟩,
      ⟨(some 13), .load none (.t 12), none⟩,
      ⟨(some 14), .qcall 23 [(.t 13)], none⟩,
      ⟨(some 15), .fieldAddr 3 (.t 3), none⟩,
      ⟨none, .store 1 (.t 15) (.t 14), none⟩] [12, 13, 14, 15])
  (.seq (.region [⟨(some 16), .fieldAddr 4 (.t 1), none⟩,
      ⟨(some 17), .load none (.t 16), none⟩,
      ⟨(some 18), .fieldAddr 4 (.t 3), none⟩,
      ⟨none, .store 1 (.t 18) (.t 17), none⟩] [16, 17, 18])
  (.seq (.region [⟨(some 19), .fieldAddr 5 (.t 1), none⟩,
      ⟨(some 20), .load (some 6) (.t 19), none⟩,
      ⟨(some 21), .qcall 24 [(.t 20)], none⟩,
      ⟨(some 22), .fieldAddr 5 (.t 3), none⟩,
      ⟨none, .store 6 (.t 22) (.t 21), none⟩] [19, 20, 21, 22])
  (.seq (.region [⟨(some 23), .fieldAddr 11 (.t 1), none⟩,
      ⟨(some 24), .load none (.t 23), none⟩,
      ⟨(some 25), .fieldAddr 11 (.t 3), none⟩,
      ⟨none, .store 1 (.t 25) (.t 24), none⟩] [23, 24, 25])
  (.seq (.region [⟨(some 26), .fieldAddr 12 (.t 1), none⟩,
      ⟨(some 27), .load none (.t 26), none⟩,
      ⟨(some 28), .qcall 22 [(.t 27)], none⟩,
      ⟨(some 29), .fieldAddr 12 (.t 3), none⟩,
      ⟨none, .store 1 (.t 29) (.t 28), none⟩] [1, 26, 27, 28, 29])
  (.seq (.region [⟨(some 30), .load (some 13) (.t 3), none⟩,
      ⟨none, .store 13 (.t 2) (.t 30), none⟩] [3, 30])
  (.ret))))))))))
theorem ac15_ok : cFunc Try.prog [1000021, 1000022, 1000023, 1000024] [(0, [0], []), (1, [], []), (2, [4, 5, 6, 7], []), (3, [8, 9, 10, 11], []), (4, [12, 13, 14, 15], []), (5, [16, 17, 18], []), (6, [19, 20, 21, 22], []), (7, [23, 24, 25], []), (8, [1, 26, 27, 28, 29], []), (9, [3, 30], [])] Try.f15 = some (ac15, [.cell 2 (some 13)], 31) := by kernel_rfl
-- 11 loop.example/prologserver/laws.toClientS params 1 ntmps 23
-- loop head live: [0, 3, 4]
def ac11 : Cd := .seq (.region [⟨(some 2), .mv (.k (.c (.full []))), none⟩] [2])
  (.seq (.region [⟨(some 5), .mv (.t 0), none⟩,
      ⟨(some 6), .len 1 (.t 5), none⟩,
      ⟨(some 7), .mkSlice [(.sl []), (.bool false), (.sl []), (.sl []), (.bool false), (.sl []), (.sl []), (.int .i64 0), (.int .i64 0), (.int .i64 0), (.int .i64 0), (.bool false), (.sl [])] (.t 6), none⟩,
      ⟨(some 3), .mv (.t 7), none⟩] [5, 6, 7])
  (.seq (.seq (.region [⟨(some 4), .mv (.k (.c (.d (.int .i64 0)))), none⟩] [])
    (.block 0 (.loop (.seq (.seq (.region [⟨(some 8), .mv (.t 4), none⟩,
              ⟨(some 9), .mv (.t 0), none⟩,
              ⟨(some 10), .len 1 (.t 9), none⟩,
              ⟨(some 11), .bin .lss (.t 8) (.t 10), none⟩] [8, 9, 10])
          (.cond (.t 11)
            (.skip)
            (.exit 0)))
        (.seq (.block 1 (.region [⟨(some 14), .mv (.t 3), none⟩,
              ⟨(some 15), .mv (.t 4), none⟩,
              ⟨(some 16), .mv (.t 0), none⟩,
              ⟨(some 17), .mv (.t 4), none⟩,
              ⟨(some 18), .indexAddr 13 (.t 16) (.t 17), none⟩,
              ⟨(some 19), .load (some 13) (.t 18), none⟩,
              ⟨(some 20), .qcall 15 [(.t 19)], none⟩,
              ⟨(some 21), .indexAddr 13 (.t 14) (.t 15), none⟩,
              ⟨none, .store 13 (.t 21) (.t 20), none⟩] [11, 14, 15, 16, 17, 18, 19, 20, 21]))
        (.region [⟨(some 12), .mv (.t 4), none⟩,
          ⟨(some 13), .bin .add (.t 12) (.k (.c (.d (.int .i64 1)))), none⟩,
          ⟨(some 4), .mv (.t 13), none⟩] [12, 13]))))))
  (.seq (.region [⟨(some 22), .mv (.t 3), none⟩,
      ⟨(some 2), .mv (.t 22), none⟩] [3, 22])
  (.ret))))
theorem ac11_ok : cFunc Try.prog [1000015] [(0, [2], []), (1, [5, 6, 7], []), (2, [], []), (3, [8, 9, 10], []), (5, [11, 14, 15, 16, 17, 18, 19, 20, 21], []), (4, [12, 13], []), (6, [3, 22], [])] Try.f11 = some (ac11, [.tmp 2], 23) := by kernel_rfl
-- 6 loop.example/prologserver/laws.toServer params 1 ntmps 12
def ac6 : Cd := .seq (.region [⟨(some 1), .box (.t 0), none⟩,
      ⟨(some 2), .alloc [(.full []), (.d (.int .i64 0))], none⟩] [0])
  (.seq (.region [⟨(some 3), .alloc [(.full []), (.d (.int .i64 0))], none⟩] [])
  (.seq (.region [⟨(some 4), .fieldAddr 0 (.t 1), none⟩,
      ⟨(some 5), .load none (.t 4), none⟩,
      ⟨(some 6), .qcall 11 [(.t 5)], none⟩,
      ⟨(some 7), .fieldAddr 0 (.t 3), none⟩,
      ⟨none, .store 1 (.t 7) (.t 6), none⟩] [4, 5, 6, 7])
  (.seq (.region [⟨(some 8), .fieldAddr 1 (.t 1), none⟩,
      ⟨(some 9), .load none (.t 8), none⟩,
      ⟨(some 10), .fieldAddr 1 (.t 3), none⟩,
      ⟨none, .store 1 (.t 10) (.t 9), none⟩] [1, 8, 9, 10])
  (.seq (.region [⟨(some 11), .load (some 2) (.t 3), none⟩,
      ⟨none, .store 2 (.t 2) (.t 11), none⟩] [3, 11])
  (.ret)))))
theorem ac6_ok : cFunc Try.prog [1000011] [(0, [0], []), (1, [], []), (2, [4, 5, 6, 7], []), (3, [1, 8, 9, 10], []), (4, [3, 11], [])] Try.f6 = some (ac6, [.cell 2 (some 2)], 12) := by kernel_rfl
-- 16 loop.example/prologserver/laws.eqClient params 2 ntmps 45
def ac16 : Cd := .seq (.region [⟨(some 2), .box (.t 0), none⟩,
      ⟨(some 3), .box (.t 1), none⟩,
      ⟨(some 4), .mv (.k (.c (.d (.bool false)))), none⟩] [0, 1, 4])
  (.seq (.seq (.region [⟨(some 5), .fieldAddr 0 (.t 2), none⟩,
        ⟨(some 6), .load (some 2) (.t 5), none⟩,
        ⟨(some 7), .fieldAddr 0 (.t 3), none⟩,
        ⟨(some 8), .load (some 2) (.t 7), none⟩,
        ⟨(some 9), .qcall 25 [(.t 6), (.t 8)], none⟩,
        ⟨(some 10), .un .not (.t 9), none⟩] [5, 6, 7, 8, 9])
    (.cond (.t 10)
      (.seq (.region [⟨(some 4), .mv (.k (.c (.d (.bool false)))), none⟩] [2, 3, 10])
      (.ret))
      (.skip)))
  (.seq (.seq (.region [⟨(some 11), .fieldAddr 2 (.t 2), none⟩,
        ⟨(some 12), .load none (.t 11), none⟩,
        ⟨(some 13), .fieldAddr 2 (.t 3), none⟩,
        ⟨(some 14), .load none (.t 13), none⟩,
        ⟨(some 15), .qcall 26 [(.t 12), (.t 14)], none⟩,
        ⟨(some 16), .un .not (.t 15), none⟩] [4, 10, 11, 12, 13, 14, 15])
    (.cond (.t 16)
      (.seq (.region [⟨(some 4), .mv (.k (.c (.d (.bool false)))), none⟩] [2, 3, 16])
      (.ret))
      (.skip)))
  (.seq (.seq (.region [⟨(some 17), .fieldAddr 3 (.t 2), none⟩,
        ⟨(some 18), .load none (.t 17), none⟩,
        ⟨(some 19), .fieldAddr 3 (.t 3), none⟩,
        ⟨(some 20), .load none (.t 19), none⟩,
        ⟨(some 21), .qcall 27 [(.t 18), (.t 20)], none⟩,
        ⟨(some 22), .un .not (.t 21), none⟩] [4, 16, 17, 18, 19, 20, 21])
    (.cond (.t 22)
      (.seq (.region [⟨(some 4), .mv (.k (.c (.d (.bool false)))), none⟩] [2, 3, 22])
      (.ret))
      (.skip)))
  (.seq (.seq (.region [⟨(some 23), .fieldAddr 4 (.t 2), none⟩,
        ⟨(some 24), .load none (.t 23), none⟩,
        ⟨(some 25), .fieldAddr 4 (.t 3), none⟩,
        ⟨(some 26), .load none (.t 25), none⟩,
        ⟨(some 27), .binB true (.t 24) (.t 26), none⟩] [4, 22, 23, 24, 25, 26])
    (.cond (.t 27)
      (.seq (.region [⟨(some 4), .mv (.k (.c (.d (.bool false)))), none⟩] [2, 3, 27])
      (.ret))
      (.skip)))
  (.seq (.seq (.region [⟨(some 28), .fieldAddr 5 (.t 2), none⟩,
        ⟨(some 29), .load (some 6) (.t 28), none⟩,
        ⟨(some 30), .fieldAddr 5 (.t 3), none⟩,
        ⟨(some 31), .load (some 6) (.t 30), none⟩,
        ⟨(some 32), .qcall 28 [(.t 29), (.t 31)], none⟩,
        ⟨(some 33), .un .not (.t 32), none⟩] [4, 27, 28, 29, 30, 31, 32])
    (.cond (.t 33)
      (.seq (.region [⟨(some 4), .mv (.k (.c (.d (.bool false)))), none⟩] [2, 3, 33])
      (.ret))
      (.skip)))
  (.seq (.seq (.region [⟨(some 34), .fieldAddr 11 (.t 2), none⟩,
        ⟨(some 35), .load none (.t 34), none⟩,
        ⟨(some 36), .fieldAddr 11 (.t 3), none⟩,
        ⟨(some 37), .load none (.t 36), none⟩,
        ⟨(some 38), .binB true (.t 35) (.t 37), none⟩] [4, 33, 34, 35, 36, 37])
    (.cond (.t 38)
      (.seq (.region [⟨(some 4), .mv (.k (.c (.d (.bool false)))), none⟩] [2, 3, 38])
      (.ret))
      (.skip)))
  (.seq (.seq (.region [⟨(some 39), .fieldAddr 12 (.t 2), none⟩,
        ⟨(some 40), .load none (.t 39), none⟩,
        ⟨(some 41), .fieldAddr 12 (.t 3), none⟩,
        ⟨(some 42), .load none (.t 41), none⟩,
        ⟨(some 43), .qcall 26 [(.t 40), (.t 42)], none⟩,
        ⟨(some 44), .un .not (.t 43), none⟩] [2, 3, 4, 38, 39, 40, 41, 42, 43])
    (.cond (.t 44)
      (.seq (.region [⟨(some 4), .mv (.k (.c (.d (.bool false)))), none⟩] [44])
      (.ret))
      (.skip)))
  (.seq (.region [⟨(some 4), .mv (.k (.c (.d (.bool true)))), none⟩] [44])
  (.ret)))))))))
theorem ac16_ok : cFunc Try.prog [1000025, 1000026, 1000027, 1000028] [(0, [0, 1, 4], []), (1, [5, 6, 7, 8, 9], []), (2, [2, 3, 10], []), (3, [4, 10, 11, 12, 13, 14, 15], []), (4, [2, 3, 16], []), (5, [4, 16, 17, 18, 19, 20, 21], []), (6, [2, 3, 22], []), (7, [4, 22, 23, 24, 25, 26], []), (8, [2, 3, 27], []), (9, [4, 27, 28, 29, 30, 31, 32], []), (10, [2, 3, 33], []), (11, [4, 33, 34, 35, 36, 37], []), (12, [2, 3, 38], []), (13, [2, 3, 4, 38, 39, 40, 41, 42, 43], []), (14, [44], []), (15, [44], [])] Try.f16 = some (ac16, [.tmp 4], 45) := by kernel_rfl
-- 13 loop.example/prologserver/laws.eqClientS params 2 ntmps 27
-- loop head live: [0, 1, 5]
def ac13 : Cd := .seq (.region [⟨(some 4), .mv (.k (.c (.d (.bool false)))), none⟩] [4])
  (.seq (.seq (.region [⟨(some 6), .mv (.t 0), none⟩,
        ⟨(some 7), .len 1 (.t 6), none⟩,
        ⟨(some 8), .mv (.t 1), none⟩,
        ⟨(some 9), .len 1 (.t 8), none⟩,
        ⟨(some 10), .bin .neq (.t 7) (.t 9), none⟩] [6, 7, 8, 9])
    (.cond (.t 10)
      (.seq (.region [⟨(some 4), .mv (.k (.c (.d (.bool false)))), none⟩] [0, 1, 10])
      (.ret))
      (.skip)))
  (.seq (.seq (.region [⟨(some 5), .mv (.k (.c (.d (.int .i64 0)))), none⟩] [4, 10])
    (.block 0 (.loop (.seq (.seq (.region [⟨(some 11), .mv (.t 5), none⟩,
              ⟨(some 12), .mv (.t 0), none⟩,
              ⟨(some 13), .len 1 (.t 12), none⟩,
              ⟨(some 14), .bin .lss (.t 11) (.t 13), none⟩] [11, 12, 13])
          (.cond (.t 14)
            (.skip)
            (.exit 0)))
        (.seq (.block 1 (.seq (.region [⟨(some 17), .mv (.t 0), none⟩,
                ⟨(some 18), .mv (.t 5), none⟩,
                ⟨(some 19), .indexAddr 13 (.t 17) (.t 18), none⟩,
                ⟨(some 21), .mv (.t 1), none⟩,
                ⟨(some 22), .mv (.t 5), none⟩,
                ⟨(some 23), .indexAddr 13 (.t 21) (.t 22), none⟩,
                ⟨(some 20), .load (some 13) (.t 19), none⟩,
                ⟨(some 24), .load (some 13) (.t 23), none⟩,
                ⟨(some 25), .qcall 16 [(.t 20), (.t 24)], none⟩,
                ⟨(some 26), .un .not (.t 25), none⟩] [14, 17, 18, 19, 20, 21, 22, 23, 24, 25])
            (.cond (.t 26)
              (.seq (.region [⟨(some 4), .mv (.k (.c (.d (.bool false)))), none⟩] [0, 1, 5, 26])
              (.ret))
              (.skip))))
        (.region [⟨(some 15), .mv (.t 5), none⟩,
          ⟨(some 16), .bin .add (.t 15) (.k (.c (.d (.int .i64 1)))), none⟩,
          ⟨(some 5), .mv (.t 16), none⟩] [4, 15, 16, 26]))))))
  (.seq (.region [⟨(some 4), .mv (.k (.c (.d (.bool true)))), none⟩] [])
  (.ret))))
theorem ac13_ok : cFunc Try.prog [1000016] [(0, [4], []), (1, [6, 7, 8, 9], []), (2, [0, 1, 10], []), (3, [4, 10], []), (4, [11, 12, 13], []), (6, [14, 17, 18, 19, 20, 21, 22, 23, 24, 25], [0, 1, 2, 4, 5, 6, 3, 7, 8, 9]), (7, [0, 1, 5, 26], []), (5, [4, 15, 16, 26], []), (8, [], [])] Try.f13 = some (ac13, [.tmp 4], 27) := by kernel_rfl
-- 8 loop.example/prologserver/laws.eqServer params 2 ntmps 16
def ac8 : Cd := .seq (.region [⟨(some 2), .box (.t 0), none⟩,
      ⟨(some 3), .box (.t 1), none⟩,
      ⟨(some 4), .mv (.k (.c (.d (.bool false)))), none⟩] [0, 1, 4])
  (.seq (.seq (.region [⟨(some 5), .fieldAddr 0 (.t 2), none⟩,
        ⟨(some 6), .load none (.t 5), none⟩,
        ⟨(some 7), .fieldAddr 0 (.t 3), none⟩,
        ⟨(some 8), .load none (.t 7), none⟩,
        ⟨(some 9), .qcall 13 [(.t 6), (.t 8)], none⟩,
        ⟨(some 10), .un .not (.t 9), none⟩] [5, 6, 7, 8, 9])
    (.cond (.t 10)
      (.seq (.region [⟨(some 4), .mv (.k (.c (.d (.bool false)))), none⟩] [2, 3, 10])
      (.ret))
      (.skip)))
  (.seq (.seq (.region [⟨(some 11), .fieldAddr 1 (.t 2), none⟩,
        ⟨(some 12), .load none (.t 11), none⟩,
        ⟨(some 13), .fieldAddr 1 (.t 3), none⟩,
        ⟨(some 14), .load none (.t 13), none⟩,
        ⟨(some 15), .bin .neq (.t 12) (.t 14), none⟩] [2, 3, 4, 10, 11, 12, 13, 14])
    (.cond (.t 15)
      (.seq (.region [⟨(some 4), .mv (.k (.c (.d (.bool false)))), none⟩] [15])
      (.ret))
      (.skip)))
  (.seq (.region [⟨(some 4), .mv (.k (.c (.d (.bool true)))), none⟩] [15])
  (.ret))))
theorem ac8_ok : cFunc Try.prog [1000013] [(0, [0, 1, 4], []), (1, [5, 6, 7, 8, 9], []), (2, [2, 3, 10], []), (3, [2, 3, 4, 10, 11, 12, 13, 14], []), (4, [15], []), (5, [15], [])] Try.f8 = some (ac8, [.tmp 4], 16) := by kernel_rfl
/-- a client -/
structure Cli where
  inp : Dec
  wait : List Frame
  prog : List Cl
  active : Bool
  sess : Ss
  told : Bool
  out : List Frame
def Cli.row (c : Cli) : List D := [.sl (bytesRows c.inp.rest), .bool c.inp.broken, .sl (c.wait.map Frame.row), .sl (c.prog.map Cl.row), .bool c.active, .sl (c.sess.prog.map Cl.row), .sl (c.sess.query.map Tm.row), .int .i64 c.sess.quota, .int .i64 c.sess.used, .int .i64 c.sess.sent, .int .i64 c.sess.fin, .bool c.told, .sl (c.out.map Frame.row)]
theorem clirow_len (c : Cli) : c.row.length = 13 := rfl
theorem take_clirow (c : Cli) : List.take 13 (List.map C.d c.row) = List.map C.d c.row := rfl
structure Cli.fine (c : Cli) : Prop where
  inp : c.inp.rest.length ≤ 140737488355328
  wl : c.wait.length ≤ reachBytes
  wait : ∀ f ∈ c.wait, f.fine
  pl : c.prog.length ≤ reachBytes
  prog : ∀ x ∈ c.prog, x.fine
  sess : c.sess.fine
  ol : c.out.length ≤ reachBytes
  out : ∀ f ∈ c.out, f.fine
structure Cli.fits (c : Cli) : Prop where
  inp : c.inp.rest.length ≤ 1048576
  wait : FitsF c.wait
  prog : FitsC c.prog
  sess : c.sess.fits
  out : FitsF c.out
def SzCli (t : Cli) : Prop := ∀ (m : Int), 0 ≤ m → m ≤ 1048576 → ∀ H, ACalls Try.prog 14 [.agg (t.row.map .d), .c (.d (.int .i64 m))] H (fun r H' => H' = H ∧ Left m t.fits r)
theorem szClientS_of (l : List Cli) (hl : l.length ≤ reachBytes) (h : ∀ t ∈ l, SzCli t) (m : Int) (h0 : 0 ≤ m) (h1 : m ≤ 1048576) (H : Heap) :
    ACalls Try.prog 9 [.c (.d (.sl (l.map Cli.row))), .c (.d (.int .i64 m))] H (fun r H' => H' = H ∧ Left m (l.length ≤ 1048576 ∧ ∀ t ∈ l, Cli.fits t) r) := by
  refine acalls Try.func9 (by kernel_rfl) ac9_ok fun hf => ?_
  have hlen := reach_i64 hl
  have hsm := reach_small hl
  have hsub : inR .i64 (m - (l.length : Int)) := small_i64 (by omega) (by omega)
  simp -implicitDefEqProofs [ac9, hlen, hsub, aw_skip, aw_region, aw_seq, aw_block, aw_cond, aw_exit, aw_ret, kq_nil, kq_seq, kq_seq_ret, kq_seq_exit, kq_block, kq_block_ret, kq_block_exit, kq_loop, kq_loop_ret, kq_loop_exit, awOps_nil, awOps_cons, awOps_guardE, nx_eq, awOp, ev_k, ev_0, ev_1, ev_2, ev_3, ev_4, ev_5, ev_6, ev_7, ev_8, set_0, set_1, set_2, set_3, set_4, set_5, set_6, set_7, set_8, -List.set_cons_succ, -List.set_cons_zero, A.ok, A.val, setSl, wrapG, guardB, getB, pickA, binA, binC, binD, cmpD, isCmp, unA, unD, lenA, AOp.total, kills, litB, FinQ, resOks, resOk, resA, resList, resOne, A.thaw, C.thaw, A.fits, As.fits, C.fits, evs, oks, callArgs, A.pure, C.pure, A.re, C.re, fieldAddrA, loadC, cut, A.cells, C.rows?, getOb, newOb, setOb, storeC, splice, Ob.re, Cs.fits, partsA, partsOk, parts2A, parts2Ok, fillC, fillRows, optInt, optOk, sliceA, optK_some, storeK_some, Option.map_some, toDs, C.toD, spliceD, appendA, capsOf, srcRows, allLen_nil_iff, allLen_cons_iff, allLen_append_iff, dropC, Obs.fits, eqCs, eqD]
  refine ⟨fun _ => ⟨-1, rfl, by omega, by omega, fun h => by omega⟩, fun hge => ?_⟩
  have hsmall : l.length ≤ 1048576 := by omega
  refine loop_set (σ := Nat × Int) (fun x => [(5, .c (.d (.int .i64 x.1))), (1, .c (.d (.int .i64 x.2)))]) (fun _ => H) (fun _ => []) (fun x => x.1 ≤ l.length ∧ 0 ≤ x.2 ∧ x.2 ≤ m ∧ ∀ t ∈ l.take x.1, Cli.fits t) (fun x => l.length - x.1) (0, m - l.length) rfl ⟨Nat.zero_le _, by simp; omega, by simp; omega, by simp⟩ ?_
  rintro ⟨i, k⟩ ⟨hi, hm0, hm1, hall⟩
  simp only at hi hm0 hm1 hall
  simp -implicitDefEqProofs [setAll, hlen, aw_skip, aw_region, aw_seq, aw_block, aw_cond, aw_exit, aw_ret, kq_nil, kq_seq, kq_seq_ret, kq_seq_exit, kq_block, kq_block_ret, kq_block_exit, kq_loop, kq_loop_ret, kq_loop_exit, awOps_nil, awOps_cons, awOps_guardE, nx_eq, awOp, ev_k, ev_0, ev_1, ev_2, ev_3, ev_4, ev_5, ev_6, ev_7, ev_8, set_0, set_1, set_2, set_3, set_4, set_5, set_6, set_7, set_8, -List.set_cons_succ, -List.set_cons_zero, A.ok, A.val, setSl, wrapG, guardB, getB, pickA, binA, binC, binD, cmpD, isCmp, unA, unD, lenA, AOp.total, kills, litB, FinQ, resOks, resOk, resA, resList, resOne, A.thaw, C.thaw, A.fits, As.fits, C.fits, evs, oks, callArgs, A.pure, C.pure, A.re, C.re, fieldAddrA, loadC, cut, A.cells, C.rows?, getOb, newOb, setOb, storeC, splice, Ob.re, Cs.fits, partsA, partsOk, parts2A, parts2Ok, fillC, fillRows, optInt, optOk, sliceA, optK_some, storeK_some, Option.map_some, toDs, C.toD, spliceD, appendA, capsOf, srcRows, allLen_nil_iff, allLen_cons_iff, allLen_append_iff, dropC, Obs.fits, eqCs, eqD]
  refine ⟨fun hlt => ?_, fun hge => ⟨k, rfl, by omega, hm1, fun _ => ⟨hsmall, by rw [List.take_of_length_le hge] at hall; exact hall⟩⟩⟩
  refine row_of hlt (clirow_len _) ?_
  simp -implicitDefEqProofs [clirow_len, take_clirow, pure_d, re_d, aw_skip, aw_region, aw_seq, aw_block, aw_cond, aw_exit, aw_ret, kq_nil, kq_seq, kq_seq_ret, kq_seq_exit, kq_block, kq_block_ret, kq_block_exit, kq_loop, kq_loop_ret, kq_loop_exit, awOps_nil, awOps_cons, awOps_guardE, nx_eq, awOp, ev_k, ev_0, ev_1, ev_2, ev_3, ev_4, ev_5, ev_6, ev_7, ev_8, set_0, set_1, set_2, set_3, set_4, set_5, set_6, set_7, set_8, -List.set_cons_succ, -List.set_cons_zero, A.ok, A.val, setSl, wrapG, guardB, getB, pickA, binA, binC, binD, cmpD, isCmp, unA, unD, lenA, AOp.total, kills, litB, FinQ, resOks, resOk, resA, resList, resOne, A.thaw, C.thaw, A.fits, As.fits, C.fits, evs, oks, callArgs, A.pure, C.pure, A.re, C.re, fieldAddrA, loadC, cut, A.cells, C.rows?, getOb, newOb, setOb, storeC, splice, Ob.re, Cs.fits, partsA, partsOk, parts2A, parts2Ok, fillC, fillRows, optInt, optOk, sliceA, optK_some, storeK_some, Option.map_some, toDs, C.toD, spliceD, appendA, capsOf, srcRows, allLen_nil_iff, allLen_cons_iff, allLen_append_iff, dropC, Obs.fits, eqCs, eqD]
  refine call_some (h l[i] (List.getElem_mem hlt) k hm0 (by omega) _) (by simp) (fun r => Left.re) hf ?_
  rintro _ ⟨q, rfl, hq0, hq1, hq2⟩
  have hadd : inR .i64 ((i : Int) + 1) := small_i64 (by omega) (by omega)
  simp -implicitDefEqProofs [hadd, aw_skip, aw_region, aw_seq, aw_block, aw_cond, aw_exit, aw_ret, kq_nil, kq_seq, kq_seq_ret, kq_seq_exit, kq_block, kq_block_ret, kq_block_exit, kq_loop, kq_loop_ret, kq_loop_exit, awOps_nil, awOps_cons, awOps_guardE, nx_eq, awOp, ev_k, ev_0, ev_1, ev_2, ev_3, ev_4, ev_5, ev_6, ev_7, ev_8, set_0, set_1, set_2, set_3, set_4, set_5, set_6, set_7, set_8, -List.set_cons_succ, -List.set_cons_zero, A.ok, A.val, setSl, wrapG, guardB, getB, pickA, binA, binC, binD, cmpD, isCmp, unA, unD, lenA, AOp.total, kills, litB, FinQ, resOks, resOk, resA, resList, resOne, A.thaw, C.thaw, A.fits, As.fits, C.fits, evs, oks, callArgs, A.pure, C.pure, A.re, C.re, fieldAddrA, loadC, cut, A.cells, C.rows?, getOb, newOb, setOb, storeC, splice, Ob.re, Cs.fits, partsA, partsOk, parts2A, parts2Ok, fillC, fillRows, optInt, optOk, sliceA, optK_some, storeK_some, Option.map_some, toDs, C.toD, spliceD, appendA, capsOf, srcRows, allLen_nil_iff, allLen_cons_iff, allLen_append_iff, dropC, Obs.fits, eqCs, eqD]
  refine ⟨fun _ => ⟨-1, rfl, by omega, by omega, fun h => by omega⟩, fun hk => ?_⟩
  refine loop_back (i + 1, q) (by simp [setAll]) ⟨hlt, hk, by simp; omega, fun t ht => ?_⟩ (by show l.length - (i + 1) < l.length - i; omega)
  rw [List.take_succ_eq_append_getElem hlt, List.mem_append] at ht
  rcases ht with ht | ht
  · exact hall t ht
  · simp at ht; subst ht; exact hq2 hk

theorem toClientS_of (l : List Cli) (hl : l.length ≤ 1048576) (h : ∀ t ∈ l, ∀ H, ACalls Try.prog 15 [.agg ((Cli.row t).map .d)] H (fun r H' => H' = H ∧ r = .agg ((Cli.row t).map .d))) (H : Heap) :
    ACalls Try.prog 11 [.c (.d (.sl (l.map Cli.row)))] H (fun r H' => H' = H ∧ r = .c (.d (.sl (l.map Cli.row)))) := by
  refine acalls Try.func11 (by kernel_rfl) ac11_ok fun hf => ?_
  have hli : inR .i64 (l.length : Int) := small_i64 (by omega) (by omega)
  simp -implicitDefEqProofs [ac11, hli, aw_skip, aw_region, aw_seq, aw_block, aw_cond, aw_exit, aw_ret, kq_nil, kq_seq, kq_seq_ret, kq_seq_exit, kq_block, kq_block_ret, kq_block_exit, kq_loop, kq_loop_ret, kq_loop_exit, awOps_nil, awOps_cons, awOps_guardE, nx_eq, awOp, ev_k, ev_0, ev_1, ev_2, ev_3, ev_4, ev_5, ev_6, ev_7, ev_8, set_0, set_1, set_2, set_3, set_4, set_5, set_6, set_7, set_8, -List.set_cons_succ, -List.set_cons_zero, A.ok, A.val, setSl, wrapG, guardB, getB, pickA, binA, binC, binD, cmpD, isCmp, unA, unD, lenA, AOp.total, kills, litB, FinQ, resOks, resOk, resA, resList, resOne, A.thaw, C.thaw, A.fits, As.fits, C.fits, evs, oks, callArgs, A.pure, C.pure, A.re, C.re, fieldAddrA, loadC, cut, A.cells, C.rows?, getOb, newOb, setOb, storeC, splice, Ob.re, Cs.fits, partsA, partsOk, parts2A, parts2Ok, fillC, fillRows, optInt, optOk, sliceA, optK_some, storeK_some, Option.map_some, toDs, C.toD, spliceD, appendA, capsOf, srcRows, allLen_nil_iff, allLen_cons_iff, allLen_append_iff, dropC, Obs.fits, eqCs, eqD]
  refine ⟨by unfold maxApp; omega, ?_⟩
  refine loop_set (σ := Nat) (fun i => [(4, .c (.d (.int .i64 i)))]) (fun _ => H) (fun i => [.rows (fill Cli.row [.sl [], .bool false, .sl [], .sl [], .bool false, .sl [], .sl [], .int .i64 0, .int .i64 0, .int .i64 0, .int .i64 0, .bool false, .sl []] l i)]) (fun i => i ≤ l.length) (fun i => l.length - i) 0 (by simp [setAll, fill_zero]) (Nat.zero_le _) ?_
  intro i hi
  simp -implicitDefEqProofs [setAll, hli, aw_skip, aw_region, aw_seq, aw_block, aw_cond, aw_exit, aw_ret, kq_nil, kq_seq, kq_seq_ret, kq_seq_exit, kq_block, kq_block_ret, kq_block_exit, kq_loop, kq_loop_ret, kq_loop_exit, awOps_nil, awOps_cons, awOps_guardE, nx_eq, awOp, ev_k, ev_0, ev_1, ev_2, ev_3, ev_4, ev_5, ev_6, ev_7, ev_8, set_0, set_1, set_2, set_3, set_4, set_5, set_6, set_7, set_8, -List.set_cons_succ, -List.set_cons_zero, A.ok, A.val, setSl, wrapG, guardB, getB, pickA, binA, binC, binD, cmpD, isCmp, unA, unD, lenA, AOp.total, kills, litB, FinQ, resOks, resOk, resA, resList, resOne, A.thaw, C.thaw, A.fits, As.fits, C.fits, evs, oks, callArgs, A.pure, C.pure, A.re, C.re, fieldAddrA, loadC, cut, A.cells, C.rows?, getOb, newOb, setOb, storeC, splice, Ob.re, Cs.fits, partsA, partsOk, parts2A, parts2Ok, fillC, fillRows, optInt, optOk, sliceA, optK_some, storeK_some, Option.map_some, toDs, C.toD, spliceD, appendA, capsOf, srcRows, allLen_nil_iff, allLen_cons_iff, allLen_append_iff, dropC, Obs.fits, eqCs, eqD]
  refine ⟨fun hlt => ?_, fun hge => by rw [show i = l.length by omega, fill_all]⟩
  have hadd : inR .i64 ((i : Int) + 1) := small_i64 (by omega) (by omega)
  refine row_of hlt (clirow_len _) ?_
  simp -implicitDefEqProofs [clirow_len, take_clirow, pure_d, re_d, aw_skip, aw_region, aw_seq, aw_block, aw_cond, aw_exit, aw_ret, kq_nil, kq_seq, kq_seq_ret, kq_seq_exit, kq_block, kq_block_ret, kq_block_exit, kq_loop, kq_loop_ret, kq_loop_exit, awOps_nil, awOps_cons, awOps_guardE, nx_eq, awOp, ev_k, ev_0, ev_1, ev_2, ev_3, ev_4, ev_5, ev_6, ev_7, ev_8, set_0, set_1, set_2, set_3, set_4, set_5, set_6, set_7, set_8, -List.set_cons_succ, -List.set_cons_zero, A.ok, A.val, setSl, wrapG, guardB, getB, pickA, binA, binC, binD, cmpD, isCmp, unA, unD, lenA, AOp.total, kills, litB, FinQ, resOks, resOk, resA, resList, resOne, A.thaw, C.thaw, A.fits, As.fits, C.fits, evs, oks, callArgs, A.pure, C.pure, A.re, C.re, fieldAddrA, loadC, cut, A.cells, C.rows?, getOb, newOb, setOb, storeC, splice, Ob.re, Cs.fits, partsA, partsOk, parts2A, parts2Ok, fillC, fillRows, optInt, optOk, sliceA, optK_some, storeK_some, Option.map_some, toDs, C.toD, spliceD, appendA, capsOf, srcRows, allLen_nil_iff, allLen_cons_iff, allLen_append_iff, dropC, Obs.fits, eqCs, eqD]
  refine qcall_pure (h l[i] (List.getElem_mem hlt)) hf (by simp [A.re, re_d]) ?_
  simp -implicitDefEqProofs [hadd, hlt, fill_get _ _ _ hlt, toDs_map, clirow_len, aw_skip, aw_region, aw_seq, aw_block, aw_cond, aw_exit, aw_ret, kq_nil, kq_seq, kq_seq_ret, kq_seq_exit, kq_block, kq_block_ret, kq_block_exit, kq_loop, kq_loop_ret, kq_loop_exit, awOps_nil, awOps_cons, awOps_guardE, nx_eq, awOp, ev_k, ev_0, ev_1, ev_2, ev_3, ev_4, ev_5, ev_6, ev_7, ev_8, set_0, set_1, set_2, set_3, set_4, set_5, set_6, set_7, set_8, -List.set_cons_succ, -List.set_cons_zero, A.ok, A.val, setSl, wrapG, guardB, getB, pickA, binA, binC, binD, cmpD, isCmp, unA, unD, lenA, AOp.total, kills, litB, FinQ, resOks, resOk, resA, resList, resOne, A.thaw, C.thaw, A.fits, As.fits, C.fits, evs, oks, callArgs, A.pure, C.pure, A.re, C.re, fieldAddrA, loadC, cut, A.cells, C.rows?, getOb, newOb, setOb, storeC, splice, Ob.re, Cs.fits, partsA, partsOk, parts2A, parts2Ok, fillC, fillRows, optInt, optOk, sliceA, optK_some, storeK_some, Option.map_some, toDs, C.toD, spliceD, appendA, capsOf, srcRows, allLen_nil_iff, allLen_cons_iff, allLen_append_iff, dropC, Obs.fits, eqCs, eqD]
  have hset := fill_set Cli.row [.sl [], .bool false, .sl [], .sl [], .bool false, .sl [], .sl [], .int .i64 0, .int .i64 0, .int .i64 0, .int .i64 0, .bool false, .sl []] l hlt
  exact ⟨hf, loop_back (i + 1) (by simp [setAll]; exact hset) hlt (by show l.length - (i + 1) < l.length - i; omega)⟩

theorem eqClientS_of (l : List Cli) (hl : l.length ≤ 1048576) (h : ∀ t ∈ l, ∀ H, ACalls Try.prog 16 [.agg ((Cli.row t).map .d), .agg ((Cli.row t).map .d)] H (fun r H' => H' = H ∧ r = .c (.d (.bool true)))) (H : Heap) :
    ACalls Try.prog 13 [.c (.d (.sl (l.map Cli.row))), .c (.d (.sl (l.map Cli.row)))] H (fun r H' => H' = H ∧ r = .c (.d (.bool true))) := by
  refine acalls Try.func13 (by kernel_rfl) ac13_ok fun hf => ?_
  have hli : inR .i64 (l.length : Int) := small_i64 (by omega) (by omega)
  simp -implicitDefEqProofs [ac13, hli, aw_skip, aw_region, aw_seq, aw_block, aw_cond, aw_exit, aw_ret, kq_nil, kq_seq, kq_seq_ret, kq_seq_exit, kq_block, kq_block_ret, kq_block_exit, kq_loop, kq_loop_ret, kq_loop_exit, awOps_nil, awOps_cons, awOps_guardE, nx_eq, awOp, ev_k, ev_0, ev_1, ev_2, ev_3, ev_4, ev_5, ev_6, ev_7, ev_8, set_0, set_1, set_2, set_3, set_4, set_5, set_6, set_7, set_8, -List.set_cons_succ, -List.set_cons_zero, A.ok, A.val, setSl, wrapG, guardB, getB, pickA, binA, binC, binD, cmpD, isCmp, unA, unD, lenA, AOp.total, kills, litB, FinQ, resOks, resOk, resA, resList, resOne, A.thaw, C.thaw, A.fits, As.fits, C.fits, evs, oks, callArgs, A.pure, C.pure, A.re, C.re, fieldAddrA, loadC, cut, A.cells, C.rows?, getOb, newOb, setOb, storeC, splice, Ob.re, Cs.fits, partsA, partsOk, parts2A, parts2Ok, fillC, fillRows, optInt, optOk, sliceA, optK_some, storeK_some, Option.map_some, toDs, C.toD, spliceD, appendA, capsOf, srcRows, allLen_nil_iff, allLen_cons_iff, allLen_append_iff, dropC, Obs.fits, eqCs, eqD]
  refine loop_set (σ := Nat) (fun i => [(5, .c (.d (.int .i64 i)))]) (fun _ => H) (fun _ => []) (fun i => i ≤ l.length) (fun i => l.length - i) 0 rfl (Nat.zero_le _) ?_
  intro i hi
  simp -implicitDefEqProofs [setAll, hli, aw_skip, aw_region, aw_seq, aw_block, aw_cond, aw_exit, aw_ret, kq_nil, kq_seq, kq_seq_ret, kq_seq_exit, kq_block, kq_block_ret, kq_block_exit, kq_loop, kq_loop_ret, kq_loop_exit, awOps_nil, awOps_cons, awOps_guardE, nx_eq, awOp, ev_k, ev_0, ev_1, ev_2, ev_3, ev_4, ev_5, ev_6, ev_7, ev_8, set_0, set_1, set_2, set_3, set_4, set_5, set_6, set_7, set_8, -List.set_cons_succ, -List.set_cons_zero, A.ok, A.val, setSl, wrapG, guardB, getB, pickA, binA, binC, binD, cmpD, isCmp, unA, unD, lenA, AOp.total, kills, litB, FinQ, resOks, resOk, resA, resList, resOne, A.thaw, C.thaw, A.fits, As.fits, C.fits, evs, oks, callArgs, A.pure, C.pure, A.re, C.re, fieldAddrA, loadC, cut, A.cells, C.rows?, getOb, newOb, setOb, storeC, splice, Ob.re, Cs.fits, partsA, partsOk, parts2A, parts2Ok, fillC, fillRows, optInt, optOk, sliceA, optK_some, storeK_some, Option.map_some, toDs, C.toD, spliceD, appendA, capsOf, srcRows, allLen_nil_iff, allLen_cons_iff, allLen_append_iff, dropC, Obs.fits, eqCs, eqD]
  intro hlt
  have hadd : inR .i64 ((i : Int) + 1) := small_i64 (by omega) (by omega)
  refine row_of hlt (clirow_len _) ?_
  simp -implicitDefEqProofs [clirow_len, take_clirow, aw_skip, aw_region, aw_seq, aw_block, aw_cond, aw_exit, aw_ret, kq_nil, kq_seq, kq_seq_ret, kq_seq_exit, kq_block, kq_block_ret, kq_block_exit, kq_loop, kq_loop_ret, kq_loop_exit, awOps_nil, awOps_cons, awOps_guardE, nx_eq, awOp, ev_k, ev_0, ev_1, ev_2, ev_3, ev_4, ev_5, ev_6, ev_7, ev_8, set_0, set_1, set_2, set_3, set_4, set_5, set_6, set_7, set_8, -List.set_cons_succ, -List.set_cons_zero, A.ok, A.val, setSl, wrapG, guardB, getB, pickA, binA, binC, binD, cmpD, isCmp, unA, unD, lenA, AOp.total, kills, litB, FinQ, resOks, resOk, resA, resList, resOne, A.thaw, C.thaw, A.fits, As.fits, C.fits, evs, oks, callArgs, A.pure, C.pure, A.re, C.re, fieldAddrA, loadC, cut, A.cells, C.rows?, getOb, newOb, setOb, storeC, splice, Ob.re, Cs.fits, partsA, partsOk, parts2A, parts2Ok, fillC, fillRows, optInt, optOk, sliceA, optK_some, storeK_some, Option.map_some, toDs, C.toD, spliceD, appendA, capsOf, srcRows, allLen_nil_iff, allLen_cons_iff, allLen_append_iff, dropC, Obs.fits, eqCs, eqD]
  refine row_of hlt (clirow_len _) ?_
  simp -implicitDefEqProofs [clirow_len, take_clirow, pure_d, re_d, aw_skip, aw_region, aw_seq, aw_block, aw_cond, aw_exit, aw_ret, kq_nil, kq_seq, kq_seq_ret, kq_seq_exit, kq_block, kq_block_ret, kq_block_exit, kq_loop, kq_loop_ret, kq_loop_exit, awOps_nil, awOps_cons, awOps_guardE, nx_eq, awOp, ev_k, ev_0, ev_1, ev_2, ev_3, ev_4, ev_5, ev_6, ev_7, ev_8, set_0, set_1, set_2, set_3, set_4, set_5, set_6, set_7, set_8, -List.set_cons_succ, -List.set_cons_zero, A.ok, A.val, setSl, wrapG, guardB, getB, pickA, binA, binC, binD, cmpD, isCmp, unA, unD, lenA, AOp.total, kills, litB, FinQ, resOks, resOk, resA, resList, resOne, A.thaw, C.thaw, A.fits, As.fits, C.fits, evs, oks, callArgs, A.pure, C.pure, A.re, C.re, fieldAddrA, loadC, cut, A.cells, C.rows?, getOb, newOb, setOb, storeC, splice, Ob.re, Cs.fits, partsA, partsOk, parts2A, parts2Ok, fillC, fillRows, optInt, optOk, sliceA, optK_some, storeK_some, Option.map_some, toDs, C.toD, spliceD, appendA, capsOf, srcRows, allLen_nil_iff, allLen_cons_iff, allLen_append_iff, dropC, Obs.fits, eqCs, eqD]
  refine qcall_pure (h l[i] (List.getElem_mem hlt)) hf rfl ?_
  simp -implicitDefEqProofs [hadd, aw_skip, aw_region, aw_seq, aw_block, aw_cond, aw_exit, aw_ret, kq_nil, kq_seq, kq_seq_ret, kq_seq_exit, kq_block, kq_block_ret, kq_block_exit, kq_loop, kq_loop_ret, kq_loop_exit, awOps_nil, awOps_cons, awOps_guardE, nx_eq, awOp, ev_k, ev_0, ev_1, ev_2, ev_3, ev_4, ev_5, ev_6, ev_7, ev_8, set_0, set_1, set_2, set_3, set_4, set_5, set_6, set_7, set_8, -List.set_cons_succ, -List.set_cons_zero, A.ok, A.val, setSl, wrapG, guardB, getB, pickA, binA, binC, binD, cmpD, isCmp, unA, unD, lenA, AOp.total, kills, litB, FinQ, resOks, resOk, resA, resList, resOne, A.thaw, C.thaw, A.fits, As.fits, C.fits, evs, oks, callArgs, A.pure, C.pure, A.re, C.re, fieldAddrA, loadC, cut, A.cells, C.rows?, getOb, newOb, setOb, storeC, splice, Ob.re, Cs.fits, partsA, partsOk, parts2A, parts2Ok, fillC, fillRows, optInt, optOk, sliceA, optK_some, storeK_some, Option.map_some, toDs, C.toD, spliceD, appendA, capsOf, srcRows, allLen_nil_iff, allLen_cons_iff, allLen_append_iff, dropC, Obs.fits, eqCs, eqD]
  exact loop_back (i + 1) (by simp [setAll]) hlt (by show l.length - (i + 1) < l.length - i; omega)

theorem szClient_calls (c : Cli) (hc : c.fine) : SzCli c := fun m h0 h1 H => by
  obtain ⟨i, w, p, a, s, t, o⟩ := c
  obtain ⟨hi, hw, hwf, hp, hpf, hs, ho, hof⟩ := hc
  simp only at hi hw hwf hp hpf hs ho hof
  have c1 := szDecoder_calls i hi m h0 h1
  have c4 := szSession_calls s hs
  simp only [Dec.row, Ss.row, List.map_cons, List.map_nil] at c1 c4
  refine acalls Try.func14 (by kernel_rfl) ac14_ok fun hf => ?_
  simp -implicitDefEqProofs [ac14, Cli.row, aw_skip, aw_region, aw_seq, aw_block, aw_cond, aw_exit, aw_ret, kq_nil, kq_seq, kq_seq_ret, kq_seq_exit, kq_block, kq_block_ret, kq_block_exit, kq_loop, kq_loop_ret, kq_loop_exit, awOps_nil, awOps_cons, awOps_guardE, nx_eq, awOp, ev_k, ev_0, ev_1, ev_2, ev_3, ev_4, ev_5, ev_6, ev_7, ev_8, set_0, set_1, set_2, set_3, set_4, set_5, set_6, set_7, set_8, -List.set_cons_succ, -List.set_cons_zero, A.ok, A.val, setSl, wrapG, guardB, getB, pickA, binA, binC, binD, cmpD, isCmp, unA, unD, lenA, AOp.total, kills, litB, FinQ, resOks, resOk, resA, resList, resOne, A.thaw, C.thaw, A.fits, As.fits, C.fits, evs, oks, callArgs, A.pure, C.pure, A.re, C.re, fieldAddrA, loadC, cut, A.cells, C.rows?, getOb, newOb, setOb, storeC, splice, Ob.re, Cs.fits, partsA, partsOk, parts2A, parts2Ok, fillC, fillRows, optInt, optOk, sliceA, optK_some, storeK_some, Option.map_some, toDs, C.toD, spliceD, appendA, capsOf, srcRows, allLen_nil_iff, allLen_cons_iff, allLen_append_iff, dropC, Obs.fits, eqCs, eqD]
  refine call_some (c1 _) (by simp [Ob.re, C.re]) (fun r => Left.re) hf ?_
  rintro _ ⟨x, rfl, hx0, hx1, hx2⟩
  simp -implicitDefEqProofs [aw_skip, aw_region, aw_seq, aw_block, aw_cond, aw_exit, aw_ret, kq_nil, kq_seq, kq_seq_ret, kq_seq_exit, kq_block, kq_block_ret, kq_block_exit, kq_loop, kq_loop_ret, kq_loop_exit, awOps_nil, awOps_cons, awOps_guardE, nx_eq, awOp, ev_k, ev_0, ev_1, ev_2, ev_3, ev_4, ev_5, ev_6, ev_7, ev_8, set_0, set_1, set_2, set_3, set_4, set_5, set_6, set_7, set_8, -List.set_cons_succ, -List.set_cons_zero, A.ok, A.val, setSl, wrapG, guardB, getB, pickA, binA, binC, binD, cmpD, isCmp, unA, unD, lenA, AOp.total, kills, litB, FinQ, resOks, resOk, resA, resList, resOne, A.thaw, C.thaw, A.fits, As.fits, C.fits, evs, oks, callArgs, A.pure, C.pure, A.re, C.re, fieldAddrA, loadC, cut, A.cells, C.rows?, getOb, newOb, setOb, storeC, splice, Ob.re, Cs.fits, partsA, partsOk, parts2A, parts2Ok, fillC, fillRows, optInt, optOk, sliceA, optK_some, storeK_some, Option.map_some, toDs, C.toD, spliceD, appendA, capsOf, srcRows, allLen_nil_iff, allLen_cons_iff, allLen_append_iff, dropC, Obs.fits, eqCs, eqD]
  refine ⟨fun _ => ⟨-1, rfl, by omega, by omega, fun h => by omega⟩, fun hx => ?_⟩
  refine call_some (szFrameS_calls w hw hwf x hx (by omega) _) (by simp [Ob.re, C.re]) (fun r => Left.re) hf ?_
  rintro _ ⟨y, rfl, hy0, hy1, hy2⟩
  simp -implicitDefEqProofs [aw_skip, aw_region, aw_seq, aw_block, aw_cond, aw_exit, aw_ret, kq_nil, kq_seq, kq_seq_ret, kq_seq_exit, kq_block, kq_block_ret, kq_block_exit, kq_loop, kq_loop_ret, kq_loop_exit, awOps_nil, awOps_cons, awOps_guardE, nx_eq, awOp, ev_k, ev_0, ev_1, ev_2, ev_3, ev_4, ev_5, ev_6, ev_7, ev_8, set_0, set_1, set_2, set_3, set_4, set_5, set_6, set_7, set_8, -List.set_cons_succ, -List.set_cons_zero, A.ok, A.val, setSl, wrapG, guardB, getB, pickA, binA, binC, binD, cmpD, isCmp, unA, unD, lenA, AOp.total, kills, litB, FinQ, resOks, resOk, resA, resList, resOne, A.thaw, C.thaw, A.fits, As.fits, C.fits, evs, oks, callArgs, A.pure, C.pure, A.re, C.re, fieldAddrA, loadC, cut, A.cells, C.rows?, getOb, newOb, setOb, storeC, splice, Ob.re, Cs.fits, partsA, partsOk, parts2A, parts2Ok, fillC, fillRows, optInt, optOk, sliceA, optK_some, storeK_some, Option.map_some, toDs, C.toD, spliceD, appendA, capsOf, srcRows, allLen_nil_iff, allLen_cons_iff, allLen_append_iff, dropC, Obs.fits, eqCs, eqD]
  refine ⟨fun _ => ⟨-1, rfl, by omega, by omega, fun h => by omega⟩, fun hy => ?_⟩
  refine call_some (szClauseS_calls p hp hpf y hy (by omega) _) (by simp [Ob.re, C.re]) (fun r => Left.re) hf ?_
  rintro _ ⟨z, rfl, hz0, hz1, hz2⟩
  simp -implicitDefEqProofs [aw_skip, aw_region, aw_seq, aw_block, aw_cond, aw_exit, aw_ret, kq_nil, kq_seq, kq_seq_ret, kq_seq_exit, kq_block, kq_block_ret, kq_block_exit, kq_loop, kq_loop_ret, kq_loop_exit, awOps_nil, awOps_cons, awOps_guardE, nx_eq, awOp, ev_k, ev_0, ev_1, ev_2, ev_3, ev_4, ev_5, ev_6, ev_7, ev_8, set_0, set_1, set_2, set_3, set_4, set_5, set_6, set_7, set_8, -List.set_cons_succ, -List.set_cons_zero, A.ok, A.val, setSl, wrapG, guardB, getB, pickA, binA, binC, binD, cmpD, isCmp, unA, unD, lenA, AOp.total, kills, litB, FinQ, resOks, resOk, resA, resList, resOne, A.thaw, C.thaw, A.fits, As.fits, C.fits, evs, oks, callArgs, A.pure, C.pure, A.re, C.re, fieldAddrA, loadC, cut, A.cells, C.rows?, getOb, newOb, setOb, storeC, splice, Ob.re, Cs.fits, partsA, partsOk, parts2A, parts2Ok, fillC, fillRows, optInt, optOk, sliceA, optK_some, storeK_some, Option.map_some, toDs, C.toD, spliceD, appendA, capsOf, srcRows, allLen_nil_iff, allLen_cons_iff, allLen_append_iff, dropC, Obs.fits, eqCs, eqD]
  refine ⟨fun _ => ⟨-1, rfl, by omega, by omega, fun h => by omega⟩, fun hz => ?_⟩
  refine call_some (c4 z hz (by omega) _) (by simp [Ob.re, C.re]) (fun r => Left.re) hf ?_
  rintro _ ⟨u, rfl, hu0, hu1, hu2⟩
  simp -implicitDefEqProofs [aw_skip, aw_region, aw_seq, aw_block, aw_cond, aw_exit, aw_ret, kq_nil, kq_seq, kq_seq_ret, kq_seq_exit, kq_block, kq_block_ret, kq_block_exit, kq_loop, kq_loop_ret, kq_loop_exit, awOps_nil, awOps_cons, awOps_guardE, nx_eq, awOp, ev_k, ev_0, ev_1, ev_2, ev_3, ev_4, ev_5, ev_6, ev_7, ev_8, set_0, set_1, set_2, set_3, set_4, set_5, set_6, set_7, set_8, -List.set_cons_succ, -List.set_cons_zero, A.ok, A.val, setSl, wrapG, guardB, getB, pickA, binA, binC, binD, cmpD, isCmp, unA, unD, lenA, AOp.total, kills, litB, FinQ, resOks, resOk, resA, resList, resOne, A.thaw, C.thaw, A.fits, As.fits, C.fits, evs, oks, callArgs, A.pure, C.pure, A.re, C.re, fieldAddrA, loadC, cut, A.cells, C.rows?, getOb, newOb, setOb, storeC, splice, Ob.re, Cs.fits, partsA, partsOk, parts2A, parts2Ok, fillC, fillRows, optInt, optOk, sliceA, optK_some, storeK_some, Option.map_some, toDs, C.toD, spliceD, appendA, capsOf, srcRows, allLen_nil_iff, allLen_cons_iff, allLen_append_iff, dropC, Obs.fits, eqCs, eqD]
  refine ⟨fun _ => ⟨-1, rfl, by omega, by omega, fun h => by omega⟩, fun hu => ?_⟩
  refine call_some (szFrameS_calls o ho hof u hu (by omega) _) (by simp [Ob.re, C.re]) (fun r => Left.re) hf ?_
  rintro _ ⟨v, rfl, hv0, hv1, hv2⟩
  simp -implicitDefEqProofs [aw_skip, aw_region, aw_seq, aw_block, aw_cond, aw_exit, aw_ret, kq_nil, kq_seq, kq_seq_ret, kq_seq_exit, kq_block, kq_block_ret, kq_block_exit, kq_loop, kq_loop_ret, kq_loop_exit, awOps_nil, awOps_cons, awOps_guardE, nx_eq, awOp, ev_k, ev_0, ev_1, ev_2, ev_3, ev_4, ev_5, ev_6, ev_7, ev_8, set_0, set_1, set_2, set_3, set_4, set_5, set_6, set_7, set_8, -List.set_cons_succ, -List.set_cons_zero, A.ok, A.val, setSl, wrapG, guardB, getB, pickA, binA, binC, binD, cmpD, isCmp, unA, unD, lenA, AOp.total, kills, litB, FinQ, resOks, resOk, resA, resList, resOne, A.thaw, C.thaw, A.fits, As.fits, C.fits, evs, oks, callArgs, A.pure, C.pure, A.re, C.re, fieldAddrA, loadC, cut, A.cells, C.rows?, getOb, newOb, setOb, storeC, splice, Ob.re, Cs.fits, partsA, partsOk, parts2A, parts2Ok, fillC, fillRows, optInt, optOk, sliceA, optK_some, storeK_some, Option.map_some, toDs, C.toD, spliceD, appendA, capsOf, srcRows, allLen_nil_iff, allLen_cons_iff, allLen_append_iff, dropC, Obs.fits, eqCs, eqD]
  exact ⟨fun _ => ⟨-1, rfl, by omega, by omega, fun h => by omega⟩, fun hv => ⟨v, rfl, by omega, by omega, fun _ => ⟨hx2 hx, hy2 hy, hz2 hz, hu2 hu, hv2 hv⟩⟩⟩
theorem toClient_calls (c : Cli) (hc : c.fits) (H : Heap) : ACalls Try.prog 15 [.agg (c.row.map .d)] H (fun r H' => H' = H ∧ r = .agg (c.row.map .d)) := by
  obtain ⟨i, w, p, a, s, t, o⟩ := c
  obtain ⟨hi, hw, hp, hs, ho⟩ := hc
  simp only at hi hw hp hs ho
  have c1 := toDecoder_calls i hi
  have c4 := toSession_calls s hs
  simp only [Dec.row, Ss.row, List.map_cons, List.map_nil] at c1 c4
  refine acalls Try.func15 (by kernel_rfl) ac15_ok fun hf => ?_
  simp -implicitDefEqProofs [ac15, Cli.row, hf, aw_skip, aw_region, aw_seq, aw_block, aw_cond, aw_exit, aw_ret, kq_nil, kq_seq, kq_seq_ret, kq_seq_exit, kq_block, kq_block_ret, kq_block_exit, kq_loop, kq_loop_ret, kq_loop_exit, awOps_nil, awOps_cons, awOps_guardE, nx_eq, awOp, ev_k, ev_0, ev_1, ev_2, ev_3, ev_4, ev_5, ev_6, ev_7, ev_8, set_0, set_1, set_2, set_3, set_4, set_5, set_6, set_7, set_8, -List.set_cons_succ, -List.set_cons_zero, A.ok, A.val, setSl, wrapG, guardB, getB, pickA, binA, binC, binD, cmpD, isCmp, unA, unD, lenA, AOp.total, kills, litB, FinQ, resOks, resOk, resA, resList, resOne, A.thaw, C.thaw, A.fits, As.fits, C.fits, evs, oks, callArgs, A.pure, C.pure, A.re, C.re, fieldAddrA, loadC, cut, A.cells, C.rows?, getOb, newOb, setOb, storeC, splice, Ob.re, Cs.fits, partsA, partsOk, parts2A, parts2Ok, fillC, fillRows, optInt, optOk, sliceA, optK_some, storeK_some, Option.map_some, toDs, C.toD, spliceD, appendA, capsOf, srcRows, allLen_nil_iff, allLen_cons_iff, allLen_append_iff, dropC, Obs.fits, eqCs, eqD]
  refine qcall_pure c1 hf rfl ?_
  simp -implicitDefEqProofs [hf, aw_skip, aw_region, aw_seq, aw_block, aw_cond, aw_exit, aw_ret, kq_nil, kq_seq, kq_seq_ret, kq_seq_exit, kq_block, kq_block_ret, kq_block_exit, kq_loop, kq_loop_ret, kq_loop_exit, awOps_nil, awOps_cons, awOps_guardE, nx_eq, awOp, ev_k, ev_0, ev_1, ev_2, ev_3, ev_4, ev_5, ev_6, ev_7, ev_8, set_0, set_1, set_2, set_3, set_4, set_5, set_6, set_7, set_8, -List.set_cons_succ, -List.set_cons_zero, A.ok, A.val, setSl, wrapG, guardB, getB, pickA, binA, binC, binD, cmpD, isCmp, unA, unD, lenA, AOp.total, kills, litB, FinQ, resOks, resOk, resA, resList, resOne, A.thaw, C.thaw, A.fits, As.fits, C.fits, evs, oks, callArgs, A.pure, C.pure, A.re, C.re, fieldAddrA, loadC, cut, A.cells, C.rows?, getOb, newOb, setOb, storeC, splice, Ob.re, Cs.fits, partsA, partsOk, parts2A, parts2Ok, fillC, fillRows, optInt, optOk, sliceA, optK_some, storeK_some, Option.map_some, toDs, C.toD, spliceD, appendA, capsOf, srcRows, allLen_nil_iff, allLen_cons_iff, allLen_append_iff, dropC, Obs.fits, eqCs, eqD]
  refine qcall_pure (toFrameS_calls w hw) hf rfl ?_
  simp -implicitDefEqProofs [hf, aw_skip, aw_region, aw_seq, aw_block, aw_cond, aw_exit, aw_ret, kq_nil, kq_seq, kq_seq_ret, kq_seq_exit, kq_block, kq_block_ret, kq_block_exit, kq_loop, kq_loop_ret, kq_loop_exit, awOps_nil, awOps_cons, awOps_guardE, nx_eq, awOp, ev_k, ev_0, ev_1, ev_2, ev_3, ev_4, ev_5, ev_6, ev_7, ev_8, set_0, set_1, set_2, set_3, set_4, set_5, set_6, set_7, set_8, -List.set_cons_succ, -List.set_cons_zero, A.ok, A.val, setSl, wrapG, guardB, getB, pickA, binA, binC, binD, cmpD, isCmp, unA, unD, lenA, AOp.total, kills, litB, FinQ, resOks, resOk, resA, resList, resOne, A.thaw, C.thaw, A.fits, As.fits, C.fits, evs, oks, callArgs, A.pure, C.pure, A.re, C.re, fieldAddrA, loadC, cut, A.cells, C.rows?, getOb, newOb, setOb, storeC, splice, Ob.re, Cs.fits, partsA, partsOk, parts2A, parts2Ok, fillC, fillRows, optInt, optOk, sliceA, optK_some, storeK_some, Option.map_some, toDs, C.toD, spliceD, appendA, capsOf, srcRows, allLen_nil_iff, allLen_cons_iff, allLen_append_iff, dropC, Obs.fits, eqCs, eqD]
  refine qcall_pure (toClauseS_calls p hp) hf rfl ?_
  simp -implicitDefEqProofs [hf, aw_skip, aw_region, aw_seq, aw_block, aw_cond, aw_exit, aw_ret, kq_nil, kq_seq, kq_seq_ret, kq_seq_exit, kq_block, kq_block_ret, kq_block_exit, kq_loop, kq_loop_ret, kq_loop_exit, awOps_nil, awOps_cons, awOps_guardE, nx_eq, awOp, ev_k, ev_0, ev_1, ev_2, ev_3, ev_4, ev_5, ev_6, ev_7, ev_8, set_0, set_1, set_2, set_3, set_4, set_5, set_6, set_7, set_8, -List.set_cons_succ, -List.set_cons_zero, A.ok, A.val, setSl, wrapG, guardB, getB, pickA, binA, binC, binD, cmpD, isCmp, unA, unD, lenA, AOp.total, kills, litB, FinQ, resOks, resOk, resA, resList, resOne, A.thaw, C.thaw, A.fits, As.fits, C.fits, evs, oks, callArgs, A.pure, C.pure, A.re, C.re, fieldAddrA, loadC, cut, A.cells, C.rows?, getOb, newOb, setOb, storeC, splice, Ob.re, Cs.fits, partsA, partsOk, parts2A, parts2Ok, fillC, fillRows, optInt, optOk, sliceA, optK_some, storeK_some, Option.map_some, toDs, C.toD, spliceD, appendA, capsOf, srcRows, allLen_nil_iff, allLen_cons_iff, allLen_append_iff, dropC, Obs.fits, eqCs, eqD]
  refine qcall_pure c4 hf rfl ?_
  simp -implicitDefEqProofs [hf, aw_skip, aw_region, aw_seq, aw_block, aw_cond, aw_exit, aw_ret, kq_nil, kq_seq, kq_seq_ret, kq_seq_exit, kq_block, kq_block_ret, kq_block_exit, kq_loop, kq_loop_ret, kq_loop_exit, awOps_nil, awOps_cons, awOps_guardE, nx_eq, awOp, ev_k, ev_0, ev_1, ev_2, ev_3, ev_4, ev_5, ev_6, ev_7, ev_8, set_0, set_1, set_2, set_3, set_4, set_5, set_6, set_7, set_8, -List.set_cons_succ, -List.set_cons_zero, A.ok, A.val, setSl, wrapG, guardB, getB, pickA, binA, binC, binD, cmpD, isCmp, unA, unD, lenA, AOp.total, kills, litB, FinQ, resOks, resOk, resA, resList, resOne, A.thaw, C.thaw, A.fits, As.fits, C.fits, evs, oks, callArgs, A.pure, C.pure, A.re, C.re, fieldAddrA, loadC, cut, A.cells, C.rows?, getOb, newOb, setOb, storeC, splice, Ob.re, Cs.fits, partsA, partsOk, parts2A, parts2Ok, fillC, fillRows, optInt, optOk, sliceA, optK_some, storeK_some, Option.map_some, toDs, C.toD, spliceD, appendA, capsOf, srcRows, allLen_nil_iff, allLen_cons_iff, allLen_append_iff, dropC, Obs.fits, eqCs, eqD]
  refine qcall_pure (toFrameS_calls o ho) hf rfl ?_
  simp -implicitDefEqProofs [hf, aw_skip, aw_region, aw_seq, aw_block, aw_cond, aw_exit, aw_ret, kq_nil, kq_seq, kq_seq_ret, kq_seq_exit, kq_block, kq_block_ret, kq_block_exit, kq_loop, kq_loop_ret, kq_loop_exit, awOps_nil, awOps_cons, awOps_guardE, nx_eq, awOp, ev_k, ev_0, ev_1, ev_2, ev_3, ev_4, ev_5, ev_6, ev_7, ev_8, set_0, set_1, set_2, set_3, set_4, set_5, set_6, set_7, set_8, -List.set_cons_succ, -List.set_cons_zero, A.ok, A.val, setSl, wrapG, guardB, getB, pickA, binA, binC, binD, cmpD, isCmp, unA, unD, lenA, AOp.total, kills, litB, FinQ, resOks, resOk, resA, resList, resOne, A.thaw, C.thaw, A.fits, As.fits, C.fits, evs, oks, callArgs, A.pure, C.pure, A.re, C.re, fieldAddrA, loadC, cut, A.cells, C.rows?, getOb, newOb, setOb, storeC, splice, Ob.re, Cs.fits, partsA, partsOk, parts2A, parts2Ok, fillC, fillRows, optInt, optOk, sliceA, optK_some, storeK_some, Option.map_some, toDs, C.toD, spliceD, appendA, capsOf, srcRows, allLen_nil_iff, allLen_cons_iff, allLen_append_iff, dropC, Obs.fits, eqCs, eqD]
theorem eqClient_calls (c : Cli) (hc : c.fits) (H : Heap) : ACalls Try.prog 16 [.agg (c.row.map .d), .agg (c.row.map .d)] H (fun r H' => H' = H ∧ r = .c (.d (.bool true))) := by
  obtain ⟨i, w, p, a, s, t, o⟩ := c
  obtain ⟨hi, hw, hp, hs, ho⟩ := hc
  simp only at hi hw hp hs ho
  have c1 := eqDecoder_calls i hi
  have c4 := eqSession_calls s hs
  simp only [Dec.row, Ss.row, List.map_cons, List.map_nil] at c1 c4
  refine acalls Try.func16 (by kernel_rfl) ac16_ok fun hf => ?_
  simp -implicitDefEqProofs [ac16, Cli.row, hf, aw_skip, aw_region, aw_seq, aw_block, aw_cond, aw_exit, aw_ret, kq_nil, kq_seq, kq_seq_ret, kq_seq_exit, kq_block, kq_block_ret, kq_block_exit, kq_loop, kq_loop_ret, kq_loop_exit, awOps_nil, awOps_cons, awOps_guardE, nx_eq, awOp, ev_k, ev_0, ev_1, ev_2, ev_3, ev_4, ev_5, ev_6, ev_7, ev_8, set_0, set_1, set_2, set_3, set_4, set_5, set_6, set_7, set_8, -List.set_cons_succ, -List.set_cons_zero, A.ok, A.val, setSl, wrapG, guardB, getB, pickA, binA, binC, binD, cmpD, isCmp, unA, unD, lenA, AOp.total, kills, litB, FinQ, resOks, resOk, resA, resList, resOne, A.thaw, C.thaw, A.fits, As.fits, C.fits, evs, oks, callArgs, A.pure, C.pure, A.re, C.re, fieldAddrA, loadC, cut, A.cells, C.rows?, getOb, newOb, setOb, storeC, splice, Ob.re, Cs.fits, partsA, partsOk, parts2A, parts2Ok, fillC, fillRows, optInt, optOk, sliceA, optK_some, storeK_some, Option.map_some, toDs, C.toD, spliceD, appendA, capsOf, srcRows, allLen_nil_iff, allLen_cons_iff, allLen_append_iff, dropC, Obs.fits, eqCs, eqD]
  refine qcall_pure c1 hf rfl ?_
  simp -implicitDefEqProofs [hf, aw_skip, aw_region, aw_seq, aw_block, aw_cond, aw_exit, aw_ret, kq_nil, kq_seq, kq_seq_ret, kq_seq_exit, kq_block, kq_block_ret, kq_block_exit, kq_loop, kq_loop_ret, kq_loop_exit, awOps_nil, awOps_cons, awOps_guardE, nx_eq, awOp, ev_k, ev_0, ev_1, ev_2, ev_3, ev_4, ev_5, ev_6, ev_7, ev_8, set_0, set_1, set_2, set_3, set_4, set_5, set_6, set_7, set_8, -List.set_cons_succ, -List.set_cons_zero, A.ok, A.val, setSl, wrapG, guardB, getB, pickA, binA, binC, binD, cmpD, isCmp, unA, unD, lenA, AOp.total, kills, litB, FinQ, resOks, resOk, resA, resList, resOne, A.thaw, C.thaw, A.fits, As.fits, C.fits, evs, oks, callArgs, A.pure, C.pure, A.re, C.re, fieldAddrA, loadC, cut, A.cells, C.rows?, getOb, newOb, setOb, storeC, splice, Ob.re, Cs.fits, partsA, partsOk, parts2A, parts2Ok, fillC, fillRows, optInt, optOk, sliceA, optK_some, storeK_some, Option.map_some, toDs, C.toD, spliceD, appendA, capsOf, srcRows, allLen_nil_iff, allLen_cons_iff, allLen_append_iff, dropC, Obs.fits, eqCs, eqD]
  refine qcall_pure (eqFrameS_calls w hw) hf rfl ?_
  simp -implicitDefEqProofs [hf, aw_skip, aw_region, aw_seq, aw_block, aw_cond, aw_exit, aw_ret, kq_nil, kq_seq, kq_seq_ret, kq_seq_exit, kq_block, kq_block_ret, kq_block_exit, kq_loop, kq_loop_ret, kq_loop_exit, awOps_nil, awOps_cons, awOps_guardE, nx_eq, awOp, ev_k, ev_0, ev_1, ev_2, ev_3, ev_4, ev_5, ev_6, ev_7, ev_8, set_0, set_1, set_2, set_3, set_4, set_5, set_6, set_7, set_8, -List.set_cons_succ, -List.set_cons_zero, A.ok, A.val, setSl, wrapG, guardB, getB, pickA, binA, binC, binD, cmpD, isCmp, unA, unD, lenA, AOp.total, kills, litB, FinQ, resOks, resOk, resA, resList, resOne, A.thaw, C.thaw, A.fits, As.fits, C.fits, evs, oks, callArgs, A.pure, C.pure, A.re, C.re, fieldAddrA, loadC, cut, A.cells, C.rows?, getOb, newOb, setOb, storeC, splice, Ob.re, Cs.fits, partsA, partsOk, parts2A, parts2Ok, fillC, fillRows, optInt, optOk, sliceA, optK_some, storeK_some, Option.map_some, toDs, C.toD, spliceD, appendA, capsOf, srcRows, allLen_nil_iff, allLen_cons_iff, allLen_append_iff, dropC, Obs.fits, eqCs, eqD]
  refine qcall_pure (eqClauseS_calls p hp) hf rfl ?_
  simp -implicitDefEqProofs [hf, aw_skip, aw_region, aw_seq, aw_block, aw_cond, aw_exit, aw_ret, kq_nil, kq_seq, kq_seq_ret, kq_seq_exit, kq_block, kq_block_ret, kq_block_exit, kq_loop, kq_loop_ret, kq_loop_exit, awOps_nil, awOps_cons, awOps_guardE, nx_eq, awOp, ev_k, ev_0, ev_1, ev_2, ev_3, ev_4, ev_5, ev_6, ev_7, ev_8, set_0, set_1, set_2, set_3, set_4, set_5, set_6, set_7, set_8, -List.set_cons_succ, -List.set_cons_zero, A.ok, A.val, setSl, wrapG, guardB, getB, pickA, binA, binC, binD, cmpD, isCmp, unA, unD, lenA, AOp.total, kills, litB, FinQ, resOks, resOk, resA, resList, resOne, A.thaw, C.thaw, A.fits, As.fits, C.fits, evs, oks, callArgs, A.pure, C.pure, A.re, C.re, fieldAddrA, loadC, cut, A.cells, C.rows?, getOb, newOb, setOb, storeC, splice, Ob.re, Cs.fits, partsA, partsOk, parts2A, parts2Ok, fillC, fillRows, optInt, optOk, sliceA, optK_some, storeK_some, Option.map_some, toDs, C.toD, spliceD, appendA, capsOf, srcRows, allLen_nil_iff, allLen_cons_iff, allLen_append_iff, dropC, Obs.fits, eqCs, eqD]
  refine qcall_pure c4 hf rfl ?_
  simp -implicitDefEqProofs [hf, aw_skip, aw_region, aw_seq, aw_block, aw_cond, aw_exit, aw_ret, kq_nil, kq_seq, kq_seq_ret, kq_seq_exit, kq_block, kq_block_ret, kq_block_exit, kq_loop, kq_loop_ret, kq_loop_exit, awOps_nil, awOps_cons, awOps_guardE, nx_eq, awOp, ev_k, ev_0, ev_1, ev_2, ev_3, ev_4, ev_5, ev_6, ev_7, ev_8, set_0, set_1, set_2, set_3, set_4, set_5, set_6, set_7, set_8, -List.set_cons_succ, -List.set_cons_zero, A.ok, A.val, setSl, wrapG, guardB, getB, pickA, binA, binC, binD, cmpD, isCmp, unA, unD, lenA, AOp.total, kills, litB, FinQ, resOks, resOk, resA, resList, resOne, A.thaw, C.thaw, A.fits, As.fits, C.fits, evs, oks, callArgs, A.pure, C.pure, A.re, C.re, fieldAddrA, loadC, cut, A.cells, C.rows?, getOb, newOb, setOb, storeC, splice, Ob.re, Cs.fits, partsA, partsOk, parts2A, parts2Ok, fillC, fillRows, optInt, optOk, sliceA, optK_some, storeK_some, Option.map_some, toDs, C.toD, spliceD, appendA, capsOf, srcRows, allLen_nil_iff, allLen_cons_iff, allLen_append_iff, dropC, Obs.fits, eqCs, eqD]
  refine qcall_pure (eqFrameS_calls o ho) hf rfl ?_
  simp -implicitDefEqProofs [hf, aw_skip, aw_region, aw_seq, aw_block, aw_cond, aw_exit, aw_ret, kq_nil, kq_seq, kq_seq_ret, kq_seq_exit, kq_block, kq_block_ret, kq_block_exit, kq_loop, kq_loop_ret, kq_loop_exit, awOps_nil, awOps_cons, awOps_guardE, nx_eq, awOp, ev_k, ev_0, ev_1, ev_2, ev_3, ev_4, ev_5, ev_6, ev_7, ev_8, set_0, set_1, set_2, set_3, set_4, set_5, set_6, set_7, set_8, -List.set_cons_succ, -List.set_cons_zero, A.ok, A.val, setSl, wrapG, guardB, getB, pickA, binA, binC, binD, cmpD, isCmp, unA, unD, lenA, AOp.total, kills, litB, FinQ, resOks, resOk, resA, resList, resOne, A.thaw, C.thaw, A.fits, As.fits, C.fits, evs, oks, callArgs, A.pure, C.pure, A.re, C.re, fieldAddrA, loadC, cut, A.cells, C.rows?, getOb, newOb, setOb, storeC, splice, Ob.re, Cs.fits, partsA, partsOk, parts2A, parts2Ok, fillC, fillRows, optInt, optOk, sliceA, optK_some, storeK_some, Option.map_some, toDs, C.toD, spliceD, appendA, capsOf, srcRows, allLen_nil_iff, allLen_cons_iff, allLen_append_iff, dropC, Obs.fits, eqCs, eqD]
/-- a server -/
structure Srv where
  clients : List Cli
  quota : Int
def Srv.row (s : Srv) : List D := [.sl (s.clients.map Cli.row), .int .i64 s.quota]
structure Srv.fine (s : Srv) : Prop where
  len : s.clients.length ≤ reachBytes
  all : ∀ c ∈ s.clients, c.fine
structure Srv.fits (s : Srv) : Prop where
  len : s.clients.length ≤ 1048576
  all : ∀ c ∈ s.clients, c.fits
theorem szServer_calls (s : Srv) (hs : s.fine) (m : Int) (h0 : 0 ≤ m) (h1 : m ≤ 1048576) (H : Heap) : ACalls Try.prog 4 [.agg (s.row.map .d), .c (.d (.int .i64 m))] H (fun r H' => H' = H ∧ Left m s.fits r) := by
  obtain ⟨l, q⟩ := s
  obtain ⟨hl, h⟩ := hs
  refine acalls Try.func4 (by kernel_rfl) ac4_ok fun hf => ?_
  simp -implicitDefEqProofs [ac4, Srv.row, aw_skip, aw_region, aw_seq, aw_block, aw_cond, aw_exit, aw_ret, kq_nil, kq_seq, kq_seq_ret, kq_seq_exit, kq_block, kq_block_ret, kq_block_exit, kq_loop, kq_loop_ret, kq_loop_exit, awOps_nil, awOps_cons, awOps_guardE, nx_eq, awOp, ev_k, ev_0, ev_1, ev_2, ev_3, ev_4, ev_5, ev_6, ev_7, ev_8, set_0, set_1, set_2, set_3, set_4, set_5, set_6, set_7, set_8, -List.set_cons_succ, -List.set_cons_zero, A.ok, A.val, setSl, wrapG, guardB, getB, pickA, binA, binC, binD, cmpD, isCmp, unA, unD, lenA, AOp.total, kills, litB, FinQ, resOks, resOk, resA, resList, resOne, A.thaw, C.thaw, A.fits, As.fits, C.fits, evs, oks, callArgs, A.pure, C.pure, A.re, C.re, fieldAddrA, loadC, cut, A.cells, C.rows?, getOb, newOb, setOb, storeC, splice, Ob.re, Cs.fits, partsA, partsOk, parts2A, parts2Ok, fillC, fillRows, optInt, optOk, sliceA, optK_some, storeK_some, Option.map_some, toDs, C.toD, spliceD, appendA, capsOf, srcRows, allLen_nil_iff, allLen_cons_iff, allLen_append_iff, dropC, Obs.fits, eqCs, eqD]
  refine call_some (szClientS_of l hl (fun c hc => szClient_calls c (h c hc)) m h0 h1 _) (by simp [Ob.re, C.re]) (fun r => Left.re) hf ?_
  rintro _ ⟨x, rfl, hx0, hx1, hx2⟩
  simp -implicitDefEqProofs [aw_skip, aw_region, aw_seq, aw_block, aw_cond, aw_exit, aw_ret, kq_nil, kq_seq, kq_seq_ret, kq_seq_exit, kq_block, kq_block_ret, kq_block_exit, kq_loop, kq_loop_ret, kq_loop_exit, awOps_nil, awOps_cons, awOps_guardE, nx_eq, awOp, ev_k, ev_0, ev_1, ev_2, ev_3, ev_4, ev_5, ev_6, ev_7, ev_8, set_0, set_1, set_2, set_3, set_4, set_5, set_6, set_7, set_8, -List.set_cons_succ, -List.set_cons_zero, A.ok, A.val, setSl, wrapG, guardB, getB, pickA, binA, binC, binD, cmpD, isCmp, unA, unD, lenA, AOp.total, kills, litB, FinQ, resOks, resOk, resA, resList, resOne, A.thaw, C.thaw, A.fits, As.fits, C.fits, evs, oks, callArgs, A.pure, C.pure, A.re, C.re, fieldAddrA, loadC, cut, A.cells, C.rows?, getOb, newOb, setOb, storeC, splice, Ob.re, Cs.fits, partsA, partsOk, parts2A, parts2Ok, fillC, fillRows, optInt, optOk, sliceA, optK_some, storeK_some, Option.map_some, toDs, C.toD, spliceD, appendA, capsOf, srcRows, allLen_nil_iff, allLen_cons_iff, allLen_append_iff, dropC, Obs.fits, eqCs, eqD]
  exact ⟨fun _ => ⟨-1, rfl, by omega, by omega, fun h => by omega⟩, fun hx => ⟨x, rfl, by omega, by omega, fun _ => ⟨(hx2 hx).1, (hx2 hx).2⟩⟩⟩
theorem toServer_calls (s : Srv) (hs : s.fits) (H : Heap) : ACalls Try.prog 6 [.agg (s.row.map .d)] H (fun r H' => H' = H ∧ r = .agg (s.row.map .d)) := by
  obtain ⟨l, q⟩ := s
  obtain ⟨hl, h⟩ := hs
  refine acalls Try.func6 (by kernel_rfl) ac6_ok fun hf => ?_
  simp -implicitDefEqProofs [ac6, Srv.row, hf, aw_skip, aw_region, aw_seq, aw_block, aw_cond, aw_exit, aw_ret, kq_nil, kq_seq, kq_seq_ret, kq_seq_exit, kq_block, kq_block_ret, kq_block_exit, kq_loop, kq_loop_ret, kq_loop_exit, awOps_nil, awOps_cons, awOps_guardE, nx_eq, awOp, ev_k, ev_0, ev_1, ev_2, ev_3, ev_4, ev_5, ev_6, ev_7, ev_8, set_0, set_1, set_2, set_3, set_4, set_5, set_6, set_7, set_8, -List.set_cons_succ, -List.set_cons_zero, A.ok, A.val, setSl, wrapG, guardB, getB, pickA, binA, binC, binD, cmpD, isCmp, unA, unD, lenA, AOp.total, kills, litB, FinQ, resOks, resOk, resA, resList, resOne, A.thaw, C.thaw, A.fits, As.fits, C.fits, evs, oks, callArgs, A.pure, C.pure, A.re, C.re, fieldAddrA, loadC, cut, A.cells, C.rows?, getOb, newOb, setOb, storeC, splice, Ob.re, Cs.fits, partsA, partsOk, parts2A, parts2Ok, fillC, fillRows, optInt, optOk, sliceA, optK_some, storeK_some, Option.map_some, toDs, C.toD, spliceD, appendA, capsOf, srcRows, allLen_nil_iff, allLen_cons_iff, allLen_append_iff, dropC, Obs.fits, eqCs, eqD]
  refine qcall_pure (toClientS_of l hl fun c hc => toClient_calls c (h c hc)) hf rfl ?_
  simp -implicitDefEqProofs [hf, aw_skip, aw_region, aw_seq, aw_block, aw_cond, aw_exit, aw_ret, kq_nil, kq_seq, kq_seq_ret, kq_seq_exit, kq_block, kq_block_ret, kq_block_exit, kq_loop, kq_loop_ret, kq_loop_exit, awOps_nil, awOps_cons, awOps_guardE, nx_eq, awOp, ev_k, ev_0, ev_1, ev_2, ev_3, ev_4, ev_5, ev_6, ev_7, ev_8, set_0, set_1, set_2, set_3, set_4, set_5, set_6, set_7, set_8, -List.set_cons_succ, -List.set_cons_zero, A.ok, A.val, setSl, wrapG, guardB, getB, pickA, binA, binC, binD, cmpD, isCmp, unA, unD, lenA, AOp.total, kills, litB, FinQ, resOks, resOk, resA, resList, resOne, A.thaw, C.thaw, A.fits, As.fits, C.fits, evs, oks, callArgs, A.pure, C.pure, A.re, C.re, fieldAddrA, loadC, cut, A.cells, C.rows?, getOb, newOb, setOb, storeC, splice, Ob.re, Cs.fits, partsA, partsOk, parts2A, parts2Ok, fillC, fillRows, optInt, optOk, sliceA, optK_some, storeK_some, Option.map_some, toDs, C.toD, spliceD, appendA, capsOf, srcRows, allLen_nil_iff, allLen_cons_iff, allLen_append_iff, dropC, Obs.fits, eqCs, eqD]
theorem eqServer_calls (s : Srv) (hs : s.fits) (H : Heap) : ACalls Try.prog 8 [.agg (s.row.map .d), .agg (s.row.map .d)] H (fun r H' => H' = H ∧ r = .c (.d (.bool true))) := by
  obtain ⟨l, q⟩ := s
  obtain ⟨hl, h⟩ := hs
  refine acalls Try.func8 (by kernel_rfl) ac8_ok fun hf => ?_
  simp -implicitDefEqProofs [ac8, Srv.row, hf, aw_skip, aw_region, aw_seq, aw_block, aw_cond, aw_exit, aw_ret, kq_nil, kq_seq, kq_seq_ret, kq_seq_exit, kq_block, kq_block_ret, kq_block_exit, kq_loop, kq_loop_ret, kq_loop_exit, awOps_nil, awOps_cons, awOps_guardE, nx_eq, awOp, ev_k, ev_0, ev_1, ev_2, ev_3, ev_4, ev_5, ev_6, ev_7, ev_8, set_0, set_1, set_2, set_3, set_4, set_5, set_6, set_7, set_8, -List.set_cons_succ, -List.set_cons_zero, A.ok, A.val, setSl, wrapG, guardB, getB, pickA, binA, binC, binD, cmpD, isCmp, unA, unD, lenA, AOp.total, kills, litB, FinQ, resOks, resOk, resA, resList, resOne, A.thaw, C.thaw, A.fits, As.fits, C.fits, evs, oks, callArgs, A.pure, C.pure, A.re, C.re, fieldAddrA, loadC, cut, A.cells, C.rows?, getOb, newOb, setOb, storeC, splice, Ob.re, Cs.fits, partsA, partsOk, parts2A, parts2Ok, fillC, fillRows, optInt, optOk, sliceA, optK_some, storeK_some, Option.map_some, toDs, C.toD, spliceD, appendA, capsOf, srcRows, allLen_nil_iff, allLen_cons_iff, allLen_append_iff, dropC, Obs.fits, eqCs, eqD]
  refine qcall_pure (eqClientS_of l hl fun c hc => eqClient_calls c (h c hc)) hf rfl ?_
  simp -implicitDefEqProofs [hf, aw_skip, aw_region, aw_seq, aw_block, aw_cond, aw_exit, aw_ret, kq_nil, kq_seq, kq_seq_ret, kq_seq_exit, kq_block, kq_block_ret, kq_block_exit, kq_loop, kq_loop_ret, kq_loop_exit, awOps_nil, awOps_cons, awOps_guardE, nx_eq, awOp, ev_k, ev_0, ev_1, ev_2, ev_3, ev_4, ev_5, ev_6, ev_7, ev_8, set_0, set_1, set_2, set_3, set_4, set_5, set_6, set_7, set_8, -List.set_cons_succ, -List.set_cons_zero, A.ok, A.val, setSl, wrapG, guardB, getB, pickA, binA, binC, binD, cmpD, isCmp, unA, unD, lenA, AOp.total, kills, litB, FinQ, resOks, resOk, resA, resList, resOne, A.thaw, C.thaw, A.fits, As.fits, C.fits, evs, oks, callArgs, A.pure, C.pure, A.re, C.re, fieldAddrA, loadC, cut, A.cells, C.rows?, getOb, newOb, setOb, storeC, splice, Ob.re, Cs.fits, partsA, partsOk, parts2A, parts2Ok, fillC, fillRows, optInt, optOk, sliceA, optK_some, storeK_some, Option.map_some, toDs, C.toD, spliceD, appendA, capsOf, srcRows, allLen_nil_iff, allLen_cons_iff, allLen_append_iff, dropC, Obs.fits, eqCs, eqD]
theorem client_ty {row : List D} (h : HasTy Try.prog 56 row) : ∃ c : Cli, row = c.row ∧ c.fine := by
  obtain ⟨hl, hf⟩ := h.st_inv Try.underlying56
  rw [show Try.prog.cellsOf 56 = 13 from by kernel_rfl] at hl
  match row, hl with
  | [a, b, c, d, e, f, g, h, i, j, k, l, m], _ =>
    simp [show Try.prog.cellsOf 49 = 2 from by kernel_rfl, show Try.prog.cellsOf 50 = 1 from by kernel_rfl, show Try.prog.cellsOf 51 = 1 from by kernel_rfl, show Try.prog.cellsOf 4 = 1 from by kernel_rfl, show Try.prog.cellsOf 54 = 6 from by kernel_rfl] at hf
    obtain ⟨h1, h2, h3, h4, h5, h6, h7⟩ := hf
    obtain ⟨x1, e1, p1⟩ := dec_ty h1
    obtain ⟨x2, e2, p2, q2⟩ := frames_ty h2
    obtain ⟨x3, e3, p3, q3⟩ := clauses_ty h3
    obtain ⟨x4, e4⟩ := h4.bool_inv Try.underlying4
    obtain ⟨x5, e5, p5⟩ := session_ty h5
    obtain ⟨x6, e6⟩ := h6.bool_inv Try.underlying4
    obtain ⟨x7, e7, p7, q7⟩ := frames_ty h7
    cases e1; cases e2; cases e3; cases e4; cases e5; cases e6; cases e7
    exact ⟨⟨x1, x2, x3, x4, x5, x6, x7⟩, rfl, (by simp only [reachBytes] at p1; show x1.rest.length ≤ _; omega), p2, q2, p3, q3, p5, p7, q7⟩
theorem server_ty {row : List D} (h : HasTy Try.prog 24 row) : ∃ s : Srv, row = s.row ∧ s.fine := by
  obtain ⟨hl, hf⟩ := h.st_inv Try.underlying24
  rw [show Try.prog.cellsOf 24 = 2 from by kernel_rfl] at hl
  match row, hl with
  | [a, b], _ =>
    simp [show Try.prog.cellsOf 22 = 1 from by kernel_rfl, show Try.prog.cellsOf 3 = 1 from by kernel_rfl] at hf
    obtain ⟨h1, h2⟩ := hf
    obtain ⟨q, e2, _⟩ := h2.int_inv Try.underlying3
    obtain ⟨rows, e1, hb, hc, ht⟩ := h1.sl_inv Try.underlying22
    obtain ⟨l, e3, hl⟩ := list_of_ty (f := Cli.row) (p := Cli.fine) (fun r hr => client_ty (ht r hr))
    subst e3
    rw [show Try.prog.bytesOf 56 = 200 from by kernel_rfl] at hb
    cases e1; cases e2
    exact ⟨⟨l, q⟩, rfl, by simp at hb; simp only; omega, hl⟩
end Go.Proofs.Ytkbbeoaoonoacaa
