/-
  New servers are compared, marked and looked at again.
  Conditions: none.
-/
import Derived.Test.YtamaaiabbganjaaNsA
import Derived.Test.YtamaaiabbganjaaFrOwn
import Derived.Test.YtamaaiabbganjaaDecs
import Derived.Test.YtamaaiabbganjaaAbsT
open Go Go.AM Go.Proofs
namespace Go.Proofs.Ytamaaiabbganjaa
open Go.ChangeShapes Go.WideShapes Go.ChangeAt Go.RowKit
set_option linter.unusedVariables false
set_option linter.unusedSimpArgs false
set_option maxRecDepth 100000
-- 60 loop.example/prologserver/laws.markTermS params 2 ntmps 42
-- loop head live: [0, 1, 5]
def ac60 : Cd := .seq (.region [⟨(some 4), .mv (.k (.c (.d (.int .i64 0)))), none⟩] [4])
  (.seq (.seq (.region [⟨(some 5), .mv (.k (.c (.d (.int .i64 0)))), none⟩] [])
    (.block 0 (.loop (.seq (.seq (.region [⟨(some 6), .mv (.t 5), none⟩,
              ⟨(some 7), .mv (.t 0), none⟩,
              ⟨(some 8), .len 1 (.t 7), none⟩,
              ⟨(some 9), .bin .lss (.t 6) (.t 8), none⟩] [6, 7, 8])
          (.cond (.t 9)
            (.skip)
            (.exit 0)))
        (.seq (.block 1 (.seq (.region [⟨(some 12), .mv (.t 0), none⟩,
                ⟨(some 13), .mv (.t 5), none⟩,
                ⟨(some 14), .mv (.t 1), none⟩,
                ⟨(some 15), .indexAddr 4 (.t 12) (.t 13), none⟩,
                ⟨(some 16), .fieldAddr 0 (.t 15), none⟩,
                ⟨none, .store 1 (.t 16) (.t 14), none⟩] [9, 12, 13, 14, 15, 16])
            (.seq (.region [⟨(some 17), .mv (.t 1), none⟩,
                ⟨(some 18), .bin .add (.t 17) (.k (.c (.d (.int .i64 1)))), none⟩,
                ⟨(some 1), .mv (.t 18), none⟩] [17, 18])
            (.seq (.region [⟨(some 19), .mv (.t 0), none⟩,
                ⟨(some 20), .mv (.t 5), none⟩,
                ⟨(some 21), .mv (.t 1), none⟩,
                ⟨(some 22), .indexAddr 4 (.t 19) (.t 20), none⟩,
                ⟨(some 23), .fieldAddr 1 (.t 22), none⟩,
                ⟨none, .store 1 (.t 23) (.t 21), none⟩] [19, 20, 21, 22, 23])
            (.seq (.region [⟨(some 24), .mv (.t 1), none⟩,
                ⟨(some 25), .bin .add (.t 24) (.k (.c (.d (.int .i64 1)))), none⟩,
                ⟨(some 1), .mv (.t 25), none⟩] [24, 25])
            (.seq (.region [⟨(some 26), .mv (.t 0), none⟩,
                ⟨(some 27), .mv (.t 5), none⟩,
                ⟨(some 28), .mv (.t 1), none⟩,
                ⟨(some 29), .qcall 43 [(.t 28)], none⟩,
                ⟨(some 30), .indexAddr 4 (.t 26) (.t 27), none⟩,
                ⟨(some 31), .fieldAddr 2 (.t 30), none⟩,
                ⟨none, .store 1 (.t 31) (.t 29), none⟩] [26, 27, 28, 29, 30, 31])
            (.seq (.region [⟨(some 32), .mv (.t 1), none⟩,
                ⟨(some 33), .bin .add (.t 32) (.k (.c (.d (.int .i64 1)))), none⟩,
                ⟨(some 1), .mv (.t 33), none⟩] [32, 33])
            (.region [⟨(some 34), .mv (.t 0), none⟩,
              ⟨(some 35), .mv (.t 5), none⟩,
              ⟨(some 36), .indexAddr 4 (.t 34) (.t 35), none⟩,
              ⟨(some 37), .fieldAddr 3 (.t 36), none⟩,
              ⟨(some 38), .load none (.t 37), none⟩,
              ⟨(some 39), .mv (.t 1), none⟩,
              ⟨(some 40), .qcall 60 [(.t 38), (.t 39)], none⟩,
              ⟨(some 1), .mv (.t 40), none⟩] [34, 35, 36, 37, 38, 39, 40]))))))))
        (.region [⟨(some 10), .mv (.t 5), none⟩,
          ⟨(some 11), .bin .add (.t 10) (.k (.c (.d (.int .i64 1)))), none⟩,
          ⟨(some 5), .mv (.t 11), none⟩] [10, 11]))))))
  (.seq (.region [⟨(some 41), .mv (.t 1), none⟩,
      ⟨(some 4), .mv (.t 41), none⟩] [1, 41])
  (.ret)))
theorem ac60_ok : cFunc Try.prog [1000043, 1000060] [(0, [4], []), (1, [], []), (2, [6, 7, 8], []), (4, [9, 12, 13, 14, 15, 16], []), (5, [17, 18], []), (6, [19, 20, 21, 22, 23], []), (7, [24, 25], []), (8, [26, 27, 28, 29, 30, 31], []), (9, [32, 33], []), (10, [34, 35, 36, 37, 38, 39, 40], []), (3, [10, 11], []), (11, [1, 41], [])] Try.f60 = some (ac60, [.tmp 4], 42) := by kernel_rfl
-- 62 loop.example/prologserver/laws.heldTermS params 2 ntmps 50
-- loop head live: [0, 1, 5]
def ac62 : Cd := .seq (.region [⟨(some 4), .mv (.k (.c (.d (.int .i64 0)))), none⟩] [4])
  (.seq (.seq (.region [⟨(some 5), .mv (.k (.c (.d (.int .i64 0)))), none⟩] [])
    (.block 0 (.loop (.seq (.seq (.region [⟨(some 6), .mv (.t 5), none⟩,
              ⟨(some 7), .mv (.t 0), none⟩,
              ⟨(some 8), .len 1 (.t 7), none⟩,
              ⟨(some 9), .bin .lss (.t 6) (.t 8), none⟩] [6, 7, 8])
          (.cond (.t 9)
            (.skip)
            (.exit 0)))
        (.seq (.block 1 (.seq (.seq (.region [⟨(some 12), .mv (.t 0), none⟩,
                  ⟨(some 13), .mv (.t 5), none⟩,
                  ⟨(some 14), .indexAddr 4 (.t 12) (.t 13), none⟩,
                  ⟨(some 15), .fieldAddr 0 (.t 14), none⟩,
                  ⟨(some 16), .load none (.t 15), none⟩,
                  ⟨(some 17), .mv (.t 1), none⟩,
                  ⟨(some 18), .bin .neq (.t 16) (.t 17), none⟩] [9, 12, 13, 14, 15, 16, 17])
              (.cond (.t 18)
                (.seq (.region [⟨(some 4), .mv (.k (.c (.d (.int .i64 (-1))))), none⟩] [0, 1, 5, 18])
                (.ret))
                (.skip)))
            (.seq (.region [⟨(some 19), .mv (.t 1), none⟩,
                ⟨(some 20), .bin .add (.t 19) (.k (.c (.d (.int .i64 1)))), none⟩,
                ⟨(some 1), .mv (.t 20), none⟩] [4, 18, 19, 20])
            (.seq (.seq (.region [⟨(some 21), .mv (.t 0), none⟩,
                  ⟨(some 22), .mv (.t 5), none⟩,
                  ⟨(some 23), .indexAddr 4 (.t 21) (.t 22), none⟩,
                  ⟨(some 24), .fieldAddr 1 (.t 23), none⟩,
                  ⟨(some 25), .load none (.t 24), none⟩,
                  ⟨(some 26), .mv (.t 1), none⟩,
                  ⟨(some 27), .bin .neq (.t 25) (.t 26), none⟩] [21, 22, 23, 24, 25, 26])
              (.cond (.t 27)
                (.seq (.region [⟨(some 4), .mv (.k (.c (.d (.int .i64 (-1))))), none⟩] [0, 1, 5, 27])
                (.ret))
                (.skip)))
            (.seq (.region [⟨(some 28), .mv (.t 1), none⟩,
                ⟨(some 29), .bin .add (.t 28) (.k (.c (.d (.int .i64 1)))), none⟩,
                ⟨(some 1), .mv (.t 29), none⟩] [4, 27, 28, 29])
            (.seq (.seq (.region [⟨(some 30), .mv (.t 0), none⟩,
                  ⟨(some 31), .mv (.t 5), none⟩,
                  ⟨(some 32), .indexAddr 4 (.t 30) (.t 31), none⟩,
                  ⟨(some 33), .fieldAddr 2 (.t 32), none⟩,
                  ⟨(some 35), .mv (.t 1), none⟩,
                  ⟨(some 34), .load none (.t 33), none⟩,
                  ⟨(some 36), .qcall 43 [(.t 35)], none⟩,
                  ⟨(some 37), .bin .neq (.t 34) (.t 36), none⟩] [30, 31, 32, 33, 34, 35, 36])
              (.cond (.t 37)
                (.seq (.region [⟨(some 4), .mv (.k (.c (.d (.int .i64 (-1))))), none⟩] [0, 1, 5, 37])
                (.ret))
                (.skip)))
            (.seq (.region [⟨(some 38), .mv (.t 1), none⟩,
                ⟨(some 39), .bin .add (.t 38) (.k (.c (.d (.int .i64 1)))), none⟩,
                ⟨(some 1), .mv (.t 39), none⟩] [4, 37, 38, 39])
            (.seq (.region [⟨(some 40), .mv (.t 0), none⟩,
                ⟨(some 41), .mv (.t 5), none⟩,
                ⟨(some 42), .indexAddr 4 (.t 40) (.t 41), none⟩,
                ⟨(some 43), .fieldAddr 3 (.t 42), none⟩,
                ⟨(some 44), .load none (.t 43), none⟩,
                ⟨(some 45), .mv (.t 1), none⟩,
                ⟨(some 46), .qcall 62 [(.t 44), (.t 45)], none⟩,
                ⟨(some 1), .mv (.t 46), none⟩] [40, 41, 42, 43, 44, 45, 46])
            (.seq (.region [⟨(some 47), .mv (.t 1), none⟩,
                ⟨(some 48), .bin .lss (.t 47) (.k (.c (.d (.int .i64 0)))), none⟩] [47])
            (.cond (.t 48)
              (.seq (.region [⟨(some 4), .mv (.k (.c (.d (.int .i64 (-1))))), none⟩] [0, 1, 5, 48])
              (.ret))
              (.skip)))))))))))
        (.region [⟨(some 10), .mv (.t 5), none⟩,
          ⟨(some 11), .bin .add (.t 10) (.k (.c (.d (.int .i64 1)))), none⟩,
          ⟨(some 5), .mv (.t 11), none⟩] [4, 10, 11, 48]))))))
  (.seq (.region [⟨(some 49), .mv (.t 1), none⟩,
      ⟨(some 4), .mv (.t 49), none⟩] [1, 49])
  (.ret)))
theorem ac62_ok : cFunc Try.prog [1000043, 1000062] [(0, [4], []), (1, [], []), (2, [6, 7, 8], []), (4, [9, 12, 13, 14, 15, 16, 17], []), (5, [0, 1, 5, 18], []), (6, [4, 18, 19, 20], []), (7, [21, 22, 23, 24, 25, 26], []), (8, [0, 1, 5, 27], []), (9, [4, 27, 28, 29], []), (10, [30, 31, 32, 33, 34, 35, 36], [0, 1, 2, 3, 5, 4, 6, 7]), (11, [0, 1, 5, 37], []), (12, [4, 37, 38, 39], []), (13, [40, 41, 42, 43, 44, 45, 46], []), (14, [47], []), (15, [0, 1, 5, 48], []), (3, [4, 10, 11, 48], []), (16, [1, 49], [])] Try.f62 = some (ac62, [.tmp 4], 50) := by kernel_rfl
-- 67 loop.example/prologserver/laws.eqTermS params 2 ntmps 27
-- loop head live: [0, 1, 5]
def ac67 : Cd := .seq (.region [⟨(some 4), .mv (.k (.c (.d (.bool false)))), none⟩] [4])
  (.seq (.seq (.region [⟨(some 6), .mv (.t 0), none⟩,
        ⟨(some 7), .len 1 (.t 6), none⟩,
        ⟨(some 8), .mv (.t 1), none⟩,
        ⟨(some 9), .len 1 (.t 8), none⟩,
        ⟨(some 10), .bin .neq (.t 7) (.t 9), none⟩] [6, 7, 8, 9])
    (.cond (.t 10)
      (.seq (.region [⟨(some 4), .mv (.k (.c (.d (.bool false)))), none⟩] [0, 1, 10])
      (.ret))
      (.skip)))
  (.seq (.seq (.region [⟨(some 5), .mv (.k (.c (.d (.int .i64 0)))), none⟩] [4, 10])
    (.block 0 (.loop (.seq (.seq (.region [⟨(some 11), .mv (.t 5), none⟩,
              ⟨(some 12), .mv (.t 0), none⟩,
              ⟨(some 13), .len 1 (.t 12), none⟩,
              ⟨(some 14), .bin .lss (.t 11) (.t 13), none⟩] [11, 12, 13])
          (.cond (.t 14)
            (.skip)
            (.exit 0)))
        (.seq (.block 1 (.seq (.region [⟨(some 17), .mv (.t 0), none⟩,
                ⟨(some 18), .mv (.t 5), none⟩,
                ⟨(some 19), .indexAddr 4 (.t 17) (.t 18), none⟩,
                ⟨(some 21), .mv (.t 1), none⟩,
                ⟨(some 22), .mv (.t 5), none⟩,
                ⟨(some 23), .indexAddr 4 (.t 21) (.t 22), none⟩,
                ⟨(some 20), .load (some 4) (.t 19), none⟩,
                ⟨(some 24), .load (some 4) (.t 23), none⟩,
                ⟨(some 25), .qcall 68 [(.t 20), (.t 24)], none⟩,
                ⟨(some 26), .un .not (.t 25), none⟩] [14, 17, 18, 19, 20, 21, 22, 23, 24, 25])
            (.cond (.t 26)
              (.seq (.region [⟨(some 4), .mv (.k (.c (.d (.bool false)))), none⟩] [0, 1, 5, 26])
              (.ret))
              (.skip))))
        (.region [⟨(some 15), .mv (.t 5), none⟩,
          ⟨(some 16), .bin .add (.t 15) (.k (.c (.d (.int .i64 1)))), none⟩,
          ⟨(some 5), .mv (.t 16), none⟩] [4, 15, 16, 26]))))))
  (.seq (.region [⟨(some 4), .mv (.k (.c (.d (.bool true)))), none⟩] [])
  (.ret))))
theorem ac67_ok : cFunc Try.prog [1000068] [(0, [4], []), (1, [6, 7, 8, 9], []), (2, [0, 1, 10], []), (3, [4, 10], []), (4, [11, 12, 13], []), (6, [14, 17, 18, 19, 20, 21, 22, 23, 24, 25], [0, 1, 2, 4, 5, 6, 3, 7, 8, 9]), (7, [0, 1, 5, 26], []), (5, [4, 15, 16, 26], []), (8, [], [])] Try.f67 = some (ac67, [.tmp 4], 27) := by kernel_rfl
-- 59 loop.example/prologserver/laws.markClauseS params 2 ntmps 53
-- loop head live: [0, 1, 5]
def ac59 : Cd := .seq (.region [⟨(some 4), .mv (.k (.c (.d (.int .i64 0)))), none⟩] [4])
  (.seq (.seq (.region [⟨(some 5), .mv (.k (.c (.d (.int .i64 0)))), none⟩] [])
    (.block 0 (.loop (.seq (.seq (.region [⟨(some 6), .mv (.t 5), none⟩,
              ⟨(some 7), .mv (.t 0), none⟩,
              ⟨(some 8), .len 1 (.t 7), none⟩,
              ⟨(some 9), .bin .lss (.t 6) (.t 8), none⟩] [6, 7, 8])
          (.cond (.t 9)
            (.skip)
            (.exit 0)))
        (.seq (.block 1 (.seq (.region [⟨(some 12), .mv (.t 0), none⟩,
                ⟨(some 13), .mv (.t 5), none⟩,
                ⟨(some 14), .mv (.t 1), none⟩,
                ⟨(some 15), .indexAddr 5 (.t 12) (.t 13), none⟩,
                ⟨(some 16), .fieldAddr 0 (.t 15), none⟩,
                ⟨(some 17), .fieldAddr 0 (.t 16), none⟩,
                ⟨none, .store 1 (.t 17) (.t 14), none⟩] [9, 12, 13, 14, 15, 16, 17])
            (.seq (.region [⟨(some 18), .mv (.t 1), none⟩,
                ⟨(some 19), .bin .add (.t 18) (.k (.c (.d (.int .i64 1)))), none⟩,
                ⟨(some 1), .mv (.t 19), none⟩] [18, 19])
            (.seq (.region [⟨(some 20), .mv (.t 0), none⟩,
                ⟨(some 21), .mv (.t 5), none⟩,
                ⟨(some 22), .mv (.t 1), none⟩,
                ⟨(some 23), .indexAddr 5 (.t 20) (.t 21), none⟩,
                ⟨(some 24), .fieldAddr 0 (.t 23), none⟩,
                ⟨(some 25), .fieldAddr 1 (.t 24), none⟩,
                ⟨none, .store 1 (.t 25) (.t 22), none⟩] [20, 21, 22, 23, 24, 25])
            (.seq (.region [⟨(some 26), .mv (.t 1), none⟩,
                ⟨(some 27), .bin .add (.t 26) (.k (.c (.d (.int .i64 1)))), none⟩,
                ⟨(some 1), .mv (.t 27), none⟩] [26, 27])
            (.seq (.region [⟨(some 28), .mv (.t 0), none⟩,
                ⟨(some 29), .mv (.t 5), none⟩,
                ⟨(some 30), .mv (.t 1), none⟩,
                ⟨(some 31), .qcall 43 [(.t 30)], none⟩,
                ⟨(some 32), .indexAddr 5 (.t 28) (.t 29), none⟩,
                ⟨(some 33), .fieldAddr 0 (.t 32), none⟩,
                ⟨(some 34), .fieldAddr 2 (.t 33), none⟩,
                ⟨none, .store 1 (.t 34) (.t 31), none⟩] [28, 29, 30, 31, 32, 33, 34])
            (.seq (.region [⟨(some 35), .mv (.t 1), none⟩,
                ⟨(some 36), .bin .add (.t 35) (.k (.c (.d (.int .i64 1)))), none⟩,
                ⟨(some 1), .mv (.t 36), none⟩] [35, 36])
            (.seq (.region [⟨(some 37), .mv (.t 0), none⟩,
                ⟨(some 38), .mv (.t 5), none⟩,
                ⟨(some 39), .indexAddr 5 (.t 37) (.t 38), none⟩,
                ⟨(some 40), .fieldAddr 0 (.t 39), none⟩,
                ⟨(some 41), .fieldAddr 3 (.t 40), none⟩,
                ⟨(some 42), .load none (.t 41), none⟩,
                ⟨(some 43), .mv (.t 1), none⟩,
                ⟨(some 44), .qcall 60 [(.t 42), (.t 43)], none⟩,
                ⟨(some 1), .mv (.t 44), none⟩] [37, 38, 39, 40, 41, 42, 43, 44])
            (.region [⟨(some 45), .mv (.t 0), none⟩,
              ⟨(some 46), .mv (.t 5), none⟩,
              ⟨(some 47), .indexAddr 5 (.t 45) (.t 46), none⟩,
              ⟨(some 48), .fieldAddr 4 (.t 47), none⟩,
              ⟨(some 49), .load none (.t 48), none⟩,
              ⟨(some 50), .mv (.t 1), none⟩,
              ⟨(some 51), .qcall 60 [(.t 49), (.t 50)], none⟩,
              ⟨(some 1), .mv (.t 51), none⟩] [45, 46, 47, 48, 49, 50, 51])))))))))
        (.region [⟨(some 10), .mv (.t 5), none⟩,
          ⟨(some 11), .bin .add (.t 10) (.k (.c (.d (.int .i64 1)))), none⟩,
          ⟨(some 5), .mv (.t 11), none⟩] [10, 11]))))))
  (.seq (.region [⟨(some 52), .mv (.t 1), none⟩,
      ⟨(some 4), .mv (.t 52), none⟩] [1, 52])
  (.ret)))
theorem ac59_ok : cFunc Try.prog [1000043, 1000060] [(0, [4], []), (1, [], []), (2, [6, 7, 8], []), (4, [9, 12, 13, 14, 15, 16, 17], []), (5, [18, 19], []), (6, [20, 21, 22, 23, 24, 25], []), (7, [26, 27], []), (8, [28, 29, 30, 31, 32, 33, 34], []), (9, [35, 36], []), (10, [37, 38, 39, 40, 41, 42, 43, 44], []), (11, [45, 46, 47, 48, 49, 50, 51], []), (3, [10, 11], []), (12, [1, 52], [])] Try.f59 = some (ac59, [.tmp 4], 53) := by kernel_rfl
-- 61 loop.example/prologserver/laws.heldClauseS params 2 ntmps 63
-- loop head live: [0, 1, 5]
def ac61 : Cd := .seq (.region [⟨(some 4), .mv (.k (.c (.d (.int .i64 0)))), none⟩] [4])
  (.seq (.seq (.region [⟨(some 5), .mv (.k (.c (.d (.int .i64 0)))), none⟩] [])
    (.block 0 (.loop (.seq (.seq (.region [⟨(some 6), .mv (.t 5), none⟩,
              ⟨(some 7), .mv (.t 0), none⟩,
              ⟨(some 8), .len 1 (.t 7), none⟩,
              ⟨(some 9), .bin .lss (.t 6) (.t 8), none⟩] [6, 7, 8])
          (.cond (.t 9)
            (.skip)
            (.exit 0)))
        (.seq (.block 1 (.seq (.seq (.region [⟨(some 12), .mv (.t 0), none⟩,
                  ⟨(some 13), .mv (.t 5), none⟩,
                  ⟨(some 14), .indexAddr 5 (.t 12) (.t 13), none⟩,
                  ⟨(some 15), .fieldAddr 0 (.t 14), none⟩,
                  ⟨(some 16), .fieldAddr 0 (.t 15), none⟩,
                  ⟨(some 17), .load none (.t 16), none⟩,
                  ⟨(some 18), .mv (.t 1), none⟩,
                  ⟨(some 19), .bin .neq (.t 17) (.t 18), none⟩] [9, 12, 13, 14, 15, 16, 17, 18])
              (.cond (.t 19)
                (.seq (.region [⟨(some 4), .mv (.k (.c (.d (.int .i64 (-1))))), none⟩] [0, 1, 5, 19])
                (.ret))
                (.skip)))
            (.seq (.region [⟨(some 20), .mv (.t 1), none⟩,
                ⟨(some 21), .bin .add (.t 20) (.k (.c (.d (.int .i64 1)))), none⟩,
                ⟨(some 1), .mv (.t 21), none⟩] [4, 19, 20, 21])
            (.seq (.seq (.region [⟨(some 22), .mv (.t 0), none⟩,
                  ⟨(some 23), .mv (.t 5), none⟩,
                  ⟨(some 24), .indexAddr 5 (.t 22) (.t 23), none⟩,
                  ⟨(some 25), .fieldAddr 0 (.t 24), none⟩,
                  ⟨(some 26), .fieldAddr 1 (.t 25), none⟩,
                  ⟨(some 27), .load none (.t 26), none⟩,
                  ⟨(some 28), .mv (.t 1), none⟩,
                  ⟨(some 29), .bin .neq (.t 27) (.t 28), none⟩] [22, 23, 24, 25, 26, 27, 28])
              (.cond (.t 29)
                (.seq (.region [⟨(some 4), .mv (.k (.c (.d (.int .i64 (-1))))), none⟩] [0, 1, 5, 29])
                (.ret))
                (.skip)))
            (.seq (.region [⟨(some 30), .mv (.t 1), none⟩,
                ⟨(some 31), .bin .add (.t 30) (.k (.c (.d (.int .i64 1)))), none⟩,
                ⟨(some 1), .mv (.t 31), none⟩] [4, 29, 30, 31])
            (.seq (.seq (.region [⟨(some 32), .mv (.t 0), none⟩,
                  ⟨(some 33), .mv (.t 5), none⟩,
                  ⟨(some 34), .indexAddr 5 (.t 32) (.t 33), none⟩,
                  ⟨(some 35), .fieldAddr 0 (.t 34), none⟩,
                  ⟨(some 36), .fieldAddr 2 (.t 35), none⟩,
                  ⟨(some 38), .mv (.t 1), none⟩,
                  ⟨(some 37), .load none (.t 36), none⟩,
                  ⟨(some 39), .qcall 43 [(.t 38)], none⟩,
                  ⟨(some 40), .bin .neq (.t 37) (.t 39), none⟩] [32, 33, 34, 35, 36, 37, 38, 39])
              (.cond (.t 40)
                (.seq (.region [⟨(some 4), .mv (.k (.c (.d (.int .i64 (-1))))), none⟩] [0, 1, 5, 40])
                (.ret))
                (.skip)))
            (.seq (.region [⟨(some 41), .mv (.t 1), none⟩,
                ⟨(some 42), .bin .add (.t 41) (.k (.c (.d (.int .i64 1)))), none⟩,
                ⟨(some 1), .mv (.t 42), none⟩] [4, 40, 41, 42])
            (.seq (.region [⟨(some 43), .mv (.t 0), none⟩,
                ⟨(some 44), .mv (.t 5), none⟩,
                ⟨(some 45), .indexAddr 5 (.t 43) (.t 44), none⟩,
                ⟨(some 46), .fieldAddr 0 (.t 45), none⟩,
                ⟨(some 47), .fieldAddr 3 (.t 46), none⟩,
                ⟨(some 48), .load none (.t 47), none⟩,
                ⟨(some 49), .mv (.t 1), none⟩,
                ⟨(some 50), .qcall 62 [(.t 48), (.t 49)], none⟩,
                ⟨(some 1), .mv (.t 50), none⟩] [43, 44, 45, 46, 47, 48, 49, 50])
            (.seq (.seq (.region [⟨(some 51), .mv (.t 1), none⟩,
                  ⟨(some 52), .bin .lss (.t 51) (.k (.c (.d (.int .i64 0)))), none⟩] [51])
              (.cond (.t 52)
                (.seq (.region [⟨(some 4), .mv (.k (.c (.d (.int .i64 (-1))))), none⟩] [0, 1, 5, 52])
                (.ret))
                (.skip)))
            (.seq (.region [⟨(some 53), .mv (.t 0), none⟩,
                ⟨(some 54), .mv (.t 5), none⟩,
                ⟨(some 55), .indexAddr 5 (.t 53) (.t 54), none⟩,
                ⟨(some 56), .fieldAddr 4 (.t 55), none⟩,
                ⟨(some 57), .load none (.t 56), none⟩,
                ⟨(some 58), .mv (.t 1), none⟩,
                ⟨(some 59), .qcall 62 [(.t 57), (.t 58)], none⟩,
                ⟨(some 1), .mv (.t 59), none⟩] [4, 52, 53, 54, 55, 56, 57, 58, 59])
            (.seq (.region [⟨(some 60), .mv (.t 1), none⟩,
                ⟨(some 61), .bin .lss (.t 60) (.k (.c (.d (.int .i64 0)))), none⟩] [60])
            (.cond (.t 61)
              (.seq (.region [⟨(some 4), .mv (.k (.c (.d (.int .i64 (-1))))), none⟩] [0, 1, 5, 61])
              (.ret))
              (.skip)))))))))))))
        (.region [⟨(some 10), .mv (.t 5), none⟩,
          ⟨(some 11), .bin .add (.t 10) (.k (.c (.d (.int .i64 1)))), none⟩,
          ⟨(some 5), .mv (.t 11), none⟩] [4, 10, 11, 61]))))))
  (.seq (.region [⟨(some 62), .mv (.t 1), none⟩,
      ⟨(some 4), .mv (.t 62), none⟩] [1, 62])
  (.ret)))
theorem ac61_ok : cFunc Try.prog [1000043, 1000062] [(0, [4], []), (1, [], []), (2, [6, 7, 8], []), (4, [9, 12, 13, 14, 15, 16, 17, 18], []), (5, [0, 1, 5, 19], []), (6, [4, 19, 20, 21], []), (7, [22, 23, 24, 25, 26, 27, 28], []), (8, [0, 1, 5, 29], []), (9, [4, 29, 30, 31], []), (10, [32, 33, 34, 35, 36, 37, 38, 39], [0, 1, 2, 3, 4, 6, 5, 7, 8]), (11, [0, 1, 5, 40], []), (12, [4, 40, 41, 42], []), (13, [43, 44, 45, 46, 47, 48, 49, 50], []), (14, [51], []), (15, [0, 1, 5, 52], []), (16, [4, 52, 53, 54, 55, 56, 57, 58, 59], []), (17, [60], []), (18, [0, 1, 5, 61], []), (3, [4, 10, 11, 61], []), (19, [1, 62], [])] Try.f61 = some (ac61, [.tmp 4], 63) := by kernel_rfl
-- 64 loop.example/prologserver/laws.eqClauseS params 2 ntmps 27
-- loop head live: [0, 1, 5]
def ac64 : Cd := .seq (.region [⟨(some 4), .mv (.k (.c (.d (.bool false)))), none⟩] [4])
  (.seq (.seq (.region [⟨(some 6), .mv (.t 0), none⟩,
        ⟨(some 7), .len 1 (.t 6), none⟩,
        ⟨(some 8), .mv (.t 1), none⟩,
        ⟨(some 9), .len 1 (.t 8), none⟩,
        ⟨(some 10), .bin .neq (.t 7) (.t 9), none⟩] [6, 7, 8, 9])
    (.cond (.t 10)
      (.seq (.region [⟨(some 4), .mv (.k (.c (.d (.bool false)))), none⟩] [0, 1, 10])
      (.ret))
      (.skip)))
  (.seq (.seq (.region [⟨(some 5), .mv (.k (.c (.d (.int .i64 0)))), none⟩] [4, 10])
    (.block 0 (.loop (.seq (.seq (.region [⟨(some 11), .mv (.t 5), none⟩,
              ⟨(some 12), .mv (.t 0), none⟩,
              ⟨(some 13), .len 1 (.t 12), none⟩,
              ⟨(some 14), .bin .lss (.t 11) (.t 13), none⟩] [11, 12, 13])
          (.cond (.t 14)
            (.skip)
            (.exit 0)))
        (.seq (.block 1 (.seq (.region [⟨(some 17), .mv (.t 0), none⟩,
                ⟨(some 18), .mv (.t 5), none⟩,
                ⟨(some 19), .indexAddr 5 (.t 17) (.t 18), none⟩,
                ⟨(some 21), .mv (.t 1), none⟩,
                ⟨(some 22), .mv (.t 5), none⟩,
                ⟨(some 23), .indexAddr 5 (.t 21) (.t 22), none⟩,
                ⟨(some 20), .load (some 5) (.t 19), none⟩,
                ⟨(some 24), .load (some 5) (.t 23), none⟩,
                ⟨(some 25), .qcall 66 [(.t 20), (.t 24)], none⟩,
                ⟨(some 26), .un .not (.t 25), none⟩] [14, 17, 18, 19, 20, 21, 22, 23, 24, 25])
            (.cond (.t 26)
              (.seq (.region [⟨(some 4), .mv (.k (.c (.d (.bool false)))), none⟩] [0, 1, 5, 26])
              (.ret))
              (.skip))))
        (.region [⟨(some 15), .mv (.t 5), none⟩,
          ⟨(some 16), .bin .add (.t 15) (.k (.c (.d (.int .i64 1)))), none⟩,
          ⟨(some 5), .mv (.t 16), none⟩] [4, 15, 16, 26]))))))
  (.seq (.region [⟨(some 4), .mv (.k (.c (.d (.bool true)))), none⟩] [])
  (.ret))))
theorem ac64_ok : cFunc Try.prog [1000066] [(0, [4], []), (1, [6, 7, 8, 9], []), (2, [0, 1, 10], []), (3, [4, 10], []), (4, [11, 12, 13], []), (6, [14, 17, 18, 19, 20, 21, 22, 23, 24, 25], [0, 1, 2, 4, 5, 6, 3, 7, 8, 9]), (7, [0, 1, 5, 26], []), (5, [4, 15, 16, 26], []), (8, [], [])] Try.f64 = some (ac64, [.tmp 4], 27) := by kernel_rfl
-- 65 loop.example/prologserver/laws.eqSession params 2 ntmps 37
def ac65 : Cd := .seq (.region [⟨(some 2), .box (.t 0), none⟩,
      ⟨(some 3), .box (.t 1), none⟩,
      ⟨(some 4), .mv (.k (.c (.d (.bool false)))), none⟩] [0, 1, 4])
  (.seq (.seq (.region [⟨(some 5), .fieldAddr 0 (.t 2), none⟩,
        ⟨(some 6), .load none (.t 5), none⟩,
        ⟨(some 7), .fieldAddr 0 (.t 3), none⟩,
        ⟨(some 8), .load none (.t 7), none⟩,
        ⟨(some 9), .qcall 64 [(.t 6), (.t 8)], none⟩,
        ⟨(some 10), .un .not (.t 9), none⟩] [5, 6, 7, 8, 9])
    (.cond (.t 10)
      (.seq (.region [⟨(some 4), .mv (.k (.c (.d (.bool false)))), none⟩] [2, 3, 10])
      (.ret))
      (.skip)))
  (.seq (.seq (.region [⟨(some 11), .fieldAddr 1 (.t 2), none⟩,
        ⟨(some 12), .load none (.t 11), none⟩,
        ⟨(some 13), .fieldAddr 1 (.t 3), none⟩,
        ⟨(some 14), .load none (.t 13), none⟩,
        ⟨(some 15), .qcall 67 [(.t 12), (.t 14)], none⟩,
        ⟨(some 16), .un .not (.t 15), none⟩] [4, 10, 11, 12, 13, 14, 15])
    (.cond (.t 16)
      (.seq (.region [⟨(some 4), .mv (.k (.c (.d (.bool false)))), none⟩] [2, 3, 16])
      (.ret))
      (.skip)))
  (.seq (.seq (.region [⟨(some 17), .fieldAddr 2 (.t 2), none⟩,
        ⟨(some 18), .load none (.t 17), none⟩,
        ⟨(some 19), .fieldAddr 2 (.t 3), none⟩,
        ⟨(some 20), .load none (.t 19), none⟩,
        ⟨(some 21), .bin .neq (.t 18) (.t 20), none⟩] [4, 16, 17, 18, 19, 20])
    (.cond (.t 21)
      (.seq (.region [⟨(some 4), .mv (.k (.c (.d (.bool false)))), none⟩] [2, 3, 21])
      (.ret))
      (.skip)))
  (.seq (.seq (.region [⟨(some 22), .fieldAddr 3 (.t 2), none⟩,
        ⟨(some 23), .load none (.t 22), none⟩,
        ⟨(some 24), .fieldAddr 3 (.t 3), none⟩,
        ⟨(some 25), .load none (.t 24), none⟩,
        ⟨(some 26), .bin .neq (.t 23) (.t 25), none⟩] [4, 21, 22, 23, 24, 25])
    (.cond (.t 26)
      (.seq (.region [⟨(some 4), .mv (.k (.c (.d (.bool false)))), none⟩] [2, 3, 26])
      (.ret))
      (.skip)))
  (.seq (.seq (.region [⟨(some 27), .fieldAddr 4 (.t 2), none⟩,
        ⟨(some 28), .load none (.t 27), none⟩,
        ⟨(some 29), .fieldAddr 4 (.t 3), none⟩,
        ⟨(some 30), .load none (.t 29), none⟩,
        ⟨(some 31), .bin .neq (.t 28) (.t 30), none⟩] [4, 26, 27, 28, 29, 30])
    (.cond (.t 31)
      (.seq (.region [⟨(some 4), .mv (.k (.c (.d (.bool false)))), none⟩] [2, 3, 31])
      (.ret))
      (.skip)))
  (.seq (.seq (.region [⟨(some 32), .fieldAddr 5 (.t 2), none⟩,
        ⟨(some 33), .load none (.t 32), none⟩,
        ⟨(some 34), .fieldAddr 5 (.t 3), none⟩,
        ⟨(some 35), .load none (.t 34), none⟩,
        ⟨(some 36), .bin .neq (.t 33) (.t 35), none⟩] [2, 3, 4, 31, 32, 33, 34, 35])
    (.cond (.t 36)
      (.seq (.region [⟨(some 4), .mv (.k (.c (.d (.bool false)))), none⟩] [36])
      (.ret))
      (.skip)))
  (.seq (.region [⟨(some 4), .mv (.k (.c (.d (.bool true)))), none⟩] [36])
  (.ret))))))))
theorem ac65_ok : cFunc Try.prog [1000064, 1000067] [(0, [0, 1, 4], []), (1, [5, 6, 7, 8, 9], []), (2, [2, 3, 10], []), (3, [4, 10, 11, 12, 13, 14, 15], []), (4, [2, 3, 16], []), (5, [4, 16, 17, 18, 19, 20], []), (6, [2, 3, 21], []), (7, [4, 21, 22, 23, 24, 25], []), (8, [2, 3, 26], []), (9, [4, 26, 27, 28, 29, 30], []), (10, [2, 3, 31], []), (11, [2, 3, 4, 31, 32, 33, 34, 35], []), (12, [36], []), (13, [36], [])] Try.f65 = some (ac65, [.tmp 4], 37) := by kernel_rfl
-- 58 loop.example/prologserver/laws.eqClient params 2 ntmps 45
def ac58 : Cd := .seq (.region [⟨(some 2), .box (.t 0), none⟩,
      ⟨(some 3), .box (.t 1), none⟩,
      ⟨(some 4), .mv (.k (.c (.d (.bool false)))), none⟩] [0, 1, 4])
  (.seq (.seq (.region [⟨(some 5), .fieldAddr 0 (.t 2), none⟩,
        ⟨(some 6), .load (some 2) (.t 5), none⟩,
        ⟨(some 7), .fieldAddr 0 (.t 3), none⟩,
        ⟨(some 8), .load (some 2) (.t 7), none⟩,
        ⟨(some 9), .qcall 29 [(.t 6), (.t 8)], none⟩,
        ⟨(some 10), .un .not (.t 9), none⟩] [5, 6, 7, 8, 9])
    (.cond (.t 10)
      (.seq (.region [⟨(some 4), .mv (.k (.c (.d (.bool false)))), none⟩] [2, 3, 10])
      (.ret))
      (.skip)))
  (.seq (.seq (.region [⟨(some 11), .fieldAddr 2 (.t 2), none⟩,
        ⟨(some 12), .load none (.t 11), none⟩,
        ⟨(some 13), .fieldAddr 2 (.t 3), none⟩,
        ⟨(some 14), .load none (.t 13), none⟩,
        ⟨(some 15), .qcall 19 [(.t 12), (.t 14)], none⟩,
        ⟨(some 16), .un .not (.t 15), none⟩] [4, 10, 11, 12, 13, 14, 15])
    (.cond (.t 16)
      (.seq (.region [⟨(some 4), .mv (.k (.c (.d (.bool false)))), none⟩] [2, 3, 16])
      (.ret))
      (.skip)))
  (.seq (.seq (.region [⟨(some 17), .fieldAddr 3 (.t 2), none⟩,
        ⟨(some 18), .load none (.t 17), none⟩,
        ⟨(some 19), .fieldAddr 3 (.t 3), none⟩,
        ⟨(some 20), .load none (.t 19), none⟩,
        ⟨(some 21), .qcall 64 [(.t 18), (.t 20)], none⟩,
        ⟨(some 22), .un .not (.t 21), none⟩] [4, 16, 17, 18, 19, 20, 21])
    (.cond (.t 22)
      (.seq (.region [⟨(some 4), .mv (.k (.c (.d (.bool false)))), none⟩] [2, 3, 22])
      (.ret))
      (.skip)))
  (.seq (.seq (.region [⟨(some 23), .fieldAddr 4 (.t 2), none⟩,
        ⟨(some 24), .load none (.t 23), none⟩,
        ⟨(some 25), .fieldAddr 4 (.t 3), none⟩,
        ⟨(some 26), .load none (.t 25), none⟩,
        ⟨(some 27), .binB true (.t 24) (.t 26), none⟩] [4, 22, 23, 24, 25, 26])
    (.cond (.t 27)
      (.seq (.region [⟨(some 4), .mv (.k (.c (.d (.bool false)))), none⟩] [2, 3, 27])
      (.ret))
      (.skip)))
  (.seq (.seq (.region [⟨(some 28), .fieldAddr 5 (.t 2), none⟩,
        ⟨(some 29), .load (some 6) (.t 28), none⟩,
        ⟨(some 30), .fieldAddr 5 (.t 3), none⟩,
        ⟨(some 31), .load (some 6) (.t 30), none⟩,
        ⟨(some 32), .qcall 65 [(.t 29), (.t 31)], none⟩,
        ⟨(some 33), .un .not (.t 32), none⟩] [4, 27, 28, 29, 30, 31, 32])
    (.cond (.t 33)
      (.seq (.region [⟨(some 4), .mv (.k (.c (.d (.bool false)))), none⟩] [2, 3, 33])
      (.ret))
      (.skip)))
  (.seq (.seq (.region [⟨(some 34), .fieldAddr 11 (.t 2), none⟩,
        ⟨(some 35), .load none (.t 34), none⟩,
        ⟨(some 36), .fieldAddr 11 (.t 3), none⟩,
        ⟨(some 37), .load none (.t 36), none⟩,
        ⟨(some 38), .binB true (.t 35) (.t 37), none⟩] [4, 33, 34, 35, 36, 37])
    (.cond (.t 38)
      (.seq (.region [⟨(some 4), .mv (.k (.c (.d (.bool false)))), none⟩] [2, 3, 38])
      (.ret))
      (.skip)))
  (.seq (.seq (.region [⟨(some 39), .fieldAddr 12 (.t 2), none⟩,
        ⟨(some 40), .load none (.t 39), none⟩,
        ⟨(some 41), .fieldAddr 12 (.t 3), none⟩,
        ⟨(some 42), .load none (.t 41), none⟩,
        ⟨(some 43), .qcall 19 [(.t 40), (.t 42)], none⟩,
        ⟨(some 44), .un .not (.t 43), none⟩] [2, 3, 4, 38, 39, 40, 41, 42, 43])
    (.cond (.t 44)
      (.seq (.region [⟨(some 4), .mv (.k (.c (.d (.bool false)))), none⟩] [44])
      (.ret))
      (.skip)))
  (.seq (.region [⟨(some 4), .mv (.k (.c (.d (.bool true)))), none⟩] [44])
  (.ret)))))))))
theorem ac58_ok : cFunc Try.prog [1000019, 1000029, 1000064, 1000065] [(0, [0, 1, 4], []), (1, [5, 6, 7, 8, 9], []), (2, [2, 3, 10], []), (3, [4, 10, 11, 12, 13, 14, 15], []), (4, [2, 3, 16], []), (5, [4, 16, 17, 18, 19, 20, 21], []), (6, [2, 3, 22], []), (7, [4, 22, 23, 24, 25, 26], []), (8, [2, 3, 27], []), (9, [4, 27, 28, 29, 30, 31, 32], []), (10, [2, 3, 33], []), (11, [4, 33, 34, 35, 36, 37], []), (12, [2, 3, 38], []), (13, [2, 3, 4, 38, 39, 40, 41, 42, 43], []), (14, [44], []), (15, [44], [])] Try.f58 = some (ac58, [.tmp 4], 45) := by kernel_rfl
-- 52 loop.example/prologserver/laws.eqClientS params 2 ntmps 27
-- loop head live: [0, 1, 5]
def ac52 : Cd := .seq (.region [⟨(some 4), .mv (.k (.c (.d (.bool false)))), none⟩] [4])
  (.seq (.seq (.region [⟨(some 6), .mv (.t 0), none⟩,
        ⟨(some 7), .len 1 (.t 6), none⟩,
        ⟨(some 8), .mv (.t 1), none⟩,
        ⟨(some 9), .len 1 (.t 8), none⟩,
        ⟨(some 10), .bin .neq (.t 7) (.t 9), none⟩] [6, 7, 8, 9])
    (.cond (.t 10)
      (.seq (.region [⟨(some 4), .mv (.k (.c (.d (.bool false)))), none⟩] [0, 1, 10])
      (.ret))
      (.skip)))
  (.seq (.seq (.region [⟨(some 5), .mv (.k (.c (.d (.int .i64 0)))), none⟩] [4, 10])
    (.block 0 (.loop (.seq (.seq (.region [⟨(some 11), .mv (.t 5), none⟩,
              ⟨(some 12), .mv (.t 0), none⟩,
              ⟨(some 13), .len 1 (.t 12), none⟩,
              ⟨(some 14), .bin .lss (.t 11) (.t 13), none⟩] [11, 12, 13])
          (.cond (.t 14)
            (.skip)
            (.exit 0)))
        (.seq (.block 1 (.seq (.region [⟨(some 17), .mv (.t 0), none⟩,
                ⟨(some 18), .mv (.t 5), none⟩,
                ⟨(some 19), .indexAddr 13 (.t 17) (.t 18), none⟩,
                ⟨(some 21), .mv (.t 1), none⟩,
                ⟨(some 22), .mv (.t 5), none⟩,
                ⟨(some 23), .indexAddr 13 (.t 21) (.t 22), none⟩,
                ⟨(some 20), .load (some 13) (.t 19), none⟩,
                ⟨(some 24), .load (some 13) (.t 23), none⟩,
                ⟨(some 25), .qcall 58 [(.t 20), (.t 24)], none⟩,
                ⟨(some 26), .un .not (.t 25), none⟩] [14, 17, 18, 19, 20, 21, 22, 23, 24, 25])
            (.cond (.t 26)
              (.seq (.region [⟨(some 4), .mv (.k (.c (.d (.bool false)))), none⟩] [0, 1, 5, 26])
              (.ret))
              (.skip))))
        (.region [⟨(some 15), .mv (.t 5), none⟩,
          ⟨(some 16), .bin .add (.t 15) (.k (.c (.d (.int .i64 1)))), none⟩,
          ⟨(some 5), .mv (.t 16), none⟩] [4, 15, 16, 26]))))))
  (.seq (.region [⟨(some 4), .mv (.k (.c (.d (.bool true)))), none⟩] [])
  (.ret))))
theorem ac52_ok : cFunc Try.prog [1000058] [(0, [4], []), (1, [6, 7, 8, 9], []), (2, [0, 1, 10], []), (3, [4, 10], []), (4, [11, 12, 13], []), (6, [14, 17, 18, 19, 20, 21, 22, 23, 24, 25], [0, 1, 2, 4, 5, 6, 3, 7, 8, 9]), (7, [0, 1, 5, 26], []), (5, [4, 15, 16, 26], []), (8, [], [])] Try.f52 = some (ac52, [.tmp 4], 27) := by kernel_rfl
-- 34 loop.example/prologserver/laws.eqServer params 2 ntmps 16
def ac34 : Cd := .seq (.region [⟨(some 2), .box (.t 0), none⟩,
      ⟨(some 3), .box (.t 1), none⟩,
      ⟨(some 4), .mv (.k (.c (.d (.bool false)))), none⟩] [0, 1, 4])
  (.seq (.seq (.region [⟨(some 5), .fieldAddr 0 (.t 2), none⟩,
        ⟨(some 6), .load none (.t 5), none⟩,
        ⟨(some 7), .fieldAddr 0 (.t 3), none⟩,
        ⟨(some 8), .load none (.t 7), none⟩,
        ⟨(some 9), .qcall 52 [(.t 6), (.t 8)], none⟩,
        ⟨(some 10), .un .not (.t 9), none⟩] [5, 6, 7, 8, 9])
    (.cond (.t 10)
      (.seq (.region [⟨(some 4), .mv (.k (.c (.d (.bool false)))), none⟩] [2, 3, 10])
      (.ret))
      (.skip)))
  (.seq (.seq (.region [⟨(some 11), .fieldAddr 1 (.t 2), none⟩,
        ⟨(some 12), .load none (.t 11), none⟩,
        ⟨(some 13), .fieldAddr 1 (.t 3), none⟩,
        ⟨(some 14), .load none (.t 13), none⟩,
        ⟨(some 15), .bin .neq (.t 12) (.t 14), none⟩] [2, 3, 4, 10, 11, 12, 13, 14])
    (.cond (.t 15)
      (.seq (.region [⟨(some 4), .mv (.k (.c (.d (.bool false)))), none⟩] [15])
      (.ret))
      (.skip)))
  (.seq (.region [⟨(some 4), .mv (.k (.c (.d (.bool true)))), none⟩] [15])
  (.ret))))
theorem ac34_ok : cFunc Try.prog [1000052] [(0, [0, 1, 4], []), (1, [5, 6, 7, 8, 9], []), (2, [2, 3, 10], []), (3, [2, 3, 4, 10, 11, 12, 13, 14], []), (4, [15], []), (5, [15], [])] Try.f34 = some (ac34, [.tmp 4], 16) := by kernel_rfl
-- 53 loop.example/prologserver/laws.markClientS params 2 ntmps 118
-- loop head live: [0, 1, 5]
def ac53 : Cd := .seq (.region [⟨(some 4), .mv (.k (.c (.d (.int .i64 0)))), none⟩] [4])
  (.seq (.seq (.region [⟨(some 5), .mv (.k (.c (.d (.int .i64 0)))), none⟩] [])
    (.block 0 (.loop (.seq (.seq (.region [⟨(some 6), .mv (.t 5), none⟩,
              ⟨(some 7), .mv (.t 0), none⟩,
              ⟨(some 8), .len 1 (.t 7), none⟩,
              ⟨(some 9), .bin .lss (.t 6) (.t 8), none⟩] [6, 7, 8])
          (.cond (.t 9)
            (.skip)
            (.exit 0)))
        (.seq (.block 1 (.seq (.region [⟨(some 12), .mv (.t 0), none⟩,
                ⟨(some 13), .mv (.t 5), none⟩,
                ⟨(some 14), .indexAddr 13 (.t 12) (.t 13), none⟩,
                ⟨(some 15), .fieldAddr 0 (.t 14), none⟩,
                ⟨(some 16), .fieldAddr 0 (.t 15), none⟩,
                ⟨(some 17), .load none (.t 16), none⟩,
                ⟨(some 18), .mv (.t 1), none⟩,
                ⟨(some 19), .qcall 13 [(.t 17), (.t 18)], none⟩,
                ⟨(some 1), .mv (.t 19), none⟩] [9, 12, 13, 14, 15, 16, 17, 18, 19])
            (.seq (.region [⟨(some 20), .mv (.t 0), none⟩,
                ⟨(some 21), .mv (.t 5), none⟩,
                ⟨(some 22), .mv (.t 1), none⟩,
                ⟨(some 23), .bin .rem (.t 22) (.k (.c (.d (.int .i64 3)))), none⟩,
                ⟨(some 24), .bin .eql (.t 23) (.k (.c (.d (.int .i64 0)))), none⟩,
                ⟨(some 25), .indexAddr 13 (.t 20) (.t 21), none⟩,
                ⟨(some 26), .fieldAddr 0 (.t 25), none⟩,
                ⟨(some 27), .fieldAddr 1 (.t 26), none⟩,
                ⟨none, .store 1 (.t 27) (.t 24), none⟩] [20, 21, 22, 23, 24, 25, 26, 27])
            (.seq (.region [⟨(some 28), .mv (.t 1), none⟩,
                ⟨(some 29), .bin .add (.t 28) (.k (.c (.d (.int .i64 1)))), none⟩,
                ⟨(some 1), .mv (.t 29), none⟩] [28, 29])
            (.seq (.region [⟨(some 30), .mv (.t 0), none⟩,
                ⟨(some 31), .mv (.t 5), none⟩,
                ⟨(some 32), .indexAddr 13 (.t 30) (.t 31), none⟩,
                ⟨(some 33), .fieldAddr 2 (.t 32), none⟩,
                ⟨(some 34), .load none (.t 33), none⟩,
                ⟨(some 35), .mv (.t 1), none⟩,
                ⟨(some 36), .qcall 20 [(.t 34), (.t 35)], none⟩,
                ⟨(some 1), .mv (.t 36), none⟩] [30, 31, 32, 33, 34, 35, 36])
            (.seq (.region [⟨(some 37), .mv (.t 0), none⟩,
                ⟨(some 38), .mv (.t 5), none⟩,
                ⟨(some 39), .indexAddr 13 (.t 37) (.t 38), none⟩,
                ⟨(some 40), .fieldAddr 3 (.t 39), none⟩,
                ⟨(some 41), .load none (.t 40), none⟩,
                ⟨(some 42), .mv (.t 1), none⟩,
                ⟨(some 43), .qcall 59 [(.t 41), (.t 42)], none⟩,
                ⟨(some 1), .mv (.t 43), none⟩] [37, 38, 39, 40, 41, 42, 43])
            (.seq (.region [⟨(some 44), .mv (.t 0), none⟩,
                ⟨(some 45), .mv (.t 5), none⟩,
                ⟨(some 46), .mv (.t 1), none⟩,
                ⟨(some 47), .bin .rem (.t 46) (.k (.c (.d (.int .i64 3)))), none⟩,
                ⟨(some 48), .bin .eql (.t 47) (.k (.c (.d (.int .i64 0)))), none⟩,
                ⟨(some 49), .indexAddr 13 (.t 44) (.t 45), none⟩,
                ⟨(some 50), .fieldAddr 4 (.t 49), none⟩,
                ⟨none, .store 1 (.t 50) (.t 48), none⟩] [44, 45, 46, 47, 48, 49, 50])
            (.seq (.region [⟨(some 51), .mv (.t 1), none⟩,
                ⟨(some 52), .bin .add (.t 51) (.k (.c (.d (.int .i64 1)))), none⟩,
                ⟨(some 1), .mv (.t 52), none⟩] [51, 52])
            (.seq (.region [⟨(some 53), .mv (.t 0), none⟩,
                ⟨(some 54), .mv (.t 5), none⟩,
                ⟨(some 55), .indexAddr 13 (.t 53) (.t 54), none⟩,
                ⟨(some 56), .fieldAddr 5 (.t 55), none⟩,
                ⟨(some 57), .fieldAddr 0 (.t 56), none⟩,
                ⟨(some 58), .load none (.t 57), none⟩,
                ⟨(some 59), .mv (.t 1), none⟩,
                ⟨(some 60), .qcall 59 [(.t 58), (.t 59)], none⟩,
                ⟨(some 1), .mv (.t 60), none⟩] [53, 54, 55, 56, 57, 58, 59, 60])
            (.seq (.region [⟨(some 61), .mv (.t 0), none⟩,
                ⟨(some 62), .mv (.t 5), none⟩,
                ⟨(some 63), .indexAddr 13 (.t 61) (.t 62), none⟩,
                ⟨(some 64), .fieldAddr 5 (.t 63), none⟩,
                ⟨(some 65), .fieldAddr 1 (.t 64), none⟩,
                ⟨(some 66), .load none (.t 65), none⟩,
                ⟨(some 67), .mv (.t 1), none⟩,
                ⟨(some 68), .qcall 60 [(.t 66), (.t 67)], none⟩,
                ⟨(some 1), .mv (.t 68), none⟩] [61, 62, 63, 64, 65, 66, 67, 68])
            (.seq (.region [⟨(some 69), .mv (.t 0), none⟩,
                ⟨(some 70), .mv (.t 5), none⟩,
                ⟨(some 71), .mv (.t 1), none⟩,
                ⟨(some 72), .indexAddr 13 (.t 69) (.t 70), none⟩,
                ⟨(some 73), .fieldAddr 5 (.t 72), none⟩,
                ⟨(some 74), .fieldAddr 2 (.t 73), none⟩,
                ⟨none, .store 1 (.t 74) (.t 71), none⟩] [69, 70, 71, 72, 73, 74])
            (.seq (.region [⟨(some 75), .mv (.t 1), none⟩,
                ⟨(some 76), .bin .add (.t 75) (.k (.c (.d (.int .i64 1)))), none⟩,
                ⟨(some 1), .mv (.t 76), none⟩] [75, 76])
            (.seq (.region [⟨(some 77), .mv (.t 0), none⟩,
                ⟨(some 78), .mv (.t 5), none⟩,
                ⟨(some 79), .mv (.t 1), none⟩,
                ⟨(some 80), .indexAddr 13 (.t 77) (.t 78), none⟩,
                ⟨(some 81), .fieldAddr 5 (.t 80), none⟩,
                ⟨(some 82), .fieldAddr 3 (.t 81), none⟩,
                ⟨none, .store 1 (.t 82) (.t 79), none⟩] [77, 78, 79, 80, 81, 82])
            (.seq (.region [⟨(some 83), .mv (.t 1), none⟩,
                ⟨(some 84), .bin .add (.t 83) (.k (.c (.d (.int .i64 1)))), none⟩,
                ⟨(some 1), .mv (.t 84), none⟩] [83, 84])
            (.seq (.region [⟨(some 85), .mv (.t 0), none⟩,
                ⟨(some 86), .mv (.t 5), none⟩,
                ⟨(some 87), .mv (.t 1), none⟩,
                ⟨(some 88), .indexAddr 13 (.t 85) (.t 86), none⟩,
                ⟨(some 89), .fieldAddr 5 (.t 88), none⟩,
                ⟨(some 90), .fieldAddr 4 (.t 89), none⟩,
                ⟨none, .store 1 (.t 90) (.t 87), none⟩] [85, 86, 87, 88, 89, 90])
            (.seq (.region [⟨(some 91), .mv (.t 1), none⟩,
                ⟨(some 92), .bin .add (.t 91) (.k (.c (.d (.int .i64 1)))), none⟩,
                ⟨(some 1), .mv (.t 92), none⟩] [91, 92])
            (.seq (.region [⟨(some 93), .mv (.t 0), none⟩,
                ⟨(some 94), .mv (.t 5), none⟩,
                ⟨(some 95), .mv (.t 1), none⟩,
                ⟨(some 96), .indexAddr 13 (.t 93) (.t 94), none⟩,
                ⟨(some 97), .fieldAddr 5 (.t 96), none⟩,
                ⟨(some 98), .fieldAddr 5 (.t 97), none⟩,
                ⟨none, .store 1 (.t 98) (.t 95), none⟩] [93, 94, 95, 96, 97, 98])
            (.seq (.region [⟨(some 99), .mv (.t 1), none⟩,
                ⟨(some 100), .bin .add (.t 99) (.k (.c (.d (.int .i64 1)))), none⟩,
                ⟨(some 1), .mv (.t 100), none⟩] [99, 100])
            (.seq (.region [⟨(some 101), .mv (.t 0), none⟩,
                ⟨(some 102), .mv (.t 5), none⟩,
                ⟨(some 103), .mv (.t 1), none⟩,
                ⟨(some 104), .bin .rem (.t 103) (.k (.c (.d (.int .i64 3)))), none⟩,
                ⟨(some 105), .bin .eql (.t 104) (.k (.c (.d (.int .i64 0)))), none⟩,
                ⟨(some 106), .indexAddr 13 (.t 101) (.t 102), none⟩,
                ⟨(some 107), .fieldAddr 11 (.t 106), none⟩,
                ⟨none, .store 1 (.t 107) (.t 105), none⟩] [101, 102, 103, 104, 105, 106, 107])
            (.seq (.region [⟨(some 108), .mv (.t 1), none⟩,
                ⟨(some 109), .bin .add (.t 108) (.k (.c (.d (.int .i64 1)))), none⟩,
                ⟨(some 1), .mv (.t 109), none⟩] [108, 109])
            (.region [⟨(some 110), .mv (.t 0), none⟩,
              ⟨(some 111), .mv (.t 5), none⟩,
              ⟨(some 112), .indexAddr 13 (.t 110) (.t 111), none⟩,
              ⟨(some 113), .fieldAddr 12 (.t 112), none⟩,
              ⟨(some 114), .load none (.t 113), none⟩,
              ⟨(some 115), .mv (.t 1), none⟩,
              ⟨(some 116), .qcall 20 [(.t 114), (.t 115)], none⟩,
              ⟨(some 1), .mv (.t 116), none⟩] [110, 111, 112, 113, 114, 115, 116])))))))))))))))))))))
        (.region [⟨(some 10), .mv (.t 5), none⟩,
          ⟨(some 11), .bin .add (.t 10) (.k (.c (.d (.int .i64 1)))), none⟩,
          ⟨(some 5), .mv (.t 11), none⟩] [10, 11]))))))
  (.seq (.region [⟨(some 117), .mv (.t 1), none⟩,
      ⟨(some 4), .mv (.t 117), none⟩] [1, 117])
  (.ret)))
theorem ac53_ok : cFunc Try.prog [1000013, 1000020, 1000059, 1000060] [(0, [4], []), (1, [], []), (2, [6, 7, 8], []), (4, [9, 12, 13, 14, 15, 16, 17, 18, 19], []), (5, [20, 21, 22, 23, 24, 25, 26, 27], []), (6, [28, 29], []), (7, [30, 31, 32, 33, 34, 35, 36], []), (8, [37, 38, 39, 40, 41, 42, 43], []), (9, [44, 45, 46, 47, 48, 49, 50], []), (10, [51, 52], []), (11, [53, 54, 55, 56, 57, 58, 59, 60], []), (12, [61, 62, 63, 64, 65, 66, 67, 68], []), (13, [69, 70, 71, 72, 73, 74], []), (14, [75, 76], []), (15, [77, 78, 79, 80, 81, 82], []), (16, [83, 84], []), (17, [85, 86, 87, 88, 89, 90], []), (18, [91, 92], []), (19, [93, 94, 95, 96, 97, 98], []), (20, [99, 100], []), (21, [101, 102, 103, 104, 105, 106, 107], []), (22, [108, 109], []), (23, [110, 111, 112, 113, 114, 115, 116], []), (3, [10, 11], []), (24, [1, 117], [])] Try.f53 = some (ac53, [.tmp 4], 118) := by kernel_rfl
-- 54 loop.example/prologserver/laws.heldClientS params 2 ntmps 144
-- loop head live: [0, 1, 5]
def ac54 : Cd := .seq (.region [⟨(some 4), .mv (.k (.c (.d (.int .i64 0)))), none⟩] [4])
  (.seq (.seq (.region [⟨(some 5), .mv (.k (.c (.d (.int .i64 0)))), none⟩] [])
    (.block 0 (.loop (.seq (.seq (.region [⟨(some 6), .mv (.t 5), none⟩,
              ⟨(some 7), .mv (.t 0), none⟩,
              ⟨(some 8), .len 1 (.t 7), none⟩,
              ⟨(some 9), .bin .lss (.t 6) (.t 8), none⟩] [6, 7, 8])
          (.cond (.t 9)
            (.skip)
            (.exit 0)))
        (.seq (.block 1 (.seq (.region [⟨(some 12), .mv (.t 0), none⟩,
                ⟨(some 13), .mv (.t 5), none⟩,
                ⟨(some 14), .indexAddr 13 (.t 12) (.t 13), none⟩,
                ⟨(some 15), .fieldAddr 0 (.t 14), none⟩,
                ⟨(some 16), .fieldAddr 0 (.t 15), none⟩,
                ⟨(some 17), .load none (.t 16), none⟩,
                ⟨(some 18), .mv (.t 1), none⟩,
                ⟨(some 19), .qcall 14 [(.t 17), (.t 18)], none⟩,
                ⟨(some 1), .mv (.t 19), none⟩] [9, 12, 13, 14, 15, 16, 17, 18, 19])
            (.seq (.seq (.region [⟨(some 20), .mv (.t 1), none⟩,
                  ⟨(some 21), .bin .lss (.t 20) (.k (.c (.d (.int .i64 0)))), none⟩] [20])
              (.cond (.t 21)
                (.seq (.region [⟨(some 4), .mv (.k (.c (.d (.int .i64 (-1))))), none⟩] [0, 1, 5, 21])
                (.ret))
                (.skip)))
            (.seq (.seq (.region [⟨(some 22), .mv (.t 0), none⟩,
                  ⟨(some 23), .mv (.t 5), none⟩,
                  ⟨(some 24), .indexAddr 13 (.t 22) (.t 23), none⟩,
                  ⟨(some 25), .fieldAddr 0 (.t 24), none⟩,
                  ⟨(some 26), .fieldAddr 1 (.t 25), none⟩,
                  ⟨(some 27), .load none (.t 26), none⟩,
                  ⟨(some 28), .mv (.t 1), none⟩,
                  ⟨(some 29), .bin .rem (.t 28) (.k (.c (.d (.int .i64 3)))), none⟩,
                  ⟨(some 30), .bin .eql (.t 29) (.k (.c (.d (.int .i64 0)))), none⟩,
                  ⟨(some 31), .binB true (.t 27) (.t 30), none⟩] [4, 21, 22, 23, 24, 25, 26, 27, 28, 29, 30])
              (.cond (.t 31)
                (.seq (.region [⟨(some 4), .mv (.k (.c (.d (.int .i64 (-1))))), none⟩] [0, 1, 5, 31])
                (.ret))
                (.skip)))
            (.seq (.region [⟨(some 32), .mv (.t 1), none⟩,
                ⟨(some 33), .bin .add (.t 32) (.k (.c (.d (.int .i64 1)))), none⟩,
                ⟨(some 1), .mv (.t 33), none⟩] [4, 31, 32, 33])
            (.seq (.region [⟨(some 34), .mv (.t 0), none⟩,
                ⟨(some 35), .mv (.t 5), none⟩,
                ⟨(some 36), .indexAddr 13 (.t 34) (.t 35), none⟩,
                ⟨(some 37), .fieldAddr 2 (.t 36), none⟩,
                ⟨(some 38), .load none (.t 37), none⟩,
                ⟨(some 39), .mv (.t 1), none⟩,
                ⟨(some 40), .qcall 24 [(.t 38), (.t 39)], none⟩,
                ⟨(some 1), .mv (.t 40), none⟩] [34, 35, 36, 37, 38, 39, 40])
            (.seq (.seq (.region [⟨(some 41), .mv (.t 1), none⟩,
                  ⟨(some 42), .bin .lss (.t 41) (.k (.c (.d (.int .i64 0)))), none⟩] [41])
              (.cond (.t 42)
                (.seq (.region [⟨(some 4), .mv (.k (.c (.d (.int .i64 (-1))))), none⟩] [0, 1, 5, 42])
                (.ret))
                (.skip)))
            (.seq (.region [⟨(some 43), .mv (.t 0), none⟩,
                ⟨(some 44), .mv (.t 5), none⟩,
                ⟨(some 45), .indexAddr 13 (.t 43) (.t 44), none⟩,
                ⟨(some 46), .fieldAddr 3 (.t 45), none⟩,
                ⟨(some 47), .load none (.t 46), none⟩,
                ⟨(some 48), .mv (.t 1), none⟩,
                ⟨(some 49), .qcall 61 [(.t 47), (.t 48)], none⟩,
                ⟨(some 1), .mv (.t 49), none⟩] [4, 42, 43, 44, 45, 46, 47, 48, 49])
            (.seq (.seq (.region [⟨(some 50), .mv (.t 1), none⟩,
                  ⟨(some 51), .bin .lss (.t 50) (.k (.c (.d (.int .i64 0)))), none⟩] [50])
              (.cond (.t 51)
                (.seq (.region [⟨(some 4), .mv (.k (.c (.d (.int .i64 (-1))))), none⟩] [0, 1, 5, 51])
                (.ret))
                (.skip)))
            (.seq (.seq (.region [⟨(some 52), .mv (.t 0), none⟩,
                  ⟨(some 53), .mv (.t 5), none⟩,
                  ⟨(some 54), .indexAddr 13 (.t 52) (.t 53), none⟩,
                  ⟨(some 55), .fieldAddr 4 (.t 54), none⟩,
                  ⟨(some 56), .load none (.t 55), none⟩,
                  ⟨(some 57), .mv (.t 1), none⟩,
                  ⟨(some 58), .bin .rem (.t 57) (.k (.c (.d (.int .i64 3)))), none⟩,
                  ⟨(some 59), .bin .eql (.t 58) (.k (.c (.d (.int .i64 0)))), none⟩,
                  ⟨(some 60), .binB true (.t 56) (.t 59), none⟩] [4, 51, 52, 53, 54, 55, 56, 57, 58, 59])
              (.cond (.t 60)
                (.seq (.region [⟨(some 4), .mv (.k (.c (.d (.int .i64 (-1))))), none⟩] [0, 1, 5, 60])
                (.ret))
                (.skip)))
            (.seq (.region [⟨(some 61), .mv (.t 1), none⟩,
                ⟨(some 62), .bin .add (.t 61) (.k (.c (.d (.int .i64 1)))), none⟩,
                ⟨(some 1), .mv (.t 62), none⟩] [4, 60, 61, 62])
            (.seq (.region [⟨(some 63), .mv (.t 0), none⟩,
                ⟨(some 64), .mv (.t 5), none⟩,
                ⟨(some 65), .indexAddr 13 (.t 63) (.t 64), none⟩,
                ⟨(some 66), .fieldAddr 5 (.t 65), none⟩,
                ⟨(some 67), .fieldAddr 0 (.t 66), none⟩,
                ⟨(some 68), .load none (.t 67), none⟩,
                ⟨(some 69), .mv (.t 1), none⟩,
                ⟨(some 70), .qcall 61 [(.t 68), (.t 69)], none⟩,
                ⟨(some 1), .mv (.t 70), none⟩] [63, 64, 65, 66, 67, 68, 69, 70])
            (.seq (.seq (.region [⟨(some 71), .mv (.t 1), none⟩,
                  ⟨(some 72), .bin .lss (.t 71) (.k (.c (.d (.int .i64 0)))), none⟩] [71])
              (.cond (.t 72)
                (.seq (.region [⟨(some 4), .mv (.k (.c (.d (.int .i64 (-1))))), none⟩] [0, 1, 5, 72])
                (.ret))
                (.skip)))
            (.seq (.region [⟨(some 73), .mv (.t 0), none⟩,
                ⟨(some 74), .mv (.t 5), none⟩,
                ⟨(some 75), .indexAddr 13 (.t 73) (.t 74), none⟩,
                ⟨(some 76), .fieldAddr 5 (.t 75), none⟩,
                ⟨(some 77), .fieldAddr 1 (.t 76), none⟩,
                ⟨(some 78), .load none (.t 77), none⟩,
                ⟨(some 79), .mv (.t 1), none⟩,
                ⟨(some 80), .qcall 62 [(.t 78), (.t 79)], none⟩,
                ⟨(some 1), .mv (.t 80), none⟩] [4, 72, 73, 74, 75, 76, 77, 78, 79, 80])
            (.seq (.seq (.region [⟨(some 81), .mv (.t 1), none⟩,
                  ⟨(some 82), .bin .lss (.t 81) (.k (.c (.d (.int .i64 0)))), none⟩] [81])
              (.cond (.t 82)
                (.seq (.region [⟨(some 4), .mv (.k (.c (.d (.int .i64 (-1))))), none⟩] [0, 1, 5, 82])
                (.ret))
                (.skip)))
            (.seq (.seq (.region [⟨(some 83), .mv (.t 0), none⟩,
                  ⟨(some 84), .mv (.t 5), none⟩,
                  ⟨(some 85), .indexAddr 13 (.t 83) (.t 84), none⟩,
                  ⟨(some 86), .fieldAddr 5 (.t 85), none⟩,
                  ⟨(some 87), .fieldAddr 2 (.t 86), none⟩,
                  ⟨(some 88), .load none (.t 87), none⟩,
                  ⟨(some 89), .mv (.t 1), none⟩,
                  ⟨(some 90), .bin .neq (.t 88) (.t 89), none⟩] [4, 82, 83, 84, 85, 86, 87, 88, 89])
              (.cond (.t 90)
                (.seq (.region [⟨(some 4), .mv (.k (.c (.d (.int .i64 (-1))))), none⟩] [0, 1, 5, 90])
                (.ret))
                (.skip)))
            (.seq (.region [⟨(some 91), .mv (.t 1), none⟩,
                ⟨(some 92), .bin .add (.t 91) (.k (.c (.d (.int .i64 1)))), none⟩,
                ⟨(some 1), .mv (.t 92), none⟩] [4, 90, 91, 92])
            (.seq (.seq (.region [⟨(some 93), .mv (.t 0), none⟩,
                  ⟨(some 94), .mv (.t 5), none⟩,
                  ⟨(some 95), .indexAddr 13 (.t 93) (.t 94), none⟩,
                  ⟨(some 96), .fieldAddr 5 (.t 95), none⟩,
                  ⟨(some 97), .fieldAddr 3 (.t 96), none⟩,
                  ⟨(some 98), .load none (.t 97), none⟩,
                  ⟨(some 99), .mv (.t 1), none⟩,
                  ⟨(some 100), .bin .neq (.t 98) (.t 99), none⟩] [93, 94, 95, 96, 97, 98, 99])
              (.cond (.t 100)
                (.seq (.region [⟨(some 4), .mv (.k (.c (.d (.int .i64 (-1))))), none⟩] [0, 1, 5, 100])
                (.ret))
                (.skip)))
            (.seq (.region [⟨(some 101), .mv (.t 1), none⟩,
                ⟨(some 102), .bin .add (.t 101) (.k (.c (.d (.int .i64 1)))), none⟩,
                ⟨(some 1), .mv (.t 102), none⟩] [4, 100, 101, 102])
            (.seq (.seq (.region [⟨(some 103), .mv (.t 0), none⟩,
                  ⟨(some 104), .mv (.t 5), none⟩,
                  ⟨(some 105), .indexAddr 13 (.t 103) (.t 104), none⟩,
                  ⟨(some 106), .fieldAddr 5 (.t 105), none⟩,
                  ⟨(some 107), .fieldAddr 4 (.t 106), none⟩,
                  ⟨(some 108), .load none (.t 107), none⟩,
                  ⟨(some 109), .mv (.t 1), none⟩,
                  ⟨(some 110), .bin .neq (.t 108) (.t 109), none⟩] [103, 104, 105, 106, 107, 108, 109])
              (.cond (.t 110)
                (.seq (.region [⟨(some 4), .mv (.k (.c (.d (.int .i64 (-1))))), none⟩] [0, 1, 5, 110])
                (.ret))
                (.skip)))
            (.seq (.region [⟨(some 111), .mv (.t 1), none⟩,
                ⟨(some 112), .bin .add (.t 111) (.k (.c (.d (.int .i64 1)))), none⟩,
                ⟨(some 1), .mv (.t 112), none⟩] [4, 110, 111, 112])
            (.seq (.seq (.region [⟨(some 113), .mv (.t 0), none⟩,
                  ⟨(some 114), .mv (.t 5), none⟩,
                  ⟨(some 115), .indexAddr 13 (.t 113) (.t 114), none⟩,
                  ⟨(some 116), .fieldAddr 5 (.t 115), none⟩,
                  ⟨(some 117), .fieldAddr 5 (.t 116), none⟩,
                  ⟨(some 118), .load none (.t 117), none⟩,
                  ⟨(some 119), .mv (.t 1), none⟩,
                  ⟨(some 120), .bin .neq (.t 118) (.t 119), none⟩] [113, 114, 115, 116, 117, 118, 119])
              (.cond (.t 120)
                (.seq (.region [⟨(some 4), .mv (.k (.c (.d (.int .i64 (-1))))), none⟩] [0, 1, 5, 120])
                (.ret))
                (.skip)))
            (.seq (.region [⟨(some 121), .mv (.t 1), none⟩,
                ⟨(some 122), .bin .add (.t 121) (.k (.c (.d (.int .i64 1)))), none⟩,
                ⟨(some 1), .mv (.t 122), none⟩] [4, 120, 121, 122])
            (.seq (.seq (.region [⟨(some 123), .mv (.t 0), none⟩,
                  ⟨(some 124), .mv (.t 5), none⟩,
                  ⟨(some 125), .indexAddr 13 (.t 123) (.t 124), none⟩,
                  ⟨(some 126), .fieldAddr 11 (.t 125), none⟩,
                  ⟨(some 127), .load none (.t 126), none⟩,
                  ⟨(some 128), .mv (.t 1), none⟩,
                  ⟨(some 129), .bin .rem (.t 128) (.k (.c (.d (.int .i64 3)))), none⟩,
                  ⟨(some 130), .bin .eql (.t 129) (.k (.c (.d (.int .i64 0)))), none⟩,
                  ⟨(some 131), .binB true (.t 127) (.t 130), none⟩] [123, 124, 125, 126, 127, 128, 129, 130])
              (.cond (.t 131)
                (.seq (.region [⟨(some 4), .mv (.k (.c (.d (.int .i64 (-1))))), none⟩] [0, 1, 5, 131])
                (.ret))
                (.skip)))
            (.seq (.region [⟨(some 132), .mv (.t 1), none⟩,
                ⟨(some 133), .bin .add (.t 132) (.k (.c (.d (.int .i64 1)))), none⟩,
                ⟨(some 1), .mv (.t 133), none⟩] [4, 131, 132, 133])
            (.seq (.region [⟨(some 134), .mv (.t 0), none⟩,
                ⟨(some 135), .mv (.t 5), none⟩,
                ⟨(some 136), .indexAddr 13 (.t 134) (.t 135), none⟩,
                ⟨(some 137), .fieldAddr 12 (.t 136), none⟩,
                ⟨(some 138), .load none (.t 137), none⟩,
                ⟨(some 139), .mv (.t 1), none⟩,
                ⟨(some 140), .qcall 24 [(.t 138), (.t 139)], none⟩,
                ⟨(some 1), .mv (.t 140), none⟩] [134, 135, 136, 137, 138, 139, 140])
            (.seq (.region [⟨(some 141), .mv (.t 1), none⟩,
                ⟨(some 142), .bin .lss (.t 141) (.k (.c (.d (.int .i64 0)))), none⟩] [141])
            (.cond (.t 142)
              (.seq (.region [⟨(some 4), .mv (.k (.c (.d (.int .i64 (-1))))), none⟩] [0, 1, 5, 142])
              (.ret))
              (.skip)))))))))))))))))))))))))))))
        (.region [⟨(some 10), .mv (.t 5), none⟩,
          ⟨(some 11), .bin .add (.t 10) (.k (.c (.d (.int .i64 1)))), none⟩,
          ⟨(some 5), .mv (.t 11), none⟩] [4, 10, 11, 142]))))))
  (.seq (.region [⟨(some 143), .mv (.t 1), none⟩,
      ⟨(some 4), .mv (.t 143), none⟩] [1, 143])
  (.ret)))
theorem ac54_ok : cFunc Try.prog [1000014, 1000024, 1000061, 1000062] [(0, [4], []), (1, [], []), (2, [6, 7, 8], []), (4, [9, 12, 13, 14, 15, 16, 17, 18, 19], []), (5, [20], []), (6, [0, 1, 5, 21], []), (7, [4, 21, 22, 23, 24, 25, 26, 27, 28, 29, 30], []), (8, [0, 1, 5, 31], []), (9, [4, 31, 32, 33], []), (10, [34, 35, 36, 37, 38, 39, 40], []), (11, [41], []), (12, [0, 1, 5, 42], []), (13, [4, 42, 43, 44, 45, 46, 47, 48, 49], []), (14, [50], []), (15, [0, 1, 5, 51], []), (16, [4, 51, 52, 53, 54, 55, 56, 57, 58, 59], []), (17, [0, 1, 5, 60], []), (18, [4, 60, 61, 62], []), (19, [63, 64, 65, 66, 67, 68, 69, 70], []), (20, [71], []), (21, [0, 1, 5, 72], []), (22, [4, 72, 73, 74, 75, 76, 77, 78, 79, 80], []), (23, [81], []), (24, [0, 1, 5, 82], []), (25, [4, 82, 83, 84, 85, 86, 87, 88, 89], []), (26, [0, 1, 5, 90], []), (27, [4, 90, 91, 92], []), (28, [93, 94, 95, 96, 97, 98, 99], []), (29, [0, 1, 5, 100], []), (30, [4, 100, 101, 102], []), (31, [103, 104, 105, 106, 107, 108, 109], []), (32, [0, 1, 5, 110], []), (33, [4, 110, 111, 112], []), (34, [113, 114, 115, 116, 117, 118, 119], []), (35, [0, 1, 5, 120], []), (36, [4, 120, 121, 122], []), (37, [123, 124, 125, 126, 127, 128, 129, 130], []), (38, [0, 1, 5, 131], []), (39, [4, 131, 132, 133], []), (40, [134, 135, 136, 137, 138, 139, 140], []), (41, [141], []), (42, [0, 1, 5, 142], []), (3, [4, 10, 11, 142], []), (43, [1, 143], [])] Try.f54 = some (ac54, [.tmp 4], 144) := by kernel_rfl
-- 35 loop.example/prologserver/laws.markServer params 2 ntmps 10
def ac35 : Cd := .seq (.region [⟨(some 2), .box (.t 0), none⟩,
      ⟨(some 4), .mv (.k (.c (.d (.int .i64 0)))), none⟩] [0, 4])
  (.seq (.region [⟨(some 5), .fieldAddr 0 (.t 2), none⟩,
      ⟨(some 6), .load none (.t 5), none⟩,
      ⟨(some 7), .mv (.t 1), none⟩,
      ⟨(some 8), .call false 53 [(.t 6), (.t 7)], none⟩,
      ⟨(some 1), .mv (.t 8), none⟩] [2, 5, 6, 7, 8])
  (.seq (.region [⟨(some 9), .mv (.t 1), none⟩,
      ⟨(some 4), .mv (.t 9), none⟩] [1, 9])
  (.ret)))
theorem ac35_ok : cFunc Try.prog [] [(0, [0, 4], []), (1, [2, 5, 6, 7, 8], []), (2, [1, 9], [])] Try.f35 = some (ac35, [.tmp 4], 10) := by kernel_rfl
-- 36 loop.example/prologserver/laws.heldServer params 2 ntmps 12
def ac36 : Cd := .seq (.region [⟨(some 2), .box (.t 0), none⟩,
      ⟨(some 4), .mv (.k (.c (.d (.int .i64 0)))), none⟩] [0, 4])
  (.seq (.region [⟨(some 5), .fieldAddr 0 (.t 2), none⟩,
      ⟨(some 6), .load none (.t 5), none⟩,
      ⟨(some 7), .mv (.t 1), none⟩,
      ⟨(some 8), .qcall 54 [(.t 6), (.t 7)], none⟩,
      ⟨(some 1), .mv (.t 8), none⟩] [2, 5, 6, 7, 8])
  (.seq (.seq (.region [⟨(some 9), .mv (.t 1), none⟩,
        ⟨(some 10), .bin .lss (.t 9) (.k (.c (.d (.int .i64 0)))), none⟩] [9])
    (.cond (.t 10)
      (.seq (.region [⟨(some 4), .mv (.k (.c (.d (.int .i64 (-1))))), none⟩] [1, 10])
      (.ret))
      (.skip)))
  (.seq (.region [⟨(some 11), .mv (.t 1), none⟩,
      ⟨(some 4), .mv (.t 11), none⟩] [1, 10, 11])
  (.ret))))
theorem ac36_ok : cFunc Try.prog [1000054] [(0, [0, 4], []), (1, [2, 5, 6, 7, 8], []), (2, [9], []), (3, [1, 10], []), (4, [1, 10, 11], [])] Try.f36 = some (ac36, [.tmp 4], 12) := by kernel_rfl
theorem markByteZ (k : Int) (hk : inR .i64 k) (H : Heap) : ACalls Try.prog 13 [.c (.d (.sl [])), .c (.d (.int .i64 k))] H (fun r H' => H' = H ∧ r = .c (.d (.int .i64 k))) := by
  have hz0 : inR .i64 0 := small_i64 (by omega) (by omega)
  refine acalls Try.func13 (by kernel_rfl) ac13_ok fun hf => ?_
  simp -implicitDefEqProofs [ac13, hz0, aw_skip, aw_region, aw_seq, aw_block, aw_cond, aw_exit, aw_ret, kq_nil, kq_seq, kq_seq_ret, kq_seq_exit, kq_block, kq_block_ret, kq_block_exit, kq_loop, kq_loop_ret, kq_loop_exit, awOps_nil, awOps_cons, awOps_guardE, nx_eq, awOp, ev_k, ev_0, ev_1, ev_2, ev_3, ev_4, ev_5, ev_6, ev_7, ev_8, set_0, set_1, set_2, set_3, set_4, set_5, set_6, set_7, set_8, -List.set_cons_succ, -List.set_cons_zero, A.ok, A.val, setSl, wrapG, guardB, getB, pickA, binA, binC, binD, cmpD, isCmp, unA, unD, lenA, AOp.total, kills, litB, FinQ, resOks, resOk, resA, resList, resOne, A.thaw, C.thaw, A.fits, As.fits, C.fits, evs, oks, callArgs, A.pure, C.pure, A.re, C.re, fieldAddrA, loadC, cut, A.cells, C.rows?, getOb, newOb, setOb, storeC, splice, Ob.re, Cs.fits, partsA, partsOk, parts2A, parts2Ok, fillC, fillRows, optInt, optOk, sliceA, clipC, optK_some, storeK_some, Option.map_some, toDs, C.toD, spliceD, appendA, capsOf, srcRows, allLen_nil_iff, allLen_cons_iff, allLen_append_iff, dropC, Obs.fits, eqCs, eqD]
  refine loop_set (σ := Unit) (fun _ => [(5, .c (.d (.int .i64 0)))]) (fun _ => H) (fun _ => []) (fun _ => True) (fun _ => 0) () rfl trivial ?_
  intro _ _
  simp -implicitDefEqProofs [setAll, hz0, aw_skip, aw_region, aw_seq, aw_block, aw_cond, aw_exit, aw_ret, kq_nil, kq_seq, kq_seq_ret, kq_seq_exit, kq_block, kq_block_ret, kq_block_exit, kq_loop, kq_loop_ret, kq_loop_exit, awOps_nil, awOps_cons, awOps_guardE, nx_eq, awOp, ev_k, ev_0, ev_1, ev_2, ev_3, ev_4, ev_5, ev_6, ev_7, ev_8, set_0, set_1, set_2, set_3, set_4, set_5, set_6, set_7, set_8, -List.set_cons_succ, -List.set_cons_zero, A.ok, A.val, setSl, wrapG, guardB, getB, pickA, binA, binC, binD, cmpD, isCmp, unA, unD, lenA, AOp.total, kills, litB, FinQ, resOks, resOk, resA, resList, resOne, A.thaw, C.thaw, A.fits, As.fits, C.fits, evs, oks, callArgs, A.pure, C.pure, A.re, C.re, fieldAddrA, loadC, cut, A.cells, C.rows?, getOb, newOb, setOb, storeC, splice, Ob.re, Cs.fits, partsA, partsOk, parts2A, parts2Ok, fillC, fillRows, optInt, optOk, sliceA, clipC, optK_some, storeK_some, Option.map_some, toDs, C.toD, spliceD, appendA, capsOf, srcRows, allLen_nil_iff, allLen_cons_iff, allLen_append_iff, dropC, Obs.fits, eqCs, eqD]

theorem heldByteZ (k : Int) (hk : inR .i64 k) (H : Heap) : ACalls Try.prog 14 [.c (.d (.sl [])), .c (.d (.int .i64 k))] H (fun r H' => H' = H ∧ r = .c (.d (.int .i64 k))) := by
  have hz0 : inR .i64 0 := small_i64 (by omega) (by omega)
  refine acalls Try.func14 (by kernel_rfl) ac14_ok fun hf => ?_
  simp -implicitDefEqProofs [ac14, hz0, aw_skip, aw_region, aw_seq, aw_block, aw_cond, aw_exit, aw_ret, kq_nil, kq_seq, kq_seq_ret, kq_seq_exit, kq_block, kq_block_ret, kq_block_exit, kq_loop, kq_loop_ret, kq_loop_exit, awOps_nil, awOps_cons, awOps_guardE, nx_eq, awOp, ev_k, ev_0, ev_1, ev_2, ev_3, ev_4, ev_5, ev_6, ev_7, ev_8, set_0, set_1, set_2, set_3, set_4, set_5, set_6, set_7, set_8, -List.set_cons_succ, -List.set_cons_zero, A.ok, A.val, setSl, wrapG, guardB, getB, pickA, binA, binC, binD, cmpD, isCmp, unA, unD, lenA, AOp.total, kills, litB, FinQ, resOks, resOk, resA, resList, resOne, A.thaw, C.thaw, A.fits, As.fits, C.fits, evs, oks, callArgs, A.pure, C.pure, A.re, C.re, fieldAddrA, loadC, cut, A.cells, C.rows?, getOb, newOb, setOb, storeC, splice, Ob.re, Cs.fits, partsA, partsOk, parts2A, parts2Ok, fillC, fillRows, optInt, optOk, sliceA, clipC, optK_some, storeK_some, Option.map_some, toDs, C.toD, spliceD, appendA, capsOf, srcRows, allLen_nil_iff, allLen_cons_iff, allLen_append_iff, dropC, Obs.fits, eqCs, eqD]
  refine loop_set (σ := Unit) (fun _ => [(5, .c (.d (.int .i64 0)))]) (fun _ => H) (fun _ => []) (fun _ => True) (fun _ => 0) () rfl trivial ?_
  intro _ _
  simp -implicitDefEqProofs [setAll, hz0, aw_skip, aw_region, aw_seq, aw_block, aw_cond, aw_exit, aw_ret, kq_nil, kq_seq, kq_seq_ret, kq_seq_exit, kq_block, kq_block_ret, kq_block_exit, kq_loop, kq_loop_ret, kq_loop_exit, awOps_nil, awOps_cons, awOps_guardE, nx_eq, awOp, ev_k, ev_0, ev_1, ev_2, ev_3, ev_4, ev_5, ev_6, ev_7, ev_8, set_0, set_1, set_2, set_3, set_4, set_5, set_6, set_7, set_8, -List.set_cons_succ, -List.set_cons_zero, A.ok, A.val, setSl, wrapG, guardB, getB, pickA, binA, binC, binD, cmpD, isCmp, unA, unD, lenA, AOp.total, kills, litB, FinQ, resOks, resOk, resA, resList, resOne, A.thaw, C.thaw, A.fits, As.fits, C.fits, evs, oks, callArgs, A.pure, C.pure, A.re, C.re, fieldAddrA, loadC, cut, A.cells, C.rows?, getOb, newOb, setOb, storeC, splice, Ob.re, Cs.fits, partsA, partsOk, parts2A, parts2Ok, fillC, fillRows, optInt, optOk, sliceA, clipC, optK_some, storeK_some, Option.map_some, toDs, C.toD, spliceD, appendA, capsOf, srcRows, allLen_nil_iff, allLen_cons_iff, allLen_append_iff, dropC, Obs.fits, eqCs, eqD]

theorem markFrameZ (k : Int) (hk : inR .i64 k) (H : Heap) : ACalls Try.prog 20 [.c (.d (.sl [])), .c (.d (.int .i64 k))] H (fun r H' => H' = H ∧ r = .c (.d (.int .i64 k))) := by
  have hz0 : inR .i64 0 := small_i64 (by omega) (by omega)
  refine acalls Try.func20 (by kernel_rfl) ac20_ok fun hf => ?_
  simp -implicitDefEqProofs [ac20, hz0, aw_skip, aw_region, aw_seq, aw_block, aw_cond, aw_exit, aw_ret, kq_nil, kq_seq, kq_seq_ret, kq_seq_exit, kq_block, kq_block_ret, kq_block_exit, kq_loop, kq_loop_ret, kq_loop_exit, awOps_nil, awOps_cons, awOps_guardE, nx_eq, awOp, ev_k, ev_0, ev_1, ev_2, ev_3, ev_4, ev_5, ev_6, ev_7, ev_8, set_0, set_1, set_2, set_3, set_4, set_5, set_6, set_7, set_8, -List.set_cons_succ, -List.set_cons_zero, A.ok, A.val, setSl, wrapG, guardB, getB, pickA, binA, binC, binD, cmpD, isCmp, unA, unD, lenA, AOp.total, kills, litB, FinQ, resOks, resOk, resA, resList, resOne, A.thaw, C.thaw, A.fits, As.fits, C.fits, evs, oks, callArgs, A.pure, C.pure, A.re, C.re, fieldAddrA, loadC, cut, A.cells, C.rows?, getOb, newOb, setOb, storeC, splice, Ob.re, Cs.fits, partsA, partsOk, parts2A, parts2Ok, fillC, fillRows, optInt, optOk, sliceA, clipC, optK_some, storeK_some, Option.map_some, toDs, C.toD, spliceD, appendA, capsOf, srcRows, allLen_nil_iff, allLen_cons_iff, allLen_append_iff, dropC, Obs.fits, eqCs, eqD]
  refine loop_set (σ := Unit) (fun _ => [(5, .c (.d (.int .i64 0)))]) (fun _ => H) (fun _ => []) (fun _ => True) (fun _ => 0) () rfl trivial ?_
  intro _ _
  simp -implicitDefEqProofs [setAll, hz0, aw_skip, aw_region, aw_seq, aw_block, aw_cond, aw_exit, aw_ret, kq_nil, kq_seq, kq_seq_ret, kq_seq_exit, kq_block, kq_block_ret, kq_block_exit, kq_loop, kq_loop_ret, kq_loop_exit, awOps_nil, awOps_cons, awOps_guardE, nx_eq, awOp, ev_k, ev_0, ev_1, ev_2, ev_3, ev_4, ev_5, ev_6, ev_7, ev_8, set_0, set_1, set_2, set_3, set_4, set_5, set_6, set_7, set_8, -List.set_cons_succ, -List.set_cons_zero, A.ok, A.val, setSl, wrapG, guardB, getB, pickA, binA, binC, binD, cmpD, isCmp, unA, unD, lenA, AOp.total, kills, litB, FinQ, resOks, resOk, resA, resList, resOne, A.thaw, C.thaw, A.fits, As.fits, C.fits, evs, oks, callArgs, A.pure, C.pure, A.re, C.re, fieldAddrA, loadC, cut, A.cells, C.rows?, getOb, newOb, setOb, storeC, splice, Ob.re, Cs.fits, partsA, partsOk, parts2A, parts2Ok, fillC, fillRows, optInt, optOk, sliceA, clipC, optK_some, storeK_some, Option.map_some, toDs, C.toD, spliceD, appendA, capsOf, srcRows, allLen_nil_iff, allLen_cons_iff, allLen_append_iff, dropC, Obs.fits, eqCs, eqD]

theorem heldFrameZ (k : Int) (hk : inR .i64 k) (H : Heap) : ACalls Try.prog 24 [.c (.d (.sl [])), .c (.d (.int .i64 k))] H (fun r H' => H' = H ∧ r = .c (.d (.int .i64 k))) := by
  have hz0 : inR .i64 0 := small_i64 (by omega) (by omega)
  refine acalls Try.func24 (by kernel_rfl) ac24_ok fun hf => ?_
  simp -implicitDefEqProofs [ac24, hz0, aw_skip, aw_region, aw_seq, aw_block, aw_cond, aw_exit, aw_ret, kq_nil, kq_seq, kq_seq_ret, kq_seq_exit, kq_block, kq_block_ret, kq_block_exit, kq_loop, kq_loop_ret, kq_loop_exit, awOps_nil, awOps_cons, awOps_guardE, nx_eq, awOp, ev_k, ev_0, ev_1, ev_2, ev_3, ev_4, ev_5, ev_6, ev_7, ev_8, set_0, set_1, set_2, set_3, set_4, set_5, set_6, set_7, set_8, -List.set_cons_succ, -List.set_cons_zero, A.ok, A.val, setSl, wrapG, guardB, getB, pickA, binA, binC, binD, cmpD, isCmp, unA, unD, lenA, AOp.total, kills, litB, FinQ, resOks, resOk, resA, resList, resOne, A.thaw, C.thaw, A.fits, As.fits, C.fits, evs, oks, callArgs, A.pure, C.pure, A.re, C.re, fieldAddrA, loadC, cut, A.cells, C.rows?, getOb, newOb, setOb, storeC, splice, Ob.re, Cs.fits, partsA, partsOk, parts2A, parts2Ok, fillC, fillRows, optInt, optOk, sliceA, clipC, optK_some, storeK_some, Option.map_some, toDs, C.toD, spliceD, appendA, capsOf, srcRows, allLen_nil_iff, allLen_cons_iff, allLen_append_iff, dropC, Obs.fits, eqCs, eqD]
  refine loop_set (σ := Unit) (fun _ => [(5, .c (.d (.int .i64 0)))]) (fun _ => H) (fun _ => []) (fun _ => True) (fun _ => 0) () rfl trivial ?_
  intro _ _
  simp -implicitDefEqProofs [setAll, hz0, aw_skip, aw_region, aw_seq, aw_block, aw_cond, aw_exit, aw_ret, kq_nil, kq_seq, kq_seq_ret, kq_seq_exit, kq_block, kq_block_ret, kq_block_exit, kq_loop, kq_loop_ret, kq_loop_exit, awOps_nil, awOps_cons, awOps_guardE, nx_eq, awOp, ev_k, ev_0, ev_1, ev_2, ev_3, ev_4, ev_5, ev_6, ev_7, ev_8, set_0, set_1, set_2, set_3, set_4, set_5, set_6, set_7, set_8, -List.set_cons_succ, -List.set_cons_zero, A.ok, A.val, setSl, wrapG, guardB, getB, pickA, binA, binC, binD, cmpD, isCmp, unA, unD, lenA, AOp.total, kills, litB, FinQ, resOks, resOk, resA, resList, resOne, A.thaw, C.thaw, A.fits, As.fits, C.fits, evs, oks, callArgs, A.pure, C.pure, A.re, C.re, fieldAddrA, loadC, cut, A.cells, C.rows?, getOb, newOb, setOb, storeC, splice, Ob.re, Cs.fits, partsA, partsOk, parts2A, parts2Ok, fillC, fillRows, optInt, optOk, sliceA, clipC, optK_some, storeK_some, Option.map_some, toDs, C.toD, spliceD, appendA, capsOf, srcRows, allLen_nil_iff, allLen_cons_iff, allLen_append_iff, dropC, Obs.fits, eqCs, eqD]

theorem markTermZ (k : Int) (hk : inR .i64 k) (H : Heap) : ACalls Try.prog 60 [.c (.d (.sl [])), .c (.d (.int .i64 k))] H (fun r H' => H' = H ∧ r = .c (.d (.int .i64 k))) := by
  have hz0 : inR .i64 0 := small_i64 (by omega) (by omega)
  refine acalls Try.func60 (by kernel_rfl) ac60_ok fun hf => ?_
  simp -implicitDefEqProofs [ac60, hz0, aw_skip, aw_region, aw_seq, aw_block, aw_cond, aw_exit, aw_ret, kq_nil, kq_seq, kq_seq_ret, kq_seq_exit, kq_block, kq_block_ret, kq_block_exit, kq_loop, kq_loop_ret, kq_loop_exit, awOps_nil, awOps_cons, awOps_guardE, nx_eq, awOp, ev_k, ev_0, ev_1, ev_2, ev_3, ev_4, ev_5, ev_6, ev_7, ev_8, set_0, set_1, set_2, set_3, set_4, set_5, set_6, set_7, set_8, -List.set_cons_succ, -List.set_cons_zero, A.ok, A.val, setSl, wrapG, guardB, getB, pickA, binA, binC, binD, cmpD, isCmp, unA, unD, lenA, AOp.total, kills, litB, FinQ, resOks, resOk, resA, resList, resOne, A.thaw, C.thaw, A.fits, As.fits, C.fits, evs, oks, callArgs, A.pure, C.pure, A.re, C.re, fieldAddrA, loadC, cut, A.cells, C.rows?, getOb, newOb, setOb, storeC, splice, Ob.re, Cs.fits, partsA, partsOk, parts2A, parts2Ok, fillC, fillRows, optInt, optOk, sliceA, clipC, optK_some, storeK_some, Option.map_some, toDs, C.toD, spliceD, appendA, capsOf, srcRows, allLen_nil_iff, allLen_cons_iff, allLen_append_iff, dropC, Obs.fits, eqCs, eqD]
  refine loop_set (σ := Unit) (fun _ => [(5, .c (.d (.int .i64 0)))]) (fun _ => H) (fun _ => []) (fun _ => True) (fun _ => 0) () rfl trivial ?_
  intro _ _
  simp -implicitDefEqProofs [setAll, hz0, aw_skip, aw_region, aw_seq, aw_block, aw_cond, aw_exit, aw_ret, kq_nil, kq_seq, kq_seq_ret, kq_seq_exit, kq_block, kq_block_ret, kq_block_exit, kq_loop, kq_loop_ret, kq_loop_exit, awOps_nil, awOps_cons, awOps_guardE, nx_eq, awOp, ev_k, ev_0, ev_1, ev_2, ev_3, ev_4, ev_5, ev_6, ev_7, ev_8, set_0, set_1, set_2, set_3, set_4, set_5, set_6, set_7, set_8, -List.set_cons_succ, -List.set_cons_zero, A.ok, A.val, setSl, wrapG, guardB, getB, pickA, binA, binC, binD, cmpD, isCmp, unA, unD, lenA, AOp.total, kills, litB, FinQ, resOks, resOk, resA, resList, resOne, A.thaw, C.thaw, A.fits, As.fits, C.fits, evs, oks, callArgs, A.pure, C.pure, A.re, C.re, fieldAddrA, loadC, cut, A.cells, C.rows?, getOb, newOb, setOb, storeC, splice, Ob.re, Cs.fits, partsA, partsOk, parts2A, parts2Ok, fillC, fillRows, optInt, optOk, sliceA, clipC, optK_some, storeK_some, Option.map_some, toDs, C.toD, spliceD, appendA, capsOf, srcRows, allLen_nil_iff, allLen_cons_iff, allLen_append_iff, dropC, Obs.fits, eqCs, eqD]

theorem heldTermZ (k : Int) (hk : inR .i64 k) (H : Heap) : ACalls Try.prog 62 [.c (.d (.sl [])), .c (.d (.int .i64 k))] H (fun r H' => H' = H ∧ r = .c (.d (.int .i64 k))) := by
  have hz0 : inR .i64 0 := small_i64 (by omega) (by omega)
  refine acalls Try.func62 (by kernel_rfl) ac62_ok fun hf => ?_
  simp -implicitDefEqProofs [ac62, hz0, aw_skip, aw_region, aw_seq, aw_block, aw_cond, aw_exit, aw_ret, kq_nil, kq_seq, kq_seq_ret, kq_seq_exit, kq_block, kq_block_ret, kq_block_exit, kq_loop, kq_loop_ret, kq_loop_exit, awOps_nil, awOps_cons, awOps_guardE, nx_eq, awOp, ev_k, ev_0, ev_1, ev_2, ev_3, ev_4, ev_5, ev_6, ev_7, ev_8, set_0, set_1, set_2, set_3, set_4, set_5, set_6, set_7, set_8, -List.set_cons_succ, -List.set_cons_zero, A.ok, A.val, setSl, wrapG, guardB, getB, pickA, binA, binC, binD, cmpD, isCmp, unA, unD, lenA, AOp.total, kills, litB, FinQ, resOks, resOk, resA, resList, resOne, A.thaw, C.thaw, A.fits, As.fits, C.fits, evs, oks, callArgs, A.pure, C.pure, A.re, C.re, fieldAddrA, loadC, cut, A.cells, C.rows?, getOb, newOb, setOb, storeC, splice, Ob.re, Cs.fits, partsA, partsOk, parts2A, parts2Ok, fillC, fillRows, optInt, optOk, sliceA, clipC, optK_some, storeK_some, Option.map_some, toDs, C.toD, spliceD, appendA, capsOf, srcRows, allLen_nil_iff, allLen_cons_iff, allLen_append_iff, dropC, Obs.fits, eqCs, eqD]
  refine loop_set (σ := Unit) (fun _ => [(5, .c (.d (.int .i64 0)))]) (fun _ => H) (fun _ => []) (fun _ => True) (fun _ => 0) () rfl trivial ?_
  intro _ _
  simp -implicitDefEqProofs [setAll, hz0, aw_skip, aw_region, aw_seq, aw_block, aw_cond, aw_exit, aw_ret, kq_nil, kq_seq, kq_seq_ret, kq_seq_exit, kq_block, kq_block_ret, kq_block_exit, kq_loop, kq_loop_ret, kq_loop_exit, awOps_nil, awOps_cons, awOps_guardE, nx_eq, awOp, ev_k, ev_0, ev_1, ev_2, ev_3, ev_4, ev_5, ev_6, ev_7, ev_8, set_0, set_1, set_2, set_3, set_4, set_5, set_6, set_7, set_8, -List.set_cons_succ, -List.set_cons_zero, A.ok, A.val, setSl, wrapG, guardB, getB, pickA, binA, binC, binD, cmpD, isCmp, unA, unD, lenA, AOp.total, kills, litB, FinQ, resOks, resOk, resA, resList, resOne, A.thaw, C.thaw, A.fits, As.fits, C.fits, evs, oks, callArgs, A.pure, C.pure, A.re, C.re, fieldAddrA, loadC, cut, A.cells, C.rows?, getOb, newOb, setOb, storeC, splice, Ob.re, Cs.fits, partsA, partsOk, parts2A, parts2Ok, fillC, fillRows, optInt, optOk, sliceA, clipC, optK_some, storeK_some, Option.map_some, toDs, C.toD, spliceD, appendA, capsOf, srcRows, allLen_nil_iff, allLen_cons_iff, allLen_append_iff, dropC, Obs.fits, eqCs, eqD]

theorem markClauseZ (k : Int) (hk : inR .i64 k) (H : Heap) : ACalls Try.prog 59 [.c (.d (.sl [])), .c (.d (.int .i64 k))] H (fun r H' => H' = H ∧ r = .c (.d (.int .i64 k))) := by
  have hz0 : inR .i64 0 := small_i64 (by omega) (by omega)
  refine acalls Try.func59 (by kernel_rfl) ac59_ok fun hf => ?_
  simp -implicitDefEqProofs [ac59, hz0, aw_skip, aw_region, aw_seq, aw_block, aw_cond, aw_exit, aw_ret, kq_nil, kq_seq, kq_seq_ret, kq_seq_exit, kq_block, kq_block_ret, kq_block_exit, kq_loop, kq_loop_ret, kq_loop_exit, awOps_nil, awOps_cons, awOps_guardE, nx_eq, awOp, ev_k, ev_0, ev_1, ev_2, ev_3, ev_4, ev_5, ev_6, ev_7, ev_8, set_0, set_1, set_2, set_3, set_4, set_5, set_6, set_7, set_8, -List.set_cons_succ, -List.set_cons_zero, A.ok, A.val, setSl, wrapG, guardB, getB, pickA, binA, binC, binD, cmpD, isCmp, unA, unD, lenA, AOp.total, kills, litB, FinQ, resOks, resOk, resA, resList, resOne, A.thaw, C.thaw, A.fits, As.fits, C.fits, evs, oks, callArgs, A.pure, C.pure, A.re, C.re, fieldAddrA, loadC, cut, A.cells, C.rows?, getOb, newOb, setOb, storeC, splice, Ob.re, Cs.fits, partsA, partsOk, parts2A, parts2Ok, fillC, fillRows, optInt, optOk, sliceA, clipC, optK_some, storeK_some, Option.map_some, toDs, C.toD, spliceD, appendA, capsOf, srcRows, allLen_nil_iff, allLen_cons_iff, allLen_append_iff, dropC, Obs.fits, eqCs, eqD]
  refine loop_set (σ := Unit) (fun _ => [(5, .c (.d (.int .i64 0)))]) (fun _ => H) (fun _ => []) (fun _ => True) (fun _ => 0) () rfl trivial ?_
  intro _ _
  simp -implicitDefEqProofs [setAll, hz0, aw_skip, aw_region, aw_seq, aw_block, aw_cond, aw_exit, aw_ret, kq_nil, kq_seq, kq_seq_ret, kq_seq_exit, kq_block, kq_block_ret, kq_block_exit, kq_loop, kq_loop_ret, kq_loop_exit, awOps_nil, awOps_cons, awOps_guardE, nx_eq, awOp, ev_k, ev_0, ev_1, ev_2, ev_3, ev_4, ev_5, ev_6, ev_7, ev_8, set_0, set_1, set_2, set_3, set_4, set_5, set_6, set_7, set_8, -List.set_cons_succ, -List.set_cons_zero, A.ok, A.val, setSl, wrapG, guardB, getB, pickA, binA, binC, binD, cmpD, isCmp, unA, unD, lenA, AOp.total, kills, litB, FinQ, resOks, resOk, resA, resList, resOne, A.thaw, C.thaw, A.fits, As.fits, C.fits, evs, oks, callArgs, A.pure, C.pure, A.re, C.re, fieldAddrA, loadC, cut, A.cells, C.rows?, getOb, newOb, setOb, storeC, splice, Ob.re, Cs.fits, partsA, partsOk, parts2A, parts2Ok, fillC, fillRows, optInt, optOk, sliceA, clipC, optK_some, storeK_some, Option.map_some, toDs, C.toD, spliceD, appendA, capsOf, srcRows, allLen_nil_iff, allLen_cons_iff, allLen_append_iff, dropC, Obs.fits, eqCs, eqD]

theorem heldClauseZ (k : Int) (hk : inR .i64 k) (H : Heap) : ACalls Try.prog 61 [.c (.d (.sl [])), .c (.d (.int .i64 k))] H (fun r H' => H' = H ∧ r = .c (.d (.int .i64 k))) := by
  have hz0 : inR .i64 0 := small_i64 (by omega) (by omega)
  refine acalls Try.func61 (by kernel_rfl) ac61_ok fun hf => ?_
  simp -implicitDefEqProofs [ac61, hz0, aw_skip, aw_region, aw_seq, aw_block, aw_cond, aw_exit, aw_ret, kq_nil, kq_seq, kq_seq_ret, kq_seq_exit, kq_block, kq_block_ret, kq_block_exit, kq_loop, kq_loop_ret, kq_loop_exit, awOps_nil, awOps_cons, awOps_guardE, nx_eq, awOp, ev_k, ev_0, ev_1, ev_2, ev_3, ev_4, ev_5, ev_6, ev_7, ev_8, set_0, set_1, set_2, set_3, set_4, set_5, set_6, set_7, set_8, -List.set_cons_succ, -List.set_cons_zero, A.ok, A.val, setSl, wrapG, guardB, getB, pickA, binA, binC, binD, cmpD, isCmp, unA, unD, lenA, AOp.total, kills, litB, FinQ, resOks, resOk, resA, resList, resOne, A.thaw, C.thaw, A.fits, As.fits, C.fits, evs, oks, callArgs, A.pure, C.pure, A.re, C.re, fieldAddrA, loadC, cut, A.cells, C.rows?, getOb, newOb, setOb, storeC, splice, Ob.re, Cs.fits, partsA, partsOk, parts2A, parts2Ok, fillC, fillRows, optInt, optOk, sliceA, clipC, optK_some, storeK_some, Option.map_some, toDs, C.toD, spliceD, appendA, capsOf, srcRows, allLen_nil_iff, allLen_cons_iff, allLen_append_iff, dropC, Obs.fits, eqCs, eqD]
  refine loop_set (σ := Unit) (fun _ => [(5, .c (.d (.int .i64 0)))]) (fun _ => H) (fun _ => []) (fun _ => True) (fun _ => 0) () rfl trivial ?_
  intro _ _
  simp -implicitDefEqProofs [setAll, hz0, aw_skip, aw_region, aw_seq, aw_block, aw_cond, aw_exit, aw_ret, kq_nil, kq_seq, kq_seq_ret, kq_seq_exit, kq_block, kq_block_ret, kq_block_exit, kq_loop, kq_loop_ret, kq_loop_exit, awOps_nil, awOps_cons, awOps_guardE, nx_eq, awOp, ev_k, ev_0, ev_1, ev_2, ev_3, ev_4, ev_5, ev_6, ev_7, ev_8, set_0, set_1, set_2, set_3, set_4, set_5, set_6, set_7, set_8, -List.set_cons_succ, -List.set_cons_zero, A.ok, A.val, setSl, wrapG, guardB, getB, pickA, binA, binC, binD, cmpD, isCmp, unA, unD, lenA, AOp.total, kills, litB, FinQ, resOks, resOk, resA, resList, resOne, A.thaw, C.thaw, A.fits, As.fits, C.fits, evs, oks, callArgs, A.pure, C.pure, A.re, C.re, fieldAddrA, loadC, cut, A.cells, C.rows?, getOb, newOb, setOb, storeC, splice, Ob.re, Cs.fits, partsA, partsOk, parts2A, parts2Ok, fillC, fillRows, optInt, optOk, sliceA, clipC, optK_some, storeK_some, Option.map_some, toDs, C.toD, spliceD, appendA, capsOf, srcRows, allLen_nil_iff, allLen_cons_iff, allLen_append_iff, dropC, Obs.fits, eqCs, eqD]

theorem eqTermZ (H : Heap) : ACalls Try.prog 67 [.c (.d (.sl [])), .c (.d (.sl []))] H (fun r H' => H' = H ∧ r = .c (.d (.bool true))) := by
  have hz0 : inR .i64 0 := small_i64 (by omega) (by omega)
  refine acalls Try.func67 (by kernel_rfl) ac67_ok fun hf => ?_
  simp -implicitDefEqProofs [ac67, hz0, aw_skip, aw_region, aw_seq, aw_block, aw_cond, aw_exit, aw_ret, kq_nil, kq_seq, kq_seq_ret, kq_seq_exit, kq_block, kq_block_ret, kq_block_exit, kq_loop, kq_loop_ret, kq_loop_exit, awOps_nil, awOps_cons, awOps_guardE, nx_eq, awOp, ev_k, ev_0, ev_1, ev_2, ev_3, ev_4, ev_5, ev_6, ev_7, ev_8, set_0, set_1, set_2, set_3, set_4, set_5, set_6, set_7, set_8, -List.set_cons_succ, -List.set_cons_zero, A.ok, A.val, setSl, wrapG, guardB, getB, pickA, binA, binC, binD, cmpD, isCmp, unA, unD, lenA, AOp.total, kills, litB, FinQ, resOks, resOk, resA, resList, resOne, A.thaw, C.thaw, A.fits, As.fits, C.fits, evs, oks, callArgs, A.pure, C.pure, A.re, C.re, fieldAddrA, loadC, cut, A.cells, C.rows?, getOb, newOb, setOb, storeC, splice, Ob.re, Cs.fits, partsA, partsOk, parts2A, parts2Ok, fillC, fillRows, optInt, optOk, sliceA, clipC, optK_some, storeK_some, Option.map_some, toDs, C.toD, spliceD, appendA, capsOf, srcRows, allLen_nil_iff, allLen_cons_iff, allLen_append_iff, dropC, Obs.fits, eqCs, eqD]
  refine loop_set (σ := Unit) (fun _ => [(5, .c (.d (.int .i64 0)))]) (fun _ => H) (fun _ => []) (fun _ => True) (fun _ => 0) () rfl trivial ?_
  intro _ _
  simp -implicitDefEqProofs [setAll, hz0, aw_skip, aw_region, aw_seq, aw_block, aw_cond, aw_exit, aw_ret, kq_nil, kq_seq, kq_seq_ret, kq_seq_exit, kq_block, kq_block_ret, kq_block_exit, kq_loop, kq_loop_ret, kq_loop_exit, awOps_nil, awOps_cons, awOps_guardE, nx_eq, awOp, ev_k, ev_0, ev_1, ev_2, ev_3, ev_4, ev_5, ev_6, ev_7, ev_8, set_0, set_1, set_2, set_3, set_4, set_5, set_6, set_7, set_8, -List.set_cons_succ, -List.set_cons_zero, A.ok, A.val, setSl, wrapG, guardB, getB, pickA, binA, binC, binD, cmpD, isCmp, unA, unD, lenA, AOp.total, kills, litB, FinQ, resOks, resOk, resA, resList, resOne, A.thaw, C.thaw, A.fits, As.fits, C.fits, evs, oks, callArgs, A.pure, C.pure, A.re, C.re, fieldAddrA, loadC, cut, A.cells, C.rows?, getOb, newOb, setOb, storeC, splice, Ob.re, Cs.fits, partsA, partsOk, parts2A, parts2Ok, fillC, fillRows, optInt, optOk, sliceA, clipC, optK_some, storeK_some, Option.map_some, toDs, C.toD, spliceD, appendA, capsOf, srcRows, allLen_nil_iff, allLen_cons_iff, allLen_append_iff, dropC, Obs.fits, eqCs, eqD]

theorem eqClauseZ (H : Heap) : ACalls Try.prog 64 [.c (.d (.sl [])), .c (.d (.sl []))] H (fun r H' => H' = H ∧ r = .c (.d (.bool true))) := by
  have hz0 : inR .i64 0 := small_i64 (by omega) (by omega)
  refine acalls Try.func64 (by kernel_rfl) ac64_ok fun hf => ?_
  simp -implicitDefEqProofs [ac64, hz0, aw_skip, aw_region, aw_seq, aw_block, aw_cond, aw_exit, aw_ret, kq_nil, kq_seq, kq_seq_ret, kq_seq_exit, kq_block, kq_block_ret, kq_block_exit, kq_loop, kq_loop_ret, kq_loop_exit, awOps_nil, awOps_cons, awOps_guardE, nx_eq, awOp, ev_k, ev_0, ev_1, ev_2, ev_3, ev_4, ev_5, ev_6, ev_7, ev_8, set_0, set_1, set_2, set_3, set_4, set_5, set_6, set_7, set_8, -List.set_cons_succ, -List.set_cons_zero, A.ok, A.val, setSl, wrapG, guardB, getB, pickA, binA, binC, binD, cmpD, isCmp, unA, unD, lenA, AOp.total, kills, litB, FinQ, resOks, resOk, resA, resList, resOne, A.thaw, C.thaw, A.fits, As.fits, C.fits, evs, oks, callArgs, A.pure, C.pure, A.re, C.re, fieldAddrA, loadC, cut, A.cells, C.rows?, getOb, newOb, setOb, storeC, splice, Ob.re, Cs.fits, partsA, partsOk, parts2A, parts2Ok, fillC, fillRows, optInt, optOk, sliceA, clipC, optK_some, storeK_some, Option.map_some, toDs, C.toD, spliceD, appendA, capsOf, srcRows, allLen_nil_iff, allLen_cons_iff, allLen_append_iff, dropC, Obs.fits, eqCs, eqD]
  refine loop_set (σ := Unit) (fun _ => [(5, .c (.d (.int .i64 0)))]) (fun _ => H) (fun _ => []) (fun _ => True) (fun _ => 0) () rfl trivial ?_
  intro _ _
  simp -implicitDefEqProofs [setAll, hz0, aw_skip, aw_region, aw_seq, aw_block, aw_cond, aw_exit, aw_ret, kq_nil, kq_seq, kq_seq_ret, kq_seq_exit, kq_block, kq_block_ret, kq_block_exit, kq_loop, kq_loop_ret, kq_loop_exit, awOps_nil, awOps_cons, awOps_guardE, nx_eq, awOp, ev_k, ev_0, ev_1, ev_2, ev_3, ev_4, ev_5, ev_6, ev_7, ev_8, set_0, set_1, set_2, set_3, set_4, set_5, set_6, set_7, set_8, -List.set_cons_succ, -List.set_cons_zero, A.ok, A.val, setSl, wrapG, guardB, getB, pickA, binA, binC, binD, cmpD, isCmp, unA, unD, lenA, AOp.total, kills, litB, FinQ, resOks, resOk, resA, resList, resOne, A.thaw, C.thaw, A.fits, As.fits, C.fits, evs, oks, callArgs, A.pure, C.pure, A.re, C.re, fieldAddrA, loadC, cut, A.cells, C.rows?, getOb, newOb, setOb, storeC, splice, Ob.re, Cs.fits, partsA, partsOk, parts2A, parts2Ok, fillC, fillRows, optInt, optOk, sliceA, clipC, optK_some, storeK_some, Option.map_some, toDs, C.toD, spliceD, appendA, capsOf, srcRows, allLen_nil_iff, allLen_cons_iff, allLen_append_iff, dropC, Obs.fits, eqCs, eqD]

theorem eqSessionZ (H : Heap) : ACalls Try.prog 65 [.agg [.d (.sl []), .d (.sl []), .d (.int .i64 0), .d (.int .i64 0), .d (.int .i64 0), .d (.int .i64 0)], .agg [.d (.sl []), .d (.sl []), .d (.int .i64 0), .d (.int .i64 0), .d (.int .i64 0), .d (.int .i64 0)]] H (fun r H' => H' = H ∧ r = .c (.d (.bool true))) := by
  refine acalls Try.func65 (by kernel_rfl) ac65_ok fun hf => ?_
  simp -implicitDefEqProofs [ac65, hf, aw_skip, aw_region, aw_seq, aw_block, aw_cond, aw_exit, aw_ret, kq_nil, kq_seq, kq_seq_ret, kq_seq_exit, kq_block, kq_block_ret, kq_block_exit, kq_loop, kq_loop_ret, kq_loop_exit, awOps_nil, awOps_cons, awOps_guardE, nx_eq, awOp, ev_k, ev_0, ev_1, ev_2, ev_3, ev_4, ev_5, ev_6, ev_7, ev_8, set_0, set_1, set_2, set_3, set_4, set_5, set_6, set_7, set_8, -List.set_cons_succ, -List.set_cons_zero, A.ok, A.val, setSl, wrapG, guardB, getB, pickA, binA, binC, binD, cmpD, isCmp, unA, unD, lenA, AOp.total, kills, litB, FinQ, resOks, resOk, resA, resList, resOne, A.thaw, C.thaw, A.fits, As.fits, C.fits, evs, oks, callArgs, A.pure, C.pure, A.re, C.re, fieldAddrA, loadC, cut, A.cells, C.rows?, getOb, newOb, setOb, storeC, splice, Ob.re, Cs.fits, partsA, partsOk, parts2A, parts2Ok, fillC, fillRows, optInt, optOk, sliceA, clipC, optK_some, storeK_some, Option.map_some, toDs, C.toD, spliceD, appendA, capsOf, srcRows, allLen_nil_iff, allLen_cons_iff, allLen_append_iff, dropC, Obs.fits, eqCs, eqD]
  refine qcall_pure eqClauseZ hf rfl ?_
  simp -implicitDefEqProofs [hf, aw_skip, aw_region, aw_seq, aw_block, aw_cond, aw_exit, aw_ret, kq_nil, kq_seq, kq_seq_ret, kq_seq_exit, kq_block, kq_block_ret, kq_block_exit, kq_loop, kq_loop_ret, kq_loop_exit, awOps_nil, awOps_cons, awOps_guardE, nx_eq, awOp, ev_k, ev_0, ev_1, ev_2, ev_3, ev_4, ev_5, ev_6, ev_7, ev_8, set_0, set_1, set_2, set_3, set_4, set_5, set_6, set_7, set_8, -List.set_cons_succ, -List.set_cons_zero, A.ok, A.val, setSl, wrapG, guardB, getB, pickA, binA, binC, binD, cmpD, isCmp, unA, unD, lenA, AOp.total, kills, litB, FinQ, resOks, resOk, resA, resList, resOne, A.thaw, C.thaw, A.fits, As.fits, C.fits, evs, oks, callArgs, A.pure, C.pure, A.re, C.re, fieldAddrA, loadC, cut, A.cells, C.rows?, getOb, newOb, setOb, storeC, splice, Ob.re, Cs.fits, partsA, partsOk, parts2A, parts2Ok, fillC, fillRows, optInt, optOk, sliceA, clipC, optK_some, storeK_some, Option.map_some, toDs, C.toD, spliceD, appendA, capsOf, srcRows, allLen_nil_iff, allLen_cons_iff, allLen_append_iff, dropC, Obs.fits, eqCs, eqD]
  refine qcall_pure eqTermZ hf rfl ?_
  simp -implicitDefEqProofs [hf, aw_skip, aw_region, aw_seq, aw_block, aw_cond, aw_exit, aw_ret, kq_nil, kq_seq, kq_seq_ret, kq_seq_exit, kq_block, kq_block_ret, kq_block_exit, kq_loop, kq_loop_ret, kq_loop_exit, awOps_nil, awOps_cons, awOps_guardE, nx_eq, awOp, ev_k, ev_0, ev_1, ev_2, ev_3, ev_4, ev_5, ev_6, ev_7, ev_8, set_0, set_1, set_2, set_3, set_4, set_5, set_6, set_7, set_8, -List.set_cons_succ, -List.set_cons_zero, A.ok, A.val, setSl, wrapG, guardB, getB, pickA, binA, binC, binD, cmpD, isCmp, unA, unD, lenA, AOp.total, kills, litB, FinQ, resOks, resOk, resA, resList, resOne, A.thaw, C.thaw, A.fits, As.fits, C.fits, evs, oks, callArgs, A.pure, C.pure, A.re, C.re, fieldAddrA, loadC, cut, A.cells, C.rows?, getOb, newOb, setOb, storeC, splice, Ob.re, Cs.fits, partsA, partsOk, parts2A, parts2Ok, fillC, fillRows, optInt, optOk, sliceA, clipC, optK_some, storeK_some, Option.map_some, toDs, C.toD, spliceD, appendA, capsOf, srcRows, allLen_nil_iff, allLen_cons_iff, allLen_append_iff, dropC, Obs.fits, eqCs, eqD]
def zcr : Unit → List D := fun _ => zc
theorem zcr_len (u : Unit) : (zcr u).length = 13 := rfl
theorem take_zcr (u : Unit) : List.take 13 (List.map C.d (zcr u)) = List.map C.d (zcr u) := rfl
theorem eqClientZ (u : Unit) (H : Heap) : ACalls Try.prog 58 [.agg ((zcr u).map .d), .agg ((zcr u).map .d)] H (fun r H' => H' = H ∧ r = .c (.d (.bool true))) := by
  have c1 := eqDecoder_calls ⟨[], false⟩ (by simp)
  have c2 := eqFrameS_many [] (by simp)
  simp only [Dec.row, bytesRows, List.map_cons, List.map_nil] at c1 c2
  refine acalls Try.func58 (by kernel_rfl) ac58_ok fun hf => ?_
  simp -implicitDefEqProofs [ac58, zcr, zc, hf, aw_skip, aw_region, aw_seq, aw_block, aw_cond, aw_exit, aw_ret, kq_nil, kq_seq, kq_seq_ret, kq_seq_exit, kq_block, kq_block_ret, kq_block_exit, kq_loop, kq_loop_ret, kq_loop_exit, awOps_nil, awOps_cons, awOps_guardE, nx_eq, awOp, ev_k, ev_0, ev_1, ev_2, ev_3, ev_4, ev_5, ev_6, ev_7, ev_8, set_0, set_1, set_2, set_3, set_4, set_5, set_6, set_7, set_8, -List.set_cons_succ, -List.set_cons_zero, A.ok, A.val, setSl, wrapG, guardB, getB, pickA, binA, binC, binD, cmpD, isCmp, unA, unD, lenA, AOp.total, kills, litB, FinQ, resOks, resOk, resA, resList, resOne, A.thaw, C.thaw, A.fits, As.fits, C.fits, evs, oks, callArgs, A.pure, C.pure, A.re, C.re, fieldAddrA, loadC, cut, A.cells, C.rows?, getOb, newOb, setOb, storeC, splice, Ob.re, Cs.fits, partsA, partsOk, parts2A, parts2Ok, fillC, fillRows, optInt, optOk, sliceA, clipC, optK_some, storeK_some, Option.map_some, toDs, C.toD, spliceD, appendA, capsOf, srcRows, allLen_nil_iff, allLen_cons_iff, allLen_append_iff, dropC, Obs.fits, eqCs, eqD]
  refine qcall_pure c1 hf rfl ?_
  simp -implicitDefEqProofs [hf, aw_skip, aw_region, aw_seq, aw_block, aw_cond, aw_exit, aw_ret, kq_nil, kq_seq, kq_seq_ret, kq_seq_exit, kq_block, kq_block_ret, kq_block_exit, kq_loop, kq_loop_ret, kq_loop_exit, awOps_nil, awOps_cons, awOps_guardE, nx_eq, awOp, ev_k, ev_0, ev_1, ev_2, ev_3, ev_4, ev_5, ev_6, ev_7, ev_8, set_0, set_1, set_2, set_3, set_4, set_5, set_6, set_7, set_8, -List.set_cons_succ, -List.set_cons_zero, A.ok, A.val, setSl, wrapG, guardB, getB, pickA, binA, binC, binD, cmpD, isCmp, unA, unD, lenA, AOp.total, kills, litB, FinQ, resOks, resOk, resA, resList, resOne, A.thaw, C.thaw, A.fits, As.fits, C.fits, evs, oks, callArgs, A.pure, C.pure, A.re, C.re, fieldAddrA, loadC, cut, A.cells, C.rows?, getOb, newOb, setOb, storeC, splice, Ob.re, Cs.fits, partsA, partsOk, parts2A, parts2Ok, fillC, fillRows, optInt, optOk, sliceA, clipC, optK_some, storeK_some, Option.map_some, toDs, C.toD, spliceD, appendA, capsOf, srcRows, allLen_nil_iff, allLen_cons_iff, allLen_append_iff, dropC, Obs.fits, eqCs, eqD]
  refine qcall_pure c2 hf rfl ?_
  simp -implicitDefEqProofs [hf, aw_skip, aw_region, aw_seq, aw_block, aw_cond, aw_exit, aw_ret, kq_nil, kq_seq, kq_seq_ret, kq_seq_exit, kq_block, kq_block_ret, kq_block_exit, kq_loop, kq_loop_ret, kq_loop_exit, awOps_nil, awOps_cons, awOps_guardE, nx_eq, awOp, ev_k, ev_0, ev_1, ev_2, ev_3, ev_4, ev_5, ev_6, ev_7, ev_8, set_0, set_1, set_2, set_3, set_4, set_5, set_6, set_7, set_8, -List.set_cons_succ, -List.set_cons_zero, A.ok, A.val, setSl, wrapG, guardB, getB, pickA, binA, binC, binD, cmpD, isCmp, unA, unD, lenA, AOp.total, kills, litB, FinQ, resOks, resOk, resA, resList, resOne, A.thaw, C.thaw, A.fits, As.fits, C.fits, evs, oks, callArgs, A.pure, C.pure, A.re, C.re, fieldAddrA, loadC, cut, A.cells, C.rows?, getOb, newOb, setOb, storeC, splice, Ob.re, Cs.fits, partsA, partsOk, parts2A, parts2Ok, fillC, fillRows, optInt, optOk, sliceA, clipC, optK_some, storeK_some, Option.map_some, toDs, C.toD, spliceD, appendA, capsOf, srcRows, allLen_nil_iff, allLen_cons_iff, allLen_append_iff, dropC, Obs.fits, eqCs, eqD]
  refine qcall_pure eqClauseZ hf rfl ?_
  simp -implicitDefEqProofs [hf, aw_skip, aw_region, aw_seq, aw_block, aw_cond, aw_exit, aw_ret, kq_nil, kq_seq, kq_seq_ret, kq_seq_exit, kq_block, kq_block_ret, kq_block_exit, kq_loop, kq_loop_ret, kq_loop_exit, awOps_nil, awOps_cons, awOps_guardE, nx_eq, awOp, ev_k, ev_0, ev_1, ev_2, ev_3, ev_4, ev_5, ev_6, ev_7, ev_8, set_0, set_1, set_2, set_3, set_4, set_5, set_6, set_7, set_8, -List.set_cons_succ, -List.set_cons_zero, A.ok, A.val, setSl, wrapG, guardB, getB, pickA, binA, binC, binD, cmpD, isCmp, unA, unD, lenA, AOp.total, kills, litB, FinQ, resOks, resOk, resA, resList, resOne, A.thaw, C.thaw, A.fits, As.fits, C.fits, evs, oks, callArgs, A.pure, C.pure, A.re, C.re, fieldAddrA, loadC, cut, A.cells, C.rows?, getOb, newOb, setOb, storeC, splice, Ob.re, Cs.fits, partsA, partsOk, parts2A, parts2Ok, fillC, fillRows, optInt, optOk, sliceA, clipC, optK_some, storeK_some, Option.map_some, toDs, C.toD, spliceD, appendA, capsOf, srcRows, allLen_nil_iff, allLen_cons_iff, allLen_append_iff, dropC, Obs.fits, eqCs, eqD]
  refine qcall_pure eqSessionZ hf rfl ?_
  simp -implicitDefEqProofs [hf, aw_skip, aw_region, aw_seq, aw_block, aw_cond, aw_exit, aw_ret, kq_nil, kq_seq, kq_seq_ret, kq_seq_exit, kq_block, kq_block_ret, kq_block_exit, kq_loop, kq_loop_ret, kq_loop_exit, awOps_nil, awOps_cons, awOps_guardE, nx_eq, awOp, ev_k, ev_0, ev_1, ev_2, ev_3, ev_4, ev_5, ev_6, ev_7, ev_8, set_0, set_1, set_2, set_3, set_4, set_5, set_6, set_7, set_8, -List.set_cons_succ, -List.set_cons_zero, A.ok, A.val, setSl, wrapG, guardB, getB, pickA, binA, binC, binD, cmpD, isCmp, unA, unD, lenA, AOp.total, kills, litB, FinQ, resOks, resOk, resA, resList, resOne, A.thaw, C.thaw, A.fits, As.fits, C.fits, evs, oks, callArgs, A.pure, C.pure, A.re, C.re, fieldAddrA, loadC, cut, A.cells, C.rows?, getOb, newOb, setOb, storeC, splice, Ob.re, Cs.fits, partsA, partsOk, parts2A, parts2Ok, fillC, fillRows, optInt, optOk, sliceA, clipC, optK_some, storeK_some, Option.map_some, toDs, C.toD, spliceD, appendA, capsOf, srcRows, allLen_nil_iff, allLen_cons_iff, allLen_append_iff, dropC, Obs.fits, eqCs, eqD]
  refine qcall_pure c2 hf rfl ?_
  simp -implicitDefEqProofs [hf, aw_skip, aw_region, aw_seq, aw_block, aw_cond, aw_exit, aw_ret, kq_nil, kq_seq, kq_seq_ret, kq_seq_exit, kq_block, kq_block_ret, kq_block_exit, kq_loop, kq_loop_ret, kq_loop_exit, awOps_nil, awOps_cons, awOps_guardE, nx_eq, awOp, ev_k, ev_0, ev_1, ev_2, ev_3, ev_4, ev_5, ev_6, ev_7, ev_8, set_0, set_1, set_2, set_3, set_4, set_5, set_6, set_7, set_8, -List.set_cons_succ, -List.set_cons_zero, A.ok, A.val, setSl, wrapG, guardB, getB, pickA, binA, binC, binD, cmpD, isCmp, unA, unD, lenA, AOp.total, kills, litB, FinQ, resOks, resOk, resA, resList, resOne, A.thaw, C.thaw, A.fits, As.fits, C.fits, evs, oks, callArgs, A.pure, C.pure, A.re, C.re, fieldAddrA, loadC, cut, A.cells, C.rows?, getOb, newOb, setOb, storeC, splice, Ob.re, Cs.fits, partsA, partsOk, parts2A, parts2Ok, fillC, fillRows, optInt, optOk, sliceA, clipC, optK_some, storeK_some, Option.map_some, toDs, C.toD, spliceD, appendA, capsOf, srcRows, allLen_nil_iff, allLen_cons_iff, allLen_append_iff, dropC, Obs.fits, eqCs, eqD]
theorem eqClientS_big (l : List Unit) (hl : l.length ≤ 4294967296) (h : ∀ t ∈ l, ∀ H, ACalls Try.prog 58 [.agg ((zcr t).map .d), .agg ((zcr t).map .d)] H (fun r H' => H' = H ∧ r = .c (.d (.bool true)))) (H : Heap) :
    ACalls Try.prog 52 [.c (.d (.sl (l.map zcr))), .c (.d (.sl (l.map zcr)))] H (fun r H' => H' = H ∧ r = .c (.d (.bool true))) := by
  refine acalls Try.func52 (by kernel_rfl) ac52_ok fun hf => ?_
  have hli : inR .i64 (l.length : Int) := small_i64 (by omega) (by omega)
  simp -implicitDefEqProofs [ac52, hli, aw_skip, aw_region, aw_seq, aw_block, aw_cond, aw_exit, aw_ret, kq_nil, kq_seq, kq_seq_ret, kq_seq_exit, kq_block, kq_block_ret, kq_block_exit, kq_loop, kq_loop_ret, kq_loop_exit, awOps_nil, awOps_cons, awOps_guardE, nx_eq, awOp, ev_k, ev_0, ev_1, ev_2, ev_3, ev_4, ev_5, ev_6, ev_7, ev_8, set_0, set_1, set_2, set_3, set_4, set_5, set_6, set_7, set_8, -List.set_cons_succ, -List.set_cons_zero, A.ok, A.val, setSl, wrapG, guardB, getB, pickA, binA, binC, binD, cmpD, isCmp, unA, unD, lenA, AOp.total, kills, litB, FinQ, resOks, resOk, resA, resList, resOne, A.thaw, C.thaw, A.fits, As.fits, C.fits, evs, oks, callArgs, A.pure, C.pure, A.re, C.re, fieldAddrA, loadC, cut, A.cells, C.rows?, getOb, newOb, setOb, storeC, splice, Ob.re, Cs.fits, partsA, partsOk, parts2A, parts2Ok, fillC, fillRows, optInt, optOk, sliceA, clipC, optK_some, storeK_some, Option.map_some, toDs, C.toD, spliceD, appendA, capsOf, srcRows, allLen_nil_iff, allLen_cons_iff, allLen_append_iff, dropC, Obs.fits, eqCs, eqD]
  refine loop_set (σ := Nat) (fun i => [(5, .c (.d (.int .i64 i)))]) (fun _ => H) (fun _ => []) (fun i => i ≤ l.length) (fun i => l.length - i) 0 rfl (Nat.zero_le _) ?_
  intro i hi
  simp -implicitDefEqProofs [setAll, hli, aw_skip, aw_region, aw_seq, aw_block, aw_cond, aw_exit, aw_ret, kq_nil, kq_seq, kq_seq_ret, kq_seq_exit, kq_block, kq_block_ret, kq_block_exit, kq_loop, kq_loop_ret, kq_loop_exit, awOps_nil, awOps_cons, awOps_guardE, nx_eq, awOp, ev_k, ev_0, ev_1, ev_2, ev_3, ev_4, ev_5, ev_6, ev_7, ev_8, set_0, set_1, set_2, set_3, set_4, set_5, set_6, set_7, set_8, -List.set_cons_succ, -List.set_cons_zero, A.ok, A.val, setSl, wrapG, guardB, getB, pickA, binA, binC, binD, cmpD, isCmp, unA, unD, lenA, AOp.total, kills, litB, FinQ, resOks, resOk, resA, resList, resOne, A.thaw, C.thaw, A.fits, As.fits, C.fits, evs, oks, callArgs, A.pure, C.pure, A.re, C.re, fieldAddrA, loadC, cut, A.cells, C.rows?, getOb, newOb, setOb, storeC, splice, Ob.re, Cs.fits, partsA, partsOk, parts2A, parts2Ok, fillC, fillRows, optInt, optOk, sliceA, clipC, optK_some, storeK_some, Option.map_some, toDs, C.toD, spliceD, appendA, capsOf, srcRows, allLen_nil_iff, allLen_cons_iff, allLen_append_iff, dropC, Obs.fits, eqCs, eqD]
  intro hlt
  have hadd : inR .i64 ((i : Int) + 1) := small_i64 (by omega) (by omega)
  refine row_of hlt (zcr_len _) ?_
  simp -implicitDefEqProofs [zcr_len, take_zcr, aw_skip, aw_region, aw_seq, aw_block, aw_cond, aw_exit, aw_ret, kq_nil, kq_seq, kq_seq_ret, kq_seq_exit, kq_block, kq_block_ret, kq_block_exit, kq_loop, kq_loop_ret, kq_loop_exit, awOps_nil, awOps_cons, awOps_guardE, nx_eq, awOp, ev_k, ev_0, ev_1, ev_2, ev_3, ev_4, ev_5, ev_6, ev_7, ev_8, set_0, set_1, set_2, set_3, set_4, set_5, set_6, set_7, set_8, -List.set_cons_succ, -List.set_cons_zero, A.ok, A.val, setSl, wrapG, guardB, getB, pickA, binA, binC, binD, cmpD, isCmp, unA, unD, lenA, AOp.total, kills, litB, FinQ, resOks, resOk, resA, resList, resOne, A.thaw, C.thaw, A.fits, As.fits, C.fits, evs, oks, callArgs, A.pure, C.pure, A.re, C.re, fieldAddrA, loadC, cut, A.cells, C.rows?, getOb, newOb, setOb, storeC, splice, Ob.re, Cs.fits, partsA, partsOk, parts2A, parts2Ok, fillC, fillRows, optInt, optOk, sliceA, clipC, optK_some, storeK_some, Option.map_some, toDs, C.toD, spliceD, appendA, capsOf, srcRows, allLen_nil_iff, allLen_cons_iff, allLen_append_iff, dropC, Obs.fits, eqCs, eqD]
  refine row_of hlt (zcr_len _) ?_
  simp -implicitDefEqProofs [zcr_len, take_zcr, pure_d, re_d, aw_skip, aw_region, aw_seq, aw_block, aw_cond, aw_exit, aw_ret, kq_nil, kq_seq, kq_seq_ret, kq_seq_exit, kq_block, kq_block_ret, kq_block_exit, kq_loop, kq_loop_ret, kq_loop_exit, awOps_nil, awOps_cons, awOps_guardE, nx_eq, awOp, ev_k, ev_0, ev_1, ev_2, ev_3, ev_4, ev_5, ev_6, ev_7, ev_8, set_0, set_1, set_2, set_3, set_4, set_5, set_6, set_7, set_8, -List.set_cons_succ, -List.set_cons_zero, A.ok, A.val, setSl, wrapG, guardB, getB, pickA, binA, binC, binD, cmpD, isCmp, unA, unD, lenA, AOp.total, kills, litB, FinQ, resOks, resOk, resA, resList, resOne, A.thaw, C.thaw, A.fits, As.fits, C.fits, evs, oks, callArgs, A.pure, C.pure, A.re, C.re, fieldAddrA, loadC, cut, A.cells, C.rows?, getOb, newOb, setOb, storeC, splice, Ob.re, Cs.fits, partsA, partsOk, parts2A, parts2Ok, fillC, fillRows, optInt, optOk, sliceA, clipC, optK_some, storeK_some, Option.map_some, toDs, C.toD, spliceD, appendA, capsOf, srcRows, allLen_nil_iff, allLen_cons_iff, allLen_append_iff, dropC, Obs.fits, eqCs, eqD]
  refine qcall_pure (h l[i] (List.getElem_mem hlt)) hf rfl ?_
  simp -implicitDefEqProofs [hadd, aw_skip, aw_region, aw_seq, aw_block, aw_cond, aw_exit, aw_ret, kq_nil, kq_seq, kq_seq_ret, kq_seq_exit, kq_block, kq_block_ret, kq_block_exit, kq_loop, kq_loop_ret, kq_loop_exit, awOps_nil, awOps_cons, awOps_guardE, nx_eq, awOp, ev_k, ev_0, ev_1, ev_2, ev_3, ev_4, ev_5, ev_6, ev_7, ev_8, set_0, set_1, set_2, set_3, set_4, set_5, set_6, set_7, set_8, -List.set_cons_succ, -List.set_cons_zero, A.ok, A.val, setSl, wrapG, guardB, getB, pickA, binA, binC, binD, cmpD, isCmp, unA, unD, lenA, AOp.total, kills, litB, FinQ, resOks, resOk, resA, resList, resOne, A.thaw, C.thaw, A.fits, As.fits, C.fits, evs, oks, callArgs, A.pure, C.pure, A.re, C.re, fieldAddrA, loadC, cut, A.cells, C.rows?, getOb, newOb, setOb, storeC, splice, Ob.re, Cs.fits, partsA, partsOk, parts2A, parts2Ok, fillC, fillRows, optInt, optOk, sliceA, clipC, optK_some, storeK_some, Option.map_some, toDs, C.toD, spliceD, appendA, capsOf, srcRows, allLen_nil_iff, allLen_cons_iff, allLen_append_iff, dropC, Obs.fits, eqCs, eqD]
  exact loop_back (i + 1) (by simp [setAll]) hlt (by show l.length - (i + 1) < l.length - i; omega)
theorem eqClientS_of (l : List Unit) (hl : l.length ≤ 1048576) (h : ∀ t ∈ l, ∀ H, ACalls Try.prog 58 [.agg ((zcr t).map .d), .agg ((zcr t).map .d)] H (fun r H' => H' = H ∧ r = .c (.d (.bool true)))) (H : Heap) :
    ACalls Try.prog 52 [.c (.d (.sl (l.map zcr))), .c (.d (.sl (l.map zcr)))] H (fun r H' => H' = H ∧ r = .c (.d (.bool true))) := eqClientS_big l (by omega) h H

theorem zc_rep (n : Nat) : List.replicate n zc = (List.replicate n ()).map zcr := by simp [zcr]
theorem eqServerZ (n : Nat) (hn : n ≤ 1000) (q : Int) (H : Heap) : ACalls Try.prog 34 [.agg (svr n q), .agg (svr n q)] H (fun r H' => H' = H ∧ r = .c (.d (.bool true))) := by
  have c1 := eqClientS_of (List.replicate n ()) (by simp; omega) (fun u _ => eqClientZ u)
  rw [← zc_rep] at c1
  refine acalls Try.func34 (by kernel_rfl) ac34_ok fun hf => ?_
  simp -implicitDefEqProofs [ac34, svr, hf, aw_skip, aw_region, aw_seq, aw_block, aw_cond, aw_exit, aw_ret, kq_nil, kq_seq, kq_seq_ret, kq_seq_exit, kq_block, kq_block_ret, kq_block_exit, kq_loop, kq_loop_ret, kq_loop_exit, awOps_nil, awOps_cons, awOps_guardE, nx_eq, awOp, ev_k, ev_0, ev_1, ev_2, ev_3, ev_4, ev_5, ev_6, ev_7, ev_8, set_0, set_1, set_2, set_3, set_4, set_5, set_6, set_7, set_8, -List.set_cons_succ, -List.set_cons_zero, A.ok, A.val, setSl, wrapG, guardB, getB, pickA, binA, binC, binD, cmpD, isCmp, unA, unD, lenA, AOp.total, kills, litB, FinQ, resOks, resOk, resA, resList, resOne, A.thaw, C.thaw, A.fits, As.fits, C.fits, evs, oks, callArgs, A.pure, C.pure, A.re, C.re, fieldAddrA, loadC, cut, A.cells, C.rows?, getOb, newOb, setOb, storeC, splice, Ob.re, Cs.fits, partsA, partsOk, parts2A, parts2Ok, fillC, fillRows, optInt, optOk, sliceA, clipC, optK_some, storeK_some, Option.map_some, toDs, C.toD, spliceD, appendA, capsOf, srcRows, allLen_nil_iff, allLen_cons_iff, allLen_append_iff, dropC, Obs.fits, eqCs, eqD]
  refine qcall_pure c1 hf rfl ?_
  simp -implicitDefEqProofs [hf, aw_skip, aw_region, aw_seq, aw_block, aw_cond, aw_exit, aw_ret, kq_nil, kq_seq, kq_seq_ret, kq_seq_exit, kq_block, kq_block_ret, kq_block_exit, kq_loop, kq_loop_ret, kq_loop_exit, awOps_nil, awOps_cons, awOps_guardE, nx_eq, awOp, ev_k, ev_0, ev_1, ev_2, ev_3, ev_4, ev_5, ev_6, ev_7, ev_8, set_0, set_1, set_2, set_3, set_4, set_5, set_6, set_7, set_8, -List.set_cons_succ, -List.set_cons_zero, A.ok, A.val, setSl, wrapG, guardB, getB, pickA, binA, binC, binD, cmpD, isCmp, unA, unD, lenA, AOp.total, kills, litB, FinQ, resOks, resOk, resA, resList, resOne, A.thaw, C.thaw, A.fits, As.fits, C.fits, evs, oks, callArgs, A.pure, C.pure, A.re, C.re, fieldAddrA, loadC, cut, A.cells, C.rows?, getOb, newOb, setOb, storeC, splice, Ob.re, Cs.fits, partsA, partsOk, parts2A, parts2Ok, fillC, fillRows, optInt, optOk, sliceA, clipC, optK_some, storeK_some, Option.map_some, toDs, C.toD, spliceD, appendA, capsOf, srcRows, allLen_nil_iff, allLen_cons_iff, allLen_append_iff, dropC, Obs.fits, eqCs, eqD]
/-- a client that bears marks -/
def mCli (k : Int) (i : Nat) : List D := [.sl [], .bool ((k + 7 * i).tmod 3 == 0), .sl [], .sl [], .bool ((k + 7 * i + 1).tmod 3 == 0), .sl [], .sl [], .int .i64 (k + 7 * i + 1 + 1), .int .i64 (k + 7 * i + 1 + 1 + 1), .int .i64 (k + 7 * i + 1 + 1 + 1 + 1), .int .i64 (k + 7 * i + 1 + 1 + 1 + 1 + 1), .bool ((k + 7 * i + 1 + 1 + 1 + 1 + 1 + 1).tmod 3 == 0), .sl []]
def mClis (k : Int) (n : Nat) : List (List D) := (List.range n).map (mCli k)
theorem mClis_len (k : Int) (n : Nat) : (mClis k n).length = n := by simp [mClis]
theorem leaf_zc (n : Nat) : ∀ x ∈ (List.replicate n zc).flatten, x.leaf = true := by
  intro x hx
  simp only [List.mem_flatten, List.mem_replicate] at hx
  obtain ⟨r, ⟨_, rfl⟩, hx⟩ := hx
  have : zc.all D.leaf = true := rfl
  exact List.all_eq_true.1 this x hx
theorem leaf_mClis (k : Int) (n : Nat) : ∀ x ∈ (mClis k n).flatten, x.leaf = true := by
  intro x hx
  simp only [mClis, List.mem_flatten, List.mem_map] at hx
  obtain ⟨r, ⟨j, _, rfl⟩, hx⟩ := hx
  have : (mCli k j).all D.leaf = true := rfl
  exact List.all_eq_true.1 this x hx
theorem markClientZ (k : Int) (hk : inR .i64 k) (H : Heap) : ACalls Try.prog 53 [.c (.d (.sl [])), .c (.d (.int .i64 k))] H (fun r H' => H' = H ∧ r = .c (.d (.int .i64 k))) := by
  have hz0 : inR .i64 0 := small_i64 (by omega) (by omega)
  refine acalls Try.func53 (by kernel_rfl) ac53_ok fun hf => ?_
  simp -implicitDefEqProofs [ac53, hz0, aw_skip, aw_region, aw_seq, aw_block, aw_cond, aw_exit, aw_ret, kq_nil, kq_seq, kq_seq_ret, kq_seq_exit, kq_block, kq_block_ret, kq_block_exit, kq_loop, kq_loop_ret, kq_loop_exit, awOps_nil, awOps_cons, awOps_guardE, nx_eq, awOp, ev_k, ev_0, ev_1, ev_2, ev_3, ev_4, ev_5, ev_6, ev_7, ev_8, set_0, set_1, set_2, set_3, set_4, set_5, set_6, set_7, set_8, -List.set_cons_succ, -List.set_cons_zero, A.ok, A.val, setSl, wrapG, guardB, getB, pickA, binA, binC, binD, cmpD, isCmp, unA, unD, lenA, AOp.total, kills, litB, FinQ, resOks, resOk, resA, resList, resOne, A.thaw, C.thaw, A.fits, As.fits, C.fits, evs, oks, callArgs, A.pure, C.pure, A.re, C.re, fieldAddrA, loadC, cut, A.cells, C.rows?, getOb, newOb, setOb, storeC, splice, Ob.re, Cs.fits, partsA, partsOk, parts2A, parts2Ok, fillC, fillRows, optInt, optOk, sliceA, clipC, optK_some, storeK_some, Option.map_some, toDs, C.toD, spliceD, appendA, capsOf, srcRows, allLen_nil_iff, allLen_cons_iff, allLen_append_iff, dropC, Obs.fits, eqCs, eqD]
  refine loop_set (σ := Unit) (fun _ => [(5, .c (.d (.int .i64 0)))]) (fun _ => H) (fun _ => []) (fun _ => True) (fun _ => 0) () rfl trivial ?_
  intro _ _
  simp -implicitDefEqProofs [setAll, hz0, aw_skip, aw_region, aw_seq, aw_block, aw_cond, aw_exit, aw_ret, kq_nil, kq_seq, kq_seq_ret, kq_seq_exit, kq_block, kq_block_ret, kq_block_exit, kq_loop, kq_loop_ret, kq_loop_exit, awOps_nil, awOps_cons, awOps_guardE, nx_eq, awOp, ev_k, ev_0, ev_1, ev_2, ev_3, ev_4, ev_5, ev_6, ev_7, ev_8, set_0, set_1, set_2, set_3, set_4, set_5, set_6, set_7, set_8, -List.set_cons_succ, -List.set_cons_zero, A.ok, A.val, setSl, wrapG, guardB, getB, pickA, binA, binC, binD, cmpD, isCmp, unA, unD, lenA, AOp.total, kills, litB, FinQ, resOks, resOk, resA, resList, resOne, A.thaw, C.thaw, A.fits, As.fits, C.fits, evs, oks, callArgs, A.pure, C.pure, A.re, C.re, fieldAddrA, loadC, cut, A.cells, C.rows?, getOb, newOb, setOb, storeC, splice, Ob.re, Cs.fits, partsA, partsOk, parts2A, parts2Ok, fillC, fillRows, optInt, optOk, sliceA, clipC, optK_some, storeK_some, Option.map_some, toDs, C.toD, spliceD, appendA, capsOf, srcRows, allLen_nil_iff, allLen_cons_iff, allLen_append_iff, dropC, Obs.fits, eqCs, eqD]

theorem markClientS_calls (n : Nat) (hn : n ≤ 1000) (k : Int) (h0 : 0 ≤ k) (h1 : k ≤ 1000000) (kv : Value) : ACalls Try.prog 53 [.c (.d (.v kv)), .c (.d (.int .i64 k))] [.tree kv (List.replicate n zc)]
    (fun r H' => H' = [.tree kv (mClis k n)] ∧ r = .c (.d (.int .i64 (k + 7 * n)))) := by
  rcases Decidable.em (n = 0) with rfl | hne
  · have hk0 : inR .i64 k := small_i64 (by omega) (by omega)
    refine (acalls_tree (f := 53) (pre := []) (post := [.c (.d (.int .i64 k))]) (rows := []) (Q := fun r rows' => r = .c (.d (.int .i64 k)) ∧ rows' = []) 13 (by simp) rfl rfl (fun _ => (markClientZ k hk0 []).mono fun r H' ⟨h1, h2⟩ => ⟨h1, by rw [h2]; rfl, h2, rfl⟩) (fun h => absurd rfl h) kv).mono fun r H' ⟨rows', h1, _, h2, h3⟩ => ⟨by rw [h1, h3]; rfl, by rw [h2]; simp⟩
  · obtain ⟨rs, hrs⟩ : ∃ rs, rs = List.replicate n zc := ⟨_, rfl⟩
    have hlz : rs.length = n := by simp [hrs]
    have hnil : rs ≠ [] := by rw [hrs]; simpa using hne
    have hleaf : ∀ x ∈ rs.flatten, x.leaf = true := by rw [hrs]; exact leaf_zc n
    have h13 : ∀ r ∈ rs, r.length = 13 := by rw [hrs]; exact fun r hr => by obtain ⟨_, rfl⟩ := List.mem_replicate.1 hr; rfl
    have hri : ∀ i (h : i < rs.length), rs[i] = [.sl [], .bool false, .sl [], .sl [], .bool false, .sl [], .sl [], .int .i64 0, .int .i64 0, .int .i64 0, .int .i64 0, .bool false, .sl []] := fun i h => by subst hrs; simp [zc]
    rw [← hrs]
    clear hrs
    refine (acalls_leafs (f := 53) (pre := []) (post := [.c (.d (.int .i64 k))]) (rows := rs) (Q := fun r rows' => r = .c (.d (.int .i64 (k + 7 * n))) ∧ rows' = mClis k n) 13 h13 hleaf rfl rfl hnil ?_ kv).mono fun r H' ⟨rows', h1, _, h2, h3⟩ => ⟨by rw [h1, h3], h2⟩
    refine acalls Try.func53 (by kernel_rfl) ac53_ok fun hf => ?_
    have hl : inR .i64 (n : Int) := small_i64 (by omega) (by omega)
    simp -implicitDefEqProofs [ac53, hl, hlz, -List.mem_flatten, aw_skip, aw_region, aw_seq, aw_block, aw_cond, aw_exit, aw_ret, kq_nil, kq_seq, kq_seq_ret, kq_seq_exit, kq_block, kq_block_ret, kq_block_exit, kq_loop, kq_loop_ret, kq_loop_exit, awOps_nil, awOps_cons, awOps_guardE, nx_eq, awOp, ev_k, ev_0, ev_1, ev_2, ev_3, ev_4, ev_5, ev_6, ev_7, ev_8, set_0, set_1, set_2, set_3, set_4, set_5, set_6, set_7, set_8, -List.set_cons_succ, -List.set_cons_zero, A.ok, A.val, setSl, wrapG, guardB, getB, pickA, binA, binC, binD, cmpD, isCmp, unA, unD, lenA, AOp.total, kills, litB, FinQ, resOks, resOk, resA, resList, resOne, A.thaw, C.thaw, A.fits, As.fits, C.fits, evs, oks, callArgs, A.pure, C.pure, A.re, C.re, fieldAddrA, loadC, cut, A.cells, C.rows?, getOb, newOb, setOb, storeC, splice, Ob.re, Cs.fits, partsA, partsOk, parts2A, parts2Ok, fillC, fillRows, optInt, optOk, sliceA, clipC, optK_some, storeK_some, Option.map_some, toDs, C.toD, spliceD, appendA, capsOf, srcRows, allLen_nil_iff, allLen_cons_iff, allLen_append_iff, dropC, Obs.fits, eqCs, eqD]
    refine loop_set (σ := Nat) (fun i => [(5, .c (.d (.int .i64 i))), (1, .c (.d (.int .i64 (k + 7 * i))))]) (fun i => [.rows (mixed (mCli k) rs i)]) (fun _ => []) (fun i => i ≤ n) (fun i => n - i) 0 (by simp [setAll, mixed_zero]) (Nat.zero_le _) ?_
    intro i hi
    simp -implicitDefEqProofs [setAll, hl, hlz, -List.mem_flatten, aw_skip, aw_region, aw_seq, aw_block, aw_cond, aw_exit, aw_ret, kq_nil, kq_seq, kq_seq_ret, kq_seq_exit, kq_block, kq_block_ret, kq_block_exit, kq_loop, kq_loop_ret, kq_loop_exit, awOps_nil, awOps_cons, awOps_guardE, nx_eq, awOp, ev_k, ev_0, ev_1, ev_2, ev_3, ev_4, ev_5, ev_6, ev_7, ev_8, set_0, set_1, set_2, set_3, set_4, set_5, set_6, set_7, set_8, -List.set_cons_succ, -List.set_cons_zero, A.ok, A.val, setSl, wrapG, guardB, getB, pickA, binA, binC, binD, cmpD, isCmp, unA, unD, lenA, AOp.total, kills, litB, FinQ, resOks, resOk, resA, resList, resOne, A.thaw, C.thaw, A.fits, As.fits, C.fits, evs, oks, callArgs, A.pure, C.pure, A.re, C.re, fieldAddrA, loadC, cut, A.cells, C.rows?, getOb, newOb, setOb, storeC, splice, Ob.re, Cs.fits, partsA, partsOk, parts2A, parts2Ok, fillC, fillRows, optInt, optOk, sliceA, clipC, optK_some, storeK_some, Option.map_some, toDs, C.toD, spliceD, appendA, capsOf, srcRows, allLen_nil_iff, allLen_cons_iff, allLen_append_iff, dropC, Obs.fits, eqCs, eqD]
    refine ⟨fun hlt => ?_, fun hge => ?_⟩
    · have hlt' : i < rs.length := by omega
      have hget : (mixed (mCli k) rs i)[i]? = some [.sl [], .bool false, .sl [], .sl [], .bool false, .sl [], .sl [], .int .i64 0, .int .i64 0, .int .i64 0, .int .i64 0, .bool false, .sl []] := by rw [mixed_get _ _ hlt', hri]
      have hlm : i < (mixed (mCli k) rs i).length := by rw [mixed_len _ _ (by omega)]; exact hlt'
      have hgs : ∀ r, ((mixed (mCli k) rs i).set i r)[i]? = some r := fun r => List.getElem?_set_self hlm
      have hadd : inR .i64 ((i : Int) + 1) := small_i64 (by omega) (by omega)
      have i0 : inR .i64 (k + 7 * (i : Int)) := small_i64 (by omega) (by omega)
      have i1 : inR .i64 (k + 7 * (i : Int) + 1) := small_i64 (by omega) (by omega)
      have i2 : inR .i64 (k + 7 * (i : Int) + 1 + 1) := small_i64 (by omega) (by omega)
      have i3 : inR .i64 (k + 7 * (i : Int) + 1 + 1 + 1) := small_i64 (by omega) (by omega)
      have i4 : inR .i64 (k + 7 * (i : Int) + 1 + 1 + 1 + 1) := small_i64 (by omega) (by omega)
      have i5 : inR .i64 (k + 7 * (i : Int) + 1 + 1 + 1 + 1 + 1) := small_i64 (by omega) (by omega)
      have i6 : inR .i64 (k + 7 * (i : Int) + 1 + 1 + 1 + 1 + 1 + 1) := small_i64 (by omega) (by omega)
      have i7 : inR .i64 (k + 7 * (i : Int) + 1 + 1 + 1 + 1 + 1 + 1 + 1) := small_i64 (by omega) (by omega)
      have hset := mixed_set (mCli k) rs hlt'
      rw [mCli] at hset
      obtain ⟨kk, hkk⟩ : ∃ kk : Int, kk = k + 7 * (i : Int) := ⟨_, rfl⟩
      rw [← hkk] at i0 i1 i2 i3 i4 i5 i6 i7 hset
      rw [← hkk]
      have t0 : inR .i64 (kk.tmod 3) := by rw [Int.tmod_eq_emod_of_nonneg (by omega)]; exact small_i64 (by omega) (by omega)
      have t1 : inR .i64 ((kk + 1).tmod 3) := by rw [Int.tmod_eq_emod_of_nonneg (by omega)]; exact small_i64 (by omega) (by omega)
      have t2 : inR .i64 ((kk + 1 + 1 + 1 + 1 + 1 + 1).tmod 3) := by rw [Int.tmod_eq_emod_of_nonneg (by omega)]; exact small_i64 (by omega) (by omega)
      refine ⟨hlt, ?_⟩
      simp -implicitDefEqProofs [hget, hgs, hadd, hlt, i0, i1, i2, i3, i4, i5, i6, i7, t0, t1, t2, aw_skip, aw_region, aw_seq, aw_block, aw_cond, aw_exit, aw_ret, kq_nil, kq_seq, kq_seq_ret, kq_seq_exit, kq_block, kq_block_ret, kq_block_exit, kq_loop, kq_loop_ret, kq_loop_exit, awOps_nil, awOps_cons, awOps_guardE, nx_eq, awOp, ev_k, ev_0, ev_1, ev_2, ev_3, ev_4, ev_5, ev_6, ev_7, ev_8, set_0, set_1, set_2, set_3, set_4, set_5, set_6, set_7, set_8, -List.set_cons_succ, -List.set_cons_zero, A.ok, A.val, setSl, wrapG, guardB, getB, pickA, binA, binC, binD, cmpD, isCmp, unA, unD, lenA, AOp.total, kills, litB, FinQ, resOks, resOk, resA, resList, resOne, A.thaw, C.thaw, A.fits, As.fits, C.fits, evs, oks, callArgs, A.pure, C.pure, A.re, C.re, fieldAddrA, loadC, cut, A.cells, C.rows?, getOb, newOb, setOb, storeC, splice, Ob.re, Cs.fits, partsA, partsOk, parts2A, parts2Ok, fillC, fillRows, optInt, optOk, sliceA, clipC, optK_some, storeK_some, Option.map_some, toDs, C.toD, spliceD, appendA, capsOf, srcRows, allLen_nil_iff, allLen_cons_iff, allLen_append_iff, dropC, Obs.fits, eqCs, eqD]
      refine qcall_pure (markByteZ _ i0) ⟨trivial, trivial⟩ rfl ?_
      simp -implicitDefEqProofs [hget, hgs, hadd, hlt, i0, i1, i2, i3, i4, i5, i6, i7, t0, t1, t2, aw_skip, aw_region, aw_seq, aw_block, aw_cond, aw_exit, aw_ret, kq_nil, kq_seq, kq_seq_ret, kq_seq_exit, kq_block, kq_block_ret, kq_block_exit, kq_loop, kq_loop_ret, kq_loop_exit, awOps_nil, awOps_cons, awOps_guardE, nx_eq, awOp, ev_k, ev_0, ev_1, ev_2, ev_3, ev_4, ev_5, ev_6, ev_7, ev_8, set_0, set_1, set_2, set_3, set_4, set_5, set_6, set_7, set_8, -List.set_cons_succ, -List.set_cons_zero, A.ok, A.val, setSl, wrapG, guardB, getB, pickA, binA, binC, binD, cmpD, isCmp, unA, unD, lenA, AOp.total, kills, litB, FinQ, resOks, resOk, resA, resList, resOne, A.thaw, C.thaw, A.fits, As.fits, C.fits, evs, oks, callArgs, A.pure, C.pure, A.re, C.re, fieldAddrA, loadC, cut, A.cells, C.rows?, getOb, newOb, setOb, storeC, splice, Ob.re, Cs.fits, partsA, partsOk, parts2A, parts2Ok, fillC, fillRows, optInt, optOk, sliceA, clipC, optK_some, storeK_some, Option.map_some, toDs, C.toD, spliceD, appendA, capsOf, srcRows, allLen_nil_iff, allLen_cons_iff, allLen_append_iff, dropC, Obs.fits, eqCs, eqD]
      refine ⟨trivial, qcall_pure (markFrameZ _ i1) ⟨trivial, trivial⟩ rfl ?_⟩
      simp -implicitDefEqProofs [hget, hgs, hadd, hlt, i0, i1, i2, i3, i4, i5, i6, i7, t0, t1, t2, aw_skip, aw_region, aw_seq, aw_block, aw_cond, aw_exit, aw_ret, kq_nil, kq_seq, kq_seq_ret, kq_seq_exit, kq_block, kq_block_ret, kq_block_exit, kq_loop, kq_loop_ret, kq_loop_exit, awOps_nil, awOps_cons, awOps_guardE, nx_eq, awOp, ev_k, ev_0, ev_1, ev_2, ev_3, ev_4, ev_5, ev_6, ev_7, ev_8, set_0, set_1, set_2, set_3, set_4, set_5, set_6, set_7, set_8, -List.set_cons_succ, -List.set_cons_zero, A.ok, A.val, setSl, wrapG, guardB, getB, pickA, binA, binC, binD, cmpD, isCmp, unA, unD, lenA, AOp.total, kills, litB, FinQ, resOks, resOk, resA, resList, resOne, A.thaw, C.thaw, A.fits, As.fits, C.fits, evs, oks, callArgs, A.pure, C.pure, A.re, C.re, fieldAddrA, loadC, cut, A.cells, C.rows?, getOb, newOb, setOb, storeC, splice, Ob.re, Cs.fits, partsA, partsOk, parts2A, parts2Ok, fillC, fillRows, optInt, optOk, sliceA, clipC, optK_some, storeK_some, Option.map_some, toDs, C.toD, spliceD, appendA, capsOf, srcRows, allLen_nil_iff, allLen_cons_iff, allLen_append_iff, dropC, Obs.fits, eqCs, eqD]
      refine qcall_pure (markClauseZ _ i1) ⟨trivial, trivial⟩ rfl ?_
      simp -implicitDefEqProofs [hget, hgs, hadd, hlt, i0, i1, i2, i3, i4, i5, i6, i7, t0, t1, t2, aw_skip, aw_region, aw_seq, aw_block, aw_cond, aw_exit, aw_ret, kq_nil, kq_seq, kq_seq_ret, kq_seq_exit, kq_block, kq_block_ret, kq_block_exit, kq_loop, kq_loop_ret, kq_loop_exit, awOps_nil, awOps_cons, awOps_guardE, nx_eq, awOp, ev_k, ev_0, ev_1, ev_2, ev_3, ev_4, ev_5, ev_6, ev_7, ev_8, set_0, set_1, set_2, set_3, set_4, set_5, set_6, set_7, set_8, -List.set_cons_succ, -List.set_cons_zero, A.ok, A.val, setSl, wrapG, guardB, getB, pickA, binA, binC, binD, cmpD, isCmp, unA, unD, lenA, AOp.total, kills, litB, FinQ, resOks, resOk, resA, resList, resOne, A.thaw, C.thaw, A.fits, As.fits, C.fits, evs, oks, callArgs, A.pure, C.pure, A.re, C.re, fieldAddrA, loadC, cut, A.cells, C.rows?, getOb, newOb, setOb, storeC, splice, Ob.re, Cs.fits, partsA, partsOk, parts2A, parts2Ok, fillC, fillRows, optInt, optOk, sliceA, clipC, optK_some, storeK_some, Option.map_some, toDs, C.toD, spliceD, appendA, capsOf, srcRows, allLen_nil_iff, allLen_cons_iff, allLen_append_iff, dropC, Obs.fits, eqCs, eqD]
      refine ⟨trivial, qcall_pure (markClauseZ _ i2) ⟨trivial, trivial⟩ rfl ?_⟩
      simp -implicitDefEqProofs [hget, hgs, hadd, hlt, i0, i1, i2, i3, i4, i5, i6, i7, t0, t1, t2, aw_skip, aw_region, aw_seq, aw_block, aw_cond, aw_exit, aw_ret, kq_nil, kq_seq, kq_seq_ret, kq_seq_exit, kq_block, kq_block_ret, kq_block_exit, kq_loop, kq_loop_ret, kq_loop_exit, awOps_nil, awOps_cons, awOps_guardE, nx_eq, awOp, ev_k, ev_0, ev_1, ev_2, ev_3, ev_4, ev_5, ev_6, ev_7, ev_8, set_0, set_1, set_2, set_3, set_4, set_5, set_6, set_7, set_8, -List.set_cons_succ, -List.set_cons_zero, A.ok, A.val, setSl, wrapG, guardB, getB, pickA, binA, binC, binD, cmpD, isCmp, unA, unD, lenA, AOp.total, kills, litB, FinQ, resOks, resOk, resA, resList, resOne, A.thaw, C.thaw, A.fits, As.fits, C.fits, evs, oks, callArgs, A.pure, C.pure, A.re, C.re, fieldAddrA, loadC, cut, A.cells, C.rows?, getOb, newOb, setOb, storeC, splice, Ob.re, Cs.fits, partsA, partsOk, parts2A, parts2Ok, fillC, fillRows, optInt, optOk, sliceA, clipC, optK_some, storeK_some, Option.map_some, toDs, C.toD, spliceD, appendA, capsOf, srcRows, allLen_nil_iff, allLen_cons_iff, allLen_append_iff, dropC, Obs.fits, eqCs, eqD]
      refine qcall_pure (markTermZ _ i2) ⟨trivial, trivial⟩ rfl ?_
      simp -implicitDefEqProofs [hget, hgs, hadd, hlt, i0, i1, i2, i3, i4, i5, i6, i7, t0, t1, t2, aw_skip, aw_region, aw_seq, aw_block, aw_cond, aw_exit, aw_ret, kq_nil, kq_seq, kq_seq_ret, kq_seq_exit, kq_block, kq_block_ret, kq_block_exit, kq_loop, kq_loop_ret, kq_loop_exit, awOps_nil, awOps_cons, awOps_guardE, nx_eq, awOp, ev_k, ev_0, ev_1, ev_2, ev_3, ev_4, ev_5, ev_6, ev_7, ev_8, set_0, set_1, set_2, set_3, set_4, set_5, set_6, set_7, set_8, -List.set_cons_succ, -List.set_cons_zero, A.ok, A.val, setSl, wrapG, guardB, getB, pickA, binA, binC, binD, cmpD, isCmp, unA, unD, lenA, AOp.total, kills, litB, FinQ, resOks, resOk, resA, resList, resOne, A.thaw, C.thaw, A.fits, As.fits, C.fits, evs, oks, callArgs, A.pure, C.pure, A.re, C.re, fieldAddrA, loadC, cut, A.cells, C.rows?, getOb, newOb, setOb, storeC, splice, Ob.re, Cs.fits, partsA, partsOk, parts2A, parts2Ok, fillC, fillRows, optInt, optOk, sliceA, clipC, optK_some, storeK_some, Option.map_some, toDs, C.toD, spliceD, appendA, capsOf, srcRows, allLen_nil_iff, allLen_cons_iff, allLen_append_iff, dropC, Obs.fits, eqCs, eqD]
      refine ⟨trivial, trivial, trivial, trivial, trivial, qcall_pure (markFrameZ _ i7) ⟨trivial, trivial⟩ rfl ?_⟩
      simp -implicitDefEqProofs [hget, hgs, hadd, hlt, i0, i1, i2, i3, i4, i5, i6, i7, t0, t1, t2, aw_skip, aw_region, aw_seq, aw_block, aw_cond, aw_exit, aw_ret, kq_nil, kq_seq, kq_seq_ret, kq_seq_exit, kq_block, kq_block_ret, kq_block_exit, kq_loop, kq_loop_ret, kq_loop_exit, awOps_nil, awOps_cons, awOps_guardE, nx_eq, awOp, ev_k, ev_0, ev_1, ev_2, ev_3, ev_4, ev_5, ev_6, ev_7, ev_8, set_0, set_1, set_2, set_3, set_4, set_5, set_6, set_7, set_8, -List.set_cons_succ, -List.set_cons_zero, A.ok, A.val, setSl, wrapG, guardB, getB, pickA, binA, binC, binD, cmpD, isCmp, unA, unD, lenA, AOp.total, kills, litB, FinQ, resOks, resOk, resA, resList, resOne, A.thaw, C.thaw, A.fits, As.fits, C.fits, evs, oks, callArgs, A.pure, C.pure, A.re, C.re, fieldAddrA, loadC, cut, A.cells, C.rows?, getOb, newOb, setOb, storeC, splice, Ob.re, Cs.fits, partsA, partsOk, parts2A, parts2Ok, fillC, fillRows, optInt, optOk, sliceA, clipC, optK_some, storeK_some, Option.map_some, toDs, C.toD, spliceD, appendA, capsOf, srcRows, allLen_nil_iff, allLen_cons_iff, allLen_append_iff, dropC, Obs.fits, eqCs, eqD]
      refine loop_back (i + 1) ?_ hlt (by show n - (i + 1) < n - i; omega)
      simp [setAll, ← hset, hkk]
      omega
    · obtain rfl : i = n := by omega
      refine ⟨mClis k i, leaf_mClis _ _, mClis_len _ _, ?_, ?_, rfl, rfl, rfl⟩
      · intro r hr
        obtain ⟨b, _, rfl⟩ := List.mem_map.1 hr
        rfl
      · have := mixed_all (mCli k) rs
        rw [hlz] at this
        exact this
theorem heldClientS_calls (n : Nat) (hn : n ≤ 1000) (k : Int) (h0 : 0 ≤ k) (h1 : k ≤ 1000000) (H : Heap) : ACalls Try.prog 54 [.c (.d (.sl (mClis k n))), .c (.d (.int .i64 k))] H
    (fun r H' => H' = H ∧ r = .c (.d (.int .i64 (k + 7 * n)))) := by
  refine acalls Try.func54 (by kernel_rfl) ac54_ok fun hf => ?_
  have hl : inR .i64 (n : Int) := small_i64 (by omega) (by omega)
  simp -implicitDefEqProofs [ac54, hl, mClis_len, aw_skip, aw_region, aw_seq, aw_block, aw_cond, aw_exit, aw_ret, kq_nil, kq_seq, kq_seq_ret, kq_seq_exit, kq_block, kq_block_ret, kq_block_exit, kq_loop, kq_loop_ret, kq_loop_exit, awOps_nil, awOps_cons, awOps_guardE, nx_eq, awOp, ev_k, ev_0, ev_1, ev_2, ev_3, ev_4, ev_5, ev_6, ev_7, ev_8, set_0, set_1, set_2, set_3, set_4, set_5, set_6, set_7, set_8, -List.set_cons_succ, -List.set_cons_zero, A.ok, A.val, setSl, wrapG, guardB, getB, pickA, binA, binC, binD, cmpD, isCmp, unA, unD, lenA, AOp.total, kills, litB, FinQ, resOks, resOk, resA, resList, resOne, A.thaw, C.thaw, A.fits, As.fits, C.fits, evs, oks, callArgs, A.pure, C.pure, A.re, C.re, fieldAddrA, loadC, cut, A.cells, C.rows?, getOb, newOb, setOb, storeC, splice, Ob.re, Cs.fits, partsA, partsOk, parts2A, parts2Ok, fillC, fillRows, optInt, optOk, sliceA, clipC, optK_some, storeK_some, Option.map_some, toDs, C.toD, spliceD, appendA, capsOf, srcRows, allLen_nil_iff, allLen_cons_iff, allLen_append_iff, dropC, Obs.fits, eqCs, eqD]
  refine loop_set (σ := Nat) (fun i => [(5, .c (.d (.int .i64 i))), (1, .c (.d (.int .i64 (k + 7 * i))))]) (fun i => H) (fun _ => []) (fun i => i ≤ n) (fun i => n - i) 0 (by simp [setAll]) (Nat.zero_le _) ?_
  intro i hi
  simp -implicitDefEqProofs [setAll, hl, mClis_len, aw_skip, aw_region, aw_seq, aw_block, aw_cond, aw_exit, aw_ret, kq_nil, kq_seq, kq_seq_ret, kq_seq_exit, kq_block, kq_block_ret, kq_block_exit, kq_loop, kq_loop_ret, kq_loop_exit, awOps_nil, awOps_cons, awOps_guardE, nx_eq, awOp, ev_k, ev_0, ev_1, ev_2, ev_3, ev_4, ev_5, ev_6, ev_7, ev_8, set_0, set_1, set_2, set_3, set_4, set_5, set_6, set_7, set_8, -List.set_cons_succ, -List.set_cons_zero, A.ok, A.val, setSl, wrapG, guardB, getB, pickA, binA, binC, binD, cmpD, isCmp, unA, unD, lenA, AOp.total, kills, litB, FinQ, resOks, resOk, resA, resList, resOne, A.thaw, C.thaw, A.fits, As.fits, C.fits, evs, oks, callArgs, A.pure, C.pure, A.re, C.re, fieldAddrA, loadC, cut, A.cells, C.rows?, getOb, newOb, setOb, storeC, splice, Ob.re, Cs.fits, partsA, partsOk, parts2A, parts2Ok, fillC, fillRows, optInt, optOk, sliceA, clipC, optK_some, storeK_some, Option.map_some, toDs, C.toD, spliceD, appendA, capsOf, srcRows, allLen_nil_iff, allLen_cons_iff, allLen_append_iff, dropC, Obs.fits, eqCs, eqD]
  refine ⟨fun hlt => ?_, fun hge => ?_⟩
  · have hadd : inR .i64 ((i : Int) + 1) := small_i64 (by omega) (by omega)
    have i0 : inR .i64 (k + 7 * (i : Int)) := small_i64 (by omega) (by omega)
    have i1 : inR .i64 (k + 7 * (i : Int) + 1) := small_i64 (by omega) (by omega)
    have i2 : inR .i64 (k + 7 * (i : Int) + 1 + 1) := small_i64 (by omega) (by omega)
    have i3 : inR .i64 (k + 7 * (i : Int) + 1 + 1 + 1) := small_i64 (by omega) (by omega)
    have i4 : inR .i64 (k + 7 * (i : Int) + 1 + 1 + 1 + 1) := small_i64 (by omega) (by omega)
    have i5 : inR .i64 (k + 7 * (i : Int) + 1 + 1 + 1 + 1 + 1) := small_i64 (by omega) (by omega)
    have i6 : inR .i64 (k + 7 * (i : Int) + 1 + 1 + 1 + 1 + 1 + 1) := small_i64 (by omega) (by omega)
    have i7 : inR .i64 (k + 7 * (i : Int) + 1 + 1 + 1 + 1 + 1 + 1 + 1) := small_i64 (by omega) (by omega)
    have hrow : (mClis k n)[i]? = some (mCli k i) := range_row hlt
    rw [mCli] at hrow
    have hn1 : k + 7 * ((i : Int) + 1) = k + 7 * (i : Int) + 1 + 1 + 1 + 1 + 1 + 1 + 1 := by omega
    obtain ⟨kk, hkk⟩ : ∃ kk : Int, kk = k + 7 * (i : Int) := ⟨_, rfl⟩
    rw [← hkk] at i0 i1 i2 i3 i4 i5 i6 i7 hrow hn1
    rw [← hkk]
    have t0 : inR .i64 (kk.tmod 3) := by rw [Int.tmod_eq_emod_of_nonneg (by omega)]; exact small_i64 (by omega) (by omega)
    have t1 : inR .i64 ((kk + 1).tmod 3) := by rw [Int.tmod_eq_emod_of_nonneg (by omega)]; exact small_i64 (by omega) (by omega)
    have t2 : inR .i64 ((kk + 1 + 1 + 1 + 1 + 1 + 1).tmod 3) := by rw [Int.tmod_eq_emod_of_nonneg (by omega)]; exact small_i64 (by omega) (by omega)
    have p0 : ¬ (kk < 0) := by omega
    have p1 : ¬ (kk + 1 < 0) := by omega
    have p2 : ¬ (kk + 1 + 1 < 0) := by omega
    have p7 : ¬ (kk + 1 + 1 + 1 + 1 + 1 + 1 + 1 < 0) := by omega
    refine row_nat _ hrow rfl ?_
    simp -implicitDefEqProofs [hadd, i0, i1, i2, i3, i4, i5, i6, i7, t0, t1, t2, p0, p1, p2, p7, aw_skip, aw_region, aw_seq, aw_block, aw_cond, aw_exit, aw_ret, kq_nil, kq_seq, kq_seq_ret, kq_seq_exit, kq_block, kq_block_ret, kq_block_exit, kq_loop, kq_loop_ret, kq_loop_exit, awOps_nil, awOps_cons, awOps_guardE, nx_eq, awOp, ev_k, ev_0, ev_1, ev_2, ev_3, ev_4, ev_5, ev_6, ev_7, ev_8, set_0, set_1, set_2, set_3, set_4, set_5, set_6, set_7, set_8, -List.set_cons_succ, -List.set_cons_zero, A.ok, A.val, setSl, wrapG, guardB, getB, pickA, binA, binC, binD, cmpD, isCmp, unA, unD, lenA, AOp.total, kills, litB, FinQ, resOks, resOk, resA, resList, resOne, A.thaw, C.thaw, A.fits, As.fits, C.fits, evs, oks, callArgs, A.pure, C.pure, A.re, C.re, fieldAddrA, loadC, cut, A.cells, C.rows?, getOb, newOb, setOb, storeC, splice, Ob.re, Cs.fits, partsA, partsOk, parts2A, parts2Ok, fillC, fillRows, optInt, optOk, sliceA, clipC, optK_some, storeK_some, Option.map_some, toDs, C.toD, spliceD, appendA, capsOf, srcRows, allLen_nil_iff, allLen_cons_iff, allLen_append_iff, dropC, Obs.fits, eqCs, eqD]
    refine qcall_pure (heldByteZ _ i0) hf rfl ?_
    simp -implicitDefEqProofs [hadd, i0, i1, i2, i3, i4, i5, i6, i7, t0, t1, t2, p0, p1, p2, p7, aw_skip, aw_region, aw_seq, aw_block, aw_cond, aw_exit, aw_ret, kq_nil, kq_seq, kq_seq_ret, kq_seq_exit, kq_block, kq_block_ret, kq_block_exit, kq_loop, kq_loop_ret, kq_loop_exit, awOps_nil, awOps_cons, awOps_guardE, nx_eq, awOp, ev_k, ev_0, ev_1, ev_2, ev_3, ev_4, ev_5, ev_6, ev_7, ev_8, set_0, set_1, set_2, set_3, set_4, set_5, set_6, set_7, set_8, -List.set_cons_succ, -List.set_cons_zero, A.ok, A.val, setSl, wrapG, guardB, getB, pickA, binA, binC, binD, cmpD, isCmp, unA, unD, lenA, AOp.total, kills, litB, FinQ, resOks, resOk, resA, resList, resOne, A.thaw, C.thaw, A.fits, As.fits, C.fits, evs, oks, callArgs, A.pure, C.pure, A.re, C.re, fieldAddrA, loadC, cut, A.cells, C.rows?, getOb, newOb, setOb, storeC, splice, Ob.re, Cs.fits, partsA, partsOk, parts2A, parts2Ok, fillC, fillRows, optInt, optOk, sliceA, clipC, optK_some, storeK_some, Option.map_some, toDs, C.toD, spliceD, appendA, capsOf, srcRows, allLen_nil_iff, allLen_cons_iff, allLen_append_iff, dropC, Obs.fits, eqCs, eqD]
    refine row_nat _ hrow rfl ?_
    simp -implicitDefEqProofs [hadd, i0, i1, i2, i3, i4, i5, i6, i7, t0, t1, t2, p0, p1, p2, p7, aw_skip, aw_region, aw_seq, aw_block, aw_cond, aw_exit, aw_ret, kq_nil, kq_seq, kq_seq_ret, kq_seq_exit, kq_block, kq_block_ret, kq_block_exit, kq_loop, kq_loop_ret, kq_loop_exit, awOps_nil, awOps_cons, awOps_guardE, nx_eq, awOp, ev_k, ev_0, ev_1, ev_2, ev_3, ev_4, ev_5, ev_6, ev_7, ev_8, set_0, set_1, set_2, set_3, set_4, set_5, set_6, set_7, set_8, -List.set_cons_succ, -List.set_cons_zero, A.ok, A.val, setSl, wrapG, guardB, getB, pickA, binA, binC, binD, cmpD, isCmp, unA, unD, lenA, AOp.total, kills, litB, FinQ, resOks, resOk, resA, resList, resOne, A.thaw, C.thaw, A.fits, As.fits, C.fits, evs, oks, callArgs, A.pure, C.pure, A.re, C.re, fieldAddrA, loadC, cut, A.cells, C.rows?, getOb, newOb, setOb, storeC, splice, Ob.re, Cs.fits, partsA, partsOk, parts2A, parts2Ok, fillC, fillRows, optInt, optOk, sliceA, clipC, optK_some, storeK_some, Option.map_some, toDs, C.toD, spliceD, appendA, capsOf, srcRows, allLen_nil_iff, allLen_cons_iff, allLen_append_iff, dropC, Obs.fits, eqCs, eqD]
    refine row_nat _ hrow rfl ?_
    simp -implicitDefEqProofs [hadd, i0, i1, i2, i3, i4, i5, i6, i7, t0, t1, t2, p0, p1, p2, p7, aw_skip, aw_region, aw_seq, aw_block, aw_cond, aw_exit, aw_ret, kq_nil, kq_seq, kq_seq_ret, kq_seq_exit, kq_block, kq_block_ret, kq_block_exit, kq_loop, kq_loop_ret, kq_loop_exit, awOps_nil, awOps_cons, awOps_guardE, nx_eq, awOp, ev_k, ev_0, ev_1, ev_2, ev_3, ev_4, ev_5, ev_6, ev_7, ev_8, set_0, set_1, set_2, set_3, set_4, set_5, set_6, set_7, set_8, -List.set_cons_succ, -List.set_cons_zero, A.ok, A.val, setSl, wrapG, guardB, getB, pickA, binA, binC, binD, cmpD, isCmp, unA, unD, lenA, AOp.total, kills, litB, FinQ, resOks, resOk, resA, resList, resOne, A.thaw, C.thaw, A.fits, As.fits, C.fits, evs, oks, callArgs, A.pure, C.pure, A.re, C.re, fieldAddrA, loadC, cut, A.cells, C.rows?, getOb, newOb, setOb, storeC, splice, Ob.re, Cs.fits, partsA, partsOk, parts2A, parts2Ok, fillC, fillRows, optInt, optOk, sliceA, clipC, optK_some, storeK_some, Option.map_some, toDs, C.toD, spliceD, appendA, capsOf, srcRows, allLen_nil_iff, allLen_cons_iff, allLen_append_iff, dropC, Obs.fits, eqCs, eqD]
    refine qcall_pure (heldFrameZ _ i1) hf rfl ?_
    simp -implicitDefEqProofs [hadd, i0, i1, i2, i3, i4, i5, i6, i7, t0, t1, t2, p0, p1, p2, p7, aw_skip, aw_region, aw_seq, aw_block, aw_cond, aw_exit, aw_ret, kq_nil, kq_seq, kq_seq_ret, kq_seq_exit, kq_block, kq_block_ret, kq_block_exit, kq_loop, kq_loop_ret, kq_loop_exit, awOps_nil, awOps_cons, awOps_guardE, nx_eq, awOp, ev_k, ev_0, ev_1, ev_2, ev_3, ev_4, ev_5, ev_6, ev_7, ev_8, set_0, set_1, set_2, set_3, set_4, set_5, set_6, set_7, set_8, -List.set_cons_succ, -List.set_cons_zero, A.ok, A.val, setSl, wrapG, guardB, getB, pickA, binA, binC, binD, cmpD, isCmp, unA, unD, lenA, AOp.total, kills, litB, FinQ, resOks, resOk, resA, resList, resOne, A.thaw, C.thaw, A.fits, As.fits, C.fits, evs, oks, callArgs, A.pure, C.pure, A.re, C.re, fieldAddrA, loadC, cut, A.cells, C.rows?, getOb, newOb, setOb, storeC, splice, Ob.re, Cs.fits, partsA, partsOk, parts2A, parts2Ok, fillC, fillRows, optInt, optOk, sliceA, clipC, optK_some, storeK_some, Option.map_some, toDs, C.toD, spliceD, appendA, capsOf, srcRows, allLen_nil_iff, allLen_cons_iff, allLen_append_iff, dropC, Obs.fits, eqCs, eqD]
    refine row_nat _ hrow rfl ?_
    simp -implicitDefEqProofs [hadd, i0, i1, i2, i3, i4, i5, i6, i7, t0, t1, t2, p0, p1, p2, p7, aw_skip, aw_region, aw_seq, aw_block, aw_cond, aw_exit, aw_ret, kq_nil, kq_seq, kq_seq_ret, kq_seq_exit, kq_block, kq_block_ret, kq_block_exit, kq_loop, kq_loop_ret, kq_loop_exit, awOps_nil, awOps_cons, awOps_guardE, nx_eq, awOp, ev_k, ev_0, ev_1, ev_2, ev_3, ev_4, ev_5, ev_6, ev_7, ev_8, set_0, set_1, set_2, set_3, set_4, set_5, set_6, set_7, set_8, -List.set_cons_succ, -List.set_cons_zero, A.ok, A.val, setSl, wrapG, guardB, getB, pickA, binA, binC, binD, cmpD, isCmp, unA, unD, lenA, AOp.total, kills, litB, FinQ, resOks, resOk, resA, resList, resOne, A.thaw, C.thaw, A.fits, As.fits, C.fits, evs, oks, callArgs, A.pure, C.pure, A.re, C.re, fieldAddrA, loadC, cut, A.cells, C.rows?, getOb, newOb, setOb, storeC, splice, Ob.re, Cs.fits, partsA, partsOk, parts2A, parts2Ok, fillC, fillRows, optInt, optOk, sliceA, clipC, optK_some, storeK_some, Option.map_some, toDs, C.toD, spliceD, appendA, capsOf, srcRows, allLen_nil_iff, allLen_cons_iff, allLen_append_iff, dropC, Obs.fits, eqCs, eqD]
    refine qcall_pure (heldClauseZ _ i1) hf rfl ?_
    simp -implicitDefEqProofs [hadd, i0, i1, i2, i3, i4, i5, i6, i7, t0, t1, t2, p0, p1, p2, p7, aw_skip, aw_region, aw_seq, aw_block, aw_cond, aw_exit, aw_ret, kq_nil, kq_seq, kq_seq_ret, kq_seq_exit, kq_block, kq_block_ret, kq_block_exit, kq_loop, kq_loop_ret, kq_loop_exit, awOps_nil, awOps_cons, awOps_guardE, nx_eq, awOp, ev_k, ev_0, ev_1, ev_2, ev_3, ev_4, ev_5, ev_6, ev_7, ev_8, set_0, set_1, set_2, set_3, set_4, set_5, set_6, set_7, set_8, -List.set_cons_succ, -List.set_cons_zero, A.ok, A.val, setSl, wrapG, guardB, getB, pickA, binA, binC, binD, cmpD, isCmp, unA, unD, lenA, AOp.total, kills, litB, FinQ, resOks, resOk, resA, resList, resOne, A.thaw, C.thaw, A.fits, As.fits, C.fits, evs, oks, callArgs, A.pure, C.pure, A.re, C.re, fieldAddrA, loadC, cut, A.cells, C.rows?, getOb, newOb, setOb, storeC, splice, Ob.re, Cs.fits, partsA, partsOk, parts2A, parts2Ok, fillC, fillRows, optInt, optOk, sliceA, clipC, optK_some, storeK_some, Option.map_some, toDs, C.toD, spliceD, appendA, capsOf, srcRows, allLen_nil_iff, allLen_cons_iff, allLen_append_iff, dropC, Obs.fits, eqCs, eqD]
    refine row_nat _ hrow rfl ?_
    simp -implicitDefEqProofs [hadd, i0, i1, i2, i3, i4, i5, i6, i7, t0, t1, t2, p0, p1, p2, p7, aw_skip, aw_region, aw_seq, aw_block, aw_cond, aw_exit, aw_ret, kq_nil, kq_seq, kq_seq_ret, kq_seq_exit, kq_block, kq_block_ret, kq_block_exit, kq_loop, kq_loop_ret, kq_loop_exit, awOps_nil, awOps_cons, awOps_guardE, nx_eq, awOp, ev_k, ev_0, ev_1, ev_2, ev_3, ev_4, ev_5, ev_6, ev_7, ev_8, set_0, set_1, set_2, set_3, set_4, set_5, set_6, set_7, set_8, -List.set_cons_succ, -List.set_cons_zero, A.ok, A.val, setSl, wrapG, guardB, getB, pickA, binA, binC, binD, cmpD, isCmp, unA, unD, lenA, AOp.total, kills, litB, FinQ, resOks, resOk, resA, resList, resOne, A.thaw, C.thaw, A.fits, As.fits, C.fits, evs, oks, callArgs, A.pure, C.pure, A.re, C.re, fieldAddrA, loadC, cut, A.cells, C.rows?, getOb, newOb, setOb, storeC, splice, Ob.re, Cs.fits, partsA, partsOk, parts2A, parts2Ok, fillC, fillRows, optInt, optOk, sliceA, clipC, optK_some, storeK_some, Option.map_some, toDs, C.toD, spliceD, appendA, capsOf, srcRows, allLen_nil_iff, allLen_cons_iff, allLen_append_iff, dropC, Obs.fits, eqCs, eqD]
    refine row_nat _ hrow rfl ?_
    simp -implicitDefEqProofs [hadd, i0, i1, i2, i3, i4, i5, i6, i7, t0, t1, t2, p0, p1, p2, p7, aw_skip, aw_region, aw_seq, aw_block, aw_cond, aw_exit, aw_ret, kq_nil, kq_seq, kq_seq_ret, kq_seq_exit, kq_block, kq_block_ret, kq_block_exit, kq_loop, kq_loop_ret, kq_loop_exit, awOps_nil, awOps_cons, awOps_guardE, nx_eq, awOp, ev_k, ev_0, ev_1, ev_2, ev_3, ev_4, ev_5, ev_6, ev_7, ev_8, set_0, set_1, set_2, set_3, set_4, set_5, set_6, set_7, set_8, -List.set_cons_succ, -List.set_cons_zero, A.ok, A.val, setSl, wrapG, guardB, getB, pickA, binA, binC, binD, cmpD, isCmp, unA, unD, lenA, AOp.total, kills, litB, FinQ, resOks, resOk, resA, resList, resOne, A.thaw, C.thaw, A.fits, As.fits, C.fits, evs, oks, callArgs, A.pure, C.pure, A.re, C.re, fieldAddrA, loadC, cut, A.cells, C.rows?, getOb, newOb, setOb, storeC, splice, Ob.re, Cs.fits, partsA, partsOk, parts2A, parts2Ok, fillC, fillRows, optInt, optOk, sliceA, clipC, optK_some, storeK_some, Option.map_some, toDs, C.toD, spliceD, appendA, capsOf, srcRows, allLen_nil_iff, allLen_cons_iff, allLen_append_iff, dropC, Obs.fits, eqCs, eqD]
    refine qcall_pure (heldClauseZ _ i2) hf rfl ?_
    simp -implicitDefEqProofs [hadd, i0, i1, i2, i3, i4, i5, i6, i7, t0, t1, t2, p0, p1, p2, p7, aw_skip, aw_region, aw_seq, aw_block, aw_cond, aw_exit, aw_ret, kq_nil, kq_seq, kq_seq_ret, kq_seq_exit, kq_block, kq_block_ret, kq_block_exit, kq_loop, kq_loop_ret, kq_loop_exit, awOps_nil, awOps_cons, awOps_guardE, nx_eq, awOp, ev_k, ev_0, ev_1, ev_2, ev_3, ev_4, ev_5, ev_6, ev_7, ev_8, set_0, set_1, set_2, set_3, set_4, set_5, set_6, set_7, set_8, -List.set_cons_succ, -List.set_cons_zero, A.ok, A.val, setSl, wrapG, guardB, getB, pickA, binA, binC, binD, cmpD, isCmp, unA, unD, lenA, AOp.total, kills, litB, FinQ, resOks, resOk, resA, resList, resOne, A.thaw, C.thaw, A.fits, As.fits, C.fits, evs, oks, callArgs, A.pure, C.pure, A.re, C.re, fieldAddrA, loadC, cut, A.cells, C.rows?, getOb, newOb, setOb, storeC, splice, Ob.re, Cs.fits, partsA, partsOk, parts2A, parts2Ok, fillC, fillRows, optInt, optOk, sliceA, clipC, optK_some, storeK_some, Option.map_some, toDs, C.toD, spliceD, appendA, capsOf, srcRows, allLen_nil_iff, allLen_cons_iff, allLen_append_iff, dropC, Obs.fits, eqCs, eqD]
    refine row_nat _ hrow rfl ?_
    simp -implicitDefEqProofs [hadd, i0, i1, i2, i3, i4, i5, i6, i7, t0, t1, t2, p0, p1, p2, p7, aw_skip, aw_region, aw_seq, aw_block, aw_cond, aw_exit, aw_ret, kq_nil, kq_seq, kq_seq_ret, kq_seq_exit, kq_block, kq_block_ret, kq_block_exit, kq_loop, kq_loop_ret, kq_loop_exit, awOps_nil, awOps_cons, awOps_guardE, nx_eq, awOp, ev_k, ev_0, ev_1, ev_2, ev_3, ev_4, ev_5, ev_6, ev_7, ev_8, set_0, set_1, set_2, set_3, set_4, set_5, set_6, set_7, set_8, -List.set_cons_succ, -List.set_cons_zero, A.ok, A.val, setSl, wrapG, guardB, getB, pickA, binA, binC, binD, cmpD, isCmp, unA, unD, lenA, AOp.total, kills, litB, FinQ, resOks, resOk, resA, resList, resOne, A.thaw, C.thaw, A.fits, As.fits, C.fits, evs, oks, callArgs, A.pure, C.pure, A.re, C.re, fieldAddrA, loadC, cut, A.cells, C.rows?, getOb, newOb, setOb, storeC, splice, Ob.re, Cs.fits, partsA, partsOk, parts2A, parts2Ok, fillC, fillRows, optInt, optOk, sliceA, clipC, optK_some, storeK_some, Option.map_some, toDs, C.toD, spliceD, appendA, capsOf, srcRows, allLen_nil_iff, allLen_cons_iff, allLen_append_iff, dropC, Obs.fits, eqCs, eqD]
    refine qcall_pure (heldTermZ _ i2) hf rfl ?_
    simp -implicitDefEqProofs [hadd, i0, i1, i2, i3, i4, i5, i6, i7, t0, t1, t2, p0, p1, p2, p7, aw_skip, aw_region, aw_seq, aw_block, aw_cond, aw_exit, aw_ret, kq_nil, kq_seq, kq_seq_ret, kq_seq_exit, kq_block, kq_block_ret, kq_block_exit, kq_loop, kq_loop_ret, kq_loop_exit, awOps_nil, awOps_cons, awOps_guardE, nx_eq, awOp, ev_k, ev_0, ev_1, ev_2, ev_3, ev_4, ev_5, ev_6, ev_7, ev_8, set_0, set_1, set_2, set_3, set_4, set_5, set_6, set_7, set_8, -List.set_cons_succ, -List.set_cons_zero, A.ok, A.val, setSl, wrapG, guardB, getB, pickA, binA, binC, binD, cmpD, isCmp, unA, unD, lenA, AOp.total, kills, litB, FinQ, resOks, resOk, resA, resList, resOne, A.thaw, C.thaw, A.fits, As.fits, C.fits, evs, oks, callArgs, A.pure, C.pure, A.re, C.re, fieldAddrA, loadC, cut, A.cells, C.rows?, getOb, newOb, setOb, storeC, splice, Ob.re, Cs.fits, partsA, partsOk, parts2A, parts2Ok, fillC, fillRows, optInt, optOk, sliceA, clipC, optK_some, storeK_some, Option.map_some, toDs, C.toD, spliceD, appendA, capsOf, srcRows, allLen_nil_iff, allLen_cons_iff, allLen_append_iff, dropC, Obs.fits, eqCs, eqD]
    refine row_nat _ hrow rfl ?_
    simp -implicitDefEqProofs [hadd, i0, i1, i2, i3, i4, i5, i6, i7, t0, t1, t2, p0, p1, p2, p7, aw_skip, aw_region, aw_seq, aw_block, aw_cond, aw_exit, aw_ret, kq_nil, kq_seq, kq_seq_ret, kq_seq_exit, kq_block, kq_block_ret, kq_block_exit, kq_loop, kq_loop_ret, kq_loop_exit, awOps_nil, awOps_cons, awOps_guardE, nx_eq, awOp, ev_k, ev_0, ev_1, ev_2, ev_3, ev_4, ev_5, ev_6, ev_7, ev_8, set_0, set_1, set_2, set_3, set_4, set_5, set_6, set_7, set_8, -List.set_cons_succ, -List.set_cons_zero, A.ok, A.val, setSl, wrapG, guardB, getB, pickA, binA, binC, binD, cmpD, isCmp, unA, unD, lenA, AOp.total, kills, litB, FinQ, resOks, resOk, resA, resList, resOne, A.thaw, C.thaw, A.fits, As.fits, C.fits, evs, oks, callArgs, A.pure, C.pure, A.re, C.re, fieldAddrA, loadC, cut, A.cells, C.rows?, getOb, newOb, setOb, storeC, splice, Ob.re, Cs.fits, partsA, partsOk, parts2A, parts2Ok, fillC, fillRows, optInt, optOk, sliceA, clipC, optK_some, storeK_some, Option.map_some, toDs, C.toD, spliceD, appendA, capsOf, srcRows, allLen_nil_iff, allLen_cons_iff, allLen_append_iff, dropC, Obs.fits, eqCs, eqD]
    refine row_nat _ hrow rfl ?_
    simp -implicitDefEqProofs [hadd, i0, i1, i2, i3, i4, i5, i6, i7, t0, t1, t2, p0, p1, p2, p7, aw_skip, aw_region, aw_seq, aw_block, aw_cond, aw_exit, aw_ret, kq_nil, kq_seq, kq_seq_ret, kq_seq_exit, kq_block, kq_block_ret, kq_block_exit, kq_loop, kq_loop_ret, kq_loop_exit, awOps_nil, awOps_cons, awOps_guardE, nx_eq, awOp, ev_k, ev_0, ev_1, ev_2, ev_3, ev_4, ev_5, ev_6, ev_7, ev_8, set_0, set_1, set_2, set_3, set_4, set_5, set_6, set_7, set_8, -List.set_cons_succ, -List.set_cons_zero, A.ok, A.val, setSl, wrapG, guardB, getB, pickA, binA, binC, binD, cmpD, isCmp, unA, unD, lenA, AOp.total, kills, litB, FinQ, resOks, resOk, resA, resList, resOne, A.thaw, C.thaw, A.fits, As.fits, C.fits, evs, oks, callArgs, A.pure, C.pure, A.re, C.re, fieldAddrA, loadC, cut, A.cells, C.rows?, getOb, newOb, setOb, storeC, splice, Ob.re, Cs.fits, partsA, partsOk, parts2A, parts2Ok, fillC, fillRows, optInt, optOk, sliceA, clipC, optK_some, storeK_some, Option.map_some, toDs, C.toD, spliceD, appendA, capsOf, srcRows, allLen_nil_iff, allLen_cons_iff, allLen_append_iff, dropC, Obs.fits, eqCs, eqD]
    refine row_nat _ hrow rfl ?_
    simp -implicitDefEqProofs [hadd, i0, i1, i2, i3, i4, i5, i6, i7, t0, t1, t2, p0, p1, p2, p7, aw_skip, aw_region, aw_seq, aw_block, aw_cond, aw_exit, aw_ret, kq_nil, kq_seq, kq_seq_ret, kq_seq_exit, kq_block, kq_block_ret, kq_block_exit, kq_loop, kq_loop_ret, kq_loop_exit, awOps_nil, awOps_cons, awOps_guardE, nx_eq, awOp, ev_k, ev_0, ev_1, ev_2, ev_3, ev_4, ev_5, ev_6, ev_7, ev_8, set_0, set_1, set_2, set_3, set_4, set_5, set_6, set_7, set_8, -List.set_cons_succ, -List.set_cons_zero, A.ok, A.val, setSl, wrapG, guardB, getB, pickA, binA, binC, binD, cmpD, isCmp, unA, unD, lenA, AOp.total, kills, litB, FinQ, resOks, resOk, resA, resList, resOne, A.thaw, C.thaw, A.fits, As.fits, C.fits, evs, oks, callArgs, A.pure, C.pure, A.re, C.re, fieldAddrA, loadC, cut, A.cells, C.rows?, getOb, newOb, setOb, storeC, splice, Ob.re, Cs.fits, partsA, partsOk, parts2A, parts2Ok, fillC, fillRows, optInt, optOk, sliceA, clipC, optK_some, storeK_some, Option.map_some, toDs, C.toD, spliceD, appendA, capsOf, srcRows, allLen_nil_iff, allLen_cons_iff, allLen_append_iff, dropC, Obs.fits, eqCs, eqD]
    refine row_nat _ hrow rfl ?_
    simp -implicitDefEqProofs [hadd, i0, i1, i2, i3, i4, i5, i6, i7, t0, t1, t2, p0, p1, p2, p7, aw_skip, aw_region, aw_seq, aw_block, aw_cond, aw_exit, aw_ret, kq_nil, kq_seq, kq_seq_ret, kq_seq_exit, kq_block, kq_block_ret, kq_block_exit, kq_loop, kq_loop_ret, kq_loop_exit, awOps_nil, awOps_cons, awOps_guardE, nx_eq, awOp, ev_k, ev_0, ev_1, ev_2, ev_3, ev_4, ev_5, ev_6, ev_7, ev_8, set_0, set_1, set_2, set_3, set_4, set_5, set_6, set_7, set_8, -List.set_cons_succ, -List.set_cons_zero, A.ok, A.val, setSl, wrapG, guardB, getB, pickA, binA, binC, binD, cmpD, isCmp, unA, unD, lenA, AOp.total, kills, litB, FinQ, resOks, resOk, resA, resList, resOne, A.thaw, C.thaw, A.fits, As.fits, C.fits, evs, oks, callArgs, A.pure, C.pure, A.re, C.re, fieldAddrA, loadC, cut, A.cells, C.rows?, getOb, newOb, setOb, storeC, splice, Ob.re, Cs.fits, partsA, partsOk, parts2A, parts2Ok, fillC, fillRows, optInt, optOk, sliceA, clipC, optK_some, storeK_some, Option.map_some, toDs, C.toD, spliceD, appendA, capsOf, srcRows, allLen_nil_iff, allLen_cons_iff, allLen_append_iff, dropC, Obs.fits, eqCs, eqD]
    refine row_nat _ hrow rfl ?_
    simp -implicitDefEqProofs [hadd, i0, i1, i2, i3, i4, i5, i6, i7, t0, t1, t2, p0, p1, p2, p7, aw_skip, aw_region, aw_seq, aw_block, aw_cond, aw_exit, aw_ret, kq_nil, kq_seq, kq_seq_ret, kq_seq_exit, kq_block, kq_block_ret, kq_block_exit, kq_loop, kq_loop_ret, kq_loop_exit, awOps_nil, awOps_cons, awOps_guardE, nx_eq, awOp, ev_k, ev_0, ev_1, ev_2, ev_3, ev_4, ev_5, ev_6, ev_7, ev_8, set_0, set_1, set_2, set_3, set_4, set_5, set_6, set_7, set_8, -List.set_cons_succ, -List.set_cons_zero, A.ok, A.val, setSl, wrapG, guardB, getB, pickA, binA, binC, binD, cmpD, isCmp, unA, unD, lenA, AOp.total, kills, litB, FinQ, resOks, resOk, resA, resList, resOne, A.thaw, C.thaw, A.fits, As.fits, C.fits, evs, oks, callArgs, A.pure, C.pure, A.re, C.re, fieldAddrA, loadC, cut, A.cells, C.rows?, getOb, newOb, setOb, storeC, splice, Ob.re, Cs.fits, partsA, partsOk, parts2A, parts2Ok, fillC, fillRows, optInt, optOk, sliceA, clipC, optK_some, storeK_some, Option.map_some, toDs, C.toD, spliceD, appendA, capsOf, srcRows, allLen_nil_iff, allLen_cons_iff, allLen_append_iff, dropC, Obs.fits, eqCs, eqD]
    refine row_nat _ hrow rfl ?_
    simp -implicitDefEqProofs [hadd, i0, i1, i2, i3, i4, i5, i6, i7, t0, t1, t2, p0, p1, p2, p7, aw_skip, aw_region, aw_seq, aw_block, aw_cond, aw_exit, aw_ret, kq_nil, kq_seq, kq_seq_ret, kq_seq_exit, kq_block, kq_block_ret, kq_block_exit, kq_loop, kq_loop_ret, kq_loop_exit, awOps_nil, awOps_cons, awOps_guardE, nx_eq, awOp, ev_k, ev_0, ev_1, ev_2, ev_3, ev_4, ev_5, ev_6, ev_7, ev_8, set_0, set_1, set_2, set_3, set_4, set_5, set_6, set_7, set_8, -List.set_cons_succ, -List.set_cons_zero, A.ok, A.val, setSl, wrapG, guardB, getB, pickA, binA, binC, binD, cmpD, isCmp, unA, unD, lenA, AOp.total, kills, litB, FinQ, resOks, resOk, resA, resList, resOne, A.thaw, C.thaw, A.fits, As.fits, C.fits, evs, oks, callArgs, A.pure, C.pure, A.re, C.re, fieldAddrA, loadC, cut, A.cells, C.rows?, getOb, newOb, setOb, storeC, splice, Ob.re, Cs.fits, partsA, partsOk, parts2A, parts2Ok, fillC, fillRows, optInt, optOk, sliceA, clipC, optK_some, storeK_some, Option.map_some, toDs, C.toD, spliceD, appendA, capsOf, srcRows, allLen_nil_iff, allLen_cons_iff, allLen_append_iff, dropC, Obs.fits, eqCs, eqD]
    refine qcall_pure (heldFrameZ _ i7) hf rfl ?_
    simp -implicitDefEqProofs [hadd, i0, i1, i2, i3, i4, i5, i6, i7, t0, t1, t2, p0, p1, p2, p7, aw_skip, aw_region, aw_seq, aw_block, aw_cond, aw_exit, aw_ret, kq_nil, kq_seq, kq_seq_ret, kq_seq_exit, kq_block, kq_block_ret, kq_block_exit, kq_loop, kq_loop_ret, kq_loop_exit, awOps_nil, awOps_cons, awOps_guardE, nx_eq, awOp, ev_k, ev_0, ev_1, ev_2, ev_3, ev_4, ev_5, ev_6, ev_7, ev_8, set_0, set_1, set_2, set_3, set_4, set_5, set_6, set_7, set_8, -List.set_cons_succ, -List.set_cons_zero, A.ok, A.val, setSl, wrapG, guardB, getB, pickA, binA, binC, binD, cmpD, isCmp, unA, unD, lenA, AOp.total, kills, litB, FinQ, resOks, resOk, resA, resList, resOne, A.thaw, C.thaw, A.fits, As.fits, C.fits, evs, oks, callArgs, A.pure, C.pure, A.re, C.re, fieldAddrA, loadC, cut, A.cells, C.rows?, getOb, newOb, setOb, storeC, splice, Ob.re, Cs.fits, partsA, partsOk, parts2A, parts2Ok, fillC, fillRows, optInt, optOk, sliceA, clipC, optK_some, storeK_some, Option.map_some, toDs, C.toD, spliceD, appendA, capsOf, srcRows, allLen_nil_iff, allLen_cons_iff, allLen_append_iff, dropC, Obs.fits, eqCs, eqD]
    exact loop_back (i + 1) (by simp [setAll, hn1]) hlt (by show n - (i + 1) < n - i; omega)
  · obtain rfl : i = n := by omega
    rfl
end Go.Proofs.Ytamaaiabbganjaa
