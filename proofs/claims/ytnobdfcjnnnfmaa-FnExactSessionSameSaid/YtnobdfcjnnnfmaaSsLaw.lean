/-
  The law FnExactSessionSame holds: spec.SessionSame and impl.SessionSame answer alike at all sessions.
  Conditions: none.
-/
import Derived.Test.YtnobdfcjnnnfmaaClause
open Go Go.AM Go.Proofs
namespace Go.Proofs.Ytnobdfcjnnnfmaa
open Go.ChangeShapes Go.WideShapes Go.ChangeAt Go.RowKit
set_option linter.unusedVariables false
set_option linter.unusedSimpArgs false
set_option maxRecDepth 100000
-- 25 loop.example/prologserver/laws.szSession params 2 ntmps 18
def ac25 : Cd := .seq (.region [⟨(some 2), .box (.t 0), none⟩,
      ⟨(some 4), .mv (.k (.c (.d (.int .i64 0)))), none⟩] [0, 4])
  (.seq (.region [⟨(some 5), .fieldAddr 0 (.t 2), none⟩,
      ⟨(some 6), .load none (.t 5), none⟩,
      ⟨(some 7), .mv (.t 1), none⟩,
      ⟨(some 8), .call false 60 [(.t 6), (.t 7)], none⟩,
      ⟨(some 1), .mv (.t 8), none⟩] [5, 6, 7, 8])
  (.seq (.seq (.region [⟨(some 9), .mv (.t 1), none⟩,
        ⟨(some 10), .bin .lss (.t 9) (.k (.c (.d (.int .i64 0)))), none⟩] [9])
    (.cond (.t 10)
      (.seq (.region [⟨(some 4), .mv (.k (.c (.d (.int .i64 (-1))))), none⟩] [1, 2, 10])
      (.ret))
      (.skip)))
  (.seq (.region [⟨(some 11), .fieldAddr 1 (.t 2), none⟩,
      ⟨(some 12), .load none (.t 11), none⟩,
      ⟨(some 13), .mv (.t 1), none⟩,
      ⟨(some 14), .call false 42 [(.t 12), (.t 13)], none⟩,
      ⟨(some 1), .mv (.t 14), none⟩] [2, 4, 10, 11, 12, 13, 14])
  (.seq (.seq (.region [⟨(some 15), .mv (.t 1), none⟩,
        ⟨(some 16), .bin .lss (.t 15) (.k (.c (.d (.int .i64 0)))), none⟩] [15])
    (.cond (.t 16)
      (.seq (.region [⟨(some 4), .mv (.k (.c (.d (.int .i64 (-1))))), none⟩] [1, 16])
      (.ret))
      (.skip)))
  (.seq (.region [⟨(some 17), .mv (.t 1), none⟩,
      ⟨(some 4), .mv (.t 17), none⟩] [1, 16, 17])
  (.ret))))))
theorem ac25_ok : cFunc Try.prog [] [(0, [0, 4], []), (1, [5, 6, 7, 8], []), (2, [9], []), (3, [1, 2, 10], []), (4, [2, 4, 10, 11, 12, 13, 14], []), (5, [15], []), (6, [1, 16], []), (7, [1, 16, 17], [])] Try.f25 = some (ac25, [.tmp 4], 18) := by kernel_rfl
-- 27 loop.example/prologserver/laws.toSession params 1 ntmps 25
def ac27 : Cd := .seq (.region [⟨(some 1), .box (.t 0), none⟩,
      ⟨(some 2), .alloc [(.full []), (.full []), (.d (.int .i64 0)), (.d (.int .i64 0)), (.d (.int .i64 0)), (.d (.int .i64 0))], none⟩] [0])
  (.seq (.region [⟨(some 3), .alloc [(.full []), (.full []), (.d (.int .i64 0)), (.d (.int .i64 0)), (.d (.int .i64 0)), (.d (.int .i64 0))], none⟩] [])
  (.seq (.region [⟨(some 4), .fieldAddr 0 (.t 1), none⟩,
      ⟨(some 5), .load none (.t 4), none⟩,
      ⟨(some 6), .qcall 62 [(.t 5)], none⟩,
      ⟨(some 7), .fieldAddr 0 (.t 3), none⟩,
      ⟨none, .store 1 (.t 7) (.t 6), none⟩] [4, 5, 6, 7])
  (.seq (.region [⟨(some 8), .fieldAddr 1 (.t 1), none⟩,
      ⟨(some 9), .load none (.t 8), none⟩,
      ⟨(some 10), .qcall 44 [(.t 9)], none⟩,
      ⟨(some 11), .fieldAddr 1 (.t 3), none⟩,
      ⟨none, .store 1 (.t 11) (.t 10), none⟩] [8, 9, 10, 11])
  (.seq (.region [⟨(some 12), .fieldAddr 2 (.t 1), none⟩,
      ⟨(some 13), .load none (.t 12), none⟩,
      ⟨(some 14), .fieldAddr 2 (.t 3), none⟩,
      ⟨none, .store 1 (.t 14) (.t 13), none⟩] [12, 13, 14])
  (.seq (.region [⟨(some 15), .fieldAddr 3 (.t 1), none⟩,
      ⟨(some 16), .load none (.t 15), none⟩,
      ⟨(some 17), .fieldAddr 3 (.t 3), none⟩,
      ⟨none, .store 1 (.t 17) (.t 16), none⟩] [15, 16, 17])
  (.seq (.region [⟨(some 18), .fieldAddr 4 (.t 1), none⟩,
      ⟨(some 19), .load none (.t 18), none⟩,
      ⟨(some 20), .fieldAddr 4 (.t 3), none⟩,
      ⟨none, .store 1 (.t 20) (.t 19), none⟩] [18, 19, 20])
  (.seq (.region [⟨(some 21), .fieldAddr 5 (.t 1), none⟩,
      ⟨(some 22), .load none (.t 21), none⟩,
      ⟨(some 23), .fieldAddr 5 (.t 3), none⟩,
      ⟨none, .store 1 (.t 23) (.t 22), none⟩] [1, 21, 22, 23])
  (.seq (.region [⟨(some 24), .load (some 6) (.t 3), none⟩,
      ⟨none, .store 6 (.t 2) (.t 24), none⟩] [3, 24])
  (.ret)))))))))
theorem ac27_ok : cFunc Try.prog [1000044, 1000062] [(0, [0], []), (1, [], []), (2, [4, 5, 6, 7], []), (3, [8, 9, 10, 11], []), (4, [12, 13, 14], []), (5, [15, 16, 17], []), (6, [18, 19, 20], []), (7, [1, 21, 22, 23], []), (8, [3, 24], [])] Try.f27 = some (ac27, [.cell 2 (some 6)], 25) := by kernel_rfl
-- 29 loop.example/prologserver/laws.eqSession params 2 ntmps 37
def ac29 : Cd := .seq (.region [⟨(some 2), .box (.t 0), none⟩,
      ⟨(some 3), .box (.t 1), none⟩,
      ⟨(some 4), .mv (.k (.c (.d (.bool false)))), none⟩] [0, 1, 4])
  (.seq (.seq (.region [⟨(some 5), .fieldAddr 0 (.t 2), none⟩,
        ⟨(some 6), .load none (.t 5), none⟩,
        ⟨(some 7), .fieldAddr 0 (.t 3), none⟩,
        ⟨(some 8), .load none (.t 7), none⟩,
        ⟨(some 9), .qcall 64 [(.t 6), (.t 8)], none⟩,
        ⟨(some 10), .un .not (.t 9), none⟩] [5, 6, 7, 8, 9])
    (.cond (.t 10)
      (.seq (.region [⟨(some 4), .mv (.k (.c (.d (.bool false)))), none⟩] [2, 3, 10])
      (.ret))
      (.skip)))
  (.seq (.seq (.region [⟨(some 11), .fieldAddr 1 (.t 2), none⟩,
        ⟨(some 12), .load none (.t 11), none⟩,
        ⟨(some 13), .fieldAddr 1 (.t 3), none⟩,
        ⟨(some 14), .load none (.t 13), none⟩,
        ⟨(some 15), .qcall 46 [(.t 12), (.t 14)], none⟩,
        ⟨(some 16), .un .not (.t 15), none⟩] [4, 10, 11, 12, 13, 14, 15])
    (.cond (.t 16)
      (.seq (.region [⟨(some 4), .mv (.k (.c (.d (.bool false)))), none⟩] [2, 3, 16])
      (.ret))
      (.skip)))
  (.seq (.seq (.region [⟨(some 17), .fieldAddr 2 (.t 2), none⟩,
        ⟨(some 18), .load none (.t 17), none⟩,
        ⟨(some 19), .fieldAddr 2 (.t 3), none⟩,
        ⟨(some 20), .load none (.t 19), none⟩,
        ⟨(some 21), .bin .neq (.t 18) (.t 20), none⟩] [4, 16, 17, 18, 19, 20])
    (.cond (.t 21)
      (.seq (.region [⟨(some 4), .mv (.k (.c (.d (.bool false)))), none⟩] [2, 3, 21])
      (.ret))
      (.skip)))
  (.seq (.seq (.region [⟨(some 22), .fieldAddr 3 (.t 2), none⟩,
        ⟨(some 23), .load none (.t 22), none⟩,
        ⟨(some 24), .fieldAddr 3 (.t 3), none⟩,
        ⟨(some 25), .load none (.t 24), none⟩,
        ⟨(some 26), .bin .neq (.t 23) (.t 25), none⟩] [4, 21, 22, 23, 24, 25])
    (.cond (.t 26)
      (.seq (.region [⟨(some 4), .mv (.k (.c (.d (.bool false)))), none⟩] [2, 3, 26])
      (.ret))
      (.skip)))
  (.seq (.seq (.region [⟨(some 27), .fieldAddr 4 (.t 2), none⟩,
        ⟨(some 28), .load none (.t 27), none⟩,
        ⟨(some 29), .fieldAddr 4 (.t 3), none⟩,
        ⟨(some 30), .load none (.t 29), none⟩,
        ⟨(some 31), .bin .neq (.t 28) (.t 30), none⟩] [4, 26, 27, 28, 29, 30])
    (.cond (.t 31)
      (.seq (.region [⟨(some 4), .mv (.k (.c (.d (.bool false)))), none⟩] [2, 3, 31])
      (.ret))
      (.skip)))
  (.seq (.seq (.region [⟨(some 32), .fieldAddr 5 (.t 2), none⟩,
        ⟨(some 33), .load none (.t 32), none⟩,
        ⟨(some 34), .fieldAddr 5 (.t 3), none⟩,
        ⟨(some 35), .load none (.t 34), none⟩,
        ⟨(some 36), .bin .neq (.t 33) (.t 35), none⟩] [2, 3, 4, 31, 32, 33, 34, 35])
    (.cond (.t 36)
      (.seq (.region [⟨(some 4), .mv (.k (.c (.d (.bool false)))), none⟩] [36])
      (.ret))
      (.skip)))
  (.seq (.region [⟨(some 4), .mv (.k (.c (.d (.bool true)))), none⟩] [36])
  (.ret))))))))
theorem ac29_ok : cFunc Try.prog [1000046, 1000064] [(0, [0, 1, 4], []), (1, [5, 6, 7, 8, 9], []), (2, [2, 3, 10], []), (3, [4, 10, 11, 12, 13, 14, 15], []), (4, [2, 3, 16], []), (5, [4, 16, 17, 18, 19, 20], []), (6, [2, 3, 21], []), (7, [4, 21, 22, 23, 24, 25], []), (8, [2, 3, 26], []), (9, [4, 26, 27, 28, 29, 30], []), (10, [2, 3, 31], []), (11, [2, 3, 4, 31, 32, 33, 34, 35], []), (12, [36], []), (13, [36], [])] Try.f29 = some (ac29, [.tmp 4], 37) := by kernel_rfl
-- 26 loop.example/prologserver/spec.SessionSame params 2 ntmps 89
-- loop head live: [2, 3, 5]
-- loop head live: [2, 3, 6]
def ac26 : Cd := .seq (.region [⟨(some 2), .box (.t 0), none⟩,
      ⟨(some 3), .box (.t 1), none⟩,
      ⟨(some 4), .mv (.k (.c (.d (.bool false)))), none⟩] [0, 1, 4])
  (.seq (.seq (.region [⟨(some 7), .fieldAddr 0 (.t 2), none⟩,
        ⟨(some 8), .load none (.t 7), none⟩,
        ⟨(some 9), .len 1 (.t 8), none⟩,
        ⟨(some 10), .fieldAddr 0 (.t 3), none⟩,
        ⟨(some 11), .load none (.t 10), none⟩,
        ⟨(some 12), .len 1 (.t 11), none⟩,
        ⟨(some 13), .bin .neq (.t 9) (.t 12), none⟩,
        ⟨(some 14), .mv (.t 13), none⟩,
        ⟨(some 15), .fieldAddr 1 (.t 2), some (14, false)⟩,
        ⟨(some 16), .load none (.t 15), some (14, false)⟩,
        ⟨(some 17), .len 1 (.t 16), some (14, false)⟩,
        ⟨(some 18), .fieldAddr 1 (.t 3), some (14, false)⟩,
        ⟨(some 19), .load none (.t 18), some (14, false)⟩,
        ⟨(some 20), .len 1 (.t 19), some (14, false)⟩,
        ⟨(some 21), .bin .neq (.t 17) (.t 20), some (14, false)⟩,
        ⟨(some 22), .pick (.t 14) (.k (.c (.d (.bool true)))) (.t 21), none⟩,
        ⟨(some 23), .mv (.t 22), none⟩,
        ⟨(some 24), .fieldAddr 2 (.t 2), some (23, false)⟩,
        ⟨(some 25), .load none (.t 24), some (23, false)⟩,
        ⟨(some 26), .fieldAddr 2 (.t 3), some (23, false)⟩,
        ⟨(some 27), .load none (.t 26), some (23, false)⟩,
        ⟨(some 28), .bin .neq (.t 25) (.t 27), some (23, false)⟩,
        ⟨(some 29), .pick (.t 23) (.k (.c (.d (.bool true)))) (.t 28), none⟩,
        ⟨(some 30), .mv (.t 29), none⟩,
        ⟨(some 31), .fieldAddr 3 (.t 2), some (30, false)⟩,
        ⟨(some 32), .load none (.t 31), some (30, false)⟩,
        ⟨(some 33), .fieldAddr 3 (.t 3), some (30, false)⟩,
        ⟨(some 34), .load none (.t 33), some (30, false)⟩,
        ⟨(some 35), .bin .neq (.t 32) (.t 34), some (30, false)⟩,
        ⟨(some 36), .pick (.t 30) (.k (.c (.d (.bool true)))) (.t 35), none⟩,
        ⟨(some 37), .mv (.t 36), none⟩,
        ⟨(some 38), .fieldAddr 4 (.t 2), some (37, false)⟩,
        ⟨(some 39), .load none (.t 38), some (37, false)⟩,
        ⟨(some 40), .fieldAddr 4 (.t 3), some (37, false)⟩,
        ⟨(some 41), .load none (.t 40), some (37, false)⟩,
        ⟨(some 42), .bin .neq (.t 39) (.t 41), some (37, false)⟩,
        ⟨(some 43), .pick (.t 37) (.k (.c (.d (.bool true)))) (.t 42), none⟩,
        ⟨(some 44), .mv (.t 43), none⟩,
        ⟨(some 45), .fieldAddr 5 (.t 2), some (44, false)⟩,
        ⟨(some 46), .load none (.t 45), some (44, false)⟩,
        ⟨(some 47), .fieldAddr 5 (.t 3), some (44, false)⟩,
        ⟨(some 48), .load none (.t 47), some (44, false)⟩,
        ⟨(some 49), .bin .neq (.t 46) (.t 48), some (44, false)⟩,
        ⟨(some 50), .pick (.t 44) (.k (.c (.d (.bool true)))) (.t 49), none⟩] [7, 8, 9, 10, 11, 12, 13, 14, 15, 16, 17, 18, 19, 20, 21, 22, 23, 24, 25, 26, 27, 28, 29, 30, 31, 32, 33, 34, 35, 36, 37, 38, 39, 40, 41, 42, 43, 44, 45, 46, 47, 48, 49])
    (.cond (.t 50)
      (.seq (.region [⟨(some 4), .mv (.k (.c (.d (.bool false)))), none⟩] [2, 3, 50])
      (.ret))
      (.skip)))
  (.seq (.seq (.region [⟨(some 5), .mv (.k (.c (.d (.int .i64 0)))), none⟩] [4, 50])
    (.block 0 (.loop (.seq (.seq (.region [⟨(some 51), .mv (.t 5), none⟩,
              ⟨(some 52), .fieldAddr 0 (.t 2), none⟩,
              ⟨(some 53), .load none (.t 52), none⟩,
              ⟨(some 54), .len 1 (.t 53), none⟩,
              ⟨(some 55), .bin .lss (.t 51) (.t 54), none⟩] [51, 52, 53, 54])
          (.cond (.t 55)
            (.skip)
            (.exit 0)))
        (.seq (.block 1 (.seq (.region [⟨(some 58), .fieldAddr 0 (.t 2), none⟩,
                ⟨(some 60), .mv (.t 5), none⟩,
                ⟨(some 63), .fieldAddr 0 (.t 3), none⟩,
                ⟨(some 65), .mv (.t 5), none⟩,
                ⟨(some 59), .load none (.t 58), none⟩,
                ⟨(some 61), .indexAddr 5 (.t 59) (.t 60), none⟩,
                ⟨(some 62), .load (some 5) (.t 61), none⟩,
                ⟨(some 64), .load none (.t 63), none⟩,
                ⟨(some 66), .indexAddr 5 (.t 64) (.t 65), none⟩,
                ⟨(some 67), .load (some 5) (.t 66), none⟩,
                ⟨(some 68), .qcall 70 [(.t 62), (.t 67)], none⟩,
                ⟨(some 69), .un .not (.t 68), none⟩] [55, 58, 59, 60, 61, 62, 63, 64, 65, 66, 67, 68])
            (.cond (.t 69)
              (.seq (.region [⟨(some 4), .mv (.k (.c (.d (.bool false)))), none⟩] [2, 3, 5, 69])
              (.ret))
              (.skip))))
        (.region [⟨(some 56), .mv (.t 5), none⟩,
          ⟨(some 57), .bin .add (.t 56) (.k (.c (.d (.int .i64 1)))), none⟩,
          ⟨(some 5), .mv (.t 57), none⟩] [4, 56, 57, 69]))))))
  (.seq (.seq (.region [⟨(some 6), .mv (.k (.c (.d (.int .i64 0)))), none⟩] [])
    (.block 2 (.loop (.seq (.seq (.region [⟨(some 70), .mv (.t 6), none⟩,
              ⟨(some 71), .fieldAddr 1 (.t 2), none⟩,
              ⟨(some 72), .load none (.t 71), none⟩,
              ⟨(some 73), .len 1 (.t 72), none⟩,
              ⟨(some 74), .bin .lss (.t 70) (.t 73), none⟩] [70, 71, 72, 73])
          (.cond (.t 74)
            (.skip)
            (.exit 2)))
        (.seq (.block 3 (.seq (.region [⟨(some 77), .fieldAddr 1 (.t 2), none⟩,
                ⟨(some 79), .mv (.t 6), none⟩,
                ⟨(some 82), .fieldAddr 1 (.t 3), none⟩,
                ⟨(some 84), .mv (.t 6), none⟩,
                ⟨(some 78), .load none (.t 77), none⟩,
                ⟨(some 80), .indexAddr 4 (.t 78) (.t 79), none⟩,
                ⟨(some 81), .load (some 4) (.t 80), none⟩,
                ⟨(some 83), .load none (.t 82), none⟩,
                ⟨(some 85), .indexAddr 4 (.t 83) (.t 84), none⟩,
                ⟨(some 86), .load (some 4) (.t 85), none⟩,
                ⟨(some 87), .qcall 71 [(.t 81), (.t 86)], none⟩,
                ⟨(some 88), .un .not (.t 87), none⟩] [74, 77, 78, 79, 80, 81, 82, 83, 84, 85, 86, 87])
            (.cond (.t 88)
              (.seq (.region [⟨(some 4), .mv (.k (.c (.d (.bool false)))), none⟩] [2, 3, 6, 88])
              (.ret))
              (.skip))))
        (.region [⟨(some 75), .mv (.t 6), none⟩,
          ⟨(some 76), .bin .add (.t 75) (.k (.c (.d (.int .i64 1)))), none⟩,
          ⟨(some 6), .mv (.t 76), none⟩] [4, 75, 76, 88]))))))
  (.seq (.region [⟨(some 4), .mv (.k (.c (.d (.bool true)))), none⟩] [])
  (.ret)))))
theorem ac26_ok : cFunc Try.prog [1000070, 1000071] [(0, [0, 1, 4], []), (1, [7, 8, 9, 10, 11, 12, 13, 14, 15, 16, 17, 18, 19, 20, 21, 22, 23, 24, 25, 26, 27, 28, 29, 30, 31, 32, 33, 34, 35, 36, 37, 38, 39, 40, 41, 42, 43, 44, 45, 46, 47, 48, 49], []), (2, [2, 3, 50], []), (3, [4, 50], []), (4, [51, 52, 53, 54], []), (6, [55, 58, 59, 60, 61, 62, 63, 64, 65, 66, 67, 68], [0, 2, 5, 7, 1, 3, 4, 6, 8, 9, 10, 11]), (7, [2, 3, 5, 69], []), (5, [4, 56, 57, 69], []), (8, [], []), (9, [70, 71, 72, 73], []), (11, [74, 77, 78, 79, 80, 81, 82, 83, 84, 85, 86, 87], [0, 2, 5, 7, 1, 3, 4, 6, 8, 9, 10, 11]), (12, [2, 3, 6, 88], []), (10, [4, 75, 76, 88], []), (13, [], [])] Try.f26 = some (ac26, [.tmp 4], 89) := by kernel_rfl
-- 28 loop.example/prologserver/impl.SessionSame params 2 ntmps 45
def ac28 : Cd := .seq (.region [⟨(some 2), .box (.t 0), none⟩,
      ⟨(some 3), .box (.t 1), none⟩,
      ⟨(some 4), .mv (.k (.c (.d (.bool false)))), none⟩] [0, 1, 4])
  (.seq (.region [⟨(some 5), .fieldAddr 0 (.t 2), none⟩,
      ⟨(some 6), .load none (.t 5), none⟩,
      ⟨(some 7), .fieldAddr 0 (.t 3), none⟩,
      ⟨(some 8), .load none (.t 7), none⟩,
      ⟨(some 9), .qcall 72 [(.t 6), (.t 8), (.k (.c (.fn 73 [])))], none⟩,
      ⟨(some 10), .mv (.t 9), none⟩,
      ⟨(some 11), .fieldAddr 1 (.t 2), some (10, true)⟩,
      ⟨(some 12), .load none (.t 11), some (10, true)⟩,
      ⟨(some 13), .fieldAddr 1 (.t 3), some (10, true)⟩,
      ⟨(some 14), .load none (.t 13), some (10, true)⟩,
      ⟨(some 15), .qcall 74 [(.t 12), (.t 14), (.k (.c (.fn 57 [])))], some (10, true)⟩,
      ⟨(some 16), .pick (.t 10) (.t 15) (.k (.c (.d (.bool false)))), none⟩,
      ⟨(some 17), .mv (.t 16), none⟩,
      ⟨(some 18), .fieldAddr 2 (.t 2), some (17, true)⟩,
      ⟨(some 19), .load none (.t 18), some (17, true)⟩,
      ⟨(some 20), .fieldAddr 2 (.t 3), some (17, true)⟩,
      ⟨(some 21), .load none (.t 20), some (17, true)⟩,
      ⟨(some 22), .bin .eql (.t 19) (.t 21), some (17, true)⟩,
      ⟨(some 23), .pick (.t 17) (.t 22) (.k (.c (.d (.bool false)))), none⟩,
      ⟨(some 24), .mv (.t 23), none⟩,
      ⟨(some 25), .fieldAddr 3 (.t 2), some (24, true)⟩,
      ⟨(some 26), .load none (.t 25), some (24, true)⟩,
      ⟨(some 27), .fieldAddr 3 (.t 3), some (24, true)⟩,
      ⟨(some 28), .load none (.t 27), some (24, true)⟩,
      ⟨(some 29), .bin .eql (.t 26) (.t 28), some (24, true)⟩,
      ⟨(some 30), .pick (.t 24) (.t 29) (.k (.c (.d (.bool false)))), none⟩,
      ⟨(some 31), .mv (.t 30), none⟩,
      ⟨(some 32), .fieldAddr 4 (.t 2), some (31, true)⟩,
      ⟨(some 33), .load none (.t 32), some (31, true)⟩,
      ⟨(some 34), .fieldAddr 4 (.t 3), some (31, true)⟩,
      ⟨(some 35), .load none (.t 34), some (31, true)⟩,
      ⟨(some 36), .bin .eql (.t 33) (.t 35), some (31, true)⟩,
      ⟨(some 37), .pick (.t 31) (.t 36) (.k (.c (.d (.bool false)))), none⟩,
      ⟨(some 38), .mv (.t 37), none⟩,
      ⟨(some 39), .fieldAddr 5 (.t 2), some (38, true)⟩,
      ⟨(some 40), .load none (.t 39), some (38, true)⟩,
      ⟨(some 41), .fieldAddr 5 (.t 3), some (38, true)⟩,
      ⟨(some 42), .load none (.t 41), some (38, true)⟩,
      ⟨(some 43), .bin .eql (.t 40) (.t 42), some (38, true)⟩,
      ⟨(some 44), .pick (.t 38) (.t 43) (.k (.c (.d (.bool false)))), none⟩,
      ⟨(some 4), .mv (.t 44), none⟩] [2, 3, 5, 6, 7, 8, 9, 10, 11, 12, 13, 14, 15, 16, 17, 18, 19, 20, 21, 22, 23, 24, 25, 26, 27, 28, 29, 30, 31, 32, 33, 34, 35, 36, 37, 38, 39, 40, 41, 42, 43, 44])
  (.ret))
theorem ac28_ok : cFunc Try.prog [1000072, 1000074] [(0, [0, 1, 4], []), (1, [2, 3, 5, 6, 7, 8, 9, 10, 11, 12, 13, 14, 15, 16, 17, 18, 19, 20, 21, 22, 23, 24, 25, 26, 27, 28, 29, 30, 31, 32, 33, 34, 35, 36, 37, 38, 39, 40, 41, 42, 43, 44], [])] Try.f28 = some (ac28, [.tmp 4], 45) := by kernel_rfl
-- 5 loop.example/prologserver/laws.FnExactSessionSame params 2 ntmps 45
def ac5 : Cd := .seq (.region [⟨(some 2), .box (.t 0), none⟩,
      ⟨(some 3), .box (.t 1), none⟩,
      ⟨(some 4), .mv (.k (.c (.d (.bool false)))), none⟩] [0, 1, 4])
  (.seq (.region [⟨(some 5), .mv (.k (.c (.d (.int .i64 1048576)))), none⟩] [])
  (.seq (.region [⟨(some 10), .load (some 6) (.t 2), none⟩,
      ⟨(some 11), .mv (.t 5), none⟩,
      ⟨(some 12), .call false 25 [(.t 10), (.t 11)], none⟩,
      ⟨(some 5), .mv (.t 12), none⟩] [10, 11, 12])
  (.seq (.seq (.region [⟨(some 13), .mv (.t 5), none⟩,
        ⟨(some 14), .bin .lss (.t 13) (.k (.c (.d (.int .i64 0)))), none⟩] [13])
    (.cond (.t 14)
      (.seq (.region [⟨(some 4), .mv (.k (.c (.d (.bool true)))), none⟩] [2, 3, 5, 14])
      (.ret))
      (.skip)))
  (.seq (.region [⟨(some 15), .load (some 6) (.t 3), none⟩,
      ⟨(some 16), .mv (.t 5), none⟩,
      ⟨(some 17), .call false 25 [(.t 15), (.t 16)], none⟩,
      ⟨(some 5), .mv (.t 17), none⟩] [4, 14, 15, 16, 17])
  (.seq (.seq (.region [⟨(some 18), .mv (.t 5), none⟩,
        ⟨(some 19), .bin .lss (.t 18) (.k (.c (.d (.int .i64 0)))), none⟩] [5, 18])
    (.cond (.t 19)
      (.seq (.region [⟨(some 4), .mv (.k (.c (.d (.bool true)))), none⟩] [2, 3, 19])
      (.ret))
      (.skip)))
  (.seq (.region [⟨(some 20), .load (some 6) (.t 2), none⟩,
      ⟨(some 21), .qcall 27 [(.t 20)], none⟩,
      ⟨(some 22), .load (some 6) (.t 3), none⟩,
      ⟨(some 23), .qcall 27 [(.t 22)], none⟩,
      ⟨(some 24), .qcall 26 [(.t 21), (.t 23)], none⟩,
      ⟨(some 6), .mv (.t 24), none⟩] [4, 19, 20, 21, 22, 23, 24])
  (.seq (.region [⟨(some 25), .load (some 6) (.t 2), none⟩,
      ⟨(some 26), .qcall 27 [(.t 25)], none⟩,
      ⟨(some 7), .alloc [(.full []), (.full []), (.d (.int .i64 0)), (.d (.int .i64 0)), (.d (.int .i64 0)), (.d (.int .i64 0))], none⟩,
      ⟨none, .store 6 (.t 7) (.t 26), none⟩] [25, 26])
  (.seq (.region [⟨(some 27), .load (some 6) (.t 3), none⟩,
      ⟨(some 28), .qcall 27 [(.t 27)], none⟩,
      ⟨(some 8), .alloc [(.full []), (.full []), (.d (.int .i64 0)), (.d (.int .i64 0)), (.d (.int .i64 0)), (.d (.int .i64 0))], none⟩,
      ⟨none, .store 6 (.t 8) (.t 28), none⟩] [27, 28])
  (.seq (.region [⟨(some 29), .load (some 6) (.t 7), none⟩,
      ⟨(some 30), .load (some 6) (.t 8), none⟩,
      ⟨(some 31), .qcall 28 [(.t 29), (.t 30)], none⟩,
      ⟨(some 9), .mv (.t 31), none⟩] [29, 30, 31])
  (.seq (.seq (.region [⟨(some 32), .mv (.t 9), none⟩,
        ⟨(some 33), .mv (.t 6), none⟩,
        ⟨(some 34), .binB true (.t 32) (.t 33), none⟩] [6, 9, 32, 33])
    (.cond (.t 34)
      (.seq (.region [⟨(some 4), .mv (.k (.c (.d (.bool false)))), none⟩] [2, 3, 7, 8, 34])
      (.ret))
      (.skip)))
  (.seq (.seq (.region [⟨(some 35), .load (some 6) (.t 7), none⟩,
        ⟨(some 36), .load (some 6) (.t 2), none⟩,
        ⟨(some 37), .qcall 27 [(.t 36)], none⟩,
        ⟨(some 38), .qcall 29 [(.t 35), (.t 37)], none⟩,
        ⟨(some 39), .un .not (.t 38), none⟩] [2, 4, 7, 34, 35, 36, 37, 38])
    (.cond (.t 39)
      (.seq (.region [⟨(some 4), .mv (.k (.c (.d (.bool false)))), none⟩] [3, 8, 39])
      (.ret))
      (.skip)))
  (.seq (.seq (.region [⟨(some 40), .load (some 6) (.t 8), none⟩,
        ⟨(some 41), .load (some 6) (.t 3), none⟩,
        ⟨(some 42), .qcall 27 [(.t 41)], none⟩,
        ⟨(some 43), .qcall 29 [(.t 40), (.t 42)], none⟩,
        ⟨(some 44), .un .not (.t 43), none⟩] [3, 4, 8, 39, 40, 41, 42, 43])
    (.cond (.t 44)
      (.seq (.region [⟨(some 4), .mv (.k (.c (.d (.bool false)))), none⟩] [44])
      (.ret))
      (.skip)))
  (.seq (.region [⟨(some 4), .mv (.k (.c (.d (.bool true)))), none⟩] [44])
  (.ret))))))))))))))
theorem ac5_ok : cFunc Try.prog [1000026, 1000027, 1000028, 1000029] [(0, [0, 1, 4], []), (1, [], []), (2, [10, 11, 12], []), (3, [13], []), (4, [2, 3, 5, 14], []), (5, [4, 14, 15, 16, 17], []), (6, [5, 18], []), (7, [2, 3, 19], []), (8, [4, 19, 20, 21, 22, 23, 24], [0, 1, 2, 3, 4, 5]), (9, [25, 26], []), (10, [27, 28], []), (11, [29, 30, 31], []), (12, [6, 9, 32, 33], []), (13, [2, 3, 7, 8, 34], []), (14, [2, 4, 7, 34, 35, 36, 37, 38], [0, 1, 2, 3, 4]), (15, [3, 8, 39], []), (16, [3, 4, 8, 39, 40, 41, 42, 43], [0, 1, 2, 3, 4]), (17, [44], []), (18, [44], [])] Try.f5 = some (ac5, [.tmp 4], 45) := by kernel_rfl
/-- a session -/
structure Ss where
  prog : List Cl
  query : List Tm
  quota : Int
  used : Int
  sent : Int
  fin : Int
noncomputable instance : DecidableEq Ss := fun a b => Classical.propDecidable (a = b)
def Ss.row (s : Ss) : List D := [.sl (s.prog.map Cl.row), .sl (s.query.map Tm.row), .int .i64 s.quota, .int .i64 s.used, .int .i64 s.sent, .int .i64 s.fin]
def FitsT (l : List Tm) : Prop := l.length ≤ 1048576 ∧ ∀ t ∈ l, t.fits
structure Ss.fine (s : Ss) : Prop where
  plen : s.prog.length ≤ reachBytes
  prog : ∀ c ∈ s.prog, c.fine
  qlen : s.query.length ≤ reachBytes
  query : ∀ t ∈ s.query, t.fine
structure Ss.fits (s : Ss) : Prop where
  prog : FitsC s.prog
  query : FitsT s.query
theorem szSession_calls (s : Ss) (hs : s.fine) (m : Int) (h0 : 0 ≤ m) (h1 : m ≤ 1048576) (H : Heap) :
    ACalls Try.prog 25 [.agg (s.row.map .d), .c (.d (.int .i64 m))] H (fun r H' => H' = H ∧ Left m s.fits r) := by
  obtain ⟨p, q, a, b, c, d⟩ := s
  obtain ⟨hp, hpf, hq, hqf⟩ := hs
  refine acalls Try.func25 (by kernel_rfl) ac25_ok fun hf => ?_
  simp -implicitDefEqProofs [ac25, Ss.row, aw_skip, aw_region, aw_seq, aw_block, aw_cond, aw_exit, aw_ret, kq_nil, kq_seq, kq_seq_ret, kq_seq_exit, kq_block, kq_block_ret, kq_block_exit, kq_loop, kq_loop_ret, kq_loop_exit, awOps_nil, awOps_cons, awOps_guardE, nx_eq, awOp, ev_k, ev_0, ev_1, ev_2, ev_3, ev_4, ev_5, ev_6, ev_7, ev_8, set_0, set_1, set_2, set_3, set_4, set_5, set_6, set_7, set_8, -List.set_cons_succ, -List.set_cons_zero, A.ok, A.val, setSl, wrapG, guardB, getB, pickA, binA, binC, binD, cmpD, isCmp, unA, unD, lenA, AOp.total, kills, litB, FinQ, resOks, resOk, resA, resList, resOne, A.thaw, C.thaw, A.fits, As.fits, C.fits, evs, oks, callArgs, A.pure, C.pure, A.re, C.re, fieldAddrA, loadC, cut, A.cells, C.rows?, getOb, newOb, setOb, storeC, splice, Ob.re, Cs.fits, partsA, partsOk, parts2A, parts2Ok, fillC, fillRows, optInt, optOk, sliceA, optK_some, storeK_some, Option.map_some, toDs, C.toD, spliceD, appendA, srcRows, allLen_nil_iff, allLen_cons_iff, allLen_append_iff, dropC, Obs.fits, eqCs, eqD]
  refine call_some (szClauseS_calls p hp hpf m h0 h1 _) (by simp [Ob.re, C.re]) (fun r => Left.re) hf ?_
  rintro _ ⟨x, rfl, hx0, hx1, hx2⟩
  simp -implicitDefEqProofs [aw_skip, aw_region, aw_seq, aw_block, aw_cond, aw_exit, aw_ret, kq_nil, kq_seq, kq_seq_ret, kq_seq_exit, kq_block, kq_block_ret, kq_block_exit, kq_loop, kq_loop_ret, kq_loop_exit, awOps_nil, awOps_cons, awOps_guardE, nx_eq, awOp, ev_k, ev_0, ev_1, ev_2, ev_3, ev_4, ev_5, ev_6, ev_7, ev_8, set_0, set_1, set_2, set_3, set_4, set_5, set_6, set_7, set_8, -List.set_cons_succ, -List.set_cons_zero, A.ok, A.val, setSl, wrapG, guardB, getB, pickA, binA, binC, binD, cmpD, isCmp, unA, unD, lenA, AOp.total, kills, litB, FinQ, resOks, resOk, resA, resList, resOne, A.thaw, C.thaw, A.fits, As.fits, C.fits, evs, oks, callArgs, A.pure, C.pure, A.re, C.re, fieldAddrA, loadC, cut, A.cells, C.rows?, getOb, newOb, setOb, storeC, splice, Ob.re, Cs.fits, partsA, partsOk, parts2A, parts2Ok, fillC, fillRows, optInt, optOk, sliceA, optK_some, storeK_some, Option.map_some, toDs, C.toD, spliceD, appendA, srcRows, allLen_nil_iff, allLen_cons_iff, allLen_append_iff, dropC, Obs.fits, eqCs, eqD]
  refine ⟨fun _ => ⟨-1, rfl, by omega, by omega, fun h => by omega⟩, fun hx => ?_⟩
  refine call_some (szTermS_calls q hq hqf x hx (by omega) _) (by simp [Ob.re, C.re]) (fun r => Left.re) hf ?_
  rintro _ ⟨y, rfl, hy0, hy1, hy2⟩
  simp -implicitDefEqProofs [aw_skip, aw_region, aw_seq, aw_block, aw_cond, aw_exit, aw_ret, kq_nil, kq_seq, kq_seq_ret, kq_seq_exit, kq_block, kq_block_ret, kq_block_exit, kq_loop, kq_loop_ret, kq_loop_exit, awOps_nil, awOps_cons, awOps_guardE, nx_eq, awOp, ev_k, ev_0, ev_1, ev_2, ev_3, ev_4, ev_5, ev_6, ev_7, ev_8, set_0, set_1, set_2, set_3, set_4, set_5, set_6, set_7, set_8, -List.set_cons_succ, -List.set_cons_zero, A.ok, A.val, setSl, wrapG, guardB, getB, pickA, binA, binC, binD, cmpD, isCmp, unA, unD, lenA, AOp.total, kills, litB, FinQ, resOks, resOk, resA, resList, resOne, A.thaw, C.thaw, A.fits, As.fits, C.fits, evs, oks, callArgs, A.pure, C.pure, A.re, C.re, fieldAddrA, loadC, cut, A.cells, C.rows?, getOb, newOb, setOb, storeC, splice, Ob.re, Cs.fits, partsA, partsOk, parts2A, parts2Ok, fillC, fillRows, optInt, optOk, sliceA, optK_some, storeK_some, Option.map_some, toDs, C.toD, spliceD, appendA, srcRows, allLen_nil_iff, allLen_cons_iff, allLen_append_iff, dropC, Obs.fits, eqCs, eqD]
  exact ⟨fun _ => ⟨-1, rfl, by omega, by omega, fun h => by omega⟩, fun hy => ⟨y, rfl, by omega, by omega, fun _ => ⟨hx2 hx, hy2 hy⟩⟩⟩
theorem toSession_calls (s : Ss) (hs : s.fits) (H : Heap) : ACalls Try.prog 27 [.agg (s.row.map .d)] H (fun r H' => H' = H ∧ r = .agg (s.row.map .d)) := by
  obtain ⟨p, q, a, b, c, d⟩ := s
  obtain ⟨hp, hq⟩ := hs
  refine acalls Try.func27 (by kernel_rfl) ac27_ok fun hf => ?_
  simp -implicitDefEqProofs [ac27, Ss.row, hf, aw_skip, aw_region, aw_seq, aw_block, aw_cond, aw_exit, aw_ret, kq_nil, kq_seq, kq_seq_ret, kq_seq_exit, kq_block, kq_block_ret, kq_block_exit, kq_loop, kq_loop_ret, kq_loop_exit, awOps_nil, awOps_cons, awOps_guardE, nx_eq, awOp, ev_k, ev_0, ev_1, ev_2, ev_3, ev_4, ev_5, ev_6, ev_7, ev_8, set_0, set_1, set_2, set_3, set_4, set_5, set_6, set_7, set_8, -List.set_cons_succ, -List.set_cons_zero, A.ok, A.val, setSl, wrapG, guardB, getB, pickA, binA, binC, binD, cmpD, isCmp, unA, unD, lenA, AOp.total, kills, litB, FinQ, resOks, resOk, resA, resList, resOne, A.thaw, C.thaw, A.fits, As.fits, C.fits, evs, oks, callArgs, A.pure, C.pure, A.re, C.re, fieldAddrA, loadC, cut, A.cells, C.rows?, getOb, newOb, setOb, storeC, splice, Ob.re, Cs.fits, partsA, partsOk, parts2A, parts2Ok, fillC, fillRows, optInt, optOk, sliceA, optK_some, storeK_some, Option.map_some, toDs, C.toD, spliceD, appendA, srcRows, allLen_nil_iff, allLen_cons_iff, allLen_append_iff, dropC, Obs.fits, eqCs, eqD]
  refine qcall_pure (toClauseS_calls p hp) hf rfl ?_
  simp -implicitDefEqProofs [hf, aw_skip, aw_region, aw_seq, aw_block, aw_cond, aw_exit, aw_ret, kq_nil, kq_seq, kq_seq_ret, kq_seq_exit, kq_block, kq_block_ret, kq_block_exit, kq_loop, kq_loop_ret, kq_loop_exit, awOps_nil, awOps_cons, awOps_guardE, nx_eq, awOp, ev_k, ev_0, ev_1, ev_2, ev_3, ev_4, ev_5, ev_6, ev_7, ev_8, set_0, set_1, set_2, set_3, set_4, set_5, set_6, set_7, set_8, -List.set_cons_succ, -List.set_cons_zero, A.ok, A.val, setSl, wrapG, guardB, getB, pickA, binA, binC, binD, cmpD, isCmp, unA, unD, lenA, AOp.total, kills, litB, FinQ, resOks, resOk, resA, resList, resOne, A.thaw, C.thaw, A.fits, As.fits, C.fits, evs, oks, callArgs, A.pure, C.pure, A.re, C.re, fieldAddrA, loadC, cut, A.cells, C.rows?, getOb, newOb, setOb, storeC, splice, Ob.re, Cs.fits, partsA, partsOk, parts2A, parts2Ok, fillC, fillRows, optInt, optOk, sliceA, optK_some, storeK_some, Option.map_some, toDs, C.toD, spliceD, appendA, srcRows, allLen_nil_iff, allLen_cons_iff, allLen_append_iff, dropC, Obs.fits, eqCs, eqD]
  refine qcall_pure (toTermS_calls q hq.1 hq.2) hf rfl ?_
  simp -implicitDefEqProofs [hf, aw_skip, aw_region, aw_seq, aw_block, aw_cond, aw_exit, aw_ret, kq_nil, kq_seq, kq_seq_ret, kq_seq_exit, kq_block, kq_block_ret, kq_block_exit, kq_loop, kq_loop_ret, kq_loop_exit, awOps_nil, awOps_cons, awOps_guardE, nx_eq, awOp, ev_k, ev_0, ev_1, ev_2, ev_3, ev_4, ev_5, ev_6, ev_7, ev_8, set_0, set_1, set_2, set_3, set_4, set_5, set_6, set_7, set_8, -List.set_cons_succ, -List.set_cons_zero, A.ok, A.val, setSl, wrapG, guardB, getB, pickA, binA, binC, binD, cmpD, isCmp, unA, unD, lenA, AOp.total, kills, litB, FinQ, resOks, resOk, resA, resList, resOne, A.thaw, C.thaw, A.fits, As.fits, C.fits, evs, oks, callArgs, A.pure, C.pure, A.re, C.re, fieldAddrA, loadC, cut, A.cells, C.rows?, getOb, newOb, setOb, storeC, splice, Ob.re, Cs.fits, partsA, partsOk, parts2A, parts2Ok, fillC, fillRows, optInt, optOk, sliceA, optK_some, storeK_some, Option.map_some, toDs, C.toD, spliceD, appendA, srcRows, allLen_nil_iff, allLen_cons_iff, allLen_append_iff, dropC, Obs.fits, eqCs, eqD]
theorem eqSession_calls (s : Ss) (hs : s.fits) (H : Heap) : ACalls Try.prog 29 [.agg (s.row.map .d), .agg (s.row.map .d)] H (fun r H' => H' = H ∧ r = .c (.d (.bool true))) := by
  obtain ⟨p, q, a, b, c, d⟩ := s
  obtain ⟨hp, hq⟩ := hs
  refine acalls Try.func29 (by kernel_rfl) ac29_ok fun hf => ?_
  simp -implicitDefEqProofs [ac29, Ss.row, hf, aw_skip, aw_region, aw_seq, aw_block, aw_cond, aw_exit, aw_ret, kq_nil, kq_seq, kq_seq_ret, kq_seq_exit, kq_block, kq_block_ret, kq_block_exit, kq_loop, kq_loop_ret, kq_loop_exit, awOps_nil, awOps_cons, awOps_guardE, nx_eq, awOp, ev_k, ev_0, ev_1, ev_2, ev_3, ev_4, ev_5, ev_6, ev_7, ev_8, set_0, set_1, set_2, set_3, set_4, set_5, set_6, set_7, set_8, -List.set_cons_succ, -List.set_cons_zero, A.ok, A.val, setSl, wrapG, guardB, getB, pickA, binA, binC, binD, cmpD, isCmp, unA, unD, lenA, AOp.total, kills, litB, FinQ, resOks, resOk, resA, resList, resOne, A.thaw, C.thaw, A.fits, As.fits, C.fits, evs, oks, callArgs, A.pure, C.pure, A.re, C.re, fieldAddrA, loadC, cut, A.cells, C.rows?, getOb, newOb, setOb, storeC, splice, Ob.re, Cs.fits, partsA, partsOk, parts2A, parts2Ok, fillC, fillRows, optInt, optOk, sliceA, optK_some, storeK_some, Option.map_some, toDs, C.toD, spliceD, appendA, srcRows, allLen_nil_iff, allLen_cons_iff, allLen_append_iff, dropC, Obs.fits, eqCs, eqD]
  refine qcall_pure (eqClauseS_calls p hp) hf rfl ?_
  simp -implicitDefEqProofs [hf, aw_skip, aw_region, aw_seq, aw_block, aw_cond, aw_exit, aw_ret, kq_nil, kq_seq, kq_seq_ret, kq_seq_exit, kq_block, kq_block_ret, kq_block_exit, kq_loop, kq_loop_ret, kq_loop_exit, awOps_nil, awOps_cons, awOps_guardE, nx_eq, awOp, ev_k, ev_0, ev_1, ev_2, ev_3, ev_4, ev_5, ev_6, ev_7, ev_8, set_0, set_1, set_2, set_3, set_4, set_5, set_6, set_7, set_8, -List.set_cons_succ, -List.set_cons_zero, A.ok, A.val, setSl, wrapG, guardB, getB, pickA, binA, binC, binD, cmpD, isCmp, unA, unD, lenA, AOp.total, kills, litB, FinQ, resOks, resOk, resA, resList, resOne, A.thaw, C.thaw, A.fits, As.fits, C.fits, evs, oks, callArgs, A.pure, C.pure, A.re, C.re, fieldAddrA, loadC, cut, A.cells, C.rows?, getOb, newOb, setOb, storeC, splice, Ob.re, Cs.fits, partsA, partsOk, parts2A, parts2Ok, fillC, fillRows, optInt, optOk, sliceA, optK_some, storeK_some, Option.map_some, toDs, C.toD, spliceD, appendA, srcRows, allLen_nil_iff, allLen_cons_iff, allLen_append_iff, dropC, Obs.fits, eqCs, eqD]
  refine qcall_pure (eqTermS_calls q hq.1 hq.2) hf rfl ?_
  simp -implicitDefEqProofs [hf, aw_skip, aw_region, aw_seq, aw_block, aw_cond, aw_exit, aw_ret, kq_nil, kq_seq, kq_seq_ret, kq_seq_exit, kq_block, kq_block_ret, kq_block_exit, kq_loop, kq_loop_ret, kq_loop_exit, awOps_nil, awOps_cons, awOps_guardE, nx_eq, awOp, ev_k, ev_0, ev_1, ev_2, ev_3, ev_4, ev_5, ev_6, ev_7, ev_8, set_0, set_1, set_2, set_3, set_4, set_5, set_6, set_7, set_8, -List.set_cons_succ, -List.set_cons_zero, A.ok, A.val, setSl, wrapG, guardB, getB, pickA, binA, binC, binD, cmpD, isCmp, unA, unD, lenA, AOp.total, kills, litB, FinQ, resOks, resOk, resA, resList, resOne, A.thaw, C.thaw, A.fits, As.fits, C.fits, evs, oks, callArgs, A.pure, C.pure, A.re, C.re, fieldAddrA, loadC, cut, A.cells, C.rows?, getOb, newOb, setOb, storeC, splice, Ob.re, Cs.fits, partsA, partsOk, parts2A, parts2Ok, fillC, fillRows, optInt, optOk, sliceA, optK_some, storeK_some, Option.map_some, toDs, C.toD, spliceD, appendA, srcRows, allLen_nil_iff, allLen_cons_iff, allLen_append_iff, dropC, Obs.fits, eqCs, eqD]
theorem ssImpl_calls (a b : Ss) (ha : a.fits) (hb : b.fits) (H : Heap) : ACalls Try.prog 28 [.agg (a.row.map .d), .agg (b.row.map .d)] H (fun r H' => H' = H ∧ r = .c (.d (.bool (decide (a = b))))) := by
  obtain ⟨p, q, a1, a2, a3, a4⟩ := a
  obtain ⟨p', q', b1, b2, b3, b4⟩ := b
  obtain ⟨hp, hq⟩ := ha
  obtain ⟨hp', hq'⟩ := hb
  refine acalls Try.func28 (by kernel_rfl) ac28_ok fun hf => ?_
  simp -implicitDefEqProofs [ac28, Ss.row, hf, aw_skip, aw_region, aw_seq, aw_block, aw_cond, aw_exit, aw_ret, kq_nil, kq_seq, kq_seq_ret, kq_seq_exit, kq_block, kq_block_ret, kq_block_exit, kq_loop, kq_loop_ret, kq_loop_exit, awOps_nil, awOps_cons, awOps_guardE, nx_eq, awOp, ev_k, ev_0, ev_1, ev_2, ev_3, ev_4, ev_5, ev_6, ev_7, ev_8, set_0, set_1, set_2, set_3, set_4, set_5, set_6, set_7, set_8, -List.set_cons_succ, -List.set_cons_zero, A.ok, A.val, setSl, wrapG, guardB, getB, pickA, binA, binC, binD, cmpD, isCmp, unA, unD, lenA, AOp.total, kills, litB, FinQ, resOks, resOk, resA, resList, resOne, A.thaw, C.thaw, A.fits, As.fits, C.fits, evs, oks, callArgs, A.pure, C.pure, A.re, C.re, fieldAddrA, loadC, cut, A.cells, C.rows?, getOb, newOb, setOb, storeC, splice, Ob.re, Cs.fits, partsA, partsOk, parts2A, parts2Ok, fillC, fillRows, optInt, optOk, sliceA, optK_some, storeK_some, Option.map_some, toDs, C.toD, spliceD, appendA, srcRows, allLen_nil_iff, allLen_cons_iff, allLen_append_iff, dropC, Obs.fits, eqCs, eqD]
  refine qcall_pure (eqFuncC_of 73 p p' hp.1 hp'.1 fun x hx y hy => csImpl_calls x y (hp.2 x hx) (hp'.2 y hy)) hf rfl ?_
  simp -implicitDefEqProofs [hf, aw_skip, aw_region, aw_seq, aw_block, aw_cond, aw_exit, aw_ret, kq_nil, kq_seq, kq_seq_ret, kq_seq_exit, kq_block, kq_block_ret, kq_block_exit, kq_loop, kq_loop_ret, kq_loop_exit, awOps_nil, awOps_cons, awOps_guardE, nx_eq, awOp, ev_k, ev_0, ev_1, ev_2, ev_3, ev_4, ev_5, ev_6, ev_7, ev_8, set_0, set_1, set_2, set_3, set_4, set_5, set_6, set_7, set_8, -List.set_cons_succ, -List.set_cons_zero, A.ok, A.val, setSl, wrapG, guardB, getB, pickA, binA, binC, binD, cmpD, isCmp, unA, unD, lenA, AOp.total, kills, litB, FinQ, resOks, resOk, resA, resList, resOne, A.thaw, C.thaw, A.fits, As.fits, C.fits, evs, oks, callArgs, A.pure, C.pure, A.re, C.re, fieldAddrA, loadC, cut, A.cells, C.rows?, getOb, newOb, setOb, storeC, splice, Ob.re, Cs.fits, partsA, partsOk, parts2A, parts2Ok, fillC, fillRows, optInt, optOk, sliceA, optK_some, storeK_some, Option.map_some, toDs, C.toD, spliceD, appendA, srcRows, allLen_nil_iff, allLen_cons_iff, allLen_append_iff, dropC, Obs.fits, eqCs, eqD]
  refine ⟨fun e => ?_, fun e e2 => absurd e2 e⟩
  refine ⟨e, qcall_pure (eqFunc_of 57 q q' hq.1 hq'.1 fun x hx y hy => sameImpl_calls x (hq.2 x hx) y (hq'.2 y hy)) hf rfl ?_⟩
  simp -implicitDefEqProofs [hf, e, aw_skip, aw_region, aw_seq, aw_block, aw_cond, aw_exit, aw_ret, kq_nil, kq_seq, kq_seq_ret, kq_seq_exit, kq_block, kq_block_ret, kq_block_exit, kq_loop, kq_loop_ret, kq_loop_exit, awOps_nil, awOps_cons, awOps_guardE, nx_eq, awOp, ev_k, ev_0, ev_1, ev_2, ev_3, ev_4, ev_5, ev_6, ev_7, ev_8, set_0, set_1, set_2, set_3, set_4, set_5, set_6, set_7, set_8, -List.set_cons_succ, -List.set_cons_zero, A.ok, A.val, setSl, wrapG, guardB, getB, pickA, binA, binC, binD, cmpD, isCmp, unA, unD, lenA, AOp.total, kills, litB, FinQ, resOks, resOk, resA, resList, resOne, A.thaw, C.thaw, A.fits, As.fits, C.fits, evs, oks, callArgs, A.pure, C.pure, A.re, C.re, fieldAddrA, loadC, cut, A.cells, C.rows?, getOb, newOb, setOb, storeC, splice, Ob.re, Cs.fits, partsA, partsOk, parts2A, parts2Ok, fillC, fillRows, optInt, optOk, sliceA, optK_some, storeK_some, Option.map_some, toDs, C.toD, spliceD, appendA, srcRows, allLen_nil_iff, allLen_cons_iff, allLen_append_iff, dropC, Obs.fits, eqCs, eqD]
  try (rw [Bool.eq_iff_iff]; simp [and_assoc])
theorem ssSpec_calls (a b : Ss) (ha : a.fits) (hb : b.fits) (H : Heap) : ACalls Try.prog 26 [.agg (a.row.map .d), .agg (b.row.map .d)] H (fun r H' => H' = H ∧ r = .c (.d (.bool (decide (a = b))))) := by
  obtain ⟨p, q, a1, a2, a3, a4⟩ := a
  obtain ⟨p', q', b1, b2, b3, b4⟩ := b
  obtain ⟨⟨hpl, hpf⟩, ⟨hql, hqf⟩⟩ := ha
  obtain ⟨⟨hpl', hpf'⟩, ⟨hql', hqf'⟩⟩ := hb
  simp only at hpl hpf hql hqf hpl' hpf' hql' hqf'
  have i1 : inR .i64 (p.length : Int) := small_i64 (by omega) (by omega)
  have i2 : inR .i64 (p'.length : Int) := small_i64 (by omega) (by omega)
  have i3 : inR .i64 (q.length : Int) := small_i64 (by omega) (by omega)
  have i4 : inR .i64 (q'.length : Int) := small_i64 (by omega) (by omega)
  refine acalls Try.func26 (by kernel_rfl) ac26_ok fun hf => ?_
  simp -implicitDefEqProofs [ac26, Ss.row, hf, i1, i2, i3, i4, aw_skip, aw_region, aw_seq, aw_block, aw_cond, aw_exit, aw_ret, kq_nil, kq_seq, kq_seq_ret, kq_seq_exit, kq_block, kq_block_ret, kq_block_exit, kq_loop, kq_loop_ret, kq_loop_exit, awOps_nil, awOps_cons, awOps_guardE, nx_eq, awOp, ev_k, ev_0, ev_1, ev_2, ev_3, ev_4, ev_5, ev_6, ev_7, ev_8, set_0, set_1, set_2, set_3, set_4, set_5, set_6, set_7, set_8, -List.set_cons_succ, -List.set_cons_zero, A.ok, A.val, setSl, wrapG, guardB, getB, pickA, binA, binC, binD, cmpD, isCmp, unA, unD, lenA, AOp.total, kills, litB, FinQ, resOks, resOk, resA, resList, resOne, A.thaw, C.thaw, A.fits, As.fits, C.fits, evs, oks, callArgs, A.pure, C.pure, A.re, C.re, fieldAddrA, loadC, cut, A.cells, C.rows?, getOb, newOb, setOb, storeC, splice, Ob.re, Cs.fits, partsA, partsOk, parts2A, parts2Ok, fillC, fillRows, optInt, optOk, sliceA, optK_some, storeK_some, Option.map_some, toDs, C.toD, spliceD, appendA, srcRows, allLen_nil_iff, allLen_cons_iff, allLen_append_iff, dropC, Obs.fits, eqCs, eqD]
  refine ⟨fun h e1 e2 e3 e4 e5 e6 => by subst e1 e2; simp [e3, e4, e5, e6] at h, fun l1 l2 e3 e4 e5 e6 => ?_⟩
  have l1 : p.length = p'.length := by omega
  have l2 : q.length = q'.length := by omega
  subst e3 e4 e5 e6
  refine loop_set (σ := Nat) (fun i => [(5, .c (.d (.int .i64 i)))]) (fun _ => H) (fun _ => [_, _]) (fun i => i ≤ p.length ∧ p.take i = p'.take i) (fun i => p.length - i) 0 rfl ⟨Nat.zero_le _, rfl⟩ ?_
  rintro i ⟨hi, htk⟩
  simp -implicitDefEqProofs [setAll, i1, aw_skip, aw_region, aw_seq, aw_block, aw_cond, aw_exit, aw_ret, kq_nil, kq_seq, kq_seq_ret, kq_seq_exit, kq_block, kq_block_ret, kq_block_exit, kq_loop, kq_loop_ret, kq_loop_exit, awOps_nil, awOps_cons, awOps_guardE, nx_eq, awOp, ev_k, ev_0, ev_1, ev_2, ev_3, ev_4, ev_5, ev_6, ev_7, ev_8, set_0, set_1, set_2, set_3, set_4, set_5, set_6, set_7, set_8, -List.set_cons_succ, -List.set_cons_zero, A.ok, A.val, setSl, wrapG, guardB, getB, pickA, binA, binC, binD, cmpD, isCmp, unA, unD, lenA, AOp.total, kills, litB, FinQ, resOks, resOk, resA, resList, resOne, A.thaw, C.thaw, A.fits, As.fits, C.fits, evs, oks, callArgs, A.pure, C.pure, A.re, C.re, fieldAddrA, loadC, cut, A.cells, C.rows?, getOb, newOb, setOb, storeC, splice, Ob.re, Cs.fits, partsA, partsOk, parts2A, parts2Ok, fillC, fillRows, optInt, optOk, sliceA, optK_some, storeK_some, Option.map_some, toDs, C.toD, spliceD, appendA, srcRows, allLen_nil_iff, allLen_cons_iff, allLen_append_iff, dropC, Obs.fits, eqCs, eqD]
  refine ⟨fun hlt => ?_, fun hge => ?_⟩
  · have hadd : inR .i64 ((i : Int) + 1) := small_i64 (by omega) (by omega)
    refine row_of hlt (crow_len _) ?_
    simp -implicitDefEqProofs [crow_len, take_crow, aw_skip, aw_region, aw_seq, aw_block, aw_cond, aw_exit, aw_ret, kq_nil, kq_seq, kq_seq_ret, kq_seq_exit, kq_block, kq_block_ret, kq_block_exit, kq_loop, kq_loop_ret, kq_loop_exit, awOps_nil, awOps_cons, awOps_guardE, nx_eq, awOp, ev_k, ev_0, ev_1, ev_2, ev_3, ev_4, ev_5, ev_6, ev_7, ev_8, set_0, set_1, set_2, set_3, set_4, set_5, set_6, set_7, set_8, -List.set_cons_succ, -List.set_cons_zero, A.ok, A.val, setSl, wrapG, guardB, getB, pickA, binA, binC, binD, cmpD, isCmp, unA, unD, lenA, AOp.total, kills, litB, FinQ, resOks, resOk, resA, resList, resOne, A.thaw, C.thaw, A.fits, As.fits, C.fits, evs, oks, callArgs, A.pure, C.pure, A.re, C.re, fieldAddrA, loadC, cut, A.cells, C.rows?, getOb, newOb, setOb, storeC, splice, Ob.re, Cs.fits, partsA, partsOk, parts2A, parts2Ok, fillC, fillRows, optInt, optOk, sliceA, optK_some, storeK_some, Option.map_some, toDs, C.toD, spliceD, appendA, srcRows, allLen_nil_iff, allLen_cons_iff, allLen_append_iff, dropC, Obs.fits, eqCs, eqD]
    refine row_of (by omega) (crow_len _) ?_
    simp -implicitDefEqProofs [crow_len, take_crow, pure_d, re_d, aw_skip, aw_region, aw_seq, aw_block, aw_cond, aw_exit, aw_ret, kq_nil, kq_seq, kq_seq_ret, kq_seq_exit, kq_block, kq_block_ret, kq_block_exit, kq_loop, kq_loop_ret, kq_loop_exit, awOps_nil, awOps_cons, awOps_guardE, nx_eq, awOp, ev_k, ev_0, ev_1, ev_2, ev_3, ev_4, ev_5, ev_6, ev_7, ev_8, set_0, set_1, set_2, set_3, set_4, set_5, set_6, set_7, set_8, -List.set_cons_succ, -List.set_cons_zero, A.ok, A.val, setSl, wrapG, guardB, getB, pickA, binA, binC, binD, cmpD, isCmp, unA, unD, lenA, AOp.total, kills, litB, FinQ, resOks, resOk, resA, resList, resOne, A.thaw, C.thaw, A.fits, As.fits, C.fits, evs, oks, callArgs, A.pure, C.pure, A.re, C.re, fieldAddrA, loadC, cut, A.cells, C.rows?, getOb, newOb, setOb, storeC, splice, Ob.re, Cs.fits, partsA, partsOk, parts2A, parts2Ok, fillC, fillRows, optInt, optOk, sliceA, optK_some, storeK_some, Option.map_some, toDs, C.toD, spliceD, appendA, srcRows, allLen_nil_iff, allLen_cons_iff, allLen_append_iff, dropC, Obs.fits, eqCs, eqD]
    refine qcall_pure (csSpec_calls p[i] (p'[i]'(by omega)) (hpf _ (List.getElem_mem hlt)) (hpf' _ (List.getElem_mem (by omega)))) hf rfl ?_
    simp -implicitDefEqProofs [hadd, aw_skip, aw_region, aw_seq, aw_block, aw_cond, aw_exit, aw_ret, kq_nil, kq_seq, kq_seq_ret, kq_seq_exit, kq_block, kq_block_ret, kq_block_exit, kq_loop, kq_loop_ret, kq_loop_exit, awOps_nil, awOps_cons, awOps_guardE, nx_eq, awOp, ev_k, ev_0, ev_1, ev_2, ev_3, ev_4, ev_5, ev_6, ev_7, ev_8, set_0, set_1, set_2, set_3, set_4, set_5, set_6, set_7, set_8, -List.set_cons_succ, -List.set_cons_zero, A.ok, A.val, setSl, wrapG, guardB, getB, pickA, binA, binC, binD, cmpD, isCmp, unA, unD, lenA, AOp.total, kills, litB, FinQ, resOks, resOk, resA, resList, resOne, A.thaw, C.thaw, A.fits, As.fits, C.fits, evs, oks, callArgs, A.pure, C.pure, A.re, C.re, fieldAddrA, loadC, cut, A.cells, C.rows?, getOb, newOb, setOb, storeC, splice, Ob.re, Cs.fits, partsA, partsOk, parts2A, parts2Ok, fillC, fillRows, optInt, optOk, sliceA, optK_some, storeK_some, Option.map_some, toDs, C.toD, spliceD, appendA, srcRows, allLen_nil_iff, allLen_cons_iff, allLen_append_iff, dropC, Obs.fits, eqCs, eqD]
    refine ⟨fun hne e => ?_, fun he => ?_⟩
    · subst e; exact absurd rfl hne
    · exact loop_back (i + 1) (by simp [setAll]) ⟨hlt, take_snoc hlt (by omega) htk he⟩ (by show p.length - (i + 1) < p.length - i; omega)
  · rw [List.take_of_length_le hge, List.take_of_length_le (by omega)] at htk
    subst htk
    refine loop_set (σ := Nat) (fun i => [(6, .c (.d (.int .i64 i)))]) (fun _ => H) (fun _ => [_, _]) (fun i => i ≤ q.length ∧ q.take i = q'.take i) (fun i => q.length - i) 0 rfl ⟨Nat.zero_le _, rfl⟩ ?_
    rintro j ⟨hj, htk⟩
    simp -implicitDefEqProofs [setAll, i3, aw_skip, aw_region, aw_seq, aw_block, aw_cond, aw_exit, aw_ret, kq_nil, kq_seq, kq_seq_ret, kq_seq_exit, kq_block, kq_block_ret, kq_block_exit, kq_loop, kq_loop_ret, kq_loop_exit, awOps_nil, awOps_cons, awOps_guardE, nx_eq, awOp, ev_k, ev_0, ev_1, ev_2, ev_3, ev_4, ev_5, ev_6, ev_7, ev_8, set_0, set_1, set_2, set_3, set_4, set_5, set_6, set_7, set_8, -List.set_cons_succ, -List.set_cons_zero, A.ok, A.val, setSl, wrapG, guardB, getB, pickA, binA, binC, binD, cmpD, isCmp, unA, unD, lenA, AOp.total, kills, litB, FinQ, resOks, resOk, resA, resList, resOne, A.thaw, C.thaw, A.fits, As.fits, C.fits, evs, oks, callArgs, A.pure, C.pure, A.re, C.re, fieldAddrA, loadC, cut, A.cells, C.rows?, getOb, newOb, setOb, storeC, splice, Ob.re, Cs.fits, partsA, partsOk, parts2A, parts2Ok, fillC, fillRows, optInt, optOk, sliceA, optK_some, storeK_some, Option.map_some, toDs, C.toD, spliceD, appendA, srcRows, allLen_nil_iff, allLen_cons_iff, allLen_append_iff, dropC, Obs.fits, eqCs, eqD]
    refine ⟨fun hlt => ?_, fun hge => by rw [List.take_of_length_le hge, List.take_of_length_le (by omega)] at htk; exact htk⟩
    have hadd : inR .i64 ((j : Int) + 1) := small_i64 (by omega) (by omega)
    refine row_of hlt (row_len _) ?_
    simp -implicitDefEqProofs [row_len, take_row, aw_skip, aw_region, aw_seq, aw_block, aw_cond, aw_exit, aw_ret, kq_nil, kq_seq, kq_seq_ret, kq_seq_exit, kq_block, kq_block_ret, kq_block_exit, kq_loop, kq_loop_ret, kq_loop_exit, awOps_nil, awOps_cons, awOps_guardE, nx_eq, awOp, ev_k, ev_0, ev_1, ev_2, ev_3, ev_4, ev_5, ev_6, ev_7, ev_8, set_0, set_1, set_2, set_3, set_4, set_5, set_6, set_7, set_8, -List.set_cons_succ, -List.set_cons_zero, A.ok, A.val, setSl, wrapG, guardB, getB, pickA, binA, binC, binD, cmpD, isCmp, unA, unD, lenA, AOp.total, kills, litB, FinQ, resOks, resOk, resA, resList, resOne, A.thaw, C.thaw, A.fits, As.fits, C.fits, evs, oks, callArgs, A.pure, C.pure, A.re, C.re, fieldAddrA, loadC, cut, A.cells, C.rows?, getOb, newOb, setOb, storeC, splice, Ob.re, Cs.fits, partsA, partsOk, parts2A, parts2Ok, fillC, fillRows, optInt, optOk, sliceA, optK_some, storeK_some, Option.map_some, toDs, C.toD, spliceD, appendA, srcRows, allLen_nil_iff, allLen_cons_iff, allLen_append_iff, dropC, Obs.fits, eqCs, eqD]
    refine row_of (by omega) (row_len _) ?_
    simp -implicitDefEqProofs [row_len, take_row, pure_d, re_d, aw_skip, aw_region, aw_seq, aw_block, aw_cond, aw_exit, aw_ret, kq_nil, kq_seq, kq_seq_ret, kq_seq_exit, kq_block, kq_block_ret, kq_block_exit, kq_loop, kq_loop_ret, kq_loop_exit, awOps_nil, awOps_cons, awOps_guardE, nx_eq, awOp, ev_k, ev_0, ev_1, ev_2, ev_3, ev_4, ev_5, ev_6, ev_7, ev_8, set_0, set_1, set_2, set_3, set_4, set_5, set_6, set_7, set_8, -List.set_cons_succ, -List.set_cons_zero, A.ok, A.val, setSl, wrapG, guardB, getB, pickA, binA, binC, binD, cmpD, isCmp, unA, unD, lenA, AOp.total, kills, litB, FinQ, resOks, resOk, resA, resList, resOne, A.thaw, C.thaw, A.fits, As.fits, C.fits, evs, oks, callArgs, A.pure, C.pure, A.re, C.re, fieldAddrA, loadC, cut, A.cells, C.rows?, getOb, newOb, setOb, storeC, splice, Ob.re, Cs.fits, partsA, partsOk, parts2A, parts2Ok, fillC, fillRows, optInt, optOk, sliceA, optK_some, storeK_some, Option.map_some, toDs, C.toD, spliceD, appendA, srcRows, allLen_nil_iff, allLen_cons_iff, allLen_append_iff, dropC, Obs.fits, eqCs, eqD]
    refine qcall_pure (sameSpec_calls q[j] (hqf _ (List.getElem_mem hlt)) (q'[j]'(by omega)) (hqf' _ (List.getElem_mem (by omega)))) hf rfl ?_
    simp -implicitDefEqProofs [hadd, aw_skip, aw_region, aw_seq, aw_block, aw_cond, aw_exit, aw_ret, kq_nil, kq_seq, kq_seq_ret, kq_seq_exit, kq_block, kq_block_ret, kq_block_exit, kq_loop, kq_loop_ret, kq_loop_exit, awOps_nil, awOps_cons, awOps_guardE, nx_eq, awOp, ev_k, ev_0, ev_1, ev_2, ev_3, ev_4, ev_5, ev_6, ev_7, ev_8, set_0, set_1, set_2, set_3, set_4, set_5, set_6, set_7, set_8, -List.set_cons_succ, -List.set_cons_zero, A.ok, A.val, setSl, wrapG, guardB, getB, pickA, binA, binC, binD, cmpD, isCmp, unA, unD, lenA, AOp.total, kills, litB, FinQ, resOks, resOk, resA, resList, resOne, A.thaw, C.thaw, A.fits, As.fits, C.fits, evs, oks, callArgs, A.pure, C.pure, A.re, C.re, fieldAddrA, loadC, cut, A.cells, C.rows?, getOb, newOb, setOb, storeC, splice, Ob.re, Cs.fits, partsA, partsOk, parts2A, parts2Ok, fillC, fillRows, optInt, optOk, sliceA, optK_some, storeK_some, Option.map_some, toDs, C.toD, spliceD, appendA, srcRows, allLen_nil_iff, allLen_cons_iff, allLen_append_iff, dropC, Obs.fits, eqCs, eqD]
    refine ⟨fun hne e => ?_, fun he => ?_⟩
    · subst e; exact hne rfl
    · exact loop_back (j + 1) (by simp [setAll]) ⟨hlt, take_snoc hlt (by omega) htk he⟩ (by show q.length - (j + 1) < q.length - j; omega)
theorem ssLaw_calls (a b : Ss) (ha : a.fine) (hb : b.fine) : ACalls Try.prog 5 [.agg (a.row.map .d), .agg (b.row.map .d)] [] (fun r _ => r = .c (.d (.bool true))) := by
  refine acalls Try.func5 (by kernel_rfl) ac5_ok fun hf => ?_
  have sz1 := szSession_calls a ha
  have sz2 := szSession_calls b hb
  have to1 := toSession_calls a
  have to2 := toSession_calls b
  have eq1 := eqSession_calls a
  have eq2 := eqSession_calls b
  have sp := ssSpec_calls a b
  have im := ssImpl_calls a b
  simp only [Ss.row, List.map_cons, List.map_nil] at sz1 sz2 to1 to2 eq1 eq2 sp im
  simp -implicitDefEqProofs [ac5, Ss.row, aw_skip, aw_region, aw_seq, aw_block, aw_cond, aw_exit, aw_ret, kq_nil, kq_seq, kq_seq_ret, kq_seq_exit, kq_block, kq_block_ret, kq_block_exit, kq_loop, kq_loop_ret, kq_loop_exit, awOps_nil, awOps_cons, awOps_guardE, nx_eq, awOp, ev_k, ev_0, ev_1, ev_2, ev_3, ev_4, ev_5, ev_6, ev_7, ev_8, set_0, set_1, set_2, set_3, set_4, set_5, set_6, set_7, set_8, -List.set_cons_succ, -List.set_cons_zero, A.ok, A.val, setSl, wrapG, guardB, getB, pickA, binA, binC, binD, cmpD, isCmp, unA, unD, lenA, AOp.total, kills, litB, FinQ, resOks, resOk, resA, resList, resOne, A.thaw, C.thaw, A.fits, As.fits, C.fits, evs, oks, callArgs, A.pure, C.pure, A.re, C.re, fieldAddrA, loadC, cut, A.cells, C.rows?, getOb, newOb, setOb, storeC, splice, Ob.re, Cs.fits, partsA, partsOk, parts2A, parts2Ok, fillC, fillRows, optInt, optOk, sliceA, optK_some, storeK_some, Option.map_some, toDs, C.toD, spliceD, appendA, srcRows, allLen_nil_iff, allLen_cons_iff, allLen_append_iff, dropC, Obs.fits, eqCs, eqD]
  refine call_some (sz1 1048576 (by omega) (by omega) _) (by simp [Ob.re, C.re]) (fun r => Left.re) hf ?_
  rintro _ ⟨q, rfl, hq0, hq1, hq2⟩
  simp -implicitDefEqProofs [aw_skip, aw_region, aw_seq, aw_block, aw_cond, aw_exit, aw_ret, kq_nil, kq_seq, kq_seq_ret, kq_seq_exit, kq_block, kq_block_ret, kq_block_exit, kq_loop, kq_loop_ret, kq_loop_exit, awOps_nil, awOps_cons, awOps_guardE, nx_eq, awOp, ev_k, ev_0, ev_1, ev_2, ev_3, ev_4, ev_5, ev_6, ev_7, ev_8, set_0, set_1, set_2, set_3, set_4, set_5, set_6, set_7, set_8, -List.set_cons_succ, -List.set_cons_zero, A.ok, A.val, setSl, wrapG, guardB, getB, pickA, binA, binC, binD, cmpD, isCmp, unA, unD, lenA, AOp.total, kills, litB, FinQ, resOks, resOk, resA, resList, resOne, A.thaw, C.thaw, A.fits, As.fits, C.fits, evs, oks, callArgs, A.pure, C.pure, A.re, C.re, fieldAddrA, loadC, cut, A.cells, C.rows?, getOb, newOb, setOb, storeC, splice, Ob.re, Cs.fits, partsA, partsOk, parts2A, parts2Ok, fillC, fillRows, optInt, optOk, sliceA, optK_some, storeK_some, Option.map_some, toDs, C.toD, spliceD, appendA, srcRows, allLen_nil_iff, allLen_cons_iff, allLen_append_iff, dropC, Obs.fits, eqCs, eqD]
  intro hq
  have hL := hq2 hq
  refine call_some (sz2 q hq hq1 _) (by simp [Ob.re, C.re]) (fun r => Left.re) hf ?_
  rintro _ ⟨q2, rfl, hp0, hp1, hp2⟩
  simp -implicitDefEqProofs [aw_skip, aw_region, aw_seq, aw_block, aw_cond, aw_exit, aw_ret, kq_nil, kq_seq, kq_seq_ret, kq_seq_exit, kq_block, kq_block_ret, kq_block_exit, kq_loop, kq_loop_ret, kq_loop_exit, awOps_nil, awOps_cons, awOps_guardE, nx_eq, awOp, ev_k, ev_0, ev_1, ev_2, ev_3, ev_4, ev_5, ev_6, ev_7, ev_8, set_0, set_1, set_2, set_3, set_4, set_5, set_6, set_7, set_8, -List.set_cons_succ, -List.set_cons_zero, A.ok, A.val, setSl, wrapG, guardB, getB, pickA, binA, binC, binD, cmpD, isCmp, unA, unD, lenA, AOp.total, kills, litB, FinQ, resOks, resOk, resA, resList, resOne, A.thaw, C.thaw, A.fits, As.fits, C.fits, evs, oks, callArgs, A.pure, C.pure, A.re, C.re, fieldAddrA, loadC, cut, A.cells, C.rows?, getOb, newOb, setOb, storeC, splice, Ob.re, Cs.fits, partsA, partsOk, parts2A, parts2Ok, fillC, fillRows, optInt, optOk, sliceA, optK_some, storeK_some, Option.map_some, toDs, C.toD, spliceD, appendA, srcRows, allLen_nil_iff, allLen_cons_iff, allLen_append_iff, dropC, Obs.fits, eqCs, eqD]
  intro hp
  have hR := hp2 hp
  refine qcall_pure (to1 hL) hf rfl ?_
  simp -implicitDefEqProofs [aw_skip, aw_region, aw_seq, aw_block, aw_cond, aw_exit, aw_ret, kq_nil, kq_seq, kq_seq_ret, kq_seq_exit, kq_block, kq_block_ret, kq_block_exit, kq_loop, kq_loop_ret, kq_loop_exit, awOps_nil, awOps_cons, awOps_guardE, nx_eq, awOp, ev_k, ev_0, ev_1, ev_2, ev_3, ev_4, ev_5, ev_6, ev_7, ev_8, set_0, set_1, set_2, set_3, set_4, set_5, set_6, set_7, set_8, -List.set_cons_succ, -List.set_cons_zero, A.ok, A.val, setSl, wrapG, guardB, getB, pickA, binA, binC, binD, cmpD, isCmp, unA, unD, lenA, AOp.total, kills, litB, FinQ, resOks, resOk, resA, resList, resOne, A.thaw, C.thaw, A.fits, As.fits, C.fits, evs, oks, callArgs, A.pure, C.pure, A.re, C.re, fieldAddrA, loadC, cut, A.cells, C.rows?, getOb, newOb, setOb, storeC, splice, Ob.re, Cs.fits, partsA, partsOk, parts2A, parts2Ok, fillC, fillRows, optInt, optOk, sliceA, optK_some, storeK_some, Option.map_some, toDs, C.toD, spliceD, appendA, srcRows, allLen_nil_iff, allLen_cons_iff, allLen_append_iff, dropC, Obs.fits, eqCs, eqD]
  refine qcall_pure (to2 hR) hf rfl ?_
  simp -implicitDefEqProofs [aw_skip, aw_region, aw_seq, aw_block, aw_cond, aw_exit, aw_ret, kq_nil, kq_seq, kq_seq_ret, kq_seq_exit, kq_block, kq_block_ret, kq_block_exit, kq_loop, kq_loop_ret, kq_loop_exit, awOps_nil, awOps_cons, awOps_guardE, nx_eq, awOp, ev_k, ev_0, ev_1, ev_2, ev_3, ev_4, ev_5, ev_6, ev_7, ev_8, set_0, set_1, set_2, set_3, set_4, set_5, set_6, set_7, set_8, -List.set_cons_succ, -List.set_cons_zero, A.ok, A.val, setSl, wrapG, guardB, getB, pickA, binA, binC, binD, cmpD, isCmp, unA, unD, lenA, AOp.total, kills, litB, FinQ, resOks, resOk, resA, resList, resOne, A.thaw, C.thaw, A.fits, As.fits, C.fits, evs, oks, callArgs, A.pure, C.pure, A.re, C.re, fieldAddrA, loadC, cut, A.cells, C.rows?, getOb, newOb, setOb, storeC, splice, Ob.re, Cs.fits, partsA, partsOk, parts2A, parts2Ok, fillC, fillRows, optInt, optOk, sliceA, optK_some, storeK_some, Option.map_some, toDs, C.toD, spliceD, appendA, srcRows, allLen_nil_iff, allLen_cons_iff, allLen_append_iff, dropC, Obs.fits, eqCs, eqD]
  refine qcall_pure (sp hL hR) hf rfl ?_
  simp -implicitDefEqProofs [aw_skip, aw_region, aw_seq, aw_block, aw_cond, aw_exit, aw_ret, kq_nil, kq_seq, kq_seq_ret, kq_seq_exit, kq_block, kq_block_ret, kq_block_exit, kq_loop, kq_loop_ret, kq_loop_exit, awOps_nil, awOps_cons, awOps_guardE, nx_eq, awOp, ev_k, ev_0, ev_1, ev_2, ev_3, ev_4, ev_5, ev_6, ev_7, ev_8, set_0, set_1, set_2, set_3, set_4, set_5, set_6, set_7, set_8, -List.set_cons_succ, -List.set_cons_zero, A.ok, A.val, setSl, wrapG, guardB, getB, pickA, binA, binC, binD, cmpD, isCmp, unA, unD, lenA, AOp.total, kills, litB, FinQ, resOks, resOk, resA, resList, resOne, A.thaw, C.thaw, A.fits, As.fits, C.fits, evs, oks, callArgs, A.pure, C.pure, A.re, C.re, fieldAddrA, loadC, cut, A.cells, C.rows?, getOb, newOb, setOb, storeC, splice, Ob.re, Cs.fits, partsA, partsOk, parts2A, parts2Ok, fillC, fillRows, optInt, optOk, sliceA, optK_some, storeK_some, Option.map_some, toDs, C.toD, spliceD, appendA, srcRows, allLen_nil_iff, allLen_cons_iff, allLen_append_iff, dropC, Obs.fits, eqCs, eqD]
  refine qcall_pure (to1 hL) hf rfl ?_
  simp -implicitDefEqProofs [hf, aw_skip, aw_region, aw_seq, aw_block, aw_cond, aw_exit, aw_ret, kq_nil, kq_seq, kq_seq_ret, kq_seq_exit, kq_block, kq_block_ret, kq_block_exit, kq_loop, kq_loop_ret, kq_loop_exit, awOps_nil, awOps_cons, awOps_guardE, nx_eq, awOp, ev_k, ev_0, ev_1, ev_2, ev_3, ev_4, ev_5, ev_6, ev_7, ev_8, set_0, set_1, set_2, set_3, set_4, set_5, set_6, set_7, set_8, -List.set_cons_succ, -List.set_cons_zero, A.ok, A.val, setSl, wrapG, guardB, getB, pickA, binA, binC, binD, cmpD, isCmp, unA, unD, lenA, AOp.total, kills, litB, FinQ, resOks, resOk, resA, resList, resOne, A.thaw, C.thaw, A.fits, As.fits, C.fits, evs, oks, callArgs, A.pure, C.pure, A.re, C.re, fieldAddrA, loadC, cut, A.cells, C.rows?, getOb, newOb, setOb, storeC, splice, Ob.re, Cs.fits, partsA, partsOk, parts2A, parts2Ok, fillC, fillRows, optInt, optOk, sliceA, optK_some, storeK_some, Option.map_some, toDs, C.toD, spliceD, appendA, srcRows, allLen_nil_iff, allLen_cons_iff, allLen_append_iff, dropC, Obs.fits, eqCs, eqD]
  refine qcall_pure (to2 hR) hf rfl ?_
  simp -implicitDefEqProofs [hf, aw_skip, aw_region, aw_seq, aw_block, aw_cond, aw_exit, aw_ret, kq_nil, kq_seq, kq_seq_ret, kq_seq_exit, kq_block, kq_block_ret, kq_block_exit, kq_loop, kq_loop_ret, kq_loop_exit, awOps_nil, awOps_cons, awOps_guardE, nx_eq, awOp, ev_k, ev_0, ev_1, ev_2, ev_3, ev_4, ev_5, ev_6, ev_7, ev_8, set_0, set_1, set_2, set_3, set_4, set_5, set_6, set_7, set_8, -List.set_cons_succ, -List.set_cons_zero, A.ok, A.val, setSl, wrapG, guardB, getB, pickA, binA, binC, binD, cmpD, isCmp, unA, unD, lenA, AOp.total, kills, litB, FinQ, resOks, resOk, resA, resList, resOne, A.thaw, C.thaw, A.fits, As.fits, C.fits, evs, oks, callArgs, A.pure, C.pure, A.re, C.re, fieldAddrA, loadC, cut, A.cells, C.rows?, getOb, newOb, setOb, storeC, splice, Ob.re, Cs.fits, partsA, partsOk, parts2A, parts2Ok, fillC, fillRows, optInt, optOk, sliceA, optK_some, storeK_some, Option.map_some, toDs, C.toD, spliceD, appendA, srcRows, allLen_nil_iff, allLen_cons_iff, allLen_append_iff, dropC, Obs.fits, eqCs, eqD]
  refine qcall_pure (im hL hR) hf rfl ?_
  simp -implicitDefEqProofs [aw_skip, aw_region, aw_seq, aw_block, aw_cond, aw_exit, aw_ret, kq_nil, kq_seq, kq_seq_ret, kq_seq_exit, kq_block, kq_block_ret, kq_block_exit, kq_loop, kq_loop_ret, kq_loop_exit, awOps_nil, awOps_cons, awOps_guardE, nx_eq, awOp, ev_k, ev_0, ev_1, ev_2, ev_3, ev_4, ev_5, ev_6, ev_7, ev_8, set_0, set_1, set_2, set_3, set_4, set_5, set_6, set_7, set_8, -List.set_cons_succ, -List.set_cons_zero, A.ok, A.val, setSl, wrapG, guardB, getB, pickA, binA, binC, binD, cmpD, isCmp, unA, unD, lenA, AOp.total, kills, litB, FinQ, resOks, resOk, resA, resList, resOne, A.thaw, C.thaw, A.fits, As.fits, C.fits, evs, oks, callArgs, A.pure, C.pure, A.re, C.re, fieldAddrA, loadC, cut, A.cells, C.rows?, getOb, newOb, setOb, storeC, splice, Ob.re, Cs.fits, partsA, partsOk, parts2A, parts2Ok, fillC, fillRows, optInt, optOk, sliceA, optK_some, storeK_some, Option.map_some, toDs, C.toD, spliceD, appendA, srcRows, allLen_nil_iff, allLen_cons_iff, allLen_append_iff, dropC, Obs.fits, eqCs, eqD]
  refine qcall_pure (to1 hL) hf rfl ?_
  simp -implicitDefEqProofs [aw_skip, aw_region, aw_seq, aw_block, aw_cond, aw_exit, aw_ret, kq_nil, kq_seq, kq_seq_ret, kq_seq_exit, kq_block, kq_block_ret, kq_block_exit, kq_loop, kq_loop_ret, kq_loop_exit, awOps_nil, awOps_cons, awOps_guardE, nx_eq, awOp, ev_k, ev_0, ev_1, ev_2, ev_3, ev_4, ev_5, ev_6, ev_7, ev_8, set_0, set_1, set_2, set_3, set_4, set_5, set_6, set_7, set_8, -List.set_cons_succ, -List.set_cons_zero, A.ok, A.val, setSl, wrapG, guardB, getB, pickA, binA, binC, binD, cmpD, isCmp, unA, unD, lenA, AOp.total, kills, litB, FinQ, resOks, resOk, resA, resList, resOne, A.thaw, C.thaw, A.fits, As.fits, C.fits, evs, oks, callArgs, A.pure, C.pure, A.re, C.re, fieldAddrA, loadC, cut, A.cells, C.rows?, getOb, newOb, setOb, storeC, splice, Ob.re, Cs.fits, partsA, partsOk, parts2A, parts2Ok, fillC, fillRows, optInt, optOk, sliceA, optK_some, storeK_some, Option.map_some, toDs, C.toD, spliceD, appendA, srcRows, allLen_nil_iff, allLen_cons_iff, allLen_append_iff, dropC, Obs.fits, eqCs, eqD]
  refine qcall_pure (eq1 hL) hf rfl ?_
  simp -implicitDefEqProofs [aw_skip, aw_region, aw_seq, aw_block, aw_cond, aw_exit, aw_ret, kq_nil, kq_seq, kq_seq_ret, kq_seq_exit, kq_block, kq_block_ret, kq_block_exit, kq_loop, kq_loop_ret, kq_loop_exit, awOps_nil, awOps_cons, awOps_guardE, nx_eq, awOp, ev_k, ev_0, ev_1, ev_2, ev_3, ev_4, ev_5, ev_6, ev_7, ev_8, set_0, set_1, set_2, set_3, set_4, set_5, set_6, set_7, set_8, -List.set_cons_succ, -List.set_cons_zero, A.ok, A.val, setSl, wrapG, guardB, getB, pickA, binA, binC, binD, cmpD, isCmp, unA, unD, lenA, AOp.total, kills, litB, FinQ, resOks, resOk, resA, resList, resOne, A.thaw, C.thaw, A.fits, As.fits, C.fits, evs, oks, callArgs, A.pure, C.pure, A.re, C.re, fieldAddrA, loadC, cut, A.cells, C.rows?, getOb, newOb, setOb, storeC, splice, Ob.re, Cs.fits, partsA, partsOk, parts2A, parts2Ok, fillC, fillRows, optInt, optOk, sliceA, optK_some, storeK_some, Option.map_some, toDs, C.toD, spliceD, appendA, srcRows, allLen_nil_iff, allLen_cons_iff, allLen_append_iff, dropC, Obs.fits, eqCs, eqD]
  refine qcall_pure (to2 hR) hf rfl ?_
  simp -implicitDefEqProofs [aw_skip, aw_region, aw_seq, aw_block, aw_cond, aw_exit, aw_ret, kq_nil, kq_seq, kq_seq_ret, kq_seq_exit, kq_block, kq_block_ret, kq_block_exit, kq_loop, kq_loop_ret, kq_loop_exit, awOps_nil, awOps_cons, awOps_guardE, nx_eq, awOp, ev_k, ev_0, ev_1, ev_2, ev_3, ev_4, ev_5, ev_6, ev_7, ev_8, set_0, set_1, set_2, set_3, set_4, set_5, set_6, set_7, set_8, -List.set_cons_succ, -List.set_cons_zero, A.ok, A.val, setSl, wrapG, guardB, getB, pickA, binA, binC, binD, cmpD, isCmp, unA, unD, lenA, AOp.total, kills, litB, FinQ, resOks, resOk, resA, resList, resOne, A.thaw, C.thaw, A.fits, As.fits, C.fits, evs, oks, callArgs, A.pure, C.pure, A.re, C.re, fieldAddrA, loadC, cut, A.cells, C.rows?, getOb, newOb, setOb, storeC, splice, Ob.re, Cs.fits, partsA, partsOk, parts2A, parts2Ok, fillC, fillRows, optInt, optOk, sliceA, optK_some, storeK_some, Option.map_some, toDs, C.toD, spliceD, appendA, srcRows, allLen_nil_iff, allLen_cons_iff, allLen_append_iff, dropC, Obs.fits, eqCs, eqD]
  refine qcall_pure (eq2 hR) hf rfl ?_
  simp -implicitDefEqProofs [aw_skip, aw_region, aw_seq, aw_block, aw_cond, aw_exit, aw_ret, kq_nil, kq_seq, kq_seq_ret, kq_seq_exit, kq_block, kq_block_ret, kq_block_exit, kq_loop, kq_loop_ret, kq_loop_exit, awOps_nil, awOps_cons, awOps_guardE, nx_eq, awOp, ev_k, ev_0, ev_1, ev_2, ev_3, ev_4, ev_5, ev_6, ev_7, ev_8, set_0, set_1, set_2, set_3, set_4, set_5, set_6, set_7, set_8, -List.set_cons_succ, -List.set_cons_zero, A.ok, A.val, setSl, wrapG, guardB, getB, pickA, binA, binC, binD, cmpD, isCmp, unA, unD, lenA, AOp.total, kills, litB, FinQ, resOks, resOk, resA, resList, resOne, A.thaw, C.thaw, A.fits, As.fits, C.fits, evs, oks, callArgs, A.pure, C.pure, A.re, C.re, fieldAddrA, loadC, cut, A.cells, C.rows?, getOb, newOb, setOb, storeC, splice, Ob.re, Cs.fits, partsA, partsOk, parts2A, parts2Ok, fillC, fillRows, optInt, optOk, sliceA, optK_some, storeK_some, Option.map_some, toDs, C.toD, spliceD, appendA, srcRows, allLen_nil_iff, allLen_cons_iff, allLen_append_iff, dropC, Obs.fits, eqCs, eqD]
theorem session_ty {row : List D} (h : HasTy Try.prog 35 row) : ∃ s : Ss, row = s.row ∧ s.fine := by
  obtain ⟨hl, hf⟩ := h.st_inv Try.underlying35
  rw [show Try.prog.cellsOf 35 = 6 from by kernel_rfl] at hl
  match row, hl with
  | [a, b, c, d, e, f], _ =>
    simp [show Try.prog.cellsOf 32 = 1 from by kernel_rfl, show Try.prog.cellsOf 33 = 1 from by kernel_rfl, show Try.prog.cellsOf 3 = 1 from by kernel_rfl] at hf
    obtain ⟨h1, h2, h3, h4, h5, h6⟩ := hf
    obtain ⟨l, e1, hl, hb⟩ := clauses_ty h1
    obtain ⟨r, e2, hr, hrb⟩ := tms_ty h2
    obtain ⟨x1, e3, _⟩ := h3.int_inv Try.underlying3
    obtain ⟨x2, e4, _⟩ := h4.int_inv Try.underlying3
    obtain ⟨x3, e5, _⟩ := h5.int_inv Try.underlying3
    obtain ⟨x4, e6, _⟩ := h6.int_inv Try.underlying3
    cases e1; cases e2; cases e3; cases e4; cases e5; cases e6
    exact ⟨⟨l, r, x1, x2, x3, x4⟩, rfl, hl, hb, hr, hrb⟩
theorem law_run5 (rows : List (List D)) (hr : HasTys Try.prog (#[35, 35] : Array TypeId).toList rows) : ACalls Try.prog 5 (argsA Try.prog (#[35, 35] : Array TypeId).toList rows) [] (fun r _ => r = .c (.d (.bool true))) := by
  obtain ⟨r, rs, rfl, h1, h2⟩ := hr.cons
  obtain ⟨r', rs, rfl, h2', h3⟩ := h2.cons
  obtain rfl := h3.nil
  obtain ⟨l, rfl, hfine⟩ := session_ty h1
  obtain ⟨l', rfl, hfine'⟩ := session_ty h2'
  simp only [argsA, argA, Try.underlying35]
  exact ssLaw_calls l l' hfine hfine'
namespace fnExactSessionSame
theorem own : ownKnob Try.prog.godebug = none := by kernel_rfl
theorem contract (H : Type) (enc : TypeId × Value → H) (W : World) (base : Nat) (args : Array Value) (ds gs : List (DataW H)) (before : List MemPlace)
    (hval : ∀ (j : Nat) t v, Try.f5.params[j]? = some t → args[j]? = some v → Value.okWide Try.prog W .any base t v)
    (hW : DataW.Whole enc Try.prog Try.f5.params.toList Rows.fnExactSessionSameSpec.vars false W args.toList ds gs before)
    (hw : (DataW.weightsEach Try.prog (Try.f5.params.toList ++ Rows.fnExactSessionSameSpec.plain.varTypes Try.prog) (ds ++ gs)).all (· ≤ reachBytes) = true) :
    Calls Try.prog 5 args W fun e W' => ∃ v, e = .returned v ∧ Rows.fnExactSessionSameSpec.post enc Try.prog Try.f5 false true false false W args v W' := by
  refine law_contract (L := [3, 9, 105, 33, 119, 32, 35]) (tb := 4) (by kernel_rfl) (by kernel_rfl) (by kernel_rfl) rfl ?_ (by kernel_rfl) Try.underlying4 ?_ W base args ds gs before hval hW hw
  · intro ds hl
    match ds, hl with
    | [d0, d1], _ => rfl
  · intro rows hr
    rw [Try.params5] at hr ⊢
    exact law_run5 rows hr

theorem lifted (os : Os) (started : os.Started) (H : Type) (enc : TypeId × Value → H) :
    ReturnsInHanded {} Try.checked os 5 .any (Rows.fnExactSessionSameSpec.pre6 enc Try.prog Try.f5 Rows.fnExactSessionSameRow.domain false) (Rows.fnExactSessionSameSpec.post enc Try.prog Try.f5 false true false false) := by
  refine returnsInHanded_of_change_sized (C := Try.checked) own started (by kernel_rfl) Try.func5
    (ChangeSpec.witness6 (enc := enc) (C := Try.checked) false ⟨#[], #[.agg #[.slice none 0 0, .slice none 0 0, .int .i64 0, .int .i64 0, .int .i64 0, .int .i64 0], .agg #[.slice none 0 0, .slice none 0 0, .int .i64 0, .int .i64 0, .int .i64 0, .int .i64 0]], []⟩ 8 (by kernel_rfl) (by kernel_rfl) (by kernel_rfl) (by kernel_rfl)) ?_
  intro W base args ds gs before hval hW _ hw _
  exact contract H enc W base args ds gs before hval hW hw

theorem proved : Rows.FnExactSessionSameSaid :=
  OpenClaim.holds_of_wide 5 Try.f5 rfl rfl rfl rfl rfl rfl rfl ⟨rfl, rfl, rfl, rfl, rfl⟩ rfl rfl rfl rfl rfl (by kernel_rfl) Try.func5 (by kernel_rfl)
    (of_decide_eq_true (by kernel_rfl)) (by unfold Func.isWrapper; first | (rw [if_pos (by decide +kernel)]; kernel_rfl) | (rw [if_neg (by decide +kernel)]; exact ⟨rfl, rfl⟩))
    (fun os started H enc _ => lifted os started H enc)
end fnExactSessionSame

end Go.Proofs.Ytnobdfcjnnnfmaa
