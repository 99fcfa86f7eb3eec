/-
  The law FnNewServer holds: a new server is idle, and its clients were sent nothing.
  Conditions: none.
-/
import Derived.Test.YtokgioccfeebkaaFrA
open Go Go.AM Go.Proofs
namespace Go.Proofs.Ytokgioccfeebkaa
open Go.ChangeShapes Go.WideShapes Go.ChangeAt Go.RowKit
set_option linter.unusedVariables false
set_option linter.unusedSimpArgs false
set_option maxRecDepth 100000
-- 22 loop.example/prologserver/impl.NewServer params 2 ntmps 19
def ac22 : Cd := .seq (.region [⟨(some 4), .alloc [(.full []), (.d (.int .i64 0))], none⟩,
      ⟨(some 5), .mv (.k (.c (.d (.bool false)))), none⟩] [5])
  (.seq (.seq (.region [⟨(some 6), .mv (.t 0), none⟩,
        ⟨(some 7), .qcall 59 [(.t 6), (.k (.c (.d (.int .i64 0)))), (.k (.c (.d (.int .i64 4))))], none⟩,
        ⟨(some 8), .un .not (.t 7), none⟩,
        ⟨(some 9), .mv (.t 8), none⟩,
        ⟨(some 10), .mv (.t 1), some (9, false)⟩,
        ⟨(some 11), .qcall 59 [(.t 10), (.k (.c (.d (.int .i64 0)))), (.k (.c (.d (.int .i64 300))))], some (9, false)⟩,
        ⟨(some 12), .un .not (.t 11), some (9, false)⟩,
        ⟨(some 13), .pick (.t 9) (.k (.c (.d (.bool true)))) (.t 12), none⟩] [6, 7, 8, 9, 10, 11, 12])
    (.cond (.t 13)
      (.seq (.region [⟨(some 14), .build [(.full []), (.d (.int .i64 0))] [], none⟩,
          ⟨none, .store 2 (.t 4) (.t 14), none⟩,
          ⟨(some 5), .mv (.k (.c (.d (.bool false)))), none⟩] [0, 1, 13, 14])
      (.ret))
      (.skip)))
  (.seq (.region [⟨(some 15), .mv (.t 0), none⟩,
      ⟨(some 16), .mkSlice [(.sl []), (.bool false), (.sl []), (.sl []), (.bool false), (.sl []), (.sl []), (.int .i64 0), (.int .i64 0), (.int .i64 0), (.int .i64 0), (.bool false), (.sl [])] (.t 15), none⟩,
      ⟨(some 17), .mv (.t 1), none⟩,
      ⟨(some 18), .build [(.full []), (.d (.int .i64 0))] [(0, 1, (.t 16)), (1, 1, (.t 17))], none⟩,
      ⟨none, .store 2 (.t 4) (.t 18), none⟩,
      ⟨(some 5), .mv (.k (.c (.d (.bool true)))), none⟩] [0, 1, 13, 15, 16, 17, 18])
  (.ret)))
theorem ac22_ok : cFunc Try.prog [1000059] [(0, [5], []), (1, [6, 7, 8, 9, 10, 11, 12], []), (2, [0, 1, 13, 14], []), (3, [0, 1, 13, 15, 16, 17, 18], [])] Try.f22 = some (ac22, [.cell 4 (some 2), .tmp 5], 19) := by kernel_rfl
-- 23 loop.example/prologserver/spec.NewServer params 2 ntmps 25
def ac23 : Cd := .seq (.region [⟨(some 4), .alloc [(.full []), (.d (.int .i64 0))], none⟩,
      ⟨(some 5), .mv (.k (.c (.d (.bool false)))), none⟩] [5])
  (.seq (.seq (.region [⟨(some 6), .mv (.t 0), none⟩,
        ⟨(some 7), .bin .lss (.t 6) (.k (.c (.d (.int .i64 0)))), none⟩,
        ⟨(some 8), .mv (.t 7), none⟩,
        ⟨(some 9), .mv (.t 0), some (8, false)⟩,
        ⟨(some 10), .bin .gtr (.t 9) (.k (.c (.d (.int .i64 4)))), some (8, false)⟩,
        ⟨(some 11), .pick (.t 8) (.k (.c (.d (.bool true)))) (.t 10), none⟩,
        ⟨(some 12), .mv (.t 11), none⟩,
        ⟨(some 13), .mv (.t 1), some (12, false)⟩,
        ⟨(some 14), .bin .lss (.t 13) (.k (.c (.d (.int .i64 0)))), some (12, false)⟩,
        ⟨(some 15), .pick (.t 12) (.k (.c (.d (.bool true)))) (.t 14), none⟩,
        ⟨(some 16), .mv (.t 15), none⟩,
        ⟨(some 17), .mv (.t 1), some (16, false)⟩,
        ⟨(some 18), .bin .gtr (.t 17) (.k (.c (.d (.int .i64 300)))), some (16, false)⟩,
        ⟨(some 19), .pick (.t 16) (.k (.c (.d (.bool true)))) (.t 18), none⟩] [6, 7, 8, 9, 10, 11, 12, 13, 14, 15, 16, 17, 18])
    (.cond (.t 19)
      (.seq (.region [⟨(some 20), .build [(.full []), (.d (.int .i64 0))] [], none⟩,
          ⟨none, .store 2 (.t 4) (.t 20), none⟩,
          ⟨(some 5), .mv (.k (.c (.d (.bool false)))), none⟩] [0, 1, 19, 20])
      (.ret))
      (.skip)))
  (.seq (.region [⟨(some 21), .mv (.t 0), none⟩,
      ⟨(some 22), .mkSlice [(.sl []), (.bool false), (.sl []), (.sl []), (.bool false), (.sl []), (.sl []), (.int .i64 0), (.int .i64 0), (.int .i64 0), (.int .i64 0), (.bool false), (.sl [])] (.t 21), none⟩,
      ⟨(some 23), .mv (.t 1), none⟩,
      ⟨(some 24), .build [(.full []), (.d (.int .i64 0))] [(0, 1, (.t 22)), (1, 1, (.t 23))], none⟩,
      ⟨none, .store 2 (.t 4) (.t 24), none⟩,
      ⟨(some 5), .mv (.k (.c (.d (.bool true)))), none⟩] [0, 1, 19, 21, 22, 23, 24])
  (.ret)))
theorem ac23_ok : cFunc Try.prog [] [(0, [5], []), (1, [6, 7, 8, 9, 10, 11, 12, 13, 14, 15, 16, 17, 18], []), (2, [0, 1, 19, 20], []), (3, [0, 1, 19, 21, 22, 23, 24], [])] Try.f23 = some (ac23, [.cell 4 (some 2), .tmp 5], 25) := by kernel_rfl
-- 21 loop.example/prologserver/spec.DrawNewServer params 1 ntmps 13
def ac21 : Cd := .seq (.region [⟨(some 2), .mv (.k (.c (.d (.int .i64 0)))), none⟩,
      ⟨(some 3), .mv (.k (.c (.d (.int .i64 0)))), none⟩] [2, 3])
  (.seq (.region [⟨(some 5), .mv (.t 0), none⟩,
      ⟨(some 6), .call false 56 [(.t 5)], none⟩,
      ⟨(some 4), .mv (.t 6), none⟩] [0, 5, 6])
  (.seq (.region [⟨(some 7), .mv (.t 4), none⟩,
      ⟨(some 8), .buildSlice 1 6 [(.int .i64 0)] [(0, (.k (.c (.d (.int .i64 2))))), (1, (.k (.c (.d (.int .i64 0))))), (2, (.k (.c (.d (.int .i64 4))))), (3, (.k (.c (.d (.int .i64 5))))), (4, (.k (.c (.d (.int .i64 (-1)))))), (5, (.k (.c (.d (.int .i64 1)))))], none⟩,
      ⟨(some 9), .call false 60 [(.t 7), (.t 8)], none⟩,
      ⟨(some 10), .mv (.t 4), none⟩,
      ⟨(some 11), .buildSlice 1 5 [(.int .i64 0)] [(0, (.k (.c (.d (.int .i64 100))))), (1, (.k (.c (.d (.int .i64 0))))), (2, (.k (.c (.d (.int .i64 300))))), (3, (.k (.c (.d (.int .i64 301))))), (4, (.k (.c (.d (.int .i64 (-1))))))], none⟩,
      ⟨(some 12), .call false 60 [(.t 10), (.t 11)], none⟩,
      ⟨(some 2), .mv (.t 9), none⟩,
      ⟨(some 3), .mv (.t 12), none⟩] [4, 7, 8, 9, 10, 11, 12])
  (.ret)))
theorem ac21_ok : cFunc Try.prog [] [(0, [2, 3], []), (1, [0, 5, 6], []), (2, [4, 7, 8, 9, 10, 11, 12], [])] Try.f21 = some (ac21, [.tmp 2, .tmp 3], 13) := by kernel_rfl
-- 62 (*loop.example/prologserver/impl.Client).idle params 1 ntmps 30
def ac62 : Cd := .seq (.region [⟨(some 2), .mv (.k (.c (.d (.bool false)))), none⟩] [2])
  (.seq (.region [⟨(some 3), .mv (.t 0), none⟩,
      ⟨(some 4), .nilCheck (.t 3), none⟩,
      ⟨(some 5), .fieldAddr 4 (.t 4), none⟩,
      ⟨(some 6), .load none (.t 5), none⟩,
      ⟨(some 7), .un .not (.t 6), none⟩,
      ⟨(some 8), .mv (.t 7), none⟩,
      ⟨(some 9), .mv (.t 0), some (8, true)⟩,
      ⟨(some 10), .nilCheck (.t 9), some (8, true)⟩,
      ⟨(some 11), .fieldAddr 2 (.t 10), some (8, true)⟩,
      ⟨(some 12), .load none (.t 11), some (8, true)⟩,
      ⟨(some 13), .len 1 (.t 12), some (8, true)⟩,
      ⟨(some 14), .bin .eql (.t 13) (.k (.c (.d (.int .i64 0)))), some (8, true)⟩,
      ⟨(some 15), .pick (.t 8) (.t 14) (.k (.c (.d (.bool false)))), none⟩,
      ⟨(some 16), .mv (.t 15), none⟩,
      ⟨(some 17), .mv (.t 0), some (16, true)⟩,
      ⟨(some 18), .nilCheck (.t 17), some (16, true)⟩,
      ⟨(some 19), .fieldAddr 0 (.t 18), some (16, true)⟩,
      ⟨(some 20), .fieldAddr 1 (.t 19), some (16, true)⟩,
      ⟨(some 21), .load none (.t 20), some (16, true)⟩,
      ⟨(some 22), .un .not (.t 21), some (16, true)⟩,
      ⟨(some 23), .mv (.t 22), some (16, true)⟩,
      ⟨(some 24), .mv (.t 0), some (23, false)⟩,
      ⟨(some 25), .nilCheck (.t 24), some (23, false)⟩,
      ⟨(some 26), .fieldAddr 11 (.t 25), some (23, false)⟩,
      ⟨(some 27), .load none (.t 26), some (23, false)⟩,
      ⟨(some 28), .pick (.t 23) (.k (.c (.d (.bool true)))) (.t 27), some (16, true)⟩,
      ⟨(some 29), .pick (.t 16) (.t 28) (.k (.c (.d (.bool false)))), none⟩,
      ⟨(some 2), .mv (.t 29), none⟩] [0, 3, 4, 5, 6, 7, 8, 9, 10, 11, 12, 13, 14, 15, 16, 17, 18, 19, 20, 21, 22, 23, 24, 25, 26, 27, 28, 29])
  (.ret))
theorem ac62_ok : cFunc Try.prog [] [(0, [2], []), (1, [0, 3, 4, 5, 6, 7, 8, 9, 10, 11, 12, 13, 14, 15, 16, 17, 18, 19, 20, 21, 22, 23, 24, 25, 26, 27, 28, 29], [])] Try.f62 = some (ac62, [.tmp 2], 30) := by kernel_rfl
-- 25 loop.example/prologserver/impl.ServerIdle params 1 ntmps 17
-- loop head live: [1, 6, 7]
def ac25 : Cd := .seq (.region [⟨(some 1), .box (.t 0), none⟩,
      ⟨(some 2), .mv (.k (.c (.d (.bool false)))), none⟩] [0, 2])
  (.seq (.seq (.region [⟨(some 4), .fieldAddr 0 (.t 1), none⟩,
        ⟨(some 5), .load none (.t 4), none⟩,
        ⟨(some 6), .len 1 (.t 5), none⟩,
        ⟨(some 7), .mv (.k (.c (.d (.int .i64 0)))), none⟩] [4, 5])
    (.block 0 (.loop (.seq (.region [⟨(some 8), .bin .lss (.t 7) (.t 6), none⟩] [])
        (.seq (.cond (.t 8)
            (.skip)
            (.exit 0))
        (.seq (.block 1 (.seq (.region [⟨(some 9), .mv (.t 7), none⟩,
                ⟨(some 3), .mv (.t 9), none⟩] [8, 9])
            (.seq (.region [⟨(some 10), .fieldAddr 0 (.t 1), none⟩,
                ⟨(some 11), .load none (.t 10), none⟩,
                ⟨(some 12), .mv (.t 3), none⟩,
                ⟨(some 13), .indexAddr 13 (.t 11) (.t 12), none⟩,
                ⟨(some 14), .qcall 62 [(.t 13)], none⟩,
                ⟨(some 15), .un .not (.t 14), none⟩] [3, 10, 11, 12, 13, 14])
            (.cond (.t 15)
              (.seq (.region [⟨(some 2), .mv (.k (.c (.d (.bool false)))), none⟩] [1, 6, 7, 15])
              (.ret))
              (.skip)))))
        (.region [⟨(some 16), .bin .add (.t 7) (.k (.c (.d (.int .i64 1)))), none⟩,
          ⟨(some 7), .mv (.t 16), none⟩] [2, 15, 16])))))))
  (.seq (.region [⟨(some 2), .mv (.k (.c (.d (.bool true)))), none⟩] [])
  (.ret)))
theorem ac25_ok : cFunc Try.prog [1000062] [(0, [0, 2], []), (1, [4, 5], []), (2, [], []), (3, [8, 9], []), (4, [3, 10, 11, 12, 13, 14], []), (5, [1, 6, 7, 15], []), (6, [2, 15, 16], []), (7, [], [])] Try.f25 = some (ac25, [.tmp 2], 17) := by kernel_rfl
-- 61 slices.Clone[[]loop.example/prologserver/impl.Frame,loop.example/prologserver/impl.Frame] params 1 ntmps 8
def ac61 : Cd := .seq (.region [⟨(some 2), .mv (.k (.c (.full []))), none⟩] [2])
  (.seq (.seq (.region [⟨(some 3), .mv (.t 0), none⟩,
        ⟨(some 4), .nilSl false (.t 3), none⟩] [3])
    (.cond (.t 4)
      (.seq (.region [⟨(some 2), .mv (.k (.c (.full []))), none⟩] [0, 4])
      (.ret))
      (.skip)))
  (.seq (.region [⟨(some 5), .buildSlice 2 0 [(.int .i64 0), (.str [])] [], none⟩,
      ⟨(some 6), .mv (.t 0), none⟩,
      ⟨(some 7), .append false 2 (.t 5) (.t 6), none⟩,
      ⟨(some 2), .mv (.t 7), none⟩] [0, 4, 5, 6, 7])
  (.ret)))
theorem ac61_ok : cFunc Try.prog [] [(0, [2], []), (1, [3], []), (2, [0, 4], []), (3, [0, 4, 5, 6, 7], [])] Try.f61 = some (ac61, [.tmp 2], 8) := by kernel_rfl
-- 24 loop.example/prologserver/impl.ClientOut params 2 ntmps 19
def ac24 : Cd := .seq (.region [⟨(some 2), .box (.t 0), none⟩,
      ⟨(some 4), .mv (.k (.c (.full []))), none⟩] [0, 4])
  (.seq (.seq (.region [⟨(some 5), .mv (.t 1), none⟩,
        ⟨(some 6), .fieldAddr 0 (.t 2), none⟩,
        ⟨(some 7), .load none (.t 6), none⟩,
        ⟨(some 8), .len 1 (.t 7), none⟩,
        ⟨(some 9), .bin .sub (.t 8) (.k (.c (.d (.int .i64 1)))), none⟩,
        ⟨(some 10), .qcall 59 [(.t 5), (.k (.c (.d (.int .i64 0)))), (.t 9)], none⟩,
        ⟨(some 11), .un .not (.t 10), none⟩] [5, 6, 7, 8, 9, 10])
    (.cond (.t 11)
      (.seq (.region [⟨(some 4), .mv (.k (.c (.full []))), none⟩] [1, 2, 11])
      (.ret))
      (.skip)))
  (.seq (.region [⟨(some 12), .fieldAddr 0 (.t 2), none⟩,
      ⟨(some 13), .load none (.t 12), none⟩,
      ⟨(some 14), .mv (.t 1), none⟩,
      ⟨(some 15), .indexAddr 13 (.t 13) (.t 14), none⟩,
      ⟨(some 16), .fieldAddr 12 (.t 15), none⟩,
      ⟨(some 17), .load none (.t 16), none⟩,
      ⟨(some 18), .qcall 61 [(.t 17)], none⟩,
      ⟨(some 4), .mv (.t 18), none⟩] [1, 2, 11, 12, 13, 14, 15, 16, 17, 18])
  (.ret)))
theorem ac24_ok : cFunc Try.prog [1000059, 1000061] [(0, [0, 4], []), (1, [5, 6, 7, 8, 9, 10], []), (2, [1, 2, 11], []), (3, [1, 2, 11, 12, 13, 14, 15, 16, 17, 18], [])] Try.f24 = some (ac24, [.tmp 4], 19) := by kernel_rfl
-- 6 loop.example/prologserver/laws.FnNewServer params 1 ntmps 65
-- loop head live: [3, 4, 5, 9]
def ac6 : Cd := .seq (.region [⟨(some 2), .mv (.k (.c (.d (.bool false)))), none⟩] [2])
  (.seq (.seq (.region [⟨(some 10), .mv (.t 0), none⟩,
        ⟨(some 11), .len 1 (.t 10), none⟩,
        ⟨(some 12), .bin .gtr (.t 11) (.k (.c (.d (.int .i64 1048576)))), none⟩] [10, 11])
    (.cond (.t 12)
      (.seq (.region [⟨(some 2), .mv (.k (.c (.d (.bool true)))), none⟩] [0, 12])
      (.ret))
      (.skip)))
  (.seq (.region [⟨(some 14), .mv (.t 0), none⟩,
      ⟨(some 15), .call false 21 [(.t 14)], none⟩,
      ⟨(some 13), .mv (.t 15), none⟩,
      ⟨(some 16), .extract 0 (.t 13), none⟩,
      ⟨(some 17), .extract 1 (.t 13), none⟩,
      ⟨(some 3), .mv (.t 16), none⟩,
      ⟨(some 4), .mv (.t 17), none⟩] [0, 2, 12, 13, 14, 15, 16, 17])
  (.seq (.region [⟨(some 19), .mv (.t 3), none⟩,
      ⟨(some 20), .mv (.t 4), none⟩,
      ⟨(some 21), .qcall 22 [(.t 19), (.t 20)], none⟩,
      ⟨(some 18), .mv (.t 21), none⟩,
      ⟨(some 22), .extract 0 (.t 18), none⟩,
      ⟨(some 23), .extract 1 (.t 18), none⟩,
      ⟨(some 5), .alloc [(.full []), (.d (.int .i64 0))], none⟩,
      ⟨none, .store 2 (.t 5) (.t 22), none⟩,
      ⟨(some 6), .mv (.t 23), none⟩] [18, 19, 20, 21, 22, 23])
  (.seq (.region [⟨(some 25), .mv (.t 3), none⟩,
      ⟨(some 26), .mv (.t 4), none⟩,
      ⟨(some 27), .qcall 23 [(.t 25), (.t 26)], none⟩,
      ⟨(some 24), .mv (.t 27), none⟩,
      ⟨(some 28), .extract 0 (.t 24), none⟩,
      ⟨(some 29), .extract 1 (.t 24), none⟩,
      ⟨(some 7), .alloc [(.full []), (.d (.int .i64 0))], none⟩,
      ⟨none, .store 2 (.t 7) (.t 28), none⟩,
      ⟨(some 8), .mv (.t 29), none⟩] [7, 24, 25, 26, 27, 28, 29])
  (.seq (.seq (.region [⟨(some 30), .mv (.t 6), none⟩,
        ⟨(some 31), .mv (.t 8), none⟩,
        ⟨(some 32), .binB true (.t 30) (.t 31), none⟩,
        ⟨(some 33), .mv (.t 32), none⟩,
        ⟨(some 34), .mv (.t 6), some (33, false)⟩,
        ⟨(some 35), .un .not (.t 34), some (33, false)⟩,
        ⟨(some 36), .pick (.t 33) (.k (.c (.d (.bool true)))) (.t 35), none⟩] [30, 31, 32, 33, 34, 35])
    (.cond (.t 36)
      (.seq (.region [⟨(some 37), .mv (.t 6), none⟩,
          ⟨(some 38), .mv (.t 8), none⟩,
          ⟨(some 39), .binB false (.t 37) (.t 38), none⟩,
          ⟨(some 2), .mv (.t 39), none⟩] [3, 4, 5, 6, 8, 36, 37, 38, 39])
      (.ret))
      (.skip)))
  (.seq (.seq (.region [⟨(some 9), .mv (.k (.c (.d (.int .i64 0)))), none⟩] [2, 6, 8, 36])
    (.block 0 (.loop (.seq (.seq (.region [⟨(some 40), .mv (.t 9), none⟩,
              ⟨(some 41), .mv (.t 3), none⟩,
              ⟨(some 42), .bin .lss (.t 40) (.t 41), none⟩] [40, 41])
          (.cond (.t 42)
            (.skip)
            (.exit 0)))
        (.seq (.block 1 (.seq (.region [⟨(some 45), .load (some 2) (.t 5), none⟩,
                ⟨(some 46), .mv (.t 9), none⟩,
                ⟨(some 47), .qcall 24 [(.t 45), (.t 46)], none⟩,
                ⟨(some 48), .len 1 (.t 47), none⟩,
                ⟨(some 49), .bin .gtr (.t 48) (.k (.c (.d (.int .i64 0)))), none⟩] [42, 45, 46, 47, 48])
            (.cond (.t 49)
              (.seq (.region [⟨(some 2), .mv (.k (.c (.d (.bool false)))), none⟩] [3, 4, 5, 9, 49])
              (.ret))
              (.skip))))
        (.region [⟨(some 43), .mv (.t 9), none⟩,
          ⟨(some 44), .bin .add (.t 43) (.k (.c (.d (.int .i64 1)))), none⟩,
          ⟨(some 9), .mv (.t 44), none⟩] [2, 43, 44, 49]))))))
  (.seq (.region [⟨(some 50), .load (some 2) (.t 5), none⟩,
      ⟨(some 51), .qcall 25 [(.t 50)], none⟩,
      ⟨(some 52), .mv (.t 51), none⟩,
      ⟨(some 53), .fieldAddr 0 (.t 5), some (52, true)⟩,
      ⟨(some 54), .load none (.t 53), some (52, true)⟩,
      ⟨(some 55), .len 1 (.t 54), some (52, true)⟩,
      ⟨(some 56), .mv (.t 3), some (52, true)⟩,
      ⟨(some 57), .bin .eql (.t 55) (.t 56), some (52, true)⟩,
      ⟨(some 58), .pick (.t 52) (.t 57) (.k (.c (.d (.bool false)))), none⟩,
      ⟨(some 59), .mv (.t 58), none⟩,
      ⟨(some 60), .fieldAddr 1 (.t 5), some (59, true)⟩,
      ⟨(some 61), .load none (.t 60), some (59, true)⟩,
      ⟨(some 62), .mv (.t 4), some (59, true)⟩,
      ⟨(some 63), .bin .eql (.t 61) (.t 62), some (59, true)⟩,
      ⟨(some 64), .pick (.t 59) (.t 63) (.k (.c (.d (.bool false)))), none⟩,
      ⟨(some 2), .mv (.t 64), none⟩] [3, 4, 5, 50, 51, 52, 53, 54, 55, 56, 57, 58, 59, 60, 61, 62, 63, 64])
  (.ret))))))))
theorem ac6_ok : cFunc Try.prog [1000022, 1000023, 1000024, 1000025] [(0, [2], []), (1, [10, 11], []), (2, [0, 12], []), (3, [0, 2, 12, 13, 14, 15, 16, 17], []), (4, [18, 19, 20, 21, 22, 23], []), (5, [7, 24, 25, 26, 27, 28, 29], []), (6, [30, 31, 32, 33, 34, 35], []), (7, [3, 4, 5, 6, 8, 36, 37, 38, 39], []), (8, [2, 6, 8, 36], []), (9, [40, 41], []), (11, [42, 45, 46, 47, 48], []), (12, [3, 4, 5, 9, 49], []), (10, [2, 43, 44, 49], []), (13, [3, 4, 5, 50, 51, 52, 53, 54, 55, 56, 57, 58, 59, 60, 61, 62, 63, 64], [])] Try.f6 = some (ac6, [.tmp 2], 65) := by kernel_rfl
/-- a client that has done nothing -/
def zc : List D := [.sl [], .bool false, .sl [], .sl [], .bool false, .sl [], .sl [], .int .i64 0, .int .i64 0, .int .i64 0, .int .i64 0, .bool false, .sl []]
def svr (n : Nat) (q : Int) : List C := [.d (.sl (List.replicate n zc)), .d (.int .i64 q)]
def nsOk (c q : Int) : Bool := (decide (0 ≤ c) && decide (c ≤ 4)) && (decide (0 ≤ q) && decide (q ≤ 300))
def nsR (c q : Int) : A := if nsOk c q then .tup [.agg (svr c.toNat q), .c (.d (.bool true))] else .tup [.agg (svr 0 0), .c (.d (.bool false))]
theorem nsImpl_calls (c q : Int) (H : Heap) : ACalls Try.prog 22 [.c (.d (.int .i64 c)), .c (.d (.int .i64 q))] H (fun r H' => H' = H ∧ r = nsR c q) := by
  refine acalls Try.func22 (by kernel_rfl) ac22_ok fun hf => ?_
  simp -implicitDefEqProofs [ac22, aw_skip, aw_region, aw_seq, aw_block, aw_cond, aw_exit, aw_ret, kq_nil, kq_seq, kq_seq_ret, kq_seq_exit, kq_block, kq_block_ret, kq_block_exit, kq_loop, kq_loop_ret, kq_loop_exit, awOps_nil, awOps_cons, awOps_guardE, nx_eq, awOp, ev_k, ev_0, ev_1, ev_2, ev_3, ev_4, ev_5, ev_6, ev_7, ev_8, set_0, set_1, set_2, set_3, set_4, set_5, set_6, set_7, set_8, -List.set_cons_succ, -List.set_cons_zero, A.ok, A.val, setSl, wrapG, guardB, getB, pickA, binA, binC, binD, cmpD, isCmp, unA, unD, lenA, AOp.total, kills, litB, FinQ, resOks, resOk, resA, resList, resOne, A.thaw, C.thaw, A.fits, As.fits, C.fits, evs, oks, callArgs, A.pure, C.pure, A.re, C.re, fieldAddrA, loadC, cut, A.cells, C.rows?, getOb, newOb, setOb, storeC, splice, Ob.re, Cs.fits, partsA, partsOk, parts2A, parts2Ok, fillC, fillRows, optInt, optOk, sliceA, optK_some, storeK_some, Option.map_some, toDs, C.toD, spliceD, appendA, srcRows, allLen_nil_iff, allLen_cons_iff, allLen_append_iff, dropC, Obs.fits, eqCs, eqD]
  refine qcall_pure (within_calls c 0 4) hf rfl ?_
  simp -implicitDefEqProofs [aw_skip, aw_region, aw_seq, aw_block, aw_cond, aw_exit, aw_ret, kq_nil, kq_seq, kq_seq_ret, kq_seq_exit, kq_block, kq_block_ret, kq_block_exit, kq_loop, kq_loop_ret, kq_loop_exit, awOps_nil, awOps_cons, awOps_guardE, nx_eq, awOp, ev_k, ev_0, ev_1, ev_2, ev_3, ev_4, ev_5, ev_6, ev_7, ev_8, set_0, set_1, set_2, set_3, set_4, set_5, set_6, set_7, set_8, -List.set_cons_succ, -List.set_cons_zero, A.ok, A.val, setSl, wrapG, guardB, getB, pickA, binA, binC, binD, cmpD, isCmp, unA, unD, lenA, AOp.total, kills, litB, FinQ, resOks, resOk, resA, resList, resOne, A.thaw, C.thaw, A.fits, As.fits, C.fits, evs, oks, callArgs, A.pure, C.pure, A.re, C.re, fieldAddrA, loadC, cut, A.cells, C.rows?, getOb, newOb, setOb, storeC, splice, Ob.re, Cs.fits, partsA, partsOk, parts2A, parts2Ok, fillC, fillRows, optInt, optOk, sliceA, optK_some, storeK_some, Option.map_some, toDs, C.toD, spliceD, appendA, srcRows, allLen_nil_iff, allLen_cons_iff, allLen_append_iff, dropC, Obs.fits, eqCs, eqD]
  have bad : nsOk c q = false → nsR c q = A.tup [A.agg [C.d (D.sl []), C.d (D.int IntKind.i64 0)], A.c (C.d (D.bool false))] := fun h => by rw [nsR, h]; rfl
  refine ⟨fun h1 h2 => ⟨⟨h1, h2⟩, ?_⟩, fun h => ⟨hf, by rw [bad]; simp [nsOk]; omega⟩⟩
  refine qcall_pure (within_calls q 0 300) hf rfl ?_
  simp -implicitDefEqProofs [h1, h2, hf, aw_skip, aw_region, aw_seq, aw_block, aw_cond, aw_exit, aw_ret, kq_nil, kq_seq, kq_seq_ret, kq_seq_exit, kq_block, kq_block_ret, kq_block_exit, kq_loop, kq_loop_ret, kq_loop_exit, awOps_nil, awOps_cons, awOps_guardE, nx_eq, awOp, ev_k, ev_0, ev_1, ev_2, ev_3, ev_4, ev_5, ev_6, ev_7, ev_8, set_0, set_1, set_2, set_3, set_4, set_5, set_6, set_7, set_8, -List.set_cons_succ, -List.set_cons_zero, A.ok, A.val, setSl, wrapG, guardB, getB, pickA, binA, binC, binD, cmpD, isCmp, unA, unD, lenA, AOp.total, kills, litB, FinQ, resOks, resOk, resA, resList, resOne, A.thaw, C.thaw, A.fits, As.fits, C.fits, evs, oks, callArgs, A.pure, C.pure, A.re, C.re, fieldAddrA, loadC, cut, A.cells, C.rows?, getOb, newOb, setOb, storeC, splice, Ob.re, Cs.fits, partsA, partsOk, parts2A, parts2Ok, fillC, fillRows, optInt, optOk, sliceA, optK_some, storeK_some, Option.map_some, toDs, C.toD, spliceD, appendA, srcRows, allLen_nil_iff, allLen_cons_iff, allLen_append_iff, dropC, Obs.fits, eqCs, eqD]
  refine ⟨fun h => by rw [bad]; simp [nsOk]; omega, fun h3 h4 => ⟨by unfold maxApp; omega, ?_⟩⟩
  rw [nsR, show nsOk c q = true by simp [nsOk]; omega]
  rfl
theorem nsSpec_calls (c q : Int) (H : Heap) : ACalls Try.prog 23 [.c (.d (.int .i64 c)), .c (.d (.int .i64 q))] H (fun r H' => H' = H ∧ r = nsR c q) := by
  refine acalls Try.func23 (by kernel_rfl) ac23_ok fun hf => ?_
  simp -implicitDefEqProofs [ac23, aw_skip, aw_region, aw_seq, aw_block, aw_cond, aw_exit, aw_ret, kq_nil, kq_seq, kq_seq_ret, kq_seq_exit, kq_block, kq_block_ret, kq_block_exit, kq_loop, kq_loop_ret, kq_loop_exit, awOps_nil, awOps_cons, awOps_guardE, nx_eq, awOp, ev_k, ev_0, ev_1, ev_2, ev_3, ev_4, ev_5, ev_6, ev_7, ev_8, set_0, set_1, set_2, set_3, set_4, set_5, set_6, set_7, set_8, -List.set_cons_succ, -List.set_cons_zero, A.ok, A.val, setSl, wrapG, guardB, getB, pickA, binA, binC, binD, cmpD, isCmp, unA, unD, lenA, AOp.total, kills, litB, FinQ, resOks, resOk, resA, resList, resOne, A.thaw, C.thaw, A.fits, As.fits, C.fits, evs, oks, callArgs, A.pure, C.pure, A.re, C.re, fieldAddrA, loadC, cut, A.cells, C.rows?, getOb, newOb, setOb, storeC, splice, Ob.re, Cs.fits, partsA, partsOk, parts2A, parts2Ok, fillC, fillRows, optInt, optOk, sliceA, optK_some, storeK_some, Option.map_some, toDs, C.toD, spliceD, appendA, srcRows, allLen_nil_iff, allLen_cons_iff, allLen_append_iff, dropC, Obs.fits, eqCs, eqD]
  have bad : nsOk c q = false → nsR c q = A.tup [A.agg [C.d (D.sl []), C.d (D.int IntKind.i64 0)], A.c (C.d (D.bool false))] := fun h => by rw [nsR, h]; rfl
  refine ⟨fun h => ⟨hf, by rw [bad]; simp [nsOk]; omega⟩, fun h1 h2 h3 h4 => ⟨h1, by unfold maxApp; omega, hf, ?_⟩⟩
  rw [nsR, show nsOk c q = true by simp [nsOk]; omega]
  rfl
/-- two integers of two lists -/
def TwoInts (l r : List Int) (x : A) : Prop := ∃ a b : Int, x = .tup [.c (.d (.int .i64 a)), .c (.d (.int .i64 b))] ∧ a ∈ l ∧ b ∈ r
theorem TwoInts.re {l r : List Int} {n : Nat} {x : A} (h : TwoInts l r x) : A.re n x = x := by
  obtain ⟨a, b, rfl, _⟩ := h
  rfl
theorem drawNs_calls (c : List UInt8) (hc : c.length ≤ 1048576) (H : Heap) : ACalls Try.prog 21 [.c (.d (.sl (bytesRows c)))] H (fun r H' => H' = H ∧ TwoInts [2, 0, 4, 5, -1, 1] [100, 0, 300, 301, -1] r) := by
  refine acalls Try.func21 (by kernel_rfl) ac21_ok fun hf => ?_
  simp -implicitDefEqProofs [ac21, aw_skip, aw_region, aw_seq, aw_block, aw_cond, aw_exit, aw_ret, kq_nil, kq_seq, kq_seq_ret, kq_seq_exit, kq_block, kq_block_ret, kq_block_exit, kq_loop, kq_loop_ret, kq_loop_exit, awOps_nil, awOps_cons, awOps_guardE, nx_eq, awOp, ev_k, ev_0, ev_1, ev_2, ev_3, ev_4, ev_5, ev_6, ev_7, ev_8, set_0, set_1, set_2, set_3, set_4, set_5, set_6, set_7, set_8, -List.set_cons_succ, -List.set_cons_zero, A.ok, A.val, setSl, wrapG, guardB, getB, pickA, binA, binC, binD, cmpD, isCmp, unA, unD, lenA, AOp.total, kills, litB, FinQ, resOks, resOk, resA, resList, resOne, A.thaw, C.thaw, A.fits, As.fits, C.fits, evs, oks, callArgs, A.pure, C.pure, A.re, C.re, fieldAddrA, loadC, cut, A.cells, C.rows?, getOb, newOb, setOb, storeC, splice, Ob.re, Cs.fits, partsA, partsOk, parts2A, parts2Ok, fillC, fillRows, optInt, optOk, sliceA, optK_some, storeK_some, Option.map_some, toDs, C.toD, spliceD, appendA, srcRows, allLen_nil_iff, allLen_cons_iff, allLen_append_iff, dropC, Obs.fits, eqCs, eqD]
  refine (open_calls c hc _).mono fun r H' ⟨h1, c', hc', h2⟩ => ⟨H, [Rd c' 0], .c (.ptr (.l 0) 0), by rw [h2]; simp [Rd, Ob.re, C.re], rfl, by simp, hf, by rw [h1]; simp [A.re, C.re, Ref.re], ?_⟩
  simp -implicitDefEqProofs [aw_skip, aw_region, aw_seq, aw_block, aw_cond, aw_exit, aw_ret, kq_nil, kq_seq, kq_seq_ret, kq_seq_exit, kq_block, kq_block_ret, kq_block_exit, kq_loop, kq_loop_ret, kq_loop_exit, awOps_nil, awOps_cons, awOps_guardE, nx_eq, awOp, ev_k, ev_0, ev_1, ev_2, ev_3, ev_4, ev_5, ev_6, ev_7, ev_8, set_0, set_1, set_2, set_3, set_4, set_5, set_6, set_7, set_8, -List.set_cons_succ, -List.set_cons_zero, A.ok, A.val, setSl, wrapG, guardB, getB, pickA, binA, binC, binD, cmpD, isCmp, unA, unD, lenA, AOp.total, kills, litB, FinQ, resOks, resOk, resA, resList, resOne, A.thaw, C.thaw, A.fits, As.fits, C.fits, evs, oks, callArgs, A.pure, C.pure, A.re, C.re, fieldAddrA, loadC, cut, A.cells, C.rows?, getOb, newOb, setOb, storeC, splice, Ob.re, Cs.fits, partsA, partsOk, parts2A, parts2Ok, fillC, fillRows, optInt, optOk, sliceA, optK_some, storeK_some, Option.map_some, toDs, C.toD, spliceD, appendA, srcRows, allLen_nil_iff, allLen_cons_iff, allLen_append_iff, dropC, Obs.fits, eqCs, eqD]
  refine call_drawL (j := 0) (num_draws [2, 0, 4, 5, -1, 1] (by decide)) hc' (by omega) (by omega) rfl (by simp [Rd, Ob.re, C.re]) (fun r ⟨n, _, hn⟩ => by subst hn; rfl) hf ?_
  rintro _ p1 ⟨a, ha, rfl⟩ h3 h4
  simp -implicitDefEqProofs [aw_skip, aw_region, aw_seq, aw_block, aw_cond, aw_exit, aw_ret, kq_nil, kq_seq, kq_seq_ret, kq_seq_exit, kq_block, kq_block_ret, kq_block_exit, kq_loop, kq_loop_ret, kq_loop_exit, awOps_nil, awOps_cons, awOps_guardE, nx_eq, awOp, ev_k, ev_0, ev_1, ev_2, ev_3, ev_4, ev_5, ev_6, ev_7, ev_8, set_0, set_1, set_2, set_3, set_4, set_5, set_6, set_7, set_8, -List.set_cons_succ, -List.set_cons_zero, A.ok, A.val, setSl, wrapG, guardB, getB, pickA, binA, binC, binD, cmpD, isCmp, unA, unD, lenA, AOp.total, kills, litB, FinQ, resOks, resOk, resA, resList, resOne, A.thaw, C.thaw, A.fits, As.fits, C.fits, evs, oks, callArgs, A.pure, C.pure, A.re, C.re, fieldAddrA, loadC, cut, A.cells, C.rows?, getOb, newOb, setOb, storeC, splice, Ob.re, Cs.fits, partsA, partsOk, parts2A, parts2Ok, fillC, fillRows, optInt, optOk, sliceA, optK_some, storeK_some, Option.map_some, toDs, C.toD, spliceD, appendA, srcRows, allLen_nil_iff, allLen_cons_iff, allLen_append_iff, dropC, Obs.fits, eqCs, eqD]
  refine call_drawL (j := 0) (num_draws [100, 0, 300, 301, -1] (by decide)) hc' (by omega) (by omega) rfl (by simp [Rd, Ob.re, C.re]) (fun r ⟨n, _, hn⟩ => by subst hn; rfl) hf ?_
  rintro _ p2 ⟨b, hb, rfl⟩ h5 h6
  simp -implicitDefEqProofs [aw_skip, aw_region, aw_seq, aw_block, aw_cond, aw_exit, aw_ret, kq_nil, kq_seq, kq_seq_ret, kq_seq_exit, kq_block, kq_block_ret, kq_block_exit, kq_loop, kq_loop_ret, kq_loop_exit, awOps_nil, awOps_cons, awOps_guardE, nx_eq, awOp, ev_k, ev_0, ev_1, ev_2, ev_3, ev_4, ev_5, ev_6, ev_7, ev_8, set_0, set_1, set_2, set_3, set_4, set_5, set_6, set_7, set_8, -List.set_cons_succ, -List.set_cons_zero, A.ok, A.val, setSl, wrapG, guardB, getB, pickA, binA, binC, binD, cmpD, isCmp, unA, unD, lenA, AOp.total, kills, litB, FinQ, resOks, resOk, resA, resList, resOne, A.thaw, C.thaw, A.fits, As.fits, C.fits, evs, oks, callArgs, A.pure, C.pure, A.re, C.re, fieldAddrA, loadC, cut, A.cells, C.rows?, getOb, newOb, setOb, storeC, splice, Ob.re, Cs.fits, partsA, partsOk, parts2A, parts2Ok, fillC, fillRows, optInt, optOk, sliceA, optK_some, storeK_some, Option.map_some, toDs, C.toD, spliceD, appendA, srcRows, allLen_nil_iff, allLen_cons_iff, allLen_append_iff, dropC, Obs.fits, eqCs, eqD]
  exact ⟨a, b, rfl, ha, hb⟩
theorem idle_calls (H : Heap) : ACalls Try.prog 62 [.c (.el zc 0)] H (fun r H' => H' = H ∧ r = .c (.d (.bool true))) := by
  refine acalls Try.func62 (by kernel_rfl) ac62_ok fun hf => ?_
  have z0 : inR .i64 (0 : Int) := small_i64 (by omega) (by omega)
  simp -implicitDefEqProofs [ac62, zc, z0, aw_skip, aw_region, aw_seq, aw_block, aw_cond, aw_exit, aw_ret, kq_nil, kq_seq, kq_seq_ret, kq_seq_exit, kq_block, kq_block_ret, kq_block_exit, kq_loop, kq_loop_ret, kq_loop_exit, awOps_nil, awOps_cons, awOps_guardE, nx_eq, awOp, ev_k, ev_0, ev_1, ev_2, ev_3, ev_4, ev_5, ev_6, ev_7, ev_8, set_0, set_1, set_2, set_3, set_4, set_5, set_6, set_7, set_8, -List.set_cons_succ, -List.set_cons_zero, A.ok, A.val, setSl, wrapG, guardB, getB, pickA, binA, binC, binD, cmpD, isCmp, unA, unD, lenA, AOp.total, kills, litB, FinQ, resOks, resOk, resA, resList, resOne, A.thaw, C.thaw, A.fits, As.fits, C.fits, evs, oks, callArgs, A.pure, C.pure, A.re, C.re, fieldAddrA, loadC, cut, A.cells, C.rows?, getOb, newOb, setOb, storeC, splice, Ob.re, Cs.fits, partsA, partsOk, parts2A, parts2Ok, fillC, fillRows, optInt, optOk, sliceA, optK_some, storeK_some, Option.map_some, toDs, C.toD, spliceD, appendA, srcRows, allLen_nil_iff, allLen_cons_iff, allLen_append_iff, dropC, Obs.fits, eqCs, eqD]
theorem svIdle_calls (n : Nat) (hn : n ≤ 4) (q : Int) (H : Heap) : ACalls Try.prog 25 [.agg (svr n q)] H (fun r H' => H' = H ∧ r = .c (.d (.bool true))) := by
  refine acalls Try.func25 (by kernel_rfl) ac25_ok fun hf => ?_
  have hni : inR .i64 (n : Int) := small_i64 (by omega) (by omega)
  simp -implicitDefEqProofs [ac25, svr, hni, aw_skip, aw_region, aw_seq, aw_block, aw_cond, aw_exit, aw_ret, kq_nil, kq_seq, kq_seq_ret, kq_seq_exit, kq_block, kq_block_ret, kq_block_exit, kq_loop, kq_loop_ret, kq_loop_exit, awOps_nil, awOps_cons, awOps_guardE, nx_eq, awOp, ev_k, ev_0, ev_1, ev_2, ev_3, ev_4, ev_5, ev_6, ev_7, ev_8, set_0, set_1, set_2, set_3, set_4, set_5, set_6, set_7, set_8, -List.set_cons_succ, -List.set_cons_zero, A.ok, A.val, setSl, wrapG, guardB, getB, pickA, binA, binC, binD, cmpD, isCmp, unA, unD, lenA, AOp.total, kills, litB, FinQ, resOks, resOk, resA, resList, resOne, A.thaw, C.thaw, A.fits, As.fits, C.fits, evs, oks, callArgs, A.pure, C.pure, A.re, C.re, fieldAddrA, loadC, cut, A.cells, C.rows?, getOb, newOb, setOb, storeC, splice, Ob.re, Cs.fits, partsA, partsOk, parts2A, parts2Ok, fillC, fillRows, optInt, optOk, sliceA, optK_some, storeK_some, Option.map_some, toDs, C.toD, spliceD, appendA, srcRows, allLen_nil_iff, allLen_cons_iff, allLen_append_iff, dropC, Obs.fits, eqCs, eqD]
  refine loop_set (σ := Nat) (fun i => [(7, .c (.d (.int .i64 i)))]) (fun _ => H) (fun _ => _) (fun i => i ≤ n) (fun i => n - i) 0 rfl (Nat.zero_le _) ?_
  intro i hi
  simp -implicitDefEqProofs [setAll, hni, aw_skip, aw_region, aw_seq, aw_block, aw_cond, aw_exit, aw_ret, kq_nil, kq_seq, kq_seq_ret, kq_seq_exit, kq_block, kq_block_ret, kq_block_exit, kq_loop, kq_loop_ret, kq_loop_exit, awOps_nil, awOps_cons, awOps_guardE, nx_eq, awOp, ev_k, ev_0, ev_1, ev_2, ev_3, ev_4, ev_5, ev_6, ev_7, ev_8, set_0, set_1, set_2, set_3, set_4, set_5, set_6, set_7, set_8, -List.set_cons_succ, -List.set_cons_zero, A.ok, A.val, setSl, wrapG, guardB, getB, pickA, binA, binC, binD, cmpD, isCmp, unA, unD, lenA, AOp.total, kills, litB, FinQ, resOks, resOk, resA, resList, resOne, A.thaw, C.thaw, A.fits, As.fits, C.fits, evs, oks, callArgs, A.pure, C.pure, A.re, C.re, fieldAddrA, loadC, cut, A.cells, C.rows?, getOb, newOb, setOb, storeC, splice, Ob.re, Cs.fits, partsA, partsOk, parts2A, parts2Ok, fillC, fillRows, optInt, optOk, sliceA, optK_some, storeK_some, Option.map_some, toDs, C.toD, spliceD, appendA, srcRows, allLen_nil_iff, allLen_cons_iff, allLen_append_iff, dropC, Obs.fits, eqCs, eqD]
  intro hlt
  have hadd : inR .i64 ((i : Int) + 1) := small_i64 (by omega) (by omega)
  refine row_nat zc (by simp [hlt]) rfl ?_
  simp -implicitDefEqProofs [aw_skip, aw_region, aw_seq, aw_block, aw_cond, aw_exit, aw_ret, kq_nil, kq_seq, kq_seq_ret, kq_seq_exit, kq_block, kq_block_ret, kq_block_exit, kq_loop, kq_loop_ret, kq_loop_exit, awOps_nil, awOps_cons, awOps_guardE, nx_eq, awOp, ev_k, ev_0, ev_1, ev_2, ev_3, ev_4, ev_5, ev_6, ev_7, ev_8, set_0, set_1, set_2, set_3, set_4, set_5, set_6, set_7, set_8, -List.set_cons_succ, -List.set_cons_zero, A.ok, A.val, setSl, wrapG, guardB, getB, pickA, binA, binC, binD, cmpD, isCmp, unA, unD, lenA, AOp.total, kills, litB, FinQ, resOks, resOk, resA, resList, resOne, A.thaw, C.thaw, A.fits, As.fits, C.fits, evs, oks, callArgs, A.pure, C.pure, A.re, C.re, fieldAddrA, loadC, cut, A.cells, C.rows?, getOb, newOb, setOb, storeC, splice, Ob.re, Cs.fits, partsA, partsOk, parts2A, parts2Ok, fillC, fillRows, optInt, optOk, sliceA, optK_some, storeK_some, Option.map_some, toDs, C.toD, spliceD, appendA, srcRows, allLen_nil_iff, allLen_cons_iff, allLen_append_iff, dropC, Obs.fits, eqCs, eqD]
  refine qcall_pure idle_calls hf rfl ?_
  simp -implicitDefEqProofs [hadd, aw_skip, aw_region, aw_seq, aw_block, aw_cond, aw_exit, aw_ret, kq_nil, kq_seq, kq_seq_ret, kq_seq_exit, kq_block, kq_block_ret, kq_block_exit, kq_loop, kq_loop_ret, kq_loop_exit, awOps_nil, awOps_cons, awOps_guardE, nx_eq, awOp, ev_k, ev_0, ev_1, ev_2, ev_3, ev_4, ev_5, ev_6, ev_7, ev_8, set_0, set_1, set_2, set_3, set_4, set_5, set_6, set_7, set_8, -List.set_cons_succ, -List.set_cons_zero, A.ok, A.val, setSl, wrapG, guardB, getB, pickA, binA, binC, binD, cmpD, isCmp, unA, unD, lenA, AOp.total, kills, litB, FinQ, resOks, resOk, resA, resList, resOne, A.thaw, C.thaw, A.fits, As.fits, C.fits, evs, oks, callArgs, A.pure, C.pure, A.re, C.re, fieldAddrA, loadC, cut, A.cells, C.rows?, getOb, newOb, setOb, storeC, splice, Ob.re, Cs.fits, partsA, partsOk, parts2A, parts2Ok, fillC, fillRows, optInt, optOk, sliceA, optK_some, storeK_some, Option.map_some, toDs, C.toD, spliceD, appendA, srcRows, allLen_nil_iff, allLen_cons_iff, allLen_append_iff, dropC, Obs.fits, eqCs, eqD]
  exact loop_back (i + 1) (by simp [setAll]) hlt (by show n - (i + 1) < n - i; omega)
theorem cloneF_calls (H : Heap) : ACalls Try.prog 61 [.c (.d (.sl []))] H (fun r H' => H' = H ∧ r = .c (.d (.sl []))) := by
  refine acalls Try.func61 (by kernel_rfl) ac61_ok fun hf => ?_
  simp -implicitDefEqProofs [ac61, aw_skip, aw_region, aw_seq, aw_block, aw_cond, aw_exit, aw_ret, kq_nil, kq_seq, kq_seq_ret, kq_seq_exit, kq_block, kq_block_ret, kq_block_exit, kq_loop, kq_loop_ret, kq_loop_exit, awOps_nil, awOps_cons, awOps_guardE, nx_eq, awOp, ev_k, ev_0, ev_1, ev_2, ev_3, ev_4, ev_5, ev_6, ev_7, ev_8, set_0, set_1, set_2, set_3, set_4, set_5, set_6, set_7, set_8, -List.set_cons_succ, -List.set_cons_zero, A.ok, A.val, setSl, wrapG, guardB, getB, pickA, binA, binC, binD, cmpD, isCmp, unA, unD, lenA, AOp.total, kills, litB, FinQ, resOks, resOk, resA, resList, resOne, A.thaw, C.thaw, A.fits, As.fits, C.fits, evs, oks, callArgs, A.pure, C.pure, A.re, C.re, fieldAddrA, loadC, cut, A.cells, C.rows?, getOb, newOb, setOb, storeC, splice, Ob.re, Cs.fits, partsA, partsOk, parts2A, parts2Ok, fillC, fillRows, optInt, optOk, sliceA, optK_some, storeK_some, Option.map_some, toDs, C.toD, spliceD, appendA, srcRows, allLen_nil_iff, allLen_cons_iff, allLen_append_iff, dropC, Obs.fits, eqCs, eqD]
  try (unfold maxApp; omega)
theorem outOf_calls (n : Nat) (hn : n ≤ 4) (q : Int) (i : Nat) (hi : i < n) (H : Heap) : ACalls Try.prog 24 [.agg (svr n q), .c (.d (.int .i64 i))] H (fun r H' => H' = H ∧ r = .c (.d (.sl []))) := by
  refine acalls Try.func24 (by kernel_rfl) ac24_ok fun hf => ?_
  have hni : inR .i64 (n : Int) := small_i64 (by omega) (by omega)
  have hni1 : inR .i64 ((n : Int) - 1) := small_i64 (by omega) (by omega)
  simp -implicitDefEqProofs [ac24, svr, hni, hni1, aw_skip, aw_region, aw_seq, aw_block, aw_cond, aw_exit, aw_ret, kq_nil, kq_seq, kq_seq_ret, kq_seq_exit, kq_block, kq_block_ret, kq_block_exit, kq_loop, kq_loop_ret, kq_loop_exit, awOps_nil, awOps_cons, awOps_guardE, nx_eq, awOp, ev_k, ev_0, ev_1, ev_2, ev_3, ev_4, ev_5, ev_6, ev_7, ev_8, set_0, set_1, set_2, set_3, set_4, set_5, set_6, set_7, set_8, -List.set_cons_succ, -List.set_cons_zero, A.ok, A.val, setSl, wrapG, guardB, getB, pickA, binA, binC, binD, cmpD, isCmp, unA, unD, lenA, AOp.total, kills, litB, FinQ, resOks, resOk, resA, resList, resOne, A.thaw, C.thaw, A.fits, As.fits, C.fits, evs, oks, callArgs, A.pure, C.pure, A.re, C.re, fieldAddrA, loadC, cut, A.cells, C.rows?, getOb, newOb, setOb, storeC, splice, Ob.re, Cs.fits, partsA, partsOk, parts2A, parts2Ok, fillC, fillRows, optInt, optOk, sliceA, optK_some, storeK_some, Option.map_some, toDs, C.toD, spliceD, appendA, srcRows, allLen_nil_iff, allLen_cons_iff, allLen_append_iff, dropC, Obs.fits, eqCs, eqD]
  have hw := within_calls i 0 ((n : Int) - 1)
  rw [show (decide ((0 : Int) ≤ (i : Int)) && decide ((i : Int) ≤ (n : Int) - 1)) = true by simp; omega] at hw
  refine qcall_pure hw hf rfl ?_
  simp -implicitDefEqProofs [aw_skip, aw_region, aw_seq, aw_block, aw_cond, aw_exit, aw_ret, kq_nil, kq_seq, kq_seq_ret, kq_seq_exit, kq_block, kq_block_ret, kq_block_exit, kq_loop, kq_loop_ret, kq_loop_exit, awOps_nil, awOps_cons, awOps_guardE, nx_eq, awOp, ev_k, ev_0, ev_1, ev_2, ev_3, ev_4, ev_5, ev_6, ev_7, ev_8, set_0, set_1, set_2, set_3, set_4, set_5, set_6, set_7, set_8, -List.set_cons_succ, -List.set_cons_zero, A.ok, A.val, setSl, wrapG, guardB, getB, pickA, binA, binC, binD, cmpD, isCmp, unA, unD, lenA, AOp.total, kills, litB, FinQ, resOks, resOk, resA, resList, resOne, A.thaw, C.thaw, A.fits, As.fits, C.fits, evs, oks, callArgs, A.pure, C.pure, A.re, C.re, fieldAddrA, loadC, cut, A.cells, C.rows?, getOb, newOb, setOb, storeC, splice, Ob.re, Cs.fits, partsA, partsOk, parts2A, parts2Ok, fillC, fillRows, optInt, optOk, sliceA, optK_some, storeK_some, Option.map_some, toDs, C.toD, spliceD, appendA, srcRows, allLen_nil_iff, allLen_cons_iff, allLen_append_iff, dropC, Obs.fits, eqCs, eqD]
  refine row_nat zc (by simp [hi]) rfl ?_
  simp -implicitDefEqProofs [zc, aw_skip, aw_region, aw_seq, aw_block, aw_cond, aw_exit, aw_ret, kq_nil, kq_seq, kq_seq_ret, kq_seq_exit, kq_block, kq_block_ret, kq_block_exit, kq_loop, kq_loop_ret, kq_loop_exit, awOps_nil, awOps_cons, awOps_guardE, nx_eq, awOp, ev_k, ev_0, ev_1, ev_2, ev_3, ev_4, ev_5, ev_6, ev_7, ev_8, set_0, set_1, set_2, set_3, set_4, set_5, set_6, set_7, set_8, -List.set_cons_succ, -List.set_cons_zero, A.ok, A.val, setSl, wrapG, guardB, getB, pickA, binA, binC, binD, cmpD, isCmp, unA, unD, lenA, AOp.total, kills, litB, FinQ, resOks, resOk, resA, resList, resOne, A.thaw, C.thaw, A.fits, As.fits, C.fits, evs, oks, callArgs, A.pure, C.pure, A.re, C.re, fieldAddrA, loadC, cut, A.cells, C.rows?, getOb, newOb, setOb, storeC, splice, Ob.re, Cs.fits, partsA, partsOk, parts2A, parts2Ok, fillC, fillRows, optInt, optOk, sliceA, optK_some, storeK_some, Option.map_some, toDs, C.toD, spliceD, appendA, srcRows, allLen_nil_iff, allLen_cons_iff, allLen_append_iff, dropC, Obs.fits, eqCs, eqD]
  refine qcall_pure cloneF_calls hf rfl ?_
  simp -implicitDefEqProofs [aw_skip, aw_region, aw_seq, aw_block, aw_cond, aw_exit, aw_ret, kq_nil, kq_seq, kq_seq_ret, kq_seq_exit, kq_block, kq_block_ret, kq_block_exit, kq_loop, kq_loop_ret, kq_loop_exit, awOps_nil, awOps_cons, awOps_guardE, nx_eq, awOp, ev_k, ev_0, ev_1, ev_2, ev_3, ev_4, ev_5, ev_6, ev_7, ev_8, set_0, set_1, set_2, set_3, set_4, set_5, set_6, set_7, set_8, -List.set_cons_succ, -List.set_cons_zero, A.ok, A.val, setSl, wrapG, guardB, getB, pickA, binA, binC, binD, cmpD, isCmp, unA, unD, lenA, AOp.total, kills, litB, FinQ, resOks, resOk, resA, resList, resOne, A.thaw, C.thaw, A.fits, As.fits, C.fits, evs, oks, callArgs, A.pure, C.pure, A.re, C.re, fieldAddrA, loadC, cut, A.cells, C.rows?, getOb, newOb, setOb, storeC, splice, Ob.re, Cs.fits, partsA, partsOk, parts2A, parts2Ok, fillC, fillRows, optInt, optOk, sliceA, optK_some, storeK_some, Option.map_some, toDs, C.toD, spliceD, appendA, srcRows, allLen_nil_iff, allLen_cons_iff, allLen_append_iff, dropC, Obs.fits, eqCs, eqD]
theorem nsLaw_calls (c : List UInt8) (hc : c.length ≤ reachBytes) : ACalls Try.prog 6 [.c (.d (.sl (bytesRows c)))] [] (fun r _ => r = .c (.d (.bool true))) := by
  refine acalls Try.func6 (by kernel_rfl) ac6_ok fun hf => ?_
  have hl := reach_i64 hc
  simp -implicitDefEqProofs [ac6, hl, bytesRows_len, aw_skip, aw_region, aw_seq, aw_block, aw_cond, aw_exit, aw_ret, kq_nil, kq_seq, kq_seq_ret, kq_seq_exit, kq_block, kq_block_ret, kq_block_exit, kq_loop, kq_loop_ret, kq_loop_exit, awOps_nil, awOps_cons, awOps_guardE, nx_eq, awOp, ev_k, ev_0, ev_1, ev_2, ev_3, ev_4, ev_5, ev_6, ev_7, ev_8, set_0, set_1, set_2, set_3, set_4, set_5, set_6, set_7, set_8, -List.set_cons_succ, -List.set_cons_zero, A.ok, A.val, setSl, wrapG, guardB, getB, pickA, binA, binC, binD, cmpD, isCmp, unA, unD, lenA, AOp.total, kills, litB, FinQ, resOks, resOk, resA, resList, resOne, A.thaw, C.thaw, A.fits, As.fits, C.fits, evs, oks, callArgs, A.pure, C.pure, A.re, C.re, fieldAddrA, loadC, cut, A.cells, C.rows?, getOb, newOb, setOb, storeC, splice, Ob.re, Cs.fits, partsA, partsOk, parts2A, parts2Ok, fillC, fillRows, optInt, optOk, sliceA, optK_some, storeK_some, Option.map_some, toDs, C.toD, spliceD, appendA, srcRows, allLen_nil_iff, allLen_cons_iff, allLen_append_iff, dropC, Obs.fits, eqCs, eqD]
  intro hle
  refine call_some (drawNs_calls c (by omega) _) (by simp [Ob.re, C.re]) (fun r => TwoInts.re) hf ?_
  rintro _ ⟨a, b, rfl, ha, hb⟩
  have z0 : inR .i64 (0 : Int) := small_i64 (by omega) (by omega)
  have c1 := nsImpl_calls a b
  have c2 := nsSpec_calls a b
  simp -implicitDefEqProofs [aw_skip, aw_region, aw_seq, aw_block, aw_cond, aw_exit, aw_ret, kq_nil, kq_seq, kq_seq_ret, kq_seq_exit, kq_block, kq_block_ret, kq_block_exit, kq_loop, kq_loop_ret, kq_loop_exit, awOps_nil, awOps_cons, awOps_guardE, nx_eq, awOp, ev_k, ev_0, ev_1, ev_2, ev_3, ev_4, ev_5, ev_6, ev_7, ev_8, set_0, set_1, set_2, set_3, set_4, set_5, set_6, set_7, set_8, -List.set_cons_succ, -List.set_cons_zero, A.ok, A.val, setSl, wrapG, guardB, getB, pickA, binA, binC, binD, cmpD, isCmp, unA, unD, lenA, AOp.total, kills, litB, FinQ, resOks, resOk, resA, resList, resOne, A.thaw, C.thaw, A.fits, As.fits, C.fits, evs, oks, callArgs, A.pure, C.pure, A.re, C.re, fieldAddrA, loadC, cut, A.cells, C.rows?, getOb, newOb, setOb, storeC, splice, Ob.re, Cs.fits, partsA, partsOk, parts2A, parts2Ok, fillC, fillRows, optInt, optOk, sliceA, optK_some, storeK_some, Option.map_some, toDs, C.toD, spliceD, appendA, srcRows, allLen_nil_iff, allLen_cons_iff, allLen_append_iff, dropC, Obs.fits, eqCs, eqD]
  cases hok : nsOk a b with
  | false =>
    rw [nsR, hok] at c1 c2
    refine qcall_pure c1 hf rfl ?_
    simp -implicitDefEqProofs [hf, svr, aw_skip, aw_region, aw_seq, aw_block, aw_cond, aw_exit, aw_ret, kq_nil, kq_seq, kq_seq_ret, kq_seq_exit, kq_block, kq_block_ret, kq_block_exit, kq_loop, kq_loop_ret, kq_loop_exit, awOps_nil, awOps_cons, awOps_guardE, nx_eq, awOp, ev_k, ev_0, ev_1, ev_2, ev_3, ev_4, ev_5, ev_6, ev_7, ev_8, set_0, set_1, set_2, set_3, set_4, set_5, set_6, set_7, set_8, -List.set_cons_succ, -List.set_cons_zero, A.ok, A.val, setSl, wrapG, guardB, getB, pickA, binA, binC, binD, cmpD, isCmp, unA, unD, lenA, AOp.total, kills, litB, FinQ, resOks, resOk, resA, resList, resOne, A.thaw, C.thaw, A.fits, As.fits, C.fits, evs, oks, callArgs, A.pure, C.pure, A.re, C.re, fieldAddrA, loadC, cut, A.cells, C.rows?, getOb, newOb, setOb, storeC, splice, Ob.re, Cs.fits, partsA, partsOk, parts2A, parts2Ok, fillC, fillRows, optInt, optOk, sliceA, optK_some, storeK_some, Option.map_some, toDs, C.toD, spliceD, appendA, srcRows, allLen_nil_iff, allLen_cons_iff, allLen_append_iff, dropC, Obs.fits, eqCs, eqD]
    refine qcall_pure c2 hf rfl ?_
    simp -implicitDefEqProofs [hf, svr, aw_skip, aw_region, aw_seq, aw_block, aw_cond, aw_exit, aw_ret, kq_nil, kq_seq, kq_seq_ret, kq_seq_exit, kq_block, kq_block_ret, kq_block_exit, kq_loop, kq_loop_ret, kq_loop_exit, awOps_nil, awOps_cons, awOps_guardE, nx_eq, awOp, ev_k, ev_0, ev_1, ev_2, ev_3, ev_4, ev_5, ev_6, ev_7, ev_8, set_0, set_1, set_2, set_3, set_4, set_5, set_6, set_7, set_8, -List.set_cons_succ, -List.set_cons_zero, A.ok, A.val, setSl, wrapG, guardB, getB, pickA, binA, binC, binD, cmpD, isCmp, unA, unD, lenA, AOp.total, kills, litB, FinQ, resOks, resOk, resA, resList, resOne, A.thaw, C.thaw, A.fits, As.fits, C.fits, evs, oks, callArgs, A.pure, C.pure, A.re, C.re, fieldAddrA, loadC, cut, A.cells, C.rows?, getOb, newOb, setOb, storeC, splice, Ob.re, Cs.fits, partsA, partsOk, parts2A, parts2Ok, fillC, fillRows, optInt, optOk, sliceA, optK_some, storeK_some, Option.map_some, toDs, C.toD, spliceD, appendA, srcRows, allLen_nil_iff, allLen_cons_iff, allLen_append_iff, dropC, Obs.fits, eqCs, eqD]
  | true =>
    rw [nsR, hok] at c1 c2
    have hb2 : 0 ≤ a ∧ a ≤ 4 := by simp [nsOk] at hok; omega
    obtain ⟨n, rfl⟩ := Int.eq_ofNat_of_zero_le hb2.1
    have hn : n ≤ 4 := by omega
    have hni : inR .i64 (n : Int) := small_i64 (by omega) (by omega)
    refine qcall_pure c1 hf rfl ?_
    simp -implicitDefEqProofs [hf, svr, aw_skip, aw_region, aw_seq, aw_block, aw_cond, aw_exit, aw_ret, kq_nil, kq_seq, kq_seq_ret, kq_seq_exit, kq_block, kq_block_ret, kq_block_exit, kq_loop, kq_loop_ret, kq_loop_exit, awOps_nil, awOps_cons, awOps_guardE, nx_eq, awOp, ev_k, ev_0, ev_1, ev_2, ev_3, ev_4, ev_5, ev_6, ev_7, ev_8, set_0, set_1, set_2, set_3, set_4, set_5, set_6, set_7, set_8, -List.set_cons_succ, -List.set_cons_zero, A.ok, A.val, setSl, wrapG, guardB, getB, pickA, binA, binC, binD, cmpD, isCmp, unA, unD, lenA, AOp.total, kills, litB, FinQ, resOks, resOk, resA, resList, resOne, A.thaw, C.thaw, A.fits, As.fits, C.fits, evs, oks, callArgs, A.pure, C.pure, A.re, C.re, fieldAddrA, loadC, cut, A.cells, C.rows?, getOb, newOb, setOb, storeC, splice, Ob.re, Cs.fits, partsA, partsOk, parts2A, parts2Ok, fillC, fillRows, optInt, optOk, sliceA, optK_some, storeK_some, Option.map_some, toDs, C.toD, spliceD, appendA, srcRows, allLen_nil_iff, allLen_cons_iff, allLen_append_iff, dropC, Obs.fits, eqCs, eqD]
    refine qcall_pure c2 hf rfl ?_
    simp -implicitDefEqProofs [hf, svr, aw_skip, aw_region, aw_seq, aw_block, aw_cond, aw_exit, aw_ret, kq_nil, kq_seq, kq_seq_ret, kq_seq_exit, kq_block, kq_block_ret, kq_block_exit, kq_loop, kq_loop_ret, kq_loop_exit, awOps_nil, awOps_cons, awOps_guardE, nx_eq, awOp, ev_k, ev_0, ev_1, ev_2, ev_3, ev_4, ev_5, ev_6, ev_7, ev_8, set_0, set_1, set_2, set_3, set_4, set_5, set_6, set_7, set_8, -List.set_cons_succ, -List.set_cons_zero, A.ok, A.val, setSl, wrapG, guardB, getB, pickA, binA, binC, binD, cmpD, isCmp, unA, unD, lenA, AOp.total, kills, litB, FinQ, resOks, resOk, resA, resList, resOne, A.thaw, C.thaw, A.fits, As.fits, C.fits, evs, oks, callArgs, A.pure, C.pure, A.re, C.re, fieldAddrA, loadC, cut, A.cells, C.rows?, getOb, newOb, setOb, storeC, splice, Ob.re, Cs.fits, partsA, partsOk, parts2A, parts2Ok, fillC, fillRows, optInt, optOk, sliceA, optK_some, storeK_some, Option.map_some, toDs, C.toD, spliceD, appendA, srcRows, allLen_nil_iff, allLen_cons_iff, allLen_append_iff, dropC, Obs.fits, eqCs, eqD]
    refine loop_set (σ := Nat) (fun i => [(9, .c (.d (.int .i64 i)))]) (fun _ => []) (fun _ => _) (fun i => i ≤ n) (fun i => n - i) 0 rfl (Nat.zero_le _) ?_
    intro i hi
    simp -implicitDefEqProofs [setAll, aw_skip, aw_region, aw_seq, aw_block, aw_cond, aw_exit, aw_ret, kq_nil, kq_seq, kq_seq_ret, kq_seq_exit, kq_block, kq_block_ret, kq_block_exit, kq_loop, kq_loop_ret, kq_loop_exit, awOps_nil, awOps_cons, awOps_guardE, nx_eq, awOp, ev_k, ev_0, ev_1, ev_2, ev_3, ev_4, ev_5, ev_6, ev_7, ev_8, set_0, set_1, set_2, set_3, set_4, set_5, set_6, set_7, set_8, -List.set_cons_succ, -List.set_cons_zero, A.ok, A.val, setSl, wrapG, guardB, getB, pickA, binA, binC, binD, cmpD, isCmp, unA, unD, lenA, AOp.total, kills, litB, FinQ, resOks, resOk, resA, resList, resOne, A.thaw, C.thaw, A.fits, As.fits, C.fits, evs, oks, callArgs, A.pure, C.pure, A.re, C.re, fieldAddrA, loadC, cut, A.cells, C.rows?, getOb, newOb, setOb, storeC, splice, Ob.re, Cs.fits, partsA, partsOk, parts2A, parts2Ok, fillC, fillRows, optInt, optOk, sliceA, optK_some, storeK_some, Option.map_some, toDs, C.toD, spliceD, appendA, srcRows, allLen_nil_iff, allLen_cons_iff, allLen_append_iff, dropC, Obs.fits, eqCs, eqD]
    refine ⟨fun hlt => ?_, fun hge => ?_⟩
    · have hadd : inR .i64 ((i : Int) + 1) := small_i64 (by omega) (by omega)
      refine qcall_pure (outOf_calls n hn b i hlt) hf rfl ?_
      simp -implicitDefEqProofs [hadd, z0, aw_skip, aw_region, aw_seq, aw_block, aw_cond, aw_exit, aw_ret, kq_nil, kq_seq, kq_seq_ret, kq_seq_exit, kq_block, kq_block_ret, kq_block_exit, kq_loop, kq_loop_ret, kq_loop_exit, awOps_nil, awOps_cons, awOps_guardE, nx_eq, awOp, ev_k, ev_0, ev_1, ev_2, ev_3, ev_4, ev_5, ev_6, ev_7, ev_8, set_0, set_1, set_2, set_3, set_4, set_5, set_6, set_7, set_8, -List.set_cons_succ, -List.set_cons_zero, A.ok, A.val, setSl, wrapG, guardB, getB, pickA, binA, binC, binD, cmpD, isCmp, unA, unD, lenA, AOp.total, kills, litB, FinQ, resOks, resOk, resA, resList, resOne, A.thaw, C.thaw, A.fits, As.fits, C.fits, evs, oks, callArgs, A.pure, C.pure, A.re, C.re, fieldAddrA, loadC, cut, A.cells, C.rows?, getOb, newOb, setOb, storeC, splice, Ob.re, Cs.fits, partsA, partsOk, parts2A, parts2Ok, fillC, fillRows, optInt, optOk, sliceA, optK_some, storeK_some, Option.map_some, toDs, C.toD, spliceD, appendA, srcRows, allLen_nil_iff, allLen_cons_iff, allLen_append_iff, dropC, Obs.fits, eqCs, eqD]
      exact loop_back (i + 1) (by simp [setAll]) hlt (by show n - (i + 1) < n - i; omega)
    · refine qcall_pure (svIdle_calls n hn b) hf rfl ?_
      simp -implicitDefEqProofs [hni, aw_skip, aw_region, aw_seq, aw_block, aw_cond, aw_exit, aw_ret, kq_nil, kq_seq, kq_seq_ret, kq_seq_exit, kq_block, kq_block_ret, kq_block_exit, kq_loop, kq_loop_ret, kq_loop_exit, awOps_nil, awOps_cons, awOps_guardE, nx_eq, awOp, ev_k, ev_0, ev_1, ev_2, ev_3, ev_4, ev_5, ev_6, ev_7, ev_8, set_0, set_1, set_2, set_3, set_4, set_5, set_6, set_7, set_8, -List.set_cons_succ, -List.set_cons_zero, A.ok, A.val, setSl, wrapG, guardB, getB, pickA, binA, binC, binD, cmpD, isCmp, unA, unD, lenA, AOp.total, kills, litB, FinQ, resOks, resOk, resA, resList, resOne, A.thaw, C.thaw, A.fits, As.fits, C.fits, evs, oks, callArgs, A.pure, C.pure, A.re, C.re, fieldAddrA, loadC, cut, A.cells, C.rows?, getOb, newOb, setOb, storeC, splice, Ob.re, Cs.fits, partsA, partsOk, parts2A, parts2Ok, fillC, fillRows, optInt, optOk, sliceA, optK_some, storeK_some, Option.map_some, toDs, C.toD, spliceD, appendA, srcRows, allLen_nil_iff, allLen_cons_iff, allLen_append_iff, dropC, Obs.fits, eqCs, eqD]
theorem law_run6 (rows : List (List D)) (hr : HasTys Try.prog (#[23] : Array TypeId).toList rows) : ACalls Try.prog 6 (argsA Try.prog (#[23] : Array TypeId).toList rows) [] (fun r _ => r = .c (.d (.bool true))) := by
  obtain ⟨r, rs, rfl, h1, h2⟩ := hr.cons
  obtain rfl := h2.nil
  obtain ⟨s, rfl, hs⟩ := bytes_ty h1
  simp only [argsA, argA, Try.underlying23, List.headD_cons]
  exact nsLaw_calls s hs
namespace fnNewServer
theorem own : ownKnob Try.prog.godebug = none := by kernel_rfl
theorem contract (H : Type) (enc : TypeId × Value → H) (W : World) (base : Nat) (args : Array Value) (ds gs : List (DataW H)) (before : List MemPlace)
    (hval : ∀ (j : Nat) t v, Try.f6.params[j]? = some t → args[j]? = some v → Value.okWide Try.prog W .any base t v)
    (hW : DataW.Whole enc Try.prog Try.f6.params.toList Rows.fnNewServerSpec.vars false W args.toList ds gs before)
    (hw : (DataW.weightsEach Try.prog (Try.f6.params.toList ++ Rows.fnNewServerSpec.plain.varTypes Try.prog) (ds ++ gs)).all (· ≤ reachBytes) = true) :
    Calls Try.prog 6 args W fun e W' => ∃ v, e = .returned v ∧ Rows.fnNewServerSpec.post enc Try.prog Try.f6 false true false false W args v W' := by
  refine law_contract (L := [5, 23]) (tb := 4) (by kernel_rfl) (by kernel_rfl) (by kernel_rfl) rfl ?_ (by kernel_rfl) Try.underlying4 ?_ W base args ds gs before hval hW hw
  · intro ds hl
    match ds, hl with
    | [d0], _ => rfl
  · intro rows hr
    rw [Try.params6] at hr ⊢
    exact law_run6 rows hr

theorem lifted (os : Os) (started : os.Started) (H : Type) (enc : TypeId × Value → H) :
    ReturnsInHanded {} Try.checked os 6 .any (Rows.fnNewServerSpec.pre6 enc Try.prog Try.f6 Rows.fnNewServerRow.domain false) (Rows.fnNewServerSpec.post enc Try.prog Try.f6 false true false false) := by
  refine returnsInHanded_of_change_sized (C := Try.checked) own started (by kernel_rfl) Try.func6
    (ChangeSpec.witness6 (enc := enc) (C := Try.checked) false ⟨#[], #[.slice none 0 0], []⟩ 8 (by kernel_rfl) (by kernel_rfl) (by kernel_rfl) (by kernel_rfl)) ?_
  intro W base args ds gs before hval hW _ hw _
  exact contract H enc W base args ds gs before hval hW hw

theorem proved : Rows.FnNewServerSaid :=
  OpenClaim.holds_of_wide 6 Try.f6 rfl rfl rfl rfl rfl rfl rfl ⟨rfl, rfl, rfl, rfl, rfl⟩ rfl rfl rfl rfl rfl (by kernel_rfl) Try.func6 (by kernel_rfl)
    (of_decide_eq_true (by kernel_rfl)) (by unfold Func.isWrapper; first | (rw [if_pos (by decide +kernel)]; kernel_rfl) | (rw [if_neg (by decide +kernel)]; exact ⟨rfl, rfl⟩))
    (fun os started H enc _ => lifted os started H enc)
end fnNewServer

end Go.Proofs.Ytokgioccfeebkaa
