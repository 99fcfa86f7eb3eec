/-
  TermValid: the functions of the program and of the reference.
  Conditions: none.
-/
import Derived.Test.YtaegeehpajlebaaValid
open Go Go.AM Go.Proofs
namespace Go.Proofs.Ytaegeehpajlebaa
open Go.ChangeShapes Go.WideShapes Go.ChangeAt Go.RowKit
set_option linter.unusedVariables false
set_option linter.unusedSimpArgs false
set_option maxRecDepth 100000
-- 75 loop.example/prologserver/impl.scan params 3 ntmps 76
def ac75 : Cd := .seq (.region [⟨(some 3), .box (.t 0), none⟩,
      ⟨(some 4), .box (.t 1), none⟩,
      ⟨(some 5), .box (.t 2), none⟩,
      ⟨(some 6), .mv (.k (.c (.d (.bool false)))), none⟩] [0, 1, 2, 6])
  (.seq (.region [⟨(some 7), .load none (.t 5), none⟩,
      ⟨(some 8), .nilCheck (.t 7), none⟩,
      ⟨(some 9), .load none (.t 8), none⟩,
      ⟨(some 10), .bin .add (.t 9) (.k (.c (.d (.int .i64 1)))), none⟩,
      ⟨(some 11), .nilCheck (.t 7), none⟩,
      ⟨none, .store 1 (.t 11) (.t 10), none⟩] [7, 8, 9, 10, 11])
  (.seq (.seq (.region [⟨(some 12), .load none (.t 5), none⟩,
        ⟨(some 13), .nilCheck (.t 12), none⟩,
        ⟨(some 14), .load none (.t 13), none⟩,
        ⟨(some 15), .bin .gtr (.t 14) (.k (.c (.d (.int .i64 120)))), none⟩,
        ⟨(some 16), .mv (.t 15), none⟩,
        ⟨(some 17), .load none (.t 4), some (16, false)⟩,
        ⟨(some 18), .bin .gtr (.t 17) (.k (.c (.d (.int .i64 30)))), some (16, false)⟩,
        ⟨(some 19), .pick (.t 16) (.k (.c (.d (.bool true)))) (.t 18), none⟩] [12, 13, 14, 15, 16, 17, 18])
    (.cond (.t 19)
      (.seq (.region [⟨(some 6), .mv (.k (.c (.d (.bool false)))), none⟩] [3, 4, 5, 19])
      (.ret))
      (.skip)))
  (.seq (.seq (.region [⟨(some 20), .fieldAddr 0 (.t 3), none⟩,
        ⟨(some 21), .load none (.t 20), none⟩] [6, 19, 20])
    (.block 0 (.seq (.region [⟨(some 23), .bin .eql (.t 21) (.k (.c (.d (.int .i64 1)))), none⟩,
          ⟨(some 22), .mv (.t 23), none⟩] [23])
      (.cond (.t 22)
        (.seq (.region [⟨(some 24), .fieldAddr 1 (.t 3), none⟩,
            ⟨(some 25), .load none (.t 24), none⟩,
            ⟨(some 26), .qcall 90 [(.t 25), (.k (.c (.d (.int .i64 0)))), (.k (.c (.d (.int .i64 25))))], none⟩,
            ⟨(some 27), .mv (.t 26), none⟩,
            ⟨(some 28), .fieldAddr 2 (.t 3), some (27, true)⟩,
            ⟨(some 29), .load none (.t 28), some (27, true)⟩,
            ⟨(some 30), .bin .eql (.t 29) (.k (.c (.d (.str [])))), some (27, true)⟩,
            ⟨(some 31), .pick (.t 27) (.t 30) (.k (.c (.d (.bool false)))), none⟩,
            ⟨(some 32), .mv (.t 31), none⟩,
            ⟨(some 33), .fieldAddr 3 (.t 3), some (32, true)⟩,
            ⟨(some 34), .load none (.t 33), some (32, true)⟩,
            ⟨(some 35), .len 1 (.t 34), some (32, true)⟩,
            ⟨(some 36), .bin .eql (.t 35) (.k (.c (.d (.int .i64 0)))), some (32, true)⟩,
            ⟨(some 37), .pick (.t 32) (.t 36) (.k (.c (.d (.bool false)))), none⟩,
            ⟨(some 6), .mv (.t 37), none⟩] [3, 4, 5, 21, 22, 24, 25, 26, 27, 28, 29, 30, 31, 32, 33, 34, 35, 36, 37])
        (.ret))
        (.seq (.region [⟨(some 39), .bin .eql (.t 21) (.k (.c (.d (.int .i64 2)))), none⟩,
            ⟨(some 38), .mv (.t 39), none⟩] [22, 39])
        (.cond (.t 38)
          (.seq (.region [⟨(some 40), .fieldAddr 1 (.t 3), none⟩,
              ⟨(some 41), .load none (.t 40), none⟩,
              ⟨(some 42), .qcall 90 [(.t 41), (.k (.c (.d (.int .i64 (-999))))), (.k (.c (.d (.int .i64 999))))], none⟩,
              ⟨(some 43), .mv (.t 42), none⟩,
              ⟨(some 44), .fieldAddr 2 (.t 3), some (43, true)⟩,
              ⟨(some 45), .load none (.t 44), some (43, true)⟩,
              ⟨(some 46), .bin .eql (.t 45) (.k (.c (.d (.str [])))), some (43, true)⟩,
              ⟨(some 47), .pick (.t 43) (.t 46) (.k (.c (.d (.bool false)))), none⟩,
              ⟨(some 48), .mv (.t 47), none⟩,
              ⟨(some 49), .fieldAddr 3 (.t 3), some (48, true)⟩,
              ⟨(some 50), .load none (.t 49), some (48, true)⟩,
              ⟨(some 51), .len 1 (.t 50), some (48, true)⟩,
              ⟨(some 52), .bin .eql (.t 51) (.k (.c (.d (.int .i64 0)))), some (48, true)⟩,
              ⟨(some 53), .pick (.t 48) (.t 52) (.k (.c (.d (.bool false)))), none⟩,
              ⟨(some 6), .mv (.t 53), none⟩] [3, 4, 5, 21, 38, 40, 41, 42, 43, 44, 45, 46, 47, 48, 49, 50, 51, 52, 53])
          (.ret))
          (.seq (.region [⟨(some 55), .bin .eql (.t 21) (.k (.c (.d (.int .i64 3)))), none⟩,
              ⟨(some 54), .mv (.t 55), none⟩] [21, 38, 55])
          (.cond (.t 54)
            (.seq (.seq (.region [⟨(some 56), .fieldAddr 1 (.t 3), none⟩,
                  ⟨(some 57), .load none (.t 56), none⟩,
                  ⟨(some 58), .bin .neq (.t 57) (.k (.c (.d (.int .i64 0)))), none⟩,
                  ⟨(some 59), .mv (.t 58), none⟩,
                  ⟨(some 60), .fieldAddr 2 (.t 3), some (59, false)⟩,
                  ⟨(some 61), .load none (.t 60), some (59, false)⟩,
                  ⟨(some 62), .qcall 91 [(.t 61)], some (59, false)⟩,
                  ⟨(some 63), .un .not (.t 62), some (59, false)⟩,
                  ⟨(some 64), .pick (.t 59) (.k (.c (.d (.bool true)))) (.t 63), none⟩,
                  ⟨(some 65), .mv (.t 64), none⟩,
                  ⟨(some 66), .fieldAddr 3 (.t 3), some (65, false)⟩,
                  ⟨(some 67), .load none (.t 66), some (65, false)⟩,
                  ⟨(some 68), .len 1 (.t 67), some (65, false)⟩,
                  ⟨(some 69), .bin .gtr (.t 68) (.k (.c (.d (.int .i64 4)))), some (65, false)⟩,
                  ⟨(some 70), .pick (.t 65) (.k (.c (.d (.bool true)))) (.t 69), none⟩] [54, 56, 57, 58, 59, 60, 61, 62, 63, 64, 65, 66, 67, 68, 69])
              (.cond (.t 70)
                (.seq (.region [⟨(some 6), .mv (.k (.c (.d (.bool false)))), none⟩] [3, 4, 5, 70])
                (.ret))
                (.skip)))
            (.seq (.region [⟨(some 71), .fieldAddr 3 (.t 3), none⟩,
                ⟨(some 72), .load none (.t 71), none⟩,
                ⟨(some 73), .mkFunc 93 [(.t 4), (.t 5)], none⟩,
                ⟨(some 74), .call false 92 [(.t 72), (.t 73)], none⟩,
                ⟨(some 75), .un .not (.t 74), none⟩,
                ⟨(some 6), .mv (.t 75), none⟩] [3, 4, 5, 70, 71, 72, 73, 74, 75])
            (.ret)))
            (.skip)))))))))
  (.seq (.region [⟨(some 6), .mv (.k (.c (.d (.bool false)))), none⟩] [3, 4, 5, 54])
  (.ret)))))
theorem ac75_ok : cFunc Try.prog [1000090, 1000091] [(0, [0, 1, 2, 6], []), (1, [7, 8, 9, 10, 11], []), (2, [12, 13, 14, 15, 16, 17, 18], []), (3, [3, 4, 5, 19], []), (4, [6, 19, 20], []), (5, [23], []), (6, [3, 4, 5, 21, 22, 24, 25, 26, 27, 28, 29, 30, 31, 32, 33, 34, 35, 36, 37], []), (7, [22, 39], []), (8, [3, 4, 5, 21, 38, 40, 41, 42, 43, 44, 45, 46, 47, 48, 49, 50, 51, 52, 53], []), (9, [21, 38, 55], []), (10, [54, 56, 57, 58, 59, 60, 61, 62, 63, 64, 65, 66, 67, 68, 69], []), (11, [3, 4, 5, 70], []), (12, [3, 4, 5, 70, 71, 72, 73, 74, 75], []), (13, [3, 4, 5, 54], [])] Try.f75 = some (ac75, [.tmp 6], 76) := by kernel_rfl
-- 93 loop.example/prologserver/impl.scan$1 params 1 ntmps 11
def ac93 : Cd := .seq (.region [⟨(some 3), .box (.t 0), none⟩,
      ⟨(some 4), .mv (.k (.c (.d (.bool false)))), none⟩] [0, 4])
  (.seq (.region [⟨(some 5), .load (some 4) (.t 3), none⟩,
      ⟨(some 6), .load none (.t 1), none⟩,
      ⟨(some 7), .bin .add (.t 6) (.k (.c (.d (.int .i64 1)))), none⟩,
      ⟨(some 8), .load none (.t 2), none⟩,
      ⟨(some 9), .call false 75 [(.t 5), (.t 7), (.t 8)], none⟩,
      ⟨(some 10), .un .not (.t 9), none⟩,
      ⟨(some 4), .mv (.t 10), none⟩] [3, 5, 6, 7, 8, 9, 10])
  (.ret))
theorem ac93_ok : cFunc Try.prog [] [(0, [0, 4], []), (1, [3, 5, 6, 7, 8, 9, 10], [])] Try.f93 = some (ac93, [.tmp 4], 11) := by kernel_rfl
-- 46 loop.example/prologserver/impl.TermValid params 1 ntmps 6
def ac46 : Cd := .seq (.region [⟨(some 1), .box (.t 0), none⟩,
      ⟨(some 2), .mv (.k (.c (.d (.bool false)))), none⟩] [0, 2])
  (.seq (.region [⟨(some 3), .alloc [(.d (.int .i64 0))], none⟩,
      ⟨none, .store 1 (.t 3) (.k (.c (.d (.int .i64 0)))), none⟩] [])
  (.seq (.region [⟨(some 4), .load (some 4) (.t 1), none⟩,
      ⟨(some 5), .call false 75 [(.t 4), (.k (.c (.d (.int .i64 1)))), (.t 3)], none⟩,
      ⟨(some 2), .mv (.t 5), none⟩] [1, 3, 4, 5])
  (.ret)))
theorem ac46_ok : cFunc Try.prog [] [(0, [0, 2], []), (1, [], []), (2, [1, 3, 4, 5], [])] Try.f46 = some (ac46, [.tmp 2], 6) := by kernel_rfl
-- 89 loop.example/prologserver/spec.l1Own params 1 ntmps 63
def ac89 : Cd := .seq (.region [⟨(some 1), .box (.t 0), none⟩,
      ⟨(some 2), .mv (.k (.c (.d (.bool false)))), none⟩] [0, 2])
  (.seq (.seq (.region [⟨(some 3), .fieldAddr 0 (.t 1), none⟩,
        ⟨(some 4), .load none (.t 3), none⟩] [3])
    (.block 0 (.seq (.region [⟨(some 6), .bin .eql (.t 4) (.k (.c (.d (.int .i64 1)))), none⟩,
          ⟨(some 5), .mv (.t 6), none⟩] [6])
      (.cond (.t 5)
        (.seq (.region [⟨(some 7), .fieldAddr 1 (.t 1), none⟩,
            ⟨(some 8), .load none (.t 7), none⟩,
            ⟨(some 9), .bin .geq (.t 8) (.k (.c (.d (.int .i64 0)))), none⟩,
            ⟨(some 10), .mv (.t 9), none⟩,
            ⟨(some 11), .fieldAddr 1 (.t 1), some (10, true)⟩,
            ⟨(some 12), .load none (.t 11), some (10, true)⟩,
            ⟨(some 13), .bin .leq (.t 12) (.k (.c (.d (.int .i64 25)))), some (10, true)⟩,
            ⟨(some 14), .pick (.t 10) (.t 13) (.k (.c (.d (.bool false)))), none⟩,
            ⟨(some 15), .mv (.t 14), none⟩,
            ⟨(some 16), .fieldAddr 2 (.t 1), some (15, true)⟩,
            ⟨(some 17), .load none (.t 16), some (15, true)⟩,
            ⟨(some 18), .bin .eql (.t 17) (.k (.c (.d (.str [])))), some (15, true)⟩,
            ⟨(some 19), .pick (.t 15) (.t 18) (.k (.c (.d (.bool false)))), none⟩,
            ⟨(some 20), .mv (.t 19), none⟩,
            ⟨(some 21), .fieldAddr 3 (.t 1), some (20, true)⟩,
            ⟨(some 22), .load none (.t 21), some (20, true)⟩,
            ⟨(some 23), .len 1 (.t 22), some (20, true)⟩,
            ⟨(some 24), .bin .eql (.t 23) (.k (.c (.d (.int .i64 0)))), some (20, true)⟩,
            ⟨(some 25), .pick (.t 20) (.t 24) (.k (.c (.d (.bool false)))), none⟩,
            ⟨(some 2), .mv (.t 25), none⟩] [1, 4, 5, 7, 8, 9, 10, 11, 12, 13, 14, 15, 16, 17, 18, 19, 20, 21, 22, 23, 24, 25])
        (.ret))
        (.seq (.region [⟨(some 27), .bin .eql (.t 4) (.k (.c (.d (.int .i64 2)))), none⟩,
            ⟨(some 26), .mv (.t 27), none⟩] [5, 27])
        (.cond (.t 26)
          (.seq (.region [⟨(some 28), .fieldAddr 1 (.t 1), none⟩,
              ⟨(some 29), .load none (.t 28), none⟩,
              ⟨(some 30), .bin .geq (.t 29) (.k (.c (.d (.int .i64 (-999))))), none⟩,
              ⟨(some 31), .mv (.t 30), none⟩,
              ⟨(some 32), .fieldAddr 1 (.t 1), some (31, true)⟩,
              ⟨(some 33), .load none (.t 32), some (31, true)⟩,
              ⟨(some 34), .bin .leq (.t 33) (.k (.c (.d (.int .i64 999)))), some (31, true)⟩,
              ⟨(some 35), .pick (.t 31) (.t 34) (.k (.c (.d (.bool false)))), none⟩,
              ⟨(some 36), .mv (.t 35), none⟩,
              ⟨(some 37), .fieldAddr 2 (.t 1), some (36, true)⟩,
              ⟨(some 38), .load none (.t 37), some (36, true)⟩,
              ⟨(some 39), .bin .eql (.t 38) (.k (.c (.d (.str [])))), some (36, true)⟩,
              ⟨(some 40), .pick (.t 36) (.t 39) (.k (.c (.d (.bool false)))), none⟩,
              ⟨(some 41), .mv (.t 40), none⟩,
              ⟨(some 42), .fieldAddr 3 (.t 1), some (41, true)⟩,
              ⟨(some 43), .load none (.t 42), some (41, true)⟩,
              ⟨(some 44), .len 1 (.t 43), some (41, true)⟩,
              ⟨(some 45), .bin .eql (.t 44) (.k (.c (.d (.int .i64 0)))), some (41, true)⟩,
              ⟨(some 46), .pick (.t 41) (.t 45) (.k (.c (.d (.bool false)))), none⟩,
              ⟨(some 2), .mv (.t 46), none⟩] [1, 4, 26, 28, 29, 30, 31, 32, 33, 34, 35, 36, 37, 38, 39, 40, 41, 42, 43, 44, 45, 46])
          (.ret))
          (.seq (.region [⟨(some 48), .bin .eql (.t 4) (.k (.c (.d (.int .i64 3)))), none⟩,
              ⟨(some 47), .mv (.t 48), none⟩] [4, 26, 48])
          (.cond (.t 47)
            (.seq (.region [⟨(some 49), .fieldAddr 1 (.t 1), none⟩,
                ⟨(some 50), .load none (.t 49), none⟩,
                ⟨(some 51), .bin .eql (.t 50) (.k (.c (.d (.int .i64 0)))), none⟩,
                ⟨(some 52), .mv (.t 51), none⟩,
                ⟨(some 53), .fieldAddr 2 (.t 1), some (52, true)⟩,
                ⟨(some 54), .load none (.t 53), some (52, true)⟩,
                ⟨(some 55), .qcall 113 [(.t 54)], some (52, true)⟩,
                ⟨(some 56), .pick (.t 52) (.t 55) (.k (.c (.d (.bool false)))), none⟩,
                ⟨(some 57), .mv (.t 56), none⟩,
                ⟨(some 58), .fieldAddr 3 (.t 1), some (57, true)⟩,
                ⟨(some 59), .load none (.t 58), some (57, true)⟩,
                ⟨(some 60), .len 1 (.t 59), some (57, true)⟩,
                ⟨(some 61), .bin .leq (.t 60) (.k (.c (.d (.int .i64 4)))), some (57, true)⟩,
                ⟨(some 62), .pick (.t 57) (.t 61) (.k (.c (.d (.bool false)))), none⟩,
                ⟨(some 2), .mv (.t 62), none⟩] [1, 47, 49, 50, 51, 52, 53, 54, 55, 56, 57, 58, 59, 60, 61, 62])
            (.ret))
            (.skip)))))))))
  (.seq (.region [⟨(some 2), .mv (.k (.c (.d (.bool false)))), none⟩] [1, 47])
  (.ret)))
theorem ac89_ok : cFunc Try.prog [1000113] [(0, [0, 2], []), (1, [3], []), (2, [6], []), (3, [1, 4, 5, 7, 8, 9, 10, 11, 12, 13, 14, 15, 16, 17, 18, 19, 20, 21, 22, 23, 24, 25], []), (4, [5, 27], []), (5, [1, 4, 26, 28, 29, 30, 31, 32, 33, 34, 35, 36, 37, 38, 39, 40, 41, 42, 43, 44, 45, 46], []), (6, [4, 26, 48], []), (7, [1, 47, 49, 50, 51, 52, 53, 54, 55, 56, 57, 58, 59, 60, 61, 62], []), (8, [1, 47], [])] Try.f89 = some (ac89, [.tmp 2], 63) := by kernel_rfl
-- 71 loop.example/prologserver/spec.l1Shape params 2 ntmps 29
-- loop head live: [1, 2, 5]
def ac71 : Cd := .seq (.region [⟨(some 2), .box (.t 0), none⟩,
      ⟨(some 4), .mv (.k (.c (.d (.bool false)))), none⟩] [0, 4])
  (.seq (.seq (.region [⟨(some 6), .mv (.t 1), none⟩,
        ⟨(some 7), .bin .lss (.t 6) (.k (.c (.d (.int .i64 1)))), none⟩,
        ⟨(some 8), .mv (.t 7), none⟩,
        ⟨(some 9), .load (some 4) (.t 2), some (8, false)⟩,
        ⟨(some 10), .qcall 89 [(.t 9)], some (8, false)⟩,
        ⟨(some 11), .un .not (.t 10), some (8, false)⟩,
        ⟨(some 12), .pick (.t 8) (.k (.c (.d (.bool true)))) (.t 11), none⟩] [6, 7, 8, 9, 10, 11])
    (.cond (.t 12)
      (.seq (.region [⟨(some 4), .mv (.k (.c (.d (.bool false)))), none⟩] [1, 2, 12])
      (.ret))
      (.skip)))
  (.seq (.seq (.region [⟨(some 5), .mv (.k (.c (.d (.int .i64 0)))), none⟩] [4, 12])
    (.block 0 (.loop (.seq (.seq (.region [⟨(some 13), .mv (.t 5), none⟩,
              ⟨(some 14), .fieldAddr 3 (.t 2), none⟩,
              ⟨(some 15), .load none (.t 14), none⟩,
              ⟨(some 16), .len 1 (.t 15), none⟩,
              ⟨(some 17), .bin .lss (.t 13) (.t 16), none⟩] [13, 14, 15, 16])
          (.cond (.t 17)
            (.skip)
            (.exit 0)))
        (.seq (.block 1 (.seq (.region [⟨(some 20), .fieldAddr 3 (.t 2), none⟩,
                ⟨(some 21), .load none (.t 20), none⟩,
                ⟨(some 22), .mv (.t 5), none⟩,
                ⟨(some 23), .indexAddr 4 (.t 21) (.t 22), none⟩,
                ⟨(some 24), .load (some 4) (.t 23), none⟩,
                ⟨(some 25), .mv (.t 1), none⟩,
                ⟨(some 26), .bin .sub (.t 25) (.k (.c (.d (.int .i64 1)))), none⟩,
                ⟨(some 27), .qcall 71 [(.t 24), (.t 26)], none⟩,
                ⟨(some 28), .un .not (.t 27), none⟩] [17, 20, 21, 22, 23, 24, 25, 26, 27])
            (.cond (.t 28)
              (.seq (.region [⟨(some 4), .mv (.k (.c (.d (.bool false)))), none⟩] [1, 2, 5, 28])
              (.ret))
              (.skip))))
        (.region [⟨(some 18), .mv (.t 5), none⟩,
          ⟨(some 19), .bin .add (.t 18) (.k (.c (.d (.int .i64 1)))), none⟩,
          ⟨(some 5), .mv (.t 19), none⟩] [4, 18, 19, 28]))))))
  (.seq (.region [⟨(some 4), .mv (.k (.c (.d (.bool true)))), none⟩] [])
  (.ret))))
theorem ac71_ok : cFunc Try.prog [1000071, 1000089] [(0, [0, 4], []), (1, [6, 7, 8, 9, 10, 11], []), (2, [1, 2, 12], []), (3, [4, 12], []), (4, [13, 14, 15, 16], []), (6, [17, 20, 21, 22, 23, 24, 25, 26, 27], []), (7, [1, 2, 5, 28], []), (5, [4, 18, 19, 28], []), (8, [], [])] Try.f71 = some (ac71, [.tmp 4], 29) := by kernel_rfl
-- 72 loop.example/prologserver/spec.l1Count params 2 ntmps 31
-- loop head live: [1, 2, 5, 6]
def ac72 : Cd := .seq (.region [⟨(some 2), .box (.t 0), none⟩,
      ⟨(some 4), .mv (.k (.c (.d (.int .i64 0)))), none⟩] [0, 4])
  (.seq (.region [⟨(some 5), .mv (.k (.c (.d (.int .i64 1)))), none⟩] [])
  (.seq (.seq (.region [⟨(some 6), .mv (.k (.c (.d (.int .i64 0)))), none⟩] [])
    (.block 0 (.loop (.seq (.seq (.region [⟨(some 7), .mv (.t 6), none⟩,
              ⟨(some 8), .fieldAddr 3 (.t 2), none⟩,
              ⟨(some 9), .load none (.t 8), none⟩,
              ⟨(some 10), .len 1 (.t 9), none⟩,
              ⟨(some 11), .bin .lss (.t 7) (.t 10), none⟩,
              ⟨(some 12), .mv (.t 11), none⟩,
              ⟨(some 13), .mv (.t 5), some (12, true)⟩,
              ⟨(some 14), .mv (.t 1), some (12, true)⟩,
              ⟨(some 15), .bin .leq (.t 13) (.t 14), some (12, true)⟩,
              ⟨(some 16), .pick (.t 12) (.t 15) (.k (.c (.d (.bool false)))), none⟩] [7, 8, 9, 10, 11, 12, 13, 14, 15])
          (.cond (.t 16)
            (.skip)
            (.exit 0)))
        (.seq (.block 1 (.region [⟨(some 19), .mv (.t 5), none⟩,
              ⟨(some 20), .fieldAddr 3 (.t 2), none⟩,
              ⟨(some 21), .load none (.t 20), none⟩,
              ⟨(some 22), .mv (.t 6), none⟩,
              ⟨(some 23), .indexAddr 4 (.t 21) (.t 22), none⟩,
              ⟨(some 24), .load (some 4) (.t 23), none⟩,
              ⟨(some 25), .mv (.t 1), none⟩,
              ⟨(some 26), .mv (.t 5), none⟩,
              ⟨(some 27), .bin .sub (.t 25) (.t 26), none⟩,
              ⟨(some 28), .qcall 72 [(.t 24), (.t 27)], none⟩,
              ⟨(some 29), .bin .add (.t 19) (.t 28), none⟩,
              ⟨(some 5), .mv (.t 29), none⟩] [16, 19, 20, 21, 22, 23, 24, 25, 26, 27, 28, 29]))
        (.region [⟨(some 17), .mv (.t 6), none⟩,
          ⟨(some 18), .bin .add (.t 17) (.k (.c (.d (.int .i64 1)))), none⟩,
          ⟨(some 6), .mv (.t 18), none⟩] [17, 18]))))))
  (.seq (.region [⟨(some 30), .mv (.t 5), none⟩,
      ⟨(some 4), .mv (.t 30), none⟩] [5, 30])
  (.ret))))
theorem ac72_ok : cFunc Try.prog [1000072] [(0, [0, 4], []), (1, [], []), (2, [], []), (3, [7, 8, 9, 10, 11, 12, 13, 14, 15], []), (5, [16, 19, 20, 21, 22, 23, 24, 25, 26, 27, 28, 29], []), (4, [17, 18], []), (6, [5, 30], [])] Try.f72 = some (ac72, [.tmp 4], 31) := by kernel_rfl
-- 43 loop.example/prologserver/spec.TermValid params 1 ntmps 10
def ac43 : Cd := .seq (.region [⟨(some 1), .box (.t 0), none⟩,
      ⟨(some 2), .mv (.k (.c (.d (.bool false)))), none⟩] [0, 2])
  (.seq (.region [⟨(some 3), .load (some 4) (.t 1), none⟩,
      ⟨(some 4), .qcall 71 [(.t 3), (.k (.c (.d (.int .i64 30))))], none⟩,
      ⟨(some 5), .mv (.t 4), none⟩,
      ⟨(some 6), .load (some 4) (.t 1), some (5, true)⟩,
      ⟨(some 7), .qcall 72 [(.t 6), (.k (.c (.d (.int .i64 120))))], some (5, true)⟩,
      ⟨(some 8), .bin .leq (.t 7) (.k (.c (.d (.int .i64 120)))), some (5, true)⟩,
      ⟨(some 9), .pick (.t 5) (.t 8) (.k (.c (.d (.bool false)))), none⟩,
      ⟨(some 2), .mv (.t 9), none⟩] [1, 3, 4, 5, 6, 7, 8, 9])
  (.ret))
theorem ac43_ok : cFunc Try.prog [1000071, 1000072] [(0, [0, 2], []), (1, [1, 3, 4, 5, 6, 7, 8, 9], [])] Try.f43 = some (ac43, [.tmp 2], 10) := by kernel_rfl
def Cn (c : Nat) : Ob := .cells [.d (.int .i64 c)]
def ScanOk (t : Tm) : Prop := ∀ (deep c : Nat) (H : Heap) (i : Nat), deep ≤ 31 → c ≤ 120 → i < H.length →
  ACalls Try.prog 75 [.agg (t.row.map .d), .c (.d (.int .i64 deep)), .c (.ptr (.e i) 0)] (H.set i (Cn c)) (fun r H' => r = .c (.d (.bool (scanT deep t c).1)) ∧ H' = H.set i (Cn (scanT deep t c).2))
theorem anyS_scan (d : Nat) : ∀ (l : List Tm) (c : Nat), anyS (fun c t => (!(scanT d t c).1, (scanT d t c).2)) l c = (!(scanL d l c).1, (scanL d l c).2)
  | [], _ => rfl
  | t :: l, c => by
    rw [anyS, scanL]
    cases h : (scanT d t c).1 with
    | true => simp [anyS_scan d l]
    | false => simp
def scanHeap (H : Heap) (i deep : Nat) (x : Ob) (c : Nat) : Heap := H.set i (Cn c) ++ [x, .cells [.d (.int .i64 deep)], .cells [.ptr (.e i) 0]]
theorem scan1_calls (t : Tm) (h : ScanOk t) (deep c : Nat) (H : Heap) (i : Nat) (x : Ob) (hd : deep ≤ 30) (hc : c ≤ 120) (hi : i < H.length) (hfit : ∀ c, Obs.fits (H.length + 3) 0 (scanHeap H i deep x c)) :
    ACalls Try.prog 93 [.agg (t.row.map .d), .c (.ptr (.e (H.length + 1)) 0), .c (.ptr (.e (H.length + 2)) 0)] (scanHeap H i deep x c) (fun r H' => r = .c (.d (.bool (!(scanT (deep + 1) t c).1))) ∧ H' = scanHeap H i deep x (scanT (deep + 1) t c).2) := by
  refine acalls Try.func93 (by kernel_rfl) ac93_ok fun hf => ?_
  have hlen : ∀ c, (scanHeap H i deep x c).length = H.length + 3 := fun c => by simp [scanHeap]
  have g1 : (scanHeap H i deep x c)[H.length + 1]? = some (.cells [.d (.int .i64 deep)]) := by
    rw [scanHeap, List.getElem?_append_right (by simp)]; simp
  have g2 : (scanHeap H i deep x c)[H.length + 2]? = some (.cells [.ptr (.e i) 0]) := by
    rw [scanHeap, List.getElem?_append_right (by simp)]; simp
  have hadd : inR .i64 ((deep : Int) + 1) := small_i64 (by omega) (by omega)
  simp -implicitDefEqProofs [ac93, g1, g2, hadd, row_len, take_row, kw, ew, sw, tw, a_, b_, c_, -List.set_cons_succ, -List.set_cons_zero, A.ok, A.val, d_, e_, f_, g_, h_, i_, j_, k_, l_, m_, unA, unD, n_, AOp.total, o_, p_, q_, r_, s_, t_, u_, v_, A.thaw, C.thaw, A.fits, As.fits, C.fits, evs, oks, w_, A.pure, C.pure, A.re, C.re, x_, y_, cut, A.cells, C.rows?, z_, A_, B_, C_, D_, Ob.re, Cs.fits, E_, F_, G_, H_, I_, J_, K_, L_, M_, N_, O_, C.toD, P_, Q_, R_, S_, T_, Obs.fits, U_, eqD, V_, W_, X_, Y_, Z_]
  have hset : ∀ c, (H ++ ([x, .cells [.d (.int .i64 deep)], .cells [.ptr (.e i) 0]] ++ [Ob.cells (t.row.map C.d)])).set i (Cn c) = scanHeap H i deep x c ++ [Ob.cells (t.row.map C.d)] := fun c => by
    rw [List.set_append_left _ _ hi, scanHeap, List.append_assoc]
  have h2 := h (deep + 1) c (H ++ ([x, .cells [.d (.int .i64 deep)], .cells [.ptr (.e i) 0]] ++ [Ob.cells (t.row.map C.d)])) i (by omega) hc (by simp; omega)
  rw [hset] at h2
  simp -implicitDefEqProofs [pure_d, re_d, Ref.re, kw, ew, sw, tw, a_, b_, c_, -List.set_cons_succ, -List.set_cons_zero, A.ok, A.val, d_, e_, f_, g_, h_, i_, j_, k_, l_, m_, unA, unD, n_, AOp.total, o_, p_, q_, r_, s_, t_, u_, v_, A.thaw, C.thaw, A.fits, As.fits, C.fits, evs, oks, w_, A.pure, C.pure, A.re, C.re, x_, y_, cut, A.cells, C.rows?, z_, A_, B_, C_, D_, Ob.re, Cs.fits, E_, F_, G_, H_, I_, J_, K_, L_, M_, N_, O_, C.toD, P_, Q_, R_, S_, T_, Obs.fits, U_, eqD, V_, W_, X_, Y_, Z_]
  refine h2.mono fun r H' ⟨h3, h4⟩ => ⟨scanHeap H i deep x (scanT (deep + 1) t c).2, [Ob.cells (t.row.map C.d)], .c (.d (.bool (scanT (deep + 1) t c).1)), ?_, ?_, Nat.le_refl _, ?_, h3, ?_⟩
  · rw [h4, hset]; simp [Ob.re, re_d]
  · simp only [hlen]
  · simp only [hlen]; exact hfit _
  · simp -implicitDefEqProofs [kw, ew, sw, tw, a_, b_, c_, -List.set_cons_succ, -List.set_cons_zero, A.ok, A.val, d_, e_, f_, g_, h_, i_, j_, k_, l_, m_, unA, unD, n_, AOp.total, o_, p_, q_, r_, s_, t_, u_, v_, A.thaw, C.thaw, A.fits, As.fits, C.fits, evs, oks, w_, A.pure, C.pure, A.re, C.re, x_, y_, cut, A.cells, C.rows?, z_, A_, B_, C_, D_, Ob.re, Cs.fits, E_, F_, G_, H_, I_, J_, K_, L_, M_, N_, O_, C.toD, P_, Q_, R_, S_, T_, Obs.fits, U_, eqD, V_, W_, X_, Y_, Z_]
theorem scanT_bad {deep c : Nat} {t : Tm} (h : 120 < c + 1 ∨ 30 < deep) : scanT deep t c = (false, c + 1) := by
  obtain ⟨k, n, s, l⟩ := t
  rw [scanT, if_pos h]
theorem scanT_own {deep c : Nat} {t : Tm} (h1 : c + 1 ≤ 120) (h2 : deep ≤ 30) (h : t.ownB = false) : scanT deep t c = (false, c + 1) := by
  obtain ⟨k, n, s, l⟩ := t
  rw [scanT, if_neg (by omega), h]; rfl
theorem scanT_go {deep c : Nat} {t : Tm} (h1 : c + 1 ≤ 120) (h2 : deep ≤ 30) (h : t.ownB = true) : scanT deep t c = scanL (deep + 1) t.kids (c + 1) := by
  obtain ⟨k, n, s, l⟩ := t
  rw [scanT, if_neg (by omega), h]; rfl
theorem scanT_leaf {deep c : Nat} {k n : Int} {s : List UInt8} {l : List Tm} (h1 : c + 1 ≤ 120) (h2 : deep ≤ 30) (h : k ≠ 3) : scanT deep (.mk k n s l) c = ((Tm.mk k n s l).ownB, c + 1) := by
  cases ho : (Tm.mk k n s l).ownB with
  | false => exact scanT_own h1 h2 ho
  | true =>
    rw [scanT_go h1 h2 ho, Tm.kids, own_leaf h ho]
    rfl
theorem scan_calls : ∀ t : Tm, t.fits → ScanOk t := by
  refine Tm.ind fun k n s l ih hfits deep c H i hd hc hi => ?_
  obtain ⟨hk, hn, hs, hl, hkids⟩ := hfits
  refine acalls Try.func75 (by kernel_rfl) ac75_ok fun hf => ?_
  simp only [List.length_set] at hf
  have hadd : inR .i64 ((c : Int) + 1) := small_i64 (by omega) (by omega)
  have hli : inR .i64 (l.length : Int) := small_i64 (by omega) (by omega)
  have hf1 : Obs.fits H.length 0 (H.set i (.cells [.d (.int .i64 ((c : Int) + 1))])) := fits_reset hf ⟨trivial, trivial⟩
  simp -implicitDefEqProofs [ac75, Cn, row_mk, hadd, hi, hf1, hli, List.getElem?_set, kw, ew, sw, tw, a_, b_, c_, -List.set_cons_succ, -List.set_cons_zero, A.ok, A.val, d_, e_, f_, g_, h_, i_, j_, k_, l_, m_, unA, unD, n_, AOp.total, o_, p_, q_, r_, s_, t_, u_, v_, A.thaw, C.thaw, A.fits, As.fits, C.fits, evs, oks, w_, A.pure, C.pure, A.re, C.re, x_, y_, cut, A.cells, C.rows?, z_, A_, B_, C_, D_, Ob.re, Cs.fits, E_, F_, G_, H_, I_, J_, K_, L_, M_, N_, O_, C.toD, P_, Q_, R_, S_, T_, Obs.fits, U_, eqD, V_, W_, X_, Y_, Z_]
  have done : ∀ b : Bool, scanT deep (.mk k n s l) c = (b, c + 1) → b = (scanT deep (.mk k n s l) c).1 ∧ H.set i (Ob.cells [C.d (D.int IntKind.i64 ((c : Int) + 1))]) = H.set i (Ob.cells [C.d (D.int IntKind.i64 ((scanT deep (.mk k n s l) c).2 : Nat))]) := fun b h => by rw [h]; exact ⟨rfl, rfl⟩
  refine ⟨fun h => ?_, fun h1 h2 => ⟨fun k1 => ?_, fun k1 => ⟨fun k2 => ?_, fun k2 => ⟨fun k3 => ⟨fun n0 => ⟨n0, ?_⟩, fun n0 => ?_⟩, fun k3 => ?_⟩⟩⟩⟩
  · have := done false (scanT_bad (by omega))
    exact ⟨this.1.symm, this.2⟩
  · subst k1
    refine qcall_pure (within_calls n 0 25) (by simpa using hf1) rfl ?_
    have hd := done _ (scanT_leaf (by omega) (by omega) (by omega))
    simp -implicitDefEqProofs [hi, hli, isEmpty_len, List.getElem?_set, kw, ew, sw, tw, a_, b_, c_, -List.set_cons_succ, -List.set_cons_zero, A.ok, A.val, d_, e_, f_, g_, h_, i_, j_, k_, l_, m_, unA, unD, n_, AOp.total, o_, p_, q_, r_, s_, t_, u_, v_, A.thaw, C.thaw, A.fits, As.fits, C.fits, evs, oks, w_, A.pure, C.pure, A.re, C.re, x_, y_, cut, A.cells, C.rows?, z_, A_, B_, C_, D_, Ob.re, Cs.fits, E_, F_, G_, H_, I_, J_, K_, L_, M_, N_, O_, C.toD, P_, Q_, R_, S_, T_, Obs.fits, U_, eqD, V_, W_, X_, Y_, Z_]
    rw [← hd.1]
    refine ⟨?_, hd.2⟩
    simp [Tm.ownB]
  · subst k2
    refine qcall_pure (within_calls n (-999) 999) (by simpa using hf1) rfl ?_
    have hd := done _ (scanT_leaf (by omega) (by omega) (by omega))
    simp -implicitDefEqProofs [hi, hli, isEmpty_len, List.getElem?_set, kw, ew, sw, tw, a_, b_, c_, -List.set_cons_succ, -List.set_cons_zero, A.ok, A.val, d_, e_, f_, g_, h_, i_, j_, k_, l_, m_, unA, unD, n_, AOp.total, o_, p_, q_, r_, s_, t_, u_, v_, A.thaw, C.thaw, A.fits, As.fits, C.fits, evs, oks, w_, A.pure, C.pure, A.re, C.re, x_, y_, cut, A.cells, C.rows?, z_, A_, B_, C_, D_, Ob.re, Cs.fits, E_, F_, G_, H_, I_, J_, K_, L_, M_, N_, O_, C.toD, P_, Q_, R_, S_, T_, Obs.fits, U_, eqD, V_, W_, X_, Y_, Z_]
    rw [← hd.1]
    refine ⟨?_, hd.2⟩
    simp [Tm.ownB]
  · subst n0 k3
    refine qcall_pure (nvImpl_calls s (by omega)) (by simpa using hf1) rfl ?_
    cases hnm : nameB s with
    | false =>
      have hd := done _ (scanT_own (by omega) (by omega) (by simp [Tm.ownB, hnm]))
      simp -implicitDefEqProofs [hnm, hi, hli, List.getElem?_set, kw, ew, sw, tw, a_, b_, c_, -List.set_cons_succ, -List.set_cons_zero, A.ok, A.val, d_, e_, f_, g_, h_, i_, j_, k_, l_, m_, unA, unD, n_, AOp.total, o_, p_, q_, r_, s_, t_, u_, v_, A.thaw, C.thaw, A.fits, As.fits, C.fits, evs, oks, w_, A.pure, C.pure, A.re, C.re, x_, y_, cut, A.cells, C.rows?, z_, A_, B_, C_, D_, Ob.re, Cs.fits, E_, F_, G_, H_, I_, J_, K_, L_, M_, N_, O_, C.toD, P_, Q_, R_, S_, T_, Obs.fits, U_, eqD, V_, W_, X_, Y_, Z_]
      exact ⟨hd.1.symm, hd.2⟩
    | true =>
      by_cases h4 : 4 < l.length
      · have h4' : ¬ l.length ≤ 4 := by omega
        have hd := done _ (scanT_own (by omega) (by omega) (by simp [Tm.ownB, hnm, h4']))
        simp -implicitDefEqProofs [hnm, hi, hli, h4, List.getElem?_set, kw, ew, sw, tw, a_, b_, c_, -List.set_cons_succ, -List.set_cons_zero, A.ok, A.val, d_, e_, f_, g_, h_, i_, j_, k_, l_, m_, unA, unD, n_, AOp.total, o_, p_, q_, r_, s_, t_, u_, v_, A.thaw, C.thaw, A.fits, As.fits, C.fits, evs, oks, w_, A.pure, C.pure, A.re, C.re, x_, y_, cut, A.cells, C.rows?, z_, A_, B_, C_, D_, Ob.re, Cs.fits, E_, F_, G_, H_, I_, J_, K_, L_, M_, N_, O_, C.toD, P_, Q_, R_, S_, T_, Obs.fits, U_, eqD, V_, W_, X_, Y_, Z_]
        exact ⟨fun _ => ⟨hd.1.symm, hd.2⟩, fun h => by omega⟩
      · have h4' : l.length ≤ 4 := by omega
        have hgo := scanT_go (t := .mk 3 0 s l) (show c + 1 ≤ 120 by omega) (show deep ≤ 30 by omega) (by simp [Tm.ownB, hnm, h4'])
        simp -implicitDefEqProofs [hnm, hi, hli, h4, List.getElem?_set, kw, ew, sw, tw, a_, b_, c_, -List.set_cons_succ, -List.set_cons_zero, A.ok, A.val, d_, e_, f_, g_, h_, i_, j_, k_, l_, m_, unA, unD, n_, AOp.total, o_, p_, q_, r_, s_, t_, u_, v_, A.thaw, C.thaw, A.fits, As.fits, C.fits, evs, oks, w_, A.pure, C.pure, A.re, C.re, x_, y_, cut, A.cells, C.rows?, z_, A_, B_, C_, D_, Ob.re, Cs.fits, E_, F_, G_, H_, I_, J_, K_, L_, M_, N_, O_, C.toD, P_, Q_, R_, S_, T_, Obs.fits, U_, eqD, V_, W_, X_, Y_, Z_]
        refine ⟨fun h => by omega, fun _ => ?_⟩
        have hfit : ∀ c, Obs.fits (H.length + 3) 0 (scanHeap H i deep (Ob.cells [C.d (D.int IntKind.i64 3), C.d (D.int IntKind.i64 0), C.d (D.str s), C.d (D.sl (List.map Tm.row l))]) c) := fun c =>
          fits_append (fits_mono (by omega) (fits_reset (b := Cn c) hf ⟨trivial, trivial⟩)) ⟨⟨trivial, trivial, trivial, trivial, trivial⟩, ⟨trivial, trivial⟩, ⟨by show i < H.length + 3 + 0; omega, trivial⟩, trivial⟩
        have con := tmF_con (fun c => scanHeap H i deep (Ob.cells [C.d (D.int IntKind.i64 3), C.d (D.int IntKind.i64 0), C.d (D.str s), C.d (D.sl (List.map Tm.row l))]) c) (H.length + 3) (fun c => by simp [scanHeap]) hfit 93 [(H.length + 1, 0), (H.length + 2, 0)]
          (fun c t => (!(scanT (deep + 1) t c).1, (scanT (deep + 1) t c).2)) (fun c => c ≤ 120) l (by omega) (fun c hc t ht => scan1_calls t (ih t ht (hkids t ht)) deep c H i _ (by omega) hc hi hfit)
          (fun c hc t ht h => ((scan_spec t (deep + 1) c hc).1 (by simpa using h)).2) (c + 1) (by omega)
        rw [anyS_scan] at con
        simp only [Tm.kids] at hgo
        rw [← hgo] at con
        refine con.mono fun r H' ⟨h5, h6⟩ => ⟨H.set i (Cn (scanT deep (Tm.mk 3 0 s l) c).2), [Ob.cells [C.d (D.int IntKind.i64 3), C.d (D.int IntKind.i64 0), C.d (D.str s), C.d (D.sl (List.map Tm.row l))], Ob.cells [C.d (D.int IntKind.i64 deep)], Ob.cells [C.ptr (.e i) 0]], .c (.d (.bool (!(scanT deep (Tm.mk 3 0 s l) c).1))), by rw [h6]; rfl, by simp, Nat.le_refl _, by simpa using fits_reset (b := Cn (scanT deep (Tm.mk 3 0 s l) c).2) hf ⟨trivial, trivial⟩, h5, ?_⟩
        simp -implicitDefEqProofs [kw, ew, sw, tw, a_, b_, c_, -List.set_cons_succ, -List.set_cons_zero, A.ok, A.val, d_, e_, f_, g_, h_, i_, j_, k_, l_, m_, unA, unD, n_, AOp.total, o_, p_, q_, r_, s_, t_, u_, v_, A.thaw, C.thaw, A.fits, As.fits, C.fits, evs, oks, w_, A.pure, C.pure, A.re, C.re, x_, y_, cut, A.cells, C.rows?, z_, A_, B_, C_, D_, Ob.re, Cs.fits, E_, F_, G_, H_, I_, J_, K_, L_, M_, N_, O_, C.toD, P_, Q_, R_, S_, T_, Obs.fits, U_, eqD, V_, W_, X_, Y_, Z_]
        rfl
  · have := done false (scanT_own (by omega) (by omega) (by simp [Tm.ownB, k3, n0]))
    exact ⟨this.1.symm, this.2⟩
  · have := done false (scanT_own (by omega) (by omega) (by simp [Tm.ownB, k1, k2, k3]))
    exact ⟨this.1.symm, this.2⟩
theorem tvImpl_calls (t : Tm) (ht : t.fits) (H : Heap) : ACalls Try.prog 46 [.agg (t.row.map .d)] H (fun r H' => H' = H ∧ r = .c (.d (.bool t.valid))) := by
  refine acalls Try.func46 (by kernel_rfl) ac46_ok fun hf => ?_
  simp -implicitDefEqProofs [ac46, hf, row_len, take_row, kw, ew, sw, tw, a_, b_, c_, -List.set_cons_succ, -List.set_cons_zero, A.ok, A.val, d_, e_, f_, g_, h_, i_, j_, k_, l_, m_, unA, unD, n_, AOp.total, o_, p_, q_, r_, s_, t_, u_, v_, A.thaw, C.thaw, A.fits, As.fits, C.fits, evs, oks, w_, A.pure, C.pure, A.re, C.re, x_, y_, cut, A.cells, C.rows?, z_, A_, B_, C_, D_, Ob.re, Cs.fits, E_, F_, G_, H_, I_, J_, K_, L_, M_, N_, O_, C.toD, P_, Q_, R_, S_, T_, Obs.fits, U_, eqD, V_, W_, X_, Y_, Z_]
  have h := scan_calls t ht 1 0 (H ++ [Ob.cells (t.row.map C.d), Cn 0]) (H.length + 1) (by omega) (by omega) (by simp)
  have hset : ∀ c, (H ++ [Ob.cells (t.row.map C.d), Cn 0]).set (H.length + 1) (Cn c) = H ++ [Ob.cells (t.row.map C.d), Cn c] := fun c => by
    rw [List.set_append_right _ _ (by omega)]; simp
  rw [hset, scan_valid, hset] at h
  simp -implicitDefEqProofs [pure_d, re_d, Ref.re, kw, ew, sw, tw, a_, b_, c_, -List.set_cons_succ, -List.set_cons_zero, A.ok, A.val, d_, e_, f_, g_, h_, i_, j_, k_, l_, m_, unA, unD, n_, AOp.total, o_, p_, q_, r_, s_, t_, u_, v_, A.thaw, C.thaw, A.fits, As.fits, C.fits, evs, oks, w_, A.pure, C.pure, A.re, C.re, x_, y_, cut, A.cells, C.rows?, z_, A_, B_, C_, D_, Ob.re, Cs.fits, E_, F_, G_, H_, I_, J_, K_, L_, M_, N_, O_, C.toD, P_, Q_, R_, S_, T_, Obs.fits, U_, eqD, V_, W_, X_, Y_, Z_]
  refine h.mono fun r H' ⟨h3, h4⟩ => ⟨H, [Ob.cells (t.row.map C.d), Cn (scanT 1 t 0).2], .c (.d (.bool t.valid)), ?_, rfl, Nat.le_refl _, hf, h3, ?_⟩
  · rw [h4]; simp [Cn, Ob.re, C.re, re_d]
  · simp -implicitDefEqProofs [kw, ew, sw, tw, a_, b_, c_, -List.set_cons_succ, -List.set_cons_zero, A.ok, A.val, d_, e_, f_, g_, h_, i_, j_, k_, l_, m_, unA, unD, n_, AOp.total, o_, p_, q_, r_, s_, t_, u_, v_, A.thaw, C.thaw, A.fits, As.fits, C.fits, evs, oks, w_, A.pure, C.pure, A.re, C.re, x_, y_, cut, A.cells, C.rows?, z_, A_, B_, C_, D_, Ob.re, Cs.fits, E_, F_, G_, H_, I_, J_, K_, L_, M_, N_, O_, C.toD, P_, Q_, R_, S_, T_, Obs.fits, U_, eqD, V_, W_, X_, Y_, Z_]
theorem sizes_take : ∀ {l : List Tm} {i : Nat} (h : i < l.length), sizes (l.take (i + 1)) = sizes (l.take i) + l[i].size
  | [], i, h => by simp at h
  | t :: l, 0, h => by simp [sizes]
  | t :: l, i + 1, h => by
    have := sizes_take (l := l) (i := i) (by simpa using h)
    simp only [List.take_succ_cons, sizes, List.getElem_cons_succ, this]
    omega
theorem sizes_le : ∀ (l : List Tm) (i : Nat), sizes (l.take i) ≤ sizes l
  | [], i => by simp
  | t :: l, 0 => by simp [sizes]
  | t :: l, i + 1 => by
    have := sizes_le l i
    simp only [List.take_succ_cons, sizes]
    omega
theorem own_calls (t : Tm) (ht : t.fits) (H : Heap) : ACalls Try.prog 89 [.agg (t.row.map .d)] H (fun r H' => H' = H ∧ r = .c (.d (.bool t.ownB))) := by
  obtain ⟨k, n, s, l⟩ := t
  obtain ⟨hk, hn, hs, hl, hkids⟩ := ht
  refine acalls Try.func89 (by kernel_rfl) ac89_ok fun hf => ?_
  have hli : inR .i64 (l.length : Int) := small_i64 (by omega) (by omega)
  by_cases k1 : k = 1
  · subst k1
    simp -implicitDefEqProofs [ac89, row_mk, hli, Tm.ownB, isEmpty_len, kw, ew, sw, tw, a_, b_, c_, -List.set_cons_succ, -List.set_cons_zero, A.ok, A.val, d_, e_, f_, g_, h_, i_, j_, k_, l_, m_, unA, unD, n_, AOp.total, o_, p_, q_, r_, s_, t_, u_, v_, A.thaw, C.thaw, A.fits, As.fits, C.fits, evs, oks, w_, A.pure, C.pure, A.re, C.re, x_, y_, cut, A.cells, C.rows?, z_, A_, B_, C_, D_, Ob.re, Cs.fits, E_, F_, G_, H_, I_, J_, K_, L_, M_, N_, O_, C.toD, P_, Q_, R_, S_, T_, Obs.fits, U_, eqD, V_, W_, X_, Y_, Z_]
  · by_cases k2 : k = 2
    · subst k2
      simp -implicitDefEqProofs [ac89, row_mk, hli, Tm.ownB, isEmpty_len, kw, ew, sw, tw, a_, b_, c_, -List.set_cons_succ, -List.set_cons_zero, A.ok, A.val, d_, e_, f_, g_, h_, i_, j_, k_, l_, m_, unA, unD, n_, AOp.total, o_, p_, q_, r_, s_, t_, u_, v_, A.thaw, C.thaw, A.fits, As.fits, C.fits, evs, oks, w_, A.pure, C.pure, A.re, C.re, x_, y_, cut, A.cells, C.rows?, z_, A_, B_, C_, D_, Ob.re, Cs.fits, E_, F_, G_, H_, I_, J_, K_, L_, M_, N_, O_, C.toD, P_, Q_, R_, S_, T_, Obs.fits, U_, eqD, V_, W_, X_, Y_, Z_]
    · by_cases k3 : k = 3
      · subst k3
        by_cases n0 : n = 0
        · simp -implicitDefEqProofs [ac89, row_mk, hli, n0, kw, ew, sw, tw, a_, b_, c_, -List.set_cons_succ, -List.set_cons_zero, A.ok, A.val, d_, e_, f_, g_, h_, i_, j_, k_, l_, m_, unA, unD, n_, AOp.total, o_, p_, q_, r_, s_, t_, u_, v_, A.thaw, C.thaw, A.fits, As.fits, C.fits, evs, oks, w_, A.pure, C.pure, A.re, C.re, x_, y_, cut, A.cells, C.rows?, z_, A_, B_, C_, D_, Ob.re, Cs.fits, E_, F_, G_, H_, I_, J_, K_, L_, M_, N_, O_, C.toD, P_, Q_, R_, S_, T_, Obs.fits, U_, eqD, V_, W_, X_, Y_, Z_]
          refine qcall_pure (nvSpec_calls s (by omega)) hf rfl ?_
          simp -implicitDefEqProofs [hli, n0, Tm.ownB, kw, ew, sw, tw, a_, b_, c_, -List.set_cons_succ, -List.set_cons_zero, A.ok, A.val, d_, e_, f_, g_, h_, i_, j_, k_, l_, m_, unA, unD, n_, AOp.total, o_, p_, q_, r_, s_, t_, u_, v_, A.thaw, C.thaw, A.fits, As.fits, C.fits, evs, oks, w_, A.pure, C.pure, A.re, C.re, x_, y_, cut, A.cells, C.rows?, z_, A_, B_, C_, D_, Ob.re, Cs.fits, E_, F_, G_, H_, I_, J_, K_, L_, M_, N_, O_, C.toD, P_, Q_, R_, S_, T_, Obs.fits, U_, eqD, V_, W_, X_, Y_, Z_]
          congr 1
          simp
          omega
        · simp -implicitDefEqProofs [ac89, row_mk, hli, n0, Tm.ownB, kw, ew, sw, tw, a_, b_, c_, -List.set_cons_succ, -List.set_cons_zero, A.ok, A.val, d_, e_, f_, g_, h_, i_, j_, k_, l_, m_, unA, unD, n_, AOp.total, o_, p_, q_, r_, s_, t_, u_, v_, A.thaw, C.thaw, A.fits, As.fits, C.fits, evs, oks, w_, A.pure, C.pure, A.re, C.re, x_, y_, cut, A.cells, C.rows?, z_, A_, B_, C_, D_, Ob.re, Cs.fits, E_, F_, G_, H_, I_, J_, K_, L_, M_, N_, O_, C.toD, P_, Q_, R_, S_, T_, Obs.fits, U_, eqD, V_, W_, X_, Y_, Z_]
      · simp -implicitDefEqProofs [ac89, row_mk, hli, k1, k2, k3, Tm.ownB, kw, ew, sw, tw, a_, b_, c_, -List.set_cons_succ, -List.set_cons_zero, A.ok, A.val, d_, e_, f_, g_, h_, i_, j_, k_, l_, m_, unA, unD, n_, AOp.total, o_, p_, q_, r_, s_, t_, u_, v_, A.thaw, C.thaw, A.fits, As.fits, C.fits, evs, oks, w_, A.pure, C.pure, A.re, C.re, x_, y_, cut, A.cells, C.rows?, z_, A_, B_, C_, D_, Ob.re, Cs.fits, E_, F_, G_, H_, I_, J_, K_, L_, M_, N_, O_, C.toD, P_, Q_, R_, S_, T_, Obs.fits, U_, eqD, V_, W_, X_, Y_, Z_]
theorem shape_calls : ∀ t : Tm, t.fits → ∀ (d : Nat), d ≤ 30 → ∀ H, ACalls Try.prog 71 [.agg (t.row.map .d), .c (.d (.int .i64 d))] H (fun r H' => H' = H ∧ r = .c (.d (.bool (t.shape d)))) := by
  refine Tm.ind fun k n s l ih hfits d hd H => ?_
  have how := own_calls _ hfits
  obtain ⟨hk, hn, hs, hl, hkids⟩ := hfits
  rw [row_mk] at how
  simp only [List.map_cons, List.map_nil] at how
  refine acalls Try.func71 (by kernel_rfl) ac71_ok fun hf => ?_
  have hli : inR .i64 (l.length : Int) := small_i64 (by omega) (by omega)
  have hsub : 1 ≤ d → inR .i64 ((d : Int) - 1) := fun h => small_i64 (by omega) (by omega)
  simp -implicitDefEqProofs [ac71, row_mk, hli, kw, ew, sw, tw, a_, b_, c_, -List.set_cons_succ, -List.set_cons_zero, A.ok, A.val, d_, e_, f_, g_, h_, i_, j_, k_, l_, m_, unA, unD, n_, AOp.total, o_, p_, q_, r_, s_, t_, u_, v_, A.thaw, C.thaw, A.fits, As.fits, C.fits, evs, oks, w_, A.pure, C.pure, A.re, C.re, x_, y_, cut, A.cells, C.rows?, z_, A_, B_, C_, D_, Ob.re, Cs.fits, E_, F_, G_, H_, I_, J_, K_, L_, M_, N_, O_, C.toD, P_, Q_, R_, S_, T_, Obs.fits, U_, eqD, V_, W_, X_, Y_, Z_]
  refine ⟨fun h1 => ⟨h1, ?_⟩, fun h1 => ?_⟩
  · have hd1 : 1 ≤ d := by omega
    refine qcall_pure how hf rfl ?_
    cases ho : (Tm.mk k n s l).ownB with
    | false => simp -implicitDefEqProofs [ho, Tm.shape, kw, ew, sw, tw, a_, b_, c_, -List.set_cons_succ, -List.set_cons_zero, A.ok, A.val, d_, e_, f_, g_, h_, i_, j_, k_, l_, m_, unA, unD, n_, AOp.total, o_, p_, q_, r_, s_, t_, u_, v_, A.thaw, C.thaw, A.fits, As.fits, C.fits, evs, oks, w_, A.pure, C.pure, A.re, C.re, x_, y_, cut, A.cells, C.rows?, z_, A_, B_, C_, D_, Ob.re, Cs.fits, E_, F_, G_, H_, I_, J_, K_, L_, M_, N_, O_, C.toD, P_, Q_, R_, S_, T_, Obs.fits, U_, eqD, V_, W_, X_, Y_, Z_]
    | true =>
      simp -implicitDefEqProofs [ho, kw, ew, sw, tw, a_, b_, c_, -List.set_cons_succ, -List.set_cons_zero, A.ok, A.val, d_, e_, f_, g_, h_, i_, j_, k_, l_, m_, unA, unD, n_, AOp.total, o_, p_, q_, r_, s_, t_, u_, v_, A.thaw, C.thaw, A.fits, As.fits, C.fits, evs, oks, w_, A.pure, C.pure, A.re, C.re, x_, y_, cut, A.cells, C.rows?, z_, A_, B_, C_, D_, Ob.re, Cs.fits, E_, F_, G_, H_, I_, J_, K_, L_, M_, N_, O_, C.toD, P_, Q_, R_, S_, T_, Obs.fits, U_, eqD, V_, W_, X_, Y_, Z_]
      refine loop_set (σ := Nat) (fun i => [(5, .c (.d (.int .i64 i)))]) (fun _ => H) (fun _ => [_]) (fun i => i ≤ l.length ∧ ∀ t ∈ l.take i, t.shape (d - 1) = true) (fun i => l.length - i) 0 rfl ⟨Nat.zero_le _, by simp⟩ ?_
      rintro i ⟨hi, hall⟩
      simp -implicitDefEqProofs [setAll, hli, kw, ew, sw, tw, a_, b_, c_, -List.set_cons_succ, -List.set_cons_zero, A.ok, A.val, d_, e_, f_, g_, h_, i_, j_, k_, l_, m_, unA, unD, n_, AOp.total, o_, p_, q_, r_, s_, t_, u_, v_, A.thaw, C.thaw, A.fits, As.fits, C.fits, evs, oks, w_, A.pure, C.pure, A.re, C.re, x_, y_, cut, A.cells, C.rows?, z_, A_, B_, C_, D_, Ob.re, Cs.fits, E_, F_, G_, H_, I_, J_, K_, L_, M_, N_, O_, C.toD, P_, Q_, R_, S_, T_, Obs.fits, U_, eqD, V_, W_, X_, Y_, Z_]
      refine ⟨fun hlt => ?_, fun hge => ?_⟩
      · refine row_of hlt (row_len _) ?_
        simp -implicitDefEqProofs [row_len, take_row, pure_d, re_d, hsub hd1, kw, ew, sw, tw, a_, b_, c_, -List.set_cons_succ, -List.set_cons_zero, A.ok, A.val, d_, e_, f_, g_, h_, i_, j_, k_, l_, m_, unA, unD, n_, AOp.total, o_, p_, q_, r_, s_, t_, u_, v_, A.thaw, C.thaw, A.fits, As.fits, C.fits, evs, oks, w_, A.pure, C.pure, A.re, C.re, x_, y_, cut, A.cells, C.rows?, z_, A_, B_, C_, D_, Ob.re, Cs.fits, E_, F_, G_, H_, I_, J_, K_, L_, M_, N_, O_, C.toD, P_, Q_, R_, S_, T_, Obs.fits, U_, eqD, V_, W_, X_, Y_, Z_]
        have hc := ih l[i] (List.getElem_mem hlt) (hkids _ (List.getElem_mem hlt)) (d - 1) (by omega)
        rw [show ((d - 1 : Nat) : Int) = (d : Int) - 1 by omega] at hc
        refine qcall_pure hc hf rfl ?_
        have hadd : inR .i64 ((i : Int) + 1) := small_i64 (by omega) (by omega)
        simp -implicitDefEqProofs [hadd, kw, ew, sw, tw, a_, b_, c_, -List.set_cons_succ, -List.set_cons_zero, A.ok, A.val, d_, e_, f_, g_, h_, i_, j_, k_, l_, m_, unA, unD, n_, AOp.total, o_, p_, q_, r_, s_, t_, u_, v_, A.thaw, C.thaw, A.fits, As.fits, C.fits, evs, oks, w_, A.pure, C.pure, A.re, C.re, x_, y_, cut, A.cells, C.rows?, z_, A_, B_, C_, D_, Ob.re, Cs.fits, E_, F_, G_, H_, I_, J_, K_, L_, M_, N_, O_, C.toD, P_, Q_, R_, S_, T_, Obs.fits, U_, eqD, V_, W_, X_, Y_, Z_]
        refine ⟨fun hg => ?_, fun hg => loop_back (i + 1) (by simp [setAll]) ⟨hlt, fun t ht => ?_⟩ (by show l.length - (i + 1) < l.length - i; omega)⟩
        · rw [Tm.shape, shapes_all]
          have : (l.all fun t => t.shape (d - 1)) = false := by
            rw [List.all_eq_false]
            exact ⟨l[i], List.getElem_mem hlt, by simp [hg]⟩
          simp [this]
        · rw [List.take_succ_eq_append_getElem hlt, List.mem_append] at ht
          rcases ht with ht | ht
          · exact hall t ht
          · simp at ht; subst ht; exact hg
      · rw [List.take_of_length_le hge] at hall
        rw [Tm.shape, shapes_all, ho, List.all_eq_true.2 hall]
        simp [hd1]
  · rw [Tm.shape]
    have : ¬ 1 ≤ d := by omega
    simp [this]
theorem count_calls : ∀ t : Tm, t.fits → ∀ (m : Nat), m ≤ 1000 → ∀ H, ACalls Try.prog 72 [.agg (t.row.map .d), .c (.d (.int .i64 m))] H (fun r H' => H' = H ∧ r = .c (.d (.int .i64 (min t.size (m + 1) : Nat)))) := by
  refine Tm.ind fun k n s l ih hfits m hm H => ?_
  obtain ⟨hk, hn, hs, hl, hkids⟩ := hfits
  refine acalls Try.func72 (by kernel_rfl) ac72_ok fun hf => ?_
  have hli : inR .i64 (l.length : Int) := small_i64 (by omega) (by omega)
  simp -implicitDefEqProofs [ac72, row_mk, hli, kw, ew, sw, tw, a_, b_, c_, -List.set_cons_succ, -List.set_cons_zero, A.ok, A.val, d_, e_, f_, g_, h_, i_, j_, k_, l_, m_, unA, unD, n_, AOp.total, o_, p_, q_, r_, s_, t_, u_, v_, A.thaw, C.thaw, A.fits, As.fits, C.fits, evs, oks, w_, A.pure, C.pure, A.re, C.re, x_, y_, cut, A.cells, C.rows?, z_, A_, B_, C_, D_, Ob.re, Cs.fits, E_, F_, G_, H_, I_, J_, K_, L_, M_, N_, O_, C.toD, P_, Q_, R_, S_, T_, Obs.fits, U_, eqD, V_, W_, X_, Y_, Z_]
  refine loop_set (σ := Nat × Nat) (fun x => [(6, .c (.d (.int .i64 x.1))), (5, .c (.d (.int .i64 x.2)))]) (fun _ => H) (fun _ => [_]) (fun x => x.1 ≤ l.length ∧ x.2 = min (1 + sizes (l.take x.1)) (m + 1)) (fun x => l.length - x.1) (0, 1) rfl ⟨Nat.zero_le _, by simp [sizes]⟩ ?_
  rintro ⟨i, c⟩ ⟨hi, hcnt⟩
  simp only at hi hcnt
  have htk : ∀ h : i < l.length, sizes (l.take (i + 1)) = sizes (l.take i) + (l[i]'h).size := fun h => sizes_take h
  by_cases hlt : i < l.length
  · by_cases hcm : c ≤ m
    · have hsub : inR .i64 ((m : Int) - (c : Int)) := small_i64 (by omega) (by omega)
      have hadd : inR .i64 ((i : Int) + 1) := small_i64 (by omega) (by omega)
      simp -implicitDefEqProofs [setAll, hli, hlt, hcm, hsub, kw, ew, sw, tw, a_, b_, c_, -List.set_cons_succ, -List.set_cons_zero, A.ok, A.val, d_, e_, f_, g_, h_, i_, j_, k_, l_, m_, unA, unD, n_, AOp.total, o_, p_, q_, r_, s_, t_, u_, v_, A.thaw, C.thaw, A.fits, As.fits, C.fits, evs, oks, w_, A.pure, C.pure, A.re, C.re, x_, y_, cut, A.cells, C.rows?, z_, A_, B_, C_, D_, Ob.re, Cs.fits, E_, F_, G_, H_, I_, J_, K_, L_, M_, N_, O_, C.toD, P_, Q_, R_, S_, T_, Obs.fits, U_, eqD, V_, W_, X_, Y_, Z_]
      refine row_of hlt (row_len _) ?_
      simp -implicitDefEqProofs [row_len, take_row, pure_d, re_d, hsub, kw, ew, sw, tw, a_, b_, c_, -List.set_cons_succ, -List.set_cons_zero, A.ok, A.val, d_, e_, f_, g_, h_, i_, j_, k_, l_, m_, unA, unD, n_, AOp.total, o_, p_, q_, r_, s_, t_, u_, v_, A.thaw, C.thaw, A.fits, As.fits, C.fits, evs, oks, w_, A.pure, C.pure, A.re, C.re, x_, y_, cut, A.cells, C.rows?, z_, A_, B_, C_, D_, Ob.re, Cs.fits, E_, F_, G_, H_, I_, J_, K_, L_, M_, N_, O_, C.toD, P_, Q_, R_, S_, T_, Obs.fits, U_, eqD, V_, W_, X_, Y_, Z_]
      have hc := ih l[i] (List.getElem_mem hlt) (hkids _ (List.getElem_mem hlt)) (m - c) (by omega)
      rw [show ((m - c : Nat) : Int) = (m : Int) - c by omega] at hc
      refine qcall_pure hc hf rfl ?_
      have e := htk hlt
      have hcs : c + min l[i].size (m - c + 1) = min (1 + sizes (l.take (i + 1))) (m + 1) := by omega
      have hadd2 : inR .i64 ((c : Int) + ((min l[i].size (m - c + 1) : Nat) : Int)) := small_i64 (by omega) (by omega)
      simp -implicitDefEqProofs [hadd, hadd2, kw, ew, sw, tw, a_, b_, c_, -List.set_cons_succ, -List.set_cons_zero, A.ok, A.val, d_, e_, f_, g_, h_, i_, j_, k_, l_, m_, unA, unD, n_, AOp.total, o_, p_, q_, r_, s_, t_, u_, v_, A.thaw, C.thaw, A.fits, As.fits, C.fits, evs, oks, w_, A.pure, C.pure, A.re, C.re, x_, y_, cut, A.cells, C.rows?, z_, A_, B_, C_, D_, Ob.re, Cs.fits, E_, F_, G_, H_, I_, J_, K_, L_, M_, N_, O_, C.toD, P_, Q_, R_, S_, T_, Obs.fits, U_, eqD, V_, W_, X_, Y_, Z_]
      refine loop_back (i + 1, c + min l[i].size (m - c + 1)) (by simp [setAll]) ⟨hlt, hcs⟩ (by show l.length - (i + 1) < l.length - i; omega)
    · simp -implicitDefEqProofs [setAll, hli, hlt, hcm, kw, ew, sw, tw, a_, b_, c_, -List.set_cons_succ, -List.set_cons_zero, A.ok, A.val, d_, e_, f_, g_, h_, i_, j_, k_, l_, m_, unA, unD, n_, AOp.total, o_, p_, q_, r_, s_, t_, u_, v_, A.thaw, C.thaw, A.fits, As.fits, C.fits, evs, oks, w_, A.pure, C.pure, A.re, C.re, x_, y_, cut, A.cells, C.rows?, z_, A_, B_, C_, D_, Ob.re, Cs.fits, E_, F_, G_, H_, I_, J_, K_, L_, M_, N_, O_, C.toD, P_, Q_, R_, S_, T_, Obs.fits, U_, eqD, V_, W_, X_, Y_, Z_]
      have h1 := sizes_le l i
      rw [Tm.size]
      omega
  · have hil : i = l.length := by omega
    subst hil
    rw [List.take_length] at hcnt
    simp -implicitDefEqProofs [setAll, hli, kw, ew, sw, tw, a_, b_, c_, -List.set_cons_succ, -List.set_cons_zero, A.ok, A.val, d_, e_, f_, g_, h_, i_, j_, k_, l_, m_, unA, unD, n_, AOp.total, o_, p_, q_, r_, s_, t_, u_, v_, A.thaw, C.thaw, A.fits, As.fits, C.fits, evs, oks, w_, A.pure, C.pure, A.re, C.re, x_, y_, cut, A.cells, C.rows?, z_, A_, B_, C_, D_, Ob.re, Cs.fits, E_, F_, G_, H_, I_, J_, K_, L_, M_, N_, O_, C.toD, P_, Q_, R_, S_, T_, Obs.fits, U_, eqD, V_, W_, X_, Y_, Z_]
    rw [Tm.size, hcnt]
theorem tvSpec_calls (t : Tm) (ht : t.fits) (H : Heap) : ACalls Try.prog 43 [.agg (t.row.map .d)] H (fun r H' => H' = H ∧ r = .c (.d (.bool t.valid))) := by
  refine acalls Try.func43 (by kernel_rfl) ac43_ok fun hf => ?_
  simp -implicitDefEqProofs [ac43, row_len, take_row, pure_d, re_d, kw, ew, sw, tw, a_, b_, c_, -List.set_cons_succ, -List.set_cons_zero, A.ok, A.val, d_, e_, f_, g_, h_, i_, j_, k_, l_, m_, unA, unD, n_, AOp.total, o_, p_, q_, r_, s_, t_, u_, v_, A.thaw, C.thaw, A.fits, As.fits, C.fits, evs, oks, w_, A.pure, C.pure, A.re, C.re, x_, y_, cut, A.cells, C.rows?, z_, A_, B_, C_, D_, Ob.re, Cs.fits, E_, F_, G_, H_, I_, J_, K_, L_, M_, N_, O_, C.toD, P_, Q_, R_, S_, T_, Obs.fits, U_, eqD, V_, W_, X_, Y_, Z_]
  refine qcall_pure (shape_calls t ht 30 (by omega)) hf rfl ?_
  cases h : t.shape 30 with
  | false => simp -implicitDefEqProofs [h, Tm.valid, row_len, take_row, kw, ew, sw, tw, a_, b_, c_, -List.set_cons_succ, -List.set_cons_zero, A.ok, A.val, d_, e_, f_, g_, h_, i_, j_, k_, l_, m_, unA, unD, n_, AOp.total, o_, p_, q_, r_, s_, t_, u_, v_, A.thaw, C.thaw, A.fits, As.fits, C.fits, evs, oks, w_, A.pure, C.pure, A.re, C.re, x_, y_, cut, A.cells, C.rows?, z_, A_, B_, C_, D_, Ob.re, Cs.fits, E_, F_, G_, H_, I_, J_, K_, L_, M_, N_, O_, C.toD, P_, Q_, R_, S_, T_, Obs.fits, U_, eqD, V_, W_, X_, Y_, Z_]
  | true =>
    simp -implicitDefEqProofs [h, Tm.valid, row_len, take_row, pure_d, re_d, kw, ew, sw, tw, a_, b_, c_, -List.set_cons_succ, -List.set_cons_zero, A.ok, A.val, d_, e_, f_, g_, h_, i_, j_, k_, l_, m_, unA, unD, n_, AOp.total, o_, p_, q_, r_, s_, t_, u_, v_, A.thaw, C.thaw, A.fits, As.fits, C.fits, evs, oks, w_, A.pure, C.pure, A.re, C.re, x_, y_, cut, A.cells, C.rows?, z_, A_, B_, C_, D_, Ob.re, Cs.fits, E_, F_, G_, H_, I_, J_, K_, L_, M_, N_, O_, C.toD, P_, Q_, R_, S_, T_, Obs.fits, U_, eqD, V_, W_, X_, Y_, Z_]
    refine qcall_pure (count_calls t ht 120 (by omega)) hf rfl ?_
    simp -implicitDefEqProofs [kw, ew, sw, tw, a_, b_, c_, -List.set_cons_succ, -List.set_cons_zero, A.ok, A.val, d_, e_, f_, g_, h_, i_, j_, k_, l_, m_, unA, unD, n_, AOp.total, o_, p_, q_, r_, s_, t_, u_, v_, A.thaw, C.thaw, A.fits, As.fits, C.fits, evs, oks, w_, A.pure, C.pure, A.re, C.re, x_, y_, cut, A.cells, C.rows?, z_, A_, B_, C_, D_, Ob.re, Cs.fits, E_, F_, G_, H_, I_, J_, K_, L_, M_, N_, O_, C.toD, P_, Q_, R_, S_, T_, Obs.fits, U_, eqD, V_, W_, X_, Y_, Z_]
    omega
end Go.Proofs.Ytaegeehpajlebaa
