/-
  Terms as the program writes them.
  Conditions: none.
-/
import Derived.Test.YtikgpomnibbioaaGreatDoorWrL
import Derived.Test.YtikgpomnibbioaaGreatDoorItoa
open Go Go.AM Go.Proofs
namespace Go.Proofs.YtikgpomnibbioaaGreatDoor
open Go.ChangeShapes Go.WideShapes Go.ChangeAt Go.RowKit
set_option linter.unusedVariables false
set_option linter.unusedSimpArgs false
set_option maxRecDepth 100000
-- 29 loop.example/prologserver/impl.letter params 1 ntmps 8
def ac29 : Cd := .seq (.region [⟨(some 2), .mv (.k (.c (.d (.str [])))), none⟩] [2])
  (.seq (.region [⟨(some 3), .mv (.t 0), none⟩,
      ⟨(some 4), .bin .add (.k (.c (.d (.int .i64 65)))) (.t 3), none⟩,
      ⟨(some 5), .cvInt .u8 (.t 4), none⟩,
      ⟨(some 6), .buildSlice 1 1 [(.int .u8 0)] [(0, (.t 5))], none⟩,
      ⟨(some 7), .cvB2S (.t 6), none⟩,
      ⟨(some 2), .mv (.t 7), none⟩] [0, 3, 4, 5, 6, 7])
  (.ret))
theorem ac29_ok : cFunc Tryz.prog [] [(0, [2], []), (1, [0, 3, 4, 5, 6, 7], [])] Tryz.f29 = some (ac29, [.tmp 2], 8) := by kernel_rfl
-- 74 loop.example/prologserver/impl.isDigit params 1 ntmps 9
def ac74 : Cd := .seq (.region [⟨(some 2), .mv (.k (.c (.d (.bool false)))), none⟩] [2])
  (.seq (.region [⟨(some 3), .mv (.t 0), none⟩,
      ⟨(some 4), .bin .geq (.t 3) (.k (.c (.d (.int .u8 48)))), none⟩,
      ⟨(some 5), .mv (.t 4), none⟩,
      ⟨(some 6), .mv (.t 0), some (5, true)⟩,
      ⟨(some 7), .bin .leq (.t 6) (.k (.c (.d (.int .u8 57)))), some (5, true)⟩,
      ⟨(some 8), .pick (.t 5) (.t 7) (.k (.c (.d (.bool false)))), none⟩,
      ⟨(some 2), .mv (.t 8), none⟩] [0, 3, 4, 5, 6, 7, 8])
  (.ret))
theorem ac74_ok : cFunc Tryz.prog [] [(0, [2], []), (1, [0, 3, 4, 5, 6, 7, 8], [])] Tryz.f74 = some (ac74, [.tmp 2], 9) := by kernel_rfl
-- 53 loop.example/prologserver/impl.leftMost params 1 ntmps 14
def ac53 : Cd := .seq (.region [⟨(some 2), .mv (.k (.c (.d (.int .i64 0)))), none⟩] [2])
  (.seq (.region [⟨(some 6), .mv (.t 0), none⟩,
      ⟨(some 7), .qcall 51 [(.t 6)], none⟩,
      ⟨(some 5), .mv (.t 7), none⟩,
      ⟨(some 8), .extract 0 (.t 5), none⟩,
      ⟨(some 9), .extract 1 (.t 5), none⟩,
      ⟨(some 3), .mv (.t 8), none⟩,
      ⟨(some 4), .mv (.t 9), none⟩] [0, 5, 6, 7, 8, 9])
  (.seq (.seq (.region [⟨(some 10), .mv (.t 4), none⟩] [4])
    (.cond (.t 10)
      (.seq (.region [⟨(some 11), .mv (.t 3), none⟩,
          ⟨(some 2), .mv (.t 11), none⟩] [3, 10, 11])
      (.ret))
      (.skip)))
  (.seq (.region [⟨(some 12), .mv (.t 3), none⟩,
      ⟨(some 13), .bin .sub (.t 12) (.k (.c (.d (.int .i64 1)))), none⟩,
      ⟨(some 2), .mv (.t 13), none⟩] [3, 10, 12, 13])
  (.ret))))
theorem ac53_ok : cFunc Tryz.prog [1000051] [(0, [2], []), (1, [0, 5, 6, 7, 8, 9], []), (2, [4], []), (3, [3, 10, 11], []), (4, [3, 10, 12, 13], [])] Tryz.f53 = some (ac53, [.tmp 2], 14) := by kernel_rfl
-- 54 loop.example/prologserver/impl.opText params 1 ntmps 9
def ac54 : Cd := .seq (.region [⟨(some 2), .mv (.k (.c (.d (.str [])))), none⟩] [2])
  (.seq (.seq (.region [⟨(some 3), .mv (.t 0), none⟩,
        ⟨(some 4), .qcall 76 [(.t 3)], none⟩] [3])
    (.cond (.t 4)
      (.seq (.region [⟨(some 5), .mv (.t 0), none⟩,
          ⟨(some 6), .bin .add (.k (.c (.d (.str [32])))) (.t 5), none⟩,
          ⟨(some 7), .bin .add (.t 6) (.k (.c (.d (.str [32])))), none⟩,
          ⟨(some 2), .mv (.t 7), none⟩] [0, 4, 5, 6, 7])
      (.ret))
      (.skip)))
  (.seq (.region [⟨(some 8), .mv (.t 0), none⟩,
      ⟨(some 2), .mv (.t 8), none⟩] [0, 4, 8])
  (.ret)))
theorem ac54_ok : cFunc Tryz.prog [1000076] [(0, [2], []), (1, [3], []), (2, [0, 4, 5, 6, 7], []), (3, [0, 4, 8], [])] Tryz.f54 = some (ac54, [.tmp 2], 9) := by kernel_rfl
-- 52 loop.example/prologserver/impl.writeOperand params 3 ntmps 74
def ac52 : Cd := .seq (.region [⟨(some 3), .box (.t 0), none⟩,
      ⟨(some 6), .mv (.k (.c (.d (.str [])))), none⟩] [0, 6])
  (.seq (.region [⟨(some 11), .load (some 4) (.t 3), none⟩,
      ⟨(some 12), .qcall 30 [(.t 11)], none⟩,
      ⟨(some 7), .mv (.t 12), none⟩] [11, 12])
  (.seq (.region [⟨(some 8), .mv (.k (.c (.d (.int .i64 0)))), none⟩] [])
  (.seq (.seq (.region [⟨(some 13), .fieldAddr 3 (.t 3), none⟩,
        ⟨(some 14), .load none (.t 13), none⟩,
        ⟨(some 15), .len 1 (.t 14), none⟩,
        ⟨(some 16), .bin .eql (.t 15) (.k (.c (.d (.int .i64 2)))), none⟩] [13, 14, 15])
    (.cond (.t 16)
      (.region [⟨(some 18), .fieldAddr 2 (.t 3), none⟩,
        ⟨(some 19), .load none (.t 18), none⟩,
        ⟨(some 20), .qcall 51 [(.t 19)], none⟩,
        ⟨(some 17), .mv (.t 20), none⟩,
        ⟨(some 21), .extract 0 (.t 17), none⟩,
        ⟨(some 22), .extract 1 (.t 17), none⟩,
        ⟨(some 8), .mv (.t 21), none⟩] [16, 17, 18, 19, 20, 21, 22])
      (.skip)))
  (.seq (.region [⟨(some 23), .mv (.t 7), none⟩,
      ⟨(some 24), .index (.t 23) (.k (.c (.d (.int .i64 0)))), none⟩,
      ⟨(some 9), .mv (.t 24), none⟩] [16, 23, 24])
  (.seq (.region [⟨(some 25), .mv (.t 9), none⟩,
      ⟨(some 26), .bin .geq (.t 25) (.k (.c (.d (.int .u8 97)))), none⟩,
      ⟨(some 27), .mv (.t 26), none⟩,
      ⟨(some 28), .mv (.t 9), some (27, true)⟩,
      ⟨(some 29), .bin .leq (.t 28) (.k (.c (.d (.int .u8 122)))), some (27, true)⟩,
      ⟨(some 30), .pick (.t 27) (.t 29) (.k (.c (.d (.bool false)))), none⟩,
      ⟨(some 31), .mv (.t 30), none⟩,
      ⟨(some 32), .mv (.t 9), some (31, false)⟩,
      ⟨(some 33), .bin .geq (.t 32) (.k (.c (.d (.int .u8 65)))), some (31, false)⟩,
      ⟨(some 34), .mv (.t 33), some (31, false)⟩,
      ⟨(some 35), .mv (.t 9), some (34, true)⟩,
      ⟨(some 36), .bin .leq (.t 35) (.k (.c (.d (.int .u8 90)))), some (34, true)⟩,
      ⟨(some 37), .pick (.t 34) (.t 36) (.k (.c (.d (.bool false)))), some (31, false)⟩,
      ⟨(some 38), .pick (.t 31) (.k (.c (.d (.bool true)))) (.t 37), none⟩,
      ⟨(some 39), .mv (.t 38), none⟩,
      ⟨(some 40), .mv (.t 9), some (39, false)⟩,
      ⟨(some 41), .qcall 74 [(.t 40)], some (39, false)⟩,
      ⟨(some 42), .pick (.t 39) (.k (.c (.d (.bool true)))) (.t 41), none⟩,
      ⟨(some 43), .mv (.t 42), none⟩,
      ⟨(some 44), .mv (.t 9), some (43, false)⟩,
      ⟨(some 45), .bin .eql (.t 44) (.k (.c (.d (.int .u8 91)))), some (43, false)⟩,
      ⟨(some 46), .pick (.t 43) (.k (.c (.d (.bool true)))) (.t 45), none⟩,
      ⟨(some 47), .mv (.t 46), none⟩,
      ⟨(some 48), .mv (.t 9), some (47, false)⟩,
      ⟨(some 49), .bin .eql (.t 48) (.k (.c (.d (.int .u8 40)))), some (47, false)⟩,
      ⟨(some 50), .pick (.t 47) (.k (.c (.d (.bool true)))) (.t 49), none⟩,
      ⟨(some 10), .mv (.t 50), none⟩] [9, 25, 26, 27, 28, 29, 30, 31, 32, 33, 34, 35, 36, 37, 38, 39, 40, 41, 42, 43, 44, 45, 46, 47, 48, 49, 50])
  (.seq (.seq (.region [⟨(some 51), .mv (.t 8), none⟩,
        ⟨(some 52), .mv (.t 1), none⟩,
        ⟨(some 53), .bin .gtr (.t 51) (.t 52), none⟩,
        ⟨(some 54), .mv (.t 53), none⟩,
        ⟨(some 55), .load (some 4) (.t 3), some (54, false)⟩,
        ⟨(some 56), .qcall 75 [(.t 55)], some (54, false)⟩,
        ⟨(some 57), .mv (.t 56), some (54, false)⟩,
        ⟨(some 58), .fieldAddr 2 (.t 3), some (57, true)⟩,
        ⟨(some 59), .load none (.t 58), some (57, true)⟩,
        ⟨(some 60), .qcall 50 [(.t 59)], some (57, true)⟩,
        ⟨(some 61), .pick (.t 57) (.t 60) (.k (.c (.d (.bool false)))), some (54, false)⟩,
        ⟨(some 62), .pick (.t 54) (.k (.c (.d (.bool true)))) (.t 61), none⟩,
        ⟨(some 63), .mv (.t 62), none⟩,
        ⟨(some 64), .mv (.t 2), some (63, false)⟩,
        ⟨(some 65), .mv (.t 64), some (63, false)⟩,
        ⟨(some 66), .mv (.t 10), some (65, true)⟩,
        ⟨(some 67), .un .not (.t 66), some (65, true)⟩,
        ⟨(some 68), .pick (.t 65) (.t 67) (.k (.c (.d (.bool false)))), some (63, false)⟩,
        ⟨(some 69), .pick (.t 63) (.k (.c (.d (.bool true)))) (.t 68), none⟩] [1, 2, 3, 8, 10, 51, 52, 53, 54, 55, 56, 57, 58, 59, 60, 61, 62, 63, 64, 65, 66, 67, 68])
    (.cond (.t 69)
      (.seq (.region [⟨(some 70), .mv (.t 7), none⟩,
          ⟨(some 71), .bin .add (.k (.c (.d (.str [40])))) (.t 70), none⟩,
          ⟨(some 72), .bin .add (.t 71) (.k (.c (.d (.str [41])))), none⟩,
          ⟨(some 6), .mv (.t 72), none⟩] [7, 69, 70, 71, 72])
      (.ret))
      (.skip)))
  (.seq (.region [⟨(some 73), .mv (.t 7), none⟩,
      ⟨(some 6), .mv (.t 73), none⟩] [7, 69, 73])
  (.ret))))))))
theorem ac52_ok : cFunc Tryz.prog [1000030, 1000050, 1000051, 1000074, 1000075] [(0, [0, 6], []), (1, [11, 12], []), (2, [], []), (3, [13, 14, 15], []), (4, [16, 17, 18, 19, 20, 21, 22], []), (5, [16, 23, 24], []), (6, [9, 25, 26, 27, 28, 29, 30, 31, 32, 33, 34, 35, 36, 37, 38, 39, 40, 41, 42, 43, 44, 45, 46, 47, 48, 49, 50], []), (7, [1, 2, 3, 8, 10, 51, 52, 53, 54, 55, 56, 57, 58, 59, 60, 61, 62, 63, 64, 65, 66, 67, 68], []), (8, [7, 69, 70, 71, 72], []), (9, [7, 69, 73], [])] Tryz.f52 = some (ac52, [.tmp 6], 74) := by kernel_rfl
-- 30 loop.example/prologserver/impl.write params 1 ntmps 47
def ac30 : Cd := .seq (.region [⟨(some 1), .box (.t 0), none⟩,
      ⟨(some 2), .mv (.k (.c (.d (.str [])))), none⟩] [0, 2])
  (.seq (.seq (.region [⟨(some 5), .fieldAddr 0 (.t 1), none⟩,
        ⟨(some 6), .load none (.t 5), none⟩,
        ⟨(some 7), .bin .eql (.t 6) (.k (.c (.d (.int .i64 3)))), none⟩,
        ⟨(some 8), .mv (.t 7), none⟩,
        ⟨(some 9), .fieldAddr 3 (.t 1), some (8, true)⟩,
        ⟨(some 10), .load none (.t 9), some (8, true)⟩,
        ⟨(some 11), .len 1 (.t 10), some (8, true)⟩,
        ⟨(some 12), .bin .eql (.t 11) (.k (.c (.d (.int .i64 2)))), some (8, true)⟩,
        ⟨(some 13), .pick (.t 8) (.t 12) (.k (.c (.d (.bool false)))), none⟩,
        ⟨(some 14), .mv (.t 13), none⟩,
        ⟨(some 15), .fieldAddr 2 (.t 1), some (14, true)⟩,
        ⟨(some 16), .load none (.t 15), some (14, true)⟩,
        ⟨(some 17), .qcall 50 [(.t 16)], some (14, true)⟩,
        ⟨(some 18), .pick (.t 14) (.t 17) (.k (.c (.d (.bool false)))), none⟩] [5, 6, 7, 8, 9, 10, 11, 12, 13, 14, 15, 16, 17])
    (.cond (.t 18)
      (.seq (.region [⟨(some 20), .fieldAddr 2 (.t 1), none⟩,
          ⟨(some 21), .load none (.t 20), none⟩,
          ⟨(some 22), .qcall 51 [(.t 21)], none⟩,
          ⟨(some 19), .mv (.t 22), none⟩,
          ⟨(some 23), .extract 0 (.t 19), none⟩,
          ⟨(some 24), .extract 1 (.t 19), none⟩,
          ⟨(some 3), .mv (.t 23), none⟩,
          ⟨(some 4), .mv (.t 24), none⟩] [4, 18, 19, 20, 21, 22, 23, 24])
      (.seq (.region [⟨(some 25), .fieldAddr 3 (.t 1), none⟩,
          ⟨(some 29), .fieldAddr 2 (.t 1), none⟩,
          ⟨(some 33), .fieldAddr 2 (.t 1), none⟩,
          ⟨(some 37), .fieldAddr 3 (.t 1), none⟩,
          ⟨(some 41), .mv (.t 3), none⟩,
          ⟨(some 42), .bin .sub (.t 41) (.k (.c (.d (.int .i64 1)))), none⟩,
          ⟨(some 26), .load none (.t 25), none⟩,
          ⟨(some 27), .indexAddr 4 (.t 26) (.k (.c (.d (.int .i64 0)))), none⟩,
          ⟨(some 28), .load (some 4) (.t 27), none⟩,
          ⟨(some 30), .load none (.t 29), none⟩,
          ⟨(some 31), .qcall 53 [(.t 30)], none⟩,
          ⟨(some 32), .qcall 52 [(.t 28), (.t 31), (.k (.c (.d (.bool false))))], none⟩,
          ⟨(some 34), .load none (.t 33), none⟩,
          ⟨(some 35), .qcall 54 [(.t 34)], none⟩,
          ⟨(some 36), .bin .add (.t 32) (.t 35), none⟩,
          ⟨(some 38), .load none (.t 37), none⟩,
          ⟨(some 39), .indexAddr 4 (.t 38) (.k (.c (.d (.int .i64 1)))), none⟩,
          ⟨(some 40), .load (some 4) (.t 39), none⟩,
          ⟨(some 43), .qcall 52 [(.t 40), (.t 42), (.k (.c (.d (.bool true))))], none⟩,
          ⟨(some 44), .bin .add (.t 36) (.t 43), none⟩,
          ⟨(some 2), .mv (.t 44), none⟩] [1, 3, 25, 26, 27, 28, 29, 30, 31, 32, 33, 34, 35, 36, 37, 38, 39, 40, 41, 42, 43, 44])
      (.ret)))
      (.skip)))
  (.seq (.region [⟨(some 45), .load (some 4) (.t 1), none⟩,
      ⟨(some 46), .call false 55 [(.t 45), (.k (.c (.fn 30 [])))], none⟩,
      ⟨(some 2), .mv (.t 46), none⟩] [1, 18, 45, 46])
  (.ret)))
theorem ac30_ok : cFunc Tryz.prog [1000050, 1000051, 1000052, 1000053, 1000054] [(0, [0, 2], []), (1, [5, 6, 7, 8, 9, 10, 11, 12, 13, 14, 15, 16, 17], []), (2, [4, 18, 19, 20, 21, 22, 23, 24], []), (3, [1, 3, 25, 26, 27, 28, 29, 30, 31, 32, 33, 34, 35, 36, 37, 38, 39, 40, 41, 42, 43, 44], [0, 4, 8, 12, 16, 17, 1, 2, 3, 5, 6, 7, 9, 10, 11, 13, 14, 15, 18, 19, 20]), (4, [1, 18, 45, 46], [])] Tryz.f30 = some (ac30, [.tmp 2], 47) := by kernel_rfl
-- 55 loop.example/prologserver/impl.text params 2 ntmps 92
-- loop head live: [1, 5, 6]
-- loop head live: [1, 2, 7, 72, 73, 74]
def ac55 : Cd := .seq (.region [⟨(some 2), .box (.t 0), none⟩,
      ⟨(some 4), .mv (.k (.c (.d (.str [])))), none⟩] [0, 4])
  (.seq (.block 0 (.seq (.region [⟨(some 11), .fieldAddr 0 (.t 2), none⟩,
          ⟨(some 12), .load none (.t 11), none⟩,
          ⟨(some 13), .bin .eql (.t 12) (.k (.c (.d (.int .i64 1)))), none⟩,
          ⟨(some 10), .mv (.t 13), none⟩] [11, 12, 13])
      (.cond (.t 10)
        (.seq (.region [⟨(some 14), .fieldAddr 1 (.t 2), none⟩,
            ⟨(some 15), .load none (.t 14), none⟩,
            ⟨(some 16), .qcall 29 [(.t 15)], none⟩,
            ⟨(some 4), .mv (.t 16), none⟩] [1, 2, 10, 14, 15, 16])
        (.ret))
        (.seq (.region [⟨(some 18), .fieldAddr 0 (.t 2), none⟩,
            ⟨(some 19), .load none (.t 18), none⟩,
            ⟨(some 20), .bin .eql (.t 19) (.k (.c (.d (.int .i64 2)))), none⟩,
            ⟨(some 17), .mv (.t 20), none⟩] [10, 18, 19, 20])
        (.cond (.t 17)
          (.seq (.region [⟨(some 21), .fieldAddr 1 (.t 2), none⟩,
              ⟨(some 22), .load none (.t 21), none⟩,
              ⟨(some 23), .qcall 77 [(.t 22)], none⟩,
              ⟨(some 4), .mv (.t 23), none⟩] [1, 2, 17, 21, 22, 23])
          (.ret))
          (.seq (.region [⟨(some 25), .load (some 4) (.t 2), none⟩,
              ⟨(some 26), .qcall 78 [(.t 25)], none⟩,
              ⟨(some 24), .mv (.t 26), none⟩] [17, 25, 26])
          (.cond (.t 24)
            (.seq (.region [⟨(some 27), .mv (.t 1), none⟩,
                ⟨(some 28), .fieldAddr 3 (.t 2), none⟩,
                ⟨(some 29), .load none (.t 28), none⟩,
                ⟨(some 30), .indexAddr 4 (.t 29) (.k (.c (.d (.int .i64 0)))), none⟩,
                ⟨(some 31), .load (some 4) (.t 30), none⟩,
                ⟨(some 32), .callv (.t 27) [(.t 31)], none⟩,
                ⟨(some 33), .bin .add (.k (.c (.d (.str [91])))) (.t 32), none⟩,
                ⟨(some 5), .mv (.t 33), none⟩] [24, 27, 28, 29, 30, 31, 32, 33])
            (.seq (.region [⟨(some 34), .fieldAddr 3 (.t 2), none⟩,
                ⟨(some 35), .load none (.t 34), none⟩,
                ⟨(some 36), .indexAddr 4 (.t 35) (.k (.c (.d (.int .i64 1)))), none⟩,
                ⟨(some 37), .load (some 4) (.t 36), none⟩,
                ⟨(some 6), .alloc [(.d (.int .i64 0)), (.d (.int .i64 0)), (.d (.str [])), (.full [])], none⟩,
                ⟨none, .store 4 (.t 6) (.t 37), none⟩] [2, 34, 35, 36, 37])
            (.seq (.block 1 (.loop (.seq (.seq (.region [⟨(some 38), .load (some 4) (.t 6), none⟩,
                        ⟨(some 39), .qcall 78 [(.t 38)], none⟩] [38])
                    (.cond (.t 39)
                      (.skip)
                      (.exit 1)))
                  (.block 2 (.seq (.region [⟨(some 40), .mv (.t 5), none⟩,
                        ⟨(some 41), .mv (.t 1), none⟩,
                        ⟨(some 42), .fieldAddr 3 (.t 6), none⟩,
                        ⟨(some 43), .load none (.t 42), none⟩,
                        ⟨(some 44), .indexAddr 4 (.t 43) (.k (.c (.d (.int .i64 0)))), none⟩,
                        ⟨(some 45), .load (some 4) (.t 44), none⟩,
                        ⟨(some 46), .callv (.t 41) [(.t 45)], none⟩,
                        ⟨(some 47), .bin .add (.k (.c (.d (.str [44])))) (.t 46), none⟩,
                        ⟨(some 48), .bin .add (.t 40) (.t 47), none⟩,
                        ⟨(some 5), .mv (.t 48), none⟩] [39, 40, 41, 42, 43, 44, 45, 46, 47, 48])
                    (.region [⟨(some 49), .fieldAddr 3 (.t 6), none⟩,
                      ⟨(some 50), .load none (.t 49), none⟩,
                      ⟨(some 51), .indexAddr 4 (.t 50) (.k (.c (.d (.int .i64 1)))), none⟩,
                      ⟨(some 52), .load (some 4) (.t 51), none⟩,
                      ⟨none, .store 4 (.t 6) (.t 52), none⟩] [49, 50, 51, 52]))))))
            (.seq (.seq (.region [⟨(some 53), .load (some 4) (.t 6), none⟩,
                  ⟨(some 54), .qcall 79 [(.t 53)], none⟩,
                  ⟨(some 55), .un .not (.t 54), none⟩] [53, 54])
              (.cond (.t 55)
                (.region [⟨(some 56), .mv (.t 5), none⟩,
                  ⟨(some 57), .mv (.t 1), none⟩,
                  ⟨(some 58), .load (some 4) (.t 6), none⟩,
                  ⟨(some 59), .callv (.t 57) [(.t 58)], none⟩,
                  ⟨(some 60), .bin .add (.k (.c (.d (.str [124])))) (.t 59), none⟩,
                  ⟨(some 61), .bin .add (.t 56) (.t 60), none⟩,
                  ⟨(some 5), .mv (.t 61), none⟩] [1, 6, 55, 56, 57, 58, 59, 60, 61])
                (.skip)))
            (.seq (.region [⟨(some 62), .mv (.t 5), none⟩,
                ⟨(some 63), .bin .add (.t 62) (.k (.c (.d (.str [93])))), none⟩,
                ⟨(some 4), .mv (.t 63), none⟩] [1, 5, 6, 55, 62, 63])
            (.ret))))))
            (.seq (.region [⟨(some 65), .fieldAddr 3 (.t 2), none⟩,
                ⟨(some 66), .load none (.t 65), none⟩,
                ⟨(some 67), .len 1 (.t 66), none⟩,
                ⟨(some 68), .bin .eql (.t 67) (.k (.c (.d (.int .i64 0)))), none⟩,
                ⟨(some 64), .mv (.t 68), none⟩] [24, 65, 66, 67, 68])
            (.cond (.t 64)
              (.seq (.region [⟨(some 69), .fieldAddr 2 (.t 2), none⟩,
                  ⟨(some 70), .load none (.t 69), none⟩,
                  ⟨(some 4), .mv (.t 70), none⟩] [1, 2, 64, 69, 70])
              (.ret))
              (.skip))))))))))
  (.seq (.region [⟨(some 7), .mv (.k (.c (.full []))), none⟩] [4, 64])
  (.seq (.seq (.region [⟨(some 71), .fieldAddr 3 (.t 2), none⟩,
        ⟨(some 72), .load none (.t 71), none⟩,
        ⟨(some 73), .len 1 (.t 72), none⟩,
        ⟨(some 74), .mv (.k (.c (.d (.int .i64 0)))), none⟩] [71])
    (.block 3 (.loop (.seq (.region [⟨(some 75), .bin .lss (.t 74) (.t 73), none⟩] [])
        (.seq (.cond (.t 75)
            (.skip)
            (.exit 3))
        (.seq (.block 4 (.seq (.region [⟨(some 76), .indexAddr 4 (.t 72) (.t 74), none⟩,
                ⟨(some 77), .load (some 4) (.t 76), none⟩,
                ⟨(some 9), .alloc [(.d (.int .i64 0)), (.d (.int .i64 0)), (.d (.str [])), (.full [])], none⟩,
                ⟨none, .store 4 (.t 9) (.t 77), none⟩] [75, 76, 77])
            (.region [⟨(some 78), .mv (.t 7), none⟩,
              ⟨(some 79), .mv (.t 1), none⟩,
              ⟨(some 80), .load (some 4) (.t 9), none⟩,
              ⟨(some 81), .callv (.t 79) [(.t 80)], none⟩,
              ⟨(some 82), .buildSlice 1 1 [(.str [])] [(0, (.t 81))], none⟩,
              ⟨(some 83), .append false 1 (.t 78) (.t 82), none⟩,
              ⟨(some 7), .mv (.t 83), none⟩] [9, 78, 79, 80, 81, 82, 83])))
        (.region [⟨(some 84), .bin .add (.t 74) (.k (.c (.d (.int .i64 1)))), none⟩,
          ⟨(some 74), .mv (.t 84), none⟩] [84])))))))
  (.seq (.region [⟨(some 85), .fieldAddr 2 (.t 2), none⟩,
      ⟨(some 88), .mv (.t 7), none⟩,
      ⟨(some 86), .load none (.t 85), none⟩,
      ⟨(some 87), .bin .add (.t 86) (.k (.c (.d (.str [40])))), none⟩,
      ⟨(some 89), .qcall 31 [(.t 88), (.k (.c (.d (.str [44]))))], none⟩,
      ⟨(some 90), .bin .add (.t 87) (.t 89), none⟩,
      ⟨(some 91), .bin .add (.t 90) (.k (.c (.d (.str [41])))), none⟩,
      ⟨(some 4), .mv (.t 91), none⟩] [2, 7, 85, 86, 87, 88, 89, 90, 91])
  (.ret)))))
theorem ac55_ok : cFunc Tryz.prog [1000029, 1000031, 1000077, 1000078, 1000079] [(0, [0, 4], []), (1, [11, 12, 13], []), (2, [1, 2, 10, 14, 15, 16], []), (3, [10, 18, 19, 20], []), (4, [1, 2, 17, 21, 22, 23], []), (5, [17, 25, 26], []), (6, [24, 27, 28, 29, 30, 31, 32, 33], []), (7, [2, 34, 35, 36, 37], []), (8, [38], []), (9, [39, 40, 41, 42, 43, 44, 45, 46, 47, 48], []), (10, [49, 50, 51, 52], []), (11, [53, 54], []), (12, [1, 6, 55, 56, 57, 58, 59, 60, 61], []), (13, [1, 5, 6, 55, 62, 63], []), (14, [24, 65, 66, 67, 68], []), (15, [1, 2, 64, 69, 70], []), (16, [4, 64], []), (17, [71], []), (18, [], []), (19, [75, 76, 77], []), (20, [9, 78, 79, 80, 81, 82, 83], []), (21, [84], []), (22, [2, 7, 85, 86, 87, 88, 89, 90, 91], [0, 3, 1, 2, 4, 5, 6, 7])] Tryz.f55 = some (ac55, [.tmp 4], 92) := by kernel_rfl
theorem letterI_calls (n : Nat) (h : n ≤ 25) (H : Heap) : ACalls Tryz.prog 29 [.c (.d (.int .i64 n))] H (fun r H' => H' = H ∧ r = .c (.d (.str [UInt8.ofNat (65 + n)]))) := by
  refine acalls Tryz.func29 (by kernel_rfl) ac29_ok fun hf => ?_
  have hw : IntKind.wrap .u8 (65 + (n : Int)) = 65 + (n : Int) := by simp [IntKind.wrap, IntKind.bits, IntKind.signed]; omega
  have hi : inR .i64 (65 + (n : Int)) := small_i64 (by omega) (by omega)
  simp -implicitDefEqProofs [ac29, hw, hi, kw, ew, sw, aw_cond, awOps_nil, awOps_cons, awOps_guardE, nx_eq, awOp, -List.set_cons_succ, -List.set_cons_zero, A.ok, A.val, setSl, wrapG, guardB, getB, pickA, binA, binC, binD, cmpD, isCmp, unA, unD, lenA, AOp.total, kills, litB, FinQ, resOks, resOk, resA, resList, resOne, A.thaw, C.thaw, A.fits, As.fits, C.fits, evs, oks, callArgs, A.pure, C.pure, A.re, C.re, fieldAddrA, loadC, cut, A.cells, C.rows?, getOb, newOb, setOb, storeC, splice, Ob.re, Cs.fits, partsA, partsOk, parts2A, parts2Ok, fillC, fillRows, optInt, optOk, sliceA, clipC, optK_some, storeK_some, Option.map_some, toDs, C.toD, spliceD, appendA, capsOf, srcRows, allLen_nil_iff, allLen_cons_iff, allLen_append_iff, dropC, Obs.fits, eqCs, eqD, mapRow, mapPut, mapVal, mapOne, mapCells]
  have e : 65 + (n : Int) = ((65 + n : Nat) : Int) := by omega
  simp only [e]
  refine b2s_byte (by omega) ?_
  simp -implicitDefEqProofs [kw, ew, sw, aw_cond, awOps_nil, awOps_cons, awOps_guardE, nx_eq, awOp, -List.set_cons_succ, -List.set_cons_zero, A.ok, A.val, setSl, wrapG, guardB, getB, pickA, binA, binC, binD, cmpD, isCmp, unA, unD, lenA, AOp.total, kills, litB, FinQ, resOks, resOk, resA, resList, resOne, A.thaw, C.thaw, A.fits, As.fits, C.fits, evs, oks, callArgs, A.pure, C.pure, A.re, C.re, fieldAddrA, loadC, cut, A.cells, C.rows?, getOb, newOb, setOb, storeC, splice, Ob.re, Cs.fits, partsA, partsOk, parts2A, parts2Ok, fillC, fillRows, optInt, optOk, sliceA, clipC, optK_some, storeK_some, Option.map_some, toDs, C.toD, spliceD, appendA, capsOf, srcRows, allLen_nil_iff, allLen_cons_iff, allLen_append_iff, dropC, Obs.fits, eqCs, eqD, mapRow, mapPut, mapVal, mapOne, mapCells]
theorem isDigit_calls (b : UInt8) (H : Heap) : ACalls Tryz.prog 74 [.c (.d (.int .u8 b.toNat))] H (fun r H' => H' = H ∧ r = .c (.d (.bool (decide (48 ≤ b.toNat ∧ b.toNat ≤ 57))))) := by
  refine acalls Tryz.func74 (by kernel_rfl) ac74_ok fun hf => ?_
  by_cases h1 : (48 : Int) ≤ b.toNat
  · have h1' : 48 ≤ b.toNat := by omega
    simp -implicitDefEqProofs [ac74, h1, h1', kw, ew, sw, aw_cond, awOps_nil, awOps_cons, awOps_guardE, nx_eq, awOp, -List.set_cons_succ, -List.set_cons_zero, A.ok, A.val, setSl, wrapG, guardB, getB, pickA, binA, binC, binD, cmpD, isCmp, unA, unD, lenA, AOp.total, kills, litB, FinQ, resOks, resOk, resA, resList, resOne, A.thaw, C.thaw, A.fits, As.fits, C.fits, evs, oks, callArgs, A.pure, C.pure, A.re, C.re, fieldAddrA, loadC, cut, A.cells, C.rows?, getOb, newOb, setOb, storeC, splice, Ob.re, Cs.fits, partsA, partsOk, parts2A, parts2Ok, fillC, fillRows, optInt, optOk, sliceA, clipC, optK_some, storeK_some, Option.map_some, toDs, C.toD, spliceD, appendA, capsOf, srcRows, allLen_nil_iff, allLen_cons_iff, allLen_append_iff, dropC, Obs.fits, eqCs, eqD, mapRow, mapPut, mapVal, mapOne, mapCells]
    omega
  · have h1' : ¬ 48 ≤ b.toNat := by omega
    simp -implicitDefEqProofs [ac74, h1, h1', kw, ew, sw, aw_cond, awOps_nil, awOps_cons, awOps_guardE, nx_eq, awOp, -List.set_cons_succ, -List.set_cons_zero, A.ok, A.val, setSl, wrapG, guardB, getB, pickA, binA, binC, binD, cmpD, isCmp, unA, unD, lenA, AOp.total, kills, litB, FinQ, resOks, resOk, resA, resList, resOne, A.thaw, C.thaw, A.fits, As.fits, C.fits, evs, oks, callArgs, A.pure, C.pure, A.re, C.re, fieldAddrA, loadC, cut, A.cells, C.rows?, getOb, newOb, setOb, storeC, splice, Ob.re, Cs.fits, partsA, partsOk, parts2A, parts2Ok, fillC, fillRows, optInt, optOk, sliceA, clipC, optK_some, storeK_some, Option.map_some, toDs, C.toD, spliceD, appendA, capsOf, srcRows, allLen_nil_iff, allLen_cons_iff, allLen_append_iff, dropC, Obs.fits, eqCs, eqD, mapRow, mapPut, mapVal, mapOne, mapCells]
theorem leftMost_calls (s : List UInt8) (H : Heap) : ACalls Tryz.prog 53 [.c (.d (.str s))] H (fun r H' => H' = H ∧ r = .c (.d (.int .i64 (leftMost s)))) := by
  refine acalls Tryz.func53 (by kernel_rfl) ac53_ok fun hf => ?_
  simp -implicitDefEqProofs [ac53, kw, ew, sw, aw_cond, awOps_nil, awOps_cons, awOps_guardE, nx_eq, awOp, -List.set_cons_succ, -List.set_cons_zero, A.ok, A.val, setSl, wrapG, guardB, getB, pickA, binA, binC, binD, cmpD, isCmp, unA, unD, lenA, AOp.total, kills, litB, FinQ, resOks, resOk, resA, resList, resOne, A.thaw, C.thaw, A.fits, As.fits, C.fits, evs, oks, callArgs, A.pure, C.pure, A.re, C.re, fieldAddrA, loadC, cut, A.cells, C.rows?, getOb, newOb, setOb, storeC, splice, Ob.re, Cs.fits, partsA, partsOk, parts2A, parts2Ok, fillC, fillRows, optInt, optOk, sliceA, clipC, optK_some, storeK_some, Option.map_some, toDs, C.toD, spliceD, appendA, capsOf, srcRows, allLen_nil_iff, allLen_cons_iff, allLen_append_iff, dropC, Obs.fits, eqCs, eqD, mapRow, mapPut, mapVal, mapOne, mapCells]
  refine qcall_pure (opLevel_calls s) hf rfl ?_
  have hr : 0 ≤ levelN s ∧ levelN s ≤ 3 := by
    by_cases h : 0 < levelN s
    · have := (lv_range h).1; omega
    · unfold levelN at h ⊢
      split
      · simp
      · split
        · simp
        · split <;> simp
  have hsub : inR .i64 (levelN s - 1) := small_i64 (by omega) (by omega)
  cases hb : leftB s <;> simp -implicitDefEqProofs [hb, leftMost, hsub, kw, ew, sw, aw_cond, awOps_nil, awOps_cons, awOps_guardE, nx_eq, awOp, -List.set_cons_succ, -List.set_cons_zero, A.ok, A.val, setSl, wrapG, guardB, getB, pickA, binA, binC, binD, cmpD, isCmp, unA, unD, lenA, AOp.total, kills, litB, FinQ, resOks, resOk, resA, resList, resOne, A.thaw, C.thaw, A.fits, As.fits, C.fits, evs, oks, callArgs, A.pure, C.pure, A.re, C.re, fieldAddrA, loadC, cut, A.cells, C.rows?, getOb, newOb, setOb, storeC, splice, Ob.re, Cs.fits, partsA, partsOk, parts2A, parts2Ok, fillC, fillRows, optInt, optOk, sliceA, clipC, optK_some, storeK_some, Option.map_some, toDs, C.toD, spliceD, appendA, capsOf, srcRows, allLen_nil_iff, allLen_cons_iff, allLen_append_iff, dropC, Obs.fits, eqCs, eqD, mapRow, mapPut, mapVal, mapOne, mapCells]
theorem opText_calls (s : List UInt8) (hs : s.length ≤ 1048576) (H : Heap) : ACalls Tryz.prog 54 [.c (.d (.str s))] H (fun r H' => H' = H ∧ r = .c (.d (.str (opSp s)))) := by
  refine acalls Tryz.func54 (by kernel_rfl) ac54_ok fun hf => ?_
  simp -implicitDefEqProofs [ac54, kw, ew, sw, aw_cond, awOps_nil, awOps_cons, awOps_guardE, nx_eq, awOp, -List.set_cons_succ, -List.set_cons_zero, A.ok, A.val, setSl, wrapG, guardB, getB, pickA, binA, binC, binD, cmpD, isCmp, unA, unD, lenA, AOp.total, kills, litB, FinQ, resOks, resOk, resA, resList, resOne, A.thaw, C.thaw, A.fits, As.fits, C.fits, evs, oks, callArgs, A.pure, C.pure, A.re, C.re, fieldAddrA, loadC, cut, A.cells, C.rows?, getOb, newOb, setOb, storeC, splice, Ob.re, Cs.fits, partsA, partsOk, parts2A, parts2Ok, fillC, fillRows, optInt, optOk, sliceA, clipC, optK_some, storeK_some, Option.map_some, toDs, C.toD, spliceD, appendA, capsOf, srcRows, allLen_nil_iff, allLen_cons_iff, allLen_append_iff, dropC, Obs.fits, eqCs, eqD, mapRow, mapPut, mapVal, mapOne, mapCells]
  refine qcall_pure (isLetters_calls s (by omega)) hf rfl ?_
  cases hb : lettersB s <;> simp -implicitDefEqProofs [hb, opSp, maxStr, kw, ew, sw, aw_cond, awOps_nil, awOps_cons, awOps_guardE, nx_eq, awOp, -List.set_cons_succ, -List.set_cons_zero, A.ok, A.val, setSl, wrapG, guardB, getB, pickA, binA, binC, binD, cmpD, isCmp, unA, unD, lenA, AOp.total, kills, litB, FinQ, resOks, resOk, resA, resList, resOne, A.thaw, C.thaw, A.fits, As.fits, C.fits, evs, oks, callArgs, A.pure, C.pure, A.re, C.re, fieldAddrA, loadC, cut, A.cells, C.rows?, getOb, newOb, setOb, storeC, splice, Ob.re, Cs.fits, partsA, partsOk, parts2A, parts2Ok, fillC, fillRows, optInt, optOk, sliceA, clipC, optK_some, storeK_some, Option.map_some, toDs, C.toD, spliceD, appendA, capsOf, srcRows, allLen_nil_iff, allLen_cons_iff, allLen_append_iff, dropC, Obs.fits, eqCs, eqD, mapRow, mapPut, mapVal, mapOne, mapCells]
  omega
/-- the text of a term is as it is said -/
def TxI (g : Nat) (o : Obj) (t : Tm) : Prop := ∀ H : Heap, H[0]? = some (.tab g o) → ACalls Tryz.prog 30 [.agg (t.row.map .d)] H (fun r H' => H' = H ∧ r = .c (.d (.str t.wr)))
theorem operand_calls {g : Nat} {o : Obj} (t : Tm) (ht : t.ok) (hT : TxI g o t) (m : Int) (hm : 0 ≤ m) (right : Bool) (H : Heap) (hH : H[0]? = some (.tab g o)) : ACalls Tryz.prog 52 [.agg (t.row.map .d), .c (.d (.int .i64 m)), .c (.d (.bool right))] H
    (fun r H' => H' = H ∧ r = .c (.d (.str (opnd t t.wr m right)))) := by
  have c1 := isAtom_calls t ht.fits
  have hwl := ht.len
  have hli : inR .i64 (t.kids.length : Int) := by
    cases ht.fits with
    | mk _ _ _ h _ => exact small_i64 (by simp only [Tm.kids]; omega) (by simp only [Tm.kids]; omega)
  unfold TxI at hT
  rw [row_eq] at c1 hT ⊢
  simp only [List.map_cons, List.map_nil] at c1 hT ⊢
  refine acalls Tryz.func52 (by kernel_rfl) ac52_ok fun hf => ?_
  simp -implicitDefEqProofs [ac52, kw, ew, sw, aw_cond, awOps_nil, awOps_cons, awOps_guardE, nx_eq, awOp, -List.set_cons_succ, -List.set_cons_zero, A.ok, A.val, setSl, wrapG, guardB, getB, pickA, binA, binC, binD, cmpD, isCmp, unA, unD, lenA, AOp.total, kills, litB, FinQ, resOks, resOk, resA, resList, resOne, A.thaw, C.thaw, A.fits, As.fits, C.fits, evs, oks, callArgs, A.pure, C.pure, A.re, C.re, fieldAddrA, loadC, cut, A.cells, C.rows?, getOb, newOb, setOb, storeC, splice, Ob.re, Cs.fits, partsA, partsOk, parts2A, parts2Ok, fillC, fillRows, optInt, optOk, sliceA, clipC, optK_some, storeK_some, Option.map_some, toDs, C.toD, spliceD, appendA, capsOf, srcRows, allLen_nil_iff, allLen_cons_iff, allLen_append_iff, dropC, Obs.fits, eqCs, eqD, mapRow, mapPut, mapVal, mapOne, mapCells]
  refine qcall_tab hT hf hH rfl ?_
  generalize hw : t.wr = w at hwl ⊢
  obtain ⟨b, r, rfl⟩ : ∃ b r, w = b :: r := by
    cases w with
    | nil => exact absurd rfl hwl.2.2
    | cons b r => exact ⟨b, r, rfl⟩
  have on : ∀ {K : A → St → Prop} {st : St}, K (.c (.d (.int .u8 b.toNat))) st → ByteK true (b :: r) 0 K st := fun hk => byte_int b (by omega) (by simp) hk
  simp -implicitDefEqProofs [hli, kw, ew, sw, aw_cond, awOps_nil, awOps_cons, awOps_guardE, nx_eq, awOp, -List.set_cons_succ, -List.set_cons_zero, A.ok, A.val, setSl, wrapG, guardB, getB, pickA, binA, binC, binD, cmpD, isCmp, unA, unD, lenA, AOp.total, kills, litB, FinQ, resOks, resOk, resA, resList, resOne, A.thaw, C.thaw, A.fits, As.fits, C.fits, evs, oks, callArgs, A.pure, C.pure, A.re, C.re, fieldAddrA, loadC, cut, A.cells, C.rows?, getOb, newOb, setOb, storeC, splice, Ob.re, Cs.fits, partsA, partsOk, parts2A, parts2Ok, fillC, fillRows, optInt, optOk, sliceA, clipC, optK_some, storeK_some, Option.map_some, toDs, C.toD, spliceD, appendA, capsOf, srcRows, allLen_nil_iff, allLen_cons_iff, allLen_append_iff, dropC, Obs.fits, eqCs, eqD, mapRow, mapPut, mapVal, mapOne, mapCells]
  simp only [List.length_cons] at hwl
  refine ⟨fun h2 => ?_, fun h2 => ?_⟩
  · have hlv : t.lv = levelN t.s := by unfold Tm.lv; rw [if_pos (by omega)]
    have ha : t.atomB = false := by
      cases hk : t.kids with
      | nil => rw [hk] at h2; simp at h2
      | cons a l => simp [Tm.atomB, hk]
    have ha2 : (decide (t.k = 3) && t.kids.isEmpty) = false := ha
    refine qcall_pure (opLevel_calls t.s) hf rfl ?_
    simp -implicitDefEqProofs [h2, kw, ew, sw, aw_cond, awOps_nil, awOps_cons, awOps_guardE, nx_eq, awOp, -List.set_cons_succ, -List.set_cons_zero, A.ok, A.val, setSl, wrapG, guardB, getB, pickA, binA, binC, binD, cmpD, isCmp, unA, unD, lenA, AOp.total, kills, litB, FinQ, resOks, resOk, resA, resList, resOne, A.thaw, C.thaw, A.fits, As.fits, C.fits, evs, oks, callArgs, A.pure, C.pure, A.re, C.re, fieldAddrA, loadC, cut, A.cells, C.rows?, getOb, newOb, setOb, storeC, splice, Ob.re, Cs.fits, partsA, partsOk, parts2A, parts2Ok, fillC, fillRows, optInt, optOk, sliceA, clipC, optK_some, storeK_some, Option.map_some, toDs, C.toD, spliceD, appendA, capsOf, srcRows, allLen_nil_iff, allLen_cons_iff, allLen_append_iff, dropC, Obs.fits, eqCs, eqD, mapRow, mapPut, mapVal, mapOne, mapCells]
    refine on ?_
    simp -implicitDefEqProofs [kw, ew, sw, aw_cond, awOps_nil, awOps_cons, awOps_guardE, nx_eq, awOp, -List.set_cons_succ, -List.set_cons_zero, A.ok, A.val, setSl, wrapG, guardB, getB, pickA, binA, binC, binD, cmpD, isCmp, unA, unD, lenA, AOp.total, kills, litB, FinQ, resOks, resOk, resA, resList, resOne, A.thaw, C.thaw, A.fits, As.fits, C.fits, evs, oks, callArgs, A.pure, C.pure, A.re, C.re, fieldAddrA, loadC, cut, A.cells, C.rows?, getOb, newOb, setOb, storeC, splice, Ob.re, Cs.fits, partsA, partsOk, parts2A, parts2Ok, fillC, fillRows, optInt, optOk, sliceA, clipC, optK_some, storeK_some, Option.map_some, toDs, C.toD, spliceD, appendA, capsOf, srcRows, allLen_nil_iff, allLen_cons_iff, allLen_append_iff, dropC, Obs.fits, eqCs, eqD, mapRow, mapPut, mapVal, mapOne, mapCells]
    refine ⟨fun e1 e2 => ⟨⟨e1, e2⟩, qcall_pure (isDigit_calls b) hf rfl ?_⟩, fun e1 => ?_⟩
    · by_cases hd : 48 ≤ b.toNat ∧ b.toNat ≤ 57
      · have hp : plainC b = true := by simp [plainC, hd]
        simp -implicitDefEqProofs [hd, kw, ew, sw, aw_cond, awOps_nil, awOps_cons, awOps_guardE, nx_eq, awOp, -List.set_cons_succ, -List.set_cons_zero, A.ok, A.val, setSl, wrapG, guardB, getB, pickA, binA, binC, binD, cmpD, isCmp, unA, unD, lenA, AOp.total, kills, litB, FinQ, resOks, resOk, resA, resList, resOne, A.thaw, C.thaw, A.fits, As.fits, C.fits, evs, oks, callArgs, A.pure, C.pure, A.re, C.re, fieldAddrA, loadC, cut, A.cells, C.rows?, getOb, newOb, setOb, storeC, splice, Ob.re, Cs.fits, partsA, partsOk, parts2A, parts2Ok, fillC, fillRows, optInt, optOk, sliceA, clipC, optK_some, storeK_some, Option.map_some, toDs, C.toD, spliceD, appendA, capsOf, srcRows, allLen_nil_iff, allLen_cons_iff, allLen_append_iff, dropC, Obs.fits, eqCs, eqD, mapRow, mapPut, mapVal, mapOne, mapCells]
        refine ⟨fun hle => ⟨hle, qcall_pure c1 hf rfl ?_⟩, fun hlt => ⟨by unfold maxStr; omega, by unfold maxStr; omega, by simp [opnd, hlv, hlt]⟩⟩
        have hnlt : ¬ m < t.lv := by rw [hlv]; omega
        simp -implicitDefEqProofs [ha2, kw, ew, sw, aw_cond, awOps_nil, awOps_cons, awOps_guardE, nx_eq, awOp, -List.set_cons_succ, -List.set_cons_zero, A.ok, A.val, setSl, wrapG, guardB, getB, pickA, binA, binC, binD, cmpD, isCmp, unA, unD, lenA, AOp.total, kills, litB, FinQ, resOks, resOk, resA, resList, resOne, A.thaw, C.thaw, A.fits, As.fits, C.fits, evs, oks, callArgs, A.pure, C.pure, A.re, C.re, fieldAddrA, loadC, cut, A.cells, C.rows?, getOb, newOb, setOb, storeC, splice, Ob.re, Cs.fits, partsA, partsOk, parts2A, parts2Ok, fillC, fillRows, optInt, optOk, sliceA, clipC, optK_some, storeK_some, Option.map_some, toDs, C.toD, spliceD, appendA, capsOf, srcRows, allLen_nil_iff, allLen_cons_iff, allLen_append_iff, dropC, Obs.fits, eqCs, eqD, mapRow, mapPut, mapVal, mapOne, mapCells]
        simp [opnd, hnlt, ha, hp]
      · have hq : ((b.toNat : Int) == 91 || (b.toNat : Int) == 40) = plainC b := by
          have q1 : ¬ (97 ≤ b.toNat ∧ b.toNat ≤ 122) := by omega
          have q2 : ¬ (65 ≤ b.toNat ∧ b.toNat ≤ 90) := by omega
          have q3 : (b = 91) ↔ ((b.toNat : Int) = 91) := ⟨fun h => by rw [h]; rfl, fun h => UInt8.toNat_inj.1 (by simp; omega)⟩
          have q4 : (b = 40) ↔ ((b.toNat : Int) = 40) := ⟨fun h => by rw [h]; rfl, fun h => UInt8.toNat_inj.1 (by simp; omega)⟩
          simp [plainC, q1, q2, hd, beq_dec, q3, q4]
        simp -implicitDefEqProofs [hd, kw, ew, sw, aw_cond, awOps_nil, awOps_cons, awOps_guardE, nx_eq, awOp, -List.set_cons_succ, -List.set_cons_zero, A.ok, A.val, setSl, wrapG, guardB, getB, pickA, binA, binC, binD, cmpD, isCmp, unA, unD, lenA, AOp.total, kills, litB, FinQ, resOks, resOk, resA, resList, resOne, A.thaw, C.thaw, A.fits, As.fits, C.fits, evs, oks, callArgs, A.pure, C.pure, A.re, C.re, fieldAddrA, loadC, cut, A.cells, C.rows?, getOb, newOb, setOb, storeC, splice, Ob.re, Cs.fits, partsA, partsOk, parts2A, parts2Ok, fillC, fillRows, optInt, optOk, sliceA, clipC, optK_some, storeK_some, Option.map_some, toDs, C.toD, spliceD, appendA, capsOf, srcRows, allLen_nil_iff, allLen_cons_iff, allLen_append_iff, dropC, Obs.fits, eqCs, eqD, mapRow, mapPut, mapVal, mapOne, mapCells]
        simp only [hq]
        refine ⟨fun hle => ⟨hle, qcall_pure c1 hf rfl ?_⟩, fun hlt => ⟨by unfold maxStr; omega, by unfold maxStr; omega, by simp [opnd, hlv, hlt]⟩⟩
        have hnlt : ¬ m < t.lv := by rw [hlv]; omega
        simp -implicitDefEqProofs [ha2, kw, ew, sw, aw_cond, awOps_nil, awOps_cons, awOps_guardE, nx_eq, awOp, -List.set_cons_succ, -List.set_cons_zero, A.ok, A.val, setSl, wrapG, guardB, getB, pickA, binA, binC, binD, cmpD, isCmp, unA, unD, lenA, AOp.total, kills, litB, FinQ, resOks, resOk, resA, resList, resOne, A.thaw, C.thaw, A.fits, As.fits, C.fits, evs, oks, callArgs, A.pure, C.pure, A.re, C.re, fieldAddrA, loadC, cut, A.cells, C.rows?, getOb, newOb, setOb, storeC, splice, Ob.re, Cs.fits, partsA, partsOk, parts2A, parts2Ok, fillC, fillRows, optInt, optOk, sliceA, clipC, optK_some, storeK_some, Option.map_some, toDs, C.toD, spliceD, appendA, capsOf, srcRows, allLen_nil_iff, allLen_cons_iff, allLen_append_iff, dropC, Obs.fits, eqCs, eqD, mapRow, mapPut, mapVal, mapOne, mapCells]
        cases hpl : plainC b <;> cases right <;> simp [opnd, hnlt, ha, hpl, maxStr] <;> omega
    · have hp : plainC b = true := by
        by_cases q : 97 ≤ b.toNat ∧ b.toNat ≤ 122
        · simp [plainC, q]
        · have := e1 (by omega)
          have q2 : 65 ≤ b.toNat ∧ b.toNat ≤ 90 := by omega
          simp [plainC, q2]
      refine ⟨fun hle => ⟨hle, qcall_pure c1 hf rfl ?_⟩, fun hlt => ⟨by unfold maxStr; omega, by unfold maxStr; omega, by simp [opnd, hlv, hlt]⟩⟩
      have hnlt : ¬ m < t.lv := by rw [hlv]; omega
      simp -implicitDefEqProofs [ha2, kw, ew, sw, aw_cond, awOps_nil, awOps_cons, awOps_guardE, nx_eq, awOp, -List.set_cons_succ, -List.set_cons_zero, A.ok, A.val, setSl, wrapG, guardB, getB, pickA, binA, binC, binD, cmpD, isCmp, unA, unD, lenA, AOp.total, kills, litB, FinQ, resOks, resOk, resA, resList, resOne, A.thaw, C.thaw, A.fits, As.fits, C.fits, evs, oks, callArgs, A.pure, C.pure, A.re, C.re, fieldAddrA, loadC, cut, A.cells, C.rows?, getOb, newOb, setOb, storeC, splice, Ob.re, Cs.fits, partsA, partsOk, parts2A, parts2Ok, fillC, fillRows, optInt, optOk, sliceA, clipC, optK_some, storeK_some, Option.map_some, toDs, C.toD, spliceD, appendA, capsOf, srcRows, allLen_nil_iff, allLen_cons_iff, allLen_append_iff, dropC, Obs.fits, eqCs, eqD, mapRow, mapPut, mapVal, mapOne, mapCells]
      simp [opnd, hnlt, ha, hp]
  · have hlv : t.lv = 0 := by unfold Tm.lv; rw [if_neg (by omega)]
    have hnlt : ¬ m < t.lv := by rw [hlv]; omega
    have hm0 : ¬ m < 0 := by omega
    refine on ?_
    simp -implicitDefEqProofs [hm, hm0, kw, ew, sw, aw_cond, awOps_nil, awOps_cons, awOps_guardE, nx_eq, awOp, -List.set_cons_succ, -List.set_cons_zero, A.ok, A.val, setSl, wrapG, guardB, getB, pickA, binA, binC, binD, cmpD, isCmp, unA, unD, lenA, AOp.total, kills, litB, FinQ, resOks, resOk, resA, resList, resOne, A.thaw, C.thaw, A.fits, As.fits, C.fits, evs, oks, callArgs, A.pure, C.pure, A.re, C.re, fieldAddrA, loadC, cut, A.cells, C.rows?, getOb, newOb, setOb, storeC, splice, Ob.re, Cs.fits, partsA, partsOk, parts2A, parts2Ok, fillC, fillRows, optInt, optOk, sliceA, clipC, optK_some, storeK_some, Option.map_some, toDs, C.toD, spliceD, appendA, capsOf, srcRows, allLen_nil_iff, allLen_cons_iff, allLen_append_iff, dropC, Obs.fits, eqCs, eqD, mapRow, mapPut, mapVal, mapOne, mapCells]
    refine ⟨fun e1 e2 => ⟨⟨e1, e2⟩, qcall_pure (isDigit_calls b) hf rfl ?_⟩, fun e1 => ?_⟩
    · by_cases hd : 48 ≤ b.toNat ∧ b.toNat ≤ 57
      · have hp : plainC b = true := by simp [plainC, hd]
        simp -implicitDefEqProofs [hd, hm, hm0, kw, ew, sw, aw_cond, awOps_nil, awOps_cons, awOps_guardE, nx_eq, awOp, -List.set_cons_succ, -List.set_cons_zero, A.ok, A.val, setSl, wrapG, guardB, getB, pickA, binA, binC, binD, cmpD, isCmp, unA, unD, lenA, AOp.total, kills, litB, FinQ, resOks, resOk, resA, resList, resOne, A.thaw, C.thaw, A.fits, As.fits, C.fits, evs, oks, callArgs, A.pure, C.pure, A.re, C.re, fieldAddrA, loadC, cut, A.cells, C.rows?, getOb, newOb, setOb, storeC, splice, Ob.re, Cs.fits, partsA, partsOk, parts2A, parts2Ok, fillC, fillRows, optInt, optOk, sliceA, clipC, optK_some, storeK_some, Option.map_some, toDs, C.toD, spliceD, appendA, capsOf, srcRows, allLen_nil_iff, allLen_cons_iff, allLen_append_iff, dropC, Obs.fits, eqCs, eqD, mapRow, mapPut, mapVal, mapOne, mapCells]
        refine qcall_pure c1 hf rfl ?_
        cases ha : t.atomB with
        | false =>
          have ha2 : (decide (t.k = 3) && t.kids.isEmpty) = false := ha
          simp -implicitDefEqProofs [ha2, kw, ew, sw, aw_cond, awOps_nil, awOps_cons, awOps_guardE, nx_eq, awOp, -List.set_cons_succ, -List.set_cons_zero, A.ok, A.val, setSl, wrapG, guardB, getB, pickA, binA, binC, binD, cmpD, isCmp, unA, unD, lenA, AOp.total, kills, litB, FinQ, resOks, resOk, resA, resList, resOne, A.thaw, C.thaw, A.fits, As.fits, C.fits, evs, oks, callArgs, A.pure, C.pure, A.re, C.re, fieldAddrA, loadC, cut, A.cells, C.rows?, getOb, newOb, setOb, storeC, splice, Ob.re, Cs.fits, partsA, partsOk, parts2A, parts2Ok, fillC, fillRows, optInt, optOk, sliceA, clipC, optK_some, storeK_some, Option.map_some, toDs, C.toD, spliceD, appendA, capsOf, srcRows, allLen_nil_iff, allLen_cons_iff, allLen_append_iff, dropC, Obs.fits, eqCs, eqD, mapRow, mapPut, mapVal, mapOne, mapCells]
          first | (simp [opnd, hnlt, ha, hp]; done) | (simp [opnd, hnlt, ha, hp, hs]; done) | (simp [opnd, hnlt, ha, hp, hs, maxStr]; omega)
        | true =>
          have ha2 : (decide (t.k = 3) && t.kids.isEmpty) = true := ha
          simp -implicitDefEqProofs [ha2, kw, ew, sw, aw_cond, awOps_nil, awOps_cons, awOps_guardE, nx_eq, awOp, -List.set_cons_succ, -List.set_cons_zero, A.ok, A.val, setSl, wrapG, guardB, getB, pickA, binA, binC, binD, cmpD, isCmp, unA, unD, lenA, AOp.total, kills, litB, FinQ, resOks, resOk, resA, resList, resOne, A.thaw, C.thaw, A.fits, As.fits, C.fits, evs, oks, callArgs, A.pure, C.pure, A.re, C.re, fieldAddrA, loadC, cut, A.cells, C.rows?, getOb, newOb, setOb, storeC, splice, Ob.re, Cs.fits, partsA, partsOk, parts2A, parts2Ok, fillC, fillRows, optInt, optOk, sliceA, clipC, optK_some, storeK_some, Option.map_some, toDs, C.toD, spliceD, appendA, capsOf, srcRows, allLen_nil_iff, allLen_cons_iff, allLen_append_iff, dropC, Obs.fits, eqCs, eqD, mapRow, mapPut, mapVal, mapOne, mapCells]
          refine qcall_pure (isOp_calls t.s) hf rfl ?_
          cases hs : decide (0 < levelN t.s) with
          | false =>
            simp -implicitDefEqProofs [hs, kw, ew, sw, aw_cond, awOps_nil, awOps_cons, awOps_guardE, nx_eq, awOp, -List.set_cons_succ, -List.set_cons_zero, A.ok, A.val, setSl, wrapG, guardB, getB, pickA, binA, binC, binD, cmpD, isCmp, unA, unD, lenA, AOp.total, kills, litB, FinQ, resOks, resOk, resA, resList, resOne, A.thaw, C.thaw, A.fits, As.fits, C.fits, evs, oks, callArgs, A.pure, C.pure, A.re, C.re, fieldAddrA, loadC, cut, A.cells, C.rows?, getOb, newOb, setOb, storeC, splice, Ob.re, Cs.fits, partsA, partsOk, parts2A, parts2Ok, fillC, fillRows, optInt, optOk, sliceA, clipC, optK_some, storeK_some, Option.map_some, toDs, C.toD, spliceD, appendA, capsOf, srcRows, allLen_nil_iff, allLen_cons_iff, allLen_append_iff, dropC, Obs.fits, eqCs, eqD, mapRow, mapPut, mapVal, mapOne, mapCells]
            first | (simp [opnd, hnlt, ha, hp]; done) | (simp [opnd, hnlt, ha, hp, hs]; done) | (simp [opnd, hnlt, ha, hp, hs, maxStr]; omega)
          | true =>
            simp -implicitDefEqProofs [hs, maxStr, kw, ew, sw, aw_cond, awOps_nil, awOps_cons, awOps_guardE, nx_eq, awOp, -List.set_cons_succ, -List.set_cons_zero, A.ok, A.val, setSl, wrapG, guardB, getB, pickA, binA, binC, binD, cmpD, isCmp, unA, unD, lenA, AOp.total, kills, litB, FinQ, resOks, resOk, resA, resList, resOne, A.thaw, C.thaw, A.fits, As.fits, C.fits, evs, oks, callArgs, A.pure, C.pure, A.re, C.re, fieldAddrA, loadC, cut, A.cells, C.rows?, getOb, newOb, setOb, storeC, splice, Ob.re, Cs.fits, partsA, partsOk, parts2A, parts2Ok, fillC, fillRows, optInt, optOk, sliceA, clipC, optK_some, storeK_some, Option.map_some, toDs, C.toD, spliceD, appendA, capsOf, srcRows, allLen_nil_iff, allLen_cons_iff, allLen_append_iff, dropC, Obs.fits, eqCs, eqD, mapRow, mapPut, mapVal, mapOne, mapCells]
            first | (simp [opnd, hnlt, ha, hp]; done) | (simp [opnd, hnlt, ha, hp, hs]; done) | (simp [opnd, hnlt, ha, hp, hs, maxStr]; omega)
      · have hq : ((b.toNat : Int) == 91 || (b.toNat : Int) == 40) = plainC b := by
          have q1 : ¬ (97 ≤ b.toNat ∧ b.toNat ≤ 122) := by omega
          have q2 : ¬ (65 ≤ b.toNat ∧ b.toNat ≤ 90) := by omega
          have q3 : (b = 91) ↔ ((b.toNat : Int) = 91) := ⟨fun h => by rw [h]; rfl, fun h => UInt8.toNat_inj.1 (by simp; omega)⟩
          have q4 : (b = 40) ↔ ((b.toNat : Int) = 40) := ⟨fun h => by rw [h]; rfl, fun h => UInt8.toNat_inj.1 (by simp; omega)⟩
          simp [plainC, q1, q2, hd, beq_dec, q3, q4]
        simp -implicitDefEqProofs [hd, hm, hm0, kw, ew, sw, aw_cond, awOps_nil, awOps_cons, awOps_guardE, nx_eq, awOp, -List.set_cons_succ, -List.set_cons_zero, A.ok, A.val, setSl, wrapG, guardB, getB, pickA, binA, binC, binD, cmpD, isCmp, unA, unD, lenA, AOp.total, kills, litB, FinQ, resOks, resOk, resA, resList, resOne, A.thaw, C.thaw, A.fits, As.fits, C.fits, evs, oks, callArgs, A.pure, C.pure, A.re, C.re, fieldAddrA, loadC, cut, A.cells, C.rows?, getOb, newOb, setOb, storeC, splice, Ob.re, Cs.fits, partsA, partsOk, parts2A, parts2Ok, fillC, fillRows, optInt, optOk, sliceA, clipC, optK_some, storeK_some, Option.map_some, toDs, C.toD, spliceD, appendA, capsOf, srcRows, allLen_nil_iff, allLen_cons_iff, allLen_append_iff, dropC, Obs.fits, eqCs, eqD, mapRow, mapPut, mapVal, mapOne, mapCells]
        simp only [hq]
        refine qcall_pure c1 hf rfl ?_
        cases ha : t.atomB with
        | false =>
          have ha2 : (decide (t.k = 3) && t.kids.isEmpty) = false := ha
          simp -implicitDefEqProofs [ha2, kw, ew, sw, aw_cond, awOps_nil, awOps_cons, awOps_guardE, nx_eq, awOp, -List.set_cons_succ, -List.set_cons_zero, A.ok, A.val, setSl, wrapG, guardB, getB, pickA, binA, binC, binD, cmpD, isCmp, unA, unD, lenA, AOp.total, kills, litB, FinQ, resOks, resOk, resA, resList, resOne, A.thaw, C.thaw, A.fits, As.fits, C.fits, evs, oks, callArgs, A.pure, C.pure, A.re, C.re, fieldAddrA, loadC, cut, A.cells, C.rows?, getOb, newOb, setOb, storeC, splice, Ob.re, Cs.fits, partsA, partsOk, parts2A, parts2Ok, fillC, fillRows, optInt, optOk, sliceA, clipC, optK_some, storeK_some, Option.map_some, toDs, C.toD, spliceD, appendA, capsOf, srcRows, allLen_nil_iff, allLen_cons_iff, allLen_append_iff, dropC, Obs.fits, eqCs, eqD, mapRow, mapPut, mapVal, mapOne, mapCells]
          cases hpl : plainC b <;> cases right <;> simp_all [opnd, maxStr] <;> omega
        | true =>
          have ha2 : (decide (t.k = 3) && t.kids.isEmpty) = true := ha
          simp -implicitDefEqProofs [ha2, kw, ew, sw, aw_cond, awOps_nil, awOps_cons, awOps_guardE, nx_eq, awOp, -List.set_cons_succ, -List.set_cons_zero, A.ok, A.val, setSl, wrapG, guardB, getB, pickA, binA, binC, binD, cmpD, isCmp, unA, unD, lenA, AOp.total, kills, litB, FinQ, resOks, resOk, resA, resList, resOne, A.thaw, C.thaw, A.fits, As.fits, C.fits, evs, oks, callArgs, A.pure, C.pure, A.re, C.re, fieldAddrA, loadC, cut, A.cells, C.rows?, getOb, newOb, setOb, storeC, splice, Ob.re, Cs.fits, partsA, partsOk, parts2A, parts2Ok, fillC, fillRows, optInt, optOk, sliceA, clipC, optK_some, storeK_some, Option.map_some, toDs, C.toD, spliceD, appendA, capsOf, srcRows, allLen_nil_iff, allLen_cons_iff, allLen_append_iff, dropC, Obs.fits, eqCs, eqD, mapRow, mapPut, mapVal, mapOne, mapCells]
          refine qcall_pure (isOp_calls t.s) hf rfl ?_
          cases hs : decide (0 < levelN t.s) with
          | false =>
            simp -implicitDefEqProofs [hs, kw, ew, sw, aw_cond, awOps_nil, awOps_cons, awOps_guardE, nx_eq, awOp, -List.set_cons_succ, -List.set_cons_zero, A.ok, A.val, setSl, wrapG, guardB, getB, pickA, binA, binC, binD, cmpD, isCmp, unA, unD, lenA, AOp.total, kills, litB, FinQ, resOks, resOk, resA, resList, resOne, A.thaw, C.thaw, A.fits, As.fits, C.fits, evs, oks, callArgs, A.pure, C.pure, A.re, C.re, fieldAddrA, loadC, cut, A.cells, C.rows?, getOb, newOb, setOb, storeC, splice, Ob.re, Cs.fits, partsA, partsOk, parts2A, parts2Ok, fillC, fillRows, optInt, optOk, sliceA, clipC, optK_some, storeK_some, Option.map_some, toDs, C.toD, spliceD, appendA, capsOf, srcRows, allLen_nil_iff, allLen_cons_iff, allLen_append_iff, dropC, Obs.fits, eqCs, eqD, mapRow, mapPut, mapVal, mapOne, mapCells]
            cases hpl : plainC b <;> cases right <;> simp_all [opnd, maxStr] <;> omega
          | true =>
            simp -implicitDefEqProofs [hs, maxStr, kw, ew, sw, aw_cond, awOps_nil, awOps_cons, awOps_guardE, nx_eq, awOp, -List.set_cons_succ, -List.set_cons_zero, A.ok, A.val, setSl, wrapG, guardB, getB, pickA, binA, binC, binD, cmpD, isCmp, unA, unD, lenA, AOp.total, kills, litB, FinQ, resOks, resOk, resA, resList, resOne, A.thaw, C.thaw, A.fits, As.fits, C.fits, evs, oks, callArgs, A.pure, C.pure, A.re, C.re, fieldAddrA, loadC, cut, A.cells, C.rows?, getOb, newOb, setOb, storeC, splice, Ob.re, Cs.fits, partsA, partsOk, parts2A, parts2Ok, fillC, fillRows, optInt, optOk, sliceA, clipC, optK_some, storeK_some, Option.map_some, toDs, C.toD, spliceD, appendA, capsOf, srcRows, allLen_nil_iff, allLen_cons_iff, allLen_append_iff, dropC, Obs.fits, eqCs, eqD, mapRow, mapPut, mapVal, mapOne, mapCells]
            cases hpl : plainC b <;> cases right <;> simp_all [opnd, maxStr] <;> omega
    · have hp : plainC b = true := by
        by_cases q : 97 ≤ b.toNat ∧ b.toNat ≤ 122
        · simp [plainC, q]
        · have := e1 (by omega)
          have q2 : 65 ≤ b.toNat ∧ b.toNat ≤ 90 := by omega
          simp [plainC, q2]
      refine qcall_pure c1 hf rfl ?_
      cases ha : t.atomB with
      | false =>
        have ha2 : (decide (t.k = 3) && t.kids.isEmpty) = false := ha
        simp -implicitDefEqProofs [ha2, kw, ew, sw, aw_cond, awOps_nil, awOps_cons, awOps_guardE, nx_eq, awOp, -List.set_cons_succ, -List.set_cons_zero, A.ok, A.val, setSl, wrapG, guardB, getB, pickA, binA, binC, binD, cmpD, isCmp, unA, unD, lenA, AOp.total, kills, litB, FinQ, resOks, resOk, resA, resList, resOne, A.thaw, C.thaw, A.fits, As.fits, C.fits, evs, oks, callArgs, A.pure, C.pure, A.re, C.re, fieldAddrA, loadC, cut, A.cells, C.rows?, getOb, newOb, setOb, storeC, splice, Ob.re, Cs.fits, partsA, partsOk, parts2A, parts2Ok, fillC, fillRows, optInt, optOk, sliceA, clipC, optK_some, storeK_some, Option.map_some, toDs, C.toD, spliceD, appendA, capsOf, srcRows, allLen_nil_iff, allLen_cons_iff, allLen_append_iff, dropC, Obs.fits, eqCs, eqD, mapRow, mapPut, mapVal, mapOne, mapCells]
        first | (simp [opnd, hnlt, ha, hp]; done) | (simp [opnd, hnlt, ha, hp, hs]; done) | (simp [opnd, hnlt, ha, hp, hs, maxStr]; omega)
      | true =>
        have ha2 : (decide (t.k = 3) && t.kids.isEmpty) = true := ha
        simp -implicitDefEqProofs [ha2, kw, ew, sw, aw_cond, awOps_nil, awOps_cons, awOps_guardE, nx_eq, awOp, -List.set_cons_succ, -List.set_cons_zero, A.ok, A.val, setSl, wrapG, guardB, getB, pickA, binA, binC, binD, cmpD, isCmp, unA, unD, lenA, AOp.total, kills, litB, FinQ, resOks, resOk, resA, resList, resOne, A.thaw, C.thaw, A.fits, As.fits, C.fits, evs, oks, callArgs, A.pure, C.pure, A.re, C.re, fieldAddrA, loadC, cut, A.cells, C.rows?, getOb, newOb, setOb, storeC, splice, Ob.re, Cs.fits, partsA, partsOk, parts2A, parts2Ok, fillC, fillRows, optInt, optOk, sliceA, clipC, optK_some, storeK_some, Option.map_some, toDs, C.toD, spliceD, appendA, capsOf, srcRows, allLen_nil_iff, allLen_cons_iff, allLen_append_iff, dropC, Obs.fits, eqCs, eqD, mapRow, mapPut, mapVal, mapOne, mapCells]
        refine qcall_pure (isOp_calls t.s) hf rfl ?_
        cases hs : decide (0 < levelN t.s) with
        | false =>
          simp -implicitDefEqProofs [hs, kw, ew, sw, aw_cond, awOps_nil, awOps_cons, awOps_guardE, nx_eq, awOp, -List.set_cons_succ, -List.set_cons_zero, A.ok, A.val, setSl, wrapG, guardB, getB, pickA, binA, binC, binD, cmpD, isCmp, unA, unD, lenA, AOp.total, kills, litB, FinQ, resOks, resOk, resA, resList, resOne, A.thaw, C.thaw, A.fits, As.fits, C.fits, evs, oks, callArgs, A.pure, C.pure, A.re, C.re, fieldAddrA, loadC, cut, A.cells, C.rows?, getOb, newOb, setOb, storeC, splice, Ob.re, Cs.fits, partsA, partsOk, parts2A, parts2Ok, fillC, fillRows, optInt, optOk, sliceA, clipC, optK_some, storeK_some, Option.map_some, toDs, C.toD, spliceD, appendA, capsOf, srcRows, allLen_nil_iff, allLen_cons_iff, allLen_append_iff, dropC, Obs.fits, eqCs, eqD, mapRow, mapPut, mapVal, mapOne, mapCells]
          first | (simp [opnd, hnlt, ha, hp]; done) | (simp [opnd, hnlt, ha, hp, hs]; done) | (simp [opnd, hnlt, ha, hp, hs, maxStr]; omega)
        | true =>
          simp -implicitDefEqProofs [hs, maxStr, kw, ew, sw, aw_cond, awOps_nil, awOps_cons, awOps_guardE, nx_eq, awOp, -List.set_cons_succ, -List.set_cons_zero, A.ok, A.val, setSl, wrapG, guardB, getB, pickA, binA, binC, binD, cmpD, isCmp, unA, unD, lenA, AOp.total, kills, litB, FinQ, resOks, resOk, resA, resList, resOne, A.thaw, C.thaw, A.fits, As.fits, C.fits, evs, oks, callArgs, A.pure, C.pure, A.re, C.re, fieldAddrA, loadC, cut, A.cells, C.rows?, getOb, newOb, setOb, storeC, splice, Ob.re, Cs.fits, partsA, partsOk, parts2A, parts2Ok, fillC, fillRows, optInt, optOk, sliceA, clipC, optK_some, storeK_some, Option.map_some, toDs, C.toD, spliceD, appendA, capsOf, srcRows, allLen_nil_iff, allLen_cons_iff, allLen_append_iff, dropC, Obs.fits, eqCs, eqD, mapRow, mapPut, mapVal, mapOne, mapCells]
          first | (simp [opnd, hnlt, ha, hp]; done) | (simp [opnd, hnlt, ha, hp, hs]; done) | (simp [opnd, hnlt, ha, hp, hs, maxStr]; omega)
end Go.Proofs.YtikgpomnibbioaaGreatDoor
