/-
  Texts of instructions, of the program and of the reference.
  Conditions: none.
-/
import Derived.Test.YtdjbahilmcokeaaDoorKey
import Derived.Test.YtdjbahilmcokeaaDoorInsA
import Derived.Test.YtdjbahilmcokeaaDoorWithin
import Derived.Test.YtdjbahilmcokeaaDoorNames
open Go Go.AM Go.Proofs
namespace Go.Proofs.YtdjbahilmcokeaaDoor
open Go.ChangeShapes Go.WideShapes Go.ChangeAt Go.RowKit
set_option linter.unusedVariables false
set_option linter.unusedSimpArgs false
set_option maxRecDepth 100000
-- 45 loop.example/prologserver/impl.formOf params 1 ntmps 48
def ac45 : Cd := .seq (.region [⟨(some 2), .alloc [(.d (.str [])), (.d (.bool false)), (.d (.bool false)), (.d (.bool false))], none⟩,
      ⟨(some 3), .mv (.k (.c (.d (.bool false)))), none⟩] [3])
  (.seq (.seq (.region [⟨(some 4), .mv (.t 0), none⟩] [0])
    (.block 0 (.seq (.region [⟨(some 6), .bin .eql (.t 4) (.k (.c (.d (.int .i64 1)))), none⟩,
          ⟨(some 5), .mv (.t 6), none⟩] [6])
      (.cond (.t 5)
        (.seq (.region [⟨(some 7), .build [(.d (.str [])), (.d (.bool false)), (.d (.bool false)), (.d (.bool false))] [(0, 1, (.k (.c (.d (.str [103, 101, 116, 118, 97, 108]))))), (1, 1, (.k (.c (.d (.bool true))))), (2, 1, (.k (.c (.d (.bool true))))), (3, 1, (.k (.c (.d (.bool false)))))], none⟩,
            ⟨none, .store 4 (.t 2) (.t 7), none⟩,
            ⟨(some 3), .mv (.k (.c (.d (.bool true)))), none⟩] [4, 5, 7])
        (.ret))
        (.seq (.region [⟨(some 9), .bin .eql (.t 4) (.k (.c (.d (.int .i64 2)))), none⟩,
            ⟨(some 8), .mv (.t 9), none⟩] [5, 9])
        (.cond (.t 8)
          (.seq (.region [⟨(some 10), .build [(.d (.str [])), (.d (.bool false)), (.d (.bool false)), (.d (.bool false))] [(0, 1, (.k (.c (.d (.str [103, 101, 116, 105, 110, 116]))))), (1, 1, (.k (.c (.d (.bool true))))), (2, 1, (.k (.c (.d (.bool true))))), (3, 1, (.k (.c (.d (.bool false)))))], none⟩,
              ⟨none, .store 4 (.t 2) (.t 10), none⟩,
              ⟨(some 3), .mv (.k (.c (.d (.bool true)))), none⟩] [4, 8, 10])
          (.ret))
          (.seq (.region [⟨(some 12), .bin .eql (.t 4) (.k (.c (.d (.int .i64 3)))), none⟩,
              ⟨(some 11), .mv (.t 12), none⟩] [8, 12])
          (.cond (.t 11)
            (.seq (.region [⟨(some 13), .build [(.d (.str [])), (.d (.bool false)), (.d (.bool false)), (.d (.bool false))] [(0, 1, (.k (.c (.d (.str [103, 101, 116, 115, 116, 114]))))), (1, 1, (.k (.c (.d (.bool true))))), (2, 1, (.k (.c (.d (.bool true))))), (3, 1, (.k (.c (.d (.bool true)))))], none⟩,
                ⟨none, .store 4 (.t 2) (.t 13), none⟩,
                ⟨(some 3), .mv (.k (.c (.d (.bool true)))), none⟩] [4, 11, 13])
            (.ret))
            (.seq (.region [⟨(some 15), .bin .eql (.t 4) (.k (.c (.d (.int .i64 4)))), none⟩,
                ⟨(some 14), .mv (.t 15), none⟩] [11, 15])
            (.cond (.t 14)
              (.seq (.region [⟨(some 16), .build [(.d (.str [])), (.d (.bool false)), (.d (.bool false)), (.d (.bool false))] [(0, 1, (.k (.c (.d (.str [117, 110, 105, 118, 97, 114]))))), (1, 1, (.k (.c (.d (.bool true))))), (2, 1, (.k (.c (.d (.bool false))))), (3, 1, (.k (.c (.d (.bool false)))))], none⟩,
                  ⟨none, .store 4 (.t 2) (.t 16), none⟩,
                  ⟨(some 3), .mv (.k (.c (.d (.bool true)))), none⟩] [4, 14, 16])
              (.ret))
              (.seq (.region [⟨(some 18), .bin .eql (.t 4) (.k (.c (.d (.int .i64 5)))), none⟩,
                  ⟨(some 17), .mv (.t 18), none⟩] [14, 18])
              (.cond (.t 17)
                (.seq (.region [⟨(some 19), .build [(.d (.str [])), (.d (.bool false)), (.d (.bool false)), (.d (.bool false))] [(0, 1, (.k (.c (.d (.str [117, 110, 105, 118, 97, 108]))))), (1, 1, (.k (.c (.d (.bool true))))), (2, 1, (.k (.c (.d (.bool false))))), (3, 1, (.k (.c (.d (.bool false)))))], none⟩,
                    ⟨none, .store 4 (.t 2) (.t 19), none⟩,
                    ⟨(some 3), .mv (.k (.c (.d (.bool true)))), none⟩] [4, 17, 19])
                (.ret))
                (.seq (.region [⟨(some 21), .bin .eql (.t 4) (.k (.c (.d (.int .i64 6)))), none⟩,
                    ⟨(some 20), .mv (.t 21), none⟩] [17, 21])
                (.cond (.t 20)
                  (.seq (.region [⟨(some 22), .build [(.d (.str [])), (.d (.bool false)), (.d (.bool false)), (.d (.bool false))] [(0, 1, (.k (.c (.d (.str [117, 110, 105, 105, 110, 116]))))), (1, 1, (.k (.c (.d (.bool true))))), (2, 1, (.k (.c (.d (.bool false))))), (3, 1, (.k (.c (.d (.bool false)))))], none⟩,
                      ⟨none, .store 4 (.t 2) (.t 22), none⟩,
                      ⟨(some 3), .mv (.k (.c (.d (.bool true)))), none⟩] [4, 20, 22])
                  (.ret))
                  (.seq (.region [⟨(some 24), .bin .eql (.t 4) (.k (.c (.d (.int .i64 7)))), none⟩,
                      ⟨(some 23), .mv (.t 24), none⟩] [20, 24])
                  (.cond (.t 23)
                    (.seq (.region [⟨(some 25), .build [(.d (.str [])), (.d (.bool false)), (.d (.bool false)), (.d (.bool false))] [(0, 1, (.k (.c (.d (.str [115, 101, 116, 115, 116, 114]))))), (1, 1, (.k (.c (.d (.bool true))))), (2, 1, (.k (.c (.d (.bool true))))), (3, 1, (.k (.c (.d (.bool true)))))], none⟩,
                        ⟨none, .store 4 (.t 2) (.t 25), none⟩,
                        ⟨(some 3), .mv (.k (.c (.d (.bool true)))), none⟩] [4, 23, 25])
                    (.ret))
                    (.seq (.region [⟨(some 27), .bin .eql (.t 4) (.k (.c (.d (.int .i64 8)))), none⟩,
                        ⟨(some 26), .mv (.t 27), none⟩] [23, 27])
                    (.cond (.t 26)
                      (.seq (.region [⟨(some 28), .build [(.d (.str [])), (.d (.bool false)), (.d (.bool false)), (.d (.bool false))] [(0, 1, (.k (.c (.d (.str [112, 117, 116, 118, 97, 114]))))), (1, 1, (.k (.c (.d (.bool true))))), (2, 1, (.k (.c (.d (.bool true))))), (3, 1, (.k (.c (.d (.bool false)))))], none⟩,
                          ⟨none, .store 4 (.t 2) (.t 28), none⟩,
                          ⟨(some 3), .mv (.k (.c (.d (.bool true)))), none⟩] [4, 26, 28])
                      (.ret))
                      (.seq (.region [⟨(some 30), .bin .eql (.t 4) (.k (.c (.d (.int .i64 9)))), none⟩,
                          ⟨(some 29), .mv (.t 30), none⟩] [26, 30])
                      (.cond (.t 29)
                        (.seq (.region [⟨(some 31), .build [(.d (.str [])), (.d (.bool false)), (.d (.bool false)), (.d (.bool false))] [(0, 1, (.k (.c (.d (.str [112, 117, 116, 118, 97, 108]))))), (1, 1, (.k (.c (.d (.bool true))))), (2, 1, (.k (.c (.d (.bool true))))), (3, 1, (.k (.c (.d (.bool false)))))], none⟩,
                            ⟨none, .store 4 (.t 2) (.t 31), none⟩,
                            ⟨(some 3), .mv (.k (.c (.d (.bool true)))), none⟩] [4, 29, 31])
                        (.ret))
                        (.seq (.region [⟨(some 33), .bin .eql (.t 4) (.k (.c (.d (.int .i64 10)))), none⟩,
                            ⟨(some 32), .mv (.t 33), none⟩] [29, 33])
                        (.cond (.t 32)
                          (.seq (.region [⟨(some 34), .build [(.d (.str [])), (.d (.bool false)), (.d (.bool false)), (.d (.bool false))] [(0, 1, (.k (.c (.d (.str [112, 117, 116, 105, 110, 116]))))), (1, 1, (.k (.c (.d (.bool true))))), (2, 1, (.k (.c (.d (.bool true))))), (3, 1, (.k (.c (.d (.bool false)))))], none⟩,
                              ⟨none, .store 4 (.t 2) (.t 34), none⟩,
                              ⟨(some 3), .mv (.k (.c (.d (.bool true)))), none⟩] [4, 32, 34])
                          (.ret))
                          (.seq (.region [⟨(some 36), .bin .eql (.t 4) (.k (.c (.d (.int .i64 11)))), none⟩,
                              ⟨(some 35), .mv (.t 36), none⟩] [32, 36])
                          (.cond (.t 35)
                            (.seq (.region [⟨(some 37), .build [(.d (.str [])), (.d (.bool false)), (.d (.bool false)), (.d (.bool false))] [(0, 1, (.k (.c (.d (.str [99, 97, 108, 108]))))), (1, 1, (.k (.c (.d (.bool true))))), (2, 1, (.k (.c (.d (.bool false))))), (3, 1, (.k (.c (.d (.bool true)))))], none⟩,
                                ⟨none, .store 4 (.t 2) (.t 37), none⟩,
                                ⟨(some 3), .mv (.k (.c (.d (.bool true)))), none⟩] [4, 35, 37])
                            (.ret))
                            (.seq (.region [⟨(some 39), .bin .eql (.t 4) (.k (.c (.d (.int .i64 12)))), none⟩,
                                ⟨(some 38), .mv (.t 39), none⟩] [35, 39])
                            (.cond (.t 38)
                              (.seq (.region [⟨(some 40), .build [(.d (.str [])), (.d (.bool false)), (.d (.bool false)), (.d (.bool false))] [(0, 1, (.k (.c (.d (.str [98, 117, 105, 108, 116]))))), (1, 1, (.k (.c (.d (.bool true))))), (2, 1, (.k (.c (.d (.bool false))))), (3, 1, (.k (.c (.d (.bool true)))))], none⟩,
                                  ⟨none, .store 4 (.t 2) (.t 40), none⟩,
                                  ⟨(some 3), .mv (.k (.c (.d (.bool true)))), none⟩] [4, 38, 40])
                              (.ret))
                              (.seq (.region [⟨(some 42), .bin .eql (.t 4) (.k (.c (.d (.int .i64 13)))), none⟩,
                                  ⟨(some 41), .mv (.t 42), none⟩] [38, 42])
                              (.cond (.t 41)
                                (.seq (.region [⟨(some 43), .build [(.d (.str [])), (.d (.bool false)), (.d (.bool false)), (.d (.bool false))] [(0, 1, (.k (.c (.d (.str [99, 117, 116]))))), (1, 1, (.k (.c (.d (.bool false))))), (2, 1, (.k (.c (.d (.bool false))))), (3, 1, (.k (.c (.d (.bool false)))))], none⟩,
                                    ⟨none, .store 4 (.t 2) (.t 43), none⟩,
                                    ⟨(some 3), .mv (.k (.c (.d (.bool true)))), none⟩] [4, 41, 43])
                                (.ret))
                                (.seq (.region [⟨(some 45), .bin .eql (.t 4) (.k (.c (.d (.int .i64 14)))), none⟩,
                                    ⟨(some 44), .mv (.t 45), none⟩] [4, 41, 45])
                                (.cond (.t 44)
                                  (.seq (.region [⟨(some 46), .build [(.d (.str [])), (.d (.bool false)), (.d (.bool false)), (.d (.bool false))] [(0, 1, (.k (.c (.d (.str [101, 110, 100]))))), (1, 1, (.k (.c (.d (.bool false))))), (2, 1, (.k (.c (.d (.bool false))))), (3, 1, (.k (.c (.d (.bool false)))))], none⟩,
                                      ⟨none, .store 4 (.t 2) (.t 46), none⟩,
                                      ⟨(some 3), .mv (.k (.c (.d (.bool true)))), none⟩] [44, 46])
                                  (.ret))
                                  (.skip)))))))))))))))))))))))))))))))
  (.seq (.region [⟨(some 47), .build [(.d (.str [])), (.d (.bool false)), (.d (.bool false)), (.d (.bool false))] [], none⟩,
      ⟨none, .store 4 (.t 2) (.t 47), none⟩,
      ⟨(some 3), .mv (.k (.c (.d (.bool false)))), none⟩] [44, 47])
  (.ret)))
theorem ac45_ok : cFunc Tryd.prog [] [(0, [3], []), (1, [0], []), (2, [6], []), (3, [4, 5, 7], []), (4, [5, 9], []), (5, [4, 8, 10], []), (6, [8, 12], []), (7, [4, 11, 13], []), (8, [11, 15], []), (9, [4, 14, 16], []), (10, [14, 18], []), (11, [4, 17, 19], []), (12, [17, 21], []), (13, [4, 20, 22], []), (14, [20, 24], []), (15, [4, 23, 25], []), (16, [23, 27], []), (17, [4, 26, 28], []), (18, [26, 30], []), (19, [4, 29, 31], []), (20, [29, 33], []), (21, [4, 32, 34], []), (22, [32, 36], []), (23, [4, 35, 37], []), (24, [35, 39], []), (25, [4, 38, 40], []), (26, [38, 42], []), (27, [4, 41, 43], []), (28, [4, 41, 45], []), (29, [44, 46], []), (30, [44, 47], [])] Tryd.f45 = some (ac45, [.cell 2 (some 4), .tmp 3], 48) := by kernel_rfl
-- 43 loop.example/prologserver/spec.l8Shape params 1 ntmps 23
def ac43 : Cd := .seq (.region [⟨(some 2), .mv (.k (.c (.d (.str [])))), none⟩] [2])
  (.seq (.seq (.region [⟨(some 3), .mv (.t 0), none⟩] [0])
    (.block 0 (.seq (.seq (.region [⟨(some 5), .bin .eql (.t 3) (.k (.c (.d (.int .i64 1)))), none⟩,
            ⟨(some 4), .mv (.t 5), none⟩] [5])
        (.cond (.t 4)
          (.skip)
          (.seq (.region [⟨(some 6), .bin .eql (.t 3) (.k (.c (.d (.int .i64 2)))), none⟩,
              ⟨(some 4), .mv (.t 6), none⟩] [6])
          (.cond (.t 4)
            (.skip)
            (.seq (.region [⟨(some 7), .bin .eql (.t 3) (.k (.c (.d (.int .i64 8)))), none⟩,
                ⟨(some 4), .mv (.t 7), none⟩] [7])
            (.cond (.t 4)
              (.skip)
              (.seq (.region [⟨(some 8), .bin .eql (.t 3) (.k (.c (.d (.int .i64 9)))), none⟩,
                  ⟨(some 4), .mv (.t 8), none⟩] [8])
              (.cond (.t 4)
                (.skip)
                (.region [⟨(some 9), .bin .eql (.t 3) (.k (.c (.d (.int .i64 10)))), none⟩,
                  ⟨(some 4), .mv (.t 9), none⟩] [9])))))))))
      (.cond (.t 4)
        (.seq (.region [⟨(some 2), .mv (.k (.c (.d (.str [97, 98])))), none⟩] [3, 4])
        (.ret))
        (.seq (.seq (.region [⟨(some 11), .bin .eql (.t 3) (.k (.c (.d (.int .i64 3)))), none⟩,
              ⟨(some 10), .mv (.t 11), none⟩] [4, 11])
          (.cond (.t 10)
            (.skip)
            (.region [⟨(some 12), .bin .eql (.t 3) (.k (.c (.d (.int .i64 7)))), none⟩,
              ⟨(some 10), .mv (.t 12), none⟩] [12])))
        (.cond (.t 10)
          (.seq (.region [⟨(some 2), .mv (.k (.c (.d (.str [97, 98, 110])))), none⟩] [3, 10])
          (.ret))
          (.seq (.seq (.region [⟨(some 14), .bin .eql (.t 3) (.k (.c (.d (.int .i64 4)))), none⟩,
                ⟨(some 13), .mv (.t 14), none⟩] [10, 14])
            (.cond (.t 13)
              (.skip)
              (.seq (.region [⟨(some 15), .bin .eql (.t 3) (.k (.c (.d (.int .i64 5)))), none⟩,
                  ⟨(some 13), .mv (.t 15), none⟩] [15])
              (.cond (.t 13)
                (.skip)
                (.region [⟨(some 16), .bin .eql (.t 3) (.k (.c (.d (.int .i64 6)))), none⟩,
                  ⟨(some 13), .mv (.t 16), none⟩] [16])))))
          (.cond (.t 13)
            (.seq (.region [⟨(some 2), .mv (.k (.c (.d (.str [97])))), none⟩] [3, 13])
            (.ret))
            (.seq (.seq (.region [⟨(some 18), .bin .eql (.t 3) (.k (.c (.d (.int .i64 11)))), none⟩,
                  ⟨(some 17), .mv (.t 18), none⟩] [13, 18])
              (.cond (.t 17)
                (.skip)
                (.region [⟨(some 19), .bin .eql (.t 3) (.k (.c (.d (.int .i64 12)))), none⟩,
                  ⟨(some 17), .mv (.t 19), none⟩] [19])))
            (.cond (.t 17)
              (.seq (.region [⟨(some 2), .mv (.k (.c (.d (.str [97, 110])))), none⟩] [3, 17])
              (.ret))
              (.seq (.seq (.region [⟨(some 21), .bin .eql (.t 3) (.k (.c (.d (.int .i64 13)))), none⟩,
                    ⟨(some 20), .mv (.t 21), none⟩] [17, 21])
                (.cond (.t 20)
                  (.skip)
                  (.region [⟨(some 22), .bin .eql (.t 3) (.k (.c (.d (.int .i64 14)))), none⟩,
                    ⟨(some 20), .mv (.t 22), none⟩] [3, 22])))
              (.cond (.t 20)
                (.seq (.region [⟨(some 2), .mv (.k (.c (.d (.str [])))), none⟩] [3, 20])
                (.ret))
                (.skip)))))))))))))
  (.seq (.region [⟨(some 2), .mv (.k (.c (.d (.str [63])))), none⟩] [3, 20])
  (.ret)))
theorem ac43_ok : cFunc Tryd.prog [] [(0, [2], []), (1, [0], []), (2, [5], []), (3, [6], []), (4, [7], []), (5, [8], []), (6, [9], []), (7, [3, 4], []), (8, [4, 11], []), (9, [12], []), (10, [3, 10], []), (11, [10, 14], []), (12, [15], []), (13, [16], []), (14, [3, 13], []), (15, [13, 18], []), (16, [19], []), (17, [3, 17], []), (18, [17, 21], []), (19, [3, 22], []), (20, [3, 20], []), (21, [3, 20], [])] Tryd.f43 = some (ac43, [.tmp 2], 23) := by kernel_rfl
-- 42 loop.example/prologserver/spec.l8Names params 0 ntmps 2
def ac42 : Cd := .seq (.region [⟨(some 0), .mv (.k (.c (.full []))), none⟩] [0])
  (.seq (.region [⟨(some 1), .buildSlice 1 15 [(.str [])] [(0, (.k (.c (.d (.str []))))), (1, (.k (.c (.d (.str [103, 101, 116, 118, 97, 108]))))), (2, (.k (.c (.d (.str [103, 101, 116, 105, 110, 116]))))), (3, (.k (.c (.d (.str [103, 101, 116, 115, 116, 114]))))), (4, (.k (.c (.d (.str [117, 110, 105, 118, 97, 114]))))), (5, (.k (.c (.d (.str [117, 110, 105, 118, 97, 108]))))), (6, (.k (.c (.d (.str [117, 110, 105, 105, 110, 116]))))), (7, (.k (.c (.d (.str [115, 101, 116, 115, 116, 114]))))), (8, (.k (.c (.d (.str [112, 117, 116, 118, 97, 114]))))), (9, (.k (.c (.d (.str [112, 117, 116, 118, 97, 108]))))), (10, (.k (.c (.d (.str [112, 117, 116, 105, 110, 116]))))), (11, (.k (.c (.d (.str [99, 97, 108, 108]))))), (12, (.k (.c (.d (.str [98, 117, 105, 108, 116]))))), (13, (.k (.c (.d (.str [99, 117, 116]))))), (14, (.k (.c (.d (.str [101, 110, 100])))))], none⟩,
      ⟨(some 0), .mv (.t 1), none⟩] [1])
  (.ret))
theorem ac42_ok : cFunc Tryd.prog [] [(0, [0], []), (1, [1], [])] Tryd.f42 = some (ac42, [.tmp 0], 2) := by kernel_rfl
-- 41 loop.example/prologserver/spec.l8Instr params 1 ntmps 81
def ac41 : Cd := .seq (.region [⟨(some 1), .box (.t 0), none⟩,
      ⟨(some 2), .mv (.k (.c (.d (.bool false)))), none⟩] [0, 2])
  (.seq (.region [⟨(some 6), .fieldAddr 0 (.t 1), none⟩,
      ⟨(some 7), .load none (.t 6), none⟩,
      ⟨(some 8), .qcall 43 [(.t 7)], none⟩,
      ⟨(some 3), .mv (.t 8), none⟩] [6, 7, 8])
  (.seq (.seq (.region [⟨(some 9), .mv (.t 3), none⟩,
        ⟨(some 10), .bin .eql (.t 9) (.k (.c (.d (.str [63])))), none⟩,
        ⟨(some 11), .mv (.t 10), none⟩,
        ⟨(some 12), .fieldAddr 1 (.t 1), some (11, false)⟩,
        ⟨(some 13), .load none (.t 12), some (11, false)⟩,
        ⟨(some 14), .bin .lss (.t 13) (.k (.c (.d (.int .i64 (-999))))), some (11, false)⟩,
        ⟨(some 15), .pick (.t 11) (.k (.c (.d (.bool true)))) (.t 14), none⟩,
        ⟨(some 16), .mv (.t 15), none⟩,
        ⟨(some 17), .fieldAddr 1 (.t 1), some (16, false)⟩,
        ⟨(some 18), .load none (.t 17), some (16, false)⟩,
        ⟨(some 19), .bin .gtr (.t 18) (.k (.c (.d (.int .i64 999)))), some (16, false)⟩,
        ⟨(some 20), .pick (.t 16) (.k (.c (.d (.bool true)))) (.t 19), none⟩,
        ⟨(some 21), .mv (.t 20), none⟩,
        ⟨(some 22), .fieldAddr 2 (.t 1), some (21, false)⟩,
        ⟨(some 23), .load none (.t 22), some (21, false)⟩,
        ⟨(some 24), .bin .lss (.t 23) (.k (.c (.d (.int .i64 0)))), some (21, false)⟩,
        ⟨(some 25), .pick (.t 21) (.k (.c (.d (.bool true)))) (.t 24), none⟩,
        ⟨(some 26), .mv (.t 25), none⟩,
        ⟨(some 27), .fieldAddr 2 (.t 1), some (26, false)⟩,
        ⟨(some 28), .load none (.t 27), some (26, false)⟩,
        ⟨(some 29), .bin .gtr (.t 28) (.k (.c (.d (.int .i64 999)))), some (26, false)⟩,
        ⟨(some 30), .pick (.t 26) (.k (.c (.d (.bool true)))) (.t 29), none⟩] [9, 10, 11, 12, 13, 14, 15, 16, 17, 18, 19, 20, 21, 22, 23, 24, 25, 26, 27, 28, 29])
    (.cond (.t 30)
      (.seq (.region [⟨(some 2), .mv (.k (.c (.d (.bool false)))), none⟩] [1, 3, 30])
      (.ret))
      (.skip)))
  (.seq (.seq (.region [⟨(some 31), .mv (.t 3), none⟩,
        ⟨(some 32), .bin .eql (.t 31) (.k (.c (.d (.str [])))), none⟩] [2, 30, 31])
    (.cond (.t 32)
      (.seq (.region [⟨(some 33), .fieldAddr 1 (.t 1), none⟩,
          ⟨(some 34), .load none (.t 33), none⟩,
          ⟨(some 35), .bin .eql (.t 34) (.k (.c (.d (.int .i64 0)))), none⟩,
          ⟨(some 36), .mv (.t 35), none⟩,
          ⟨(some 37), .fieldAddr 2 (.t 1), some (36, true)⟩,
          ⟨(some 38), .load none (.t 37), some (36, true)⟩,
          ⟨(some 39), .bin .eql (.t 38) (.k (.c (.d (.int .i64 0)))), some (36, true)⟩,
          ⟨(some 40), .pick (.t 36) (.t 39) (.k (.c (.d (.bool false)))), none⟩,
          ⟨(some 41), .mv (.t 40), none⟩,
          ⟨(some 42), .fieldAddr 3 (.t 1), some (41, true)⟩,
          ⟨(some 43), .load none (.t 42), some (41, true)⟩,
          ⟨(some 44), .bin .eql (.t 43) (.k (.c (.d (.str [])))), some (41, true)⟩,
          ⟨(some 45), .pick (.t 41) (.t 44) (.k (.c (.d (.bool false)))), none⟩,
          ⟨(some 2), .mv (.t 45), none⟩] [1, 3, 32, 33, 34, 35, 36, 37, 38, 39, 40, 41, 42, 43, 44, 45])
      (.ret))
      (.skip)))
  (.seq (.region [⟨(some 46), .mv (.t 3), none⟩,
      ⟨(some 47), .bin .eql (.t 46) (.k (.c (.d (.str [97, 98])))), none⟩,
      ⟨(some 48), .mv (.t 47), none⟩,
      ⟨(some 49), .mv (.t 3), some (48, false)⟩,
      ⟨(some 50), .bin .eql (.t 49) (.k (.c (.d (.str [97, 98, 110])))), some (48, false)⟩,
      ⟨(some 51), .pick (.t 48) (.k (.c (.d (.bool true)))) (.t 50), none⟩,
      ⟨(some 4), .mv (.t 51), none⟩] [2, 32, 46, 47, 48, 49, 50, 51])
  (.seq (.region [⟨(some 52), .mv (.t 3), none⟩,
      ⟨(some 53), .bin .eql (.t 52) (.k (.c (.d (.str [97, 98, 110])))), none⟩,
      ⟨(some 54), .mv (.t 53), none⟩,
      ⟨(some 55), .mv (.t 3), some (54, false)⟩,
      ⟨(some 56), .bin .eql (.t 55) (.k (.c (.d (.str [97, 110])))), some (54, false)⟩,
      ⟨(some 57), .pick (.t 54) (.k (.c (.d (.bool true)))) (.t 56), none⟩,
      ⟨(some 5), .mv (.t 57), none⟩] [3, 52, 53, 54, 55, 56, 57])
  (.seq (.region [⟨(some 58), .mv (.t 4), none⟩,
      ⟨(some 59), .mv (.t 58), none⟩,
      ⟨(some 60), .fieldAddr 2 (.t 1), some (59, false)⟩,
      ⟨(some 61), .load none (.t 60), some (59, false)⟩,
      ⟨(some 62), .bin .eql (.t 61) (.k (.c (.d (.int .i64 0)))), some (59, false)⟩,
      ⟨(some 63), .pick (.t 59) (.k (.c (.d (.bool true)))) (.t 62), none⟩,
      ⟨(some 64), .mv (.t 63), none⟩,
      ⟨(some 65), .mv (.t 5), some (64, true)⟩,
      ⟨(some 66), .mv (.t 65), some (64, true)⟩,
      ⟨(some 67), .fieldAddr 3 (.t 1), some (66, true)⟩,
      ⟨(some 68), .load none (.t 67), some (66, true)⟩,
      ⟨(some 69), .qcall 71 [(.t 68)], some (66, true)⟩,
      ⟨(some 70), .pick (.t 66) (.t 69) (.k (.c (.d (.bool false)))), some (64, true)⟩,
      ⟨(some 71), .mv (.t 70), some (64, true)⟩,
      ⟨(some 72), .mv (.t 5), some (71, false)⟩,
      ⟨(some 73), .un .not (.t 72), some (71, false)⟩,
      ⟨(some 74), .mv (.t 73), some (71, false)⟩,
      ⟨(some 75), .fieldAddr 3 (.t 1), some (74, true)⟩,
      ⟨(some 76), .load none (.t 75), some (74, true)⟩,
      ⟨(some 77), .bin .eql (.t 76) (.k (.c (.d (.str [])))), some (74, true)⟩,
      ⟨(some 78), .pick (.t 74) (.t 77) (.k (.c (.d (.bool false)))), some (71, false)⟩,
      ⟨(some 79), .pick (.t 71) (.k (.c (.d (.bool true)))) (.t 78), some (64, true)⟩,
      ⟨(some 80), .pick (.t 64) (.t 79) (.k (.c (.d (.bool false)))), none⟩,
      ⟨(some 2), .mv (.t 80), none⟩] [1, 4, 5, 58, 59, 60, 61, 62, 63, 64, 65, 66, 67, 68, 69, 70, 71, 72, 73, 74, 75, 76, 77, 78, 79, 80])
  (.ret)))))))
theorem ac41_ok : cFunc Tryd.prog [1000043, 1000071] [(0, [0, 2], []), (1, [6, 7, 8], []), (2, [9, 10, 11, 12, 13, 14, 15, 16, 17, 18, 19, 20, 21, 22, 23, 24, 25, 26, 27, 28, 29], []), (3, [1, 3, 30], []), (4, [2, 30, 31], []), (5, [1, 3, 32, 33, 34, 35, 36, 37, 38, 39, 40, 41, 42, 43, 44, 45], []), (6, [2, 32, 46, 47, 48, 49, 50, 51], []), (7, [3, 52, 53, 54, 55, 56, 57], []), (8, [1, 4, 5, 58, 59, 60, 61, 62, 63, 64, 65, 66, 67, 68, 69, 70, 71, 72, 73, 74, 75, 76, 77, 78, 79, 80], [])] Tryd.f41 = some (ac41, [.tmp 2], 81) := by kernel_rfl
-- 14 loop.example/prologserver/spec.FormatInstr params 1 ntmps 48
def ac14 : Cd := .seq (.region [⟨(some 1), .box (.t 0), none⟩,
      ⟨(some 2), .mv (.k (.c (.d (.str [])))), none⟩] [0, 2])
  (.seq (.seq (.region [⟨(some 5), .load (some 4) (.t 1), none⟩,
        ⟨(some 6), .qcall 41 [(.t 5)], none⟩,
        ⟨(some 7), .un .not (.t 6), none⟩] [5, 6])
    (.cond (.t 7)
      (.seq (.region [⟨(some 2), .mv (.k (.c (.d (.str [])))), none⟩] [1, 7])
      (.ret))
      (.skip)))
  (.seq (.region [⟨(some 9), .fieldAddr 0 (.t 1), none⟩,
      ⟨(some 8), .qcall 42 [], none⟩,
      ⟨(some 10), .load none (.t 9), none⟩,
      ⟨(some 11), .indexAddr 1 (.t 8) (.t 10), none⟩,
      ⟨(some 12), .load none (.t 11), none⟩,
      ⟨(some 3), .mv (.t 12), none⟩] [2, 7, 8, 9, 10, 11, 12])
  (.seq (.region [⟨(some 13), .fieldAddr 0 (.t 1), none⟩,
      ⟨(some 14), .load none (.t 13), none⟩,
      ⟨(some 15), .qcall 43 [(.t 14)], none⟩,
      ⟨(some 4), .mv (.t 15), none⟩] [13, 14, 15])
  (.seq (.seq (.region [⟨(some 16), .mv (.t 4), none⟩,
        ⟨(some 17), .bin .neq (.t 16) (.k (.c (.d (.str [])))), none⟩] [16])
    (.cond (.t 17)
      (.region [⟨(some 18), .mv (.t 3), none⟩,
        ⟨(some 19), .bin .add (.t 18) (.k (.c (.d (.str [32])))), none⟩,
        ⟨(some 20), .fieldAddr 1 (.t 1), none⟩,
        ⟨(some 21), .load none (.t 20), none⟩,
        ⟨(some 22), .qcall 44 [(.t 21)], none⟩,
        ⟨(some 23), .bin .add (.t 19) (.t 22), none⟩,
        ⟨(some 3), .mv (.t 23), none⟩] [17, 18, 19, 20, 21, 22, 23])
      (.skip)))
  (.seq (.seq (.region [⟨(some 24), .mv (.t 4), none⟩,
        ⟨(some 25), .bin .eql (.t 24) (.k (.c (.d (.str [97, 98])))), none⟩,
        ⟨(some 26), .mv (.t 25), none⟩,
        ⟨(some 27), .mv (.t 4), some (26, false)⟩,
        ⟨(some 28), .bin .eql (.t 27) (.k (.c (.d (.str [97, 98, 110])))), some (26, false)⟩,
        ⟨(some 29), .pick (.t 26) (.k (.c (.d (.bool true)))) (.t 28), none⟩] [17, 24, 25, 26, 27, 28])
    (.cond (.t 29)
      (.region [⟨(some 30), .mv (.t 3), none⟩,
        ⟨(some 31), .bin .add (.t 30) (.k (.c (.d (.str [32])))), none⟩,
        ⟨(some 32), .fieldAddr 2 (.t 1), none⟩,
        ⟨(some 33), .load none (.t 32), none⟩,
        ⟨(some 34), .qcall 44 [(.t 33)], none⟩,
        ⟨(some 35), .bin .add (.t 31) (.t 34), none⟩,
        ⟨(some 3), .mv (.t 35), none⟩] [29, 30, 31, 32, 33, 34, 35])
      (.skip)))
  (.seq (.seq (.region [⟨(some 36), .mv (.t 4), none⟩,
        ⟨(some 37), .bin .eql (.t 36) (.k (.c (.d (.str [97, 110])))), none⟩,
        ⟨(some 38), .mv (.t 37), none⟩,
        ⟨(some 39), .mv (.t 4), some (38, false)⟩,
        ⟨(some 40), .bin .eql (.t 39) (.k (.c (.d (.str [97, 98, 110])))), some (38, false)⟩,
        ⟨(some 41), .pick (.t 38) (.k (.c (.d (.bool true)))) (.t 40), none⟩] [4, 29, 36, 37, 38, 39, 40])
    (.cond (.t 41)
      (.region [⟨(some 42), .mv (.t 3), none⟩,
        ⟨(some 43), .bin .add (.t 42) (.k (.c (.d (.str [32])))), none⟩,
        ⟨(some 44), .fieldAddr 3 (.t 1), none⟩,
        ⟨(some 45), .load none (.t 44), none⟩,
        ⟨(some 46), .bin .add (.t 43) (.t 45), none⟩,
        ⟨(some 3), .mv (.t 46), none⟩] [1, 41, 42, 43, 44, 45, 46])
      (.skip)))
  (.seq (.region [⟨(some 47), .mv (.t 3), none⟩,
      ⟨(some 2), .mv (.t 47), none⟩] [1, 3, 41, 47])
  (.ret))))))))
theorem ac14_ok : cFunc Tryd.prog [1000041, 1000042, 1000043, 1000044] [(0, [0, 2], []), (1, [5, 6], []), (2, [1, 7], []), (3, [2, 7, 8, 9, 10, 11, 12], [1, 0, 2, 3, 4, 5]), (4, [13, 14, 15], []), (5, [16], []), (6, [17, 18, 19, 20, 21, 22, 23], []), (7, [17, 24, 25, 26, 27, 28], []), (8, [29, 30, 31, 32, 33, 34, 35], []), (9, [4, 29, 36, 37, 38, 39, 40], []), (10, [1, 41, 42, 43, 44, 45, 46], []), (11, [1, 3, 41, 47], [])] Tryd.f14 = some (ac14, [.tmp 2], 48) := by kernel_rfl
-- 16 loop.example/prologserver/impl.FormatInstr params 1 ntmps 92
def ac16 : Cd := .seq (.region [⟨(some 1), .box (.t 0), none⟩,
      ⟨(some 2), .mv (.k (.c (.d (.str [])))), none⟩] [0, 2])
  (.seq (.region [⟨(some 7), .fieldAddr 0 (.t 1), none⟩,
      ⟨(some 8), .load none (.t 7), none⟩,
      ⟨(some 9), .qcall 45 [(.t 8)], none⟩,
      ⟨(some 6), .mv (.t 9), none⟩,
      ⟨(some 10), .extract 0 (.t 6), none⟩,
      ⟨(some 11), .extract 1 (.t 6), none⟩,
      ⟨(some 3), .alloc [(.d (.str [])), (.d (.bool false)), (.d (.bool false)), (.d (.bool false))], none⟩,
      ⟨none, .store 4 (.t 3) (.t 10), none⟩,
      ⟨(some 4), .mv (.t 11), none⟩] [6, 7, 8, 9, 10, 11])
  (.seq (.seq (.region [⟨(some 12), .mv (.t 4), none⟩,
        ⟨(some 13), .un .not (.t 12), none⟩,
        ⟨(some 14), .mv (.t 13), none⟩,
        ⟨(some 15), .fieldAddr 1 (.t 1), some (14, false)⟩,
        ⟨(some 16), .load none (.t 15), some (14, false)⟩,
        ⟨(some 17), .qcall 46 [(.t 16), (.k (.c (.d (.int .i64 (-999))))), (.k (.c (.d (.int .i64 999))))], some (14, false)⟩,
        ⟨(some 18), .un .not (.t 17), some (14, false)⟩,
        ⟨(some 19), .pick (.t 14) (.k (.c (.d (.bool true)))) (.t 18), none⟩,
        ⟨(some 20), .mv (.t 19), none⟩,
        ⟨(some 21), .fieldAddr 2 (.t 1), some (20, false)⟩,
        ⟨(some 22), .load none (.t 21), some (20, false)⟩,
        ⟨(some 23), .qcall 46 [(.t 22), (.k (.c (.d (.int .i64 0)))), (.k (.c (.d (.int .i64 999))))], some (20, false)⟩,
        ⟨(some 24), .un .not (.t 23), some (20, false)⟩,
        ⟨(some 25), .pick (.t 20) (.k (.c (.d (.bool true)))) (.t 24), none⟩,
        ⟨(some 26), .mv (.t 25), none⟩,
        ⟨(some 27), .fieldAddr 1 (.t 3), some (26, false)⟩,
        ⟨(some 28), .load none (.t 27), some (26, false)⟩,
        ⟨(some 29), .un .not (.t 28), some (26, false)⟩,
        ⟨(some 30), .mv (.t 29), some (26, false)⟩,
        ⟨(some 31), .fieldAddr 1 (.t 1), some (30, true)⟩,
        ⟨(some 32), .load none (.t 31), some (30, true)⟩,
        ⟨(some 33), .bin .neq (.t 32) (.k (.c (.d (.int .i64 0)))), some (30, true)⟩,
        ⟨(some 34), .pick (.t 30) (.t 33) (.k (.c (.d (.bool false)))), some (26, false)⟩,
        ⟨(some 35), .pick (.t 26) (.k (.c (.d (.bool true)))) (.t 34), none⟩,
        ⟨(some 36), .mv (.t 35), none⟩,
        ⟨(some 37), .fieldAddr 2 (.t 3), some (36, false)⟩,
        ⟨(some 38), .load none (.t 37), some (36, false)⟩,
        ⟨(some 39), .un .not (.t 38), some (36, false)⟩,
        ⟨(some 40), .mv (.t 39), some (36, false)⟩,
        ⟨(some 41), .fieldAddr 2 (.t 1), some (40, true)⟩,
        ⟨(some 42), .load none (.t 41), some (40, true)⟩,
        ⟨(some 43), .bin .neq (.t 42) (.k (.c (.d (.int .i64 0)))), some (40, true)⟩,
        ⟨(some 44), .pick (.t 40) (.t 43) (.k (.c (.d (.bool false)))), some (36, false)⟩,
        ⟨(some 45), .pick (.t 36) (.k (.c (.d (.bool true)))) (.t 44), none⟩,
        ⟨(some 46), .mv (.t 45), none⟩,
        ⟨(some 47), .fieldAddr 3 (.t 3), some (46, false)⟩,
        ⟨(some 48), .load none (.t 47), some (46, false)⟩,
        ⟨(some 49), .un .not (.t 48), some (46, false)⟩,
        ⟨(some 50), .mv (.t 49), some (46, false)⟩,
        ⟨(some 51), .fieldAddr 3 (.t 1), some (50, true)⟩,
        ⟨(some 52), .load none (.t 51), some (50, true)⟩,
        ⟨(some 53), .bin .neq (.t 52) (.k (.c (.d (.str [])))), some (50, true)⟩,
        ⟨(some 54), .pick (.t 50) (.t 53) (.k (.c (.d (.bool false)))), some (46, false)⟩,
        ⟨(some 55), .pick (.t 46) (.k (.c (.d (.bool true)))) (.t 54), none⟩,
        ⟨(some 56), .mv (.t 55), none⟩,
        ⟨(some 57), .fieldAddr 3 (.t 3), some (56, false)⟩,
        ⟨(some 58), .load none (.t 57), some (56, false)⟩,
        ⟨(some 59), .mv (.t 58), some (56, false)⟩,
        ⟨(some 60), .fieldAddr 3 (.t 1), some (59, true)⟩,
        ⟨(some 61), .load none (.t 60), some (59, true)⟩,
        ⟨(some 62), .qcall 47 [(.t 61)], some (59, true)⟩,
        ⟨(some 63), .un .not (.t 62), some (59, true)⟩,
        ⟨(some 64), .pick (.t 59) (.t 63) (.k (.c (.d (.bool false)))), some (56, false)⟩,
        ⟨(some 65), .pick (.t 56) (.k (.c (.d (.bool true)))) (.t 64), none⟩] [4, 12, 13, 14, 15, 16, 17, 18, 19, 20, 21, 22, 23, 24, 25, 26, 27, 28, 29, 30, 31, 32, 33, 34, 35, 36, 37, 38, 39, 40, 41, 42, 43, 44, 45, 46, 47, 48, 49, 50, 51, 52, 53, 54, 55, 56, 57, 58, 59, 60, 61, 62, 63, 64])
    (.cond (.t 65)
      (.seq (.region [⟨(some 2), .mv (.k (.c (.d (.str [])))), none⟩] [1, 3, 65])
      (.ret))
      (.skip)))
  (.seq (.region [⟨(some 66), .fieldAddr 0 (.t 3), none⟩,
      ⟨(some 67), .load none (.t 66), none⟩,
      ⟨(some 5), .mv (.t 67), none⟩] [2, 65, 66, 67])
  (.seq (.seq (.region [⟨(some 68), .fieldAddr 1 (.t 3), none⟩,
        ⟨(some 69), .load none (.t 68), none⟩] [68])
    (.cond (.t 69)
      (.region [⟨(some 70), .mv (.t 5), none⟩,
        ⟨(some 71), .fieldAddr 1 (.t 1), none⟩,
        ⟨(some 72), .load none (.t 71), none⟩,
        ⟨(some 73), .qcall 48 [(.t 72)], none⟩,
        ⟨(some 74), .bin .add (.k (.c (.d (.str [32])))) (.t 73), none⟩,
        ⟨(some 75), .bin .add (.t 70) (.t 74), none⟩,
        ⟨(some 5), .mv (.t 75), none⟩] [69, 70, 71, 72, 73, 74, 75])
      (.skip)))
  (.seq (.seq (.region [⟨(some 76), .fieldAddr 2 (.t 3), none⟩,
        ⟨(some 77), .load none (.t 76), none⟩] [69, 76])
    (.cond (.t 77)
      (.region [⟨(some 78), .mv (.t 5), none⟩,
        ⟨(some 79), .fieldAddr 2 (.t 1), none⟩,
        ⟨(some 80), .load none (.t 79), none⟩,
        ⟨(some 81), .qcall 48 [(.t 80)], none⟩,
        ⟨(some 82), .bin .add (.k (.c (.d (.str [32])))) (.t 81), none⟩,
        ⟨(some 83), .bin .add (.t 78) (.t 82), none⟩,
        ⟨(some 5), .mv (.t 83), none⟩] [77, 78, 79, 80, 81, 82, 83])
      (.skip)))
  (.seq (.seq (.region [⟨(some 84), .fieldAddr 3 (.t 3), none⟩,
        ⟨(some 85), .load none (.t 84), none⟩] [3, 77, 84])
    (.cond (.t 85)
      (.region [⟨(some 86), .mv (.t 5), none⟩,
        ⟨(some 87), .fieldAddr 3 (.t 1), none⟩,
        ⟨(some 88), .load none (.t 87), none⟩,
        ⟨(some 89), .bin .add (.k (.c (.d (.str [32])))) (.t 88), none⟩,
        ⟨(some 90), .bin .add (.t 86) (.t 89), none⟩,
        ⟨(some 5), .mv (.t 90), none⟩] [1, 85, 86, 87, 88, 89, 90])
      (.skip)))
  (.seq (.region [⟨(some 91), .mv (.t 5), none⟩,
      ⟨(some 2), .mv (.t 91), none⟩] [1, 5, 85, 91])
  (.ret))))))))
theorem ac16_ok : cFunc Tryd.prog [1000045, 1000046, 1000047, 1000048] [(0, [0, 2], []), (1, [6, 7, 8, 9, 10, 11], []), (2, [4, 12, 13, 14, 15, 16, 17, 18, 19, 20, 21, 22, 23, 24, 25, 26, 27, 28, 29, 30, 31, 32, 33, 34, 35, 36, 37, 38, 39, 40, 41, 42, 43, 44, 45, 46, 47, 48, 49, 50, 51, 52, 53, 54, 55, 56, 57, 58, 59, 60, 61, 62, 63, 64], []), (3, [1, 3, 65], []), (4, [2, 65, 66, 67], []), (5, [68], []), (6, [69, 70, 71, 72, 73, 74, 75], []), (7, [69, 76], []), (8, [77, 78, 79, 80, 81, 82, 83], []), (9, [3, 77, 84], []), (10, [1, 85, 86, 87, 88, 89, 90], []), (11, [1, 5, 85, 91], [])] Tryd.f16 = some (ac16, [.tmp 2], 92) := by kernel_rfl
/-- the words of the operations -/
def opWord (op : Int) : List UInt8 :=
  if op = 1 then [103, 101, 116, 118, 97, 108] else if op = 2 then [103, 101, 116, 105, 110, 116] else if op = 3 then [103, 101, 116, 115, 116, 114] else if op = 4 then [117, 110, 105, 118, 97, 114]
  else if op = 5 then [117, 110, 105, 118, 97, 108] else if op = 6 then [117, 110, 105, 105, 110, 116] else if op = 7 then [115, 101, 116, 115, 116, 114] else if op = 8 then [112, 117, 116, 118, 97, 114]
  else if op = 9 then [112, 117, 116, 118, 97, 108] else if op = 10 then [112, 117, 116, 105, 110, 116] else if op = 11 then [99, 97, 108, 108] else if op = 12 then [98, 117, 105, 108, 116]
  else if op = 13 then [99, 117, 116] else if op = 14 then [101, 110, 100] else []
/-- an operation, and whether it has A, B, and a name -/
def opOk (op : Int) : Bool := decide (1 ≤ op) && decide (op ≤ 14)
def opA (op : Int) : Bool := decide (1 ≤ op) && decide (op ≤ 12)
def opB (op : Int) : Bool := op == 1 || op == 2 || op == 3 || op == 7 || op == 8 || op == 9 || op == 10
def opN (op : Int) : Bool := op == 3 || op == 7 || op == 11 || op == 12
theorem op_cases (op : Int) : op = 1 ∨ op = 2 ∨ op = 3 ∨ op = 4 ∨ op = 5 ∨ op = 6 ∨ op = 7 ∨ op = 8 ∨ op = 9 ∨ op = 10 ∨ op = 11 ∨ op = 12 ∨ op = 13 ∨ op = 14 ∨ (op < 1 ∨ 14 < op) := by omega
theorem formOf_calls (op : Int) (H : Heap) : ACalls Tryd.prog 45 [.c (.d (.int .i64 op))] H (fun r H' => H' = H ∧ r = .tup [.agg [.d (.str (opWord op)), .d (.bool (opA op)), .d (.bool (opB op)), .d (.bool (opN op))], .c (.d (.bool (opOk op)))]) := by
  refine acalls Tryd.func45 (by kernel_rfl) ac45_ok fun hf => ?_
  rcases op_cases op with rfl | rfl | rfl | rfl | rfl | rfl | rfl | rfl | rfl | rfl | rfl | rfl | rfl | rfl | h
  all_goals try (simp -implicitDefEqProofs [ac45, opWord, opA, opB, opN, opOk, hf, aw_skip, aw_region, aw_seq, aw_block, aw_cond, aw_exit, aw_ret, kq_nil, kq_seq, kq_seq_ret, kq_seq_exit, kq_block, kq_block_ret, kq_block_exit, kq_loop, kq_loop_ret, kq_loop_exit, awOps_nil, awOps_cons, awOps_guardE, nx_eq, awOp, ev_k, ev_0, ev_1, ev_2, ev_3, ev_4, ev_5, ev_6, ev_7, ev_8, set_0, set_1, set_2, set_3, set_4, set_5, set_6, set_7, set_8, -List.set_cons_succ, -List.set_cons_zero, A.ok, A.val, setSl, wrapG, guardB, getB, pickA, binA, binC, binD, cmpD, isCmp, unA, unD, lenA, AOp.total, kills, litB, FinQ, resOks, resOk, resA, resList, resOne, A.thaw, C.thaw, A.fits, As.fits, C.fits, evs, oks, callArgs, A.pure, C.pure, A.re, C.re, fieldAddrA, loadC, cut, A.cells, C.rows?, getOb, newOb, setOb, storeC, splice, Ob.re, Cs.fits, partsA, partsOk, parts2A, parts2Ok, fillC, fillRows, optInt, optOk, sliceA, clipC, optK_some, storeK_some, Option.map_some, toDs, C.toD, spliceD, appendA, capsOf, srcRows, allLen_nil_iff, allLen_cons_iff, allLen_append_iff, dropC, Obs.fits, eqCs, eqD]; done)
  have h1 : op ≠ 1 ∧ op ≠ 2 ∧ op ≠ 3 ∧ op ≠ 4 ∧ op ≠ 5 ∧ op ≠ 6 ∧ op ≠ 7 ∧ op ≠ 8 ∧ op ≠ 9 ∧ op ≠ 10 ∧ op ≠ 11 ∧ op ≠ 12 ∧ op ≠ 13 ∧ op ≠ 14 := by omega
  have h2 : opOk op = false := by simp [opOk]; omega
  have h3 : opA op = false := by simp [opA]; omega
  simp -implicitDefEqProofs [ac45, opWord, opB, opN, h1, h2, h3, hf, aw_skip, aw_region, aw_seq, aw_block, aw_cond, aw_exit, aw_ret, kq_nil, kq_seq, kq_seq_ret, kq_seq_exit, kq_block, kq_block_ret, kq_block_exit, kq_loop, kq_loop_ret, kq_loop_exit, awOps_nil, awOps_cons, awOps_guardE, nx_eq, awOp, ev_k, ev_0, ev_1, ev_2, ev_3, ev_4, ev_5, ev_6, ev_7, ev_8, set_0, set_1, set_2, set_3, set_4, set_5, set_6, set_7, set_8, -List.set_cons_succ, -List.set_cons_zero, A.ok, A.val, setSl, wrapG, guardB, getB, pickA, binA, binC, binD, cmpD, isCmp, unA, unD, lenA, AOp.total, kills, litB, FinQ, resOks, resOk, resA, resList, resOne, A.thaw, C.thaw, A.fits, As.fits, C.fits, evs, oks, callArgs, A.pure, C.pure, A.re, C.re, fieldAddrA, loadC, cut, A.cells, C.rows?, getOb, newOb, setOb, storeC, splice, Ob.re, Cs.fits, partsA, partsOk, parts2A, parts2Ok, fillC, fillRows, optInt, optOk, sliceA, clipC, optK_some, storeK_some, Option.map_some, toDs, C.toD, spliceD, appendA, capsOf, srcRows, allLen_nil_iff, allLen_cons_iff, allLen_append_iff, dropC, Obs.fits, eqCs, eqD]
/-- the shape of an operation, as the reference names it -/
def opShape (op : Int) : List UInt8 :=
  if opOk op then (if opA op then [97] else []) ++ (if opB op then [98] else []) ++ (if opN op then [110] else []) else [63]
theorem shapeOf_calls (op : Int) (H : Heap) : ACalls Tryd.prog 43 [.c (.d (.int .i64 op))] H (fun r H' => H' = H ∧ r = .c (.d (.str (opShape op)))) := by
  refine acalls Tryd.func43 (by kernel_rfl) ac43_ok fun hf => ?_
  rcases op_cases op with rfl | rfl | rfl | rfl | rfl | rfl | rfl | rfl | rfl | rfl | rfl | rfl | rfl | rfl | h
  all_goals try (simp -implicitDefEqProofs [ac43, opShape, opA, opB, opN, opOk, aw_skip, aw_region, aw_seq, aw_block, aw_cond, aw_exit, aw_ret, kq_nil, kq_seq, kq_seq_ret, kq_seq_exit, kq_block, kq_block_ret, kq_block_exit, kq_loop, kq_loop_ret, kq_loop_exit, awOps_nil, awOps_cons, awOps_guardE, nx_eq, awOp, ev_k, ev_0, ev_1, ev_2, ev_3, ev_4, ev_5, ev_6, ev_7, ev_8, set_0, set_1, set_2, set_3, set_4, set_5, set_6, set_7, set_8, -List.set_cons_succ, -List.set_cons_zero, A.ok, A.val, setSl, wrapG, guardB, getB, pickA, binA, binC, binD, cmpD, isCmp, unA, unD, lenA, AOp.total, kills, litB, FinQ, resOks, resOk, resA, resList, resOne, A.thaw, C.thaw, A.fits, As.fits, C.fits, evs, oks, callArgs, A.pure, C.pure, A.re, C.re, fieldAddrA, loadC, cut, A.cells, C.rows?, getOb, newOb, setOb, storeC, splice, Ob.re, Cs.fits, partsA, partsOk, parts2A, parts2Ok, fillC, fillRows, optInt, optOk, sliceA, clipC, optK_some, storeK_some, Option.map_some, toDs, C.toD, spliceD, appendA, capsOf, srcRows, allLen_nil_iff, allLen_cons_iff, allLen_append_iff, dropC, Obs.fits, eqCs, eqD]; done)
  have h1 : op ≠ 1 ∧ op ≠ 2 ∧ op ≠ 3 ∧ op ≠ 4 ∧ op ≠ 5 ∧ op ≠ 6 ∧ op ≠ 7 ∧ op ≠ 8 ∧ op ≠ 9 ∧ op ≠ 10 ∧ op ≠ 11 ∧ op ≠ 12 ∧ op ≠ 13 ∧ op ≠ 14 := by omega
  have h2 : opOk op = false := by simp [opOk]; omega
  simp -implicitDefEqProofs [ac43, opShape, h1, h2, aw_skip, aw_region, aw_seq, aw_block, aw_cond, aw_exit, aw_ret, kq_nil, kq_seq, kq_seq_ret, kq_seq_exit, kq_block, kq_block_ret, kq_block_exit, kq_loop, kq_loop_ret, kq_loop_exit, awOps_nil, awOps_cons, awOps_guardE, nx_eq, awOp, ev_k, ev_0, ev_1, ev_2, ev_3, ev_4, ev_5, ev_6, ev_7, ev_8, set_0, set_1, set_2, set_3, set_4, set_5, set_6, set_7, set_8, -List.set_cons_succ, -List.set_cons_zero, A.ok, A.val, setSl, wrapG, guardB, getB, pickA, binA, binC, binD, cmpD, isCmp, unA, unD, lenA, AOp.total, kills, litB, FinQ, resOks, resOk, resA, resList, resOne, A.thaw, C.thaw, A.fits, As.fits, C.fits, evs, oks, callArgs, A.pure, C.pure, A.re, C.re, fieldAddrA, loadC, cut, A.cells, C.rows?, getOb, newOb, setOb, storeC, splice, Ob.re, Cs.fits, partsA, partsOk, parts2A, parts2Ok, fillC, fillRows, optInt, optOk, sliceA, clipC, optK_some, storeK_some, Option.map_some, toDs, C.toD, spliceD, appendA, capsOf, srcRows, allLen_nil_iff, allLen_cons_iff, allLen_append_iff, dropC, Obs.fits, eqCs, eqD]
/-- whether an instruction is within the limits -/
def Ins.okB (x : Ins) : Bool :=
  opOk x.op && (decide (-999 ≤ x.a) && decide (x.a ≤ 999)) && (decide (0 ≤ x.b) && decide (x.b ≤ 999)) && (opA x.op || x.a == 0) && (opB x.op || x.b == 0) && (if opN x.op then nameB x.text else x.text == [])
/-- the text of an instruction -/
def Ins.fmt (x : Ins) : List UInt8 :=
  if x.okB then opWord x.op ++ (if opA x.op then 32 :: Lib.itoa x.a else []) ++ (if opB x.op then 32 :: Lib.itoa x.b else []) ++ (if opN x.op then 32 :: x.text else []) else []
theorem names_calls (H : Heap) : ACalls Tryd.prog 42 [] H (fun r H' => H' = H ∧ r = .c (.d (.sl ((List.range 15).map fun i : Nat => [.str (opWord (i : Int))])))) := by
  refine acalls Tryd.func42 (by kernel_rfl) ac42_ok fun hf => ?_
  simp -implicitDefEqProofs [ac42, List.range, List.range.loop, opWord, aw_skip, aw_region, aw_seq, aw_block, aw_cond, aw_exit, aw_ret, kq_nil, kq_seq, kq_seq_ret, kq_seq_exit, kq_block, kq_block_ret, kq_block_exit, kq_loop, kq_loop_ret, kq_loop_exit, awOps_nil, awOps_cons, awOps_guardE, nx_eq, awOp, ev_k, ev_0, ev_1, ev_2, ev_3, ev_4, ev_5, ev_6, ev_7, ev_8, set_0, set_1, set_2, set_3, set_4, set_5, set_6, set_7, set_8, -List.set_cons_succ, -List.set_cons_zero, A.ok, A.val, setSl, wrapG, guardB, getB, pickA, binA, binC, binD, cmpD, isCmp, unA, unD, lenA, AOp.total, kills, litB, FinQ, resOks, resOk, resA, resList, resOne, A.thaw, C.thaw, A.fits, As.fits, C.fits, evs, oks, callArgs, A.pure, C.pure, A.re, C.re, fieldAddrA, loadC, cut, A.cells, C.rows?, getOb, newOb, setOb, storeC, splice, Ob.re, Cs.fits, partsA, partsOk, parts2A, parts2Ok, fillC, fillRows, optInt, optOk, sliceA, clipC, optK_some, storeK_some, Option.map_some, toDs, C.toD, spliceD, appendA, capsOf, srcRows, allLen_nil_iff, allLen_cons_iff, allLen_append_iff, dropC, Obs.fits, eqCs, eqD]
theorem op_bits (op : Int) : (opOk op = false ∧ opA op = false ∧ opB op = false ∧ opN op = false) ∨ (opOk op = true ∧ opA op = true ∧ opB op = true ∧ opN op = false) ∨ (opOk op = true ∧ opA op = true ∧ opB op = true ∧ opN op = true) ∨
    (opOk op = true ∧ opA op = true ∧ opB op = false ∧ opN op = false) ∨ (opOk op = true ∧ opA op = true ∧ opB op = false ∧ opN op = true) ∨ (opOk op = true ∧ opA op = false ∧ opB op = false ∧ opN op = false) := by
  rcases op_cases op with rfl | rfl | rfl | rfl | rfl | rfl | rfl | rfl | rfl | rfl | rfl | rfl | rfl | rfl | h
  all_goals try (simp [opOk, opA, opB, opN]; done)
  refine .inl ⟨by simp [opOk]; omega, by simp [opA]; omega, ?_, ?_⟩
  · have : op ≠ 1 ∧ op ≠ 2 ∧ op ≠ 3 ∧ op ≠ 7 ∧ op ≠ 8 ∧ op ≠ 9 ∧ op ≠ 10 := by omega
    simp [opB, this]
  · have : op ≠ 3 ∧ op ≠ 7 ∧ op ≠ 11 ∧ op ≠ 12 := by omega
    simp [opN, this]
theorem opWord_len (op : Int) : (opWord op).length ≤ 6 := by
  rcases op_cases op with rfl | rfl | rfl | rfl | rfl | rfl | rfl | rfl | rfl | rfl | rfl | rfl | rfl | rfl | h
  all_goals try (simp [opWord]; done)
  have h1 : op ≠ 1 ∧ op ≠ 2 ∧ op ≠ 3 ∧ op ≠ 4 ∧ op ≠ 5 ∧ op ≠ 6 ∧ op ≠ 7 ∧ op ≠ 8 ∧ op ≠ 9 ∧ op ≠ 10 ∧ op ≠ 11 ∧ op ≠ 12 ∧ op ≠ 13 ∧ op ≠ 14 := by omega
  simp [opWord, h1]
/-- the program's text of an instruction -/
def FmtI (g : Nat) (o : Obj) (x : Ins) : Prop := ∀ H : Heap, H[0]? = some (.tab g o) → ACalls Tryd.prog 16 [.agg (x.row.map .d)] H (fun r H' => H' = H ∧ r = .c (.d (.str x.fmt)))
theorem fmt_lens {a b : Int} (h2 : inR .i64 a) (h3 : inR .i64 b) : (Lib.itoa a).length ≤ 1000000 ∧ (Lib.itoa b).length ≤ 1000000 :=
  ⟨itoa_len a (i64_def.1 h2).1 (i64_def.1 h2).2, itoa_len b (i64_def.1 h3).1 (i64_def.1 h3).2⟩
theorem fmtImpl_0 {g : Nat} {o : Obj} (hT : Tab g o) (op a b : Int) (s : List UInt8) (h1 : inR .i64 op) (h2 : inR .i64 a) (h3 : inR .i64 b) (hs : s.length ≤ 1048576) (e1 : opOk op = false) (e2 : opA op = false) (e3 : opB op = false) (e4 : opN op = false) : FmtI g o ⟨op, a, b, s⟩ := by
  intro H hH
  refine acalls Tryd.func16 (by kernel_rfl) ac16_ok fun hf => ?_
  simp -implicitDefEqProofs [ac16, Ins.row, aw_skip, aw_region, aw_seq, aw_block, aw_cond, aw_exit, aw_ret, kq_nil, kq_seq, kq_seq_ret, kq_seq_exit, kq_block, kq_block_ret, kq_block_exit, kq_loop, kq_loop_ret, kq_loop_exit, awOps_nil, awOps_cons, awOps_guardE, nx_eq, awOp, ev_k, ev_0, ev_1, ev_2, ev_3, ev_4, ev_5, ev_6, ev_7, ev_8, set_0, set_1, set_2, set_3, set_4, set_5, set_6, set_7, set_8, -List.set_cons_succ, -List.set_cons_zero, A.ok, A.val, setSl, wrapG, guardB, getB, pickA, binA, binC, binD, cmpD, isCmp, unA, unD, lenA, AOp.total, kills, litB, FinQ, resOks, resOk, resA, resList, resOne, A.thaw, C.thaw, A.fits, As.fits, C.fits, evs, oks, callArgs, A.pure, C.pure, A.re, C.re, fieldAddrA, loadC, cut, A.cells, C.rows?, getOb, newOb, setOb, storeC, splice, Ob.re, Cs.fits, partsA, partsOk, parts2A, parts2Ok, fillC, fillRows, optInt, optOk, sliceA, clipC, optK_some, storeK_some, Option.map_some, toDs, C.toD, spliceD, appendA, capsOf, srcRows, allLen_nil_iff, allLen_cons_iff, allLen_append_iff, dropC, Obs.fits, eqCs, eqD]
  refine qcall_pure (formOf_calls op) hf rfl ?_
  have hw := opWord_len op
  obtain ⟨la, lb⟩ := fmt_lens h2 h3
  simp -implicitDefEqProofs [e1, e2, e3, e4, hf, Ins.fmt, Ins.okB, aw_skip, aw_region, aw_seq, aw_block, aw_cond, aw_exit, aw_ret, kq_nil, kq_seq, kq_seq_ret, kq_seq_exit, kq_block, kq_block_ret, kq_block_exit, kq_loop, kq_loop_ret, kq_loop_exit, awOps_nil, awOps_cons, awOps_guardE, nx_eq, awOp, ev_k, ev_0, ev_1, ev_2, ev_3, ev_4, ev_5, ev_6, ev_7, ev_8, set_0, set_1, set_2, set_3, set_4, set_5, set_6, set_7, set_8, -List.set_cons_succ, -List.set_cons_zero, A.ok, A.val, setSl, wrapG, guardB, getB, pickA, binA, binC, binD, cmpD, isCmp, unA, unD, lenA, AOp.total, kills, litB, FinQ, resOks, resOk, resA, resList, resOne, A.thaw, C.thaw, A.fits, As.fits, C.fits, evs, oks, callArgs, A.pure, C.pure, A.re, C.re, fieldAddrA, loadC, cut, A.cells, C.rows?, getOb, newOb, setOb, storeC, splice, Ob.re, Cs.fits, partsA, partsOk, parts2A, parts2Ok, fillC, fillRows, optInt, optOk, sliceA, clipC, optK_some, storeK_some, Option.map_some, toDs, C.toD, spliceD, appendA, capsOf, srcRows, allLen_nil_iff, allLen_cons_iff, allLen_append_iff, dropC, Obs.fits, eqCs, eqD]
theorem fmtImpl_1 {g : Nat} {o : Obj} (hT : Tab g o) (op a b : Int) (s : List UInt8) (h1 : inR .i64 op) (h2 : inR .i64 a) (h3 : inR .i64 b) (hs : s.length ≤ 1048576) (e1 : opOk op = true) (e2 : opA op = true) (e3 : opB op = true) (e4 : opN op = false) : FmtI g o ⟨op, a, b, s⟩ := by
  intro H hH
  refine acalls Tryd.func16 (by kernel_rfl) ac16_ok fun hf => ?_
  simp -implicitDefEqProofs [ac16, Ins.row, aw_skip, aw_region, aw_seq, aw_block, aw_cond, aw_exit, aw_ret, kq_nil, kq_seq, kq_seq_ret, kq_seq_exit, kq_block, kq_block_ret, kq_block_exit, kq_loop, kq_loop_ret, kq_loop_exit, awOps_nil, awOps_cons, awOps_guardE, nx_eq, awOp, ev_k, ev_0, ev_1, ev_2, ev_3, ev_4, ev_5, ev_6, ev_7, ev_8, set_0, set_1, set_2, set_3, set_4, set_5, set_6, set_7, set_8, -List.set_cons_succ, -List.set_cons_zero, A.ok, A.val, setSl, wrapG, guardB, getB, pickA, binA, binC, binD, cmpD, isCmp, unA, unD, lenA, AOp.total, kills, litB, FinQ, resOks, resOk, resA, resList, resOne, A.thaw, C.thaw, A.fits, As.fits, C.fits, evs, oks, callArgs, A.pure, C.pure, A.re, C.re, fieldAddrA, loadC, cut, A.cells, C.rows?, getOb, newOb, setOb, storeC, splice, Ob.re, Cs.fits, partsA, partsOk, parts2A, parts2Ok, fillC, fillRows, optInt, optOk, sliceA, clipC, optK_some, storeK_some, Option.map_some, toDs, C.toD, spliceD, appendA, capsOf, srcRows, allLen_nil_iff, allLen_cons_iff, allLen_append_iff, dropC, Obs.fits, eqCs, eqD]
  refine qcall_pure (formOf_calls op) hf rfl ?_
  have hw := opWord_len op
  obtain ⟨la, lb⟩ := fmt_lens h2 h3
  simp -implicitDefEqProofs [e1, e2, e3, e4, aw_skip, aw_region, aw_seq, aw_block, aw_cond, aw_exit, aw_ret, kq_nil, kq_seq, kq_seq_ret, kq_seq_exit, kq_block, kq_block_ret, kq_block_exit, kq_loop, kq_loop_ret, kq_loop_exit, awOps_nil, awOps_cons, awOps_guardE, nx_eq, awOp, ev_k, ev_0, ev_1, ev_2, ev_3, ev_4, ev_5, ev_6, ev_7, ev_8, set_0, set_1, set_2, set_3, set_4, set_5, set_6, set_7, set_8, -List.set_cons_succ, -List.set_cons_zero, A.ok, A.val, setSl, wrapG, guardB, getB, pickA, binA, binC, binD, cmpD, isCmp, unA, unD, lenA, AOp.total, kills, litB, FinQ, resOks, resOk, resA, resList, resOne, A.thaw, C.thaw, A.fits, As.fits, C.fits, evs, oks, callArgs, A.pure, C.pure, A.re, C.re, fieldAddrA, loadC, cut, A.cells, C.rows?, getOb, newOb, setOb, storeC, splice, Ob.re, Cs.fits, partsA, partsOk, parts2A, parts2Ok, fillC, fillRows, optInt, optOk, sliceA, clipC, optK_some, storeK_some, Option.map_some, toDs, C.toD, spliceD, appendA, capsOf, srcRows, allLen_nil_iff, allLen_cons_iff, allLen_append_iff, dropC, Obs.fits, eqCs, eqD]
  refine ⟨hf, qcall_pure (within_calls _ _ _) hf rfl ?_⟩
  cases hA : (decide (-999 ≤ a) && decide (a ≤ 999)) with
  | false => simp -implicitDefEqProofs [e1, hA, Ins.fmt, Ins.okB, aw_skip, aw_region, aw_seq, aw_block, aw_cond, aw_exit, aw_ret, kq_nil, kq_seq, kq_seq_ret, kq_seq_exit, kq_block, kq_block_ret, kq_block_exit, kq_loop, kq_loop_ret, kq_loop_exit, awOps_nil, awOps_cons, awOps_guardE, nx_eq, awOp, ev_k, ev_0, ev_1, ev_2, ev_3, ev_4, ev_5, ev_6, ev_7, ev_8, set_0, set_1, set_2, set_3, set_4, set_5, set_6, set_7, set_8, -List.set_cons_succ, -List.set_cons_zero, A.ok, A.val, setSl, wrapG, guardB, getB, pickA, binA, binC, binD, cmpD, isCmp, unA, unD, lenA, AOp.total, kills, litB, FinQ, resOks, resOk, resA, resList, resOne, A.thaw, C.thaw, A.fits, As.fits, C.fits, evs, oks, callArgs, A.pure, C.pure, A.re, C.re, fieldAddrA, loadC, cut, A.cells, C.rows?, getOb, newOb, setOb, storeC, splice, Ob.re, Cs.fits, partsA, partsOk, parts2A, parts2Ok, fillC, fillRows, optInt, optOk, sliceA, clipC, optK_some, storeK_some, Option.map_some, toDs, C.toD, spliceD, appendA, capsOf, srcRows, allLen_nil_iff, allLen_cons_iff, allLen_append_iff, dropC, Obs.fits, eqCs, eqD]
  | true =>
    simp -implicitDefEqProofs [hA, aw_skip, aw_region, aw_seq, aw_block, aw_cond, aw_exit, aw_ret, kq_nil, kq_seq, kq_seq_ret, kq_seq_exit, kq_block, kq_block_ret, kq_block_exit, kq_loop, kq_loop_ret, kq_loop_exit, awOps_nil, awOps_cons, awOps_guardE, nx_eq, awOp, ev_k, ev_0, ev_1, ev_2, ev_3, ev_4, ev_5, ev_6, ev_7, ev_8, set_0, set_1, set_2, set_3, set_4, set_5, set_6, set_7, set_8, -List.set_cons_succ, -List.set_cons_zero, A.ok, A.val, setSl, wrapG, guardB, getB, pickA, binA, binC, binD, cmpD, isCmp, unA, unD, lenA, AOp.total, kills, litB, FinQ, resOks, resOk, resA, resList, resOne, A.thaw, C.thaw, A.fits, As.fits, C.fits, evs, oks, callArgs, A.pure, C.pure, A.re, C.re, fieldAddrA, loadC, cut, A.cells, C.rows?, getOb, newOb, setOb, storeC, splice, Ob.re, Cs.fits, partsA, partsOk, parts2A, parts2Ok, fillC, fillRows, optInt, optOk, sliceA, clipC, optK_some, storeK_some, Option.map_some, toDs, C.toD, spliceD, appendA, capsOf, srcRows, allLen_nil_iff, allLen_cons_iff, allLen_append_iff, dropC, Obs.fits, eqCs, eqD]
    refine qcall_pure (within_calls _ _ _) hf rfl ?_
    cases hB : (decide (0 ≤ b) && decide (b ≤ 999)) with
    | false => simp -implicitDefEqProofs [e1, hA, hB, Ins.fmt, Ins.okB, aw_skip, aw_region, aw_seq, aw_block, aw_cond, aw_exit, aw_ret, kq_nil, kq_seq, kq_seq_ret, kq_seq_exit, kq_block, kq_block_ret, kq_block_exit, kq_loop, kq_loop_ret, kq_loop_exit, awOps_nil, awOps_cons, awOps_guardE, nx_eq, awOp, ev_k, ev_0, ev_1, ev_2, ev_3, ev_4, ev_5, ev_6, ev_7, ev_8, set_0, set_1, set_2, set_3, set_4, set_5, set_6, set_7, set_8, -List.set_cons_succ, -List.set_cons_zero, A.ok, A.val, setSl, wrapG, guardB, getB, pickA, binA, binC, binD, cmpD, isCmp, unA, unD, lenA, AOp.total, kills, litB, FinQ, resOks, resOk, resA, resList, resOne, A.thaw, C.thaw, A.fits, As.fits, C.fits, evs, oks, callArgs, A.pure, C.pure, A.re, C.re, fieldAddrA, loadC, cut, A.cells, C.rows?, getOb, newOb, setOb, storeC, splice, Ob.re, Cs.fits, partsA, partsOk, parts2A, parts2Ok, fillC, fillRows, optInt, optOk, sliceA, clipC, optK_some, storeK_some, Option.map_some, toDs, C.toD, spliceD, appendA, capsOf, srcRows, allLen_nil_iff, allLen_cons_iff, allLen_append_iff, dropC, Obs.fits, eqCs, eqD]
    | true =>
      obtain ⟨a1, a2⟩ : -999 ≤ a ∧ a ≤ 999 := by simpa using hA
      obtain ⟨b1, b2⟩ : 0 ≤ b ∧ b ≤ 999 := by simpa using hB
      simp -implicitDefEqProofs [hB, aw_skip, aw_region, aw_seq, aw_block, aw_cond, aw_exit, aw_ret, kq_nil, kq_seq, kq_seq_ret, kq_seq_exit, kq_block, kq_block_ret, kq_block_exit, kq_loop, kq_loop_ret, kq_loop_exit, awOps_nil, awOps_cons, awOps_guardE, nx_eq, awOp, ev_k, ev_0, ev_1, ev_2, ev_3, ev_4, ev_5, ev_6, ev_7, ev_8, set_0, set_1, set_2, set_3, set_4, set_5, set_6, set_7, set_8, -List.set_cons_succ, -List.set_cons_zero, A.ok, A.val, setSl, wrapG, guardB, getB, pickA, binA, binC, binD, cmpD, isCmp, unA, unD, lenA, AOp.total, kills, litB, FinQ, resOks, resOk, resA, resList, resOne, A.thaw, C.thaw, A.fits, As.fits, C.fits, evs, oks, callArgs, A.pure, C.pure, A.re, C.re, fieldAddrA, loadC, cut, A.cells, C.rows?, getOb, newOb, setOb, storeC, splice, Ob.re, Cs.fits, partsA, partsOk, parts2A, parts2Ok, fillC, fillRows, optInt, optOk, sliceA, clipC, optK_some, storeK_some, Option.map_some, toDs, C.toD, spliceD, appendA, capsOf, srcRows, allLen_nil_iff, allLen_cons_iff, allLen_append_iff, dropC, Obs.fits, eqCs, eqD]
      refine ⟨fun h0 => by first | (simp [e1, e2, e3, e4, a1, a2, b1, b2, Ins.fmt, Ins.okB, h0]; done) | (simp [e1, e2, e3, e4, a1, a2, b1, b2, Ins.fmt, Ins.okB]; intros; simp_all), ?_⟩
      intro hc; subst hc
      refine qcall_tab (itoa_call hT a h2) hf hH rfl ?_
      simp -implicitDefEqProofs [maxStr, aw_skip, aw_region, aw_seq, aw_block, aw_cond, aw_exit, aw_ret, kq_nil, kq_seq, kq_seq_ret, kq_seq_exit, kq_block, kq_block_ret, kq_block_exit, kq_loop, kq_loop_ret, kq_loop_exit, awOps_nil, awOps_cons, awOps_guardE, nx_eq, awOp, ev_k, ev_0, ev_1, ev_2, ev_3, ev_4, ev_5, ev_6, ev_7, ev_8, set_0, set_1, set_2, set_3, set_4, set_5, set_6, set_7, set_8, -List.set_cons_succ, -List.set_cons_zero, A.ok, A.val, setSl, wrapG, guardB, getB, pickA, binA, binC, binD, cmpD, isCmp, unA, unD, lenA, AOp.total, kills, litB, FinQ, resOks, resOk, resA, resList, resOne, A.thaw, C.thaw, A.fits, As.fits, C.fits, evs, oks, callArgs, A.pure, C.pure, A.re, C.re, fieldAddrA, loadC, cut, A.cells, C.rows?, getOb, newOb, setOb, storeC, splice, Ob.re, Cs.fits, partsA, partsOk, parts2A, parts2Ok, fillC, fillRows, optInt, optOk, sliceA, clipC, optK_some, storeK_some, Option.map_some, toDs, C.toD, spliceD, appendA, capsOf, srcRows, allLen_nil_iff, allLen_cons_iff, allLen_append_iff, dropC, Obs.fits, eqCs, eqD]
      refine ⟨by omega, by omega, qcall_tab (itoa_call hT b h3) hf hH rfl ?_⟩
      simp -implicitDefEqProofs [e1, e2, e3, e4, a1, a2, b1, b2, Ins.fmt, Ins.okB, maxStr, aw_skip, aw_region, aw_seq, aw_block, aw_cond, aw_exit, aw_ret, kq_nil, kq_seq, kq_seq_ret, kq_seq_exit, kq_block, kq_block_ret, kq_block_exit, kq_loop, kq_loop_ret, kq_loop_exit, awOps_nil, awOps_cons, awOps_guardE, nx_eq, awOp, ev_k, ev_0, ev_1, ev_2, ev_3, ev_4, ev_5, ev_6, ev_7, ev_8, set_0, set_1, set_2, set_3, set_4, set_5, set_6, set_7, set_8, -List.set_cons_succ, -List.set_cons_zero, A.ok, A.val, setSl, wrapG, guardB, getB, pickA, binA, binC, binD, cmpD, isCmp, unA, unD, lenA, AOp.total, kills, litB, FinQ, resOks, resOk, resA, resList, resOne, A.thaw, C.thaw, A.fits, As.fits, C.fits, evs, oks, callArgs, A.pure, C.pure, A.re, C.re, fieldAddrA, loadC, cut, A.cells, C.rows?, getOb, newOb, setOb, storeC, splice, Ob.re, Cs.fits, partsA, partsOk, parts2A, parts2Ok, fillC, fillRows, optInt, optOk, sliceA, clipC, optK_some, storeK_some, Option.map_some, toDs, C.toD, spliceD, appendA, capsOf, srcRows, allLen_nil_iff, allLen_cons_iff, allLen_append_iff, dropC, Obs.fits, eqCs, eqD]
      omega
theorem fmtImpl_2 {g : Nat} {o : Obj} (hT : Tab g o) (op a b : Int) (s : List UInt8) (h1 : inR .i64 op) (h2 : inR .i64 a) (h3 : inR .i64 b) (hs : s.length ≤ 1048576) (e1 : opOk op = true) (e2 : opA op = true) (e3 : opB op = true) (e4 : opN op = true) : FmtI g o ⟨op, a, b, s⟩ := by
  intro H hH
  refine acalls Tryd.func16 (by kernel_rfl) ac16_ok fun hf => ?_
  simp -implicitDefEqProofs [ac16, Ins.row, aw_skip, aw_region, aw_seq, aw_block, aw_cond, aw_exit, aw_ret, kq_nil, kq_seq, kq_seq_ret, kq_seq_exit, kq_block, kq_block_ret, kq_block_exit, kq_loop, kq_loop_ret, kq_loop_exit, awOps_nil, awOps_cons, awOps_guardE, nx_eq, awOp, ev_k, ev_0, ev_1, ev_2, ev_3, ev_4, ev_5, ev_6, ev_7, ev_8, set_0, set_1, set_2, set_3, set_4, set_5, set_6, set_7, set_8, -List.set_cons_succ, -List.set_cons_zero, A.ok, A.val, setSl, wrapG, guardB, getB, pickA, binA, binC, binD, cmpD, isCmp, unA, unD, lenA, AOp.total, kills, litB, FinQ, resOks, resOk, resA, resList, resOne, A.thaw, C.thaw, A.fits, As.fits, C.fits, evs, oks, callArgs, A.pure, C.pure, A.re, C.re, fieldAddrA, loadC, cut, A.cells, C.rows?, getOb, newOb, setOb, storeC, splice, Ob.re, Cs.fits, partsA, partsOk, parts2A, parts2Ok, fillC, fillRows, optInt, optOk, sliceA, clipC, optK_some, storeK_some, Option.map_some, toDs, C.toD, spliceD, appendA, capsOf, srcRows, allLen_nil_iff, allLen_cons_iff, allLen_append_iff, dropC, Obs.fits, eqCs, eqD]
  refine qcall_pure (formOf_calls op) hf rfl ?_
  have hw := opWord_len op
  obtain ⟨la, lb⟩ := fmt_lens h2 h3
  simp -implicitDefEqProofs [e1, e2, e3, e4, aw_skip, aw_region, aw_seq, aw_block, aw_cond, aw_exit, aw_ret, kq_nil, kq_seq, kq_seq_ret, kq_seq_exit, kq_block, kq_block_ret, kq_block_exit, kq_loop, kq_loop_ret, kq_loop_exit, awOps_nil, awOps_cons, awOps_guardE, nx_eq, awOp, ev_k, ev_0, ev_1, ev_2, ev_3, ev_4, ev_5, ev_6, ev_7, ev_8, set_0, set_1, set_2, set_3, set_4, set_5, set_6, set_7, set_8, -List.set_cons_succ, -List.set_cons_zero, A.ok, A.val, setSl, wrapG, guardB, getB, pickA, binA, binC, binD, cmpD, isCmp, unA, unD, lenA, AOp.total, kills, litB, FinQ, resOks, resOk, resA, resList, resOne, A.thaw, C.thaw, A.fits, As.fits, C.fits, evs, oks, callArgs, A.pure, C.pure, A.re, C.re, fieldAddrA, loadC, cut, A.cells, C.rows?, getOb, newOb, setOb, storeC, splice, Ob.re, Cs.fits, partsA, partsOk, parts2A, parts2Ok, fillC, fillRows, optInt, optOk, sliceA, clipC, optK_some, storeK_some, Option.map_some, toDs, C.toD, spliceD, appendA, capsOf, srcRows, allLen_nil_iff, allLen_cons_iff, allLen_append_iff, dropC, Obs.fits, eqCs, eqD]
  refine ⟨hf, qcall_pure (within_calls _ _ _) hf rfl ?_⟩
  cases hA : (decide (-999 ≤ a) && decide (a ≤ 999)) with
  | false => simp -implicitDefEqProofs [e1, hA, Ins.fmt, Ins.okB, aw_skip, aw_region, aw_seq, aw_block, aw_cond, aw_exit, aw_ret, kq_nil, kq_seq, kq_seq_ret, kq_seq_exit, kq_block, kq_block_ret, kq_block_exit, kq_loop, kq_loop_ret, kq_loop_exit, awOps_nil, awOps_cons, awOps_guardE, nx_eq, awOp, ev_k, ev_0, ev_1, ev_2, ev_3, ev_4, ev_5, ev_6, ev_7, ev_8, set_0, set_1, set_2, set_3, set_4, set_5, set_6, set_7, set_8, -List.set_cons_succ, -List.set_cons_zero, A.ok, A.val, setSl, wrapG, guardB, getB, pickA, binA, binC, binD, cmpD, isCmp, unA, unD, lenA, AOp.total, kills, litB, FinQ, resOks, resOk, resA, resList, resOne, A.thaw, C.thaw, A.fits, As.fits, C.fits, evs, oks, callArgs, A.pure, C.pure, A.re, C.re, fieldAddrA, loadC, cut, A.cells, C.rows?, getOb, newOb, setOb, storeC, splice, Ob.re, Cs.fits, partsA, partsOk, parts2A, parts2Ok, fillC, fillRows, optInt, optOk, sliceA, clipC, optK_some, storeK_some, Option.map_some, toDs, C.toD, spliceD, appendA, capsOf, srcRows, allLen_nil_iff, allLen_cons_iff, allLen_append_iff, dropC, Obs.fits, eqCs, eqD]
  | true =>
    simp -implicitDefEqProofs [hA, aw_skip, aw_region, aw_seq, aw_block, aw_cond, aw_exit, aw_ret, kq_nil, kq_seq, kq_seq_ret, kq_seq_exit, kq_block, kq_block_ret, kq_block_exit, kq_loop, kq_loop_ret, kq_loop_exit, awOps_nil, awOps_cons, awOps_guardE, nx_eq, awOp, ev_k, ev_0, ev_1, ev_2, ev_3, ev_4, ev_5, ev_6, ev_7, ev_8, set_0, set_1, set_2, set_3, set_4, set_5, set_6, set_7, set_8, -List.set_cons_succ, -List.set_cons_zero, A.ok, A.val, setSl, wrapG, guardB, getB, pickA, binA, binC, binD, cmpD, isCmp, unA, unD, lenA, AOp.total, kills, litB, FinQ, resOks, resOk, resA, resList, resOne, A.thaw, C.thaw, A.fits, As.fits, C.fits, evs, oks, callArgs, A.pure, C.pure, A.re, C.re, fieldAddrA, loadC, cut, A.cells, C.rows?, getOb, newOb, setOb, storeC, splice, Ob.re, Cs.fits, partsA, partsOk, parts2A, parts2Ok, fillC, fillRows, optInt, optOk, sliceA, clipC, optK_some, storeK_some, Option.map_some, toDs, C.toD, spliceD, appendA, capsOf, srcRows, allLen_nil_iff, allLen_cons_iff, allLen_append_iff, dropC, Obs.fits, eqCs, eqD]
    refine qcall_pure (within_calls _ _ _) hf rfl ?_
    cases hB : (decide (0 ≤ b) && decide (b ≤ 999)) with
    | false => simp -implicitDefEqProofs [e1, hA, hB, Ins.fmt, Ins.okB, aw_skip, aw_region, aw_seq, aw_block, aw_cond, aw_exit, aw_ret, kq_nil, kq_seq, kq_seq_ret, kq_seq_exit, kq_block, kq_block_ret, kq_block_exit, kq_loop, kq_loop_ret, kq_loop_exit, awOps_nil, awOps_cons, awOps_guardE, nx_eq, awOp, ev_k, ev_0, ev_1, ev_2, ev_3, ev_4, ev_5, ev_6, ev_7, ev_8, set_0, set_1, set_2, set_3, set_4, set_5, set_6, set_7, set_8, -List.set_cons_succ, -List.set_cons_zero, A.ok, A.val, setSl, wrapG, guardB, getB, pickA, binA, binC, binD, cmpD, isCmp, unA, unD, lenA, AOp.total, kills, litB, FinQ, resOks, resOk, resA, resList, resOne, A.thaw, C.thaw, A.fits, As.fits, C.fits, evs, oks, callArgs, A.pure, C.pure, A.re, C.re, fieldAddrA, loadC, cut, A.cells, C.rows?, getOb, newOb, setOb, storeC, splice, Ob.re, Cs.fits, partsA, partsOk, parts2A, parts2Ok, fillC, fillRows, optInt, optOk, sliceA, clipC, optK_some, storeK_some, Option.map_some, toDs, C.toD, spliceD, appendA, capsOf, srcRows, allLen_nil_iff, allLen_cons_iff, allLen_append_iff, dropC, Obs.fits, eqCs, eqD]
    | true =>
      obtain ⟨a1, a2⟩ : -999 ≤ a ∧ a ≤ 999 := by simpa using hA
      obtain ⟨b1, b2⟩ : 0 ≤ b ∧ b ≤ 999 := by simpa using hB
      simp -implicitDefEqProofs [hB, aw_skip, aw_region, aw_seq, aw_block, aw_cond, aw_exit, aw_ret, kq_nil, kq_seq, kq_seq_ret, kq_seq_exit, kq_block, kq_block_ret, kq_block_exit, kq_loop, kq_loop_ret, kq_loop_exit, awOps_nil, awOps_cons, awOps_guardE, nx_eq, awOp, ev_k, ev_0, ev_1, ev_2, ev_3, ev_4, ev_5, ev_6, ev_7, ev_8, set_0, set_1, set_2, set_3, set_4, set_5, set_6, set_7, set_8, -List.set_cons_succ, -List.set_cons_zero, A.ok, A.val, setSl, wrapG, guardB, getB, pickA, binA, binC, binD, cmpD, isCmp, unA, unD, lenA, AOp.total, kills, litB, FinQ, resOks, resOk, resA, resList, resOne, A.thaw, C.thaw, A.fits, As.fits, C.fits, evs, oks, callArgs, A.pure, C.pure, A.re, C.re, fieldAddrA, loadC, cut, A.cells, C.rows?, getOb, newOb, setOb, storeC, splice, Ob.re, Cs.fits, partsA, partsOk, parts2A, parts2Ok, fillC, fillRows, optInt, optOk, sliceA, clipC, optK_some, storeK_some, Option.map_some, toDs, C.toD, spliceD, appendA, capsOf, srcRows, allLen_nil_iff, allLen_cons_iff, allLen_append_iff, dropC, Obs.fits, eqCs, eqD]
      refine qcall_pure (nvImpl_calls s (by omega)) hf rfl ?_
      cases hn : nameB s with
      | false => simp -implicitDefEqProofs [hn, e1, e2, e3, e4, a1, a2, b1, b2, Ins.fmt, Ins.okB, aw_skip, aw_region, aw_seq, aw_block, aw_cond, aw_exit, aw_ret, kq_nil, kq_seq, kq_seq_ret, kq_seq_exit, kq_block, kq_block_ret, kq_block_exit, kq_loop, kq_loop_ret, kq_loop_exit, awOps_nil, awOps_cons, awOps_guardE, nx_eq, awOp, ev_k, ev_0, ev_1, ev_2, ev_3, ev_4, ev_5, ev_6, ev_7, ev_8, set_0, set_1, set_2, set_3, set_4, set_5, set_6, set_7, set_8, -List.set_cons_succ, -List.set_cons_zero, A.ok, A.val, setSl, wrapG, guardB, getB, pickA, binA, binC, binD, cmpD, isCmp, unA, unD, lenA, AOp.total, kills, litB, FinQ, resOks, resOk, resA, resList, resOne, A.thaw, C.thaw, A.fits, As.fits, C.fits, evs, oks, callArgs, A.pure, C.pure, A.re, C.re, fieldAddrA, loadC, cut, A.cells, C.rows?, getOb, newOb, setOb, storeC, splice, Ob.re, Cs.fits, partsA, partsOk, parts2A, parts2Ok, fillC, fillRows, optInt, optOk, sliceA, clipC, optK_some, storeK_some, Option.map_some, toDs, C.toD, spliceD, appendA, capsOf, srcRows, allLen_nil_iff, allLen_cons_iff, allLen_append_iff, dropC, Obs.fits, eqCs, eqD]
      | true =>
        simp -implicitDefEqProofs [hn, aw_skip, aw_region, aw_seq, aw_block, aw_cond, aw_exit, aw_ret, kq_nil, kq_seq, kq_seq_ret, kq_seq_exit, kq_block, kq_block_ret, kq_block_exit, kq_loop, kq_loop_ret, kq_loop_exit, awOps_nil, awOps_cons, awOps_guardE, nx_eq, awOp, ev_k, ev_0, ev_1, ev_2, ev_3, ev_4, ev_5, ev_6, ev_7, ev_8, set_0, set_1, set_2, set_3, set_4, set_5, set_6, set_7, set_8, -List.set_cons_succ, -List.set_cons_zero, A.ok, A.val, setSl, wrapG, guardB, getB, pickA, binA, binC, binD, cmpD, isCmp, unA, unD, lenA, AOp.total, kills, litB, FinQ, resOks, resOk, resA, resList, resOne, A.thaw, C.thaw, A.fits, As.fits, C.fits, evs, oks, callArgs, A.pure, C.pure, A.re, C.re, fieldAddrA, loadC, cut, A.cells, C.rows?, getOb, newOb, setOb, storeC, splice, Ob.re, Cs.fits, partsA, partsOk, parts2A, parts2Ok, fillC, fillRows, optInt, optOk, sliceA, clipC, optK_some, storeK_some, Option.map_some, toDs, C.toD, spliceD, appendA, capsOf, srcRows, allLen_nil_iff, allLen_cons_iff, allLen_append_iff, dropC, Obs.fits, eqCs, eqD]
        refine qcall_tab (itoa_call hT a h2) hf hH rfl ?_
        simp -implicitDefEqProofs [maxStr, aw_skip, aw_region, aw_seq, aw_block, aw_cond, aw_exit, aw_ret, kq_nil, kq_seq, kq_seq_ret, kq_seq_exit, kq_block, kq_block_ret, kq_block_exit, kq_loop, kq_loop_ret, kq_loop_exit, awOps_nil, awOps_cons, awOps_guardE, nx_eq, awOp, ev_k, ev_0, ev_1, ev_2, ev_3, ev_4, ev_5, ev_6, ev_7, ev_8, set_0, set_1, set_2, set_3, set_4, set_5, set_6, set_7, set_8, -List.set_cons_succ, -List.set_cons_zero, A.ok, A.val, setSl, wrapG, guardB, getB, pickA, binA, binC, binD, cmpD, isCmp, unA, unD, lenA, AOp.total, kills, litB, FinQ, resOks, resOk, resA, resList, resOne, A.thaw, C.thaw, A.fits, As.fits, C.fits, evs, oks, callArgs, A.pure, C.pure, A.re, C.re, fieldAddrA, loadC, cut, A.cells, C.rows?, getOb, newOb, setOb, storeC, splice, Ob.re, Cs.fits, partsA, partsOk, parts2A, parts2Ok, fillC, fillRows, optInt, optOk, sliceA, clipC, optK_some, storeK_some, Option.map_some, toDs, C.toD, spliceD, appendA, capsOf, srcRows, allLen_nil_iff, allLen_cons_iff, allLen_append_iff, dropC, Obs.fits, eqCs, eqD]
        refine ⟨by omega, by omega, qcall_tab (itoa_call hT b h3) hf hH rfl ?_⟩
        simp -implicitDefEqProofs [hn, e1, e2, e3, e4, a1, a2, b1, b2, Ins.fmt, Ins.okB, maxStr, aw_skip, aw_region, aw_seq, aw_block, aw_cond, aw_exit, aw_ret, kq_nil, kq_seq, kq_seq_ret, kq_seq_exit, kq_block, kq_block_ret, kq_block_exit, kq_loop, kq_loop_ret, kq_loop_exit, awOps_nil, awOps_cons, awOps_guardE, nx_eq, awOp, ev_k, ev_0, ev_1, ev_2, ev_3, ev_4, ev_5, ev_6, ev_7, ev_8, set_0, set_1, set_2, set_3, set_4, set_5, set_6, set_7, set_8, -List.set_cons_succ, -List.set_cons_zero, A.ok, A.val, setSl, wrapG, guardB, getB, pickA, binA, binC, binD, cmpD, isCmp, unA, unD, lenA, AOp.total, kills, litB, FinQ, resOks, resOk, resA, resList, resOne, A.thaw, C.thaw, A.fits, As.fits, C.fits, evs, oks, callArgs, A.pure, C.pure, A.re, C.re, fieldAddrA, loadC, cut, A.cells, C.rows?, getOb, newOb, setOb, storeC, splice, Ob.re, Cs.fits, partsA, partsOk, parts2A, parts2Ok, fillC, fillRows, optInt, optOk, sliceA, clipC, optK_some, storeK_some, Option.map_some, toDs, C.toD, spliceD, appendA, capsOf, srcRows, allLen_nil_iff, allLen_cons_iff, allLen_append_iff, dropC, Obs.fits, eqCs, eqD]
        omega
theorem fmtImpl_3 {g : Nat} {o : Obj} (hT : Tab g o) (op a b : Int) (s : List UInt8) (h1 : inR .i64 op) (h2 : inR .i64 a) (h3 : inR .i64 b) (hs : s.length ≤ 1048576) (e1 : opOk op = true) (e2 : opA op = true) (e3 : opB op = false) (e4 : opN op = false) : FmtI g o ⟨op, a, b, s⟩ := by
  intro H hH
  refine acalls Tryd.func16 (by kernel_rfl) ac16_ok fun hf => ?_
  simp -implicitDefEqProofs [ac16, Ins.row, aw_skip, aw_region, aw_seq, aw_block, aw_cond, aw_exit, aw_ret, kq_nil, kq_seq, kq_seq_ret, kq_seq_exit, kq_block, kq_block_ret, kq_block_exit, kq_loop, kq_loop_ret, kq_loop_exit, awOps_nil, awOps_cons, awOps_guardE, nx_eq, awOp, ev_k, ev_0, ev_1, ev_2, ev_3, ev_4, ev_5, ev_6, ev_7, ev_8, set_0, set_1, set_2, set_3, set_4, set_5, set_6, set_7, set_8, -List.set_cons_succ, -List.set_cons_zero, A.ok, A.val, setSl, wrapG, guardB, getB, pickA, binA, binC, binD, cmpD, isCmp, unA, unD, lenA, AOp.total, kills, litB, FinQ, resOks, resOk, resA, resList, resOne, A.thaw, C.thaw, A.fits, As.fits, C.fits, evs, oks, callArgs, A.pure, C.pure, A.re, C.re, fieldAddrA, loadC, cut, A.cells, C.rows?, getOb, newOb, setOb, storeC, splice, Ob.re, Cs.fits, partsA, partsOk, parts2A, parts2Ok, fillC, fillRows, optInt, optOk, sliceA, clipC, optK_some, storeK_some, Option.map_some, toDs, C.toD, spliceD, appendA, capsOf, srcRows, allLen_nil_iff, allLen_cons_iff, allLen_append_iff, dropC, Obs.fits, eqCs, eqD]
  refine qcall_pure (formOf_calls op) hf rfl ?_
  have hw := opWord_len op
  obtain ⟨la, lb⟩ := fmt_lens h2 h3
  simp -implicitDefEqProofs [e1, e2, e3, e4, aw_skip, aw_region, aw_seq, aw_block, aw_cond, aw_exit, aw_ret, kq_nil, kq_seq, kq_seq_ret, kq_seq_exit, kq_block, kq_block_ret, kq_block_exit, kq_loop, kq_loop_ret, kq_loop_exit, awOps_nil, awOps_cons, awOps_guardE, nx_eq, awOp, ev_k, ev_0, ev_1, ev_2, ev_3, ev_4, ev_5, ev_6, ev_7, ev_8, set_0, set_1, set_2, set_3, set_4, set_5, set_6, set_7, set_8, -List.set_cons_succ, -List.set_cons_zero, A.ok, A.val, setSl, wrapG, guardB, getB, pickA, binA, binC, binD, cmpD, isCmp, unA, unD, lenA, AOp.total, kills, litB, FinQ, resOks, resOk, resA, resList, resOne, A.thaw, C.thaw, A.fits, As.fits, C.fits, evs, oks, callArgs, A.pure, C.pure, A.re, C.re, fieldAddrA, loadC, cut, A.cells, C.rows?, getOb, newOb, setOb, storeC, splice, Ob.re, Cs.fits, partsA, partsOk, parts2A, parts2Ok, fillC, fillRows, optInt, optOk, sliceA, clipC, optK_some, storeK_some, Option.map_some, toDs, C.toD, spliceD, appendA, capsOf, srcRows, allLen_nil_iff, allLen_cons_iff, allLen_append_iff, dropC, Obs.fits, eqCs, eqD]
  refine ⟨hf, qcall_pure (within_calls _ _ _) hf rfl ?_⟩
  cases hA : (decide (-999 ≤ a) && decide (a ≤ 999)) with
  | false => simp -implicitDefEqProofs [e1, hA, Ins.fmt, Ins.okB, aw_skip, aw_region, aw_seq, aw_block, aw_cond, aw_exit, aw_ret, kq_nil, kq_seq, kq_seq_ret, kq_seq_exit, kq_block, kq_block_ret, kq_block_exit, kq_loop, kq_loop_ret, kq_loop_exit, awOps_nil, awOps_cons, awOps_guardE, nx_eq, awOp, ev_k, ev_0, ev_1, ev_2, ev_3, ev_4, ev_5, ev_6, ev_7, ev_8, set_0, set_1, set_2, set_3, set_4, set_5, set_6, set_7, set_8, -List.set_cons_succ, -List.set_cons_zero, A.ok, A.val, setSl, wrapG, guardB, getB, pickA, binA, binC, binD, cmpD, isCmp, unA, unD, lenA, AOp.total, kills, litB, FinQ, resOks, resOk, resA, resList, resOne, A.thaw, C.thaw, A.fits, As.fits, C.fits, evs, oks, callArgs, A.pure, C.pure, A.re, C.re, fieldAddrA, loadC, cut, A.cells, C.rows?, getOb, newOb, setOb, storeC, splice, Ob.re, Cs.fits, partsA, partsOk, parts2A, parts2Ok, fillC, fillRows, optInt, optOk, sliceA, clipC, optK_some, storeK_some, Option.map_some, toDs, C.toD, spliceD, appendA, capsOf, srcRows, allLen_nil_iff, allLen_cons_iff, allLen_append_iff, dropC, Obs.fits, eqCs, eqD]
  | true =>
    simp -implicitDefEqProofs [hA, aw_skip, aw_region, aw_seq, aw_block, aw_cond, aw_exit, aw_ret, kq_nil, kq_seq, kq_seq_ret, kq_seq_exit, kq_block, kq_block_ret, kq_block_exit, kq_loop, kq_loop_ret, kq_loop_exit, awOps_nil, awOps_cons, awOps_guardE, nx_eq, awOp, ev_k, ev_0, ev_1, ev_2, ev_3, ev_4, ev_5, ev_6, ev_7, ev_8, set_0, set_1, set_2, set_3, set_4, set_5, set_6, set_7, set_8, -List.set_cons_succ, -List.set_cons_zero, A.ok, A.val, setSl, wrapG, guardB, getB, pickA, binA, binC, binD, cmpD, isCmp, unA, unD, lenA, AOp.total, kills, litB, FinQ, resOks, resOk, resA, resList, resOne, A.thaw, C.thaw, A.fits, As.fits, C.fits, evs, oks, callArgs, A.pure, C.pure, A.re, C.re, fieldAddrA, loadC, cut, A.cells, C.rows?, getOb, newOb, setOb, storeC, splice, Ob.re, Cs.fits, partsA, partsOk, parts2A, parts2Ok, fillC, fillRows, optInt, optOk, sliceA, clipC, optK_some, storeK_some, Option.map_some, toDs, C.toD, spliceD, appendA, capsOf, srcRows, allLen_nil_iff, allLen_cons_iff, allLen_append_iff, dropC, Obs.fits, eqCs, eqD]
    refine qcall_pure (within_calls _ _ _) hf rfl ?_
    cases hB : (decide (0 ≤ b) && decide (b ≤ 999)) with
    | false => simp -implicitDefEqProofs [e1, hA, hB, Ins.fmt, Ins.okB, aw_skip, aw_region, aw_seq, aw_block, aw_cond, aw_exit, aw_ret, kq_nil, kq_seq, kq_seq_ret, kq_seq_exit, kq_block, kq_block_ret, kq_block_exit, kq_loop, kq_loop_ret, kq_loop_exit, awOps_nil, awOps_cons, awOps_guardE, nx_eq, awOp, ev_k, ev_0, ev_1, ev_2, ev_3, ev_4, ev_5, ev_6, ev_7, ev_8, set_0, set_1, set_2, set_3, set_4, set_5, set_6, set_7, set_8, -List.set_cons_succ, -List.set_cons_zero, A.ok, A.val, setSl, wrapG, guardB, getB, pickA, binA, binC, binD, cmpD, isCmp, unA, unD, lenA, AOp.total, kills, litB, FinQ, resOks, resOk, resA, resList, resOne, A.thaw, C.thaw, A.fits, As.fits, C.fits, evs, oks, callArgs, A.pure, C.pure, A.re, C.re, fieldAddrA, loadC, cut, A.cells, C.rows?, getOb, newOb, setOb, storeC, splice, Ob.re, Cs.fits, partsA, partsOk, parts2A, parts2Ok, fillC, fillRows, optInt, optOk, sliceA, clipC, optK_some, storeK_some, Option.map_some, toDs, C.toD, spliceD, appendA, capsOf, srcRows, allLen_nil_iff, allLen_cons_iff, allLen_append_iff, dropC, Obs.fits, eqCs, eqD]
    | true =>
      obtain ⟨a1, a2⟩ : -999 ≤ a ∧ a ≤ 999 := by simpa using hA
      obtain ⟨b1, b2⟩ : 0 ≤ b ∧ b ≤ 999 := by simpa using hB
      simp -implicitDefEqProofs [hB, aw_skip, aw_region, aw_seq, aw_block, aw_cond, aw_exit, aw_ret, kq_nil, kq_seq, kq_seq_ret, kq_seq_exit, kq_block, kq_block_ret, kq_block_exit, kq_loop, kq_loop_ret, kq_loop_exit, awOps_nil, awOps_cons, awOps_guardE, nx_eq, awOp, ev_k, ev_0, ev_1, ev_2, ev_3, ev_4, ev_5, ev_6, ev_7, ev_8, set_0, set_1, set_2, set_3, set_4, set_5, set_6, set_7, set_8, -List.set_cons_succ, -List.set_cons_zero, A.ok, A.val, setSl, wrapG, guardB, getB, pickA, binA, binC, binD, cmpD, isCmp, unA, unD, lenA, AOp.total, kills, litB, FinQ, resOks, resOk, resA, resList, resOne, A.thaw, C.thaw, A.fits, As.fits, C.fits, evs, oks, callArgs, A.pure, C.pure, A.re, C.re, fieldAddrA, loadC, cut, A.cells, C.rows?, getOb, newOb, setOb, storeC, splice, Ob.re, Cs.fits, partsA, partsOk, parts2A, parts2Ok, fillC, fillRows, optInt, optOk, sliceA, clipC, optK_some, storeK_some, Option.map_some, toDs, C.toD, spliceD, appendA, capsOf, srcRows, allLen_nil_iff, allLen_cons_iff, allLen_append_iff, dropC, Obs.fits, eqCs, eqD]
      refine ⟨fun h0 => by first | (simp [e1, e2, e3, e4, a1, a2, b1, b2, Ins.fmt, Ins.okB, h0]; done) | (simp [e1, e2, e3, e4, a1, a2, b1, b2, Ins.fmt, Ins.okB]; intros; simp_all), ?_⟩
      intro hc; subst hc
      intro hc; subst hc
      refine qcall_tab (itoa_call hT a h2) hf hH rfl ?_
      simp -implicitDefEqProofs [maxStr, aw_skip, aw_region, aw_seq, aw_block, aw_cond, aw_exit, aw_ret, kq_nil, kq_seq, kq_seq_ret, kq_seq_exit, kq_block, kq_block_ret, kq_block_exit, kq_loop, kq_loop_ret, kq_loop_exit, awOps_nil, awOps_cons, awOps_guardE, nx_eq, awOp, ev_k, ev_0, ev_1, ev_2, ev_3, ev_4, ev_5, ev_6, ev_7, ev_8, set_0, set_1, set_2, set_3, set_4, set_5, set_6, set_7, set_8, -List.set_cons_succ, -List.set_cons_zero, A.ok, A.val, setSl, wrapG, guardB, getB, pickA, binA, binC, binD, cmpD, isCmp, unA, unD, lenA, AOp.total, kills, litB, FinQ, resOks, resOk, resA, resList, resOne, A.thaw, C.thaw, A.fits, As.fits, C.fits, evs, oks, callArgs, A.pure, C.pure, A.re, C.re, fieldAddrA, loadC, cut, A.cells, C.rows?, getOb, newOb, setOb, storeC, splice, Ob.re, Cs.fits, partsA, partsOk, parts2A, parts2Ok, fillC, fillRows, optInt, optOk, sliceA, clipC, optK_some, storeK_some, Option.map_some, toDs, C.toD, spliceD, appendA, capsOf, srcRows, allLen_nil_iff, allLen_cons_iff, allLen_append_iff, dropC, Obs.fits, eqCs, eqD]
      simp -implicitDefEqProofs [e1, e2, e3, e4, a1, a2, b1, b2, Ins.fmt, Ins.okB, aw_skip, aw_region, aw_seq, aw_block, aw_cond, aw_exit, aw_ret, kq_nil, kq_seq, kq_seq_ret, kq_seq_exit, kq_block, kq_block_ret, kq_block_exit, kq_loop, kq_loop_ret, kq_loop_exit, awOps_nil, awOps_cons, awOps_guardE, nx_eq, awOp, ev_k, ev_0, ev_1, ev_2, ev_3, ev_4, ev_5, ev_6, ev_7, ev_8, set_0, set_1, set_2, set_3, set_4, set_5, set_6, set_7, set_8, -List.set_cons_succ, -List.set_cons_zero, A.ok, A.val, setSl, wrapG, guardB, getB, pickA, binA, binC, binD, cmpD, isCmp, unA, unD, lenA, AOp.total, kills, litB, FinQ, resOks, resOk, resA, resList, resOne, A.thaw, C.thaw, A.fits, As.fits, C.fits, evs, oks, callArgs, A.pure, C.pure, A.re, C.re, fieldAddrA, loadC, cut, A.cells, C.rows?, getOb, newOb, setOb, storeC, splice, Ob.re, Cs.fits, partsA, partsOk, parts2A, parts2Ok, fillC, fillRows, optInt, optOk, sliceA, clipC, optK_some, storeK_some, Option.map_some, toDs, C.toD, spliceD, appendA, capsOf, srcRows, allLen_nil_iff, allLen_cons_iff, allLen_append_iff, dropC, Obs.fits, eqCs, eqD]
      omega
theorem fmtImpl_4 {g : Nat} {o : Obj} (hT : Tab g o) (op a b : Int) (s : List UInt8) (h1 : inR .i64 op) (h2 : inR .i64 a) (h3 : inR .i64 b) (hs : s.length ≤ 1048576) (e1 : opOk op = true) (e2 : opA op = true) (e3 : opB op = false) (e4 : opN op = true) : FmtI g o ⟨op, a, b, s⟩ := by
  intro H hH
  refine acalls Tryd.func16 (by kernel_rfl) ac16_ok fun hf => ?_
  simp -implicitDefEqProofs [ac16, Ins.row, aw_skip, aw_region, aw_seq, aw_block, aw_cond, aw_exit, aw_ret, kq_nil, kq_seq, kq_seq_ret, kq_seq_exit, kq_block, kq_block_ret, kq_block_exit, kq_loop, kq_loop_ret, kq_loop_exit, awOps_nil, awOps_cons, awOps_guardE, nx_eq, awOp, ev_k, ev_0, ev_1, ev_2, ev_3, ev_4, ev_5, ev_6, ev_7, ev_8, set_0, set_1, set_2, set_3, set_4, set_5, set_6, set_7, set_8, -List.set_cons_succ, -List.set_cons_zero, A.ok, A.val, setSl, wrapG, guardB, getB, pickA, binA, binC, binD, cmpD, isCmp, unA, unD, lenA, AOp.total, kills, litB, FinQ, resOks, resOk, resA, resList, resOne, A.thaw, C.thaw, A.fits, As.fits, C.fits, evs, oks, callArgs, A.pure, C.pure, A.re, C.re, fieldAddrA, loadC, cut, A.cells, C.rows?, getOb, newOb, setOb, storeC, splice, Ob.re, Cs.fits, partsA, partsOk, parts2A, parts2Ok, fillC, fillRows, optInt, optOk, sliceA, clipC, optK_some, storeK_some, Option.map_some, toDs, C.toD, spliceD, appendA, capsOf, srcRows, allLen_nil_iff, allLen_cons_iff, allLen_append_iff, dropC, Obs.fits, eqCs, eqD]
  refine qcall_pure (formOf_calls op) hf rfl ?_
  have hw := opWord_len op
  obtain ⟨la, lb⟩ := fmt_lens h2 h3
  simp -implicitDefEqProofs [e1, e2, e3, e4, aw_skip, aw_region, aw_seq, aw_block, aw_cond, aw_exit, aw_ret, kq_nil, kq_seq, kq_seq_ret, kq_seq_exit, kq_block, kq_block_ret, kq_block_exit, kq_loop, kq_loop_ret, kq_loop_exit, awOps_nil, awOps_cons, awOps_guardE, nx_eq, awOp, ev_k, ev_0, ev_1, ev_2, ev_3, ev_4, ev_5, ev_6, ev_7, ev_8, set_0, set_1, set_2, set_3, set_4, set_5, set_6, set_7, set_8, -List.set_cons_succ, -List.set_cons_zero, A.ok, A.val, setSl, wrapG, guardB, getB, pickA, binA, binC, binD, cmpD, isCmp, unA, unD, lenA, AOp.total, kills, litB, FinQ, resOks, resOk, resA, resList, resOne, A.thaw, C.thaw, A.fits, As.fits, C.fits, evs, oks, callArgs, A.pure, C.pure, A.re, C.re, fieldAddrA, loadC, cut, A.cells, C.rows?, getOb, newOb, setOb, storeC, splice, Ob.re, Cs.fits, partsA, partsOk, parts2A, parts2Ok, fillC, fillRows, optInt, optOk, sliceA, clipC, optK_some, storeK_some, Option.map_some, toDs, C.toD, spliceD, appendA, capsOf, srcRows, allLen_nil_iff, allLen_cons_iff, allLen_append_iff, dropC, Obs.fits, eqCs, eqD]
  refine ⟨hf, qcall_pure (within_calls _ _ _) hf rfl ?_⟩
  cases hA : (decide (-999 ≤ a) && decide (a ≤ 999)) with
  | false => simp -implicitDefEqProofs [e1, hA, Ins.fmt, Ins.okB, aw_skip, aw_region, aw_seq, aw_block, aw_cond, aw_exit, aw_ret, kq_nil, kq_seq, kq_seq_ret, kq_seq_exit, kq_block, kq_block_ret, kq_block_exit, kq_loop, kq_loop_ret, kq_loop_exit, awOps_nil, awOps_cons, awOps_guardE, nx_eq, awOp, ev_k, ev_0, ev_1, ev_2, ev_3, ev_4, ev_5, ev_6, ev_7, ev_8, set_0, set_1, set_2, set_3, set_4, set_5, set_6, set_7, set_8, -List.set_cons_succ, -List.set_cons_zero, A.ok, A.val, setSl, wrapG, guardB, getB, pickA, binA, binC, binD, cmpD, isCmp, unA, unD, lenA, AOp.total, kills, litB, FinQ, resOks, resOk, resA, resList, resOne, A.thaw, C.thaw, A.fits, As.fits, C.fits, evs, oks, callArgs, A.pure, C.pure, A.re, C.re, fieldAddrA, loadC, cut, A.cells, C.rows?, getOb, newOb, setOb, storeC, splice, Ob.re, Cs.fits, partsA, partsOk, parts2A, parts2Ok, fillC, fillRows, optInt, optOk, sliceA, clipC, optK_some, storeK_some, Option.map_some, toDs, C.toD, spliceD, appendA, capsOf, srcRows, allLen_nil_iff, allLen_cons_iff, allLen_append_iff, dropC, Obs.fits, eqCs, eqD]
  | true =>
    simp -implicitDefEqProofs [hA, aw_skip, aw_region, aw_seq, aw_block, aw_cond, aw_exit, aw_ret, kq_nil, kq_seq, kq_seq_ret, kq_seq_exit, kq_block, kq_block_ret, kq_block_exit, kq_loop, kq_loop_ret, kq_loop_exit, awOps_nil, awOps_cons, awOps_guardE, nx_eq, awOp, ev_k, ev_0, ev_1, ev_2, ev_3, ev_4, ev_5, ev_6, ev_7, ev_8, set_0, set_1, set_2, set_3, set_4, set_5, set_6, set_7, set_8, -List.set_cons_succ, -List.set_cons_zero, A.ok, A.val, setSl, wrapG, guardB, getB, pickA, binA, binC, binD, cmpD, isCmp, unA, unD, lenA, AOp.total, kills, litB, FinQ, resOks, resOk, resA, resList, resOne, A.thaw, C.thaw, A.fits, As.fits, C.fits, evs, oks, callArgs, A.pure, C.pure, A.re, C.re, fieldAddrA, loadC, cut, A.cells, C.rows?, getOb, newOb, setOb, storeC, splice, Ob.re, Cs.fits, partsA, partsOk, parts2A, parts2Ok, fillC, fillRows, optInt, optOk, sliceA, clipC, optK_some, storeK_some, Option.map_some, toDs, C.toD, spliceD, appendA, capsOf, srcRows, allLen_nil_iff, allLen_cons_iff, allLen_append_iff, dropC, Obs.fits, eqCs, eqD]
    refine qcall_pure (within_calls _ _ _) hf rfl ?_
    cases hB : (decide (0 ≤ b) && decide (b ≤ 999)) with
    | false => simp -implicitDefEqProofs [e1, hA, hB, Ins.fmt, Ins.okB, aw_skip, aw_region, aw_seq, aw_block, aw_cond, aw_exit, aw_ret, kq_nil, kq_seq, kq_seq_ret, kq_seq_exit, kq_block, kq_block_ret, kq_block_exit, kq_loop, kq_loop_ret, kq_loop_exit, awOps_nil, awOps_cons, awOps_guardE, nx_eq, awOp, ev_k, ev_0, ev_1, ev_2, ev_3, ev_4, ev_5, ev_6, ev_7, ev_8, set_0, set_1, set_2, set_3, set_4, set_5, set_6, set_7, set_8, -List.set_cons_succ, -List.set_cons_zero, A.ok, A.val, setSl, wrapG, guardB, getB, pickA, binA, binC, binD, cmpD, isCmp, unA, unD, lenA, AOp.total, kills, litB, FinQ, resOks, resOk, resA, resList, resOne, A.thaw, C.thaw, A.fits, As.fits, C.fits, evs, oks, callArgs, A.pure, C.pure, A.re, C.re, fieldAddrA, loadC, cut, A.cells, C.rows?, getOb, newOb, setOb, storeC, splice, Ob.re, Cs.fits, partsA, partsOk, parts2A, parts2Ok, fillC, fillRows, optInt, optOk, sliceA, clipC, optK_some, storeK_some, Option.map_some, toDs, C.toD, spliceD, appendA, capsOf, srcRows, allLen_nil_iff, allLen_cons_iff, allLen_append_iff, dropC, Obs.fits, eqCs, eqD]
    | true =>
      obtain ⟨a1, a2⟩ : -999 ≤ a ∧ a ≤ 999 := by simpa using hA
      obtain ⟨b1, b2⟩ : 0 ≤ b ∧ b ≤ 999 := by simpa using hB
      by_cases hb0 : b = 0
      case neg =>
        have hb1 : (b != 0) = true := by simpa using hb0
        simp -implicitDefEqProofs [hb0, hb1, e1, e2, e3, e4, a1, a2, b1, b2, Ins.fmt, Ins.okB, aw_skip, aw_region, aw_seq, aw_block, aw_cond, aw_exit, aw_ret, kq_nil, kq_seq, kq_seq_ret, kq_seq_exit, kq_block, kq_block_ret, kq_block_exit, kq_loop, kq_loop_ret, kq_loop_exit, awOps_nil, awOps_cons, awOps_guardE, nx_eq, awOp, ev_k, ev_0, ev_1, ev_2, ev_3, ev_4, ev_5, ev_6, ev_7, ev_8, set_0, set_1, set_2, set_3, set_4, set_5, set_6, set_7, set_8, -List.set_cons_succ, -List.set_cons_zero, A.ok, A.val, setSl, wrapG, guardB, getB, pickA, binA, binC, binD, cmpD, isCmp, unA, unD, lenA, AOp.total, kills, litB, FinQ, resOks, resOk, resA, resList, resOne, A.thaw, C.thaw, A.fits, As.fits, C.fits, evs, oks, callArgs, A.pure, C.pure, A.re, C.re, fieldAddrA, loadC, cut, A.cells, C.rows?, getOb, newOb, setOb, storeC, splice, Ob.re, Cs.fits, partsA, partsOk, parts2A, parts2Ok, fillC, fillRows, optInt, optOk, sliceA, clipC, optK_some, storeK_some, Option.map_some, toDs, C.toD, spliceD, appendA, capsOf, srcRows, allLen_nil_iff, allLen_cons_iff, allLen_append_iff, dropC, Obs.fits, eqCs, eqD]
      subst hb0
      simp -implicitDefEqProofs [hB, aw_skip, aw_region, aw_seq, aw_block, aw_cond, aw_exit, aw_ret, kq_nil, kq_seq, kq_seq_ret, kq_seq_exit, kq_block, kq_block_ret, kq_block_exit, kq_loop, kq_loop_ret, kq_loop_exit, awOps_nil, awOps_cons, awOps_guardE, nx_eq, awOp, ev_k, ev_0, ev_1, ev_2, ev_3, ev_4, ev_5, ev_6, ev_7, ev_8, set_0, set_1, set_2, set_3, set_4, set_5, set_6, set_7, set_8, -List.set_cons_succ, -List.set_cons_zero, A.ok, A.val, setSl, wrapG, guardB, getB, pickA, binA, binC, binD, cmpD, isCmp, unA, unD, lenA, AOp.total, kills, litB, FinQ, resOks, resOk, resA, resList, resOne, A.thaw, C.thaw, A.fits, As.fits, C.fits, evs, oks, callArgs, A.pure, C.pure, A.re, C.re, fieldAddrA, loadC, cut, A.cells, C.rows?, getOb, newOb, setOb, storeC, splice, Ob.re, Cs.fits, partsA, partsOk, parts2A, parts2Ok, fillC, fillRows, optInt, optOk, sliceA, clipC, optK_some, storeK_some, Option.map_some, toDs, C.toD, spliceD, appendA, capsOf, srcRows, allLen_nil_iff, allLen_cons_iff, allLen_append_iff, dropC, Obs.fits, eqCs, eqD]
      refine qcall_pure (nvImpl_calls s (by omega)) hf rfl ?_
      cases hn : nameB s with
      | false => simp -implicitDefEqProofs [hn, e1, e2, e3, e4, a1, a2, b1, b2, Ins.fmt, Ins.okB, aw_skip, aw_region, aw_seq, aw_block, aw_cond, aw_exit, aw_ret, kq_nil, kq_seq, kq_seq_ret, kq_seq_exit, kq_block, kq_block_ret, kq_block_exit, kq_loop, kq_loop_ret, kq_loop_exit, awOps_nil, awOps_cons, awOps_guardE, nx_eq, awOp, ev_k, ev_0, ev_1, ev_2, ev_3, ev_4, ev_5, ev_6, ev_7, ev_8, set_0, set_1, set_2, set_3, set_4, set_5, set_6, set_7, set_8, -List.set_cons_succ, -List.set_cons_zero, A.ok, A.val, setSl, wrapG, guardB, getB, pickA, binA, binC, binD, cmpD, isCmp, unA, unD, lenA, AOp.total, kills, litB, FinQ, resOks, resOk, resA, resList, resOne, A.thaw, C.thaw, A.fits, As.fits, C.fits, evs, oks, callArgs, A.pure, C.pure, A.re, C.re, fieldAddrA, loadC, cut, A.cells, C.rows?, getOb, newOb, setOb, storeC, splice, Ob.re, Cs.fits, partsA, partsOk, parts2A, parts2Ok, fillC, fillRows, optInt, optOk, sliceA, clipC, optK_some, storeK_some, Option.map_some, toDs, C.toD, spliceD, appendA, capsOf, srcRows, allLen_nil_iff, allLen_cons_iff, allLen_append_iff, dropC, Obs.fits, eqCs, eqD]
      | true =>
        simp -implicitDefEqProofs [hn, aw_skip, aw_region, aw_seq, aw_block, aw_cond, aw_exit, aw_ret, kq_nil, kq_seq, kq_seq_ret, kq_seq_exit, kq_block, kq_block_ret, kq_block_exit, kq_loop, kq_loop_ret, kq_loop_exit, awOps_nil, awOps_cons, awOps_guardE, nx_eq, awOp, ev_k, ev_0, ev_1, ev_2, ev_3, ev_4, ev_5, ev_6, ev_7, ev_8, set_0, set_1, set_2, set_3, set_4, set_5, set_6, set_7, set_8, -List.set_cons_succ, -List.set_cons_zero, A.ok, A.val, setSl, wrapG, guardB, getB, pickA, binA, binC, binD, cmpD, isCmp, unA, unD, lenA, AOp.total, kills, litB, FinQ, resOks, resOk, resA, resList, resOne, A.thaw, C.thaw, A.fits, As.fits, C.fits, evs, oks, callArgs, A.pure, C.pure, A.re, C.re, fieldAddrA, loadC, cut, A.cells, C.rows?, getOb, newOb, setOb, storeC, splice, Ob.re, Cs.fits, partsA, partsOk, parts2A, parts2Ok, fillC, fillRows, optInt, optOk, sliceA, clipC, optK_some, storeK_some, Option.map_some, toDs, C.toD, spliceD, appendA, capsOf, srcRows, allLen_nil_iff, allLen_cons_iff, allLen_append_iff, dropC, Obs.fits, eqCs, eqD]
        refine qcall_tab (itoa_call hT a h2) hf hH rfl ?_
        simp -implicitDefEqProofs [maxStr, aw_skip, aw_region, aw_seq, aw_block, aw_cond, aw_exit, aw_ret, kq_nil, kq_seq, kq_seq_ret, kq_seq_exit, kq_block, kq_block_ret, kq_block_exit, kq_loop, kq_loop_ret, kq_loop_exit, awOps_nil, awOps_cons, awOps_guardE, nx_eq, awOp, ev_k, ev_0, ev_1, ev_2, ev_3, ev_4, ev_5, ev_6, ev_7, ev_8, set_0, set_1, set_2, set_3, set_4, set_5, set_6, set_7, set_8, -List.set_cons_succ, -List.set_cons_zero, A.ok, A.val, setSl, wrapG, guardB, getB, pickA, binA, binC, binD, cmpD, isCmp, unA, unD, lenA, AOp.total, kills, litB, FinQ, resOks, resOk, resA, resList, resOne, A.thaw, C.thaw, A.fits, As.fits, C.fits, evs, oks, callArgs, A.pure, C.pure, A.re, C.re, fieldAddrA, loadC, cut, A.cells, C.rows?, getOb, newOb, setOb, storeC, splice, Ob.re, Cs.fits, partsA, partsOk, parts2A, parts2Ok, fillC, fillRows, optInt, optOk, sliceA, clipC, optK_some, storeK_some, Option.map_some, toDs, C.toD, spliceD, appendA, capsOf, srcRows, allLen_nil_iff, allLen_cons_iff, allLen_append_iff, dropC, Obs.fits, eqCs, eqD]
        simp -implicitDefEqProofs [hn, e1, e2, e3, e4, a1, a2, b1, b2, Ins.fmt, Ins.okB, aw_skip, aw_region, aw_seq, aw_block, aw_cond, aw_exit, aw_ret, kq_nil, kq_seq, kq_seq_ret, kq_seq_exit, kq_block, kq_block_ret, kq_block_exit, kq_loop, kq_loop_ret, kq_loop_exit, awOps_nil, awOps_cons, awOps_guardE, nx_eq, awOp, ev_k, ev_0, ev_1, ev_2, ev_3, ev_4, ev_5, ev_6, ev_7, ev_8, set_0, set_1, set_2, set_3, set_4, set_5, set_6, set_7, set_8, -List.set_cons_succ, -List.set_cons_zero, A.ok, A.val, setSl, wrapG, guardB, getB, pickA, binA, binC, binD, cmpD, isCmp, unA, unD, lenA, AOp.total, kills, litB, FinQ, resOks, resOk, resA, resList, resOne, A.thaw, C.thaw, A.fits, As.fits, C.fits, evs, oks, callArgs, A.pure, C.pure, A.re, C.re, fieldAddrA, loadC, cut, A.cells, C.rows?, getOb, newOb, setOb, storeC, splice, Ob.re, Cs.fits, partsA, partsOk, parts2A, parts2Ok, fillC, fillRows, optInt, optOk, sliceA, clipC, optK_some, storeK_some, Option.map_some, toDs, C.toD, spliceD, appendA, capsOf, srcRows, allLen_nil_iff, allLen_cons_iff, allLen_append_iff, dropC, Obs.fits, eqCs, eqD]
        omega
theorem fmtImpl_5 {g : Nat} {o : Obj} (hT : Tab g o) (op a b : Int) (s : List UInt8) (h1 : inR .i64 op) (h2 : inR .i64 a) (h3 : inR .i64 b) (hs : s.length ≤ 1048576) (e1 : opOk op = true) (e2 : opA op = false) (e3 : opB op = false) (e4 : opN op = false) : FmtI g o ⟨op, a, b, s⟩ := by
  intro H hH
  refine acalls Tryd.func16 (by kernel_rfl) ac16_ok fun hf => ?_
  simp -implicitDefEqProofs [ac16, Ins.row, aw_skip, aw_region, aw_seq, aw_block, aw_cond, aw_exit, aw_ret, kq_nil, kq_seq, kq_seq_ret, kq_seq_exit, kq_block, kq_block_ret, kq_block_exit, kq_loop, kq_loop_ret, kq_loop_exit, awOps_nil, awOps_cons, awOps_guardE, nx_eq, awOp, ev_k, ev_0, ev_1, ev_2, ev_3, ev_4, ev_5, ev_6, ev_7, ev_8, set_0, set_1, set_2, set_3, set_4, set_5, set_6, set_7, set_8, -List.set_cons_succ, -List.set_cons_zero, A.ok, A.val, setSl, wrapG, guardB, getB, pickA, binA, binC, binD, cmpD, isCmp, unA, unD, lenA, AOp.total, kills, litB, FinQ, resOks, resOk, resA, resList, resOne, A.thaw, C.thaw, A.fits, As.fits, C.fits, evs, oks, callArgs, A.pure, C.pure, A.re, C.re, fieldAddrA, loadC, cut, A.cells, C.rows?, getOb, newOb, setOb, storeC, splice, Ob.re, Cs.fits, partsA, partsOk, parts2A, parts2Ok, fillC, fillRows, optInt, optOk, sliceA, clipC, optK_some, storeK_some, Option.map_some, toDs, C.toD, spliceD, appendA, capsOf, srcRows, allLen_nil_iff, allLen_cons_iff, allLen_append_iff, dropC, Obs.fits, eqCs, eqD]
  refine qcall_pure (formOf_calls op) hf rfl ?_
  have hw := opWord_len op
  obtain ⟨la, lb⟩ := fmt_lens h2 h3
  simp -implicitDefEqProofs [e1, e2, e3, e4, aw_skip, aw_region, aw_seq, aw_block, aw_cond, aw_exit, aw_ret, kq_nil, kq_seq, kq_seq_ret, kq_seq_exit, kq_block, kq_block_ret, kq_block_exit, kq_loop, kq_loop_ret, kq_loop_exit, awOps_nil, awOps_cons, awOps_guardE, nx_eq, awOp, ev_k, ev_0, ev_1, ev_2, ev_3, ev_4, ev_5, ev_6, ev_7, ev_8, set_0, set_1, set_2, set_3, set_4, set_5, set_6, set_7, set_8, -List.set_cons_succ, -List.set_cons_zero, A.ok, A.val, setSl, wrapG, guardB, getB, pickA, binA, binC, binD, cmpD, isCmp, unA, unD, lenA, AOp.total, kills, litB, FinQ, resOks, resOk, resA, resList, resOne, A.thaw, C.thaw, A.fits, As.fits, C.fits, evs, oks, callArgs, A.pure, C.pure, A.re, C.re, fieldAddrA, loadC, cut, A.cells, C.rows?, getOb, newOb, setOb, storeC, splice, Ob.re, Cs.fits, partsA, partsOk, parts2A, parts2Ok, fillC, fillRows, optInt, optOk, sliceA, clipC, optK_some, storeK_some, Option.map_some, toDs, C.toD, spliceD, appendA, capsOf, srcRows, allLen_nil_iff, allLen_cons_iff, allLen_append_iff, dropC, Obs.fits, eqCs, eqD]
  refine ⟨hf, qcall_pure (within_calls _ _ _) hf rfl ?_⟩
  cases hA : (decide (-999 ≤ a) && decide (a ≤ 999)) with
  | false => simp -implicitDefEqProofs [e1, hA, Ins.fmt, Ins.okB, aw_skip, aw_region, aw_seq, aw_block, aw_cond, aw_exit, aw_ret, kq_nil, kq_seq, kq_seq_ret, kq_seq_exit, kq_block, kq_block_ret, kq_block_exit, kq_loop, kq_loop_ret, kq_loop_exit, awOps_nil, awOps_cons, awOps_guardE, nx_eq, awOp, ev_k, ev_0, ev_1, ev_2, ev_3, ev_4, ev_5, ev_6, ev_7, ev_8, set_0, set_1, set_2, set_3, set_4, set_5, set_6, set_7, set_8, -List.set_cons_succ, -List.set_cons_zero, A.ok, A.val, setSl, wrapG, guardB, getB, pickA, binA, binC, binD, cmpD, isCmp, unA, unD, lenA, AOp.total, kills, litB, FinQ, resOks, resOk, resA, resList, resOne, A.thaw, C.thaw, A.fits, As.fits, C.fits, evs, oks, callArgs, A.pure, C.pure, A.re, C.re, fieldAddrA, loadC, cut, A.cells, C.rows?, getOb, newOb, setOb, storeC, splice, Ob.re, Cs.fits, partsA, partsOk, parts2A, parts2Ok, fillC, fillRows, optInt, optOk, sliceA, clipC, optK_some, storeK_some, Option.map_some, toDs, C.toD, spliceD, appendA, capsOf, srcRows, allLen_nil_iff, allLen_cons_iff, allLen_append_iff, dropC, Obs.fits, eqCs, eqD]
  | true =>
    simp -implicitDefEqProofs [hA, aw_skip, aw_region, aw_seq, aw_block, aw_cond, aw_exit, aw_ret, kq_nil, kq_seq, kq_seq_ret, kq_seq_exit, kq_block, kq_block_ret, kq_block_exit, kq_loop, kq_loop_ret, kq_loop_exit, awOps_nil, awOps_cons, awOps_guardE, nx_eq, awOp, ev_k, ev_0, ev_1, ev_2, ev_3, ev_4, ev_5, ev_6, ev_7, ev_8, set_0, set_1, set_2, set_3, set_4, set_5, set_6, set_7, set_8, -List.set_cons_succ, -List.set_cons_zero, A.ok, A.val, setSl, wrapG, guardB, getB, pickA, binA, binC, binD, cmpD, isCmp, unA, unD, lenA, AOp.total, kills, litB, FinQ, resOks, resOk, resA, resList, resOne, A.thaw, C.thaw, A.fits, As.fits, C.fits, evs, oks, callArgs, A.pure, C.pure, A.re, C.re, fieldAddrA, loadC, cut, A.cells, C.rows?, getOb, newOb, setOb, storeC, splice, Ob.re, Cs.fits, partsA, partsOk, parts2A, parts2Ok, fillC, fillRows, optInt, optOk, sliceA, clipC, optK_some, storeK_some, Option.map_some, toDs, C.toD, spliceD, appendA, capsOf, srcRows, allLen_nil_iff, allLen_cons_iff, allLen_append_iff, dropC, Obs.fits, eqCs, eqD]
    refine qcall_pure (within_calls _ _ _) hf rfl ?_
    cases hB : (decide (0 ≤ b) && decide (b ≤ 999)) with
    | false => simp -implicitDefEqProofs [e1, hA, hB, Ins.fmt, Ins.okB, aw_skip, aw_region, aw_seq, aw_block, aw_cond, aw_exit, aw_ret, kq_nil, kq_seq, kq_seq_ret, kq_seq_exit, kq_block, kq_block_ret, kq_block_exit, kq_loop, kq_loop_ret, kq_loop_exit, awOps_nil, awOps_cons, awOps_guardE, nx_eq, awOp, ev_k, ev_0, ev_1, ev_2, ev_3, ev_4, ev_5, ev_6, ev_7, ev_8, set_0, set_1, set_2, set_3, set_4, set_5, set_6, set_7, set_8, -List.set_cons_succ, -List.set_cons_zero, A.ok, A.val, setSl, wrapG, guardB, getB, pickA, binA, binC, binD, cmpD, isCmp, unA, unD, lenA, AOp.total, kills, litB, FinQ, resOks, resOk, resA, resList, resOne, A.thaw, C.thaw, A.fits, As.fits, C.fits, evs, oks, callArgs, A.pure, C.pure, A.re, C.re, fieldAddrA, loadC, cut, A.cells, C.rows?, getOb, newOb, setOb, storeC, splice, Ob.re, Cs.fits, partsA, partsOk, parts2A, parts2Ok, fillC, fillRows, optInt, optOk, sliceA, clipC, optK_some, storeK_some, Option.map_some, toDs, C.toD, spliceD, appendA, capsOf, srcRows, allLen_nil_iff, allLen_cons_iff, allLen_append_iff, dropC, Obs.fits, eqCs, eqD]
    | true =>
      obtain ⟨a1, a2⟩ : -999 ≤ a ∧ a ≤ 999 := by simpa using hA
      obtain ⟨b1, b2⟩ : 0 ≤ b ∧ b ≤ 999 := by simpa using hB
      simp -implicitDefEqProofs [hB, aw_skip, aw_region, aw_seq, aw_block, aw_cond, aw_exit, aw_ret, kq_nil, kq_seq, kq_seq_ret, kq_seq_exit, kq_block, kq_block_ret, kq_block_exit, kq_loop, kq_loop_ret, kq_loop_exit, awOps_nil, awOps_cons, awOps_guardE, nx_eq, awOp, ev_k, ev_0, ev_1, ev_2, ev_3, ev_4, ev_5, ev_6, ev_7, ev_8, set_0, set_1, set_2, set_3, set_4, set_5, set_6, set_7, set_8, -List.set_cons_succ, -List.set_cons_zero, A.ok, A.val, setSl, wrapG, guardB, getB, pickA, binA, binC, binD, cmpD, isCmp, unA, unD, lenA, AOp.total, kills, litB, FinQ, resOks, resOk, resA, resList, resOne, A.thaw, C.thaw, A.fits, As.fits, C.fits, evs, oks, callArgs, A.pure, C.pure, A.re, C.re, fieldAddrA, loadC, cut, A.cells, C.rows?, getOb, newOb, setOb, storeC, splice, Ob.re, Cs.fits, partsA, partsOk, parts2A, parts2Ok, fillC, fillRows, optInt, optOk, sliceA, clipC, optK_some, storeK_some, Option.map_some, toDs, C.toD, spliceD, appendA, capsOf, srcRows, allLen_nil_iff, allLen_cons_iff, allLen_append_iff, dropC, Obs.fits, eqCs, eqD]
      refine ⟨fun h0 => by first | (simp [e1, e2, e3, e4, a1, a2, b1, b2, Ins.fmt, Ins.okB, h0]; done) | (simp [e1, e2, e3, e4, a1, a2, b1, b2, Ins.fmt, Ins.okB]; intros; simp_all), ?_⟩
      intro hc; subst hc
      intro hc; subst hc
      intro hc; subst hc
      simp [e1, e2, e3, e4, a1, a2, b1, b2, Ins.fmt, Ins.okB]
theorem fmtImpl_calls {g : Nat} {o : Obj} (hT : Tab g o) (x : Ins) (hx : x.ok) (hs : x.text.length ≤ 1048576) : FmtI g o x := by
  obtain ⟨op, a, b, s⟩ := x
  obtain ⟨h1, h2, h3, h4⟩ := hx
  rcases op_bits op with ⟨e1, e2, e3, e4⟩ | ⟨e1, e2, e3, e4⟩ | ⟨e1, e2, e3, e4⟩ | ⟨e1, e2, e3, e4⟩ | ⟨e1, e2, e3, e4⟩ | ⟨e1, e2, e3, e4⟩
  · exact fmtImpl_0 hT op a b s h1 h2 h3 hs e1 e2 e3 e4
  · exact fmtImpl_1 hT op a b s h1 h2 h3 hs e1 e2 e3 e4
  · exact fmtImpl_2 hT op a b s h1 h2 h3 hs e1 e2 e3 e4
  · exact fmtImpl_3 hT op a b s h1 h2 h3 hs e1 e2 e3 e4
  · exact fmtImpl_4 hT op a b s h1 h2 h3 hs e1 e2 e3 e4
  · exact fmtImpl_5 hT op a b s h1 h2 h3 hs e1 e2 e3 e4
end Go.Proofs.YtdjbahilmcokeaaDoor
