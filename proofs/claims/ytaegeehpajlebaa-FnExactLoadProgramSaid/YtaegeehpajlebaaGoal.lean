/-
  Goals: which terms are goals, for the program and for the reference.
  Conditions: none.
-/
import Derived.Test.YtaegeehpajlebaaAtom
import Derived.Test.YtaegeehpajlebaaValid2
open Go Go.AM Go.Proofs
namespace Go.Proofs.Ytaegeehpajlebaa
open Go.ChangeShapes Go.WideShapes Go.ChangeAt Go.RowKit
set_option linter.unusedVariables false
set_option linter.unusedSimpArgs false
set_option maxRecDepth 100000
-- 120 loop.example/prologserver/impl.OpLevel params 1 ntmps 22
def ac120 : Cd := .seq (.region [⟨(some 2), .mv (.k (.c (.d (.int .i64 0)))), none⟩,
      ⟨(some 3), .mv (.k (.c (.d (.bool false)))), none⟩] [2, 3])
  (.seq (.seq (.region [⟨(some 4), .mv (.t 0), none⟩] [0])
    (.block 0 (.seq (.seq (.region [⟨(some 6), .bin .eql (.t 4) (.k (.c (.d (.str [61])))), none⟩,
            ⟨(some 5), .mv (.t 6), none⟩] [6])
        (.cond (.t 5)
          (.skip)
          (.seq (.region [⟨(some 7), .bin .eql (.t 4) (.k (.c (.d (.str [92, 61])))), none⟩,
              ⟨(some 5), .mv (.t 7), none⟩] [7])
          (.cond (.t 5)
            (.skip)
            (.seq (.region [⟨(some 8), .bin .eql (.t 4) (.k (.c (.d (.str [61, 61])))), none⟩,
                ⟨(some 5), .mv (.t 8), none⟩] [8])
            (.cond (.t 5)
              (.skip)
              (.seq (.region [⟨(some 9), .bin .eql (.t 4) (.k (.c (.d (.str [60])))), none⟩,
                  ⟨(some 5), .mv (.t 9), none⟩] [9])
              (.cond (.t 5)
                (.skip)
                (.seq (.region [⟨(some 10), .bin .eql (.t 4) (.k (.c (.d (.str [62])))), none⟩,
                    ⟨(some 5), .mv (.t 10), none⟩] [10])
                (.cond (.t 5)
                  (.skip)
                  (.seq (.region [⟨(some 11), .bin .eql (.t 4) (.k (.c (.d (.str [61, 60])))), none⟩,
                      ⟨(some 5), .mv (.t 11), none⟩] [11])
                  (.cond (.t 5)
                    (.skip)
                    (.seq (.region [⟨(some 12), .bin .eql (.t 4) (.k (.c (.d (.str [62, 61])))), none⟩,
                        ⟨(some 5), .mv (.t 12), none⟩] [12])
                    (.cond (.t 5)
                      (.skip)
                      (.seq (.region [⟨(some 13), .bin .eql (.t 4) (.k (.c (.d (.str [61, 58, 61])))), none⟩,
                          ⟨(some 5), .mv (.t 13), none⟩] [13])
                      (.cond (.t 5)
                        (.skip)
                        (.region [⟨(some 14), .bin .eql (.t 4) (.k (.c (.d (.str [105, 115])))), none⟩,
                          ⟨(some 5), .mv (.t 14), none⟩] [14])))))))))))))))))
      (.cond (.t 5)
        (.seq (.region [⟨(some 2), .mv (.k (.c (.d (.int .i64 3)))), none⟩,
            ⟨(some 3), .mv (.k (.c (.d (.bool false)))), none⟩] [4, 5])
        (.ret))
        (.seq (.seq (.region [⟨(some 16), .bin .eql (.t 4) (.k (.c (.d (.str [43])))), none⟩,
              ⟨(some 15), .mv (.t 16), none⟩] [5, 16])
          (.cond (.t 15)
            (.skip)
            (.region [⟨(some 17), .bin .eql (.t 4) (.k (.c (.d (.str [45])))), none⟩,
              ⟨(some 15), .mv (.t 17), none⟩] [17])))
        (.cond (.t 15)
          (.seq (.region [⟨(some 2), .mv (.k (.c (.d (.int .i64 2)))), none⟩,
              ⟨(some 3), .mv (.k (.c (.d (.bool true)))), none⟩] [4, 15])
          (.ret))
          (.seq (.seq (.region [⟨(some 19), .bin .eql (.t 4) (.k (.c (.d (.str [42])))), none⟩,
                ⟨(some 18), .mv (.t 19), none⟩] [15, 19])
            (.cond (.t 18)
              (.skip)
              (.seq (.region [⟨(some 20), .bin .eql (.t 4) (.k (.c (.d (.str [47, 47])))), none⟩,
                  ⟨(some 18), .mv (.t 20), none⟩] [20])
              (.cond (.t 18)
                (.skip)
                (.region [⟨(some 21), .bin .eql (.t 4) (.k (.c (.d (.str [109, 111, 100])))), none⟩,
                  ⟨(some 18), .mv (.t 21), none⟩] [4, 21])))))
          (.cond (.t 18)
            (.seq (.region [⟨(some 2), .mv (.k (.c (.d (.int .i64 1)))), none⟩,
                ⟨(some 3), .mv (.k (.c (.d (.bool true)))), none⟩] [4, 18])
            (.ret))
            (.skip)))))))))
  (.seq (.region [⟨(some 2), .mv (.k (.c (.d (.int .i64 0)))), none⟩,
      ⟨(some 3), .mv (.k (.c (.d (.bool false)))), none⟩] [4, 18])
  (.ret)))
theorem ac120_ok : cFunc Try.prog [] [(0, [2, 3], []), (1, [0], []), (2, [6], []), (3, [7], []), (4, [8], []), (5, [9], []), (6, [10], []), (7, [11], []), (8, [12], []), (9, [13], []), (10, [14], []), (11, [4, 5], []), (12, [5, 16], []), (13, [17], []), (14, [4, 15], []), (15, [15, 19], []), (16, [20], []), (17, [4, 21], []), (18, [4, 18], []), (19, [4, 18], [])] Try.f120 = some (ac120, [.tmp 2, .tmp 3], 22) := by kernel_rfl
-- 106 loop.example/prologserver/spec.l2Level params 1 ntmps 21
def ac106 : Cd := .seq (.region [⟨(some 2), .mv (.k (.c (.d (.int .i64 0)))), none⟩] [2])
  (.seq (.seq (.region [⟨(some 3), .mv (.t 0), none⟩] [0])
    (.block 0 (.seq (.seq (.region [⟨(some 5), .bin .eql (.t 3) (.k (.c (.d (.str [61])))), none⟩,
            ⟨(some 4), .mv (.t 5), none⟩] [5])
        (.cond (.t 4)
          (.skip)
          (.seq (.region [⟨(some 6), .bin .eql (.t 3) (.k (.c (.d (.str [92, 61])))), none⟩,
              ⟨(some 4), .mv (.t 6), none⟩] [6])
          (.cond (.t 4)
            (.skip)
            (.seq (.region [⟨(some 7), .bin .eql (.t 3) (.k (.c (.d (.str [61, 61])))), none⟩,
                ⟨(some 4), .mv (.t 7), none⟩] [7])
            (.cond (.t 4)
              (.skip)
              (.seq (.region [⟨(some 8), .bin .eql (.t 3) (.k (.c (.d (.str [60])))), none⟩,
                  ⟨(some 4), .mv (.t 8), none⟩] [8])
              (.cond (.t 4)
                (.skip)
                (.seq (.region [⟨(some 9), .bin .eql (.t 3) (.k (.c (.d (.str [62])))), none⟩,
                    ⟨(some 4), .mv (.t 9), none⟩] [9])
                (.cond (.t 4)
                  (.skip)
                  (.seq (.region [⟨(some 10), .bin .eql (.t 3) (.k (.c (.d (.str [61, 60])))), none⟩,
                      ⟨(some 4), .mv (.t 10), none⟩] [10])
                  (.cond (.t 4)
                    (.skip)
                    (.seq (.region [⟨(some 11), .bin .eql (.t 3) (.k (.c (.d (.str [62, 61])))), none⟩,
                        ⟨(some 4), .mv (.t 11), none⟩] [11])
                    (.cond (.t 4)
                      (.skip)
                      (.seq (.region [⟨(some 12), .bin .eql (.t 3) (.k (.c (.d (.str [61, 58, 61])))), none⟩,
                          ⟨(some 4), .mv (.t 12), none⟩] [12])
                      (.cond (.t 4)
                        (.skip)
                        (.region [⟨(some 13), .bin .eql (.t 3) (.k (.c (.d (.str [105, 115])))), none⟩,
                          ⟨(some 4), .mv (.t 13), none⟩] [13])))))))))))))))))
      (.cond (.t 4)
        (.seq (.region [⟨(some 2), .mv (.k (.c (.d (.int .i64 3)))), none⟩] [3, 4])
        (.ret))
        (.seq (.seq (.region [⟨(some 15), .bin .eql (.t 3) (.k (.c (.d (.str [43])))), none⟩,
              ⟨(some 14), .mv (.t 15), none⟩] [4, 15])
          (.cond (.t 14)
            (.skip)
            (.region [⟨(some 16), .bin .eql (.t 3) (.k (.c (.d (.str [45])))), none⟩,
              ⟨(some 14), .mv (.t 16), none⟩] [16])))
        (.cond (.t 14)
          (.seq (.region [⟨(some 2), .mv (.k (.c (.d (.int .i64 2)))), none⟩] [3, 14])
          (.ret))
          (.seq (.seq (.region [⟨(some 18), .bin .eql (.t 3) (.k (.c (.d (.str [42])))), none⟩,
                ⟨(some 17), .mv (.t 18), none⟩] [14, 18])
            (.cond (.t 17)
              (.skip)
              (.seq (.region [⟨(some 19), .bin .eql (.t 3) (.k (.c (.d (.str [47, 47])))), none⟩,
                  ⟨(some 17), .mv (.t 19), none⟩] [19])
              (.cond (.t 17)
                (.skip)
                (.region [⟨(some 20), .bin .eql (.t 3) (.k (.c (.d (.str [109, 111, 100])))), none⟩,
                  ⟨(some 17), .mv (.t 20), none⟩] [3, 20])))))
          (.cond (.t 17)
            (.seq (.region [⟨(some 2), .mv (.k (.c (.d (.int .i64 1)))), none⟩] [3, 17])
            (.ret))
            (.skip)))))))))
  (.seq (.region [⟨(some 2), .mv (.k (.c (.d (.int .i64 0)))), none⟩] [3, 17])
  (.ret)))
theorem ac106_ok : cFunc Try.prog [] [(0, [2], []), (1, [0], []), (2, [5], []), (3, [6], []), (4, [7], []), (5, [8], []), (6, [9], []), (7, [10], []), (8, [11], []), (9, [12], []), (10, [13], []), (11, [3, 4], []), (12, [4, 15], []), (13, [16], []), (14, [3, 14], []), (15, [14, 18], []), (16, [19], []), (17, [3, 20], []), (18, [3, 17], []), (19, [3, 17], [])] Try.f106 = some (ac106, [.tmp 2], 21) := by kernel_rfl
-- 110 loop.example/prologserver/impl.isOp params 1 ntmps 12
def ac110 : Cd := .seq (.region [⟨(some 2), .mv (.k (.c (.d (.bool false)))), none⟩] [2])
  (.seq (.region [⟨(some 6), .mv (.t 0), none⟩,
      ⟨(some 7), .qcall 120 [(.t 6)], none⟩,
      ⟨(some 5), .mv (.t 7), none⟩,
      ⟨(some 8), .extract 0 (.t 5), none⟩,
      ⟨(some 9), .extract 1 (.t 5), none⟩,
      ⟨(some 3), .mv (.t 8), none⟩,
      ⟨(some 4), .mv (.t 9), none⟩] [0, 4, 5, 6, 7, 8, 9])
  (.seq (.region [⟨(some 10), .mv (.t 3), none⟩,
      ⟨(some 11), .bin .gtr (.t 10) (.k (.c (.d (.int .i64 0)))), none⟩,
      ⟨(some 2), .mv (.t 11), none⟩] [3, 10, 11])
  (.ret)))
theorem ac110_ok : cFunc Try.prog [1000120] [(0, [2], []), (1, [0, 4, 5, 6, 7, 8, 9], []), (2, [3, 10, 11], [])] Try.f110 = some (ac110, [.tmp 2], 12) := by kernel_rfl
-- 119 loop.example/prologserver/impl.IsBuiltin params 2 ntmps 34
def ac119 : Cd := .seq (.region [⟨(some 4), .mv (.k (.c (.d (.bool false)))), none⟩] [4])
  (.seq (.seq (.region [⟨(some 5), .mv (.t 0), none⟩] [0])
    (.block 0 (.seq (.seq (.region [⟨(some 7), .bin .eql (.t 5) (.k (.c (.d (.str [61])))), none⟩,
            ⟨(some 6), .mv (.t 7), none⟩] [7])
        (.cond (.t 6)
          (.skip)
          (.seq (.region [⟨(some 8), .bin .eql (.t 5) (.k (.c (.d (.str [92, 61])))), none⟩,
              ⟨(some 6), .mv (.t 8), none⟩] [8])
          (.cond (.t 6)
            (.skip)
            (.seq (.region [⟨(some 9), .bin .eql (.t 5) (.k (.c (.d (.str [61, 61])))), none⟩,
                ⟨(some 6), .mv (.t 9), none⟩] [9])
            (.cond (.t 6)
              (.skip)
              (.seq (.region [⟨(some 10), .bin .eql (.t 5) (.k (.c (.d (.str [60])))), none⟩,
                  ⟨(some 6), .mv (.t 10), none⟩] [10])
              (.cond (.t 6)
                (.skip)
                (.seq (.region [⟨(some 11), .bin .eql (.t 5) (.k (.c (.d (.str [62])))), none⟩,
                    ⟨(some 6), .mv (.t 11), none⟩] [11])
                (.cond (.t 6)
                  (.skip)
                  (.seq (.region [⟨(some 12), .bin .eql (.t 5) (.k (.c (.d (.str [61, 60])))), none⟩,
                      ⟨(some 6), .mv (.t 12), none⟩] [12])
                  (.cond (.t 6)
                    (.skip)
                    (.seq (.region [⟨(some 13), .bin .eql (.t 5) (.k (.c (.d (.str [62, 61])))), none⟩,
                        ⟨(some 6), .mv (.t 13), none⟩] [13])
                    (.cond (.t 6)
                      (.skip)
                      (.seq (.region [⟨(some 14), .bin .eql (.t 5) (.k (.c (.d (.str [61, 58, 61])))), none⟩,
                          ⟨(some 6), .mv (.t 14), none⟩] [14])
                      (.cond (.t 6)
                        (.skip)
                        (.region [⟨(some 15), .bin .eql (.t 5) (.k (.c (.d (.str [105, 115])))), none⟩,
                          ⟨(some 6), .mv (.t 15), none⟩] [15])))))))))))))))))
      (.cond (.t 6)
        (.seq (.region [⟨(some 16), .mv (.t 1), none⟩,
            ⟨(some 17), .bin .eql (.t 16) (.k (.c (.d (.int .i64 2)))), none⟩,
            ⟨(some 4), .mv (.t 17), none⟩] [1, 5, 6, 16, 17])
        (.ret))
        (.seq (.seq (.region [⟨(some 19), .bin .eql (.t 5) (.k (.c (.d (.str [116, 114, 117, 101])))), none⟩,
              ⟨(some 18), .mv (.t 19), none⟩] [6, 19])
          (.cond (.t 18)
            (.skip)
            (.region [⟨(some 20), .bin .eql (.t 5) (.k (.c (.d (.str [102, 97, 105, 108])))), none⟩,
              ⟨(some 18), .mv (.t 20), none⟩] [20])))
        (.cond (.t 18)
          (.seq (.region [⟨(some 21), .mv (.t 1), none⟩,
              ⟨(some 22), .bin .eql (.t 21) (.k (.c (.d (.int .i64 0)))), none⟩,
              ⟨(some 4), .mv (.t 22), none⟩] [1, 5, 18, 21, 22])
          (.ret))
          (.seq (.seq (.region [⟨(some 24), .bin .eql (.t 5) (.k (.c (.d (.str [118, 97, 114])))), none⟩,
                ⟨(some 23), .mv (.t 24), none⟩] [18, 24])
            (.cond (.t 23)
              (.skip)
              (.seq (.region [⟨(some 25), .bin .eql (.t 5) (.k (.c (.d (.str [110, 111, 110, 118, 97, 114])))), none⟩,
                  ⟨(some 23), .mv (.t 25), none⟩] [25])
              (.cond (.t 23)
                (.skip)
                (.seq (.region [⟨(some 26), .bin .eql (.t 5) (.k (.c (.d (.str [97, 116, 111, 109])))), none⟩,
                    ⟨(some 23), .mv (.t 26), none⟩] [26])
                (.cond (.t 23)
                  (.skip)
                  (.region [⟨(some 27), .bin .eql (.t 5) (.k (.c (.d (.str [105, 110, 116])))), none⟩,
                    ⟨(some 23), .mv (.t 27), none⟩] [27])))))))
          (.cond (.t 23)
            (.seq (.region [⟨(some 28), .mv (.t 1), none⟩,
                ⟨(some 29), .bin .eql (.t 28) (.k (.c (.d (.int .i64 1)))), none⟩,
                ⟨(some 4), .mv (.t 29), none⟩] [1, 5, 23, 28, 29])
            (.ret))
            (.seq (.region [⟨(some 31), .bin .eql (.t 5) (.k (.c (.d (.str [97, 114, 103])))), none⟩,
                ⟨(some 30), .mv (.t 31), none⟩] [5, 23, 31])
            (.cond (.t 30)
              (.seq (.region [⟨(some 32), .mv (.t 1), none⟩,
                  ⟨(some 33), .bin .eql (.t 32) (.k (.c (.d (.int .i64 3)))), none⟩,
                  ⟨(some 4), .mv (.t 33), none⟩] [1, 30, 32, 33])
              (.ret))
              (.skip)))))))))))
  (.seq (.region [⟨(some 4), .mv (.k (.c (.d (.bool false)))), none⟩] [1, 30])
  (.ret)))
theorem ac119_ok : cFunc Try.prog [] [(0, [4], []), (1, [0], []), (2, [7], []), (3, [8], []), (4, [9], []), (5, [10], []), (6, [11], []), (7, [12], []), (8, [13], []), (9, [14], []), (10, [15], []), (11, [1, 5, 6, 16, 17], []), (12, [6, 19], []), (13, [20], []), (14, [1, 5, 18, 21, 22], []), (15, [18, 24], []), (16, [25], []), (17, [26], []), (18, [27], []), (19, [1, 5, 23, 28, 29], []), (20, [5, 23, 31], []), (21, [1, 30, 32, 33], []), (22, [1, 30], [])] Try.f119 = some (ac119, [.tmp 4], 34) := by kernel_rfl
-- 98 loop.example/prologserver/spec.IsBuiltin params 2 ntmps 34
def ac98 : Cd := .seq (.region [⟨(some 4), .mv (.k (.c (.d (.bool false)))), none⟩] [4])
  (.seq (.seq (.region [⟨(some 5), .mv (.t 0), none⟩] [0])
    (.block 0 (.seq (.seq (.region [⟨(some 7), .bin .eql (.t 5) (.k (.c (.d (.str [61])))), none⟩,
            ⟨(some 6), .mv (.t 7), none⟩] [7])
        (.cond (.t 6)
          (.skip)
          (.seq (.region [⟨(some 8), .bin .eql (.t 5) (.k (.c (.d (.str [92, 61])))), none⟩,
              ⟨(some 6), .mv (.t 8), none⟩] [8])
          (.cond (.t 6)
            (.skip)
            (.seq (.region [⟨(some 9), .bin .eql (.t 5) (.k (.c (.d (.str [61, 61])))), none⟩,
                ⟨(some 6), .mv (.t 9), none⟩] [9])
            (.cond (.t 6)
              (.skip)
              (.seq (.region [⟨(some 10), .bin .eql (.t 5) (.k (.c (.d (.str [60])))), none⟩,
                  ⟨(some 6), .mv (.t 10), none⟩] [10])
              (.cond (.t 6)
                (.skip)
                (.seq (.region [⟨(some 11), .bin .eql (.t 5) (.k (.c (.d (.str [62])))), none⟩,
                    ⟨(some 6), .mv (.t 11), none⟩] [11])
                (.cond (.t 6)
                  (.skip)
                  (.seq (.region [⟨(some 12), .bin .eql (.t 5) (.k (.c (.d (.str [61, 60])))), none⟩,
                      ⟨(some 6), .mv (.t 12), none⟩] [12])
                  (.cond (.t 6)
                    (.skip)
                    (.seq (.region [⟨(some 13), .bin .eql (.t 5) (.k (.c (.d (.str [62, 61])))), none⟩,
                        ⟨(some 6), .mv (.t 13), none⟩] [13])
                    (.cond (.t 6)
                      (.skip)
                      (.seq (.region [⟨(some 14), .bin .eql (.t 5) (.k (.c (.d (.str [61, 58, 61])))), none⟩,
                          ⟨(some 6), .mv (.t 14), none⟩] [14])
                      (.cond (.t 6)
                        (.skip)
                        (.region [⟨(some 15), .bin .eql (.t 5) (.k (.c (.d (.str [105, 115])))), none⟩,
                          ⟨(some 6), .mv (.t 15), none⟩] [15])))))))))))))))))
      (.cond (.t 6)
        (.seq (.region [⟨(some 16), .mv (.t 1), none⟩,
            ⟨(some 17), .bin .eql (.t 16) (.k (.c (.d (.int .i64 2)))), none⟩,
            ⟨(some 4), .mv (.t 17), none⟩] [1, 5, 6, 16, 17])
        (.ret))
        (.seq (.seq (.region [⟨(some 19), .bin .eql (.t 5) (.k (.c (.d (.str [116, 114, 117, 101])))), none⟩,
              ⟨(some 18), .mv (.t 19), none⟩] [6, 19])
          (.cond (.t 18)
            (.skip)
            (.region [⟨(some 20), .bin .eql (.t 5) (.k (.c (.d (.str [102, 97, 105, 108])))), none⟩,
              ⟨(some 18), .mv (.t 20), none⟩] [20])))
        (.cond (.t 18)
          (.seq (.region [⟨(some 21), .mv (.t 1), none⟩,
              ⟨(some 22), .bin .eql (.t 21) (.k (.c (.d (.int .i64 0)))), none⟩,
              ⟨(some 4), .mv (.t 22), none⟩] [1, 5, 18, 21, 22])
          (.ret))
          (.seq (.seq (.region [⟨(some 24), .bin .eql (.t 5) (.k (.c (.d (.str [118, 97, 114])))), none⟩,
                ⟨(some 23), .mv (.t 24), none⟩] [18, 24])
            (.cond (.t 23)
              (.skip)
              (.seq (.region [⟨(some 25), .bin .eql (.t 5) (.k (.c (.d (.str [110, 111, 110, 118, 97, 114])))), none⟩,
                  ⟨(some 23), .mv (.t 25), none⟩] [25])
              (.cond (.t 23)
                (.skip)
                (.seq (.region [⟨(some 26), .bin .eql (.t 5) (.k (.c (.d (.str [97, 116, 111, 109])))), none⟩,
                    ⟨(some 23), .mv (.t 26), none⟩] [26])
                (.cond (.t 23)
                  (.skip)
                  (.region [⟨(some 27), .bin .eql (.t 5) (.k (.c (.d (.str [105, 110, 116])))), none⟩,
                    ⟨(some 23), .mv (.t 27), none⟩] [27])))))))
          (.cond (.t 23)
            (.seq (.region [⟨(some 28), .mv (.t 1), none⟩,
                ⟨(some 29), .bin .eql (.t 28) (.k (.c (.d (.int .i64 1)))), none⟩,
                ⟨(some 4), .mv (.t 29), none⟩] [1, 5, 23, 28, 29])
            (.ret))
            (.seq (.region [⟨(some 31), .bin .eql (.t 5) (.k (.c (.d (.str [97, 114, 103])))), none⟩,
                ⟨(some 30), .mv (.t 31), none⟩] [5, 23, 31])
            (.cond (.t 30)
              (.seq (.region [⟨(some 32), .mv (.t 1), none⟩,
                  ⟨(some 33), .bin .eql (.t 32) (.k (.c (.d (.int .i64 3)))), none⟩,
                  ⟨(some 4), .mv (.t 33), none⟩] [1, 30, 32, 33])
              (.ret))
              (.skip)))))))))))
  (.seq (.region [⟨(some 4), .mv (.k (.c (.d (.bool false)))), none⟩] [1, 30])
  (.ret)))
theorem ac98_ok : cFunc Try.prog [] [(0, [4], []), (1, [0], []), (2, [7], []), (3, [8], []), (4, [9], []), (5, [10], []), (6, [11], []), (7, [12], []), (8, [13], []), (9, [14], []), (10, [15], []), (11, [1, 5, 6, 16, 17], []), (12, [6, 19], []), (13, [20], []), (14, [1, 5, 18, 21, 22], []), (15, [18, 24], []), (16, [25], []), (17, [26], []), (18, [27], []), (19, [1, 5, 23, 28, 29], []), (20, [5, 23, 31], []), (21, [1, 30, 32, 33], []), (22, [1, 30], [])] Try.f98 = some (ac98, [.tmp 4], 34) := by kernel_rfl
-- 104 loop.example/prologserver/impl.isBuilt params 1 ntmps 14
def ac104 : Cd := .seq (.region [⟨(some 1), .box (.t 0), none⟩,
      ⟨(some 2), .mv (.k (.c (.d (.bool false)))), none⟩] [0, 2])
  (.seq (.region [⟨(some 3), .fieldAddr 0 (.t 1), none⟩,
      ⟨(some 4), .load none (.t 3), none⟩,
      ⟨(some 5), .bin .eql (.t 4) (.k (.c (.d (.int .i64 3)))), none⟩,
      ⟨(some 6), .mv (.t 5), none⟩,
      ⟨(some 7), .fieldAddr 2 (.t 1), some (6, true)⟩,
      ⟨(some 8), .load none (.t 7), some (6, true)⟩,
      ⟨(some 9), .fieldAddr 3 (.t 1), some (6, true)⟩,
      ⟨(some 10), .load none (.t 9), some (6, true)⟩,
      ⟨(some 11), .len 1 (.t 10), some (6, true)⟩,
      ⟨(some 12), .qcall 119 [(.t 8), (.t 11)], some (6, true)⟩,
      ⟨(some 13), .pick (.t 6) (.t 12) (.k (.c (.d (.bool false)))), none⟩,
      ⟨(some 2), .mv (.t 13), none⟩] [1, 3, 4, 5, 6, 7, 8, 9, 10, 11, 12, 13])
  (.ret))
theorem ac104_ok : cFunc Try.prog [1000119] [(0, [0, 2], []), (1, [1, 3, 4, 5, 6, 7, 8, 9, 10, 11, 12, 13], [])] Try.f104 = some (ac104, [.tmp 2], 14) := by kernel_rfl
-- 85 loop.example/prologserver/impl.isPlain params 1 ntmps 22
def ac85 : Cd := .seq (.region [⟨(some 1), .box (.t 0), none⟩,
      ⟨(some 2), .mv (.k (.c (.d (.bool false)))), none⟩] [0, 2])
  (.seq (.region [⟨(some 3), .fieldAddr 0 (.t 1), none⟩,
      ⟨(some 4), .load none (.t 3), none⟩,
      ⟨(some 5), .bin .eql (.t 4) (.k (.c (.d (.int .i64 3)))), none⟩,
      ⟨(some 6), .mv (.t 5), none⟩,
      ⟨(some 7), .fieldAddr 2 (.t 1), some (6, true)⟩,
      ⟨(some 8), .load none (.t 7), some (6, true)⟩,
      ⟨(some 9), .qcall 109 [(.t 8)], some (6, true)⟩,
      ⟨(some 10), .pick (.t 6) (.t 9) (.k (.c (.d (.bool false)))), none⟩,
      ⟨(some 11), .mv (.t 10), none⟩,
      ⟨(some 12), .fieldAddr 2 (.t 1), some (11, true)⟩,
      ⟨(some 13), .load none (.t 12), some (11, true)⟩,
      ⟨(some 14), .qcall 110 [(.t 13)], some (11, true)⟩,
      ⟨(some 15), .un .not (.t 14), some (11, true)⟩,
      ⟨(some 16), .pick (.t 11) (.t 15) (.k (.c (.d (.bool false)))), none⟩,
      ⟨(some 17), .mv (.t 16), none⟩,
      ⟨(some 18), .load (some 4) (.t 1), some (17, true)⟩,
      ⟨(some 19), .qcall 104 [(.t 18)], some (17, true)⟩,
      ⟨(some 20), .un .not (.t 19), some (17, true)⟩,
      ⟨(some 21), .pick (.t 17) (.t 20) (.k (.c (.d (.bool false)))), none⟩,
      ⟨(some 2), .mv (.t 21), none⟩] [1, 3, 4, 5, 6, 7, 8, 9, 10, 11, 12, 13, 14, 15, 16, 17, 18, 19, 20, 21])
  (.ret))
theorem ac85_ok : cFunc Try.prog [1000104, 1000109, 1000110] [(0, [0, 2], []), (1, [1, 3, 4, 5, 6, 7, 8, 9, 10, 11, 12, 13, 14, 15, 16, 17, 18, 19, 20, 21], [])] Try.f85 = some (ac85, [.tmp 2], 22) := by kernel_rfl
-- 101 loop.example/prologserver/impl.isCut params 1 ntmps 10
def ac101 : Cd := .seq (.region [⟨(some 1), .box (.t 0), none⟩,
      ⟨(some 2), .mv (.k (.c (.d (.bool false)))), none⟩] [0, 2])
  (.seq (.region [⟨(some 3), .load (some 4) (.t 1), none⟩,
      ⟨(some 4), .qcall 118 [(.t 3)], none⟩,
      ⟨(some 5), .mv (.t 4), none⟩,
      ⟨(some 6), .fieldAddr 2 (.t 1), some (5, true)⟩,
      ⟨(some 7), .load none (.t 6), some (5, true)⟩,
      ⟨(some 8), .bin .eql (.t 7) (.k (.c (.d (.str [33])))), some (5, true)⟩,
      ⟨(some 9), .pick (.t 5) (.t 8) (.k (.c (.d (.bool false)))), none⟩,
      ⟨(some 2), .mv (.t 9), none⟩] [1, 3, 4, 5, 6, 7, 8, 9])
  (.ret))
theorem ac101_ok : cFunc Try.prog [1000118] [(0, [0, 2], []), (1, [1, 3, 4, 5, 6, 7, 8, 9], [])] Try.f101 = some (ac101, [.tmp 2], 10) := by kernel_rfl
-- 95 loop.example/prologserver/spec.l4Cut params 1 ntmps 17
def ac95 : Cd := .seq (.region [⟨(some 1), .box (.t 0), none⟩,
      ⟨(some 2), .mv (.k (.c (.d (.bool false)))), none⟩] [0, 2])
  (.seq (.region [⟨(some 3), .fieldAddr 0 (.t 1), none⟩,
      ⟨(some 4), .load none (.t 3), none⟩,
      ⟨(some 5), .bin .eql (.t 4) (.k (.c (.d (.int .i64 3)))), none⟩,
      ⟨(some 6), .mv (.t 5), none⟩,
      ⟨(some 7), .fieldAddr 2 (.t 1), some (6, true)⟩,
      ⟨(some 8), .load none (.t 7), some (6, true)⟩,
      ⟨(some 9), .bin .eql (.t 8) (.k (.c (.d (.str [33])))), some (6, true)⟩,
      ⟨(some 10), .pick (.t 6) (.t 9) (.k (.c (.d (.bool false)))), none⟩,
      ⟨(some 11), .mv (.t 10), none⟩,
      ⟨(some 12), .fieldAddr 3 (.t 1), some (11, true)⟩,
      ⟨(some 13), .load none (.t 12), some (11, true)⟩,
      ⟨(some 14), .len 1 (.t 13), some (11, true)⟩,
      ⟨(some 15), .bin .eql (.t 14) (.k (.c (.d (.int .i64 0)))), some (11, true)⟩,
      ⟨(some 16), .pick (.t 11) (.t 15) (.k (.c (.d (.bool false)))), none⟩,
      ⟨(some 2), .mv (.t 16), none⟩] [1, 3, 4, 5, 6, 7, 8, 9, 10, 11, 12, 13, 14, 15, 16])
  (.ret))
theorem ac95_ok : cFunc Try.prog [] [(0, [0, 2], []), (1, [1, 3, 4, 5, 6, 7, 8, 9, 10, 11, 12, 13, 14, 15, 16], [])] Try.f95 = some (ac95, [.tmp 2], 17) := by kernel_rfl
-- 83 loop.example/prologserver/spec.l4Plain params 1 ntmps 26
def ac83 : Cd := .seq (.region [⟨(some 1), .box (.t 0), none⟩,
      ⟨(some 2), .mv (.k (.c (.d (.bool false)))), none⟩] [0, 2])
  (.seq (.region [⟨(some 3), .fieldAddr 0 (.t 1), none⟩,
      ⟨(some 4), .load none (.t 3), none⟩,
      ⟨(some 5), .bin .eql (.t 4) (.k (.c (.d (.int .i64 3)))), none⟩,
      ⟨(some 6), .mv (.t 5), none⟩,
      ⟨(some 7), .fieldAddr 2 (.t 1), some (6, true)⟩,
      ⟨(some 8), .load none (.t 7), some (6, true)⟩,
      ⟨(some 9), .qcall 105 [(.t 8)], some (6, true)⟩,
      ⟨(some 10), .pick (.t 6) (.t 9) (.k (.c (.d (.bool false)))), none⟩,
      ⟨(some 11), .mv (.t 10), none⟩,
      ⟨(some 12), .fieldAddr 2 (.t 1), some (11, true)⟩,
      ⟨(some 13), .load none (.t 12), some (11, true)⟩,
      ⟨(some 14), .fieldAddr 3 (.t 1), some (11, true)⟩,
      ⟨(some 15), .load none (.t 14), some (11, true)⟩,
      ⟨(some 16), .len 1 (.t 15), some (11, true)⟩,
      ⟨(some 17), .qcall 98 [(.t 13), (.t 16)], some (11, true)⟩,
      ⟨(some 18), .un .not (.t 17), some (11, true)⟩,
      ⟨(some 19), .pick (.t 11) (.t 18) (.k (.c (.d (.bool false)))), none⟩,
      ⟨(some 20), .mv (.t 19), none⟩,
      ⟨(some 21), .fieldAddr 2 (.t 1), some (20, true)⟩,
      ⟨(some 22), .load none (.t 21), some (20, true)⟩,
      ⟨(some 23), .qcall 106 [(.t 22)], some (20, true)⟩,
      ⟨(some 24), .bin .eql (.t 23) (.k (.c (.d (.int .i64 0)))), some (20, true)⟩,
      ⟨(some 25), .pick (.t 20) (.t 24) (.k (.c (.d (.bool false)))), none⟩,
      ⟨(some 2), .mv (.t 25), none⟩] [1, 3, 4, 5, 6, 7, 8, 9, 10, 11, 12, 13, 14, 15, 16, 17, 18, 19, 20, 21, 22, 23, 24, 25])
  (.ret))
theorem ac83_ok : cFunc Try.prog [1000098, 1000105, 1000106] [(0, [0, 2], []), (1, [1, 3, 4, 5, 6, 7, 8, 9, 10, 11, 12, 13, 14, 15, 16, 17, 18, 19, 20, 21, 22, 23, 24, 25], [])] Try.f83 = some (ac83, [.tmp 2], 26) := by kernel_rfl
-- 94 loop.example/prologserver/spec.l4Goal params 1 ntmps 22
def ac94 : Cd := .seq (.region [⟨(some 1), .box (.t 0), none⟩,
      ⟨(some 2), .mv (.k (.c (.d (.bool false)))), none⟩] [0, 2])
  (.seq (.region [⟨(some 3), .load (some 4) (.t 1), none⟩,
      ⟨(some 4), .qcall 95 [(.t 3)], none⟩,
      ⟨(some 5), .mv (.t 4), none⟩,
      ⟨(some 6), .load (some 4) (.t 1), some (5, false)⟩,
      ⟨(some 7), .qcall 83 [(.t 6)], some (5, false)⟩,
      ⟨(some 8), .pick (.t 5) (.k (.c (.d (.bool true)))) (.t 7), none⟩,
      ⟨(some 9), .mv (.t 8), none⟩,
      ⟨(some 10), .fieldAddr 0 (.t 1), some (9, false)⟩,
      ⟨(some 11), .load none (.t 10), some (9, false)⟩,
      ⟨(some 12), .bin .eql (.t 11) (.k (.c (.d (.int .i64 3)))), some (9, false)⟩,
      ⟨(some 13), .mv (.t 12), some (9, false)⟩,
      ⟨(some 14), .fieldAddr 2 (.t 1), some (13, true)⟩,
      ⟨(some 15), .load none (.t 14), some (13, true)⟩,
      ⟨(some 16), .fieldAddr 3 (.t 1), some (13, true)⟩,
      ⟨(some 17), .load none (.t 16), some (13, true)⟩,
      ⟨(some 18), .len 1 (.t 17), some (13, true)⟩,
      ⟨(some 19), .qcall 98 [(.t 15), (.t 18)], some (13, true)⟩,
      ⟨(some 20), .pick (.t 13) (.t 19) (.k (.c (.d (.bool false)))), some (9, false)⟩,
      ⟨(some 21), .pick (.t 9) (.k (.c (.d (.bool true)))) (.t 20), none⟩,
      ⟨(some 2), .mv (.t 21), none⟩] [1, 3, 4, 5, 6, 7, 8, 9, 10, 11, 12, 13, 14, 15, 16, 17, 18, 19, 20, 21])
  (.ret))
theorem ac94_ok : cFunc Try.prog [1000083, 1000095, 1000098] [(0, [0, 2], []), (1, [1, 3, 4, 5, 6, 7, 8, 9, 10, 11, 12, 13, 14, 15, 16, 17, 18, 19, 20, 21], [])] Try.f94 = some (ac94, [.tmp 2], 22) := by kernel_rfl
-- 100 loop.example/prologserver/impl.GoalValid params 1 ntmps 17
def ac100 : Cd := .seq (.region [⟨(some 1), .box (.t 0), none⟩,
      ⟨(some 2), .mv (.k (.c (.d (.bool false)))), none⟩] [0, 2])
  (.seq (.region [⟨(some 3), .load (some 4) (.t 1), none⟩,
      ⟨(some 4), .qcall 46 [(.t 3)], none⟩,
      ⟨(some 5), .mv (.t 4), none⟩,
      ⟨(some 6), .load (some 4) (.t 1), some (5, true)⟩,
      ⟨(some 7), .qcall 85 [(.t 6)], some (5, true)⟩,
      ⟨(some 8), .mv (.t 7), some (5, true)⟩,
      ⟨(some 9), .load (some 4) (.t 1), some (8, false)⟩,
      ⟨(some 10), .qcall 104 [(.t 9)], some (8, false)⟩,
      ⟨(some 11), .pick (.t 8) (.k (.c (.d (.bool true)))) (.t 10), some (5, true)⟩,
      ⟨(some 12), .mv (.t 11), some (5, true)⟩,
      ⟨(some 13), .load (some 4) (.t 1), some (12, false)⟩,
      ⟨(some 14), .qcall 101 [(.t 13)], some (12, false)⟩,
      ⟨(some 15), .pick (.t 12) (.k (.c (.d (.bool true)))) (.t 14), some (5, true)⟩,
      ⟨(some 16), .pick (.t 5) (.t 15) (.k (.c (.d (.bool false)))), none⟩,
      ⟨(some 2), .mv (.t 16), none⟩] [1, 3, 4, 5, 6, 7, 8, 9, 10, 11, 12, 13, 14, 15, 16])
  (.ret))
theorem ac100_ok : cFunc Try.prog [1000046, 1000085, 1000101, 1000104] [(0, [0, 2], []), (1, [1, 3, 4, 5, 6, 7, 8, 9, 10, 11, 12, 13, 14, 15, 16], [])] Try.f100 = some (ac100, [.tmp 2], 17) := by kernel_rfl
-- 77 loop.example/prologserver/spec.GoalValid params 1 ntmps 9
def ac77 : Cd := .seq (.region [⟨(some 1), .box (.t 0), none⟩,
      ⟨(some 2), .mv (.k (.c (.d (.bool false)))), none⟩] [0, 2])
  (.seq (.region [⟨(some 3), .load (some 4) (.t 1), none⟩,
      ⟨(some 4), .qcall 43 [(.t 3)], none⟩,
      ⟨(some 5), .mv (.t 4), none⟩,
      ⟨(some 6), .load (some 4) (.t 1), some (5, true)⟩,
      ⟨(some 7), .qcall 94 [(.t 6)], some (5, true)⟩,
      ⟨(some 8), .pick (.t 5) (.t 7) (.k (.c (.d (.bool false)))), none⟩,
      ⟨(some 2), .mv (.t 8), none⟩] [1, 3, 4, 5, 6, 7, 8])
  (.ret))
theorem ac77_ok : cFunc Try.prog [1000043, 1000094] [(0, [0, 2], []), (1, [1, 3, 4, 5, 6, 7, 8], [])] Try.f77 = some (ac77, [.tmp 2], 9) := by kernel_rfl
def ops3 : List (List UInt8) := [[61], [92, 61], [61, 61], [60], [62], [61, 60], [62, 61], [61, 58, 61], [105, 115]]
def levelN (s : List UInt8) : Int := if ops3.contains s then 3 else if [[43], [45]].contains s then 2 else if [[42], [47, 47], [109, 111, 100]].contains s then 1 else 0
def leftB (s : List UInt8) : Bool := decide (levelN s = 1) || decide (levelN s = 2)
def builtB (s : List UInt8) (a : Int) : Bool :=
  if ops3.contains s then (a == 2) else if [[116, 114, 117, 101], [102, 97, 105, 108]].contains s then (a == 0)
  else if [[118, 97, 114], [110, 111, 110, 118, 97, 114], [97, 116, 111, 109], [105, 110, 116]].contains s then (a == 1) else if s = [97, 114, 103] then (a == 3) else false
theorem beq_dec {α : Type} [DecidableEq α] (a b : α) : (a == b) = decide (a = b) := by rw [Bool.eq_iff_iff]; simp
theorem level_calls (s : List UInt8) (H : Heap) : ACalls Try.prog 106 [.c (.d (.str s))] H (fun r H' => H' = H ∧ r = .c (.d (.int .i64 (levelN s)))) := by
  refine acalls Try.func106 (by kernel_rfl) ac106_ok fun hf => ?_
  simp -implicitDefEqProofs [ac106, kw, ew, sw, tw, a_, b_, c_, -List.set_cons_succ, -List.set_cons_zero, A.ok, A.val, d_, e_, f_, g_, h_, i_, j_, k_, l_, m_, unA, unD, n_, AOp.total, o_, p_, q_, r_, s_, t_, u_, v_, A.thaw, C.thaw, A.fits, As.fits, C.fits, evs, oks, w_, A.pure, C.pure, A.re, C.re, x_, y_, cut, A.cells, C.rows?, z_, A_, B_, C_, D_, Ob.re, Cs.fits, E_, F_, G_, H_, I_, J_, K_, L_, M_, N_, O_, C.toD, P_, Q_, R_, S_, T_, Obs.fits, U_, eqD, V_, W_, X_, Y_, Z_]
  (repeat' (first | (refine And.intro ?_ ?_) | intro _)) <;> simp_all [levelN, leftB, builtB, ops3]
theorem opLevel_calls (s : List UInt8) (H : Heap) : ACalls Try.prog 120 [.c (.d (.str s))] H (fun r H' => H' = H ∧ r = .tup [.c (.d (.int .i64 (levelN s))), .c (.d (.bool (leftB s)))]) := by
  refine acalls Try.func120 (by kernel_rfl) ac120_ok fun hf => ?_
  simp -implicitDefEqProofs [ac120, kw, ew, sw, tw, a_, b_, c_, -List.set_cons_succ, -List.set_cons_zero, A.ok, A.val, d_, e_, f_, g_, h_, i_, j_, k_, l_, m_, unA, unD, n_, AOp.total, o_, p_, q_, r_, s_, t_, u_, v_, A.thaw, C.thaw, A.fits, As.fits, C.fits, evs, oks, w_, A.pure, C.pure, A.re, C.re, x_, y_, cut, A.cells, C.rows?, z_, A_, B_, C_, D_, Ob.re, Cs.fits, E_, F_, G_, H_, I_, J_, K_, L_, M_, N_, O_, C.toD, P_, Q_, R_, S_, T_, Obs.fits, U_, eqD, V_, W_, X_, Y_, Z_]
  (repeat' (first | (refine And.intro ?_ ?_) | intro _)) <;> simp_all [levelN, leftB, builtB, ops3]
theorem isOp_calls (s : List UInt8) (H : Heap) : ACalls Try.prog 110 [.c (.d (.str s))] H (fun r H' => H' = H ∧ r = .c (.d (.bool (decide (0 < levelN s))))) := by
  refine acalls Try.func110 (by kernel_rfl) ac110_ok fun hf => ?_
  simp -implicitDefEqProofs [ac110, kw, ew, sw, tw, a_, b_, c_, -List.set_cons_succ, -List.set_cons_zero, A.ok, A.val, d_, e_, f_, g_, h_, i_, j_, k_, l_, m_, unA, unD, n_, AOp.total, o_, p_, q_, r_, s_, t_, u_, v_, A.thaw, C.thaw, A.fits, As.fits, C.fits, evs, oks, w_, A.pure, C.pure, A.re, C.re, x_, y_, cut, A.cells, C.rows?, z_, A_, B_, C_, D_, Ob.re, Cs.fits, E_, F_, G_, H_, I_, J_, K_, L_, M_, N_, O_, C.toD, P_, Q_, R_, S_, T_, Obs.fits, U_, eqD, V_, W_, X_, Y_, Z_]
  refine qcall_pure (opLevel_calls s) hf rfl ?_
  simp -implicitDefEqProofs [kw, ew, sw, tw, a_, b_, c_, -List.set_cons_succ, -List.set_cons_zero, A.ok, A.val, d_, e_, f_, g_, h_, i_, j_, k_, l_, m_, unA, unD, n_, AOp.total, o_, p_, q_, r_, s_, t_, u_, v_, A.thaw, C.thaw, A.fits, As.fits, C.fits, evs, oks, w_, A.pure, C.pure, A.re, C.re, x_, y_, cut, A.cells, C.rows?, z_, A_, B_, C_, D_, Ob.re, Cs.fits, E_, F_, G_, H_, I_, J_, K_, L_, M_, N_, O_, C.toD, P_, Q_, R_, S_, T_, Obs.fits, U_, eqD, V_, W_, X_, Y_, Z_]
theorem builtImpl_calls (s : List UInt8) (a : Int) (H : Heap) : ACalls Try.prog 119 [.c (.d (.str s)), .c (.d (.int .i64 a))] H (fun r H' => H' = H ∧ r = .c (.d (.bool (builtB s a)))) := by
  refine acalls Try.func119 (by kernel_rfl) ac119_ok fun hf => ?_
  simp -implicitDefEqProofs [ac119, kw, ew, sw, tw, a_, b_, c_, -List.set_cons_succ, -List.set_cons_zero, A.ok, A.val, d_, e_, f_, g_, h_, i_, j_, k_, l_, m_, unA, unD, n_, AOp.total, o_, p_, q_, r_, s_, t_, u_, v_, A.thaw, C.thaw, A.fits, As.fits, C.fits, evs, oks, w_, A.pure, C.pure, A.re, C.re, x_, y_, cut, A.cells, C.rows?, z_, A_, B_, C_, D_, Ob.re, Cs.fits, E_, F_, G_, H_, I_, J_, K_, L_, M_, N_, O_, C.toD, P_, Q_, R_, S_, T_, Obs.fits, U_, eqD, V_, W_, X_, Y_, Z_]
  (repeat' (first | (refine And.intro ?_ ?_) | intro _)) <;> simp_all [levelN, leftB, builtB, ops3]
theorem builtSpec_calls (s : List UInt8) (a : Int) (H : Heap) : ACalls Try.prog 98 [.c (.d (.str s)), .c (.d (.int .i64 a))] H (fun r H' => H' = H ∧ r = .c (.d (.bool (builtB s a)))) := by
  refine acalls Try.func98 (by kernel_rfl) ac98_ok fun hf => ?_
  simp -implicitDefEqProofs [ac98, kw, ew, sw, tw, a_, b_, c_, -List.set_cons_succ, -List.set_cons_zero, A.ok, A.val, d_, e_, f_, g_, h_, i_, j_, k_, l_, m_, unA, unD, n_, AOp.total, o_, p_, q_, r_, s_, t_, u_, v_, A.thaw, C.thaw, A.fits, As.fits, C.fits, evs, oks, w_, A.pure, C.pure, A.re, C.re, x_, y_, cut, A.cells, C.rows?, z_, A_, B_, C_, D_, Ob.re, Cs.fits, E_, F_, G_, H_, I_, J_, K_, L_, M_, N_, O_, C.toD, P_, Q_, R_, S_, T_, Obs.fits, U_, eqD, V_, W_, X_, Y_, Z_]
  (repeat' (first | (refine And.intro ?_ ?_) | intro _)) <;> simp_all [levelN, leftB, builtB, ops3]
theorem level_nonneg (s : List UInt8) : 0 ≤ levelN s := by
  unfold levelN
  (repeat' split) <;> omega
/-- a goal that is built in -/
def Tm.built (t : Tm) : Bool := decide (t.k = 3) && builtB t.s t.kids.length
/-- a goal for clauses -/
def Tm.plain (t : Tm) : Bool := decide (t.k = 3) && (lettersB t.s && ((levelN t.s == 0) && !builtB t.s t.kids.length))
def Tm.cutB (t : Tm) : Bool := decide (t.k = 3) && (t.kids.isEmpty && t.s == [33])
def Tm.goal (t : Tm) : Bool := t.valid && (t.plain || t.built || t.cutB)
theorem isBuilt_calls (t : Tm) (ht : t.fits) (H : Heap) : ACalls Try.prog 104 [.agg (t.row.map .d)] H (fun r H' => H' = H ∧ r = .c (.d (.bool t.built))) := by
  obtain ⟨k, n, s, l⟩ := t
  obtain ⟨_, _, hs, hl, hkids⟩ := ht
  have hli : inR .i64 (l.length : Int) := small_i64 (by omega) (by omega)
  refine acalls Try.func104 (by kernel_rfl) ac104_ok fun hf => ?_
  by_cases hk : k = 3
  · simp -implicitDefEqProofs [ac104, row_mk, hk, hli, kw, ew, sw, tw, a_, b_, c_, -List.set_cons_succ, -List.set_cons_zero, A.ok, A.val, d_, e_, f_, g_, h_, i_, j_, k_, l_, m_, unA, unD, n_, AOp.total, o_, p_, q_, r_, s_, t_, u_, v_, A.thaw, C.thaw, A.fits, As.fits, C.fits, evs, oks, w_, A.pure, C.pure, A.re, C.re, x_, y_, cut, A.cells, C.rows?, z_, A_, B_, C_, D_, Ob.re, Cs.fits, E_, F_, G_, H_, I_, J_, K_, L_, M_, N_, O_, C.toD, P_, Q_, R_, S_, T_, Obs.fits, U_, eqD, V_, W_, X_, Y_, Z_]
    refine qcall_pure (builtImpl_calls s l.length) hf rfl ?_
    simp -implicitDefEqProofs [Tm.built, Tm.k, Tm.s, Tm.kids, hk, kw, ew, sw, tw, a_, b_, c_, -List.set_cons_succ, -List.set_cons_zero, A.ok, A.val, d_, e_, f_, g_, h_, i_, j_, k_, l_, m_, unA, unD, n_, AOp.total, o_, p_, q_, r_, s_, t_, u_, v_, A.thaw, C.thaw, A.fits, As.fits, C.fits, evs, oks, w_, A.pure, C.pure, A.re, C.re, x_, y_, cut, A.cells, C.rows?, z_, A_, B_, C_, D_, Ob.re, Cs.fits, E_, F_, G_, H_, I_, J_, K_, L_, M_, N_, O_, C.toD, P_, Q_, R_, S_, T_, Obs.fits, U_, eqD, V_, W_, X_, Y_, Z_]
  · simp -implicitDefEqProofs [ac104, row_mk, hk, hli, Tm.built, Tm.k, kw, ew, sw, tw, a_, b_, c_, -List.set_cons_succ, -List.set_cons_zero, A.ok, A.val, d_, e_, f_, g_, h_, i_, j_, k_, l_, m_, unA, unD, n_, AOp.total, o_, p_, q_, r_, s_, t_, u_, v_, A.thaw, C.thaw, A.fits, As.fits, C.fits, evs, oks, w_, A.pure, C.pure, A.re, C.re, x_, y_, cut, A.cells, C.rows?, z_, A_, B_, C_, D_, Ob.re, Cs.fits, E_, F_, G_, H_, I_, J_, K_, L_, M_, N_, O_, C.toD, P_, Q_, R_, S_, T_, Obs.fits, U_, eqD, V_, W_, X_, Y_, Z_]
theorem plainImpl_calls (t : Tm) (ht : t.fits) (H : Heap) : ACalls Try.prog 85 [.agg (t.row.map .d)] H (fun r H' => H' = H ∧ r = .c (.d (.bool t.plain))) := by
  have c3 := isBuilt_calls t ht
  obtain ⟨k, n, s, l⟩ := t
  obtain ⟨_, _, hs, hl, hkids⟩ := ht
  rw [row_mk] at c3
  simp only [List.map_cons, List.map_nil] at c3
  have hnn := level_nonneg s
  refine acalls Try.func85 (by kernel_rfl) ac85_ok fun hf => ?_
  by_cases hk : k = 3
  · simp -implicitDefEqProofs [ac85, row_mk, hk, kw, ew, sw, tw, a_, b_, c_, -List.set_cons_succ, -List.set_cons_zero, A.ok, A.val, d_, e_, f_, g_, h_, i_, j_, k_, l_, m_, unA, unD, n_, AOp.total, o_, p_, q_, r_, s_, t_, u_, v_, A.thaw, C.thaw, A.fits, As.fits, C.fits, evs, oks, w_, A.pure, C.pure, A.re, C.re, x_, y_, cut, A.cells, C.rows?, z_, A_, B_, C_, D_, Ob.re, Cs.fits, E_, F_, G_, H_, I_, J_, K_, L_, M_, N_, O_, C.toD, P_, Q_, R_, S_, T_, Obs.fits, U_, eqD, V_, W_, X_, Y_, Z_]
    refine qcall_pure (isLetters_calls s (by omega)) hf rfl ?_
    cases h1 : lettersB s with
    | false => simp -implicitDefEqProofs [h1, hk, Tm.plain, Tm.k, Tm.s, kw, ew, sw, tw, a_, b_, c_, -List.set_cons_succ, -List.set_cons_zero, A.ok, A.val, d_, e_, f_, g_, h_, i_, j_, k_, l_, m_, unA, unD, n_, AOp.total, o_, p_, q_, r_, s_, t_, u_, v_, A.thaw, C.thaw, A.fits, As.fits, C.fits, evs, oks, w_, A.pure, C.pure, A.re, C.re, x_, y_, cut, A.cells, C.rows?, z_, A_, B_, C_, D_, Ob.re, Cs.fits, E_, F_, G_, H_, I_, J_, K_, L_, M_, N_, O_, C.toD, P_, Q_, R_, S_, T_, Obs.fits, U_, eqD, V_, W_, X_, Y_, Z_]
    | true =>
      simp -implicitDefEqProofs [h1, hk, kw, ew, sw, tw, a_, b_, c_, -List.set_cons_succ, -List.set_cons_zero, A.ok, A.val, d_, e_, f_, g_, h_, i_, j_, k_, l_, m_, unA, unD, n_, AOp.total, o_, p_, q_, r_, s_, t_, u_, v_, A.thaw, C.thaw, A.fits, As.fits, C.fits, evs, oks, w_, A.pure, C.pure, A.re, C.re, x_, y_, cut, A.cells, C.rows?, z_, A_, B_, C_, D_, Ob.re, Cs.fits, E_, F_, G_, H_, I_, J_, K_, L_, M_, N_, O_, C.toD, P_, Q_, R_, S_, T_, Obs.fits, U_, eqD, V_, W_, X_, Y_, Z_]
      refine qcall_pure (isOp_calls s) hf rfl ?_
      by_cases h2 : levelN s = 0
      · simp -implicitDefEqProofs [h1, h2, hk, kw, ew, sw, tw, a_, b_, c_, -List.set_cons_succ, -List.set_cons_zero, A.ok, A.val, d_, e_, f_, g_, h_, i_, j_, k_, l_, m_, unA, unD, n_, AOp.total, o_, p_, q_, r_, s_, t_, u_, v_, A.thaw, C.thaw, A.fits, As.fits, C.fits, evs, oks, w_, A.pure, C.pure, A.re, C.re, x_, y_, cut, A.cells, C.rows?, z_, A_, B_, C_, D_, Ob.re, Cs.fits, E_, F_, G_, H_, I_, J_, K_, L_, M_, N_, O_, C.toD, P_, Q_, R_, S_, T_, Obs.fits, U_, eqD, V_, W_, X_, Y_, Z_]
        rw [hk] at c3
        refine qcall_pure c3 hf rfl ?_
        simp -implicitDefEqProofs [h1, h2, hk, Tm.plain, Tm.built, Tm.k, Tm.s, Tm.kids, kw, ew, sw, tw, a_, b_, c_, -List.set_cons_succ, -List.set_cons_zero, A.ok, A.val, d_, e_, f_, g_, h_, i_, j_, k_, l_, m_, unA, unD, n_, AOp.total, o_, p_, q_, r_, s_, t_, u_, v_, A.thaw, C.thaw, A.fits, As.fits, C.fits, evs, oks, w_, A.pure, C.pure, A.re, C.re, x_, y_, cut, A.cells, C.rows?, z_, A_, B_, C_, D_, Ob.re, Cs.fits, E_, F_, G_, H_, I_, J_, K_, L_, M_, N_, O_, C.toD, P_, Q_, R_, S_, T_, Obs.fits, U_, eqD, V_, W_, X_, Y_, Z_]
      · have h3 : 0 < levelN s := by omega
        simp -implicitDefEqProofs [h1, h2, h3, hk, Tm.plain, Tm.k, Tm.s, kw, ew, sw, tw, a_, b_, c_, -List.set_cons_succ, -List.set_cons_zero, A.ok, A.val, d_, e_, f_, g_, h_, i_, j_, k_, l_, m_, unA, unD, n_, AOp.total, o_, p_, q_, r_, s_, t_, u_, v_, A.thaw, C.thaw, A.fits, As.fits, C.fits, evs, oks, w_, A.pure, C.pure, A.re, C.re, x_, y_, cut, A.cells, C.rows?, z_, A_, B_, C_, D_, Ob.re, Cs.fits, E_, F_, G_, H_, I_, J_, K_, L_, M_, N_, O_, C.toD, P_, Q_, R_, S_, T_, Obs.fits, U_, eqD, V_, W_, X_, Y_, Z_]
  · simp -implicitDefEqProofs [ac85, row_mk, hk, Tm.plain, Tm.k, kw, ew, sw, tw, a_, b_, c_, -List.set_cons_succ, -List.set_cons_zero, A.ok, A.val, d_, e_, f_, g_, h_, i_, j_, k_, l_, m_, unA, unD, n_, AOp.total, o_, p_, q_, r_, s_, t_, u_, v_, A.thaw, C.thaw, A.fits, As.fits, C.fits, evs, oks, w_, A.pure, C.pure, A.re, C.re, x_, y_, cut, A.cells, C.rows?, z_, A_, B_, C_, D_, Ob.re, Cs.fits, E_, F_, G_, H_, I_, J_, K_, L_, M_, N_, O_, C.toD, P_, Q_, R_, S_, T_, Obs.fits, U_, eqD, V_, W_, X_, Y_, Z_]
theorem cutImpl_calls (t : Tm) (ht : t.fits) (H : Heap) : ACalls Try.prog 101 [.agg (t.row.map .d)] H (fun r H' => H' = H ∧ r = .c (.d (.bool t.cutB))) := by
  have c3 := isAtom_calls t ht
  obtain ⟨k, n, s, l⟩ := t
  obtain ⟨_, _, hs, hl, hkids⟩ := ht
  rw [row_mk] at c3
  simp only [List.map_cons, List.map_nil] at c3
  refine acalls Try.func101 (by kernel_rfl) ac101_ok fun hf => ?_
  simp -implicitDefEqProofs [ac101, row_mk, kw, ew, sw, tw, a_, b_, c_, -List.set_cons_succ, -List.set_cons_zero, A.ok, A.val, d_, e_, f_, g_, h_, i_, j_, k_, l_, m_, unA, unD, n_, AOp.total, o_, p_, q_, r_, s_, t_, u_, v_, A.thaw, C.thaw, A.fits, As.fits, C.fits, evs, oks, w_, A.pure, C.pure, A.re, C.re, x_, y_, cut, A.cells, C.rows?, z_, A_, B_, C_, D_, Ob.re, Cs.fits, E_, F_, G_, H_, I_, J_, K_, L_, M_, N_, O_, C.toD, P_, Q_, R_, S_, T_, Obs.fits, U_, eqD, V_, W_, X_, Y_, Z_]
  refine qcall_pure c3 hf rfl ?_
  simp -implicitDefEqProofs [Tm.cutB, Tm.k, Tm.s, Tm.kids, Bool.and_assoc, kw, ew, sw, tw, a_, b_, c_, -List.set_cons_succ, -List.set_cons_zero, A.ok, A.val, d_, e_, f_, g_, h_, i_, j_, k_, l_, m_, unA, unD, n_, AOp.total, o_, p_, q_, r_, s_, t_, u_, v_, A.thaw, C.thaw, A.fits, As.fits, C.fits, evs, oks, w_, A.pure, C.pure, A.re, C.re, x_, y_, cut, A.cells, C.rows?, z_, A_, B_, C_, D_, Ob.re, Cs.fits, E_, F_, G_, H_, I_, J_, K_, L_, M_, N_, O_, C.toD, P_, Q_, R_, S_, T_, Obs.fits, U_, eqD, V_, W_, X_, Y_, Z_]
theorem cutSpec_calls (t : Tm) (ht : t.fits) (H : Heap) : ACalls Try.prog 95 [.agg (t.row.map .d)] H (fun r H' => H' = H ∧ r = .c (.d (.bool t.cutB))) := by
  obtain ⟨k, n, s, l⟩ := t
  obtain ⟨_, _, hs, hl, hkids⟩ := ht
  have hli : inR .i64 (l.length : Int) := small_i64 (by omega) (by omega)
  refine acalls Try.func95 (by kernel_rfl) ac95_ok fun hf => ?_
  by_cases hk : k = 3
  · by_cases h2 : s = [33]
    · simp -implicitDefEqProofs [ac95, row_mk, hk, h2, hli, Tm.cutB, Tm.k, Tm.s, Tm.kids, isEmpty_len, kw, ew, sw, tw, a_, b_, c_, -List.set_cons_succ, -List.set_cons_zero, A.ok, A.val, d_, e_, f_, g_, h_, i_, j_, k_, l_, m_, unA, unD, n_, AOp.total, o_, p_, q_, r_, s_, t_, u_, v_, A.thaw, C.thaw, A.fits, As.fits, C.fits, evs, oks, w_, A.pure, C.pure, A.re, C.re, x_, y_, cut, A.cells, C.rows?, z_, A_, B_, C_, D_, Ob.re, Cs.fits, E_, F_, G_, H_, I_, J_, K_, L_, M_, N_, O_, C.toD, P_, Q_, R_, S_, T_, Obs.fits, U_, eqD, V_, W_, X_, Y_, Z_]
    · have h2b : (s == [33]) = false := by simpa using h2
      simp -implicitDefEqProofs [ac95, row_mk, hk, h2, h2b, hli, Tm.cutB, Tm.k, Tm.s, Tm.kids, kw, ew, sw, tw, a_, b_, c_, -List.set_cons_succ, -List.set_cons_zero, A.ok, A.val, d_, e_, f_, g_, h_, i_, j_, k_, l_, m_, unA, unD, n_, AOp.total, o_, p_, q_, r_, s_, t_, u_, v_, A.thaw, C.thaw, A.fits, As.fits, C.fits, evs, oks, w_, A.pure, C.pure, A.re, C.re, x_, y_, cut, A.cells, C.rows?, z_, A_, B_, C_, D_, Ob.re, Cs.fits, E_, F_, G_, H_, I_, J_, K_, L_, M_, N_, O_, C.toD, P_, Q_, R_, S_, T_, Obs.fits, U_, eqD, V_, W_, X_, Y_, Z_]
  · simp -implicitDefEqProofs [ac95, row_mk, hk, hli, Tm.cutB, Tm.k, kw, ew, sw, tw, a_, b_, c_, -List.set_cons_succ, -List.set_cons_zero, A.ok, A.val, d_, e_, f_, g_, h_, i_, j_, k_, l_, m_, unA, unD, n_, AOp.total, o_, p_, q_, r_, s_, t_, u_, v_, A.thaw, C.thaw, A.fits, As.fits, C.fits, evs, oks, w_, A.pure, C.pure, A.re, C.re, x_, y_, cut, A.cells, C.rows?, z_, A_, B_, C_, D_, Ob.re, Cs.fits, E_, F_, G_, H_, I_, J_, K_, L_, M_, N_, O_, C.toD, P_, Q_, R_, S_, T_, Obs.fits, U_, eqD, V_, W_, X_, Y_, Z_]
theorem plainSpec_calls (t : Tm) (ht : t.fits) (H : Heap) : ACalls Try.prog 83 [.agg (t.row.map .d)] H (fun r H' => H' = H ∧ r = .c (.d (.bool t.plain))) := by
  obtain ⟨k, n, s, l⟩ := t
  obtain ⟨_, _, hs, hl, hkids⟩ := ht
  have hli : inR .i64 (l.length : Int) := small_i64 (by omega) (by omega)
  refine acalls Try.func83 (by kernel_rfl) ac83_ok fun hf => ?_
  by_cases hk : k = 3
  · simp -implicitDefEqProofs [ac83, row_mk, hk, kw, ew, sw, tw, a_, b_, c_, -List.set_cons_succ, -List.set_cons_zero, A.ok, A.val, d_, e_, f_, g_, h_, i_, j_, k_, l_, m_, unA, unD, n_, AOp.total, o_, p_, q_, r_, s_, t_, u_, v_, A.thaw, C.thaw, A.fits, As.fits, C.fits, evs, oks, w_, A.pure, C.pure, A.re, C.re, x_, y_, cut, A.cells, C.rows?, z_, A_, B_, C_, D_, Ob.re, Cs.fits, E_, F_, G_, H_, I_, J_, K_, L_, M_, N_, O_, C.toD, P_, Q_, R_, S_, T_, Obs.fits, U_, eqD, V_, W_, X_, Y_, Z_]
    refine qcall_pure (l1Word_calls s (by omega)) hf rfl ?_
    cases h1 : lettersB s with
    | false => simp -implicitDefEqProofs [h1, hk, hli, Tm.plain, Tm.k, Tm.s, kw, ew, sw, tw, a_, b_, c_, -List.set_cons_succ, -List.set_cons_zero, A.ok, A.val, d_, e_, f_, g_, h_, i_, j_, k_, l_, m_, unA, unD, n_, AOp.total, o_, p_, q_, r_, s_, t_, u_, v_, A.thaw, C.thaw, A.fits, As.fits, C.fits, evs, oks, w_, A.pure, C.pure, A.re, C.re, x_, y_, cut, A.cells, C.rows?, z_, A_, B_, C_, D_, Ob.re, Cs.fits, E_, F_, G_, H_, I_, J_, K_, L_, M_, N_, O_, C.toD, P_, Q_, R_, S_, T_, Obs.fits, U_, eqD, V_, W_, X_, Y_, Z_]
    | true =>
      simp -implicitDefEqProofs [h1, hk, hli, kw, ew, sw, tw, a_, b_, c_, -List.set_cons_succ, -List.set_cons_zero, A.ok, A.val, d_, e_, f_, g_, h_, i_, j_, k_, l_, m_, unA, unD, n_, AOp.total, o_, p_, q_, r_, s_, t_, u_, v_, A.thaw, C.thaw, A.fits, As.fits, C.fits, evs, oks, w_, A.pure, C.pure, A.re, C.re, x_, y_, cut, A.cells, C.rows?, z_, A_, B_, C_, D_, Ob.re, Cs.fits, E_, F_, G_, H_, I_, J_, K_, L_, M_, N_, O_, C.toD, P_, Q_, R_, S_, T_, Obs.fits, U_, eqD, V_, W_, X_, Y_, Z_]
      refine qcall_pure (builtSpec_calls s l.length) hf rfl ?_
      cases h2 : builtB s l.length with
      | true => simp -implicitDefEqProofs [h1, h2, hk, Tm.plain, Tm.k, Tm.s, Tm.kids, kw, ew, sw, tw, a_, b_, c_, -List.set_cons_succ, -List.set_cons_zero, A.ok, A.val, d_, e_, f_, g_, h_, i_, j_, k_, l_, m_, unA, unD, n_, AOp.total, o_, p_, q_, r_, s_, t_, u_, v_, A.thaw, C.thaw, A.fits, As.fits, C.fits, evs, oks, w_, A.pure, C.pure, A.re, C.re, x_, y_, cut, A.cells, C.rows?, z_, A_, B_, C_, D_, Ob.re, Cs.fits, E_, F_, G_, H_, I_, J_, K_, L_, M_, N_, O_, C.toD, P_, Q_, R_, S_, T_, Obs.fits, U_, eqD, V_, W_, X_, Y_, Z_]
      | false =>
        simp -implicitDefEqProofs [h1, h2, hk, kw, ew, sw, tw, a_, b_, c_, -List.set_cons_succ, -List.set_cons_zero, A.ok, A.val, d_, e_, f_, g_, h_, i_, j_, k_, l_, m_, unA, unD, n_, AOp.total, o_, p_, q_, r_, s_, t_, u_, v_, A.thaw, C.thaw, A.fits, As.fits, C.fits, evs, oks, w_, A.pure, C.pure, A.re, C.re, x_, y_, cut, A.cells, C.rows?, z_, A_, B_, C_, D_, Ob.re, Cs.fits, E_, F_, G_, H_, I_, J_, K_, L_, M_, N_, O_, C.toD, P_, Q_, R_, S_, T_, Obs.fits, U_, eqD, V_, W_, X_, Y_, Z_]
        refine qcall_pure (level_calls s) hf rfl ?_
        simp -implicitDefEqProofs [h1, h2, hk, Tm.plain, Tm.k, Tm.s, Tm.kids, kw, ew, sw, tw, a_, b_, c_, -List.set_cons_succ, -List.set_cons_zero, A.ok, A.val, d_, e_, f_, g_, h_, i_, j_, k_, l_, m_, unA, unD, n_, AOp.total, o_, p_, q_, r_, s_, t_, u_, v_, A.thaw, C.thaw, A.fits, As.fits, C.fits, evs, oks, w_, A.pure, C.pure, A.re, C.re, x_, y_, cut, A.cells, C.rows?, z_, A_, B_, C_, D_, Ob.re, Cs.fits, E_, F_, G_, H_, I_, J_, K_, L_, M_, N_, O_, C.toD, P_, Q_, R_, S_, T_, Obs.fits, U_, eqD, V_, W_, X_, Y_, Z_]
  · simp -implicitDefEqProofs [ac83, row_mk, hk, Tm.plain, Tm.k, kw, ew, sw, tw, a_, b_, c_, -List.set_cons_succ, -List.set_cons_zero, A.ok, A.val, d_, e_, f_, g_, h_, i_, j_, k_, l_, m_, unA, unD, n_, AOp.total, o_, p_, q_, r_, s_, t_, u_, v_, A.thaw, C.thaw, A.fits, As.fits, C.fits, evs, oks, w_, A.pure, C.pure, A.re, C.re, x_, y_, cut, A.cells, C.rows?, z_, A_, B_, C_, D_, Ob.re, Cs.fits, E_, F_, G_, H_, I_, J_, K_, L_, M_, N_, O_, C.toD, P_, Q_, R_, S_, T_, Obs.fits, U_, eqD, V_, W_, X_, Y_, Z_]
theorem l4Goal_calls (t : Tm) (ht : t.fits) (H : Heap) : ACalls Try.prog 94 [.agg (t.row.map .d)] H (fun r H' => H' = H ∧ r = .c (.d (.bool (t.plain || t.built || t.cutB)))) := by
  have c1 := cutSpec_calls t ht
  have c2 := plainSpec_calls t ht
  have e : ∀ x y z : Bool, (x || y || z) = (z || x || y) := by decide
  rw [e]
  generalize hc : t.cutB = b1 at c1
  generalize hp : t.plain = b2 at c2
  obtain ⟨k, n, s, l⟩ := t
  obtain ⟨_, _, hs, hl, hkids⟩ := ht
  have hli : inR .i64 (l.length : Int) := small_i64 (by omega) (by omega)
  rw [row_mk] at c1 c2
  simp only [List.map_cons, List.map_nil] at c1 c2
  refine acalls Try.func94 (by kernel_rfl) ac94_ok fun hf => ?_
  simp -implicitDefEqProofs [ac94, row_mk, kw, ew, sw, tw, a_, b_, c_, -List.set_cons_succ, -List.set_cons_zero, A.ok, A.val, d_, e_, f_, g_, h_, i_, j_, k_, l_, m_, unA, unD, n_, AOp.total, o_, p_, q_, r_, s_, t_, u_, v_, A.thaw, C.thaw, A.fits, As.fits, C.fits, evs, oks, w_, A.pure, C.pure, A.re, C.re, x_, y_, cut, A.cells, C.rows?, z_, A_, B_, C_, D_, Ob.re, Cs.fits, E_, F_, G_, H_, I_, J_, K_, L_, M_, N_, O_, C.toD, P_, Q_, R_, S_, T_, Obs.fits, U_, eqD, V_, W_, X_, Y_, Z_]
  refine qcall_pure c1 hf rfl ?_
  cases b1 with
  | true =>
            by_cases hk : k = 3
            · simp -implicitDefEqProofs [hk, hli, kw, ew, sw, tw, a_, b_, c_, -List.set_cons_succ, -List.set_cons_zero, A.ok, A.val, d_, e_, f_, g_, h_, i_, j_, k_, l_, m_, unA, unD, n_, AOp.total, o_, p_, q_, r_, s_, t_, u_, v_, A.thaw, C.thaw, A.fits, As.fits, C.fits, evs, oks, w_, A.pure, C.pure, A.re, C.re, x_, y_, cut, A.cells, C.rows?, z_, A_, B_, C_, D_, Ob.re, Cs.fits, E_, F_, G_, H_, I_, J_, K_, L_, M_, N_, O_, C.toD, P_, Q_, R_, S_, T_, Obs.fits, U_, eqD, V_, W_, X_, Y_, Z_]
            · have hkb : (k == 3) = false := by simpa using hk
              simp -implicitDefEqProofs [hk, hkb, hli, kw, ew, sw, tw, a_, b_, c_, -List.set_cons_succ, -List.set_cons_zero, A.ok, A.val, d_, e_, f_, g_, h_, i_, j_, k_, l_, m_, unA, unD, n_, AOp.total, o_, p_, q_, r_, s_, t_, u_, v_, A.thaw, C.thaw, A.fits, As.fits, C.fits, evs, oks, w_, A.pure, C.pure, A.re, C.re, x_, y_, cut, A.cells, C.rows?, z_, A_, B_, C_, D_, Ob.re, Cs.fits, E_, F_, G_, H_, I_, J_, K_, L_, M_, N_, O_, C.toD, P_, Q_, R_, S_, T_, Obs.fits, U_, eqD, V_, W_, X_, Y_, Z_]
  | false =>
    simp -implicitDefEqProofs [kw, ew, sw, tw, a_, b_, c_, -List.set_cons_succ, -List.set_cons_zero, A.ok, A.val, d_, e_, f_, g_, h_, i_, j_, k_, l_, m_, unA, unD, n_, AOp.total, o_, p_, q_, r_, s_, t_, u_, v_, A.thaw, C.thaw, A.fits, As.fits, C.fits, evs, oks, w_, A.pure, C.pure, A.re, C.re, x_, y_, cut, A.cells, C.rows?, z_, A_, B_, C_, D_, Ob.re, Cs.fits, E_, F_, G_, H_, I_, J_, K_, L_, M_, N_, O_, C.toD, P_, Q_, R_, S_, T_, Obs.fits, U_, eqD, V_, W_, X_, Y_, Z_]
    refine qcall_pure c2 hf rfl ?_
    cases b2 with
    | true =>
            by_cases hk : k = 3
            · simp -implicitDefEqProofs [hk, hli, kw, ew, sw, tw, a_, b_, c_, -List.set_cons_succ, -List.set_cons_zero, A.ok, A.val, d_, e_, f_, g_, h_, i_, j_, k_, l_, m_, unA, unD, n_, AOp.total, o_, p_, q_, r_, s_, t_, u_, v_, A.thaw, C.thaw, A.fits, As.fits, C.fits, evs, oks, w_, A.pure, C.pure, A.re, C.re, x_, y_, cut, A.cells, C.rows?, z_, A_, B_, C_, D_, Ob.re, Cs.fits, E_, F_, G_, H_, I_, J_, K_, L_, M_, N_, O_, C.toD, P_, Q_, R_, S_, T_, Obs.fits, U_, eqD, V_, W_, X_, Y_, Z_]
            · have hkb : (k == 3) = false := by simpa using hk
              simp -implicitDefEqProofs [hk, hkb, hli, kw, ew, sw, tw, a_, b_, c_, -List.set_cons_succ, -List.set_cons_zero, A.ok, A.val, d_, e_, f_, g_, h_, i_, j_, k_, l_, m_, unA, unD, n_, AOp.total, o_, p_, q_, r_, s_, t_, u_, v_, A.thaw, C.thaw, A.fits, As.fits, C.fits, evs, oks, w_, A.pure, C.pure, A.re, C.re, x_, y_, cut, A.cells, C.rows?, z_, A_, B_, C_, D_, Ob.re, Cs.fits, E_, F_, G_, H_, I_, J_, K_, L_, M_, N_, O_, C.toD, P_, Q_, R_, S_, T_, Obs.fits, U_, eqD, V_, W_, X_, Y_, Z_]
    | false =>
      by_cases hk : k = 3
      · simp -implicitDefEqProofs [hk, hli, kw, ew, sw, tw, a_, b_, c_, -List.set_cons_succ, -List.set_cons_zero, A.ok, A.val, d_, e_, f_, g_, h_, i_, j_, k_, l_, m_, unA, unD, n_, AOp.total, o_, p_, q_, r_, s_, t_, u_, v_, A.thaw, C.thaw, A.fits, As.fits, C.fits, evs, oks, w_, A.pure, C.pure, A.re, C.re, x_, y_, cut, A.cells, C.rows?, z_, A_, B_, C_, D_, Ob.re, Cs.fits, E_, F_, G_, H_, I_, J_, K_, L_, M_, N_, O_, C.toD, P_, Q_, R_, S_, T_, Obs.fits, U_, eqD, V_, W_, X_, Y_, Z_]
        refine qcall_pure (builtSpec_calls s l.length) hf rfl ?_
        simp -implicitDefEqProofs [hk, Tm.built, Tm.k, Tm.s, Tm.kids, kw, ew, sw, tw, a_, b_, c_, -List.set_cons_succ, -List.set_cons_zero, A.ok, A.val, d_, e_, f_, g_, h_, i_, j_, k_, l_, m_, unA, unD, n_, AOp.total, o_, p_, q_, r_, s_, t_, u_, v_, A.thaw, C.thaw, A.fits, As.fits, C.fits, evs, oks, w_, A.pure, C.pure, A.re, C.re, x_, y_, cut, A.cells, C.rows?, z_, A_, B_, C_, D_, Ob.re, Cs.fits, E_, F_, G_, H_, I_, J_, K_, L_, M_, N_, O_, C.toD, P_, Q_, R_, S_, T_, Obs.fits, U_, eqD, V_, W_, X_, Y_, Z_]
      · have hkb : (k == 3) = false := by simpa using hk
        simp -implicitDefEqProofs [hk, hkb, Tm.built, Tm.k, kw, ew, sw, tw, a_, b_, c_, -List.set_cons_succ, -List.set_cons_zero, A.ok, A.val, d_, e_, f_, g_, h_, i_, j_, k_, l_, m_, unA, unD, n_, AOp.total, o_, p_, q_, r_, s_, t_, u_, v_, A.thaw, C.thaw, A.fits, As.fits, C.fits, evs, oks, w_, A.pure, C.pure, A.re, C.re, x_, y_, cut, A.cells, C.rows?, z_, A_, B_, C_, D_, Ob.re, Cs.fits, E_, F_, G_, H_, I_, J_, K_, L_, M_, N_, O_, C.toD, P_, Q_, R_, S_, T_, Obs.fits, U_, eqD, V_, W_, X_, Y_, Z_]
theorem goalSpec_calls (t : Tm) (ht : t.fits) (H : Heap) : ACalls Try.prog 77 [.agg (t.row.map .d)] H (fun r H' => H' = H ∧ r = .c (.d (.bool t.goal))) := by
  refine acalls Try.func77 (by kernel_rfl) ac77_ok fun hf => ?_
  simp -implicitDefEqProofs [ac77, row_len, take_row, pure_d, re_d, kw, ew, sw, tw, a_, b_, c_, -List.set_cons_succ, -List.set_cons_zero, A.ok, A.val, d_, e_, f_, g_, h_, i_, j_, k_, l_, m_, unA, unD, n_, AOp.total, o_, p_, q_, r_, s_, t_, u_, v_, A.thaw, C.thaw, A.fits, As.fits, C.fits, evs, oks, w_, A.pure, C.pure, A.re, C.re, x_, y_, cut, A.cells, C.rows?, z_, A_, B_, C_, D_, Ob.re, Cs.fits, E_, F_, G_, H_, I_, J_, K_, L_, M_, N_, O_, C.toD, P_, Q_, R_, S_, T_, Obs.fits, U_, eqD, V_, W_, X_, Y_, Z_]
  refine qcall_pure (tvSpec_calls t ht) hf rfl ?_
  cases h : t.valid with
  | false => simp -implicitDefEqProofs [h, Tm.goal, row_len, take_row, kw, ew, sw, tw, a_, b_, c_, -List.set_cons_succ, -List.set_cons_zero, A.ok, A.val, d_, e_, f_, g_, h_, i_, j_, k_, l_, m_, unA, unD, n_, AOp.total, o_, p_, q_, r_, s_, t_, u_, v_, A.thaw, C.thaw, A.fits, As.fits, C.fits, evs, oks, w_, A.pure, C.pure, A.re, C.re, x_, y_, cut, A.cells, C.rows?, z_, A_, B_, C_, D_, Ob.re, Cs.fits, E_, F_, G_, H_, I_, J_, K_, L_, M_, N_, O_, C.toD, P_, Q_, R_, S_, T_, Obs.fits, U_, eqD, V_, W_, X_, Y_, Z_]
  | true =>
    simp -implicitDefEqProofs [h, row_len, take_row, pure_d, re_d, kw, ew, sw, tw, a_, b_, c_, -List.set_cons_succ, -List.set_cons_zero, A.ok, A.val, d_, e_, f_, g_, h_, i_, j_, k_, l_, m_, unA, unD, n_, AOp.total, o_, p_, q_, r_, s_, t_, u_, v_, A.thaw, C.thaw, A.fits, As.fits, C.fits, evs, oks, w_, A.pure, C.pure, A.re, C.re, x_, y_, cut, A.cells, C.rows?, z_, A_, B_, C_, D_, Ob.re, Cs.fits, E_, F_, G_, H_, I_, J_, K_, L_, M_, N_, O_, C.toD, P_, Q_, R_, S_, T_, Obs.fits, U_, eqD, V_, W_, X_, Y_, Z_]
    refine qcall_pure (l4Goal_calls t ht) hf rfl ?_
    simp -implicitDefEqProofs [h, Tm.goal, kw, ew, sw, tw, a_, b_, c_, -List.set_cons_succ, -List.set_cons_zero, A.ok, A.val, d_, e_, f_, g_, h_, i_, j_, k_, l_, m_, unA, unD, n_, AOp.total, o_, p_, q_, r_, s_, t_, u_, v_, A.thaw, C.thaw, A.fits, As.fits, C.fits, evs, oks, w_, A.pure, C.pure, A.re, C.re, x_, y_, cut, A.cells, C.rows?, z_, A_, B_, C_, D_, Ob.re, Cs.fits, E_, F_, G_, H_, I_, J_, K_, L_, M_, N_, O_, C.toD, P_, Q_, R_, S_, T_, Obs.fits, U_, eqD, V_, W_, X_, Y_, Z_]
theorem goalImpl_calls (t : Tm) (ht : t.fits) (H : Heap) : ACalls Try.prog 100 [.agg (t.row.map .d)] H (fun r H' => H' = H ∧ r = .c (.d (.bool t.goal))) := by
  refine acalls Try.func100 (by kernel_rfl) ac100_ok fun hf => ?_
  simp -implicitDefEqProofs [ac100, row_len, take_row, pure_d, re_d, kw, ew, sw, tw, a_, b_, c_, -List.set_cons_succ, -List.set_cons_zero, A.ok, A.val, d_, e_, f_, g_, h_, i_, j_, k_, l_, m_, unA, unD, n_, AOp.total, o_, p_, q_, r_, s_, t_, u_, v_, A.thaw, C.thaw, A.fits, As.fits, C.fits, evs, oks, w_, A.pure, C.pure, A.re, C.re, x_, y_, cut, A.cells, C.rows?, z_, A_, B_, C_, D_, Ob.re, Cs.fits, E_, F_, G_, H_, I_, J_, K_, L_, M_, N_, O_, C.toD, P_, Q_, R_, S_, T_, Obs.fits, U_, eqD, V_, W_, X_, Y_, Z_]
  refine qcall_pure (tvImpl_calls t ht) hf rfl ?_
  cases h : t.valid with
  | false => simp -implicitDefEqProofs [h, Tm.goal, row_len, take_row, kw, ew, sw, tw, a_, b_, c_, -List.set_cons_succ, -List.set_cons_zero, A.ok, A.val, d_, e_, f_, g_, h_, i_, j_, k_, l_, m_, unA, unD, n_, AOp.total, o_, p_, q_, r_, s_, t_, u_, v_, A.thaw, C.thaw, A.fits, As.fits, C.fits, evs, oks, w_, A.pure, C.pure, A.re, C.re, x_, y_, cut, A.cells, C.rows?, z_, A_, B_, C_, D_, Ob.re, Cs.fits, E_, F_, G_, H_, I_, J_, K_, L_, M_, N_, O_, C.toD, P_, Q_, R_, S_, T_, Obs.fits, U_, eqD, V_, W_, X_, Y_, Z_]
  | true =>
    simp -implicitDefEqProofs [h, row_len, take_row, pure_d, re_d, kw, ew, sw, tw, a_, b_, c_, -List.set_cons_succ, -List.set_cons_zero, A.ok, A.val, d_, e_, f_, g_, h_, i_, j_, k_, l_, m_, unA, unD, n_, AOp.total, o_, p_, q_, r_, s_, t_, u_, v_, A.thaw, C.thaw, A.fits, As.fits, C.fits, evs, oks, w_, A.pure, C.pure, A.re, C.re, x_, y_, cut, A.cells, C.rows?, z_, A_, B_, C_, D_, Ob.re, Cs.fits, E_, F_, G_, H_, I_, J_, K_, L_, M_, N_, O_, C.toD, P_, Q_, R_, S_, T_, Obs.fits, U_, eqD, V_, W_, X_, Y_, Z_]
    refine qcall_pure (plainImpl_calls t ht) hf rfl ?_
    cases h1 : t.plain with
    | true => simp -implicitDefEqProofs [h, h1, Tm.goal, row_len, take_row, kw, ew, sw, tw, a_, b_, c_, -List.set_cons_succ, -List.set_cons_zero, A.ok, A.val, d_, e_, f_, g_, h_, i_, j_, k_, l_, m_, unA, unD, n_, AOp.total, o_, p_, q_, r_, s_, t_, u_, v_, A.thaw, C.thaw, A.fits, As.fits, C.fits, evs, oks, w_, A.pure, C.pure, A.re, C.re, x_, y_, cut, A.cells, C.rows?, z_, A_, B_, C_, D_, Ob.re, Cs.fits, E_, F_, G_, H_, I_, J_, K_, L_, M_, N_, O_, C.toD, P_, Q_, R_, S_, T_, Obs.fits, U_, eqD, V_, W_, X_, Y_, Z_]
    | false =>
      simp -implicitDefEqProofs [h, h1, row_len, take_row, pure_d, re_d, kw, ew, sw, tw, a_, b_, c_, -List.set_cons_succ, -List.set_cons_zero, A.ok, A.val, d_, e_, f_, g_, h_, i_, j_, k_, l_, m_, unA, unD, n_, AOp.total, o_, p_, q_, r_, s_, t_, u_, v_, A.thaw, C.thaw, A.fits, As.fits, C.fits, evs, oks, w_, A.pure, C.pure, A.re, C.re, x_, y_, cut, A.cells, C.rows?, z_, A_, B_, C_, D_, Ob.re, Cs.fits, E_, F_, G_, H_, I_, J_, K_, L_, M_, N_, O_, C.toD, P_, Q_, R_, S_, T_, Obs.fits, U_, eqD, V_, W_, X_, Y_, Z_]
      refine qcall_pure (isBuilt_calls t ht) hf rfl ?_
      cases h2 : t.built with
      | true => simp -implicitDefEqProofs [h, h1, h2, Tm.goal, row_len, take_row, kw, ew, sw, tw, a_, b_, c_, -List.set_cons_succ, -List.set_cons_zero, A.ok, A.val, d_, e_, f_, g_, h_, i_, j_, k_, l_, m_, unA, unD, n_, AOp.total, o_, p_, q_, r_, s_, t_, u_, v_, A.thaw, C.thaw, A.fits, As.fits, C.fits, evs, oks, w_, A.pure, C.pure, A.re, C.re, x_, y_, cut, A.cells, C.rows?, z_, A_, B_, C_, D_, Ob.re, Cs.fits, E_, F_, G_, H_, I_, J_, K_, L_, M_, N_, O_, C.toD, P_, Q_, R_, S_, T_, Obs.fits, U_, eqD, V_, W_, X_, Y_, Z_]
      | false =>
        simp -implicitDefEqProofs [h, h1, h2, row_len, take_row, pure_d, re_d, kw, ew, sw, tw, a_, b_, c_, -List.set_cons_succ, -List.set_cons_zero, A.ok, A.val, d_, e_, f_, g_, h_, i_, j_, k_, l_, m_, unA, unD, n_, AOp.total, o_, p_, q_, r_, s_, t_, u_, v_, A.thaw, C.thaw, A.fits, As.fits, C.fits, evs, oks, w_, A.pure, C.pure, A.re, C.re, x_, y_, cut, A.cells, C.rows?, z_, A_, B_, C_, D_, Ob.re, Cs.fits, E_, F_, G_, H_, I_, J_, K_, L_, M_, N_, O_, C.toD, P_, Q_, R_, S_, T_, Obs.fits, U_, eqD, V_, W_, X_, Y_, Z_]
        refine qcall_pure (cutImpl_calls t ht) hf rfl ?_
        simp -implicitDefEqProofs [h, h1, h2, Tm.goal, kw, ew, sw, tw, a_, b_, c_, -List.set_cons_succ, -List.set_cons_zero, A.ok, A.val, d_, e_, f_, g_, h_, i_, j_, k_, l_, m_, unA, unD, n_, AOp.total, o_, p_, q_, r_, s_, t_, u_, v_, A.thaw, C.thaw, A.fits, As.fits, C.fits, evs, oks, w_, A.pure, C.pure, A.re, C.re, x_, y_, cut, A.cells, C.rows?, z_, A_, B_, C_, D_, Ob.re, Cs.fits, E_, F_, G_, H_, I_, J_, K_, L_, M_, N_, O_, C.toD, P_, Q_, R_, S_, T_, Obs.fits, U_, eqD, V_, W_, X_, Y_, Z_]
end Go.Proofs.Ytaegeehpajlebaa
