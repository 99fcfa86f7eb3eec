/-
  The functions that FnExactCodeSlots reaches, each by what it answers.
  Conditions: none.
-/
import Derived.Test.YtokgioccfeebkaaBase
open Go Go.AM Go.Proofs
namespace Go.Proofs.Ytokgioccfeebkaa
open Go.ChangeShapes Go.WideShapes Go.ChangeAt Go.RowKit
set_option linter.unusedVariables false
set_option linter.unusedSimpArgs false
set_option maxRecDepth 100000
-- 9 loop.example/prologserver/laws.FnExactCodeSlots params 1 ntmps 27
def ac9 : Cd := .seq (.region [⟨(some 2), .mv (.k (.c (.d (.bool false)))), none⟩] [2])
  (.seq (.region [⟨(some 3), .mv (.k (.c (.d (.int .i64 1048576)))), none⟩] [])
  (.seq (.region [⟨(some 7), .mv (.t 0), none⟩,
      ⟨(some 8), .mv (.t 3), none⟩,
      ⟨(some 9), .call false 36 [(.t 7), (.t 8)], none⟩,
      ⟨(some 3), .mv (.t 9), none⟩] [7, 8, 9])
  (.seq (.seq (.region [⟨(some 10), .mv (.t 3), none⟩,
        ⟨(some 11), .bin .lss (.t 10) (.k (.c (.d (.int .i64 0)))), none⟩] [3, 10])
    (.cond (.t 11)
      (.seq (.region [⟨(some 2), .mv (.k (.c (.d (.bool true)))), none⟩] [0, 11])
      (.ret))
      (.skip)))
  (.seq (.region [⟨(some 12), .mv (.t 0), none⟩,
      ⟨(some 13), .qcall 38 [(.t 12)], none⟩,
      ⟨(some 14), .qcall 37 [(.t 13)], none⟩,
      ⟨(some 4), .mv (.t 14), none⟩] [2, 11, 12, 13, 14])
  (.seq (.region [⟨(some 15), .mv (.t 0), none⟩,
      ⟨(some 16), .qcall 38 [(.t 15)], none⟩,
      ⟨(some 5), .mv (.t 16), none⟩] [15, 16])
  (.seq (.region [⟨(some 17), .mv (.t 5), none⟩,
      ⟨(some 18), .qcall 39 [(.t 17)], none⟩,
      ⟨(some 6), .mv (.t 18), none⟩] [17, 18])
  (.seq (.seq (.region [⟨(some 19), .mv (.t 6), none⟩,
        ⟨(some 20), .mv (.t 4), none⟩,
        ⟨(some 21), .bin .neq (.t 19) (.t 20), none⟩] [4, 6, 19, 20])
    (.cond (.t 21)
      (.seq (.region [⟨(some 2), .mv (.k (.c (.d (.bool false)))), none⟩] [0, 5, 21])
      (.ret))
      (.skip)))
  (.seq (.seq (.region [⟨(some 22), .mv (.t 5), none⟩,
        ⟨(some 23), .mv (.t 0), none⟩,
        ⟨(some 24), .qcall 38 [(.t 23)], none⟩,
        ⟨(some 25), .qcall 40 [(.t 22), (.t 24)], none⟩,
        ⟨(some 26), .un .not (.t 25), none⟩] [0, 2, 5, 21, 22, 23, 24, 25])
    (.cond (.t 26)
      (.seq (.region [⟨(some 2), .mv (.k (.c (.d (.bool false)))), none⟩] [26])
      (.ret))
      (.skip)))
  (.seq (.region [⟨(some 2), .mv (.k (.c (.d (.bool true)))), none⟩] [26])
  (.ret))))))))))
theorem ac9_ok : cFunc Try.prog [1000037, 1000038, 1000039, 1000040] [(0, [2], []), (1, [], []), (2, [7, 8, 9], []), (3, [3, 10], []), (4, [0, 11], []), (5, [2, 11, 12, 13, 14], []), (6, [15, 16], []), (7, [17, 18], []), (8, [4, 6, 19, 20], []), (9, [0, 5, 21], []), (10, [0, 2, 5, 21, 22, 23, 24, 25], []), (11, [26], []), (12, [26], [])] Try.f9 = some (ac9, [.tmp 2], 27) := by kernel_rfl
-- 36 loop.example/prologserver/laws.szInstrS params 2 ntmps 27
-- loop head live: [0, 1, 5]
def ac36 : Cd := .seq (.region [⟨(some 4), .mv (.k (.c (.d (.int .i64 0)))), none⟩] [4])
  (.seq (.region [⟨(some 6), .mv (.t 1), none⟩,
      ⟨(some 7), .mv (.t 0), none⟩,
      ⟨(some 8), .len 1 (.t 7), none⟩,
      ⟨(some 9), .bin .sub (.t 6) (.t 8), none⟩,
      ⟨(some 1), .mv (.t 9), none⟩] [6, 7, 8, 9])
  (.seq (.seq (.region [⟨(some 10), .mv (.t 1), none⟩,
        ⟨(some 11), .bin .lss (.t 10) (.k (.c (.d (.int .i64 0)))), none⟩] [10])
    (.cond (.t 11)
      (.seq (.region [⟨(some 4), .mv (.k (.c (.d (.int .i64 (-1))))), none⟩] [0, 1, 11])
      (.ret))
      (.skip)))
  (.seq (.seq (.region [⟨(some 5), .mv (.k (.c (.d (.int .i64 0)))), none⟩] [4, 11])
    (.block 0 (.loop (.seq (.seq (.region [⟨(some 12), .mv (.t 5), none⟩,
              ⟨(some 13), .mv (.t 0), none⟩,
              ⟨(some 14), .len 1 (.t 13), none⟩,
              ⟨(some 15), .bin .lss (.t 12) (.t 14), none⟩] [12, 13, 14])
          (.cond (.t 15)
            (.skip)
            (.exit 0)))
        (.seq (.block 1 (.seq (.region [⟨(some 18), .mv (.t 0), none⟩,
                ⟨(some 19), .mv (.t 5), none⟩,
                ⟨(some 20), .indexAddr 4 (.t 18) (.t 19), none⟩,
                ⟨(some 21), .load (some 4) (.t 20), none⟩,
                ⟨(some 22), .mv (.t 1), none⟩,
                ⟨(some 23), .call false 70 [(.t 21), (.t 22)], none⟩,
                ⟨(some 1), .mv (.t 23), none⟩] [15, 18, 19, 20, 21, 22, 23])
            (.seq (.region [⟨(some 24), .mv (.t 1), none⟩,
                ⟨(some 25), .bin .lss (.t 24) (.k (.c (.d (.int .i64 0)))), none⟩] [24])
            (.cond (.t 25)
              (.seq (.region [⟨(some 4), .mv (.k (.c (.d (.int .i64 (-1))))), none⟩] [0, 1, 5, 25])
              (.ret))
              (.skip)))))
        (.region [⟨(some 16), .mv (.t 5), none⟩,
          ⟨(some 17), .bin .add (.t 16) (.k (.c (.d (.int .i64 1)))), none⟩,
          ⟨(some 5), .mv (.t 17), none⟩] [4, 16, 17, 25]))))))
  (.seq (.region [⟨(some 26), .mv (.t 1), none⟩,
      ⟨(some 4), .mv (.t 26), none⟩] [1, 26])
  (.ret)))))
theorem ac36_ok : cFunc Try.prog [] [(0, [4], []), (1, [6, 7, 8, 9], []), (2, [10], []), (3, [0, 1, 11], []), (4, [4, 11], []), (5, [12, 13, 14], []), (7, [15, 18, 19, 20, 21, 22, 23], []), (8, [24], []), (9, [0, 1, 5, 25], []), (6, [4, 16, 17, 25], []), (10, [1, 26], [])] Try.f36 = some (ac36, [.tmp 4], 27) := by kernel_rfl
-- 37 loop.example/prologserver/spec.CodeSlots params 1 ntmps 32
-- loop head live: [0, 3, 4]
def ac37 : Cd := .seq (.region [⟨(some 2), .mv (.k (.c (.d (.int .i64 0)))), none⟩] [2])
  (.seq (.region [⟨(some 3), .mv (.k (.c (.d (.int .i64 4)))), none⟩] [])
  (.seq (.seq (.region [⟨(some 4), .mv (.k (.c (.d (.int .i64 0)))), none⟩] [])
    (.block 0 (.loop (.seq (.seq (.region [⟨(some 5), .mv (.t 4), none⟩,
              ⟨(some 6), .mv (.t 0), none⟩,
              ⟨(some 7), .len 1 (.t 6), none⟩,
              ⟨(some 8), .bin .lss (.t 5) (.t 7), none⟩] [5, 6, 7])
          (.cond (.t 8)
            (.skip)
            (.exit 0)))
        (.seq (.block 1 (.seq (.region [⟨(some 11), .mv (.t 0), none⟩,
                ⟨(some 12), .mv (.t 4), none⟩,
                ⟨(some 13), .indexAddr 4 (.t 11) (.t 12), none⟩,
                ⟨(some 14), .load (some 4) (.t 13), none⟩,
                ⟨(some 15), .qcall 71 [(.t 14)], none⟩,
                ⟨(some 16), .mv (.t 3), none⟩,
                ⟨(some 17), .bin .geq (.t 15) (.t 16), none⟩,
                ⟨(some 18), .mv (.t 17), none⟩,
                ⟨(some 19), .mv (.t 3), some (18, true)⟩,
                ⟨(some 20), .bin .lss (.t 19) (.k (.c (.d (.int .i64 9223372036854775807)))), some (18, true)⟩,
                ⟨(some 21), .pick (.t 18) (.t 20) (.k (.c (.d (.bool false)))), none⟩] [8, 11, 12, 13, 14, 15, 16, 17, 18, 19, 20])
            (.cond (.t 21)
              (.seq (.region [⟨(some 22), .mv (.t 0), none⟩,
                  ⟨(some 23), .mv (.t 4), none⟩,
                  ⟨(some 24), .indexAddr 4 (.t 22) (.t 23), none⟩,
                  ⟨(some 25), .load (some 4) (.t 24), none⟩,
                  ⟨(some 26), .qcall 71 [(.t 25)], none⟩,
                  ⟨(some 3), .mv (.t 26), none⟩] [21, 22, 23, 24, 25, 26])
              (.seq (.region [⟨(some 27), .mv (.t 3), none⟩,
                  ⟨(some 28), .bin .lss (.t 27) (.k (.c (.d (.int .i64 9223372036854775807)))), none⟩] [27])
              (.cond (.t 28)
                (.region [⟨(some 29), .mv (.t 3), none⟩,
                  ⟨(some 30), .bin .add (.t 29) (.k (.c (.d (.int .i64 1)))), none⟩,
                  ⟨(some 3), .mv (.t 30), none⟩] [28, 29, 30])
                (.skip))))
              (.skip))))
        (.region [⟨(some 9), .mv (.t 4), none⟩,
          ⟨(some 10), .bin .add (.t 9) (.k (.c (.d (.int .i64 1)))), none⟩,
          ⟨(some 4), .mv (.t 10), none⟩] [9, 10, 21, 28]))))))
  (.seq (.region [⟨(some 31), .mv (.t 3), none⟩,
      ⟨(some 2), .mv (.t 31), none⟩] [3, 31])
  (.ret))))
theorem ac37_ok : cFunc Try.prog [1000071] [(0, [2], []), (1, [], []), (2, [], []), (3, [5, 6, 7], []), (5, [8, 11, 12, 13, 14, 15, 16, 17, 18, 19, 20], []), (6, [21, 22, 23, 24, 25, 26], []), (7, [27], []), (8, [28, 29, 30], []), (4, [9, 10, 21, 28], []), (9, [3, 31], [])] Try.f37 = some (ac37, [.tmp 2], 32) := by kernel_rfl
-- 38 loop.example/prologserver/laws.toInstrS params 1 ntmps 23
-- loop head live: [0, 3, 4]
def ac38 : Cd := .seq (.region [⟨(some 2), .mv (.k (.c (.full []))), none⟩] [2])
  (.seq (.region [⟨(some 5), .mv (.t 0), none⟩,
      ⟨(some 6), .len 1 (.t 5), none⟩,
      ⟨(some 7), .mkSlice [(.int .i64 0), (.int .i64 0), (.int .i64 0), (.str [])] (.t 6), none⟩,
      ⟨(some 3), .mv (.t 7), none⟩] [5, 6, 7])
  (.seq (.seq (.region [⟨(some 4), .mv (.k (.c (.d (.int .i64 0)))), none⟩] [])
    (.block 0 (.loop (.seq (.seq (.region [⟨(some 8), .mv (.t 4), none⟩,
              ⟨(some 9), .mv (.t 0), none⟩,
              ⟨(some 10), .len 1 (.t 9), none⟩,
              ⟨(some 11), .bin .lss (.t 8) (.t 10), none⟩] [8, 9, 10])
          (.cond (.t 11)
            (.skip)
            (.exit 0)))
        (.seq (.block 1 (.region [⟨(some 14), .mv (.t 3), none⟩,
              ⟨(some 15), .mv (.t 4), none⟩,
              ⟨(some 16), .mv (.t 0), none⟩,
              ⟨(some 17), .mv (.t 4), none⟩,
              ⟨(some 18), .indexAddr 4 (.t 16) (.t 17), none⟩,
              ⟨(some 19), .load (some 4) (.t 18), none⟩,
              ⟨(some 20), .qcall 72 [(.t 19)], none⟩,
              ⟨(some 21), .indexAddr 4 (.t 14) (.t 15), none⟩,
              ⟨none, .store 4 (.t 21) (.t 20), none⟩] [11, 14, 15, 16, 17, 18, 19, 20, 21]))
        (.region [⟨(some 12), .mv (.t 4), none⟩,
          ⟨(some 13), .bin .add (.t 12) (.k (.c (.d (.int .i64 1)))), none⟩,
          ⟨(some 4), .mv (.t 13), none⟩] [12, 13]))))))
  (.seq (.region [⟨(some 22), .mv (.t 3), none⟩,
      ⟨(some 2), .mv (.t 22), none⟩] [3, 22])
  (.ret))))
theorem ac38_ok : cFunc Try.prog [1000072] [(0, [2], []), (1, [5, 6, 7], []), (2, [], []), (3, [8, 9, 10], []), (5, [11, 14, 15, 16, 17, 18, 19, 20, 21], []), (4, [12, 13], []), (6, [3, 22], [])] Try.f38 = some (ac38, [.tmp 2], 23) := by kernel_rfl
-- 39 loop.example/prologserver/impl.CodeSlots params 1 ntmps 37
-- loop head live: [3, 7, 8, 9]
def ac39 : Cd := .seq (.region [⟨(some 2), .mv (.k (.c (.d (.int .i64 0)))), none⟩] [2])
  (.seq (.region [⟨(some 3), .mv (.k (.c (.d (.int .i64 4)))), none⟩] [])
  (.seq (.seq (.region [⟨(some 7), .mv (.t 0), none⟩,
        ⟨(some 8), .len 1 (.t 7), none⟩,
        ⟨(some 9), .mv (.k (.c (.d (.int .i64 0)))), none⟩] [0])
    (.block 0 (.loop (.seq (.region [⟨(some 10), .bin .lss (.t 9) (.t 8), none⟩] [])
        (.seq (.cond (.t 10)
            (.skip)
            (.exit 0))
        (.seq (.block 1 (.seq (.region [⟨(some 11), .indexAddr 4 (.t 7) (.t 9), none⟩,
                ⟨(some 12), .load (some 4) (.t 11), none⟩,
                ⟨(some 5), .alloc [(.d (.int .i64 0)), (.d (.int .i64 0)), (.d (.int .i64 0)), (.d (.str []))], none⟩,
                ⟨none, .store 4 (.t 5) (.t 12), none⟩] [10, 11, 12])
            (.seq (.region [⟨(some 6), .mv (.k (.c (.d (.int .i64 (-1))))), none⟩] [])
            (.seq (.seq (.region [⟨(some 13), .fieldAddr 0 (.t 5), none⟩,
                  ⟨(some 14), .load none (.t 13), none⟩] [13])
              (.block 2 (.seq (.seq (.region [⟨(some 16), .bin .eql (.t 14) (.k (.c (.d (.int .i64 1)))), none⟩,
                      ⟨(some 15), .mv (.t 16), none⟩] [16])
                  (.cond (.t 15)
                    (.skip)
                    (.seq (.region [⟨(some 17), .bin .eql (.t 14) (.k (.c (.d (.int .i64 4)))), none⟩,
                        ⟨(some 15), .mv (.t 17), none⟩] [17])
                    (.cond (.t 15)
                      (.skip)
                      (.seq (.region [⟨(some 18), .bin .eql (.t 14) (.k (.c (.d (.int .i64 5)))), none⟩,
                          ⟨(some 15), .mv (.t 18), none⟩] [18])
                      (.cond (.t 15)
                        (.skip)
                        (.seq (.region [⟨(some 19), .bin .eql (.t 14) (.k (.c (.d (.int .i64 8)))), none⟩,
                            ⟨(some 15), .mv (.t 19), none⟩] [19])
                        (.cond (.t 15)
                          (.skip)
                          (.region [⟨(some 20), .bin .eql (.t 14) (.k (.c (.d (.int .i64 9)))), none⟩,
                            ⟨(some 15), .mv (.t 20), none⟩] [20])))))))))
                (.cond (.t 15)
                  (.region [⟨(some 21), .fieldAddr 1 (.t 5), none⟩,
                    ⟨(some 22), .load none (.t 21), none⟩,
                    ⟨(some 6), .mv (.t 22), none⟩] [5, 14, 15, 21, 22])
                  (.seq (.region [⟨(some 24), .bin .eql (.t 14) (.k (.c (.d (.int .i64 7)))), none⟩,
                      ⟨(some 23), .mv (.t 24), none⟩] [14, 15, 24])
                  (.cond (.t 23)
                    (.region [⟨(some 25), .fieldAddr 2 (.t 5), none⟩,
                      ⟨(some 26), .load none (.t 25), none⟩,
                      ⟨(some 6), .mv (.t 26), none⟩] [5, 23, 25, 26])
                    (.skip)))))))
            (.seq (.region [⟨(some 27), .mv (.t 6), none⟩,
                ⟨(some 28), .mv (.t 3), none⟩,
                ⟨(some 29), .bin .geq (.t 27) (.t 28), none⟩] [5, 23, 27, 28])
            (.cond (.t 29)
              (.seq (.region [⟨(some 30), .mv (.t 6), none⟩,
                  ⟨(some 3), .mv (.t 30), none⟩] [6, 29, 30])
              (.seq (.region [⟨(some 31), .mv (.t 3), none⟩,
                  ⟨(some 32), .bin .lss (.t 31) (.k (.c (.d (.int .i64 9223372036854775807)))), none⟩] [31])
              (.cond (.t 32)
                (.region [⟨(some 33), .mv (.t 3), none⟩,
                  ⟨(some 34), .bin .add (.t 33) (.k (.c (.d (.int .i64 1)))), none⟩,
                  ⟨(some 3), .mv (.t 34), none⟩] [32, 33, 34])
                (.skip))))
              (.skip)))))))
        (.region [⟨(some 35), .bin .add (.t 9) (.k (.c (.d (.int .i64 1)))), none⟩,
          ⟨(some 9), .mv (.t 35), none⟩] [6, 29, 32, 35])))))))
  (.seq (.region [⟨(some 36), .mv (.t 3), none⟩,
      ⟨(some 2), .mv (.t 36), none⟩] [3, 36])
  (.ret))))
theorem ac39_ok : cFunc Try.prog [] [(0, [2], []), (1, [], []), (2, [0], []), (3, [], []), (4, [10, 11, 12], []), (5, [], []), (6, [13], []), (7, [16], []), (8, [17], []), (9, [18], []), (10, [19], []), (11, [20], []), (12, [5, 14, 15, 21, 22], []), (13, [14, 15, 24], []), (14, [5, 23, 25, 26], []), (15, [5, 23, 27, 28], []), (16, [6, 29, 30], []), (17, [31], []), (18, [32, 33, 34], []), (19, [6, 29, 32, 35], []), (20, [3, 36], [])] Try.f39 = some (ac39, [.tmp 2], 37) := by kernel_rfl
-- 40 loop.example/prologserver/laws.eqInstrS params 2 ntmps 27
-- loop head live: [0, 1, 5]
def ac40 : Cd := .seq (.region [⟨(some 4), .mv (.k (.c (.d (.bool false)))), none⟩] [4])
  (.seq (.seq (.region [⟨(some 6), .mv (.t 0), none⟩,
        ⟨(some 7), .len 1 (.t 6), none⟩,
        ⟨(some 8), .mv (.t 1), none⟩,
        ⟨(some 9), .len 1 (.t 8), none⟩,
        ⟨(some 10), .bin .neq (.t 7) (.t 9), none⟩] [6, 7, 8, 9])
    (.cond (.t 10)
      (.seq (.region [⟨(some 4), .mv (.k (.c (.d (.bool false)))), none⟩] [0, 1, 10])
      (.ret))
      (.skip)))
  (.seq (.seq (.region [⟨(some 5), .mv (.k (.c (.d (.int .i64 0)))), none⟩] [4, 10])
    (.block 0 (.loop (.seq (.seq (.region [⟨(some 11), .mv (.t 5), none⟩,
              ⟨(some 12), .mv (.t 0), none⟩,
              ⟨(some 13), .len 1 (.t 12), none⟩,
              ⟨(some 14), .bin .lss (.t 11) (.t 13), none⟩] [11, 12, 13])
          (.cond (.t 14)
            (.skip)
            (.exit 0)))
        (.seq (.block 1 (.seq (.region [⟨(some 17), .mv (.t 0), none⟩,
                ⟨(some 18), .mv (.t 5), none⟩,
                ⟨(some 19), .indexAddr 4 (.t 17) (.t 18), none⟩,
                ⟨(some 21), .mv (.t 1), none⟩,
                ⟨(some 22), .mv (.t 5), none⟩,
                ⟨(some 23), .indexAddr 4 (.t 21) (.t 22), none⟩,
                ⟨(some 20), .load (some 4) (.t 19), none⟩,
                ⟨(some 24), .load (some 4) (.t 23), none⟩,
                ⟨(some 25), .qcall 73 [(.t 20), (.t 24)], none⟩,
                ⟨(some 26), .un .not (.t 25), none⟩] [14, 17, 18, 19, 20, 21, 22, 23, 24, 25])
            (.cond (.t 26)
              (.seq (.region [⟨(some 4), .mv (.k (.c (.d (.bool false)))), none⟩] [0, 1, 5, 26])
              (.ret))
              (.skip))))
        (.region [⟨(some 15), .mv (.t 5), none⟩,
          ⟨(some 16), .bin .add (.t 15) (.k (.c (.d (.int .i64 1)))), none⟩,
          ⟨(some 5), .mv (.t 16), none⟩] [4, 15, 16, 26]))))))
  (.seq (.region [⟨(some 4), .mv (.k (.c (.d (.bool true)))), none⟩] [])
  (.ret))))
theorem ac40_ok : cFunc Try.prog [1000073] [(0, [4], []), (1, [6, 7, 8, 9], []), (2, [0, 1, 10], []), (3, [4, 10], []), (4, [11, 12, 13], []), (6, [14, 17, 18, 19, 20, 21, 22, 23, 24, 25], [0, 1, 2, 4, 5, 6, 3, 7, 8, 9]), (7, [0, 1, 5, 26], []), (5, [4, 15, 16, 26], []), (8, [], [])] Try.f40 = some (ac40, [.tmp 4], 27) := by kernel_rfl
-- 70 loop.example/prologserver/laws.szInstr params 2 ntmps 13
def ac70 : Cd := .seq (.region [⟨(some 2), .box (.t 0), none⟩,
      ⟨(some 4), .mv (.k (.c (.d (.int .i64 0)))), none⟩] [0, 4])
  (.seq (.region [⟨(some 5), .mv (.t 1), none⟩,
      ⟨(some 6), .fieldAddr 3 (.t 2), none⟩,
      ⟨(some 7), .load none (.t 6), none⟩,
      ⟨(some 8), .len 0 (.t 7), none⟩,
      ⟨(some 9), .bin .sub (.t 5) (.t 8), none⟩,
      ⟨(some 1), .mv (.t 9), none⟩] [2, 5, 6, 7, 8, 9])
  (.seq (.seq (.region [⟨(some 10), .mv (.t 1), none⟩,
        ⟨(some 11), .bin .lss (.t 10) (.k (.c (.d (.int .i64 0)))), none⟩] [10])
    (.cond (.t 11)
      (.seq (.region [⟨(some 4), .mv (.k (.c (.d (.int .i64 (-1))))), none⟩] [1, 11])
      (.ret))
      (.skip)))
  (.seq (.region [⟨(some 12), .mv (.t 1), none⟩,
      ⟨(some 4), .mv (.t 12), none⟩] [1, 11, 12])
  (.ret))))
theorem ac70_ok : cFunc Try.prog [] [(0, [0, 4], []), (1, [2, 5, 6, 7, 8, 9], []), (2, [10], []), (3, [1, 11], []), (4, [1, 11, 12], [])] Try.f70 = some (ac70, [.tmp 4], 13) := by kernel_rfl
-- 71 loop.example/prologserver/spec.l8Uses params 1 ntmps 17
def ac71 : Cd := .seq (.region [⟨(some 1), .box (.t 0), none⟩,
      ⟨(some 2), .mv (.k (.c (.d (.int .i64 0)))), none⟩] [0, 2])
  (.seq (.seq (.region [⟨(some 3), .fieldAddr 0 (.t 1), none⟩,
        ⟨(some 4), .load none (.t 3), none⟩] [3])
    (.block 0 (.seq (.seq (.region [⟨(some 6), .bin .eql (.t 4) (.k (.c (.d (.int .i64 4)))), none⟩,
            ⟨(some 5), .mv (.t 6), none⟩] [6])
        (.cond (.t 5)
          (.skip)
          (.seq (.region [⟨(some 7), .bin .eql (.t 4) (.k (.c (.d (.int .i64 5)))), none⟩,
              ⟨(some 5), .mv (.t 7), none⟩] [7])
          (.cond (.t 5)
            (.skip)
            (.seq (.region [⟨(some 8), .bin .eql (.t 4) (.k (.c (.d (.int .i64 8)))), none⟩,
                ⟨(some 5), .mv (.t 8), none⟩] [8])
            (.cond (.t 5)
              (.skip)
              (.seq (.region [⟨(some 9), .bin .eql (.t 4) (.k (.c (.d (.int .i64 9)))), none⟩,
                  ⟨(some 5), .mv (.t 9), none⟩] [9])
              (.cond (.t 5)
                (.skip)
                (.region [⟨(some 10), .bin .eql (.t 4) (.k (.c (.d (.int .i64 1)))), none⟩,
                  ⟨(some 5), .mv (.t 10), none⟩] [10])))))))))
      (.cond (.t 5)
        (.seq (.region [⟨(some 11), .fieldAddr 1 (.t 1), none⟩,
            ⟨(some 12), .load none (.t 11), none⟩,
            ⟨(some 2), .mv (.t 12), none⟩] [1, 4, 5, 11, 12])
        (.ret))
        (.seq (.region [⟨(some 14), .bin .eql (.t 4) (.k (.c (.d (.int .i64 7)))), none⟩,
            ⟨(some 13), .mv (.t 14), none⟩] [4, 5, 14])
        (.cond (.t 13)
          (.seq (.region [⟨(some 15), .fieldAddr 2 (.t 1), none⟩,
              ⟨(some 16), .load none (.t 15), none⟩,
              ⟨(some 2), .mv (.t 16), none⟩] [1, 13, 15, 16])
          (.ret))
          (.skip)))))))
  (.seq (.region [⟨(some 2), .mv (.k (.c (.d (.int .i64 (-1))))), none⟩] [1, 13])
  (.ret)))
theorem ac71_ok : cFunc Try.prog [] [(0, [0, 2], []), (1, [3], []), (2, [6], []), (3, [7], []), (4, [8], []), (5, [9], []), (6, [10], []), (7, [1, 4, 5, 11, 12], []), (8, [4, 5, 14], []), (9, [1, 13, 15, 16], []), (10, [1, 13], [])] Try.f71 = some (ac71, [.tmp 2], 17) := by kernel_rfl
-- 72 loop.example/prologserver/laws.toInstr params 1 ntmps 17
def ac72 : Cd := .seq (.region [⟨(some 1), .box (.t 0), none⟩,
      ⟨(some 2), .alloc [(.d (.int .i64 0)), (.d (.int .i64 0)), (.d (.int .i64 0)), (.d (.str []))], none⟩] [0])
  (.seq (.region [⟨(some 3), .alloc [(.d (.int .i64 0)), (.d (.int .i64 0)), (.d (.int .i64 0)), (.d (.str []))], none⟩] [])
  (.seq (.region [⟨(some 4), .fieldAddr 0 (.t 1), none⟩,
      ⟨(some 5), .load none (.t 4), none⟩,
      ⟨(some 6), .fieldAddr 0 (.t 3), none⟩,
      ⟨none, .store 1 (.t 6) (.t 5), none⟩] [4, 5, 6])
  (.seq (.region [⟨(some 7), .fieldAddr 1 (.t 1), none⟩,
      ⟨(some 8), .load none (.t 7), none⟩,
      ⟨(some 9), .fieldAddr 1 (.t 3), none⟩,
      ⟨none, .store 1 (.t 9) (.t 8), none⟩] [7, 8, 9])
  (.seq (.region [⟨(some 10), .fieldAddr 2 (.t 1), none⟩,
      ⟨(some 11), .load none (.t 10), none⟩,
      ⟨(some 12), .fieldAddr 2 (.t 3), none⟩,
      ⟨none, .store 1 (.t 12) (.t 11), none⟩] [10, 11, 12])
  (.seq (.region [⟨(some 13), .fieldAddr 3 (.t 1), none⟩,
      ⟨(some 14), .load none (.t 13), none⟩,
      ⟨(some 15), .fieldAddr 3 (.t 3), none⟩,
      ⟨none, .store 1 (.t 15) (.t 14), none⟩] [1, 13, 14, 15])
  (.seq (.region [⟨(some 16), .load (some 4) (.t 3), none⟩,
      ⟨none, .store 4 (.t 2) (.t 16), none⟩] [3, 16])
  (.ret)))))))
theorem ac72_ok : cFunc Try.prog [] [(0, [0], []), (1, [], []), (2, [4, 5, 6], []), (3, [7, 8, 9], []), (4, [10, 11, 12], []), (5, [1, 13, 14, 15], []), (6, [3, 16], [])] Try.f72 = some (ac72, [.cell 2 (some 4)], 17) := by kernel_rfl
-- 73 loop.example/prologserver/laws.eqInstr params 2 ntmps 25
def ac73 : Cd := .seq (.region [⟨(some 2), .box (.t 0), none⟩,
      ⟨(some 3), .box (.t 1), none⟩,
      ⟨(some 4), .mv (.k (.c (.d (.bool false)))), none⟩] [0, 1, 4])
  (.seq (.seq (.region [⟨(some 5), .fieldAddr 0 (.t 2), none⟩,
        ⟨(some 6), .load none (.t 5), none⟩,
        ⟨(some 7), .fieldAddr 0 (.t 3), none⟩,
        ⟨(some 8), .load none (.t 7), none⟩,
        ⟨(some 9), .bin .neq (.t 6) (.t 8), none⟩] [5, 6, 7, 8])
    (.cond (.t 9)
      (.seq (.region [⟨(some 4), .mv (.k (.c (.d (.bool false)))), none⟩] [2, 3, 9])
      (.ret))
      (.skip)))
  (.seq (.seq (.region [⟨(some 10), .fieldAddr 1 (.t 2), none⟩,
        ⟨(some 11), .load none (.t 10), none⟩,
        ⟨(some 12), .fieldAddr 1 (.t 3), none⟩,
        ⟨(some 13), .load none (.t 12), none⟩,
        ⟨(some 14), .bin .neq (.t 11) (.t 13), none⟩] [4, 9, 10, 11, 12, 13])
    (.cond (.t 14)
      (.seq (.region [⟨(some 4), .mv (.k (.c (.d (.bool false)))), none⟩] [2, 3, 14])
      (.ret))
      (.skip)))
  (.seq (.seq (.region [⟨(some 15), .fieldAddr 2 (.t 2), none⟩,
        ⟨(some 16), .load none (.t 15), none⟩,
        ⟨(some 17), .fieldAddr 2 (.t 3), none⟩,
        ⟨(some 18), .load none (.t 17), none⟩,
        ⟨(some 19), .bin .neq (.t 16) (.t 18), none⟩] [4, 14, 15, 16, 17, 18])
    (.cond (.t 19)
      (.seq (.region [⟨(some 4), .mv (.k (.c (.d (.bool false)))), none⟩] [2, 3, 19])
      (.ret))
      (.skip)))
  (.seq (.seq (.region [⟨(some 20), .fieldAddr 3 (.t 2), none⟩,
        ⟨(some 21), .load none (.t 20), none⟩,
        ⟨(some 22), .fieldAddr 3 (.t 3), none⟩,
        ⟨(some 23), .load none (.t 22), none⟩,
        ⟨(some 24), .bin .neq (.t 21) (.t 23), none⟩] [2, 3, 4, 19, 20, 21, 22, 23])
    (.cond (.t 24)
      (.seq (.region [⟨(some 4), .mv (.k (.c (.d (.bool false)))), none⟩] [24])
      (.ret))
      (.skip)))
  (.seq (.region [⟨(some 4), .mv (.k (.c (.d (.bool true)))), none⟩] [24])
  (.ret))))))
theorem ac73_ok : cFunc Try.prog [] [(0, [0, 1, 4], []), (1, [5, 6, 7, 8], []), (2, [2, 3, 9], []), (3, [4, 9, 10, 11, 12, 13], []), (4, [2, 3, 14], []), (5, [4, 14, 15, 16, 17, 18], []), (6, [2, 3, 19], []), (7, [2, 3, 4, 19, 20, 21, 22, 23], []), (8, [24], []), (9, [24], [])] Try.f73 = some (ac73, [.tmp 4], 25) := by kernel_rfl
/-- an instruction -/
structure Ins where
  op : Int
  a : Int
  b : Int
  text : List UInt8
def Ins.row (x : Ins) : List D := [.int .i64 x.op, .int .i64 x.a, .int .i64 x.b, .str x.text]
def Ins.slot (x : Ins) : Int := if x.op = 4 ∨ x.op = 5 ∨ x.op = 8 ∨ x.op = 9 ∨ x.op = 1 then x.a else if x.op = 7 then x.b else -1
/-- the number of slots behind an instruction -/
def Ins.next (n : Int) (x : Ins) : Int := if n ≤ x.slot then (if x.slot < 9223372036854775807 then x.slot + 1 else x.slot) else n
def slotsOf (l : List Ins) : Int := l.foldl Ins.next 4
structure Ins.ok (x : Ins) : Prop where
  op : inR .i64 x.op
  a : inR .i64 x.a
  b : inR .i64 x.b
  text : x.text.length ≤ reachBytes
theorem uses_calls (x : Ins) (H : Heap) : ACalls Try.prog 71 [.agg (x.row.map .d)] H (fun r H' => H' = H ∧ r = .c (.d (.int .i64 x.slot))) := by
  refine acalls Try.func71 (by kernel_rfl) ac71_ok fun hf => ?_
  simp [ac71, Ins.row, aw_skip, aw_region, aw_seq, aw_block, aw_cond, aw_exit, aw_ret, kq_nil, kq_seq, kq_seq_ret, kq_seq_exit, kq_block, kq_block_ret, kq_block_exit, kq_loop, kq_loop_ret, kq_loop_exit, awOps_nil, awOps_cons, awOps_guard, nx_eq, awOp, Opd.ev, A.ok, A.val, setSl, wrapG, guardB, getB, pickA, binA, binC, binD, cmpD, isCmp, unA, unD, lenA, AOp.total, kills, litB, FinQ, resOks, resOk, resA, resList, resOne, A.thaw, C.thaw, A.fits, C.fits, evs, oks, callArgs, A.pure, C.pure, A.re, C.re, fieldAddrA, loadC, cut, A.cells, C.rows?, getOb, newOb, setOb, storeC, splice, Ob.re, Cs.fits, partsA, partsOk, parts2A, parts2Ok, fillC, fillRows, optInt, optOk, sliceA, optK_some, storeK_some, Option.map_some, toDs, C.toD, spliceD]
  simp only [Ins.slot]
  (repeat' (first | (refine And.intro ?_ ?_) | intro _)) <;> simp_all
theorem toInstr_calls (x : Ins) (H : Heap) : ACalls Try.prog 72 [.agg (x.row.map .d)] H (fun r H' => H' = H ∧ r = .agg (x.row.map .d)) := by
  refine acalls Try.func72 (by kernel_rfl) ac72_ok fun hf => ?_
  simp [ac72, Ins.row, aw_skip, aw_region, aw_seq, aw_block, aw_cond, aw_exit, aw_ret, kq_nil, kq_seq, kq_seq_ret, kq_seq_exit, kq_block, kq_block_ret, kq_block_exit, kq_loop, kq_loop_ret, kq_loop_exit, awOps_nil, awOps_cons, awOps_guard, nx_eq, awOp, Opd.ev, A.ok, A.val, setSl, wrapG, guardB, getB, pickA, binA, binC, binD, cmpD, isCmp, unA, unD, lenA, AOp.total, kills, litB, FinQ, resOks, resOk, resA, resList, resOne, A.thaw, C.thaw, A.fits, C.fits, evs, oks, callArgs, A.pure, C.pure, A.re, C.re, fieldAddrA, loadC, cut, A.cells, C.rows?, getOb, newOb, setOb, storeC, splice, Ob.re, Cs.fits, partsA, partsOk, parts2A, parts2Ok, fillC, fillRows, optInt, optOk, sliceA, optK_some, storeK_some, Option.map_some, toDs, C.toD, spliceD]
  exact hf
theorem eqInstr_calls (x : Ins) (H : Heap) : ACalls Try.prog 73 [.agg (x.row.map .d), .agg (x.row.map .d)] H (fun r H' => H' = H ∧ r = .c (.d (.bool true))) := by
  refine acalls Try.func73 (by kernel_rfl) ac73_ok fun hf => ?_
  simp [ac73, Ins.row, aw_skip, aw_region, aw_seq, aw_block, aw_cond, aw_exit, aw_ret, kq_nil, kq_seq, kq_seq_ret, kq_seq_exit, kq_block, kq_block_ret, kq_block_exit, kq_loop, kq_loop_ret, kq_loop_exit, awOps_nil, awOps_cons, awOps_guard, nx_eq, awOp, Opd.ev, A.ok, A.val, setSl, wrapG, guardB, getB, pickA, binA, binC, binD, cmpD, isCmp, unA, unD, lenA, AOp.total, kills, litB, FinQ, resOks, resOk, resA, resList, resOne, A.thaw, C.thaw, A.fits, C.fits, evs, oks, callArgs, A.pure, C.pure, A.re, C.re, fieldAddrA, loadC, cut, A.cells, C.rows?, getOb, newOb, setOb, storeC, splice, Ob.re, Cs.fits, partsA, partsOk, parts2A, parts2Ok, fillC, fillRows, optInt, optOk, sliceA, optK_some, storeK_some, Option.map_some, toDs, C.toD, spliceD]
theorem szInstr_calls (x : Ins) (hx : x.ok) (m : Int) (h0 : 0 ≤ m) (h1 : m ≤ 1048576) (H : Heap) : ACalls Try.prog 70 [.agg (x.row.map .d), .c (.d (.int .i64 m))] H (fun r H' => H' = H ∧ Left m True r) := by
  refine acalls Try.func70 (by kernel_rfl) ac70_ok fun hf => ?_
  have hlen := reach_i64 hx.text
  have hsm := reach_small hx.text
  have hsub : inR .i64 (m - (x.text.length : Int)) := small_i64 (by omega) (by omega)
  simp [ac70, Ins.row, hlen, hsub, Left, aw_skip, aw_region, aw_seq, aw_block, aw_cond, aw_exit, aw_ret, kq_nil, kq_seq, kq_seq_ret, kq_seq_exit, kq_block, kq_block_ret, kq_block_exit, kq_loop, kq_loop_ret, kq_loop_exit, awOps_nil, awOps_cons, awOps_guard, nx_eq, awOp, Opd.ev, A.ok, A.val, setSl, wrapG, guardB, getB, pickA, binA, binC, binD, cmpD, isCmp, unA, unD, lenA, AOp.total, kills, litB, FinQ, resOks, resOk, resA, resList, resOne, A.thaw, C.thaw, A.fits, C.fits, evs, oks, callArgs, A.pure, C.pure, A.re, C.re, fieldAddrA, loadC, cut, A.cells, C.rows?, getOb, newOb, setOb, storeC, splice, Ob.re, Cs.fits, partsA, partsOk, parts2A, parts2Ok, fillC, fillRows, optInt, optOk, sliceA, optK_some, storeK_some, Option.map_some, toDs, C.toD, spliceD]
  omega
theorem szInstrS_calls (l : List Ins) (hl : l.length ≤ reachBytes) (hx : ∀ x ∈ l, x.ok) (H : Heap) : ACalls Try.prog 36 [.c (.d (.sl (l.map Ins.row))), .c (.d (.int .i64 1048576))] H (fun r H' => H' = H ∧ Left 1048576 (l.length ≤ 1048576) r) := by
  refine acalls Try.func36 (by kernel_rfl) ac36_ok fun hf => ?_
  have hlen := reach_i64 hl
  have hsm := reach_small hl
  have hsub : inR .i64 (1048576 - (l.length : Int)) := small_i64 (by omega) (by omega)
  simp [ac36, hlen, hsub, aw_skip, aw_region, aw_seq, aw_block, aw_cond, aw_exit, aw_ret, kq_nil, kq_seq, kq_seq_ret, kq_seq_exit, kq_block, kq_block_ret, kq_block_exit, kq_loop, kq_loop_ret, kq_loop_exit, awOps_nil, awOps_cons, awOps_guard, nx_eq, awOp, Opd.ev, A.ok, A.val, setSl, wrapG, guardB, getB, pickA, binA, binC, binD, cmpD, isCmp, unA, unD, lenA, AOp.total, kills, litB, FinQ, resOks, resOk, resA, resList, resOne, A.thaw, C.thaw, A.fits, C.fits, evs, oks, callArgs, A.pure, C.pure, A.re, C.re, fieldAddrA, loadC, cut, A.cells, C.rows?, getOb, newOb, setOb, storeC, splice, Ob.re, Cs.fits, partsA, partsOk, parts2A, parts2Ok, fillC, fillRows, optInt, optOk, sliceA, optK_some, storeK_some, Option.map_some, toDs, C.toD, spliceD]
  refine ⟨fun _ => by simp [Left], fun hge => ?_⟩
  have hsmall : l.length ≤ 1048576 := by omega
  refine loop_set (σ := Nat × Int) (fun x => [(5, .c (.d (.int .i64 x.1))), (1, .c (.d (.int .i64 x.2)))]) (fun _ => H) (fun _ => []) (fun x => x.1 ≤ l.length ∧ 0 ≤ x.2 ∧ x.2 ≤ 1048576) (fun x => l.length - x.1) (0, 1048576 - l.length) rfl ⟨Nat.zero_le _, by simp; omega⟩ ?_
  rintro ⟨i, m⟩ ⟨hi, hm0, hm1⟩
  simp at hi hm0 hm1
  simp [setAll, hlen, aw_skip, aw_region, aw_seq, aw_block, aw_cond, aw_exit, aw_ret, kq_nil, kq_seq, kq_seq_ret, kq_seq_exit, kq_block, kq_block_ret, kq_block_exit, kq_loop, kq_loop_ret, kq_loop_exit, awOps_nil, awOps_cons, awOps_guard, nx_eq, awOp, Opd.ev, A.ok, A.val, setSl, wrapG, guardB, getB, pickA, binA, binC, binD, cmpD, isCmp, unA, unD, lenA, AOp.total, kills, litB, FinQ, resOks, resOk, resA, resList, resOne, A.thaw, C.thaw, A.fits, C.fits, evs, oks, callArgs, A.pure, C.pure, A.re, C.re, fieldAddrA, loadC, cut, A.cells, C.rows?, getOb, newOb, setOb, storeC, splice, Ob.re, Cs.fits, partsA, partsOk, parts2A, parts2Ok, fillC, fillRows, optInt, optOk, sliceA, optK_some, storeK_some, Option.map_some, toDs, C.toD, spliceD]
  refine ⟨fun hlt => ?_, fun _ => ⟨m, rfl, by omega, hm1, fun _ => hsmall⟩⟩
  refine row_of hlt rfl ?_
  simp [Ins.row, aw_skip, aw_region, aw_seq, aw_block, aw_cond, aw_exit, aw_ret, kq_nil, kq_seq, kq_seq_ret, kq_seq_exit, kq_block, kq_block_ret, kq_block_exit, kq_loop, kq_loop_ret, kq_loop_exit, awOps_nil, awOps_cons, awOps_guard, nx_eq, awOp, Opd.ev, A.ok, A.val, setSl, wrapG, guardB, getB, pickA, binA, binC, binD, cmpD, isCmp, unA, unD, lenA, AOp.total, kills, litB, FinQ, resOks, resOk, resA, resList, resOne, A.thaw, C.thaw, A.fits, C.fits, evs, oks, callArgs, A.pure, C.pure, A.re, C.re, fieldAddrA, loadC, cut, A.cells, C.rows?, getOb, newOb, setOb, storeC, splice, Ob.re, Cs.fits, partsA, partsOk, parts2A, parts2Ok, fillC, fillRows, optInt, optOk, sliceA, optK_some, storeK_some, Option.map_some, toDs, C.toD, spliceD]
  refine call_some (szInstr_calls l[i] (hx _ (List.getElem_mem hlt)) m hm0 hm1 _) (by simp) (fun r => Left.re) hf ?_
  rintro _ ⟨k, rfl, hk0, hk1, _⟩
  have hadd : inR .i64 ((i : Int) + 1) := small_i64 (by omega) (by omega)
  simp [hadd, aw_skip, aw_region, aw_seq, aw_block, aw_cond, aw_exit, aw_ret, kq_nil, kq_seq, kq_seq_ret, kq_seq_exit, kq_block, kq_block_ret, kq_block_exit, kq_loop, kq_loop_ret, kq_loop_exit, awOps_nil, awOps_cons, awOps_guard, nx_eq, awOp, Opd.ev, A.ok, A.val, setSl, wrapG, guardB, getB, pickA, binA, binC, binD, cmpD, isCmp, unA, unD, lenA, AOp.total, kills, litB, FinQ, resOks, resOk, resA, resList, resOne, A.thaw, C.thaw, A.fits, C.fits, evs, oks, callArgs, A.pure, C.pure, A.re, C.re, fieldAddrA, loadC, cut, A.cells, C.rows?, getOb, newOb, setOb, storeC, splice, Ob.re, Cs.fits, partsA, partsOk, parts2A, parts2Ok, fillC, fillRows, optInt, optOk, sliceA, optK_some, storeK_some, Option.map_some, toDs, C.toD, spliceD]
  refine ⟨fun _ => by simp [Left], fun hk => ?_⟩
  exact loop_back (i + 1, k) (by simp [setAll]) ⟨hlt, hk, by simp; omega⟩ (by show l.length - (i + 1) < l.length - i; omega)
theorem slot_i64 (x : Ins) (hx : x.ok) : inR .i64 x.slot := by
  unfold Ins.slot
  split
  · exact hx.a
  · split
    · exact hx.b
    · exact small_i64 (by omega) (by omega)
theorem next_i64 {n : Int} (x : Ins) (hx : x.ok) (hn : inR .i64 n ∧ 4 ≤ n) : inR .i64 (Ins.next n x) ∧ 4 ≤ Ins.next n x := by
  have := slot_i64 x hx
  obtain ⟨h1, h2⟩ := hn
  unfold Ins.next
  rw [i64_def] at *
  split
  · split <;> omega
  · omega
theorem fold_i64 (l : List Ins) (hx : ∀ x ∈ l, x.ok) (i : Nat) : inR .i64 (slotsOf (l.take i)) ∧ 4 ≤ slotsOf (l.take i) := by
  unfold slotsOf
  have : ∀ (l : List Ins) (n : Int), (∀ x ∈ l, x.ok) → (inR .i64 n ∧ 4 ≤ n) → inR .i64 (l.foldl Ins.next n) ∧ 4 ≤ l.foldl Ins.next n := by
    intro l
    induction l with
    | nil => exact fun n _ h => h
    | cons x l ih => exact fun n h hn => ih _ (fun y hy => h y (by simp [hy])) (next_i64 x (h x (by simp)) hn)
  exact this _ _ (fun x h => hx x (List.mem_of_mem_take h)) ⟨small_i64 (by omega) (by omega), by omega⟩
theorem slotsOf_succ (l : List Ins) (i : Nat) (h : i < l.length) : slotsOf (l.take (i + 1)) = Ins.next (slotsOf (l.take i)) l[i] := by
  rw [List.take_succ_eq_append_getElem h]
  simp only [slotsOf, List.foldl_append, List.foldl_cons, List.foldl_nil]
theorem specCs_calls (l : List Ins) (hl : l.length ≤ reachBytes) (hx : ∀ x ∈ l, x.ok) (H : Heap) : ACalls Try.prog 37 [.c (.d (.sl (l.map Ins.row)))] H (fun r H' => H' = H ∧ r = .c (.d (.int .i64 (slotsOf l)))) := by
  refine acalls Try.func37 (by kernel_rfl) ac37_ok fun hf => ?_
  have hlen := reach_i64 hl
  have hsm := reach_small hl
  simp [ac37, hlen, aw_skip, aw_region, aw_seq, aw_block, aw_cond, aw_exit, aw_ret, kq_nil, kq_seq, kq_seq_ret, kq_seq_exit, kq_block, kq_block_ret, kq_block_exit, kq_loop, kq_loop_ret, kq_loop_exit, awOps_nil, awOps_cons, awOps_guard, nx_eq, awOp, Opd.ev, A.ok, A.val, setSl, wrapG, guardB, getB, pickA, binA, binC, binD, cmpD, isCmp, unA, unD, lenA, AOp.total, kills, litB, FinQ, resOks, resOk, resA, resList, resOne, A.thaw, C.thaw, A.fits, C.fits, evs, oks, callArgs, A.pure, C.pure, A.re, C.re, fieldAddrA, loadC, cut, A.cells, C.rows?, getOb, newOb, setOb, storeC, splice, Ob.re, Cs.fits, partsA, partsOk, parts2A, parts2Ok, fillC, fillRows, optInt, optOk, sliceA, optK_some, storeK_some, Option.map_some, toDs, C.toD, spliceD]
  refine loop_set (σ := Nat) (fun i => [(4, .c (.d (.int .i64 i))), (3, .c (.d (.int .i64 (slotsOf (l.take i)))))]) (fun _ => H) (fun _ => []) (fun i => i ≤ l.length) (fun i => l.length - i) 0 rfl (Nat.zero_le _) ?_
  intro i hi
  simp [setAll, hlen, aw_skip, aw_region, aw_seq, aw_block, aw_cond, aw_exit, aw_ret, kq_nil, kq_seq, kq_seq_ret, kq_seq_exit, kq_block, kq_block_ret, kq_block_exit, kq_loop, kq_loop_ret, kq_loop_exit, awOps_nil, awOps_cons, awOps_guard, nx_eq, awOp, Opd.ev, A.ok, A.val, setSl, wrapG, guardB, getB, pickA, binA, binC, binD, cmpD, isCmp, unA, unD, lenA, AOp.total, kills, litB, FinQ, resOks, resOk, resA, resList, resOne, A.thaw, C.thaw, A.fits, C.fits, evs, oks, callArgs, A.pure, C.pure, A.re, C.re, fieldAddrA, loadC, cut, A.cells, C.rows?, getOb, newOb, setOb, storeC, splice, Ob.re, Cs.fits, partsA, partsOk, parts2A, parts2Ok, fillC, fillRows, optInt, optOk, sliceA, optK_some, storeK_some, Option.map_some, toDs, C.toD, spliceD]
  refine ⟨fun hlt => ?_, fun hge => by rw [List.take_of_length_le hge]⟩
  have hs := slot_i64 l[i] (hx _ (List.getElem_mem hlt))
  have hn := fold_i64 l hx i
  have hnx := slotsOf_succ l i hlt
  have hadd : inR .i64 ((i : Int) + 1) := small_i64 (by omega) (by omega)
  refine row_of hlt rfl ?_
  simp [Ins.row, aw_skip, aw_region, aw_seq, aw_block, aw_cond, aw_exit, aw_ret, kq_nil, kq_seq, kq_seq_ret, kq_seq_exit, kq_block, kq_block_ret, kq_block_exit, kq_loop, kq_loop_ret, kq_loop_exit, awOps_nil, awOps_cons, awOps_guard, nx_eq, awOp, Opd.ev, A.ok, A.val, setSl, wrapG, guardB, getB, pickA, binA, binC, binD, cmpD, isCmp, unA, unD, lenA, AOp.total, kills, litB, FinQ, resOks, resOk, resA, resList, resOne, A.thaw, C.thaw, A.fits, C.fits, evs, oks, callArgs, A.pure, C.pure, A.re, C.re, fieldAddrA, loadC, cut, A.cells, C.rows?, getOb, newOb, setOb, storeC, splice, Ob.re, Cs.fits, partsA, partsOk, parts2A, parts2Ok, fillC, fillRows, optInt, optOk, sliceA, optK_some, storeK_some, Option.map_some, toDs, C.toD, spliceD]
  refine qcall_pure (uses_calls l[i]) hf rfl ?_
  simp [hadd, hlt, Ins.row, aw_skip, aw_region, aw_seq, aw_block, aw_cond, aw_exit, aw_ret, kq_nil, kq_seq, kq_seq_ret, kq_seq_exit, kq_block, kq_block_ret, kq_block_exit, kq_loop, kq_loop_ret, kq_loop_exit, awOps_nil, awOps_cons, awOps_guard, nx_eq, awOp, Opd.ev, A.ok, A.val, setSl, wrapG, guardB, getB, pickA, binA, binC, binD, cmpD, isCmp, unA, unD, lenA, AOp.total, kills, litB, FinQ, resOks, resOk, resA, resList, resOne, A.thaw, C.thaw, A.fits, C.fits, evs, oks, callArgs, A.pure, C.pure, A.re, C.re, fieldAddrA, loadC, cut, A.cells, C.rows?, getOb, newOb, setOb, storeC, splice, Ob.re, Cs.fits, partsA, partsOk, parts2A, parts2Ok, fillC, fillRows, optInt, optOk, sliceA, optK_some, storeK_some, Option.map_some, toDs, C.toD, spliceD]
  refine ⟨fun h1 h2 => ?_, fun h => ?_⟩
  · refine row_of hlt rfl ?_
    simp [Ins.row, aw_skip, aw_region, aw_seq, aw_block, aw_cond, aw_exit, aw_ret, kq_nil, kq_seq, kq_seq_ret, kq_seq_exit, kq_block, kq_block_ret, kq_block_exit, kq_loop, kq_loop_ret, kq_loop_exit, awOps_nil, awOps_cons, awOps_guard, nx_eq, awOp, Opd.ev, A.ok, A.val, setSl, wrapG, guardB, getB, pickA, binA, binC, binD, cmpD, isCmp, unA, unD, lenA, AOp.total, kills, litB, FinQ, resOks, resOk, resA, resList, resOne, A.thaw, C.thaw, A.fits, C.fits, evs, oks, callArgs, A.pure, C.pure, A.re, C.re, fieldAddrA, loadC, cut, A.cells, C.rows?, getOb, newOb, setOb, storeC, splice, Ob.re, Cs.fits, partsA, partsOk, parts2A, parts2Ok, fillC, fillRows, optInt, optOk, sliceA, optK_some, storeK_some, Option.map_some, toDs, C.toD, spliceD]
    refine qcall_pure (uses_calls l[i]) hf rfl ?_
    simp [hadd, aw_skip, aw_region, aw_seq, aw_block, aw_cond, aw_exit, aw_ret, kq_nil, kq_seq, kq_seq_ret, kq_seq_exit, kq_block, kq_block_ret, kq_block_exit, kq_loop, kq_loop_ret, kq_loop_exit, awOps_nil, awOps_cons, awOps_guard, nx_eq, awOp, Opd.ev, A.ok, A.val, setSl, wrapG, guardB, getB, pickA, binA, binC, binD, cmpD, isCmp, unA, unD, lenA, AOp.total, kills, litB, FinQ, resOks, resOk, resA, resList, resOne, A.thaw, C.thaw, A.fits, C.fits, evs, oks, callArgs, A.pure, C.pure, A.re, C.re, fieldAddrA, loadC, cut, A.cells, C.rows?, getOb, newOb, setOb, storeC, splice, Ob.re, Cs.fits, partsA, partsOk, parts2A, parts2Ok, fillC, fillRows, optInt, optOk, sliceA, optK_some, storeK_some, Option.map_some, toDs, C.toD, spliceD]
    have hsl : l[i].slot < 9223372036854775807 → inR .i64 (l[i].slot + 1) := fun h => by rw [i64_def] at *; omega
    refine ⟨fun h => ⟨hsl h, ?_⟩, fun h => ?_⟩
    · exact loop_back (i + 1) (by simp [setAll, hnx, Ins.next, h1, h]) hlt (by show l.length - (i + 1) < l.length - i; omega)
    · exact loop_back (i + 1) (by simp [setAll, hnx, Ins.next, h1, h]; intro h'; omega) hlt (by show l.length - (i + 1) < l.length - i; omega)
  · have e : Ins.next (slotsOf (l.take i)) l[i] = slotsOf (l.take i) := by
      rw [i64_def] at hs hn
      simp only [Ins.next]
      (repeat' split) <;> omega
    exact loop_back (i + 1) (by simp [setAll, hnx, e]) hlt (by show l.length - (i + 1) < l.length - i; omega)
theorem implCs_calls (l : List Ins) (hl : l.length ≤ reachBytes) (hx : ∀ x ∈ l, x.ok) (H : Heap) : ACalls Try.prog 39 [.c (.d (.sl (l.map Ins.row)))] H (fun r H' => H' = H ∧ r = .c (.d (.int .i64 (slotsOf l)))) := by
  refine acalls Try.func39 (by kernel_rfl) ac39_ok fun hf => ?_
  have hlen := reach_i64 hl
  have hsm := reach_small hl
  simp [ac39, hlen, aw_skip, aw_region, aw_seq, aw_block, aw_cond, aw_exit, aw_ret, kq_nil, kq_seq, kq_seq_ret, kq_seq_exit, kq_block, kq_block_ret, kq_block_exit, kq_loop, kq_loop_ret, kq_loop_exit, awOps_nil, awOps_cons, awOps_guard, nx_eq, awOp, Opd.ev, A.ok, A.val, setSl, wrapG, guardB, getB, pickA, binA, binC, binD, cmpD, isCmp, unA, unD, lenA, AOp.total, kills, litB, FinQ, resOks, resOk, resA, resList, resOne, A.thaw, C.thaw, A.fits, C.fits, evs, oks, callArgs, A.pure, C.pure, A.re, C.re, fieldAddrA, loadC, cut, A.cells, C.rows?, getOb, newOb, setOb, storeC, splice, Ob.re, Cs.fits, partsA, partsOk, parts2A, parts2Ok, fillC, fillRows, optInt, optOk, sliceA, optK_some, storeK_some, Option.map_some, toDs, C.toD, spliceD]
  refine loop_set (σ := Nat) (fun i => [(9, .c (.d (.int .i64 i))), (3, .c (.d (.int .i64 (slotsOf (l.take i)))))]) (fun _ => H) (fun _ => []) (fun i => i ≤ l.length) (fun i => l.length - i) 0 rfl (Nat.zero_le _) ?_
  intro i hi
  simp [setAll, hlen, aw_skip, aw_region, aw_seq, aw_block, aw_cond, aw_exit, aw_ret, kq_nil, kq_seq, kq_seq_ret, kq_seq_exit, kq_block, kq_block_ret, kq_block_exit, kq_loop, kq_loop_ret, kq_loop_exit, awOps_nil, awOps_cons, awOps_guard, nx_eq, awOp, Opd.ev, A.ok, A.val, setSl, wrapG, guardB, getB, pickA, binA, binC, binD, cmpD, isCmp, unA, unD, lenA, AOp.total, kills, litB, FinQ, resOks, resOk, resA, resList, resOne, A.thaw, C.thaw, A.fits, C.fits, evs, oks, callArgs, A.pure, C.pure, A.re, C.re, fieldAddrA, loadC, cut, A.cells, C.rows?, getOb, newOb, setOb, storeC, splice, Ob.re, Cs.fits, partsA, partsOk, parts2A, parts2Ok, fillC, fillRows, optInt, optOk, sliceA, optK_some, storeK_some, Option.map_some, toDs, C.toD, spliceD]
  refine ⟨fun hlt => ?_, fun hge => by rw [List.take_of_length_le hge]⟩
  have hs := slot_i64 l[i] (hx _ (List.getElem_mem hlt))
  have hn := fold_i64 l hx i
  have hnx := slotsOf_succ l i hlt
  have hadd : inR .i64 ((i : Int) + 1) := small_i64 (by omega) (by omega)
  refine row_of hlt rfl ?_
  simp [Ins.row, aw_skip, aw_region, aw_seq, aw_block, aw_cond, aw_exit, aw_ret, kq_nil, kq_seq, kq_seq_ret, kq_seq_exit, kq_block, kq_block_ret, kq_block_exit, kq_loop, kq_loop_ret, kq_loop_exit, awOps_nil, awOps_cons, awOps_guard, nx_eq, awOp, Opd.ev, A.ok, A.val, setSl, wrapG, guardB, getB, pickA, binA, binC, binD, cmpD, isCmp, unA, unD, lenA, AOp.total, kills, litB, FinQ, resOks, resOk, resA, resList, resOne, A.thaw, C.thaw, A.fits, C.fits, evs, oks, callArgs, A.pure, C.pure, A.re, C.re, fieldAddrA, loadC, cut, A.cells, C.rows?, getOb, newOb, setOb, storeC, splice, Ob.re, Cs.fits, partsA, partsOk, parts2A, parts2Ok, fillC, fillRows, optInt, optOk, sliceA, optK_some, storeK_some, Option.map_some, toDs, C.toD, spliceD]
  rw [i64_def] at hs
  obtain ⟨hn1, hn2⟩ := hn
  (repeat' (first | (with_reducible refine And.intro ?_ ?_) | intro _)) <;> first
    | exact hf
    | exact hadd
    | exact hn1
    | exact small_i64 (by omega) (by omega)
    | (rw [i64_def]; omega)
    | (refine loop_less (i + 1) ?_ hlt (by show l.length - (i + 1) < l.length - i; omega)
       refine St.le_cut [_] ?_ (by simp [Sl.le, A.le_refl_iff, A.le_u_iff, As.lo, A.lo, C.lo, Ref.lo, Cs.lo, Obs.lo, Ob.lo, setAll, and_true, true_and, List.length_nil, List.length_cons]) rfl trivial
       simp [hnx, Sl.le, A.le_refl_iff, A.le_u_iff, As.lo, A.lo, C.lo, Ref.lo, Cs.lo, Obs.lo, Ob.lo, setAll, and_true, true_and, List.length_nil, List.length_cons]
       try (refine A.le_int ?_; simp only [Ins.next, Ins.slot]; (repeat' split) <;> omega)
       done)

theorem toInstrS_calls (l : List Ins) (hl : l.length ≤ reachBytes) (hm : l.length ≤ 1048576) (H : Heap) : ACalls Try.prog 38 [.c (.d (.sl (l.map Ins.row)))] H (fun r H' => H' = H ∧ r = .c (.d (.sl (l.map Ins.row)))) := by
  refine acalls Try.func38 (by kernel_rfl) ac38_ok fun hf => ?_
  have hlen := reach_i64 hl
  simp [ac38, hlen, aw_skip, aw_region, aw_seq, aw_block, aw_cond, aw_exit, aw_ret, kq_nil, kq_seq, kq_seq_ret, kq_seq_exit, kq_block, kq_block_ret, kq_block_exit, kq_loop, kq_loop_ret, kq_loop_exit, awOps_nil, awOps_cons, awOps_guard, nx_eq, awOp, Opd.ev, A.ok, A.val, setSl, wrapG, guardB, getB, pickA, binA, binC, binD, cmpD, isCmp, unA, unD, lenA, AOp.total, kills, litB, FinQ, resOks, resOk, resA, resList, resOne, A.thaw, C.thaw, A.fits, C.fits, evs, oks, callArgs, A.pure, C.pure, A.re, C.re, fieldAddrA, loadC, cut, A.cells, C.rows?, getOb, newOb, setOb, storeC, splice, Ob.re, Cs.fits, partsA, partsOk, parts2A, parts2Ok, fillC, fillRows, optInt, optOk, sliceA, optK_some, storeK_some, Option.map_some, toDs, C.toD, spliceD]
  refine ⟨by unfold maxApp; omega, ?_⟩
  refine loop_set (σ := Nat) (fun i => [(4, .c (.d (.int .i64 i)))]) (fun _ => H) (fun i => [.rows (fill Ins.row [.int .i64 0, .int .i64 0, .int .i64 0, .str []] l i)]) (fun i => i ≤ l.length) (fun i => l.length - i) 0 (by simp [setAll, fill_zero]) (Nat.zero_le _) ?_
  intro i hi
  simp [setAll, hlen, aw_skip, aw_region, aw_seq, aw_block, aw_cond, aw_exit, aw_ret, kq_nil, kq_seq, kq_seq_ret, kq_seq_exit, kq_block, kq_block_ret, kq_block_exit, kq_loop, kq_loop_ret, kq_loop_exit, awOps_nil, awOps_cons, awOps_guard, nx_eq, awOp, Opd.ev, A.ok, A.val, setSl, wrapG, guardB, getB, pickA, binA, binC, binD, cmpD, isCmp, unA, unD, lenA, AOp.total, kills, litB, FinQ, resOks, resOk, resA, resList, resOne, A.thaw, C.thaw, A.fits, C.fits, evs, oks, callArgs, A.pure, C.pure, A.re, C.re, fieldAddrA, loadC, cut, A.cells, C.rows?, getOb, newOb, setOb, storeC, splice, Ob.re, Cs.fits, partsA, partsOk, parts2A, parts2Ok, fillC, fillRows, optInt, optOk, sliceA, optK_some, storeK_some, Option.map_some, toDs, C.toD, spliceD]
  refine ⟨fun hlt => ?_, fun hge => by rw [show i = l.length by omega, fill_all]⟩
  · have hadd : inR .i64 ((i : Int) + 1) := small_i64 (by omega) (by omega)
    refine row_of hlt rfl ?_
    simp [Ins.row, aw_skip, aw_region, aw_seq, aw_block, aw_cond, aw_exit, aw_ret, kq_nil, kq_seq, kq_seq_ret, kq_seq_exit, kq_block, kq_block_ret, kq_block_exit, kq_loop, kq_loop_ret, kq_loop_exit, awOps_nil, awOps_cons, awOps_guard, nx_eq, awOp, Opd.ev, A.ok, A.val, setSl, wrapG, guardB, getB, pickA, binA, binC, binD, cmpD, isCmp, unA, unD, lenA, AOp.total, kills, litB, FinQ, resOks, resOk, resA, resList, resOne, A.thaw, C.thaw, A.fits, C.fits, evs, oks, callArgs, A.pure, C.pure, A.re, C.re, fieldAddrA, loadC, cut, A.cells, C.rows?, getOb, newOb, setOb, storeC, splice, Ob.re, Cs.fits, partsA, partsOk, parts2A, parts2Ok, fillC, fillRows, optInt, optOk, sliceA, optK_some, storeK_some, Option.map_some, toDs, C.toD, spliceD]
    refine qcall_pure (toInstr_calls l[i]) hf rfl ?_
    simp [hadd, hlt, fill_get _ _ _ hlt, Ins.row, aw_skip, aw_region, aw_seq, aw_block, aw_cond, aw_exit, aw_ret, kq_nil, kq_seq, kq_seq_ret, kq_seq_exit, kq_block, kq_block_ret, kq_block_exit, kq_loop, kq_loop_ret, kq_loop_exit, awOps_nil, awOps_cons, awOps_guard, nx_eq, awOp, Opd.ev, A.ok, A.val, setSl, wrapG, guardB, getB, pickA, binA, binC, binD, cmpD, isCmp, unA, unD, lenA, AOp.total, kills, litB, FinQ, resOks, resOk, resA, resList, resOne, A.thaw, C.thaw, A.fits, C.fits, evs, oks, callArgs, A.pure, C.pure, A.re, C.re, fieldAddrA, loadC, cut, A.cells, C.rows?, getOb, newOb, setOb, storeC, splice, Ob.re, Cs.fits, partsA, partsOk, parts2A, parts2Ok, fillC, fillRows, optInt, optOk, sliceA, optK_some, storeK_some, Option.map_some, toDs, C.toD, spliceD]
    have hset := fill_set Ins.row [.int .i64 0, .int .i64 0, .int .i64 0, .str []] l hlt
    simp only [Ins.row] at hset
    exact ⟨hf, loop_back (i + 1) (by simp [setAll]; exact hset) hlt (by show l.length - (i + 1) < l.length - i; omega)⟩
theorem eqInstrS_calls (l : List Ins) (hl : l.length ≤ reachBytes) (H : Heap) : ACalls Try.prog 40 [.c (.d (.sl (l.map Ins.row))), .c (.d (.sl (l.map Ins.row)))] H (fun r H' => H' = H ∧ r = .c (.d (.bool true))) := by
  refine acalls Try.func40 (by kernel_rfl) ac40_ok fun hf => ?_
  have hlen := reach_i64 hl
  have hsm := reach_small hl
  simp [ac40, hlen, aw_skip, aw_region, aw_seq, aw_block, aw_cond, aw_exit, aw_ret, kq_nil, kq_seq, kq_seq_ret, kq_seq_exit, kq_block, kq_block_ret, kq_block_exit, kq_loop, kq_loop_ret, kq_loop_exit, awOps_nil, awOps_cons, awOps_guard, nx_eq, awOp, Opd.ev, A.ok, A.val, setSl, wrapG, guardB, getB, pickA, binA, binC, binD, cmpD, isCmp, unA, unD, lenA, AOp.total, kills, litB, FinQ, resOks, resOk, resA, resList, resOne, A.thaw, C.thaw, A.fits, C.fits, evs, oks, callArgs, A.pure, C.pure, A.re, C.re, fieldAddrA, loadC, cut, A.cells, C.rows?, getOb, newOb, setOb, storeC, splice, Ob.re, Cs.fits, partsA, partsOk, parts2A, parts2Ok, fillC, fillRows, optInt, optOk, sliceA, optK_some, storeK_some, Option.map_some, toDs, C.toD, spliceD]
  refine loop_set (σ := Nat) (fun i => [(5, .c (.d (.int .i64 i)))]) (fun _ => H) (fun _ => []) (fun i => i ≤ l.length) (fun i => l.length - i) 0 rfl (Nat.zero_le _) ?_
  intro i hi
  simp [setAll, hlen, aw_skip, aw_region, aw_seq, aw_block, aw_cond, aw_exit, aw_ret, kq_nil, kq_seq, kq_seq_ret, kq_seq_exit, kq_block, kq_block_ret, kq_block_exit, kq_loop, kq_loop_ret, kq_loop_exit, awOps_nil, awOps_cons, awOps_guard, nx_eq, awOp, Opd.ev, A.ok, A.val, setSl, wrapG, guardB, getB, pickA, binA, binC, binD, cmpD, isCmp, unA, unD, lenA, AOp.total, kills, litB, FinQ, resOks, resOk, resA, resList, resOne, A.thaw, C.thaw, A.fits, C.fits, evs, oks, callArgs, A.pure, C.pure, A.re, C.re, fieldAddrA, loadC, cut, A.cells, C.rows?, getOb, newOb, setOb, storeC, splice, Ob.re, Cs.fits, partsA, partsOk, parts2A, parts2Ok, fillC, fillRows, optInt, optOk, sliceA, optK_some, storeK_some, Option.map_some, toDs, C.toD, spliceD]
  intro hlt
  have hadd : inR .i64 ((i : Int) + 1) := small_i64 (by omega) (by omega)
  refine row_of hlt rfl ?_
  simp [Ins.row, aw_skip, aw_region, aw_seq, aw_block, aw_cond, aw_exit, aw_ret, kq_nil, kq_seq, kq_seq_ret, kq_seq_exit, kq_block, kq_block_ret, kq_block_exit, kq_loop, kq_loop_ret, kq_loop_exit, awOps_nil, awOps_cons, awOps_guard, nx_eq, awOp, Opd.ev, A.ok, A.val, setSl, wrapG, guardB, getB, pickA, binA, binC, binD, cmpD, isCmp, unA, unD, lenA, AOp.total, kills, litB, FinQ, resOks, resOk, resA, resList, resOne, A.thaw, C.thaw, A.fits, C.fits, evs, oks, callArgs, A.pure, C.pure, A.re, C.re, fieldAddrA, loadC, cut, A.cells, C.rows?, getOb, newOb, setOb, storeC, splice, Ob.re, Cs.fits, partsA, partsOk, parts2A, parts2Ok, fillC, fillRows, optInt, optOk, sliceA, optK_some, storeK_some, Option.map_some, toDs, C.toD, spliceD]
  refine row_of hlt rfl ?_
  simp [Ins.row, aw_skip, aw_region, aw_seq, aw_block, aw_cond, aw_exit, aw_ret, kq_nil, kq_seq, kq_seq_ret, kq_seq_exit, kq_block, kq_block_ret, kq_block_exit, kq_loop, kq_loop_ret, kq_loop_exit, awOps_nil, awOps_cons, awOps_guard, nx_eq, awOp, Opd.ev, A.ok, A.val, setSl, wrapG, guardB, getB, pickA, binA, binC, binD, cmpD, isCmp, unA, unD, lenA, AOp.total, kills, litB, FinQ, resOks, resOk, resA, resList, resOne, A.thaw, C.thaw, A.fits, C.fits, evs, oks, callArgs, A.pure, C.pure, A.re, C.re, fieldAddrA, loadC, cut, A.cells, C.rows?, getOb, newOb, setOb, storeC, splice, Ob.re, Cs.fits, partsA, partsOk, parts2A, parts2Ok, fillC, fillRows, optInt, optOk, sliceA, optK_some, storeK_some, Option.map_some, toDs, C.toD, spliceD]
  refine qcall_pure (eqInstr_calls l[i]) hf rfl ?_
  simp [hadd, aw_skip, aw_region, aw_seq, aw_block, aw_cond, aw_exit, aw_ret, kq_nil, kq_seq, kq_seq_ret, kq_seq_exit, kq_block, kq_block_ret, kq_block_exit, kq_loop, kq_loop_ret, kq_loop_exit, awOps_nil, awOps_cons, awOps_guard, nx_eq, awOp, Opd.ev, A.ok, A.val, setSl, wrapG, guardB, getB, pickA, binA, binC, binD, cmpD, isCmp, unA, unD, lenA, AOp.total, kills, litB, FinQ, resOks, resOk, resA, resList, resOne, A.thaw, C.thaw, A.fits, C.fits, evs, oks, callArgs, A.pure, C.pure, A.re, C.re, fieldAddrA, loadC, cut, A.cells, C.rows?, getOb, newOb, setOb, storeC, splice, Ob.re, Cs.fits, partsA, partsOk, parts2A, parts2Ok, fillC, fillRows, optInt, optOk, sliceA, optK_some, storeK_some, Option.map_some, toDs, C.toD, spliceD]
  exact loop_back (i + 1) (by simp [setAll]) hlt (by show l.length - (i + 1) < l.length - i; omega)
end Go.Proofs.Ytokgioccfeebkaa
