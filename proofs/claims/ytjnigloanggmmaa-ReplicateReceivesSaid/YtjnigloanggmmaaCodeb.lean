/-
  The annotated functions of this seat. Printed by wip/gen.py.
-/
import Derived.Test.YtjnigloanggmmaaCode
set_option linter.unusedVariables false
set_option maxRecDepth 100000
namespace Go.Dv.Try
open Go Go.Dv

/-- clockwork/clockworkref41.won -/
def a86 : AFunc := ⟨13, 1, [.cell 2 10],
  (.seq (.region false [
  ⟨some 1, .box (.t 0), none, []⟩,
  ⟨some 2, .alloc [.int .i64 0, .int .i64 0, .int .i64 0, .int .i64 0, .slice true [], .int .i64 0, .int .i64 0, .slice true [], .slice true [], .slice true []], none, []⟩] [0])
  (.seq (.seq (.region true [
  ⟨some 3, .fieldAddr 7 (.t 1), none, []⟩,
  ⟨some 4, .load none (.t 3), none, [0]⟩,
  ⟨some 5, .len (.t 4), none, [0, 1]⟩,
  ⟨some 6, .fieldAddr 1 (.t 1), none, []⟩,
  ⟨some 7, .load none (.t 6), none, [3]⟩,
  ⟨some 8, .call false 26 [.t 7], none, [3, 4]⟩,
  ⟨some 9, .bin .geq (.t 5) (.t 8), none, [0, 1, 2, 3, 4, 5]⟩] [3, 4, 5, 6, 7, 8])
  (.cond (.t 9)
  (.seq (.region false [
    ⟨some 10, .load (some 10) (.t 1), none, []⟩,
    ⟨some 11, .call false 130 [.t 10], none, []⟩,
    ⟨none, .store 10 (.t 2) (.t 11), none, []⟩] [9, 10, 11])
    .ret)
  .skip))
  (.seq (.region false [
  ⟨some 12, .load (some 10) (.t 1), none, []⟩,
  ⟨none, .store 10 (.t 2) (.t 12), none, []⟩] [9, 12])
  .ret)))⟩

/-- clockwork/clockworkref40.Same -/
@[irreducible] def a87_l0 : ACode :=
  (.seq (.seq (.region false [
  ⟨some 69, .move (.t 5), none, []⟩,
  ⟨some 70, .fieldAddr 8 (.t 2), none, []⟩,
  ⟨some 71, .load none (.t 70), none, []⟩,
  ⟨some 72, .len (.t 71), none, []⟩,
  ⟨some 73, .bin .lss (.t 69) (.t 72), none, []⟩] [69, 70, 71, 72])
  (.cond (.t 73)
  .skip
  (.ghost (.forget [5, 73]) (.ghost (.free [2, 3]) (.ghost .lower (.exit 0))))))
  (.seq (.block 1
  (.seq (.region true [
    ⟨some 76, .fieldAddr 8 (.t 2), none, []⟩,
    ⟨some 77, .load none (.t 76), none, [0]⟩,
    ⟨some 78, .move (.t 5), none, []⟩,
    ⟨some 79, .indexAddr 2 (.t 77) (.t 78), none, [0, 1, 2]⟩,
    ⟨some 80, .load (some 2) (.t 79), none, [0, 1, 2, 3]⟩,
    ⟨some 81, .fieldAddr 8 (.t 3), none, []⟩,
    ⟨some 82, .load none (.t 81), none, [5]⟩,
    ⟨some 83, .move (.t 5), none, []⟩,
    ⟨some 84, .indexAddr 2 (.t 82) (.t 83), none, [5, 6, 7]⟩,
    ⟨some 85, .load (some 2) (.t 84), none, [5, 6, 7, 8]⟩,
    ⟨some 86, .eqagg true [(0, 0), (1, 2)] (.t 80) (.t 85), none, [0, 1, 2, 3, 4, 5, 6, 7, 8, 9]⟩] [73, 76, 77, 78, 79, 80, 81, 82, 83, 84, 85])
    (.cond (.t 86)
    (.seq (.region false [
      ⟨some 4, .move (.c (.p (.bool false))), none, []⟩] [5, 86])
      .ret)
    .skip)))
  (.region false [
  ⟨some 74, .move (.t 5), none, []⟩,
  ⟨some 75, .bin .add (.t 74) (.c (.p (.int .i64 1))), none, []⟩,
  ⟨some 5, .move (.t 75), none, []⟩] [74, 75, 86])))

def a87 : AFunc := ⟨87, 2, [.tmp 4],
  (.seq (.region false [
  ⟨some 2, .box (.t 0), none, []⟩,
  ⟨some 3, .box (.t 1), none, []⟩,
  ⟨some 4, .move (.c (.p (.bool false))), none, []⟩] [0, 1, 4])
  (.seq (.seq (.region false [
  ⟨some 6, .fieldAddr 0 (.t 2), none, []⟩,
  ⟨some 7, .load none (.t 6), none, []⟩,
  ⟨some 8, .fieldAddr 0 (.t 3), none, []⟩,
  ⟨some 9, .load none (.t 8), none, []⟩,
  ⟨some 10, .bin .neq (.t 7) (.t 9), none, []⟩,
  ⟨some 11, .move (.t 10), none, []⟩,
  ⟨some 12, .fieldAddr 1 (.t 2), some (11, false), []⟩,
  ⟨some 13, .load none (.t 12), some (11, false), []⟩,
  ⟨some 14, .fieldAddr 1 (.t 3), some (11, false), []⟩,
  ⟨some 15, .load none (.t 14), some (11, false), []⟩,
  ⟨some 16, .bin .neq (.t 13) (.t 15), some (11, false), []⟩,
  ⟨some 17, .pick (.t 11) (.c (.p (.bool true))) (.t 16), none, []⟩,
  ⟨some 18, .move (.t 17), none, []⟩,
  ⟨some 19, .fieldAddr 2 (.t 2), some (18, false), []⟩,
  ⟨some 20, .load none (.t 19), some (18, false), []⟩,
  ⟨some 21, .fieldAddr 2 (.t 3), some (18, false), []⟩,
  ⟨some 22, .load none (.t 21), some (18, false), []⟩,
  ⟨some 23, .bin .neq (.t 20) (.t 22), some (18, false), []⟩,
  ⟨some 24, .pick (.t 18) (.c (.p (.bool true))) (.t 23), none, []⟩,
  ⟨some 25, .move (.t 24), none, []⟩,
  ⟨some 26, .fieldAddr 3 (.t 2), some (25, false), []⟩,
  ⟨some 27, .load none (.t 26), some (25, false), []⟩,
  ⟨some 28, .fieldAddr 3 (.t 3), some (25, false), []⟩,
  ⟨some 29, .load none (.t 28), some (25, false), []⟩,
  ⟨some 30, .bin .neq (.t 27) (.t 29), some (25, false), []⟩,
  ⟨some 31, .pick (.t 25) (.c (.p (.bool true))) (.t 30), none, []⟩,
  ⟨some 32, .move (.t 31), none, []⟩,
  ⟨some 33, .fieldAddr 4 (.t 2), some (32, false), []⟩,
  ⟨some 34, .load none (.t 33), some (32, false), []⟩,
  ⟨some 35, .fieldAddr 4 (.t 3), some (32, false), []⟩,
  ⟨some 36, .load none (.t 35), some (32, false), []⟩,
  ⟨some 37, .bin .neq (.t 34) (.t 36), some (32, false), []⟩,
  ⟨some 38, .pick (.t 32) (.c (.p (.bool true))) (.t 37), none, []⟩,
  ⟨some 39, .move (.t 38), none, []⟩,
  ⟨some 40, .fieldAddr 5 (.t 2), some (39, false), []⟩,
  ⟨some 41, .load none (.t 40), some (39, false), []⟩,
  ⟨some 42, .fieldAddr 5 (.t 3), some (39, false), []⟩,
  ⟨some 43, .load none (.t 42), some (39, false), []⟩,
  ⟨some 44, .bin .neq (.t 41) (.t 43), some (39, false), []⟩,
  ⟨some 45, .pick (.t 39) (.c (.p (.bool true))) (.t 44), none, []⟩,
  ⟨some 46, .move (.t 45), none, []⟩,
  ⟨some 47, .fieldAddr 6 (.t 2), some (46, false), []⟩,
  ⟨some 48, .load none (.t 47), some (46, false), []⟩,
  ⟨some 49, .fieldAddr 6 (.t 3), some (46, false), []⟩,
  ⟨some 50, .load none (.t 49), some (46, false), []⟩,
  ⟨some 51, .bin .neq (.t 48) (.t 50), some (46, false), []⟩,
  ⟨some 52, .pick (.t 46) (.c (.p (.bool true))) (.t 51), none, []⟩,
  ⟨some 53, .move (.t 52), none, []⟩,
  ⟨some 54, .fieldAddr 7 (.t 2), some (53, false), []⟩,
  ⟨some 55, .load none (.t 54), some (53, false), []⟩,
  ⟨some 56, .fieldAddr 7 (.t 3), some (53, false), []⟩,
  ⟨some 57, .load none (.t 56), some (53, false), []⟩,
  ⟨some 58, .eqb true (.t 55) (.t 57), some (53, false), []⟩,
  ⟨some 59, .pick (.t 53) (.c (.p (.bool true))) (.t 58), none, []⟩,
  ⟨some 60, .move (.t 59), none, []⟩,
  ⟨some 61, .fieldAddr 8 (.t 2), some (60, false), []⟩,
  ⟨some 62, .load none (.t 61), some (60, false), []⟩,
  ⟨some 63, .len (.t 62), some (60, false), []⟩,
  ⟨some 64, .fieldAddr 8 (.t 3), some (60, false), []⟩,
  ⟨some 65, .load none (.t 64), some (60, false), []⟩,
  ⟨some 66, .len (.t 65), some (60, false), []⟩,
  ⟨some 67, .bin .neq (.t 63) (.t 66), some (60, false), []⟩,
  ⟨some 68, .pick (.t 60) (.c (.p (.bool true))) (.t 67), none, []⟩] [6, 7, 8, 9, 10, 11, 12, 13, 14, 15, 16, 17, 18, 19, 20, 21, 22, 23, 24, 25, 26, 27, 28, 29, 30, 31, 32, 33, 34, 35, 36, 37, 38, 39, 40, 41, 42, 43, 44, 45, 46, 47, 48, 49, 50, 51, 52, 53, 54, 55, 56, 57, 58, 59, 60, 61, 62, 63, 64, 65, 66, 67])
  (.cond (.t 68)
  (.seq (.region false [
    ⟨some 4, .move (.c (.p (.bool false))), none, []⟩] [68])
    .ret)
  .skip))
  (.seq (.seq (.region false [
  ⟨some 5, .move (.c (.p (.int .i64 0))), none, []⟩] [68])
  (.block 0
  (.loop
    (.ghost .lower a87_l0))))
  (.seq (.region false [
  ⟨some 4, .move (.c (.p (.bool true))), none, []⟩] [])
  .ret))))⟩

/-- clockwork/election.concerns -/
def a88 : AFunc := ⟨28, 3, [.tmp 6],
  (.seq (.region false [
  ⟨some 3, .box (.t 0), none, []⟩,
  ⟨some 4, .box (.t 1), none, []⟩,
  ⟨some 6, .move (.c (.p (.bool false))), none, []⟩] [0, 1, 6])
  (.seq (.region false [
  ⟨some 7, .load (some 10) (.t 3), none, []⟩,
  ⟨some 8, .call false 28 [.t 7], none, []⟩,
  ⟨some 9, .move (.t 8), none, []⟩,
  ⟨some 10, .load (some 9) (.t 4), some (9, true), []⟩,
  ⟨some 11, .fieldAddr 1 (.t 3), some (9, true), []⟩,
  ⟨some 12, .load none (.t 11), some (9, true), []⟩,
  ⟨some 13, .call false 131 [.t 10, .t 12], some (9, true), []⟩,
  ⟨some 14, .pick (.t 9) (.t 13) (.c (.p (.bool false))), none, []⟩,
  ⟨some 15, .move (.t 14), none, []⟩,
  ⟨some 16, .fieldAddr 2 (.t 4), some (15, true), []⟩,
  ⟨some 17, .load none (.t 16), some (15, true), []⟩,
  ⟨some 18, .fieldAddr 0 (.t 3), some (15, true), []⟩,
  ⟨some 19, .load none (.t 18), some (15, true), []⟩,
  ⟨some 20, .bin .eql (.t 17) (.t 19), some (15, true), []⟩,
  ⟨some 21, .pick (.t 15) (.t 20) (.c (.p (.bool false))), none, []⟩,
  ⟨some 22, .move (.t 21), none, []⟩,
  ⟨some 23, .fieldAddr 0 (.t 4), some (22, true), []⟩,
  ⟨some 24, .load none (.t 23), some (22, true), []⟩,
  ⟨some 25, .move (.t 2), some (22, true), []⟩,
  ⟨some 26, .bin .eql (.t 24) (.t 25), some (22, true), []⟩,
  ⟨some 27, .pick (.t 22) (.t 26) (.c (.p (.bool false))), none, []⟩,
  ⟨some 6, .move (.t 27), none, []⟩] [2, 7, 8, 9, 10, 11, 12, 13, 14, 15, 16, 17, 18, 19, 20, 21, 22, 23, 24, 25, 26, 27])
  .ret))⟩

/-- (*clockwork/election.voter).follow -/
def a89 : AFunc := ⟨29, 2, [],
  (.region true [
  ⟨some 4, .move (.t 0), none, []⟩,
  ⟨some 5, .move (.t 0), none, []⟩,
  ⟨some 6, .nilCheck (.t 5), none, [1]⟩,
  ⟨some 7, .fieldAddr 0 (.t 6), none, [1, 2]⟩,
  ⟨some 8, .fieldAddr 0 (.t 7), none, [1, 2, 3]⟩,
  ⟨some 9, .load none (.t 8), none, [1, 2, 3, 4]⟩,
  ⟨some 10, .move (.t 0), none, []⟩,
  ⟨some 11, .nilCheck (.t 10), none, [6]⟩,
  ⟨some 12, .fieldAddr 0 (.t 11), none, [6, 7]⟩,
  ⟨some 13, .fieldAddr 1 (.t 12), none, [6, 7, 8]⟩,
  ⟨some 14, .load none (.t 13), none, [6, 7, 8, 9]⟩,
  ⟨some 15, .move (.t 0), none, []⟩,
  ⟨some 16, .nilCheck (.t 15), none, [11]⟩,
  ⟨some 17, .fieldAddr 0 (.t 16), none, [11, 12]⟩,
  ⟨some 18, .fieldAddr 4 (.t 17), none, [11, 12, 13]⟩,
  ⟨some 19, .load none (.t 18), none, [11, 12, 13, 14]⟩,
  ⟨some 20, .move (.t 0), none, []⟩,
  ⟨some 21, .nilCheck (.t 20), none, [16]⟩,
  ⟨some 22, .fieldAddr 0 (.t 21), none, [16, 17]⟩,
  ⟨some 23, .fieldAddr 6 (.t 22), none, [16, 17, 18]⟩,
  ⟨some 24, .load none (.t 23), none, [16, 17, 18, 19]⟩,
  ⟨some 25, .move (.t 1), none, []⟩,
  ⟨some 26, .build [.int .i64 0, .int .i64 0, .int .i64 0, .int .i64 0, .slice true [], .int .i64 0, .int .i64 0, .slice true [], .slice true [], .slice true []] [(0, 1, .t 9), (1, 1, .t 14), (4, 1, .t 19), (6, 1, .t 24), (2, 1, .t 25), (5, 1, .c (.p (.int .i64 1)))], none, [1, 2, 3, 4, 5, 6, 7, 8, 9, 10, 11, 12, 13, 14, 15, 16, 17, 18, 19, 20, 21]⟩,
  ⟨some 27, .nilCheck (.t 4), none, [0, 1, 2, 3, 4, 5, 6, 7, 8, 9, 10, 11, 12, 13, 14, 15, 16, 17, 18, 19, 20, 21, 22]⟩,
  ⟨some 28, .fieldAddr 0 (.t 27), none, [0, 1, 2, 3, 4, 5, 6, 7, 8, 9, 10, 11, 12, 13, 14, 15, 16, 17, 18, 19, 20, 21, 22, 23]⟩,
  ⟨none, .store 10 (.t 28) (.t 26), none, [0, 1, 2, 3, 4, 5, 6, 7, 8, 9, 10, 11, 12, 13, 14, 15, 16, 17, 18, 19, 20, 21, 22, 23, 24]⟩] [0, 1, 4, 5, 6, 7, 8, 9, 10, 11, 12, 13, 14, 15, 16, 17, 18, 19, 20, 21, 22, 23, 24, 25, 26, 27, 28])⟩

/-- clockwork/clockworkref41.For -/
def a90 : AFunc := ⟨28, 3, [.tmp 6],
  (.seq (.region false [
  ⟨some 3, .box (.t 0), none, []⟩,
  ⟨some 4, .box (.t 1), none, []⟩,
  ⟨some 6, .move (.c (.p (.bool false))), none, []⟩] [0, 1, 6])
  (.seq (.region false [
  ⟨some 7, .load (some 10) (.t 3), none, []⟩,
  ⟨some 8, .call false 29 [.t 7], none, []⟩,
  ⟨some 9, .move (.t 8), none, []⟩,
  ⟨some 10, .fieldAddr 0 (.t 4), some (9, true), []⟩,
  ⟨some 11, .load none (.t 10), some (9, true), []⟩,
  ⟨some 12, .move (.t 2), some (9, true), []⟩,
  ⟨some 13, .bin .eql (.t 11) (.t 12), some (9, true), []⟩,
  ⟨some 14, .pick (.t 9) (.t 13) (.c (.p (.bool false))), none, []⟩,
  ⟨some 15, .move (.t 14), none, []⟩,
  ⟨some 16, .fieldAddr 2 (.t 4), some (15, true), []⟩,
  ⟨some 17, .load none (.t 16), some (15, true), []⟩,
  ⟨some 18, .fieldAddr 0 (.t 3), some (15, true), []⟩,
  ⟨some 19, .load none (.t 18), some (15, true), []⟩,
  ⟨some 20, .bin .eql (.t 17) (.t 19), some (15, true), []⟩,
  ⟨some 21, .pick (.t 15) (.t 20) (.c (.p (.bool false))), none, []⟩,
  ⟨some 22, .move (.t 21), none, []⟩,
  ⟨some 23, .load (some 9) (.t 4), some (22, true), []⟩,
  ⟨some 24, .fieldAddr 1 (.t 3), some (22, true), []⟩,
  ⟨some 25, .load none (.t 24), some (22, true), []⟩,
  ⟨some 26, .call false 40 [.t 23, .t 25], some (22, true), []⟩,
  ⟨some 27, .pick (.t 22) (.t 26) (.c (.p (.bool false))), none, []⟩,
  ⟨some 6, .move (.t 27), none, []⟩] [2, 7, 8, 9, 10, 11, 12, 13, 14, 15, 16, 17, 18, 19, 20, 21, 22, 23, 24, 25, 26, 27])
  .ret))⟩

/-- clockwork/clockworkref40.in -/
def a91 : AFunc := ⟨12, 2, [.tmp 4],
  (.seq (.region false [
  ⟨some 4, .move (.c (.p (.bool false))), none, []⟩] [4])
  (.seq (.region false [
  ⟨some 5, .move (.t 0), none, []⟩,
  ⟨some 6, .move (.t 1), none, []⟩,
  ⟨some 7, .bin .geq (.t 5) (.t 6), none, []⟩,
  ⟨some 8, .move (.t 7), none, []⟩,
  ⟨some 9, .move (.t 0), some (8, true), []⟩,
  ⟨some 10, .bin .leq (.t 9) (.c (.p (.int .i64 1099511627776))), some (8, true), []⟩,
  ⟨some 11, .pick (.t 8) (.t 10) (.c (.p (.bool false))), none, []⟩,
  ⟨some 4, .move (.t 11), none, []⟩] [0, 1, 5, 6, 7, 8, 9, 10, 11])
  .ret))⟩

/-- clockwork/clockworkref40.validItems -/
@[irreducible] def a92_l0 : ACode :=
  (.seq (.seq (.region false [
  ⟨some 4, .move (.t 3), none, []⟩,
  ⟨some 5, .move (.t 0), none, []⟩,
  ⟨some 6, .len (.t 5), none, []⟩,
  ⟨some 7, .bin .lss (.t 4) (.t 6), none, []⟩] [4, 5, 6])
  (.cond (.t 7)
  .skip
  (.ghost (.forget [3, 7]) (.ghost .lower (.exit 0)))))
  (.seq (.block 1
  (.seq (.region false [
    ⟨some 10, .move (.t 0), none, []⟩,
    ⟨some 11, .move (.t 3), none, []⟩,
    ⟨some 12, .indexAddr 2 (.t 10) (.t 11), none, []⟩,
    ⟨some 13, .fieldAddr 0 (.t 12), none, []⟩,
    ⟨some 14, .load none (.t 13), none, []⟩,
    ⟨some 15, .call false 91 [.t 14, .c (.p (.int .i64 1))], none, []⟩,
    ⟨some 16, .un .not (.t 15), none, []⟩,
    ⟨some 17, .move (.t 16), none, []⟩,
    ⟨some 18, .move (.t 0), some (17, false), []⟩,
    ⟨some 19, .move (.t 3), some (17, false), []⟩,
    ⟨some 20, .indexAddr 2 (.t 18) (.t 19), some (17, false), []⟩,
    ⟨some 21, .fieldAddr 1 (.t 20), some (17, false), []⟩,
    ⟨some 22, .load none (.t 21), some (17, false), []⟩,
    ⟨some 23, .lenS (.t 22), some (17, false), []⟩,
    ⟨some 24, .bin .gtr (.t 23) (.c (.p (.int .i64 4096))), some (17, false), []⟩,
    ⟨some 25, .pick (.t 17) (.c (.p (.bool true))) (.t 24), none, []⟩] [7, 10, 11, 12, 13, 14, 15, 16, 17, 18, 19, 20, 21, 22, 23, 24])
    (.cond (.t 25)
    (.seq (.region false [
      ⟨some 2, .move (.c (.p (.bool false))), none, []⟩] [0, 3, 25])
      .ret)
    .skip)))
  (.region false [
  ⟨some 8, .move (.t 3), none, []⟩,
  ⟨some 9, .bin .add (.t 8) (.c (.p (.int .i64 1))), none, []⟩,
  ⟨some 3, .move (.t 9), none, []⟩] [8, 9, 25])))

def a92 : AFunc := ⟨29, 1, [.tmp 2],
  (.seq (.region false [
  ⟨some 2, .move (.c (.p (.bool false))), none, []⟩] [2])
  (.seq (.seq (.region false [
  ⟨some 3, .move (.c (.p (.int .i64 0))), none, []⟩] [])
  (.block 0
  (.loop
    (.ghost .lower a92_l0))))
  (.seq (.region false [
  ⟨some 26, .move (.t 0), none, []⟩,
  ⟨some 27, .len (.t 26), none, []⟩,
  ⟨some 28, .bin .leq (.t 27) (.c (.p (.int .i64 256))), none, []⟩,
  ⟨some 2, .move (.t 28), none, []⟩] [0, 26, 27, 28])
  .ret)))⟩

/-- clockwork/clockworkref40.unused -/
def a93 : AFunc := ⟨61, 1, [.tmp 2],
  (.seq (.region false [
  ⟨some 1, .box (.t 0), none, []⟩,
  ⟨some 2, .move (.c (.p (.bool false))), none, []⟩] [0, 2])
  (.seq (.seq (.region false [
  ⟨some 3, .fieldAddr 0 (.t 1), none, []⟩,
  ⟨some 4, .load none (.t 3), none, []⟩] [3])
  (.block 0
  (.seq (.region false [
    ⟨some 6, .bin .eql (.t 4) (.c (.p (.int .i64 1))), none, []⟩,
    ⟨some 5, .move (.t 6), none, []⟩] [6])
    (.cond (.t 5)
    (.seq (.region false [
      ⟨some 7, .fieldAddr 6 (.t 1), none, []⟩,
      ⟨some 8, .load none (.t 7), none, []⟩,
      ⟨some 9, .bin .eql (.t 8) (.c (.p (.int .i64 0))), none, []⟩,
      ⟨some 10, .move (.t 9), none, []⟩,
      ⟨some 11, .fieldAddr 7 (.t 1), some (10, true), []⟩,
      ⟨some 12, .load none (.t 11), some (10, true), []⟩,
      ⟨some 13, .un .not (.t 12), some (10, true), []⟩,
      ⟨some 14, .pick (.t 10) (.t 13) (.c (.p (.bool false))), none, []⟩,
      ⟨some 15, .move (.t 14), none, []⟩,
      ⟨some 16, .fieldAddr 8 (.t 1), some (15, true), []⟩,
      ⟨some 17, .load none (.t 16), some (15, true), []⟩,
      ⟨some 18, .len (.t 17), some (15, true), []⟩,
      ⟨some 19, .bin .eql (.t 18) (.c (.p (.int .i64 0))), some (15, true), []⟩,
      ⟨some 20, .pick (.t 15) (.t 19) (.c (.p (.bool false))), none, []⟩,
      ⟨some 2, .move (.t 20), none, []⟩] [4, 5, 7, 8, 9, 10, 11, 12, 13, 14, 15, 16, 17, 18, 19, 20])
      .ret)
    (.seq (.region false [
      ⟨some 22, .bin .eql (.t 4) (.c (.p (.int .i64 2))), none, []⟩,
      ⟨some 21, .move (.t 22), none, []⟩] [5, 22])
      (.cond (.t 21)
      (.seq (.region false [
        ⟨some 23, .fieldAddr 4 (.t 1), none, []⟩,
        ⟨some 24, .load none (.t 23), none, []⟩,
        ⟨some 25, .bin .eql (.t 24) (.c (.p (.int .i64 0))), none, []⟩,
        ⟨some 26, .move (.t 25), none, []⟩,
        ⟨some 27, .fieldAddr 5 (.t 1), some (26, true), []⟩,
        ⟨some 28, .load none (.t 27), some (26, true), []⟩,
        ⟨some 29, .bin .eql (.t 28) (.c (.p (.int .i64 0))), some (26, true), []⟩,
        ⟨some 30, .pick (.t 26) (.t 29) (.c (.p (.bool false))), none, []⟩,
        ⟨some 31, .move (.t 30), none, []⟩,
        ⟨some 32, .fieldAddr 6 (.t 1), some (31, true), []⟩,
        ⟨some 33, .load none (.t 32), some (31, true), []⟩,
        ⟨some 34, .bin .eql (.t 33) (.c (.p (.int .i64 0))), some (31, true), []⟩,
        ⟨some 35, .pick (.t 31) (.t 34) (.c (.p (.bool false))), none, []⟩,
        ⟨some 36, .move (.t 35), none, []⟩,
        ⟨some 37, .fieldAddr 8 (.t 1), some (36, true), []⟩,
        ⟨some 38, .load none (.t 37), some (36, true), []⟩,
        ⟨some 39, .len (.t 38), some (36, true), []⟩,
        ⟨some 40, .bin .eql (.t 39) (.c (.p (.int .i64 0))), some (36, true), []⟩,
        ⟨some 41, .pick (.t 36) (.t 40) (.c (.p (.bool false))), none, []⟩,
        ⟨some 2, .move (.t 41), none, []⟩] [4, 21, 23, 24, 25, 26, 27, 28, 29, 30, 31, 32, 33, 34, 35, 36, 37, 38, 39, 40, 41])
        .ret)
      (.seq (.region false [
        ⟨some 43, .bin .eql (.t 4) (.c (.p (.int .i64 3))), none, []⟩,
        ⟨some 42, .move (.t 43), none, []⟩] [4, 21, 43])
        (.cond (.t 42)
        (.seq (.region false [
          ⟨some 44, .fieldAddr 7 (.t 1), none, []⟩,
          ⟨some 45, .load none (.t 44), none, []⟩,
          ⟨some 46, .un .not (.t 45), none, []⟩,
          ⟨some 2, .move (.t 46), none, []⟩] [42, 44, 45, 46])
          .ret)
        .skip))))))))
  (.seq (.region false [
  ⟨some 47, .fieldAddr 5 (.t 1), none, []⟩,
  ⟨some 48, .load none (.t 47), none, []⟩,
  ⟨some 49, .bin .eql (.t 48) (.c (.p (.int .i64 0))), none, []⟩,
  ⟨some 50, .move (.t 49), none, []⟩,
  ⟨some 51, .fieldAddr 6 (.t 1), some (50, true), []⟩,
  ⟨some 52, .load none (.t 51), some (50, true), []⟩,
  ⟨some 53, .bin .eql (.t 52) (.c (.p (.int .i64 0))), some (50, true), []⟩,
  ⟨some 54, .pick (.t 50) (.t 53) (.c (.p (.bool false))), none, []⟩,
  ⟨some 55, .move (.t 54), none, []⟩,
  ⟨some 56, .fieldAddr 8 (.t 1), some (55, true), []⟩,
  ⟨some 57, .load none (.t 56), some (55, true), []⟩,
  ⟨some 58, .len (.t 57), some (55, true), []⟩,
  ⟨some 59, .bin .eql (.t 58) (.c (.p (.int .i64 0))), some (55, true), []⟩,
  ⟨some 60, .pick (.t 55) (.t 59) (.c (.p (.bool false))), none, []⟩,
  ⟨some 2, .move (.t 60), none, []⟩] [42, 47, 48, 49, 50, 51, 52, 53, 54, 55, 56, 57, 58, 59, 60])
  .ret)))⟩

/-- slices.Contains[[]int,int] -/
def a94 : AFunc := ⟨9, 2, [.tmp 4],
  (.seq (.region false [
  ⟨some 4, .move (.c (.p (.bool false))), none, []⟩] [4])
  (.seq (.region false [
  ⟨some 5, .move (.t 0), none, []⟩,
  ⟨some 6, .move (.t 1), none, []⟩,
  ⟨some 7, .call false 132 [.t 5, .t 6], none, []⟩,
  ⟨some 8, .bin .geq (.t 7) (.c (.p (.int .i64 0))), none, []⟩,
  ⟨some 4, .move (.t 8), none, []⟩] [0, 1, 5, 6, 7, 8])
  .ret))⟩

/-- slices.Sort[[]int,int] -/
def a95 : AFunc := ⟨11, 1, [],
  (.seq (.region false [
  ⟨some 3, .move (.t 0), none, []⟩,
  ⟨some 4, .len (.t 3), none, []⟩,
  ⟨some 2, .move (.t 4), none, []⟩] [3, 4])
  (.region false [
  ⟨some 5, .move (.t 0), none, []⟩,
  ⟨some 6, .move (.t 2), none, []⟩,
  ⟨some 7, .move (.t 2), none, []⟩,
  ⟨some 8, .conv .u64 (.t 7), none, []⟩,
  ⟨some 9, .call false 134 [.t 8], none, []⟩,
  ⟨some 10, .call true 133 [.t 5, .c (.p (.int .i64 0)), .t 6, .t 9], none, []⟩] [0, 2, 5, 6, 7, 8, 9, 10]))⟩

/-- clockwork/clockworkref41.insert -/
@[irreducible] def a96_l0 : ACode :=
  (.seq (.seq (.region false [
  ⟨some 8, .move (.t 7), none, []⟩,
  ⟨some 9, .move (.t 0), none, []⟩,
  ⟨some 10, .len (.t 9), none, []⟩,
  ⟨some 11, .bin .lss (.t 8) (.t 10), none, []⟩] [8, 9, 10])
  (.cond (.t 11)
  .skip
  (.ghost (.forget [0, 7, 11]) (.ghost .lower (.exit 0)))))
  (.seq (.block 1
  (.seq (.seq (.region false [
    ⟨some 14, .move (.t 6), none, []⟩,
    ⟨some 15, .un .not (.t 14), none, []⟩,
    ⟨some 16, .move (.t 15), none, []⟩,
    ⟨some 17, .move (.t 0), some (16, true), []⟩,
    ⟨some 18, .move (.t 7), some (16, true), []⟩,
    ⟨some 19, .indexAddr 1 (.t 17) (.t 18), some (16, true), []⟩,
    ⟨some 20, .load none (.t 19), some (16, true), []⟩,
    ⟨some 21, .move (.t 1), some (16, true), []⟩,
    ⟨some 22, .bin .geq (.t 20) (.t 21), some (16, true), []⟩,
    ⟨some 23, .pick (.t 16) (.t 22) (.c (.p (.bool false))), none, []⟩] [11, 14, 15, 16, 17, 18, 19, 20, 21, 22])
    (.cond (.t 23)
    (.seq (.region false [
      ⟨some 24, .move (.t 5), none, []⟩,
      ⟨some 25, .move (.t 1), none, []⟩,
      ⟨some 26, .buildSlice [.int .i64 0] 1 [(0, .t 25)], none, []⟩,
      ⟨some 27, .append 8 1 (.t 24) (.t 26), none, []⟩,
      ⟨some 5, .move (.t 27), none, []⟩] [6, 23, 24, 25, 26, 27])
      (.region false [
      ⟨some 6, .move (.c (.p (.bool true))), none, []⟩] []))
    .skip))
    (.seq (.region false [
    ⟨some 28, .move (.t 0), none, []⟩,
    ⟨some 29, .move (.t 7), none, []⟩,
    ⟨some 30, .indexAddr 1 (.t 28) (.t 29), none, []⟩,
    ⟨some 31, .load none (.t 30), none, []⟩,
    ⟨some 32, .move (.t 1), none, []⟩,
    ⟨some 33, .bin .neq (.t 31) (.t 32), none, []⟩] [23, 28, 29, 30, 31, 32])
    (.cond (.t 33)
    (.region false [
      ⟨some 34, .move (.t 5), none, []⟩,
      ⟨some 35, .move (.t 0), none, []⟩,
      ⟨some 36, .move (.t 7), none, []⟩,
      ⟨some 37, .indexAddr 1 (.t 35) (.t 36), none, []⟩,
      ⟨some 38, .load none (.t 37), none, []⟩,
      ⟨some 39, .buildSlice [.int .i64 0] 1 [(0, .t 38)], none, []⟩,
      ⟨some 40, .append 8 1 (.t 34) (.t 39), none, []⟩,
      ⟨some 5, .move (.t 40), none, []⟩] [33, 34, 35, 36, 37, 38, 39, 40])
    .skip))))
  (.region false [
  ⟨some 12, .move (.t 7), none, []⟩,
  ⟨some 13, .bin .add (.t 12) (.c (.p (.int .i64 1))), none, []⟩,
  ⟨some 7, .move (.t 13), none, []⟩] [12, 13, 33])))

def a96 : AFunc := ⟨48, 2, [.tmp 4],
  (.seq (.region false [
  ⟨some 4, .move (.c (.p (.slice true []))), none, []⟩] [4])
  (.seq (.region false [
  ⟨some 5, .move (.c (.p (.slice true []))), none, []⟩] [])
  (.ghost (.own 1 5) (.seq (.region false [
  ⟨some 6, .move (.c (.p (.bool false))), none, []⟩] [])
  (.seq (.seq (.region false [
  ⟨some 7, .move (.c (.p (.int .i64 0))), none, []⟩] [])
  (.block 0
  (.loop
    (.ghost .lower a96_l0))))
  (.seq (.seq (.region false [
  ⟨some 41, .move (.t 6), none, []⟩,
  ⟨some 42, .un .not (.t 41), none, []⟩] [6, 41])
  (.cond (.t 42)
  (.region false [
    ⟨some 43, .move (.t 5), none, []⟩,
    ⟨some 44, .move (.t 1), none, []⟩,
    ⟨some 45, .buildSlice [.int .i64 0] 1 [(0, .t 44)], none, []⟩,
    ⟨some 46, .append 8 1 (.t 43) (.t 45), none, []⟩,
    ⟨some 5, .move (.t 46), none, []⟩] [1, 42, 43, 44, 45, 46])
  .skip))
  (.seq (.region false [
  ⟨some 47, .move (.t 5), none, []⟩,
  ⟨some 4, .move (.t 47), none, []⟩] [1, 5, 42, 47])
  .ret)))))))⟩

/-- clockwork/clockworklaw42.items -/
@[irreducible] def a98_l0 : ACode :=
  (.seq (.seq (.region false [
  ⟨some 7, .move (.t 3), none, []⟩,
  ⟨some 8, .move (.t 0), none, []⟩,
  ⟨some 9, .len (.t 8), none, []⟩,
  ⟨some 10, .bin .lss (.t 7) (.t 9), none, []⟩] [7, 8, 9])
  (.cond (.t 10)
  .skip
  (.ghost (.forget [0, 3, 10]) (.ghost .lower (.exit 0)))))
  (.seq (.block 1
  (.seq (.region false [
    ⟨some 13, .move (.t 0), none, []⟩,
    ⟨some 14, .move (.t 3), none, []⟩,
    ⟨some 15, .indexAddr 2 (.t 13) (.t 14), none, []⟩,
    ⟨some 16, .fieldAddr 1 (.t 15), none, []⟩,
    ⟨some 17, .load none (.t 16), none, []⟩,
    ⟨some 18, .lenS (.t 17), none, []⟩,
    ⟨some 19, .bin .gtr (.t 18) (.c (.p (.int .i64 5000))), none, []⟩] [10, 13, 14, 15, 16, 17, 18])
    (.cond (.t 19)
    (.seq (.region false [
      ⟨some 2, .move (.c (.p (.bool false))), none, []⟩] [0, 3, 19])
      .ret)
    .skip)))
  (.region false [
  ⟨some 11, .move (.t 3), none, []⟩,
  ⟨some 12, .bin .add (.t 11) (.c (.p (.int .i64 1))), none, []⟩,
  ⟨some 3, .move (.t 12), none, []⟩] [11, 12, 19])))

def a98 : AFunc := ⟨20, 1, [.tmp 2],
  (.seq (.region false [
  ⟨some 2, .move (.c (.p (.bool false))), none, []⟩] [2])
  (.seq (.seq (.region false [
  ⟨some 4, .move (.t 0), none, []⟩,
  ⟨some 5, .len (.t 4), none, []⟩,
  ⟨some 6, .bin .gtr (.t 5) (.c (.p (.int .i64 300))), none, []⟩] [4, 5])
  (.cond (.t 6)
  (.seq (.region false [
    ⟨some 2, .move (.c (.p (.bool false))), none, []⟩] [0, 6])
    .ret)
  .skip))
  (.seq (.seq (.region false [
  ⟨some 3, .move (.c (.p (.int .i64 0))), none, []⟩] [6])
  (.block 0
  (.loop
    (.ghost .lower a98_l0))))
  (.seq (.region false [
  ⟨some 2, .move (.c (.p (.bool true))), none, []⟩] [])
  .ret))))⟩

/-- clockwork/clockworklaw42.leader -/
def a99 : AFunc := ⟨4, 0, [.cell 0 10],
  (.seq (.region false [
  ⟨some 0, .alloc [.int .i64 0, .int .i64 0, .int .i64 0, .int .i64 0, .slice true [], .int .i64 0, .int .i64 0, .slice true [], .slice true [], .slice true []], none, []⟩] [])
  (.seq (.region false [
  ⟨some 1, .buildSlice [.int .i64 0] 3 [(0, .c (.p (.int .i64 0))), (1, .c (.p (.int .i64 0))), (2, .c (.p (.int .i64 0)))], none, []⟩,
  ⟨some 2, .buildSlice [.int .i64 0] 3 [(0, .c (.p (.int .i64 0))), (1, .c (.p (.int .i64 0))), (2, .c (.p (.int .i64 0)))], none, []⟩,
  ⟨some 3, .build [.int .i64 0, .int .i64 0, .int .i64 0, .int .i64 0, .slice true [], .int .i64 0, .int .i64 0, .slice true [], .slice true [], .slice true []] [(0, 1, .c (.p (.int .i64 1))), (1, 1, .c (.p (.int .i64 3))), (2, 1, .c (.p (.int .i64 1))), (3, 1, .c (.p (.int .i64 1))), (5, 1, .c (.p (.int .i64 3))), (8, 1, .t 1), (9, 1, .t 2)], none, []⟩,
  ⟨none, .store 10 (.t 0) (.t 3), none, []⟩] [1, 2, 3])
  .ret))⟩

/-- clockwork/replicate.Ack -/
def a100 : AFunc := ⟨100, 2, [.cell 4 10],
  (.seq (.region false [
  ⟨some 2, .box (.t 0), none, []⟩,
  ⟨some 3, .box (.t 1), none, []⟩,
  ⟨some 4, .alloc [.int .i64 0, .int .i64 0, .int .i64 0, .int .i64 0, .slice true [], .int .i64 0, .int .i64 0, .slice true [], .slice true [], .slice true []], none, []⟩] [0, 1])
  (.seq (.region false [
  ⟨some 7, .load (some 10) (.t 2), none, []⟩,
  ⟨some 8, .call true 101 [.t 7], none, []⟩,
  ⟨some 5, .alloc [.int .i64 0, .int .i64 0, .int .i64 0, .int .i64 0, .slice true [], .int .i64 0, .int .i64 0, .slice true [], .slice true [], .slice true []], none, []⟩,
  ⟨none, .store 10 (.t 5) (.t 8), none, []⟩] [7, 8])
  (.seq (.seq (.region false [
  ⟨some 9, .load (some 10) (.t 2), none, []⟩,
  ⟨some 10, .load (some 9) (.t 3), none, []⟩,
  ⟨some 11, .call false 108 [.t 9, .t 10, .c (.p (.int .i64 4))], none, []⟩,
  ⟨some 12, .un .not (.t 11), none, []⟩] [9, 10, 11])
  (.cond (.t 12)
  (.seq (.region false [
    ⟨some 13, .load (some 10) (.t 5), none, []⟩,
    ⟨none, .store 10 (.t 4) (.t 13), none, []⟩] [12, 13])
    .ret)
  .skip))
  (.seq (.seq (.region false [
  ⟨some 14, .fieldAddr 3 (.t 3), none, []⟩,
  ⟨some 15, .load none (.t 14), none, []⟩,
  ⟨some 16, .fieldAddr 2 (.t 2), none, []⟩,
  ⟨some 17, .load none (.t 16), none, []⟩,
  ⟨some 18, .bin .gtr (.t 15) (.t 17), none, []⟩] [12, 14, 15, 16, 17])
  (.cond (.t 18)
  (.seq (.region false [
    ⟨some 19, .load (some 10) (.t 5), none, []⟩,
    ⟨some 20, .fieldAddr 3 (.t 3), none, []⟩,
    ⟨some 21, .load none (.t 20), none, []⟩,
    ⟨some 22, .call false 110 [.t 19, .t 21], none, []⟩,
    ⟨none, .store 10 (.t 4) (.t 22), none, []⟩] [18, 19, 20, 21, 22])
    .ret)
  .skip))
  (.seq (.seq (.region false [
  ⟨some 23, .fieldAddr 3 (.t 3), none, []⟩,
  ⟨some 24, .load none (.t 23), none, []⟩,
  ⟨some 25, .fieldAddr 2 (.t 2), none, []⟩,
  ⟨some 26, .load none (.t 25), none, []⟩,
  ⟨some 27, .bin .lss (.t 24) (.t 26), none, []⟩,
  ⟨some 28, .move (.t 27), none, []⟩,
  ⟨some 29, .fieldAddr 5 (.t 2), some (28, false), []⟩,
  ⟨some 30, .load none (.t 29), some (28, false), []⟩,
  ⟨some 31, .bin .neq (.t 30) (.c (.p (.int .i64 3))), some (28, false), []⟩,
  ⟨some 32, .pick (.t 28) (.c (.p (.bool true))) (.t 31), none, []⟩] [18, 23, 24, 25, 26, 27, 28, 29, 30, 31])
  (.cond (.t 32)
  (.seq (.region false [
    ⟨some 33, .load (some 10) (.t 5), none, []⟩,
    ⟨none, .store 10 (.t 4) (.t 33), none, []⟩] [32, 33])
    .ret)
  .skip))
  (.seq (.region false [
  ⟨some 34, .fieldAddr 1 (.t 3), none, []⟩,
  ⟨some 35, .load none (.t 34), none, []⟩,
  ⟨some 36, .bin .sub (.t 35) (.c (.p (.int .i64 1))), none, []⟩,
  ⟨some 6, .move (.t 36), none, []⟩] [32, 34, 35, 36])
  (.seq (.block 0
  (.seq (.region false [
    ⟨some 38, .fieldAddr 7 (.t 3), none, []⟩,
    ⟨some 39, .load none (.t 38), none, []⟩,
    ⟨some 40, .move (.t 39), none, []⟩,
    ⟨some 41, .fieldAddr 4 (.t 3), some (40, true), []⟩,
    ⟨some 42, .load none (.t 41), some (40, true), []⟩,
    ⟨some 43, .fieldAddr 4 (.t 5), some (40, true), []⟩,
    ⟨some 44, .load none (.t 43), some (40, true), []⟩,
    ⟨some 45, .len (.t 44), some (40, true), []⟩,
    ⟨some 46, .bin .gtr (.t 42) (.t 45), some (40, true), []⟩,
    ⟨some 47, .pick (.t 40) (.t 46) (.c (.p (.bool false))), none, []⟩,
    ⟨some 37, .move (.t 47), none, []⟩] [38, 39, 40, 41, 42, 43, 44, 45, 46, 47])
    (.cond (.t 37)
    (.seq (.region false [
      ⟨some 48, .load (some 10) (.t 5), none, []⟩,
      ⟨none, .store 10 (.t 4) (.t 48), none, []⟩] [6, 37, 48])
      .ret)
    (.seq (.region false [
      ⟨some 50, .fieldAddr 7 (.t 3), none, []⟩,
      ⟨some 51, .load none (.t 50), none, []⟩,
      ⟨some 49, .move (.t 51), none, []⟩] [37, 50, 51])
      (.cond (.t 49)
      (.seq (.region true [
        ⟨some 52, .fieldAddr 9 (.t 5), none, []⟩,
        ⟨some 53, .load none (.t 52), none, [0]⟩,
        ⟨some 54, .move (.t 6), none, []⟩,
        ⟨some 55, .fieldAddr 9 (.t 5), none, []⟩,
        ⟨some 56, .load none (.t 55), none, [3]⟩,
        ⟨some 57, .move (.t 6), none, []⟩,
        ⟨some 58, .indexAddr 1 (.t 56) (.t 57), none, [3, 4, 5]⟩,
        ⟨some 59, .load none (.t 58), none, [3, 4, 5, 6]⟩,
        ⟨some 60, .fieldAddr 4 (.t 3), none, []⟩,
        ⟨some 61, .load none (.t 60), none, [8]⟩,
        ⟨some 62, .minmax true (.t 59) [.t 61], none, [3, 4, 5, 6, 7, 8, 9]⟩,
        ⟨some 63, .indexAddr 1 (.t 53) (.t 54), none, [0, 1, 2, 3, 4, 5, 6, 7, 8, 9, 10]⟩,
        ⟨none, .store 1 (.t 63) (.t 62), none, [0, 1, 2, 3, 4, 5, 6, 7, 8, 9, 10, 11]⟩] [49, 52, 53, 54, 55, 56, 57, 58, 59, 60, 61, 62, 63])
        (.region true [
        ⟨some 64, .fieldAddr 8 (.t 5), none, []⟩,
        ⟨some 65, .load none (.t 64), none, [0]⟩,
        ⟨some 66, .move (.t 6), none, []⟩,
        ⟨some 67, .fieldAddr 9 (.t 5), none, []⟩,
        ⟨some 68, .load none (.t 67), none, [3]⟩,
        ⟨some 69, .move (.t 6), none, []⟩,
        ⟨some 70, .indexAddr 1 (.t 68) (.t 69), none, [3, 4, 5]⟩,
        ⟨some 71, .load none (.t 70), none, [3, 4, 5, 6]⟩,
        ⟨some 72, .indexAddr 1 (.t 65) (.t 66), none, [0, 1, 2, 3, 4, 5, 6, 7]⟩,
        ⟨none, .store 1 (.t 72) (.t 71), none, [0, 1, 2, 3, 4, 5, 6, 7, 8]⟩] [6, 64, 65, 66, 67, 68, 69, 70, 71, 72]))
      (.seq (.region false [
        ⟨some 74, .fieldAddr 7 (.t 3), none, []⟩,
        ⟨some 75, .load none (.t 74), none, []⟩,
        ⟨some 76, .un .not (.t 75), none, []⟩,
        ⟨some 73, .move (.t 76), none, []⟩] [49, 74, 75, 76])
        (.cond (.t 73)
        (.region true [
          ⟨some 77, .fieldAddr 8 (.t 5), none, []⟩,
          ⟨some 78, .load none (.t 77), none, [0]⟩,
          ⟨some 79, .move (.t 6), none, []⟩,
          ⟨some 80, .fieldAddr 8 (.t 5), none, []⟩,
          ⟨some 81, .load none (.t 80), none, [3]⟩,
          ⟨some 82, .move (.t 6), none, []⟩,
          ⟨some 83, .indexAddr 1 (.t 81) (.t 82), none, [3, 4, 5]⟩,
          ⟨some 84, .load none (.t 83), none, [3, 4, 5, 6]⟩,
          ⟨some 85, .bin .sub (.t 84) (.c (.p (.int .i64 1))), none, [3, 4, 5, 6, 7]⟩,
          ⟨some 86, .fieldAddr 4 (.t 3), none, []⟩,
          ⟨some 87, .load none (.t 86), none, [9]⟩,
          ⟨some 88, .minmax false (.t 85) [.t 87], none, [3, 4, 5, 6, 7, 8, 9, 10]⟩,
          ⟨some 89, .fieldAddr 9 (.t 5), none, []⟩,
          ⟨some 90, .load none (.t 89), none, [12]⟩,
          ⟨some 91, .move (.t 6), none, []⟩,
          ⟨some 92, .indexAddr 1 (.t 90) (.t 91), none, [12, 13, 14]⟩,
          ⟨some 93, .load none (.t 92), none, [12, 13, 14, 15]⟩,
          ⟨some 94, .minmax true (.t 88) [.t 93], none, [3, 4, 5, 6, 7, 8, 9, 10, 11, 12, 13, 14, 15, 16]⟩,
          ⟨some 95, .indexAddr 1 (.t 78) (.t 79), none, [0, 1, 2, 3, 4, 5, 6, 7, 8, 9, 10, 11, 12, 13, 14, 15, 16, 17]⟩,
          ⟨none, .store 1 (.t 95) (.t 94), none, [0, 1, 2, 3, 4, 5, 6, 7, 8, 9, 10, 11, 12, 13, 14, 15, 16, 17, 18]⟩] [6, 73, 77, 78, 79, 80, 81, 82, 83, 84, 85, 86, 87, 88, 89, 90, 91, 92, 93, 94, 95])
        .skip)))))))
  (.seq (.region false [
  ⟨some 96, .load (some 10) (.t 5), none, []⟩,
  ⟨some 97, .call false 102 [.t 96], none, []⟩,
  ⟨some 98, .fieldAddr 6 (.t 5), none, []⟩,
  ⟨none, .store 1 (.t 98) (.t 97), none, []⟩] [6, 73, 96, 97, 98])
  (.seq (.region false [
  ⟨some 99, .load (some 10) (.t 5), none, []⟩,
  ⟨none, .store 10 (.t 4) (.t 99), none, []⟩] [99])
  .ret)))))))))⟩

/-- clockwork/replicate.clone -/
def a101 : AFunc := ⟨20, 1, [.cell 2 10],
  (.seq (.region false [
  ⟨some 1, .box (.t 0), none, []⟩,
  ⟨some 2, .alloc [.int .i64 0, .int .i64 0, .int .i64 0, .int .i64 0, .slice true [], .int .i64 0, .int .i64 0, .slice true [], .slice true [], .slice true []], none, []⟩] [0])
  (.seq (.region false [
  ⟨some 3, .fieldAddr 4 (.t 1), none, []⟩,
  ⟨some 4, .load none (.t 3), none, []⟩,
  ⟨some 5, .call true 97 [.t 4], none, []⟩,
  ⟨some 6, .fieldAddr 4 (.t 1), none, []⟩,
  ⟨none, .store 1 (.t 6) (.t 5), none, []⟩] [3, 4, 5, 6])
  (.seq (.region false [
  ⟨some 7, .fieldAddr 7 (.t 1), none, []⟩,
  ⟨some 8, .load none (.t 7), none, []⟩,
  ⟨some 9, .call true 129 [.t 8], none, []⟩,
  ⟨some 10, .fieldAddr 7 (.t 1), none, []⟩,
  ⟨none, .store 1 (.t 10) (.t 9), none, []⟩] [7, 8, 9, 10])
  (.seq (.region false [
  ⟨some 11, .fieldAddr 8 (.t 1), none, []⟩,
  ⟨some 12, .load none (.t 11), none, []⟩,
  ⟨some 13, .call true 129 [.t 12], none, []⟩,
  ⟨some 14, .fieldAddr 8 (.t 1), none, []⟩,
  ⟨none, .store 1 (.t 14) (.t 13), none, []⟩] [11, 12, 13, 14])
  (.seq (.region false [
  ⟨some 15, .fieldAddr 9 (.t 1), none, []⟩,
  ⟨some 16, .load none (.t 15), none, []⟩,
  ⟨some 17, .call true 129 [.t 16], none, []⟩,
  ⟨some 18, .fieldAddr 9 (.t 1), none, []⟩,
  ⟨none, .store 1 (.t 18) (.t 17), none, []⟩] [15, 16, 17, 18])
  (.seq (.region false [
  ⟨some 19, .load (some 10) (.t 1), none, []⟩,
  ⟨none, .store 10 (.t 2) (.t 19), none, []⟩] [19])
  .ret))))))⟩

/-- clockwork/replicate.commit -/
@[irreducible] def a102_l0 : ACode :=
  (.seq (.seq (.region false [
  ⟨some 7, .move (.t 3), none, []⟩,
  ⟨some 8, .fieldAddr 6 (.t 1), none, []⟩,
  ⟨some 9, .load none (.t 8), none, []⟩,
  ⟨some 10, .bin .gtr (.t 7) (.t 9), none, []⟩] [7, 8, 9])
  (.cond (.t 10)
  .skip
  (.ghost (.forget [3, 10]) (.ghost .lower (.exit 0)))))
  (.seq (.block 1
  (.seq (.region true [
    ⟨some 13, .fieldAddr 4 (.t 1), none, []⟩,
    ⟨some 14, .load none (.t 13), none, [0]⟩,
    ⟨some 15, .move (.t 3), none, []⟩,
    ⟨some 16, .bin .sub (.t 15) (.c (.p (.int .i64 1))), none, [2]⟩,
    ⟨some 17, .indexAddr 2 (.t 14) (.t 16), none, [0, 1, 2, 3]⟩,
    ⟨some 18, .fieldAddr 0 (.t 17), none, [0, 1, 2, 3, 4]⟩,
    ⟨some 19, .load none (.t 18), none, [0, 1, 2, 3, 4, 5]⟩,
    ⟨some 20, .fieldAddr 2 (.t 1), none, []⟩,
    ⟨some 21, .load none (.t 20), none, [7]⟩,
    ⟨some 22, .bin .eql (.t 19) (.t 21), none, [0, 1, 2, 3, 4, 5, 6, 7, 8]⟩,
    ⟨some 23, .move (.t 22), none, [0, 1, 2, 3, 4, 5, 6, 7, 8, 9]⟩,
    ⟨some 24, .load (some 10) (.t 1), some (23, true), [0, 1, 2, 3, 4, 5, 6, 7, 8, 9, 10]⟩,
    ⟨some 25, .move (.t 3), some (23, true), [0, 1, 2, 3, 4, 5, 6, 7, 8, 9, 10]⟩,
    ⟨some 26, .call false 135 [.t 24, .t 25], some (23, true), [0, 1, 2, 3, 4, 5, 6, 7, 8, 9, 10, 11, 12]⟩,
    ⟨some 27, .fieldAddr 1 (.t 1), some (23, true), [0, 1, 2, 3, 4, 5, 6, 7, 8, 9, 10]⟩,
    ⟨some 28, .load none (.t 27), some (23, true), [0, 1, 2, 3, 4, 5, 6, 7, 8, 9, 10, 14]⟩,
    ⟨some 29, .call false 25 [.t 28], some (23, true), [0, 1, 2, 3, 4, 5, 6, 7, 8, 9, 10, 11, 12, 13, 14, 15]⟩,
    ⟨some 30, .bin .geq (.t 26) (.t 29), some (23, true), [0, 1, 2, 3, 4, 5, 6, 7, 8, 9, 10, 11, 12, 13, 14, 15, 16]⟩,
    ⟨some 31, .pick (.t 23) (.t 30) (.c (.p (.bool false))), none, [0, 1, 2, 3, 4, 5, 6, 7, 8, 9, 10, 11, 12, 13, 14, 15, 16, 17]⟩] [10, 13, 14, 15, 16, 17, 18, 19, 20, 21, 22, 23, 24, 25, 26, 27, 28, 29, 30])
    (.cond (.t 31)
    (.seq (.region false [
      ⟨some 32, .move (.t 3), none, []⟩,
      ⟨some 2, .move (.t 32), none, []⟩] [3, 31, 32])
      .ret)
    .skip)))
  (.region false [
  ⟨some 11, .move (.t 3), none, []⟩,
  ⟨some 12, .bin .sub (.t 11) (.c (.p (.int .i64 1))), none, []⟩,
  ⟨some 3, .move (.t 12), none, []⟩] [11, 12, 31])))

def a102 : AFunc := ⟨35, 1, [.tmp 2],
  (.seq (.region false [
  ⟨some 1, .box (.t 0), none, []⟩,
  ⟨some 2, .move (.c (.p (.int .i64 0))), none, []⟩] [0, 2])
  (.seq (.seq (.region false [
  ⟨some 4, .fieldAddr 4 (.t 1), none, []⟩,
  ⟨some 5, .load none (.t 4), none, []⟩,
  ⟨some 6, .len (.t 5), none, []⟩,
  ⟨some 3, .move (.t 6), none, []⟩] [4, 5, 6])
  (.block 0
  (.loop
    (.ghost .lower a102_l0))))
  (.seq (.region false [
  ⟨some 33, .fieldAddr 6 (.t 1), none, []⟩,
  ⟨some 34, .load none (.t 33), none, []⟩,
  ⟨some 2, .move (.t 34), none, []⟩] [33, 34])
  .ret)))⟩

/-- clockwork/clockworkref42.extend -/
def a103 : AFunc := ⟨16, 3, [.tmp 6],
  (.seq (.region false [
  ⟨some 6, .move (.c (.p (.slice true []))), none, []⟩] [6])
  (.seq (.region false [
  ⟨some 7, .move (.c (.p (.slice true []))), none, []⟩] [])
  (.seq (.region false [
  ⟨some 8, .move (.t 7), none, []⟩,
  ⟨some 9, .move (.t 0), none, []⟩,
  ⟨some 10, .move (.t 1), none, []⟩,
  ⟨some 11, .slice 2 (.t 9) none (some (.t 10)) none, none, []⟩,
  ⟨some 12, .append 24 2 (.t 8) (.t 11), none, []⟩,
  ⟨some 7, .move (.t 12), none, []⟩] [0, 1, 8, 9, 10, 11, 12])
  (.seq (.region false [
  ⟨some 13, .move (.t 7), none, []⟩,
  ⟨some 14, .move (.t 2), none, []⟩,
  ⟨some 15, .append 24 2 (.t 13) (.t 14), none, []⟩,
  ⟨some 6, .move (.t 15), none, []⟩] [2, 7, 13, 14, 15])
  .ret))))⟩

/-- clockwork/clockworkref42.with -/
def a104 : AFunc := ⟨23, 3, [.tmp 6],
  (.seq (.region false [
  ⟨some 6, .move (.c (.p (.slice true []))), none, []⟩] [6])
  (.seq (.region false [
  ⟨some 7, .move (.c (.p (.slice true []))), none, []⟩] [])
  (.seq (.region false [
  ⟨some 8, .move (.t 7), none, []⟩,
  ⟨some 9, .move (.t 0), none, []⟩,
  ⟨some 10, .move (.t 1), none, []⟩,
  ⟨some 11, .slice 1 (.t 9) none (some (.t 10)) none, none, []⟩,
  ⟨some 12, .append 8 1 (.t 8) (.t 11), none, []⟩,
  ⟨some 7, .move (.t 12), none, []⟩] [8, 9, 10, 11, 12])
  (.seq (.region false [
  ⟨some 13, .move (.t 7), none, []⟩,
  ⟨some 14, .move (.t 2), none, []⟩,
  ⟨some 15, .buildSlice [.int .i64 0] 1 [(0, .t 14)], none, []⟩,
  ⟨some 16, .append 8 1 (.t 13) (.t 15), none, []⟩,
  ⟨some 7, .move (.t 16), none, []⟩] [2, 13, 14, 15, 16])
  (.seq (.region false [
  ⟨some 17, .move (.t 7), none, []⟩,
  ⟨some 18, .move (.t 0), none, []⟩,
  ⟨some 19, .move (.t 1), none, []⟩,
  ⟨some 20, .bin .add (.t 19) (.c (.p (.int .i64 1))), none, []⟩,
  ⟨some 21, .slice 1 (.t 18) (some (.t 20)) none none, none, []⟩,
  ⟨some 22, .append 8 1 (.t 17) (.t 21), none, []⟩,
  ⟨some 6, .move (.t 22), none, []⟩] [0, 1, 7, 17, 18, 19, 20, 21, 22])
  .ret)))))⟩

/-- clockwork/clockworkref42.commit -/
@[irreducible] def a105_l0 : ACode :=
  (.seq (.seq (.region false [
  ⟨some 15, .move (.t 5), none, []⟩,
  ⟨some 16, .fieldAddr 9 (.t 1), none, []⟩,
  ⟨some 17, .load none (.t 16), none, []⟩,
  ⟨some 18, .len (.t 17), none, []⟩,
  ⟨some 19, .bin .lss (.t 15) (.t 18), none, []⟩] [15, 16, 17, 18])
  (.cond (.t 19)
  .skip
  (.ghost (.forget [5, 19]) (.ghost .lower (.exit 2)))))
  (.seq (.block 3
  (.seq (.region false [
    ⟨some 22, .fieldAddr 9 (.t 1), none, []⟩,
    ⟨some 23, .load none (.t 22), none, []⟩,
    ⟨some 24, .move (.t 5), none, []⟩,
    ⟨some 25, .indexAddr 1 (.t 23) (.t 24), none, []⟩,
    ⟨some 26, .load none (.t 25), none, []⟩,
    ⟨some 27, .move (.t 3), none, []⟩,
    ⟨some 28, .bin .geq (.t 26) (.t 27), none, []⟩] [19, 22, 23, 24, 25, 26, 27])
    (.cond (.t 28)
    (.region false [
      ⟨some 29, .move (.t 4), none, []⟩,
      ⟨some 30, .bin .add (.t 29) (.c (.p (.int .i64 1))), none, []⟩,
      ⟨some 4, .move (.t 30), none, []⟩] [28, 29, 30])
    .skip)))
  (.region false [
  ⟨some 20, .move (.t 5), none, []⟩,
  ⟨some 21, .bin .add (.t 20) (.c (.p (.int .i64 1))), none, []⟩,
  ⟨some 5, .move (.t 21), none, []⟩] [20, 21, 28])))

@[irreducible] def a105_l1 : ACode :=
  (.seq (.seq (.region false [
  ⟨some 9, .move (.t 3), none, []⟩,
  ⟨some 10, .fieldAddr 6 (.t 1), none, []⟩,
  ⟨some 11, .load none (.t 10), none, []⟩,
  ⟨some 12, .bin .gtr (.t 9) (.t 11), none, []⟩] [9, 10, 11])
  (.cond (.t 12)
  .skip
  (.ghost (.forget [3, 12]) (.ghost .lower (.exit 0)))))
  (.seq (.block 1
  (.seq (.region false [
    ⟨some 4, .move (.c (.p (.int .i64 0))), none, []⟩] [12])
    (.seq (.seq (.region false [
    ⟨some 5, .move (.c (.p (.int .i64 0))), none, []⟩] [])
    (.block 2
    (.loop
      (.ghost .lower a105_l0))))
    (.seq (.region true [
    ⟨some 31, .fieldAddr 4 (.t 1), none, []⟩,
    ⟨some 32, .load none (.t 31), none, [0]⟩,
    ⟨some 33, .move (.t 3), none, []⟩,
    ⟨some 34, .bin .sub (.t 33) (.c (.p (.int .i64 1))), none, [2]⟩,
    ⟨some 35, .indexAddr 2 (.t 32) (.t 34), none, [0, 1, 2, 3]⟩,
    ⟨some 36, .fieldAddr 0 (.t 35), none, [0, 1, 2, 3, 4]⟩,
    ⟨some 37, .load none (.t 36), none, [0, 1, 2, 3, 4, 5]⟩,
    ⟨some 38, .fieldAddr 2 (.t 1), none, []⟩,
    ⟨some 39, .load none (.t 38), none, [7]⟩,
    ⟨some 40, .bin .eql (.t 37) (.t 39), none, [0, 1, 2, 3, 4, 5, 6, 7, 8]⟩,
    ⟨some 41, .move (.t 40), none, [0, 1, 2, 3, 4, 5, 6, 7, 8, 9]⟩,
    ⟨some 42, .move (.t 4), some (41, true), [0, 1, 2, 3, 4, 5, 6, 7, 8, 9, 10]⟩,
    ⟨some 43, .fieldAddr 1 (.t 1), some (41, true), [0, 1, 2, 3, 4, 5, 6, 7, 8, 9, 10]⟩,
    ⟨some 44, .load none (.t 43), some (41, true), [0, 1, 2, 3, 4, 5, 6, 7, 8, 9, 10, 12]⟩,
    ⟨some 45, .call false 26 [.t 44], some (41, true), [0, 1, 2, 3, 4, 5, 6, 7, 8, 9, 10, 12, 13]⟩,
    ⟨some 46, .bin .geq (.t 42) (.t 45), some (41, true), [0, 1, 2, 3, 4, 5, 6, 7, 8, 9, 10, 11, 12, 13, 14]⟩,
    ⟨some 47, .pick (.t 41) (.t 46) (.c (.p (.bool false))), none, [0, 1, 2, 3, 4, 5, 6, 7, 8, 9, 10, 11, 12, 13, 14, 15]⟩] [4, 31, 32, 33, 34, 35, 36, 37, 38, 39, 40, 41, 42, 43, 44, 45, 46])
    (.cond (.t 47)
    (.seq (.region false [
      ⟨some 48, .move (.t 3), none, []⟩,
      ⟨some 49, .fieldAddr 6 (.t 1), none, []⟩,
      ⟨none, .store 1 (.t 49) (.t 48), none, []⟩] [3, 47, 48, 49])
      (.seq (.region false [
      ⟨some 50, .load (some 10) (.t 1), none, []⟩,
      ⟨none, .store 10 (.t 2) (.t 50), none, []⟩] [50])
      .ret))
    .skip)))))
  (.region false [
  ⟨some 13, .move (.t 3), none, []⟩,
  ⟨some 14, .bin .sub (.t 13) (.c (.p (.int .i64 1))), none, []⟩,
  ⟨some 3, .move (.t 14), none, []⟩] [13, 14, 47])))

def a105 : AFunc := ⟨52, 1, [.cell 2 10],
  (.seq (.region false [
  ⟨some 1, .box (.t 0), none, []⟩,
  ⟨some 2, .alloc [.int .i64 0, .int .i64 0, .int .i64 0, .int .i64 0, .slice true [], .int .i64 0, .int .i64 0, .slice true [], .slice true [], .slice true []], none, []⟩] [0])
  (.seq (.seq (.region false [
  ⟨some 6, .fieldAddr 4 (.t 1), none, []⟩,
  ⟨some 7, .load none (.t 6), none, []⟩,
  ⟨some 8, .len (.t 7), none, []⟩,
  ⟨some 3, .move (.t 8), none, []⟩] [6, 7, 8])
  (.block 0
  (.loop
    (.ghost .lower a105_l1))))
  (.seq (.region false [
  ⟨some 51, .load (some 10) (.t 1), none, []⟩,
  ⟨none, .store 10 (.t 2) (.t 51), none, []⟩] [51])
  .ret)))⟩

/-- clockwork/replicate.termOf -/
def a106 : AFunc := ⟨14, 2, [.tmp 4],
  (.seq (.region false [
  ⟨some 2, .box (.t 0), none, []⟩,
  ⟨some 4, .move (.c (.p (.int .i64 0))), none, []⟩] [0, 4])
  (.seq (.seq (.region false [
  ⟨some 5, .move (.t 1), none, []⟩,
  ⟨some 6, .bin .eql (.t 5) (.c (.p (.int .i64 0))), none, []⟩] [5])
  (.cond (.t 6)
  (.seq (.region false [
    ⟨some 4, .move (.c (.p (.int .i64 0))), none, []⟩] [1, 6])
    .ret)
  .skip))
  (.seq (.region false [
  ⟨some 7, .fieldAddr 4 (.t 2), none, []⟩,
  ⟨some 8, .load none (.t 7), none, []⟩,
  ⟨some 9, .move (.t 1), none, []⟩,
  ⟨some 10, .bin .sub (.t 9) (.c (.p (.int .i64 1))), none, []⟩,
  ⟨some 11, .indexAddr 2 (.t 8) (.t 10), none, []⟩,
  ⟨some 12, .fieldAddr 0 (.t 11), none, []⟩,
  ⟨some 13, .load none (.t 12), none, []⟩,
  ⟨some 4, .move (.t 13), none, []⟩] [1, 6, 7, 8, 9, 10, 11, 12, 13])
  .ret)))⟩

/-- clockwork/replicate.concerns -/
def a108 : AFunc := ⟨28, 3, [.tmp 6],
  (.seq (.region false [
  ⟨some 3, .box (.t 0), none, []⟩,
  ⟨some 4, .box (.t 1), none, []⟩,
  ⟨some 6, .move (.c (.p (.bool false))), none, []⟩] [0, 1, 6])
  (.seq (.region false [
  ⟨some 7, .load (some 10) (.t 3), none, []⟩,
  ⟨some 8, .call false 28 [.t 7], none, []⟩,
  ⟨some 9, .move (.t 8), none, []⟩,
  ⟨some 10, .load (some 9) (.t 4), some (9, true), []⟩,
  ⟨some 11, .fieldAddr 1 (.t 3), some (9, true), []⟩,
  ⟨some 12, .load none (.t 11), some (9, true), []⟩,
  ⟨some 13, .call false 131 [.t 10, .t 12], some (9, true), []⟩,
  ⟨some 14, .pick (.t 9) (.t 13) (.c (.p (.bool false))), none, []⟩,
  ⟨some 15, .move (.t 14), none, []⟩,
  ⟨some 16, .fieldAddr 2 (.t 4), some (15, true), []⟩,
  ⟨some 17, .load none (.t 16), some (15, true), []⟩,
  ⟨some 18, .fieldAddr 0 (.t 3), some (15, true), []⟩,
  ⟨some 19, .load none (.t 18), some (15, true), []⟩,
  ⟨some 20, .bin .eql (.t 17) (.t 19), some (15, true), []⟩,
  ⟨some 21, .pick (.t 15) (.t 20) (.c (.p (.bool false))), none, []⟩,
  ⟨some 22, .move (.t 21), none, []⟩,
  ⟨some 23, .fieldAddr 0 (.t 4), some (22, true), []⟩,
  ⟨some 24, .load none (.t 23), some (22, true), []⟩,
  ⟨some 25, .move (.t 2), some (22, true), []⟩,
  ⟨some 26, .bin .eql (.t 24) (.t 25), some (22, true), []⟩,
  ⟨some 27, .pick (.t 22) (.t 26) (.c (.p (.bool false))), none, []⟩,
  ⟨some 6, .move (.t 27), none, []⟩] [2, 7, 8, 9, 10, 11, 12, 13, 14, 15, 16, 17, 18, 19, 20, 21, 22, 23, 24, 25, 26, 27])
  .ret))⟩

/-- clockwork/replicate.reply -/
def a109 : AFunc := ⟨18, 4, [.tmp 8],
  (.seq (.region false [
  ⟨some 4, .box (.t 0), none, []⟩,
  ⟨some 8, .move (.c (.p (.slice true []))), none, []⟩] [0, 8])
  (.seq (.region false [
  ⟨some 9, .fieldAddr 0 (.t 4), none, []⟩,
  ⟨some 10, .load none (.t 9), none, []⟩,
  ⟨some 11, .move (.t 1), none, []⟩,
  ⟨some 12, .fieldAddr 2 (.t 4), none, []⟩,
  ⟨some 13, .load none (.t 12), none, []⟩,
  ⟨some 14, .move (.t 2), none, []⟩,
  ⟨some 15, .move (.t 3), none, []⟩,
  ⟨some 16, .build [.int .i64 0, .int .i64 0, .int .i64 0, .int .i64 0, .int .i64 0, .int .i64 0, .int .i64 0, .bool false, .slice true []] [(0, 1, .c (.p (.int .i64 4))), (1, 1, .t 10), (2, 1, .t 11), (3, 1, .t 13), (4, 1, .t 14), (7, 1, .t 15)], none, []⟩,
  ⟨some 17, .buildSlice [.int .i64 0, .int .i64 0, .int .i64 0, .int .i64 0, .int .i64 0, .int .i64 0, .int .i64 0, .bool false, .slice true []] 1 [(0, .t 16)], none, []⟩,
  ⟨some 8, .move (.t 17), none, []⟩] [1, 2, 3, 9, 10, 11, 12, 13, 14, 15, 16, 17])
  .ret))⟩

/-- clockwork/replicate.follow -/
def a110 : AFunc := ⟨15, 2, [.cell 4 10],
  (.seq (.region false [
  ⟨some 2, .box (.t 0), none, []⟩,
  ⟨some 4, .alloc [.int .i64 0, .int .i64 0, .int .i64 0, .int .i64 0, .slice true [], .int .i64 0, .int .i64 0, .slice true [], .slice true [], .slice true []], none, []⟩] [0])
  (.seq (.region false [
  ⟨some 5, .fieldAddr 0 (.t 2), none, []⟩,
  ⟨some 6, .load none (.t 5), none, []⟩,
  ⟨some 7, .fieldAddr 1 (.t 2), none, []⟩,
  ⟨some 8, .load none (.t 7), none, []⟩,
  ⟨some 9, .fieldAddr 4 (.t 2), none, []⟩,
  ⟨some 10, .load none (.t 9), none, []⟩,
  ⟨some 11, .fieldAddr 6 (.t 2), none, []⟩,
  ⟨some 12, .load none (.t 11), none, []⟩,
  ⟨some 13, .move (.t 1), none, []⟩,
  ⟨some 14, .build [.int .i64 0, .int .i64 0, .int .i64 0, .int .i64 0, .slice true [], .int .i64 0, .int .i64 0, .slice true [], .slice true [], .slice true []] [(0, 1, .t 6), (1, 1, .t 8), (4, 1, .t 10), (6, 1, .t 12), (2, 1, .t 13), (5, 1, .c (.p (.int .i64 1)))], none, []⟩,
  ⟨none, .store 10 (.t 4) (.t 14), none, []⟩] [1, 5, 6, 7, 8, 9, 10, 11, 12, 13, 14])
  .ret))⟩

/-- clockwork/replicate.same -/
@[irreducible] def a111_l0 : ACode :=
  (.seq (.region false [
  ⟨some 13, .bin .lss (.t 12) (.t 11), none, []⟩] [])
  (.seq (.cond (.t 13)
  .skip
  (.ghost (.forget [0, 1, 10, 11, 12, 13]) (.ghost .lower (.exit 0))))
  (.seq (.block 1
  (.seq (.region false [
    ⟨some 14, .move (.t 12), none, []⟩,
    ⟨some 15, .indexAddr 2 (.t 10) (.t 12), none, []⟩,
    ⟨some 16, .load (some 2) (.t 15), none, []⟩,
    ⟨some 9, .alloc [.int .i64 0, .str ⟨#[]⟩], none, []⟩,
    ⟨some 8, .move (.t 14), none, []⟩,
    ⟨none, .store 2 (.t 9) (.t 16), none, []⟩] [13, 14, 15, 16])
    (.seq (.block 2
    (.seq (.seq (.region false [
      ⟨some 18, .move (.t 1), none, []⟩,
      ⟨some 19, .move (.t 8), none, []⟩,
      ⟨some 20, .bin .add (.t 18) (.t 19), none, []⟩,
      ⟨some 21, .move (.t 0), none, []⟩,
      ⟨some 22, .len (.t 21), none, []⟩,
      ⟨some 23, .bin .geq (.t 20) (.t 22), none, []⟩,
      ⟨some 17, .move (.t 23), none, []⟩] [18, 19, 20, 21, 22, 23])
      (.cond (.t 17)
      .skip
      (.region true [
        ⟨some 24, .move (.t 0), none, []⟩,
        ⟨some 25, .move (.t 1), none, []⟩,
        ⟨some 26, .move (.t 8), none, []⟩,
        ⟨some 27, .bin .add (.t 25) (.t 26), none, [1, 2]⟩,
        ⟨some 28, .indexAddr 2 (.t 24) (.t 27), none, [0, 1, 2, 3]⟩,
        ⟨some 29, .load (some 2) (.t 28), none, [0, 1, 2, 3, 4]⟩,
        ⟨some 30, .load (some 2) (.t 9), none, []⟩,
        ⟨some 31, .eqagg true [(0, 0), (1, 2)] (.t 29) (.t 30), none, [0, 1, 2, 3, 4, 5, 6]⟩,
        ⟨some 17, .move (.t 31), none, [0, 1, 2, 3, 4, 5, 6, 7]⟩] [8, 24, 25, 26, 27, 28, 29, 30, 31])))
      (.cond (.t 17)
      (.ghost (.forget [0, 1, 8, 10, 11, 12, 17]) (.ghost (.free [9]) (.ghost .lower (.exit 0))))
      .skip)))
    (.region false [
    ⟨some 32, .move (.t 7), none, []⟩,
    ⟨some 33, .bin .add (.t 32) (.c (.p (.int .i64 1))), none, []⟩,
    ⟨some 7, .move (.t 33), none, []⟩] [8, 17, 32, 33]))))
  (.region false [
  ⟨some 34, .bin .add (.t 12) (.c (.p (.int .i64 1))), none, []⟩,
  ⟨some 12, .move (.t 34), none, []⟩] [34]))))

def a111 : AFunc := ⟨36, 3, [.tmp 6],
  (.seq (.region false [
  ⟨some 6, .move (.c (.p (.int .i64 0))), none, []⟩] [6])
  (.scope
  (.seq (.region false [
  ⟨some 7, .move (.c (.p (.int .i64 0))), none, []⟩] [])
  (.seq .skip
  (.seq (.seq (.region false [
  ⟨some 10, .move (.t 2), none, []⟩,
  ⟨some 11, .len (.t 10), none, []⟩,
  ⟨some 12, .move (.c (.p (.int .i64 0))), none, []⟩] [2])
  (.block 0
  (.loop
    (.ghost (.free [9]) (.ghost .lower a111_l0)))))
  (.seq (.region false [
  ⟨some 35, .move (.t 7), none, []⟩,
  ⟨some 6, .move (.t 35), none, []⟩] [7, 35])
  .ret))))))⟩

/-- clockwork/clockworkref42.forMember -/
def a112 : AFunc := ⟨28, 3, [.tmp 6],
  (.seq (.region false [
  ⟨some 3, .box (.t 0), none, []⟩,
  ⟨some 4, .box (.t 1), none, []⟩,
  ⟨some 6, .move (.c (.p (.bool false))), none, []⟩] [0, 1, 6])
  (.seq (.region false [
  ⟨some 7, .load (some 10) (.t 3), none, []⟩,
  ⟨some 8, .call false 29 [.t 7], none, []⟩,
  ⟨some 9, .move (.t 8), none, []⟩,
  ⟨some 10, .load (some 9) (.t 4), some (9, true), []⟩,
  ⟨some 11, .fieldAddr 1 (.t 3), some (9, true), []⟩,
  ⟨some 12, .load none (.t 11), some (9, true), []⟩,
  ⟨some 13, .call false 40 [.t 10, .t 12], some (9, true), []⟩,
  ⟨some 14, .pick (.t 9) (.t 13) (.c (.p (.bool false))), none, []⟩,
  ⟨some 15, .move (.t 14), none, []⟩,
  ⟨some 16, .fieldAddr 2 (.t 4), some (15, true), []⟩,
  ⟨some 17, .load none (.t 16), some (15, true), []⟩,
  ⟨some 18, .fieldAddr 0 (.t 3), some (15, true), []⟩,
  ⟨some 19, .load none (.t 18), some (15, true), []⟩,
  ⟨some 20, .bin .eql (.t 17) (.t 19), some (15, true), []⟩,
  ⟨some 21, .pick (.t 15) (.t 20) (.c (.p (.bool false))), none, []⟩,
  ⟨some 22, .move (.t 21), none, []⟩,
  ⟨some 23, .fieldAddr 0 (.t 4), some (22, true), []⟩,
  ⟨some 24, .load none (.t 23), some (22, true), []⟩,
  ⟨some 25, .move (.t 2), some (22, true), []⟩,
  ⟨some 26, .bin .eql (.t 24) (.t 25), some (22, true), []⟩,
  ⟨some 27, .pick (.t 22) (.t 26) (.c (.p (.bool false))), none, []⟩,
  ⟨some 6, .move (.t 27), none, []⟩] [2, 7, 8, 9, 10, 11, 12, 13, 14, 15, 16, 17, 18, 19, 20, 21, 22, 23, 24, 25, 26, 27])
  .ret))⟩

/-- clockwork/clockworkref42.answer -/
def a113 : AFunc := ⟨18, 4, [.tmp 8],
  (.seq (.region false [
  ⟨some 4, .box (.t 0), none, []⟩,
  ⟨some 8, .move (.c (.p (.slice true []))), none, []⟩] [0, 8])
  (.seq (.region false [
  ⟨some 9, .fieldAddr 0 (.t 4), none, []⟩,
  ⟨some 10, .load none (.t 9), none, []⟩,
  ⟨some 11, .move (.t 1), none, []⟩,
  ⟨some 12, .fieldAddr 2 (.t 4), none, []⟩,
  ⟨some 13, .load none (.t 12), none, []⟩,
  ⟨some 14, .move (.t 2), none, []⟩,
  ⟨some 15, .move (.t 3), none, []⟩,
  ⟨some 16, .build [.int .i64 0, .int .i64 0, .int .i64 0, .int .i64 0, .int .i64 0, .int .i64 0, .int .i64 0, .bool false, .slice true []] [(0, 1, .c (.p (.int .i64 4))), (1, 1, .t 10), (2, 1, .t 11), (3, 1, .t 13), (4, 1, .t 14), (7, 1, .t 15)], none, []⟩,
  ⟨some 17, .buildSlice [.int .i64 0, .int .i64 0, .int .i64 0, .int .i64 0, .int .i64 0, .int .i64 0, .int .i64 0, .bool false, .slice true []] 1 [(0, .t 16)], none, []⟩,
  ⟨some 8, .move (.t 17), none, []⟩] [1, 2, 3, 9, 10, 11, 12, 13, 14, 15, 16, 17])
  .ret))⟩

/-- clockwork/clockworkref42.follow -/
def a114 : AFunc := ⟨15, 2, [.cell 4 10],
  (.seq (.region false [
  ⟨some 2, .box (.t 0), none, []⟩,
  ⟨some 4, .alloc [.int .i64 0, .int .i64 0, .int .i64 0, .int .i64 0, .slice true [], .int .i64 0, .int .i64 0, .slice true [], .slice true [], .slice true []], none, []⟩] [0])
  (.seq (.region false [
  ⟨some 5, .fieldAddr 0 (.t 2), none, []⟩,
  ⟨some 6, .load none (.t 5), none, []⟩,
  ⟨some 7, .fieldAddr 1 (.t 2), none, []⟩,
  ⟨some 8, .load none (.t 7), none, []⟩,
  ⟨some 9, .move (.t 1), none, []⟩,
  ⟨some 10, .fieldAddr 4 (.t 2), none, []⟩,
  ⟨some 11, .load none (.t 10), none, []⟩,
  ⟨some 12, .fieldAddr 6 (.t 2), none, []⟩,
  ⟨some 13, .load none (.t 12), none, []⟩,
  ⟨some 14, .build [.int .i64 0, .int .i64 0, .int .i64 0, .int .i64 0, .slice true [], .int .i64 0, .int .i64 0, .slice true [], .slice true [], .slice true []] [(0, 1, .t 6), (1, 1, .t 8), (2, 1, .t 9), (4, 1, .t 11), (5, 1, .c (.p (.int .i64 1))), (6, 1, .t 13)], none, []⟩,
  ⟨none, .store 10 (.t 4) (.t 14), none, []⟩] [1, 5, 6, 7, 8, 9, 10, 11, 12, 13, 14])
  .ret))⟩

/-- clockwork/clockworkref42.Ack -/
def a115 : AFunc := ⟨93, 2, [.cell 4 10],
  (.seq (.region false [
  ⟨some 2, .box (.t 0), none, []⟩,
  ⟨some 3, .box (.t 1), none, []⟩,
  ⟨some 4, .alloc [.int .i64 0, .int .i64 0, .int .i64 0, .int .i64 0, .slice true [], .int .i64 0, .int .i64 0, .slice true [], .slice true [], .slice true []], none, []⟩] [0, 1])
  (.seq (.seq (.region false [
  ⟨some 6, .load (some 10) (.t 2), none, []⟩,
  ⟨some 7, .load (some 9) (.t 3), none, []⟩,
  ⟨some 8, .call false 112 [.t 6, .t 7, .c (.p (.int .i64 4))], none, []⟩,
  ⟨some 9, .un .not (.t 8), none, []⟩] [6, 7, 8])
  (.cond (.t 9)
  (.seq (.region false [
    ⟨some 10, .load (some 10) (.t 2), none, []⟩,
    ⟨none, .store 10 (.t 4) (.t 10), none, []⟩] [9, 10])
    .ret)
  .skip))
  (.seq (.seq (.region false [
  ⟨some 11, .fieldAddr 3 (.t 3), none, []⟩,
  ⟨some 12, .load none (.t 11), none, []⟩,
  ⟨some 13, .fieldAddr 2 (.t 2), none, []⟩,
  ⟨some 14, .load none (.t 13), none, []⟩,
  ⟨some 15, .bin .gtr (.t 12) (.t 14), none, []⟩] [9, 11, 12, 13, 14])
  (.cond (.t 15)
  (.seq (.region false [
    ⟨some 16, .load (some 10) (.t 2), none, []⟩,
    ⟨some 17, .fieldAddr 3 (.t 3), none, []⟩,
    ⟨some 18, .load none (.t 17), none, []⟩,
    ⟨some 19, .call false 114 [.t 16, .t 18], none, []⟩,
    ⟨none, .store 10 (.t 4) (.t 19), none, []⟩] [15, 16, 17, 18, 19])
    .ret)
  .skip))
  (.seq (.seq (.region false [
  ⟨some 20, .fieldAddr 3 (.t 3), none, []⟩,
  ⟨some 21, .load none (.t 20), none, []⟩,
  ⟨some 22, .fieldAddr 2 (.t 2), none, []⟩,
  ⟨some 23, .load none (.t 22), none, []⟩,
  ⟨some 24, .bin .lss (.t 21) (.t 23), none, []⟩,
  ⟨some 25, .move (.t 24), none, []⟩,
  ⟨some 26, .fieldAddr 5 (.t 2), some (25, false), []⟩,
  ⟨some 27, .load none (.t 26), some (25, false), []⟩,
  ⟨some 28, .bin .neq (.t 27) (.c (.p (.int .i64 3))), some (25, false), []⟩,
  ⟨some 29, .pick (.t 25) (.c (.p (.bool true))) (.t 28), none, []⟩,
  ⟨some 30, .move (.t 29), none, []⟩,
  ⟨some 31, .fieldAddr 7 (.t 3), some (30, false), []⟩,
  ⟨some 32, .load none (.t 31), some (30, false), []⟩,
  ⟨some 33, .move (.t 32), some (30, false), []⟩,
  ⟨some 34, .fieldAddr 4 (.t 3), some (33, true), []⟩,
  ⟨some 35, .load none (.t 34), some (33, true), []⟩,
  ⟨some 36, .fieldAddr 4 (.t 2), some (33, true), []⟩,
  ⟨some 37, .load none (.t 36), some (33, true), []⟩,
  ⟨some 38, .len (.t 37), some (33, true), []⟩,
  ⟨some 39, .bin .gtr (.t 35) (.t 38), some (33, true), []⟩,
  ⟨some 40, .pick (.t 33) (.t 39) (.c (.p (.bool false))), some (30, false), []⟩,
  ⟨some 41, .pick (.t 30) (.c (.p (.bool true))) (.t 40), none, []⟩] [15, 20, 21, 22, 23, 24, 25, 26, 27, 28, 29, 30, 31, 32, 33, 34, 35, 36, 37, 38, 39, 40])
  (.cond (.t 41)
  (.seq (.region false [
    ⟨some 42, .load (some 10) (.t 2), none, []⟩,
    ⟨none, .store 10 (.t 4) (.t 42), none, []⟩] [41, 42])
    .ret)
  .skip))
  (.seq (.region false [
  ⟨some 43, .fieldAddr 1 (.t 3), none, []⟩,
  ⟨some 44, .load none (.t 43), none, []⟩,
  ⟨some 45, .bin .sub (.t 44) (.c (.p (.int .i64 1))), none, []⟩,
  ⟨some 5, .move (.t 45), none, []⟩] [41, 43, 44, 45])
  (.seq (.seq (.region false [
  ⟨some 46, .fieldAddr 7 (.t 3), none, []⟩,
  ⟨some 47, .load none (.t 46), none, []⟩] [46])
  (.cond (.t 47)
  (.seq (.region true [
    ⟨some 48, .fieldAddr 9 (.t 2), none, []⟩,
    ⟨some 49, .load none (.t 48), none, [0]⟩,
    ⟨some 50, .move (.t 5), none, []⟩,
    ⟨some 51, .fieldAddr 9 (.t 2), none, []⟩,
    ⟨some 52, .load none (.t 51), none, [3]⟩,
    ⟨some 53, .move (.t 5), none, []⟩,
    ⟨some 54, .indexAddr 1 (.t 52) (.t 53), none, [3, 4, 5]⟩,
    ⟨some 55, .load none (.t 54), none, [3, 4, 5, 6]⟩,
    ⟨some 56, .fieldAddr 4 (.t 3), none, []⟩,
    ⟨some 57, .load none (.t 56), none, [8]⟩,
    ⟨some 58, .minmax true (.t 55) [.t 57], none, [3, 4, 5, 6, 7, 8, 9]⟩,
    ⟨some 59, .call false 104 [.t 49, .t 50, .t 58], none, [0, 1, 2, 3, 4, 5, 6, 7, 8, 9, 10]⟩,
    ⟨some 60, .fieldAddr 9 (.t 2), none, [0, 1, 2, 3, 4, 5, 6, 7, 8, 9, 10, 11]⟩,
    ⟨none, .store 1 (.t 60) (.t 59), none, [0, 1, 2, 3, 4, 5, 6, 7, 8, 9, 10, 11, 12]⟩] [47, 48, 49, 50, 51, 52, 53, 54, 55, 56, 57, 58, 59, 60])
    (.region true [
    ⟨some 61, .fieldAddr 8 (.t 2), none, []⟩,
    ⟨some 62, .load none (.t 61), none, [0]⟩,
    ⟨some 63, .move (.t 5), none, []⟩,
    ⟨some 64, .fieldAddr 9 (.t 2), none, []⟩,
    ⟨some 65, .load none (.t 64), none, [3]⟩,
    ⟨some 66, .move (.t 5), none, []⟩,
    ⟨some 67, .indexAddr 1 (.t 65) (.t 66), none, [3, 4, 5]⟩,
    ⟨some 68, .load none (.t 67), none, [3, 4, 5, 6]⟩,
    ⟨some 69, .call false 104 [.t 62, .t 63, .t 68], none, [0, 1, 2, 3, 4, 5, 6, 7]⟩,
    ⟨some 70, .fieldAddr 8 (.t 2), none, [0, 1, 2, 3, 4, 5, 6, 7, 8]⟩,
    ⟨none, .store 1 (.t 70) (.t 69), none, [0, 1, 2, 3, 4, 5, 6, 7, 8, 9]⟩] [5, 61, 62, 63, 64, 65, 66, 67, 68, 69, 70]))
  (.region true [
    ⟨some 71, .fieldAddr 8 (.t 2), none, []⟩,
    ⟨some 72, .load none (.t 71), none, [0]⟩,
    ⟨some 73, .move (.t 5), none, []⟩,
    ⟨some 74, .fieldAddr 9 (.t 2), none, []⟩,
    ⟨some 75, .load none (.t 74), none, [3]⟩,
    ⟨some 76, .move (.t 5), none, []⟩,
    ⟨some 77, .indexAddr 1 (.t 75) (.t 76), none, [3, 4, 5]⟩,
    ⟨some 78, .load none (.t 77), none, [3, 4, 5, 6]⟩,
    ⟨some 79, .fieldAddr 8 (.t 2), none, []⟩,
    ⟨some 80, .load none (.t 79), none, [8]⟩,
    ⟨some 81, .move (.t 5), none, []⟩,
    ⟨some 82, .indexAddr 1 (.t 80) (.t 81), none, [8, 9, 10]⟩,
    ⟨some 83, .load none (.t 82), none, [8, 9, 10, 11]⟩,
    ⟨some 84, .bin .sub (.t 83) (.c (.p (.int .i64 1))), none, [8, 9, 10, 11, 12]⟩,
    ⟨some 85, .fieldAddr 4 (.t 3), none, []⟩,
    ⟨some 86, .load none (.t 85), none, [14]⟩,
    ⟨some 87, .minmax false (.t 84) [.t 86], none, [8, 9, 10, 11, 12, 13, 14, 15]⟩,
    ⟨some 88, .minmax true (.t 78) [.t 87], none, [3, 4, 5, 6, 7, 8, 9, 10, 11, 12, 13, 14, 15, 16]⟩,
    ⟨some 89, .call false 104 [.t 72, .t 73, .t 88], none, [0, 1, 2, 3, 4, 5, 6, 7, 8, 9, 10, 11, 12, 13, 14, 15, 16, 17]⟩,
    ⟨some 90, .fieldAddr 8 (.t 2), none, [0, 1, 2, 3, 4, 5, 6, 7, 8, 9, 10, 11, 12, 13, 14, 15, 16, 17, 18]⟩,
    ⟨none, .store 1 (.t 90) (.t 89), none, [0, 1, 2, 3, 4, 5, 6, 7, 8, 9, 10, 11, 12, 13, 14, 15, 16, 17, 18, 19]⟩] [5, 47, 71, 72, 73, 74, 75, 76, 77, 78, 79, 80, 81, 82, 83, 84, 85, 86, 87, 88, 89, 90])))
  (.seq (.region false [
  ⟨some 91, .load (some 10) (.t 2), none, []⟩,
  ⟨some 92, .call false 105 [.t 91], none, []⟩,
  ⟨none, .store 10 (.t 4) (.t 92), none, []⟩] [91, 92])
  .ret)))))))⟩

/-- clockwork/clockworkref41.Lead -/
@[irreducible] def a130_l0 : ACode :=
  (.seq (.seq (.region false [
  ⟨some 18, .move (.t 4), none, []⟩,
  ⟨some 19, .fieldAddr 1 (.t 1), none, []⟩,
  ⟨some 20, .load none (.t 19), none, []⟩,
  ⟨some 21, .bin .leq (.t 18) (.t 20), none, []⟩] [18, 19, 20])
  (.cond (.t 21)
  .skip
  (.ghost (.forget [4, 21]) (.ghost (.free [1]) (.ghost .lower (.exit 0))))))
  (.seq (.block 1
  (.seq (.region false [
    ⟨some 24, .fieldAddr 8 (.t 3), none, []⟩,
    ⟨some 25, .load none (.t 24), none, []⟩,
    ⟨some 26, .fieldAddr 4 (.t 1), none, []⟩,
    ⟨some 27, .load none (.t 26), none, []⟩,
    ⟨some 28, .len (.t 27), none, []⟩,
    ⟨some 29, .buildSlice [.int .i64 0] 1 [(0, .t 28)], none, []⟩,
    ⟨some 30, .append 8 1 (.t 25) (.t 29), none, []⟩,
    ⟨some 31, .fieldAddr 8 (.t 3), none, []⟩,
    ⟨none, .store 1 (.t 31) (.t 30), none, []⟩] [21, 24, 25, 26, 27, 28, 29, 30, 31])
    (.seq (.region false [
    ⟨some 32, .move (.t 4), none, []⟩,
    ⟨some 33, .fieldAddr 0 (.t 1), none, []⟩,
    ⟨some 34, .load none (.t 33), none, []⟩,
    ⟨some 35, .bin .eql (.t 32) (.t 34), none, []⟩] [32, 33, 34])
    (.cond (.t 35)
    (.region false [
      ⟨some 36, .fieldAddr 9 (.t 3), none, []⟩,
      ⟨some 37, .load none (.t 36), none, []⟩,
      ⟨some 38, .fieldAddr 4 (.t 1), none, []⟩,
      ⟨some 39, .load none (.t 38), none, []⟩,
      ⟨some 40, .len (.t 39), none, []⟩,
      ⟨some 41, .buildSlice [.int .i64 0] 1 [(0, .t 40)], none, []⟩,
      ⟨some 42, .append 8 1 (.t 37) (.t 41), none, []⟩,
      ⟨some 43, .fieldAddr 9 (.t 3), none, []⟩,
      ⟨none, .store 1 (.t 43) (.t 42), none, []⟩] [35, 36, 37, 38, 39, 40, 41, 42, 43])
    (.region false [
      ⟨some 44, .fieldAddr 9 (.t 3), none, []⟩,
      ⟨some 45, .load none (.t 44), none, []⟩,
      ⟨some 46, .buildSlice [.int .i64 0] 1 [(0, .c (.p (.int .i64 0)))], none, []⟩,
      ⟨some 47, .append 8 1 (.t 45) (.t 46), none, []⟩,
      ⟨some 48, .fieldAddr 9 (.t 3), none, []⟩,
      ⟨none, .store 1 (.t 48) (.t 47), none, []⟩] [35, 44, 45, 46, 47, 48])))))
  (.region false [
  ⟨some 22, .move (.t 4), none, []⟩,
  ⟨some 23, .bin .add (.t 22) (.c (.p (.int .i64 1))), none, []⟩,
  ⟨some 4, .move (.t 23), none, []⟩] [22, 23])))

def a130 : AFunc := ⟨50, 1, [.cell 2 10],
  (.seq (.region false [
  ⟨some 1, .box (.t 0), none, []⟩,
  ⟨some 2, .alloc [.int .i64 0, .int .i64 0, .int .i64 0, .int .i64 0, .slice true [], .int .i64 0, .int .i64 0, .slice true [], .slice true [], .slice true []], none, []⟩] [0])
  (.seq (.region false [
  ⟨some 5, .fieldAddr 0 (.t 1), none, []⟩,
  ⟨some 6, .load none (.t 5), none, []⟩,
  ⟨some 7, .fieldAddr 1 (.t 1), none, []⟩,
  ⟨some 8, .load none (.t 7), none, []⟩,
  ⟨some 9, .fieldAddr 2 (.t 1), none, []⟩,
  ⟨some 10, .load none (.t 9), none, []⟩,
  ⟨some 11, .fieldAddr 3 (.t 1), none, []⟩,
  ⟨some 12, .load none (.t 11), none, []⟩,
  ⟨some 13, .fieldAddr 4 (.t 1), none, []⟩,
  ⟨some 14, .load none (.t 13), none, []⟩,
  ⟨some 15, .fieldAddr 6 (.t 1), none, []⟩,
  ⟨some 16, .load none (.t 15), none, []⟩,
  ⟨some 17, .build [.int .i64 0, .int .i64 0, .int .i64 0, .int .i64 0, .slice true [], .int .i64 0, .int .i64 0, .slice true [], .slice true [], .slice true []] [(0, 1, .t 6), (1, 1, .t 8), (2, 1, .t 10), (3, 1, .t 12), (4, 1, .t 14), (5, 1, .c (.p (.int .i64 3))), (6, 1, .t 16)], none, []⟩,
  ⟨some 3, .alloc [.int .i64 0, .int .i64 0, .int .i64 0, .int .i64 0, .slice true [], .int .i64 0, .int .i64 0, .slice true [], .slice true [], .slice true []], none, []⟩,
  ⟨none, .store 10 (.t 3) (.t 17), none, []⟩] [5, 6, 7, 8, 9, 10, 11, 12, 13, 14, 15, 16, 17])
  (.seq (.seq (.region false [
  ⟨some 4, .move (.c (.p (.int .i64 1))), none, []⟩] [])
  (.block 0
  (.loop
    (.ghost .lower a130_l0))))
  (.seq (.region false [
  ⟨some 49, .load (some 10) (.t 3), none, []⟩,
  ⟨none, .store 10 (.t 2) (.t 49), none, []⟩] [49])
  .ret))))⟩

/-- clockwork/network.Valid -/
def a131 : AFunc := ⟨58, 2, [.tmp 4],
  (.seq (.region false [
  ⟨some 2, .box (.t 0), none, []⟩,
  ⟨some 4, .move (.c (.p (.bool false))), none, []⟩] [0, 4])
  (.seq (.seq (.region false [
  ⟨some 5, .move (.t 1), none, []⟩,
  ⟨some 6, .call false 145 [.t 5, .c (.p (.int .i64 1)), .c (.p (.int .i64 7))], none, []⟩,
  ⟨some 7, .un .not (.t 6), none, []⟩,
  ⟨some 8, .move (.t 7), none, []⟩,
  ⟨some 9, .fieldAddr 1 (.t 2), some (8, false), []⟩,
  ⟨some 10, .load none (.t 9), some (8, false), []⟩,
  ⟨some 11, .move (.t 1), some (8, false), []⟩,
  ⟨some 12, .call false 145 [.t 10, .c (.p (.int .i64 1)), .t 11], some (8, false), []⟩,
  ⟨some 13, .un .not (.t 12), some (8, false), []⟩,
  ⟨some 14, .pick (.t 8) (.c (.p (.bool true))) (.t 13), none, []⟩,
  ⟨some 15, .move (.t 14), none, []⟩,
  ⟨some 16, .fieldAddr 2 (.t 2), some (15, false), []⟩,
  ⟨some 17, .load none (.t 16), some (15, false), []⟩,
  ⟨some 18, .move (.t 1), some (15, false), []⟩,
  ⟨some 19, .call false 145 [.t 17, .c (.p (.int .i64 1)), .t 18], some (15, false), []⟩,
  ⟨some 20, .un .not (.t 19), some (15, false), []⟩,
  ⟨some 21, .pick (.t 15) (.c (.p (.bool true))) (.t 20), none, []⟩,
  ⟨some 22, .move (.t 21), none, []⟩,
  ⟨some 23, .fieldAddr 1 (.t 2), some (22, false), []⟩,
  ⟨some 24, .load none (.t 23), some (22, false), []⟩,
  ⟨some 25, .fieldAddr 2 (.t 2), some (22, false), []⟩,
  ⟨some 26, .load none (.t 25), some (22, false), []⟩,
  ⟨some 27, .bin .eql (.t 24) (.t 26), some (22, false), []⟩,
  ⟨some 28, .pick (.t 22) (.c (.p (.bool true))) (.t 27), none, []⟩] [1, 5, 6, 7, 8, 9, 10, 11, 12, 13, 14, 15, 16, 17, 18, 19, 20, 21, 22, 23, 24, 25, 26, 27])
  (.cond (.t 28)
  (.seq (.region false [
    ⟨some 4, .move (.c (.p (.bool false))), none, []⟩] [28])
    .ret)
  .skip))
  (.seq (.seq (.region false [
  ⟨some 29, .fieldAddr 3 (.t 2), none, []⟩,
  ⟨some 30, .load none (.t 29), none, []⟩,
  ⟨some 31, .call false 145 [.t 30, .c (.p (.int .i64 1)), .c (.p (.int .i64 1099511627776))], none, []⟩,
  ⟨some 32, .un .not (.t 31), none, []⟩,
  ⟨some 33, .move (.t 32), none, []⟩,
  ⟨some 34, .fieldAddr 4 (.t 2), some (33, false), []⟩,
  ⟨some 35, .load none (.t 34), some (33, false), []⟩,
  ⟨some 36, .call false 145 [.t 35, .c (.p (.int .i64 0)), .c (.p (.int .i64 1099511627776))], some (33, false), []⟩,
  ⟨some 37, .un .not (.t 36), some (33, false), []⟩,
  ⟨some 38, .pick (.t 33) (.c (.p (.bool true))) (.t 37), none, []⟩,
  ⟨some 39, .move (.t 38), none, []⟩,
  ⟨some 40, .fieldAddr 5 (.t 2), some (39, false), []⟩,
  ⟨some 41, .load none (.t 40), some (39, false), []⟩,
  ⟨some 42, .call false 145 [.t 41, .c (.p (.int .i64 0)), .c (.p (.int .i64 1099511627776))], some (39, false), []⟩,
  ⟨some 43, .un .not (.t 42), some (39, false), []⟩,
  ⟨some 44, .pick (.t 39) (.c (.p (.bool true))) (.t 43), none, []⟩,
  ⟨some 45, .move (.t 44), none, []⟩,
  ⟨some 46, .fieldAddr 6 (.t 2), some (45, false), []⟩,
  ⟨some 47, .load none (.t 46), some (45, false), []⟩,
  ⟨some 48, .call false 145 [.t 47, .c (.p (.int .i64 0)), .c (.p (.int .i64 1099511627776))], some (45, false), []⟩,
  ⟨some 49, .un .not (.t 48), some (45, false), []⟩,
  ⟨some 50, .pick (.t 45) (.c (.p (.bool true))) (.t 49), none, []⟩] [28, 29, 30, 31, 32, 33, 34, 35, 36, 37, 38, 39, 40, 41, 42, 43, 44, 45, 46, 47, 48, 49])
  (.cond (.t 50)
  (.seq (.region false [
    ⟨some 4, .move (.c (.p (.bool false))), none, []⟩] [50])
    .ret)
  .skip))
  (.seq (.region false [
  ⟨some 51, .fieldAddr 8 (.t 2), none, []⟩,
  ⟨some 52, .load none (.t 51), none, []⟩,
  ⟨some 53, .call false 146 [.t 52], none, []⟩,
  ⟨some 54, .move (.t 53), none, []⟩,
  ⟨some 55, .load (some 9) (.t 2), some (54, true), []⟩,
  ⟨some 56, .call false 147 [.t 55], some (54, true), []⟩,
  ⟨some 57, .pick (.t 54) (.t 56) (.c (.p (.bool false))), none, []⟩,
  ⟨some 4, .move (.t 57), none, []⟩] [50, 51, 52, 53, 54, 55, 56, 57])
  .ret))))⟩

/-- slices.Index[[]int,int] -/
@[irreducible] def a132_l0 : ACode :=
  (.seq (.region false [
  ⟨some 9, .bin .lss (.t 8) (.t 7), none, []⟩] [])
  (.seq (.cond (.t 9)
  .skip
  (.ghost (.forget [0, 1, 7, 8, 9]) (.ghost .lower (.exit 0))))
  (.seq (.block 1
  (.seq (.region false [
    ⟨some 10, .move (.t 8), none, []⟩,
    ⟨some 5, .move (.t 10), none, []⟩] [9, 10])
    (.seq (.region false [
    ⟨some 11, .move (.t 1), none, []⟩,
    ⟨some 12, .move (.t 0), none, []⟩,
    ⟨some 13, .move (.t 5), none, []⟩,
    ⟨some 14, .indexAddr 1 (.t 12) (.t 13), none, []⟩,
    ⟨some 15, .load none (.t 14), none, []⟩,
    ⟨some 16, .bin .eql (.t 11) (.t 15), none, []⟩] [11, 12, 13, 14, 15])
    (.cond (.t 16)
    (.seq (.region false [
      ⟨some 17, .move (.t 5), none, []⟩,
      ⟨some 4, .move (.t 17), none, []⟩] [0, 1, 5, 7, 8, 16, 17])
      .ret)
    .skip))))
  (.region false [
  ⟨some 18, .bin .add (.t 8) (.c (.p (.int .i64 1))), none, []⟩,
  ⟨some 8, .move (.t 18), none, []⟩] [5, 16, 18]))))

def a132 : AFunc := ⟨19, 2, [.tmp 4],
  (.seq (.region false [
  ⟨some 4, .move (.c (.p (.int .i64 0))), none, []⟩] [4])
  (.seq (.seq (.region false [
  ⟨some 6, .move (.t 0), none, []⟩,
  ⟨some 7, .len (.t 6), none, []⟩,
  ⟨some 8, .move (.c (.p (.int .i64 0))), none, []⟩] [6])
  (.block 0
  (.loop
    (.ghost .lower a132_l0))))
  (.seq (.region false [
  ⟨some 4, .move (.c (.p (.int .i64 (-1)))), none, []⟩] [])
  .ret)))⟩

/-- slices.pdqsortOrdered[int] -/
@[irreducible] def a133_l0 : ACode :=
  (.block 1
  (.seq (.region false [
    ⟨some 19, .move (.t 2), none, []⟩,
    ⟨some 20, .move (.t 1), none, []⟩,
    ⟨some 21, .bin .sub (.t 19) (.t 20), none, []⟩,
    ⟨some 10, .move (.t 21), none, []⟩] [19, 20, 21])
    (.seq (.seq (.region false [
    ⟨some 22, .move (.t 10), none, []⟩,
    ⟨some 23, .bin .leq (.t 22) (.c (.p (.int .i64 12))), none, []⟩] [22])
    (.cond (.t 23)
    (.seq (.region false [
      ⟨some 24, .move (.t 0), none, []⟩,
      ⟨some 25, .move (.t 1), none, []⟩,
      ⟨some 26, .move (.t 2), none, []⟩,
      ⟨some 27, .call true 148 [.t 24, .t 25, .t 26], none, []⟩] [0, 1, 2, 3, 8, 9, 10, 23, 24, 25, 26, 27])
      .ret)
    .skip))
    (.seq (.seq (.region false [
    ⟨some 28, .move (.t 3), none, []⟩,
    ⟨some 29, .bin .eql (.t 28) (.c (.p (.int .i64 0))), none, []⟩] [23, 28])
    (.cond (.t 29)
    (.seq (.region false [
      ⟨some 30, .move (.t 0), none, []⟩,
      ⟨some 31, .move (.t 1), none, []⟩,
      ⟨some 32, .move (.t 2), none, []⟩,
      ⟨some 33, .call true 149 [.t 30, .t 31, .t 32], none, []⟩] [0, 1, 2, 3, 8, 9, 10, 29, 30, 31, 32, 33])
      .ret)
    .skip))
    (.seq (.seq (.region false [
    ⟨some 34, .move (.t 8), none, []⟩,
    ⟨some 35, .un .not (.t 34), none, []⟩] [29, 34])
    (.cond (.t 35)
    (.seq (.region false [
      ⟨some 36, .move (.t 0), none, []⟩,
      ⟨some 37, .move (.t 1), none, []⟩,
      ⟨some 38, .move (.t 2), none, []⟩,
      ⟨some 39, .call false 150 [.t 36, .t 37, .t 38], none, []⟩] [35, 36, 37, 38, 39])
      (.region false [
      ⟨some 40, .move (.t 3), none, []⟩,
      ⟨some 41, .bin .sub (.t 40) (.c (.p (.int .i64 1))), none, []⟩,
      ⟨some 3, .move (.t 41), none, []⟩] [40, 41]))
    .skip))
    (.seq (.region false [
    ⟨some 43, .move (.t 0), none, []⟩,
    ⟨some 44, .move (.t 1), none, []⟩,
    ⟨some 45, .move (.t 2), none, []⟩,
    ⟨some 46, .call false 151 [.t 43, .t 44, .t 45], none, []⟩,
    ⟨some 42, .move (.t 46), none, []⟩,
    ⟨some 47, .extract (.t 42) 0, none, []⟩,
    ⟨some 48, .extract (.t 42) 1, none, []⟩,
    ⟨some 11, .move (.t 47), none, []⟩,
    ⟨some 12, .move (.t 48), none, []⟩] [35, 42, 43, 44, 45, 46, 47, 48])
    (.seq (.seq (.region false [
    ⟨some 49, .move (.t 12), none, []⟩,
    ⟨some 50, .bin .eql (.t 49) (.c (.p (.int .i64 2))), none, []⟩] [49])
    (.cond (.t 50)
    (.seq (.region false [
      ⟨some 51, .move (.t 0), none, []⟩,
      ⟨some 52, .move (.t 1), none, []⟩,
      ⟨some 53, .move (.t 2), none, []⟩,
      ⟨some 54, .call false 152 [.t 51, .t 52, .t 53], none, []⟩] [12, 50, 51, 52, 53, 54])
      (.seq (.region false [
      ⟨some 55, .move (.t 2), none, []⟩,
      ⟨some 56, .bin .sub (.t 55) (.c (.p (.int .i64 1))), none, []⟩,
      ⟨some 57, .move (.t 11), none, []⟩,
      ⟨some 58, .move (.t 1), none, []⟩,
      ⟨some 59, .bin .sub (.t 57) (.t 58), none, []⟩,
      ⟨some 60, .bin .sub (.t 56) (.t 59), none, []⟩,
      ⟨some 11, .move (.t 60), none, []⟩] [55, 56, 57, 58, 59, 60])
      (.region false [
      ⟨some 12, .move (.c (.p (.int .i64 1))), none, []⟩] [])))
    .skip))
    (.seq (.seq (.region false [
    ⟨some 61, .move (.t 8), none, []⟩,
    ⟨some 62, .move (.t 61), none, []⟩,
    ⟨some 63, .move (.t 9), some (62, true), []⟩,
    ⟨some 64, .pick (.t 62) (.t 63) (.c (.p (.bool false))), none, []⟩,
    ⟨some 65, .move (.t 64), none, []⟩,
    ⟨some 66, .move (.t 12), some (65, true), []⟩,
    ⟨some 67, .bin .eql (.t 66) (.c (.p (.int .i64 1))), some (65, true), []⟩,
    ⟨some 68, .pick (.t 65) (.t 67) (.c (.p (.bool false))), none, []⟩] [12, 50, 61, 62, 63, 64, 65, 66, 67])
    (.cond (.t 68)
    (.seq (.region false [
      ⟨some 69, .move (.t 0), none, []⟩,
      ⟨some 70, .move (.t 1), none, []⟩,
      ⟨some 71, .move (.t 2), none, []⟩,
      ⟨some 72, .call false 153 [.t 69, .t 70, .t 71], none, []⟩] [68, 69, 70, 71])
      (.cond (.t 72)
      .ret
      .skip))
    .skip))
    (.seq (.seq (.region true [
    ⟨some 73, .move (.t 1), none, []⟩,
    ⟨some 74, .bin .gtr (.t 73) (.c (.p (.int .i64 0))), none, [0]⟩,
    ⟨some 75, .move (.t 74), none, [0, 1]⟩,
    ⟨some 76, .move (.t 0), some (75, true), [0, 1, 2]⟩,
    ⟨some 77, .move (.t 1), some (75, true), [0, 1, 2]⟩,
    ⟨some 78, .bin .sub (.t 77) (.c (.p (.int .i64 1))), some (75, true), [0, 1, 2, 4]⟩,
    ⟨some 79, .indexAddr 1 (.t 76) (.t 78), some (75, true), [0, 1, 2, 3, 4, 5]⟩,
    ⟨some 80, .load none (.t 79), some (75, true), [0, 1, 2, 3, 4, 5, 6]⟩,
    ⟨some 81, .move (.t 0), some (75, true), [0, 1, 2]⟩,
    ⟨some 82, .move (.t 11), some (75, true), [0, 1, 2]⟩,
    ⟨some 83, .indexAddr 1 (.t 81) (.t 82), some (75, true), [0, 1, 2, 8, 9]⟩,
    ⟨some 84, .load none (.t 83), some (75, true), [0, 1, 2, 8, 9, 10]⟩,
    ⟨some 85, .call false 154 [.t 80, .t 84], some (75, true), [0, 1, 2, 3, 4, 5, 6, 7, 8, 9, 10, 11]⟩,
    ⟨some 86, .un .not (.t 85), some (75, true), [0, 1, 2, 3, 4, 5, 6, 7, 8, 9, 10, 11, 12]⟩,
    ⟨some 87, .pick (.t 75) (.t 86) (.c (.p (.bool false))), none, [0, 1, 2, 3, 4, 5, 6, 7, 8, 9, 10, 11, 12, 13]⟩] [68, 72, 73, 74, 75, 76, 77, 78, 79, 80, 81, 82, 83, 84, 85, 86])
    (.cond (.t 87)
    (.seq (.region false [
      ⟨some 88, .move (.t 0), none, []⟩,
      ⟨some 89, .move (.t 1), none, []⟩,
      ⟨some 90, .move (.t 2), none, []⟩,
      ⟨some 91, .move (.t 11), none, []⟩,
      ⟨some 92, .call false 155 [.t 88, .t 89, .t 90, .t 91], none, []⟩,
      ⟨some 13, .move (.t 92), none, []⟩] [1, 10, 11, 87, 88, 89, 90, 91, 92])
      (.seq (.region false [
      ⟨some 93, .move (.t 13), none, []⟩,
      ⟨some 1, .move (.t 93), none, []⟩] [13, 93])
      (.exit 1)))
    .skip))
    (.seq (.region false [
    ⟨some 95, .move (.t 0), none, []⟩,
    ⟨some 96, .move (.t 1), none, []⟩,
    ⟨some 97, .move (.t 2), none, []⟩,
    ⟨some 98, .move (.t 11), none, []⟩,
    ⟨some 99, .call false 156 [.t 95, .t 96, .t 97, .t 98], none, []⟩,
    ⟨some 94, .move (.t 99), none, []⟩,
    ⟨some 100, .extract (.t 94) 0, none, []⟩,
    ⟨some 101, .extract (.t 94) 1, none, []⟩,
    ⟨some 14, .move (.t 100), none, []⟩,
    ⟨some 15, .move (.t 101), none, []⟩] [8, 9, 11, 87, 94, 95, 96, 97, 98, 99, 100, 101])
    (.seq (.region false [
    ⟨some 102, .move (.t 15), none, []⟩,
    ⟨some 9, .move (.t 102), none, []⟩] [15, 102])
    (.seq (.region false [
    ⟨some 103, .move (.t 14), none, []⟩,
    ⟨some 104, .move (.t 1), none, []⟩,
    ⟨some 105, .bin .sub (.t 103) (.t 104), none, []⟩,
    ⟨some 106, .move (.t 2), none, []⟩,
    ⟨some 107, .move (.t 14), none, []⟩,
    ⟨some 108, .bin .sub (.t 106) (.t 107), none, []⟩,
    ⟨some 16, .move (.t 105), none, []⟩,
    ⟨some 17, .move (.t 108), none, []⟩] [103, 104, 105, 106, 107, 108])
    (.seq (.region false [
    ⟨some 109, .move (.t 10), none, []⟩,
    ⟨some 110, .bin .quo (.t 109) (.c (.p (.int .i64 8))), none, []⟩,
    ⟨some 18, .move (.t 110), none, []⟩] [10, 109, 110])
    (.seq (.region false [
    ⟨some 111, .move (.t 16), none, []⟩,
    ⟨some 112, .move (.t 17), none, []⟩,
    ⟨some 113, .bin .lss (.t 111) (.t 112), none, []⟩] [111, 112])
    (.cond (.t 113)
    (.seq (.region false [
      ⟨some 114, .move (.t 16), none, []⟩,
      ⟨some 115, .move (.t 18), none, []⟩,
      ⟨some 116, .bin .geq (.t 114) (.t 115), none, []⟩,
      ⟨some 8, .move (.t 116), none, []⟩] [16, 17, 18, 113, 114, 115, 116])
      (.seq (.region false [
      ⟨some 117, .move (.t 0), none, []⟩,
      ⟨some 118, .move (.t 1), none, []⟩,
      ⟨some 119, .move (.t 14), none, []⟩,
      ⟨some 120, .move (.t 3), none, []⟩,
      ⟨some 121, .call true 133 [.t 117, .t 118, .t 119, .t 120], none, []⟩] [1, 117, 118, 119, 120, 121])
      (.region false [
      ⟨some 122, .move (.t 14), none, []⟩,
      ⟨some 123, .bin .add (.t 122) (.c (.p (.int .i64 1))), none, []⟩,
      ⟨some 1, .move (.t 123), none, []⟩] [14, 122, 123])))
    (.seq (.region false [
      ⟨some 124, .move (.t 17), none, []⟩,
      ⟨some 125, .move (.t 18), none, []⟩,
      ⟨some 126, .bin .geq (.t 124) (.t 125), none, []⟩,
      ⟨some 8, .move (.t 126), none, []⟩] [16, 17, 18, 113, 124, 125, 126])
      (.seq (.region false [
      ⟨some 127, .move (.t 0), none, []⟩,
      ⟨some 128, .move (.t 14), none, []⟩,
      ⟨some 129, .bin .add (.t 128) (.c (.p (.int .i64 1))), none, []⟩,
      ⟨some 130, .move (.t 2), none, []⟩,
      ⟨some 131, .move (.t 3), none, []⟩,
      ⟨some 132, .call true 133 [.t 127, .t 129, .t 130, .t 131], none, []⟩] [2, 127, 128, 129, 130, 131, 132])
      (.region false [
      ⟨some 133, .move (.t 14), none, []⟩,
      ⟨some 2, .move (.t 133), none, []⟩] [14, 133]))))))))))))))))))

def a133 : AFunc := ⟨134, 4, [],
  (.seq (.region false [
  ⟨some 8, .move (.c (.p (.bool true))), none, []⟩] [])
  (.seq (.region false [
  ⟨some 9, .move (.c (.p (.bool true))), none, []⟩] [])
  (.block 0
  (.loop
    a133_l0))))⟩

/-- math/bits.Len -/
def a134 : AFunc := ⟨8, 1, [.tmp 2],
  (.seq (.region false [
  ⟨some 2, .move (.c (.p (.int .i64 0))), none, []⟩] [2])
  (.seq (.cond (.c (.p (.bool false)))
  (.seq (.region false [
    ⟨some 3, .move (.t 0), none, []⟩,
    ⟨some 4, .conv .u32 (.t 3), none, []⟩,
    ⟨some 5, .call false 157 [.t 4], none, []⟩,
    ⟨some 2, .move (.t 5), none, []⟩] [0, 3, 4, 5])
    .ret)
  .skip)
  (.seq (.region false [
  ⟨some 6, .move (.t 0), none, []⟩,
  ⟨some 7, .call false 158 [.t 6], none, []⟩,
  ⟨some 2, .move (.t 7), none, []⟩] [0, 6, 7])
  .ret)))⟩

/-- clockwork/replicate.stored -/
@[irreducible] def a135_l0 : ACode :=
  (.seq (.region false [
  ⟨some 12, .bin .lss (.t 11) (.t 10), none, []⟩] [])
  (.seq (.cond (.t 12)
  .skip
  (.ghost (.forget [1, 9, 10, 11, 12]) (.ghost .lower (.exit 0))))
  (.seq (.block 1
  (.seq (.region false [
    ⟨some 13, .indexAddr 1 (.t 9) (.t 11), none, []⟩,
    ⟨some 14, .load none (.t 13), none, []⟩,
    ⟨some 7, .move (.t 14), none, []⟩] [12, 13, 14])
    (.seq (.region false [
    ⟨some 15, .move (.t 7), none, []⟩,
    ⟨some 16, .move (.t 1), none, []⟩,
    ⟨some 17, .bin .geq (.t 15) (.t 16), none, []⟩] [7, 15, 16])
    (.cond (.t 17)
    (.region false [
      ⟨some 18, .move (.t 5), none, []⟩,
      ⟨some 19, .bin .add (.t 18) (.c (.p (.int .i64 1))), none, []⟩,
      ⟨some 5, .move (.t 19), none, []⟩] [17, 18, 19])
    .skip))))
  (.region false [
  ⟨some 20, .bin .add (.t 11) (.c (.p (.int .i64 1))), none, []⟩,
  ⟨some 11, .move (.t 20), none, []⟩] [17, 20]))))

def a135 : AFunc := ⟨22, 2, [.tmp 4],
  (.seq (.region false [
  ⟨some 2, .box (.t 0), none, []⟩,
  ⟨some 4, .move (.c (.p (.int .i64 0))), none, []⟩] [0, 4])
  (.seq (.region false [
  ⟨some 5, .move (.c (.p (.int .i64 0))), none, []⟩] [])
  (.seq (.seq (.region false [
  ⟨some 8, .fieldAddr 9 (.t 2), none, []⟩,
  ⟨some 9, .load none (.t 8), none, []⟩,
  ⟨some 10, .len (.t 9), none, []⟩,
  ⟨some 11, .move (.c (.p (.int .i64 0))), none, []⟩] [8])
  (.block 0
  (.loop
    (.ghost (.free [2]) (.ghost .lower a135_l0)))))
  (.seq (.region false [
  ⟨some 21, .move (.t 5), none, []⟩,
  ⟨some 4, .move (.t 21), none, []⟩] [5, 21])
  .ret))))⟩

/-- clockwork/network.within -/
def a145 : AFunc := ⟨15, 3, [.tmp 6],
  (.seq (.region false [
  ⟨some 6, .move (.c (.p (.bool false))), none, []⟩] [6])
  (.seq (.region false [
  ⟨some 7, .move (.t 0), none, []⟩,
  ⟨some 8, .move (.t 1), none, []⟩,
  ⟨some 9, .bin .geq (.t 7) (.t 8), none, []⟩,
  ⟨some 10, .move (.t 9), none, []⟩,
  ⟨some 11, .move (.t 0), some (10, true), []⟩,
  ⟨some 12, .move (.t 2), some (10, true), []⟩,
  ⟨some 13, .bin .leq (.t 11) (.t 12), some (10, true), []⟩,
  ⟨some 14, .pick (.t 10) (.t 13) (.c (.p (.bool false))), none, []⟩,
  ⟨some 6, .move (.t 14), none, []⟩] [0, 1, 2, 7, 8, 9, 10, 11, 12, 13, 14])
  .ret))⟩

/-- clockwork/network.validItems -/
@[irreducible] def a146_l0 : ACode :=
  (.seq (.region false [
  ⟨some 11, .bin .lss (.t 10) (.t 9), none, []⟩] [])
  (.seq (.cond (.t 11)
  .skip
  (.ghost (.forget [8, 9, 10, 11]) (.ghost .lower (.exit 0))))
  (.seq (.block 1
  (.seq (.region false [
    ⟨some 12, .indexAddr 2 (.t 8) (.t 10), none, []⟩,
    ⟨some 13, .load (some 2) (.t 12), none, []⟩,
    ⟨some 4, .alloc [.int .i64 0, .str ⟨#[]⟩], none, []⟩,
    ⟨none, .store 2 (.t 4) (.t 13), none, []⟩] [11, 12, 13])
    (.seq (.region false [
    ⟨some 14, .fieldAddr 0 (.t 4), none, []⟩,
    ⟨some 15, .load none (.t 14), none, []⟩,
    ⟨some 16, .call false 145 [.t 15, .c (.p (.int .i64 1)), .c (.p (.int .i64 1099511627776))], none, []⟩,
    ⟨some 17, .un .not (.t 16), none, []⟩,
    ⟨some 18, .move (.t 17), none, []⟩,
    ⟨some 19, .fieldAddr 1 (.t 4), some (18, false), []⟩,
    ⟨some 20, .load none (.t 19), some (18, false), []⟩,
    ⟨some 21, .lenS (.t 20), some (18, false), []⟩,
    ⟨some 22, .bin .gtr (.t 21) (.c (.p (.int .i64 4096))), some (18, false), []⟩,
    ⟨some 23, .pick (.t 18) (.c (.p (.bool true))) (.t 22), none, []⟩] [14, 15, 16, 17, 18, 19, 20, 21, 22])
    (.cond (.t 23)
    (.seq (.region false [
      ⟨some 2, .move (.c (.p (.bool false))), none, []⟩] [8, 9, 10, 23])
      .ret)
    .skip))))
  (.region false [
  ⟨some 24, .bin .add (.t 10) (.c (.p (.int .i64 1))), none, []⟩,
  ⟨some 10, .move (.t 24), none, []⟩] [23, 24]))))

def a146 : AFunc := ⟨25, 1, [.tmp 2],
  (.seq (.region false [
  ⟨some 2, .move (.c (.p (.bool false))), none, []⟩] [2])
  (.seq (.seq (.region false [
  ⟨some 5, .move (.t 0), none, []⟩,
  ⟨some 6, .len (.t 5), none, []⟩,
  ⟨some 7, .bin .gtr (.t 6) (.c (.p (.int .i64 256))), none, []⟩] [5, 6])
  (.cond (.t 7)
  (.seq (.region false [
    ⟨some 2, .move (.c (.p (.bool false))), none, []⟩] [0, 7])
    .ret)
  .skip))
  (.seq (.seq (.region false [
  ⟨some 8, .move (.t 0), none, []⟩,
  ⟨some 9, .len (.t 8), none, []⟩,
  ⟨some 10, .move (.c (.p (.int .i64 0))), none, []⟩] [0, 7])
  (.block 0
  (.loop
    (.ghost (.free [4]) (.ghost .lower a146_l0)))))
  (.seq (.region false [
  ⟨some 2, .move (.c (.p (.bool true))), none, []⟩] [])
  .ret))))⟩

/-- clockwork/network.plain -/
def a147 : AFunc := ⟨63, 1, [.tmp 2],
  (.seq (.region false [
  ⟨some 1, .box (.t 0), none, []⟩,
  ⟨some 2, .move (.c (.p (.bool false))), none, []⟩] [0, 2])
  (.seq (.seq (.region false [
  ⟨some 3, .fieldAddr 0 (.t 1), none, []⟩,
  ⟨some 4, .load none (.t 3), none, []⟩] [3])
  (.block 0
  (.seq (.region false [
    ⟨some 6, .bin .eql (.t 4) (.c (.p (.int .i64 1))), none, []⟩,
    ⟨some 5, .move (.t 6), none, []⟩] [6])
    (.cond (.t 5)
    (.seq (.region false [
      ⟨some 7, .fieldAddr 6 (.t 1), none, []⟩,
      ⟨some 8, .load none (.t 7), none, []⟩,
      ⟨some 9, .bin .eql (.t 8) (.c (.p (.int .i64 0))), none, []⟩,
      ⟨some 10, .move (.t 9), none, []⟩,
      ⟨some 11, .fieldAddr 7 (.t 1), some (10, true), []⟩,
      ⟨some 12, .load none (.t 11), some (10, true), []⟩,
      ⟨some 13, .un .not (.t 12), some (10, true), []⟩,
      ⟨some 14, .pick (.t 10) (.t 13) (.c (.p (.bool false))), none, []⟩,
      ⟨some 15, .move (.t 14), none, []⟩,
      ⟨some 16, .fieldAddr 8 (.t 1), some (15, true), []⟩,
      ⟨some 17, .load none (.t 16), some (15, true), []⟩,
      ⟨some 18, .len (.t 17), some (15, true), []⟩,
      ⟨some 19, .bin .eql (.t 18) (.c (.p (.int .i64 0))), some (15, true), []⟩,
      ⟨some 20, .pick (.t 15) (.t 19) (.c (.p (.bool false))), none, []⟩,
      ⟨some 2, .move (.t 20), none, []⟩] [4, 5, 7, 8, 9, 10, 11, 12, 13, 14, 15, 16, 17, 18, 19, 20])
      .ret)
    (.seq (.region false [
      ⟨some 22, .bin .eql (.t 4) (.c (.p (.int .i64 2))), none, []⟩,
      ⟨some 21, .move (.t 22), none, []⟩] [5, 22])
      (.cond (.t 21)
      (.seq (.region false [
        ⟨some 23, .fieldAddr 4 (.t 1), none, []⟩,
        ⟨some 24, .load none (.t 23), none, []⟩,
        ⟨some 25, .bin .eql (.t 24) (.c (.p (.int .i64 0))), none, []⟩,
        ⟨some 26, .move (.t 25), none, []⟩,
        ⟨some 27, .fieldAddr 5 (.t 1), some (26, true), []⟩,
        ⟨some 28, .load none (.t 27), some (26, true), []⟩,
        ⟨some 29, .bin .eql (.t 28) (.c (.p (.int .i64 0))), some (26, true), []⟩,
        ⟨some 30, .pick (.t 26) (.t 29) (.c (.p (.bool false))), none, []⟩,
        ⟨some 31, .move (.t 30), none, []⟩,
        ⟨some 32, .fieldAddr 6 (.t 1), some (31, true), []⟩,
        ⟨some 33, .load none (.t 32), some (31, true), []⟩,
        ⟨some 34, .bin .eql (.t 33) (.c (.p (.int .i64 0))), some (31, true), []⟩,
        ⟨some 35, .pick (.t 31) (.t 34) (.c (.p (.bool false))), none, []⟩,
        ⟨some 36, .move (.t 35), none, []⟩,
        ⟨some 37, .fieldAddr 8 (.t 1), some (36, true), []⟩,
        ⟨some 38, .load none (.t 37), some (36, true), []⟩,
        ⟨some 39, .len (.t 38), some (36, true), []⟩,
        ⟨some 40, .bin .eql (.t 39) (.c (.p (.int .i64 0))), some (36, true), []⟩,
        ⟨some 41, .pick (.t 36) (.t 40) (.c (.p (.bool false))), none, []⟩,
        ⟨some 2, .move (.t 41), none, []⟩] [4, 21, 23, 24, 25, 26, 27, 28, 29, 30, 31, 32, 33, 34, 35, 36, 37, 38, 39, 40, 41])
        .ret)
      (.seq (.region false [
        ⟨some 43, .bin .eql (.t 4) (.c (.p (.int .i64 3))), none, []⟩,
        ⟨some 42, .move (.t 43), none, []⟩] [21, 43])
        (.cond (.t 42)
        (.seq (.region false [
          ⟨some 44, .fieldAddr 7 (.t 1), none, []⟩,
          ⟨some 45, .load none (.t 44), none, []⟩,
          ⟨some 46, .un .not (.t 45), none, []⟩,
          ⟨some 2, .move (.t 46), none, []⟩] [4, 42, 44, 45, 46])
          .ret)
        (.seq (.region false [
          ⟨some 48, .bin .eql (.t 4) (.c (.p (.int .i64 4))), none, []⟩,
          ⟨some 47, .move (.t 48), none, []⟩] [4, 42, 48])
          (.cond (.t 47)
          (.seq (.region false [
            ⟨some 49, .fieldAddr 5 (.t 1), none, []⟩,
            ⟨some 50, .load none (.t 49), none, []⟩,
            ⟨some 51, .bin .eql (.t 50) (.c (.p (.int .i64 0))), none, []⟩,
            ⟨some 52, .move (.t 51), none, []⟩,
            ⟨some 53, .fieldAddr 6 (.t 1), some (52, true), []⟩,
            ⟨some 54, .load none (.t 53), some (52, true), []⟩,
            ⟨some 55, .bin .eql (.t 54) (.c (.p (.int .i64 0))), some (52, true), []⟩,
            ⟨some 56, .pick (.t 52) (.t 55) (.c (.p (.bool false))), none, []⟩,
            ⟨some 57, .move (.t 56), none, []⟩,
            ⟨some 58, .fieldAddr 8 (.t 1), some (57, true), []⟩,
            ⟨some 59, .load none (.t 58), some (57, true), []⟩,
            ⟨some 60, .len (.t 59), some (57, true), []⟩,
            ⟨some 61, .bin .eql (.t 60) (.c (.p (.int .i64 0))), some (57, true), []⟩,
            ⟨some 62, .pick (.t 57) (.t 61) (.c (.p (.bool false))), none, []⟩,
            ⟨some 2, .move (.t 62), none, []⟩] [47, 49, 50, 51, 52, 53, 54, 55, 56, 57, 58, 59, 60, 61, 62])
            .ret)
          .skip))))))))))
  (.seq (.region false [
  ⟨some 2, .move (.c (.p (.bool false))), none, []⟩] [47])
  .ret)))⟩

/-- slices.insertionSortOrdered[int] -/
@[irreducible] def a148_l0 : ACode :=
  (.seq (.seq (.region true [
  ⟨some 16, .move (.t 7), none, []⟩,
  ⟨some 17, .move (.t 1), none, []⟩,
  ⟨some 18, .bin .gtr (.t 16) (.t 17), none, [0, 1]⟩,
  ⟨some 19, .move (.t 18), none, [0, 1, 2]⟩,
  ⟨some 20, .move (.t 0), some (19, true), [0, 1, 2, 3]⟩,
  ⟨some 21, .move (.t 7), some (19, true), [0, 1, 2, 3]⟩,
  ⟨some 22, .indexAddr 1 (.t 20) (.t 21), some (19, true), [0, 1, 2, 3, 4, 5]⟩,
  ⟨some 23, .load none (.t 22), some (19, true), [0, 1, 2, 3, 4, 5, 6]⟩,
  ⟨some 24, .move (.t 0), some (19, true), [0, 1, 2, 3]⟩,
  ⟨some 25, .move (.t 7), some (19, true), [0, 1, 2, 3]⟩,
  ⟨some 26, .bin .sub (.t 25) (.c (.p (.int .i64 1))), some (19, true), [0, 1, 2, 3, 9]⟩,
  ⟨some 27, .indexAddr 1 (.t 24) (.t 26), some (19, true), [0, 1, 2, 3, 8, 9, 10]⟩,
  ⟨some 28, .load none (.t 27), some (19, true), [0, 1, 2, 3, 8, 9, 10, 11]⟩,
  ⟨some 29, .call false 154 [.t 23, .t 28], some (19, true), [0, 1, 2, 3, 4, 5, 6, 7, 8, 9, 10, 11, 12]⟩,
  ⟨some 30, .pick (.t 19) (.t 29) (.c (.p (.bool false))), none, [0, 1, 2, 3, 4, 5, 6, 7, 8, 9, 10, 11, 12, 13]⟩] [16, 17, 18, 19, 20, 21, 22, 23, 24, 25, 26, 27, 28, 29])
  (.cond (.t 30)
  .skip
  (.ghost (.forget [7, 30]) (.exit 2))))
  (.seq (.block 3
  (.region true [
    ⟨some 33, .move (.t 0), none, []⟩,
    ⟨some 34, .move (.t 7), none, []⟩,
    ⟨some 35, .move (.t 0), none, []⟩,
    ⟨some 36, .move (.t 7), none, []⟩,
    ⟨some 37, .bin .sub (.t 36) (.c (.p (.int .i64 1))), none, [3]⟩,
    ⟨some 38, .move (.t 0), none, []⟩,
    ⟨some 39, .move (.t 7), none, []⟩,
    ⟨some 40, .bin .sub (.t 39) (.c (.p (.int .i64 1))), none, [6]⟩,
    ⟨some 41, .indexAddr 1 (.t 38) (.t 40), none, [5, 6, 7]⟩,
    ⟨some 42, .load none (.t 41), none, [5, 6, 7, 8]⟩,
    ⟨some 43, .move (.t 0), none, []⟩,
    ⟨some 44, .move (.t 7), none, []⟩,
    ⟨some 45, .indexAddr 1 (.t 43) (.t 44), none, [10, 11]⟩,
    ⟨some 46, .load none (.t 45), none, [10, 11, 12]⟩,
    ⟨some 47, .indexAddr 1 (.t 33) (.t 34), none, [0, 1, 5, 6, 7, 8, 9, 10, 11, 12, 13]⟩,
    ⟨none, .store 1 (.t 47) (.t 42), none, [0, 1, 5, 6, 7, 8, 9, 10, 11, 12, 13, 14]⟩,
    ⟨some 48, .indexAddr 1 (.t 35) (.t 37), none, [0, 1, 2, 3, 4, 5, 6, 7, 8, 9, 10, 11, 12, 13, 14, 15]⟩,
    ⟨none, .store 1 (.t 48) (.t 46), none, [0, 1, 2, 3, 4, 5, 6, 7, 8, 9, 10, 11, 12, 13, 14, 15, 16]⟩] [30, 33, 34, 35, 36, 37, 38, 39, 40, 41, 42, 43, 44, 45, 46, 47, 48]))
  (.region false [
  ⟨some 31, .move (.t 7), none, []⟩,
  ⟨some 32, .bin .sub (.t 31) (.c (.p (.int .i64 1))), none, []⟩,
  ⟨some 7, .move (.t 32), none, []⟩] [31, 32])))

@[irreducible] def a148_l1 : ACode :=
  (.seq (.seq (.region false [
  ⟨some 10, .move (.t 6), none, []⟩,
  ⟨some 11, .move (.t 2), none, []⟩,
  ⟨some 12, .bin .lss (.t 10) (.t 11), none, []⟩] [10, 11])
  (.cond (.t 12)
  .skip
  (.ghost (.forget [0, 1, 2, 6, 12]) (.exit 0))))
  (.seq (.block 1
  (.seq (.region false [
    ⟨some 15, .move (.t 6), none, []⟩,
    ⟨some 7, .move (.t 15), none, []⟩] [12, 15])
    (.block 2
    (.loop
      a148_l0))))
  (.region false [
  ⟨some 13, .move (.t 6), none, []⟩,
  ⟨some 14, .bin .add (.t 13) (.c (.p (.int .i64 1))), none, []⟩,
  ⟨some 6, .move (.t 14), none, []⟩] [13, 14])))

def a148 : AFunc := ⟨49, 3, [],
  (.seq (.region false [
  ⟨some 8, .move (.t 1), none, []⟩,
  ⟨some 9, .bin .add (.t 8) (.c (.p (.int .i64 1))), none, []⟩,
  ⟨some 6, .move (.t 9), none, []⟩] [8, 9])
  (.block 0
  (.loop
    a148_l1)))⟩

/-- cmp.Less[int] -/
def a154 : AFunc := ⟨17, 2, [.tmp 4],
  (.seq (.region false [
  ⟨some 4, .move (.c (.p (.bool false))), none, []⟩] [4])
  (.seq (.region false [
  ⟨some 5, .move (.t 0), none, []⟩,
  ⟨some 6, .call false 164 [.t 5], none, []⟩,
  ⟨some 7, .move (.t 6), none, []⟩,
  ⟨some 8, .move (.t 1), some (7, true), []⟩,
  ⟨some 9, .call false 164 [.t 8], some (7, true), []⟩,
  ⟨some 10, .un .not (.t 9), some (7, true), []⟩,
  ⟨some 11, .pick (.t 7) (.t 10) (.c (.p (.bool false))), none, []⟩,
  ⟨some 12, .move (.t 11), none, []⟩,
  ⟨some 13, .move (.t 0), some (12, false), []⟩,
  ⟨some 14, .move (.t 1), some (12, false), []⟩,
  ⟨some 15, .bin .lss (.t 13) (.t 14), some (12, false), []⟩,
  ⟨some 16, .pick (.t 12) (.c (.p (.bool true))) (.t 15), none, []⟩,
  ⟨some 4, .move (.t 16), none, []⟩] [0, 1, 5, 6, 7, 8, 9, 10, 11, 12, 13, 14, 15, 16])
  .ret))⟩

/-- math/bits.Len64 -/
def a158 : AFunc := ⟨25, 1, [.tmp 2],
  (.seq (.region false [
  ⟨some 2, .move (.c (.p (.int .i64 0))), none, []⟩] [])
  (.seq (.seq (.region false [
  ⟨some 3, .move (.t 0), none, []⟩,
  ⟨some 4, .bin .geq (.t 3) (.c (.p (.int .u64 4294967296))), none, []⟩] [3])
  (.cond (.t 4)
  (.seq (.region false [
    ⟨some 5, .move (.t 0), none, []⟩,
    ⟨some 6, .bin .shr (.t 5) (.c (.p (.int .u64 32))), none, []⟩,
    ⟨some 0, .move (.t 6), none, []⟩] [2, 4, 5, 6])
    (.region false [
    ⟨some 2, .move (.c (.p (.int .i64 32))), none, []⟩] []))
  .skip))
  (.seq (.seq (.region false [
  ⟨some 7, .move (.t 0), none, []⟩,
  ⟨some 8, .bin .geq (.t 7) (.c (.p (.int .u64 65536))), none, []⟩] [4, 7])
  (.cond (.t 8)
  (.seq (.region false [
    ⟨some 9, .move (.t 0), none, []⟩,
    ⟨some 10, .bin .shr (.t 9) (.c (.p (.int .u64 16))), none, []⟩,
    ⟨some 0, .move (.t 10), none, []⟩] [8, 9, 10])
    (.region false [
    ⟨some 11, .move (.t 2), none, []⟩,
    ⟨some 12, .bin .add (.t 11) (.c (.p (.int .i64 16))), none, []⟩,
    ⟨some 2, .move (.t 12), none, []⟩] [11, 12]))
  .skip))
  (.seq (.seq (.region false [
  ⟨some 13, .move (.t 0), none, []⟩,
  ⟨some 14, .bin .geq (.t 13) (.c (.p (.int .u64 256))), none, []⟩] [8, 13])
  (.cond (.t 14)
  (.seq (.region false [
    ⟨some 15, .move (.t 0), none, []⟩,
    ⟨some 16, .bin .shr (.t 15) (.c (.p (.int .u64 8))), none, []⟩,
    ⟨some 0, .move (.t 16), none, []⟩] [14, 15, 16])
    (.region false [
    ⟨some 17, .move (.t 2), none, []⟩,
    ⟨some 18, .bin .add (.t 17) (.c (.p (.int .i64 8))), none, []⟩,
    ⟨some 2, .move (.t 18), none, []⟩] [17, 18]))
  .skip))
  (.seq (.region false [
  ⟨some 19, .move (.t 2), none, []⟩,
  ⟨some 20, .move (.t 0), none, []⟩,
  ⟨some 21, .conv .u8 (.t 20), none, []⟩,
  ⟨some 22, .index (.c (.p (.str ⟨#[0, 1, 2, 2, 3, 3, 3, 3, 4, 4, 4, 4, 4, 4, 4, 4, 5, 5, 5, 5, 5, 5, 5, 5, 5, 5, 5, 5, 5, 5, 5, 5, 6, 6, 6, 6, 6, 6, 6, 6, 6, 6, 6, 6, 6, 6, 6, 6, 6, 6, 6, 6, 6, 6, 6, 6, 6, 6, 6, 6, 6, 6, 6, 6, 7, 7, 7, 7, 7, 7, 7, 7, 7, 7, 7, 7, 7, 7, 7, 7, 7, 7, 7, 7, 7, 7, 7, 7, 7, 7, 7, 7, 7, 7, 7, 7, 7, 7, 7, 7, 7, 7, 7, 7, 7, 7, 7, 7, 7, 7, 7, 7, 7, 7, 7, 7, 7, 7, 7, 7, 7, 7, 7, 7, 7, 7, 7, 7, 8, 8, 8, 8, 8, 8, 8, 8, 8, 8, 8, 8, 8, 8, 8, 8, 8, 8, 8, 8, 8, 8, 8, 8, 8, 8, 8, 8, 8, 8, 8, 8, 8, 8, 8, 8, 8, 8, 8, 8, 8, 8, 8, 8, 8, 8, 8, 8, 8, 8, 8, 8, 8, 8, 8, 8, 8, 8, 8, 8, 8, 8, 8, 8, 8, 8, 8, 8, 8, 8, 8, 8, 8, 8, 8, 8, 8, 8, 8, 8, 8, 8, 8, 8, 8, 8, 8, 8, 8, 8, 8, 8, 8, 8, 8, 8, 8, 8, 8, 8, 8, 8, 8, 8, 8, 8, 8, 8, 8, 8, 8, 8, 8, 8, 8, 8, 8, 8, 8, 8, 8, 8, 8, 8, 8, 8, 8, 8]⟩))) (.t 21), none, []⟩,
  ⟨some 23, .conv .i64 (.t 22), none, []⟩,
  ⟨some 24, .bin .add (.t 19) (.t 23), none, []⟩,
  ⟨some 2, .move (.t 24), none, []⟩] [0, 14, 19, 20, 21, 22, 23, 24])
  .ret)))))⟩

/-- cmp.isNaN[int] -/
def a164 : AFunc := ⟨6, 1, [.tmp 2],
  (.seq (.region false [
  ⟨some 2, .move (.c (.p (.bool false))), none, []⟩] [2])
  (.seq (.region false [
  ⟨some 3, .move (.t 0), none, []⟩,
  ⟨some 4, .move (.t 0), none, []⟩,
  ⟨some 5, .bin .neq (.t 3) (.t 4), none, []⟩,
  ⟨some 2, .move (.t 5), none, []⟩] [0, 3, 4, 5])
  .ret))⟩


end Go.Dv.Try
