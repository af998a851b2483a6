/-
  The annotated functions of this seat. Printed by wip/gen.py.
-/
import Derived.Test.YtlbfmbnmajlhaaaWalk
set_option linter.unusedVariables false
set_option maxRecDepth 100000
namespace Go.Dv.Try
open Go Go.Dv

/-- clockwork/clockworklaw19.FootprintUnions -/
def a3 : AFunc := ⟨38, 2, [.tmp 4],
  (.seq (.regionK false [
  (⟨some 2, .box (.t 0), none, []⟩, [0]),
  (⟨some 3, .box (.t 1), none, []⟩, [1]),
  (⟨some 4, .move (.c (.p (.bool false))), none, []⟩, [4])])
  (.seq (.seq (.regionK false [
  (⟨some 9, .load (some 3) (.t 2), none, []⟩, []),
  (⟨some 10, .load (some 3) (.t 3), none, []⟩, []),
  (⟨some 11, .buildSlice [.bool false, .slice true [], .slice true []] 2 [(0, .t 9), (1, .t 10)], none, []⟩, [9, 10]),
  (⟨some 12, .call false 15 [.t 11], none, []⟩, [11]),
  (⟨some 13, .un .not (.t 12), none, []⟩, [12])])
  (.cond (.t 13)
  (.seq (.regionK false [
    (⟨some 14, .call false 16 [], none, []⟩, [13]),
    (⟨some 4, .move (.t 14), none, []⟩, [14])])
    .ret)
  .skip))
  (.seq (.regionK false [
  (⟨some 16, .load (some 3) (.t 2), none, []⟩, [13]),
  (⟨some 17, .load (some 3) (.t 3), none, []⟩, []),
  (⟨some 18, .call false 17 [.t 16, .t 17], none, []⟩, [16, 17]),
  (⟨some 15, .move (.t 18), none, []⟩, [18]),
  (⟨some 19, .extract (.t 15) 0, none, []⟩, []),
  (⟨some 20, .extract (.t 15) 1, none, []⟩, [15]),
  (⟨some 5, .alloc [.bool false, .slice true [], .slice true []], none, []⟩, []),
  (⟨none, .store 3 (.t 5) (.t 19), none, []⟩, [19]),
  (⟨some 6, .move (.t 20), none, []⟩, [20])])
  (.seq (.regionK false [
  (⟨some 22, .load (some 3) (.t 2), none, []⟩, []),
  (⟨some 23, .load (some 3) (.t 3), none, []⟩, []),
  (⟨some 24, .call false 18 [.t 22, .t 23], none, []⟩, [22, 23]),
  (⟨some 21, .move (.t 24), none, []⟩, [24]),
  (⟨some 25, .extract (.t 21) 0, none, []⟩, []),
  (⟨some 26, .extract (.t 21) 1, none, []⟩, [21]),
  (⟨some 7, .alloc [.bool false, .slice true [], .slice true []], none, []⟩, []),
  (⟨none, .store 3 (.t 7) (.t 25), none, []⟩, [25]),
  (⟨some 8, .move (.t 26), none, []⟩, [26])])
  (.seq (.regionK false [
  (⟨some 27, .load (some 3) (.t 5), none, []⟩, []),
  (⟨some 28, .load (some 3) (.t 7), none, []⟩, []),
  (⟨some 29, .call false 19 [.t 27, .t 28], none, []⟩, [27, 28]),
  (⟨some 30, .move (.t 29), none, []⟩, [29]),
  (⟨some 31, .move (.t 6), some (30, true), []⟩, [6]),
  (⟨some 32, .move (.t 8), some (30, true), []⟩, [8]),
  (⟨some 33, .bin .eql (.t 31) (.t 32), some (30, true), []⟩, [31, 32]),
  (⟨some 34, .pick (.t 30) (.t 33) (.c (.p (.bool false))), none, []⟩, [30, 33]),
  (⟨some 35, .move (.t 34), none, []⟩, [34]),
  (⟨some 36, .call false 16 [], some (35, true), []⟩, []),
  (⟨some 37, .pick (.t 35) (.t 36) (.c (.p (.bool false))), none, []⟩, [35, 36]),
  (⟨some 4, .move (.t 37), none, []⟩, [37])])
  .ret)))))⟩

/-- clockwork/clockworklaw38.AdmitOrder -/
@[irreducible] def a4_l0 : ACode :=
  (.seq (.seq (.regionK false [
  (⟨some 92, .move (.t 9), none, []⟩, []),
  (⟨some 93, .move (.t 7), none, []⟩, []),
  (⟨some 94, .bin .lss (.t 92) (.t 93), none, []⟩, [92, 93])])
  (.cond (.t 94)
  .skip
  (.ghost (.forget [8, 9, 94]) (.ghost .lower (.exit 2)))))
  (.seq (.block 3
  (.seq (.regionK true [
    (⟨some 97, .fieldAddr 5 (.t 1), none, []⟩, [94]),
    (⟨some 98, .load none (.t 97), none, [0]⟩, [97]),
    (⟨some 99, .move (.t 9), none, []⟩, []),
    (⟨some 100, .indexAddr 8 (.t 98) (.t 99), none, [0, 1, 2]⟩, [98, 99]),
    (⟨some 101, .fieldAddr 0 (.t 100), none, [0, 1, 2, 3]⟩, [100]),
    (⟨some 102, .load none (.t 101), none, [0, 1, 2, 3, 4]⟩, [101]),
    (⟨some 103, .fieldAddr 5 (.t 1), none, []⟩, []),
    (⟨some 104, .load none (.t 103), none, [6]⟩, [103]),
    (⟨some 105, .move (.t 7), none, []⟩, []),
    (⟨some 106, .indexAddr 8 (.t 104) (.t 105), none, [6, 7, 8]⟩, [104, 105]),
    (⟨some 107, .fieldAddr 0 (.t 106), none, [6, 7, 8, 9]⟩, [106]),
    (⟨some 108, .load none (.t 107), none, [6, 7, 8, 9, 10]⟩, [107]),
    (⟨some 109, .bin .eql (.t 102) (.t 108), none, [0, 1, 2, 3, 4, 5, 6, 7, 8, 9, 10, 11]⟩, [102, 108]),
    (⟨some 110, .move (.t 109), none, [0, 1, 2, 3, 4, 5, 6, 7, 8, 9, 10, 11, 12]⟩, [109]),
    (⟨some 111, .move (.t 3), some (110, true), [0, 1, 2, 3, 4, 5, 6, 7, 8, 9, 10, 11, 12, 13]⟩, []),
    (⟨some 112, .move (.t 4), some (110, true), [0, 1, 2, 3, 4, 5, 6, 7, 8, 9, 10, 11, 12, 13]⟩, []),
    (⟨some 113, .move (.t 5), some (110, true), [0, 1, 2, 3, 4, 5, 6, 7, 8, 9, 10, 11, 12, 13]⟩, []),
    (⟨some 114, .move (.t 9), some (110, true), [0, 1, 2, 3, 4, 5, 6, 7, 8, 9, 10, 11, 12, 13]⟩, []),
    (⟨some 115, .call false 23 [.t 111, .t 112, .t 113, .t 114], some (110, true), [0, 1, 2, 3, 4, 5, 6, 7, 8, 9, 10, 11, 12, 13, 14, 15, 16, 17]⟩, [111, 112, 113, 114]),
    (⟨some 116, .move (.t 8), some (110, true), [0, 1, 2, 3, 4, 5, 6, 7, 8, 9, 10, 11, 12, 13]⟩, []),
    (⟨some 117, .bin .gtr (.t 115) (.t 116), some (110, true), [0, 1, 2, 3, 4, 5, 6, 7, 8, 9, 10, 11, 12, 13, 14, 15, 16, 17, 18, 19]⟩, [115, 116]),
    (⟨some 118, .pick (.t 110) (.t 117) (.c (.p (.bool false))), none, [0, 1, 2, 3, 4, 5, 6, 7, 8, 9, 10, 11, 12, 13, 14, 15, 16, 17, 18, 19, 20]⟩, [110, 117])])
    (.cond (.t 118)
    (.seq (.regionK false [
      (⟨some 2, .move (.c (.p (.bool false))), none, []⟩, [3, 4, 5, 7, 8, 9, 118])])
      .ret)
    .skip)))
  (.regionK false [
  (⟨some 95, .move (.t 9), none, []⟩, [118]),
  (⟨some 96, .bin .add (.t 95) (.c (.p (.int .i64 1))), none, []⟩, [95]),
  (⟨some 9, .move (.t 96), none, []⟩, [96])])))

@[irreducible] def a4_l1 : ACode :=
  (.seq (.seq (.regionK false [
  (⟨some 60, .move (.t 7), none, []⟩, []),
  (⟨some 61, .fieldAddr 5 (.t 1), none, []⟩, []),
  (⟨some 62, .load none (.t 61), none, []⟩, [61]),
  (⟨some 63, .len (.t 62), none, []⟩, [62]),
  (⟨some 64, .bin .lss (.t 60) (.t 63), none, []⟩, [60, 63])])
  (.cond (.t 64)
  .skip
  (.ghost (.forget [3, 4, 5, 7, 64]) (.ghost (.free [1]) (.ghost .lower (.exit 0))))))
  (.seq (.block 1
  (.seq (.regionK false [
    (⟨some 67, .move (.t 3), none, []⟩, [64]),
    (⟨some 68, .move (.t 4), none, []⟩, []),
    (⟨some 69, .move (.t 5), none, []⟩, []),
    (⟨some 70, .move (.t 7), none, []⟩, []),
    (⟨some 71, .call false 23 [.t 67, .t 68, .t 69, .t 70], none, []⟩, [67, 68, 69, 70]),
    (⟨some 8, .move (.t 71), none, []⟩, [71])])
    (.seq (.seq (.regionK false [
    (⟨some 72, .move (.t 8), none, []⟩, []),
    (⟨some 73, .bin .eql (.t 72) (.c (.p (.int .i64 0))), none, []⟩, [72]),
    (⟨some 74, .move (.t 73), none, []⟩, [73]),
    (⟨some 75, .move (.t 8), some (74, false), []⟩, []),
    (⟨some 76, .bin .eql (.t 75) (.c (.p (.int .i64 3))), some (74, false), []⟩, [75]),
    (⟨some 77, .move (.t 76), some (74, false), []⟩, [76]),
    (⟨some 78, .move (.t 7), some (77, true), []⟩, []),
    (⟨some 79, .fieldAddr 7 (.t 1), some (77, true), []⟩, []),
    (⟨some 80, .load none (.t 79), some (77, true), []⟩, [79]),
    (⟨some 81, .bin .lss (.t 78) (.t 80), some (77, true), []⟩, [78, 80]),
    (⟨some 82, .pick (.t 77) (.t 81) (.c (.p (.bool false))), some (74, false), []⟩, [77, 81]),
    (⟨some 83, .pick (.t 74) (.c (.p (.bool true))) (.t 82), none, []⟩, [74, 82]),
    (⟨some 84, .move (.t 83), none, []⟩, [83]),
    (⟨some 85, .move (.t 7), some (84, false), []⟩, []),
    (⟨some 86, .bin .eql (.t 85) (.c (.p (.int .i64 0))), some (84, false), []⟩, [85]),
    (⟨some 87, .move (.t 86), some (84, false), []⟩, [86]),
    (⟨some 88, .move (.t 8), some (87, true), []⟩, []),
    (⟨some 89, .bin .neq (.t 88) (.c (.p (.int .i64 1))), some (87, true), []⟩, [88]),
    (⟨some 90, .pick (.t 87) (.t 89) (.c (.p (.bool false))), some (84, false), []⟩, [87, 89]),
    (⟨some 91, .pick (.t 84) (.c (.p (.bool true))) (.t 90), none, []⟩, [84, 90])])
    (.cond (.t 91)
    (.seq (.regionK false [
      (⟨some 2, .move (.c (.p (.bool false))), none, []⟩, [3, 4, 5, 7, 8, 91])])
      .ret)
    .skip))
    (.seq (.regionK false [
    (⟨some 9, .move (.c (.p (.int .i64 0))), none, []⟩, [91])])
    (.block 2
    (.loop
      (.ghost .lower a4_l0)))))))
  (.regionK false [
  (⟨some 65, .move (.t 7), none, []⟩, []),
  (⟨some 66, .bin .add (.t 65) (.c (.p (.int .i64 1))), none, []⟩, [65]),
  (⟨some 7, .move (.t 66), none, []⟩, [66])])))

def a4 : AFunc := ⟨120, 1, [.tmp 2],
  (.seq (.regionK false [
  (⟨some 1, .box (.t 0), none, []⟩, [0]),
  (⟨some 2, .move (.c (.p (.bool false))), none, []⟩, [2])])
  (.seq (.seq (.regionK false [
  (⟨some 10, .load (some 8) (.t 1), none, []⟩, []),
  (⟨some 11, .call false 20 [.t 10], none, []⟩, [10]),
  (⟨some 12, .un .not (.t 11), none, []⟩, [11])])
  (.cond (.t 12)
  (.seq (.regionK false [
    (⟨some 13, .call false 21 [], none, []⟩, [12]),
    (⟨some 2, .move (.t 13), none, []⟩, [13])])
    .ret)
  .skip))
  (.seq (.regionK false [
  (⟨some 15, .fieldAddr 0 (.t 1), none, []⟩, [12]),
  (⟨some 16, .load (some 4) (.t 15), none, []⟩, [15]),
  (⟨some 17, .fieldAddr 4 (.t 1), none, []⟩, []),
  (⟨some 18, .load none (.t 17), none, []⟩, [17]),
  (⟨some 19, .fieldAddr 5 (.t 1), none, []⟩, []),
  (⟨some 20, .load none (.t 19), none, []⟩, [19]),
  (⟨some 21, .fieldAddr 6 (.t 1), none, []⟩, []),
  (⟨some 22, .load none (.t 21), none, []⟩, [21]),
  (⟨some 23, .fieldAddr 7 (.t 1), none, []⟩, []),
  (⟨some 24, .load none (.t 23), none, []⟩, [23]),
  (⟨some 25, .call false 22 [.t 16, .t 18, .t 20, .t 22, .t 24], none, []⟩, [16, 18, 20, 22, 24]),
  (⟨some 14, .move (.t 25), none, []⟩, [25]),
  (⟨some 26, .extract (.t 14) 0, none, []⟩, []),
  (⟨some 27, .extract (.t 14) 1, none, []⟩, []),
  (⟨some 28, .extract (.t 14) 2, none, []⟩, []),
  (⟨some 29, .extract (.t 14) 3, none, []⟩, [14]),
  (⟨some 3, .move (.t 26), none, []⟩, [26]),
  (⟨some 4, .move (.t 27), none, []⟩, [27]),
  (⟨some 5, .move (.t 28), none, []⟩, [28]),
  (⟨some 6, .move (.t 29), none, []⟩, [29])])
  (.seq (.seq (.regionK false [
  (⟨some 30, .move (.t 6), none, []⟩, []),
  (⟨some 31, .bin .neq (.t 30) (.c (.p (.int .i64 0))), none, []⟩, [30])])
  (.cond (.t 31)
  (.seq (.regionK false [
    (⟨some 32, .move (.t 6), none, []⟩, [6, 31]),
    (⟨some 33, .bin .eql (.t 32) (.c (.p (.int .i64 1))), none, []⟩, [32]),
    (⟨some 34, .move (.t 33), none, []⟩, [33]),
    (⟨some 35, .move (.t 3), some (34, true), []⟩, [3]),
    (⟨some 36, .len (.t 35), some (34, true), []⟩, [35]),
    (⟨some 37, .move (.t 4), some (34, true), []⟩, [4]),
    (⟨some 38, .len (.t 37), some (34, true), []⟩, [37]),
    (⟨some 39, .bin .add (.t 36) (.t 38), some (34, true), []⟩, [36, 38]),
    (⟨some 40, .move (.t 5), some (34, true), []⟩, [5]),
    (⟨some 41, .len (.t 40), some (34, true), []⟩, [40]),
    (⟨some 42, .bin .add (.t 39) (.t 41), some (34, true), []⟩, [39, 41]),
    (⟨some 43, .bin .eql (.t 42) (.c (.p (.int .i64 0))), some (34, true), []⟩, [42]),
    (⟨some 44, .pick (.t 34) (.t 43) (.c (.p (.bool false))), none, []⟩, [34, 43]),
    (⟨some 45, .move (.t 44), none, []⟩, [44]),
    (⟨some 46, .call false 21 [], some (45, true), []⟩, []),
    (⟨some 47, .pick (.t 45) (.t 46) (.c (.p (.bool false))), none, []⟩, [45, 46]),
    (⟨some 2, .move (.t 47), none, []⟩, [47])])
    .ret)
  .skip))
  (.seq (.seq (.regionK false [
  (⟨some 48, .move (.t 3), none, []⟩, [6, 31]),
  (⟨some 49, .len (.t 48), none, []⟩, [48]),
  (⟨some 50, .move (.t 4), none, []⟩, []),
  (⟨some 51, .len (.t 50), none, []⟩, [50]),
  (⟨some 52, .bin .add (.t 49) (.t 51), none, []⟩, [49, 51]),
  (⟨some 53, .move (.t 5), none, []⟩, []),
  (⟨some 54, .len (.t 53), none, []⟩, [53]),
  (⟨some 55, .bin .add (.t 52) (.t 54), none, []⟩, [52, 54]),
  (⟨some 56, .fieldAddr 5 (.t 1), none, []⟩, []),
  (⟨some 57, .load none (.t 56), none, []⟩, [56]),
  (⟨some 58, .len (.t 57), none, []⟩, [57]),
  (⟨some 59, .bin .neq (.t 55) (.t 58), none, []⟩, [55, 58])])
  (.cond (.t 59)
  (.seq (.regionK false [
    (⟨some 2, .move (.c (.p (.bool false))), none, []⟩, [3, 4, 5, 59])])
    .ret)
  .skip))
  (.seq (.seq (.regionK false [
  (⟨some 7, .move (.c (.p (.int .i64 0))), none, []⟩, [59])])
  (.block 0
  (.loop
    (.ghost .lower a4_l1))))
  (.seq (.regionK false [
  (⟨some 119, .call false 21 [], none, []⟩, []),
  (⟨some 2, .move (.t 119), none, []⟩, [119])])
  .ret)))))))⟩

/-- clockwork/clockworklaw38.AdmitBlocks -/
def a5 : AFunc := ⟨41, 4, [.tmp 8],
  (.seq (.regionK false [
  (⟨some 4, .box (.t 0), none, []⟩, [0]),
  (⟨some 7, .box (.t 3), none, []⟩, [3]),
  (⟨some 8, .move (.c (.p (.bool false))), none, []⟩, [8])])
  (.seq (.seq (.regionK false [
  (⟨some 9, .move (.t 1), none, []⟩, []),
  (⟨some 10, .move (.t 2), none, []⟩, []),
  (⟨some 11, .call false 24 [.t 9, .c (.p (.slice true [])), .t 10], none, []⟩, [9, 10]),
  (⟨some 12, .un .not (.t 11), none, []⟩, [11]),
  (⟨some 13, .move (.t 12), none, []⟩, [12]),
  (⟨some 14, .load (some 3) (.t 7), some (13, false), []⟩, []),
  (⟨some 15, .buildSlice [.bool false, .slice true [], .slice true []] 1 [(0, .t 14)], some (13, false), []⟩, [14]),
  (⟨some 16, .call false 24 [.c (.p (.slice true [])), .c (.p (.slice true [])), .t 15], some (13, false), []⟩, [15]),
  (⟨some 17, .un .not (.t 16), some (13, false), []⟩, [16]),
  (⟨some 18, .pick (.t 13) (.c (.p (.bool true))) (.t 17), none, []⟩, [13, 17])])
  (.cond (.t 18)
  (.seq (.regionK false [
    (⟨some 19, .call false 21 [], none, []⟩, [1, 2, 18]),
    (⟨some 8, .move (.t 19), none, []⟩, [19])])
    .ret)
  .skip))
  (.seq (.regionK true [
  (⟨some 20, .load (some 4) (.t 4), none, []⟩, [18]),
  (⟨some 21, .call false 25 [.t 20], none, [0]⟩, [20]),
  (⟨some 22, .load (some 4) (.t 4), none, []⟩, []),
  (⟨some 23, .call false 26 [.t 22], none, [0, 1, 2]⟩, [22]),
  (⟨some 24, .eqb false (.t 21) (.t 23), none, [0, 1, 2, 3]⟩, [21, 23]),
  (⟨some 25, .move (.t 24), none, [0, 1, 2, 3, 4]⟩, [24]),
  (⟨some 26, .load (some 4) (.t 4), some (25, true), [0, 1, 2, 3, 4, 5]⟩, []),
  (⟨some 27, .move (.t 1), some (25, true), [0, 1, 2, 3, 4, 5]⟩, []),
  (⟨some 28, .move (.t 2), some (25, true), [0, 1, 2, 3, 4, 5]⟩, []),
  (⟨some 29, .load (some 3) (.t 7), some (25, true), [0, 1, 2, 3, 4, 5]⟩, []),
  (⟨some 30, .call false 27 [.t 26, .t 27, .t 28, .t 29], some (25, true), [0, 1, 2, 3, 4, 5, 6, 7, 8, 9]⟩, [26, 27, 28, 29]),
  (⟨some 31, .load (some 4) (.t 4), some (25, true), [0, 1, 2, 3, 4, 5]⟩, []),
  (⟨some 32, .move (.t 1), some (25, true), [0, 1, 2, 3, 4, 5]⟩, [1]),
  (⟨some 33, .move (.t 2), some (25, true), [0, 1, 2, 3, 4, 5]⟩, [2]),
  (⟨some 34, .load (some 3) (.t 7), some (25, true), [0, 1, 2, 3, 4, 5]⟩, []),
  (⟨some 35, .call false 28 [.t 31, .t 32, .t 33, .t 34], some (25, true), [0, 1, 2, 3, 4, 5, 6, 7, 8, 9, 10, 11, 12, 13, 14]⟩, [31, 32, 33, 34]),
  (⟨some 36, .eqb false (.t 30) (.t 35), some (25, true), [0, 1, 2, 3, 4, 5, 6, 7, 8, 9, 10, 11, 12, 13, 14, 15]⟩, [30, 35]),
  (⟨some 37, .pick (.t 25) (.t 36) (.c (.p (.bool false))), none, [0, 1, 2, 3, 4, 5, 6, 7, 8, 9, 10, 11, 12, 13, 14, 15, 16]⟩, [25, 36]),
  (⟨some 38, .move (.t 37), none, [0, 1, 2, 3, 4, 5, 6, 7, 8, 9, 10, 11, 12, 13, 14, 15, 16, 17]⟩, [37]),
  (⟨some 39, .call false 21 [], some (38, true), [0, 1, 2, 3, 4, 5, 6, 7, 8, 9, 10, 11, 12, 13, 14, 15, 16, 17, 18]⟩, []),
  (⟨some 40, .pick (.t 38) (.t 39) (.c (.p (.bool false))), none, [0, 1, 2, 3, 4, 5, 6, 7, 8, 9, 10, 11, 12, 13, 14, 15, 16, 17, 18, 19]⟩, [38, 39]),
  (⟨some 8, .move (.t 40), none, [0, 1, 2, 3, 4, 5, 6, 7, 8, 9, 10, 11, 12, 13, 14, 15, 16, 17, 18, 19, 20]⟩, [40])])
  .ret)))⟩

/-- clockwork/clockworklaw38.AdmitSelects -/
def a6 : AFunc := ⟨68, 1, [.tmp 2],
  (.seq (.regionK false [
  (⟨some 1, .box (.t 0), none, []⟩, [0]),
  (⟨some 2, .move (.c (.p (.bool false))), none, []⟩, [2])])
  (.seq (.seq (.regionK false [
  (⟨some 11, .load (some 8) (.t 1), none, []⟩, []),
  (⟨some 12, .call false 20 [.t 11], none, []⟩, [11]),
  (⟨some 13, .un .not (.t 12), none, []⟩, [12])])
  (.cond (.t 13)
  (.seq (.regionK false [
    (⟨some 14, .call false 21 [], none, []⟩, [13]),
    (⟨some 2, .move (.t 14), none, []⟩, [14])])
    .ret)
  .skip))
  (.seq (.regionK false [
  (⟨some 16, .fieldAddr 0 (.t 1), none, []⟩, [13]),
  (⟨some 17, .load (some 4) (.t 16), none, []⟩, [16]),
  (⟨some 18, .fieldAddr 4 (.t 1), none, []⟩, []),
  (⟨some 19, .load none (.t 18), none, []⟩, [18]),
  (⟨some 20, .fieldAddr 5 (.t 1), none, []⟩, []),
  (⟨some 21, .load none (.t 20), none, []⟩, [20]),
  (⟨some 22, .fieldAddr 6 (.t 1), none, []⟩, []),
  (⟨some 23, .load none (.t 22), none, []⟩, [22]),
  (⟨some 24, .fieldAddr 7 (.t 1), none, []⟩, []),
  (⟨some 25, .load none (.t 24), none, []⟩, [24]),
  (⟨some 26, .call false 22 [.t 17, .t 19, .t 21, .t 23, .t 25], none, []⟩, [17, 19, 21, 23, 25]),
  (⟨some 15, .move (.t 26), none, []⟩, [26]),
  (⟨some 27, .extract (.t 15) 0, none, []⟩, []),
  (⟨some 28, .extract (.t 15) 1, none, []⟩, []),
  (⟨some 29, .extract (.t 15) 2, none, []⟩, []),
  (⟨some 30, .extract (.t 15) 3, none, []⟩, [15]),
  (⟨some 3, .move (.t 27), none, []⟩, [27]),
  (⟨some 4, .move (.t 28), none, []⟩, [28]),
  (⟨some 5, .move (.t 29), none, []⟩, [29]),
  (⟨some 6, .move (.t 30), none, []⟩, [30])])
  (.seq (.regionK false [
  (⟨some 32, .fieldAddr 0 (.t 1), none, []⟩, []),
  (⟨some 33, .load (some 4) (.t 32), none, []⟩, [32]),
  (⟨some 34, .fieldAddr 4 (.t 1), none, []⟩, []),
  (⟨some 35, .load none (.t 34), none, []⟩, [34]),
  (⟨some 36, .fieldAddr 5 (.t 1), none, []⟩, []),
  (⟨some 37, .load none (.t 36), none, []⟩, [36]),
  (⟨some 38, .fieldAddr 6 (.t 1), none, []⟩, []),
  (⟨some 39, .load none (.t 38), none, []⟩, [38]),
  (⟨some 40, .fieldAddr 7 (.t 1), none, []⟩, []),
  (⟨some 41, .load none (.t 40), none, []⟩, [40]),
  (⟨some 42, .call false 29 [.t 33, .t 35, .t 37, .t 39, .t 41], none, []⟩, [33, 35, 37, 39, 41]),
  (⟨some 31, .move (.t 42), none, []⟩, [42]),
  (⟨some 43, .extract (.t 31) 0, none, []⟩, []),
  (⟨some 44, .extract (.t 31) 1, none, []⟩, []),
  (⟨some 45, .extract (.t 31) 2, none, []⟩, []),
  (⟨some 46, .extract (.t 31) 3, none, []⟩, [31]),
  (⟨some 7, .move (.t 43), none, []⟩, [43]),
  (⟨some 8, .move (.t 44), none, []⟩, [44]),
  (⟨some 9, .move (.t 45), none, []⟩, [45]),
  (⟨some 10, .move (.t 46), none, []⟩, [46])])
  (.seq (.regionK false [
  (⟨some 47, .move (.t 3), none, []⟩, [3]),
  (⟨some 48, .move (.t 7), none, []⟩, [7]),
  (⟨some 49, .call false 30 [.t 47, .t 48], none, []⟩, [47, 48]),
  (⟨some 50, .move (.t 49), none, []⟩, [49]),
  (⟨some 51, .move (.t 4), some (50, true), []⟩, [4]),
  (⟨some 52, .move (.t 8), some (50, true), []⟩, [8]),
  (⟨some 53, .call false 30 [.t 51, .t 52], some (50, true), []⟩, [51, 52]),
  (⟨some 54, .pick (.t 50) (.t 53) (.c (.p (.bool false))), none, []⟩, [50, 53]),
  (⟨some 55, .move (.t 54), none, []⟩, [54]),
  (⟨some 56, .move (.t 5), some (55, true), []⟩, [5]),
  (⟨some 57, .move (.t 9), some (55, true), []⟩, [9]),
  (⟨some 58, .call false 30 [.t 56, .t 57], some (55, true), []⟩, [56, 57]),
  (⟨some 59, .pick (.t 55) (.t 58) (.c (.p (.bool false))), none, []⟩, [55, 58]),
  (⟨some 60, .move (.t 59), none, []⟩, [59]),
  (⟨some 61, .move (.t 6), some (60, true), []⟩, [6]),
  (⟨some 62, .move (.t 10), some (60, true), []⟩, [10]),
  (⟨some 63, .bin .eql (.t 61) (.t 62), some (60, true), []⟩, [61, 62]),
  (⟨some 64, .pick (.t 60) (.t 63) (.c (.p (.bool false))), none, []⟩, [60, 63]),
  (⟨some 65, .move (.t 64), none, []⟩, [64]),
  (⟨some 66, .call false 21 [], some (65, true), []⟩, []),
  (⟨some 67, .pick (.t 65) (.t 66) (.c (.p (.bool false))), none, []⟩, [65, 66]),
  (⟨some 2, .move (.t 67), none, []⟩, [67])])
  .ret)))))⟩

/-- clockwork/clockworklaw38.AdmitLimits -/
@[irreducible] def a7_l0 : ACode :=
  (.seq (.seq (.regionK false [
  (⟨some 112, .move (.t 11), none, []⟩, []),
  (⟨some 113, .fieldAddr 4 (.t 1), none, []⟩, []),
  (⟨some 114, .load none (.t 113), none, []⟩, [113]),
  (⟨some 115, .len (.t 114), none, []⟩, [114]),
  (⟨some 116, .bin .lss (.t 112) (.t 115), none, []⟩, [112, 115])])
  (.cond (.t 116)
  .skip
  (.ghost (.forget [7, 11, 116]) (.ghost (.free [1]) (.ghost .lower (.exit 4))))))
  (.seq (.block 5
  (.seq (.regionK true [
    (⟨some 119, .move (.t 7), none, []⟩, [116]),
    (⟨some 120, .fieldAddr 4 (.t 1), none, []⟩, []),
    (⟨some 121, .load none (.t 120), none, [1]⟩, [120]),
    (⟨some 122, .move (.t 11), none, []⟩, []),
    (⟨some 123, .indexAddr 1 (.t 121) (.t 122), none, [1, 2, 3]⟩, [121, 122]),
    (⟨some 124, .load none (.t 123), none, [1, 2, 3, 4]⟩, [123]),
    (⟨some 125, .call false 31 [.t 119, .t 124], none, [0, 1, 2, 3, 4, 5]⟩, [119, 124]),
    (⟨some 126, .fieldAddr 0 (.t 1), none, []⟩, []),
    (⟨some 127, .fieldAddr 2 (.t 126), none, [7]⟩, [126]),
    (⟨some 128, .load none (.t 127), none, [7, 8]⟩, [127]),
    (⟨some 129, .bin .gtr (.t 125) (.t 128), none, [0, 1, 2, 3, 4, 5, 6, 7, 8, 9]⟩, [125, 128])])
    (.cond (.t 129)
    (.seq (.regionK false [
      (⟨some 2, .move (.c (.p (.bool false))), none, []⟩, [7, 11, 129])])
      .ret)
    .skip)))
  (.regionK false [
  (⟨some 117, .move (.t 11), none, []⟩, [129]),
  (⟨some 118, .bin .add (.t 117) (.c (.p (.int .i64 1))), none, []⟩, [117]),
  (⟨some 11, .move (.t 118), none, []⟩, [118])])))

@[irreducible] def a7_l1 : ACode :=
  (.seq (.seq (.regionK false [
  (⟨some 81, .move (.t 10), none, []⟩, []),
  (⟨some 82, .move (.t 8), none, []⟩, []),
  (⟨some 83, .bin .leq (.t 81) (.t 82), none, []⟩, [81, 82])])
  (.cond (.t 83)
  .skip
  (.ghost (.forget [10, 83]) (.ghost .lower (.exit 2)))))
  (.seq (.block 3
  (.seq (.regionK true [
    (⟨some 86, .fieldAddr 5 (.t 1), none, []⟩, [83]),
    (⟨some 87, .load none (.t 86), none, [0]⟩, [86]),
    (⟨some 88, .move (.t 3), none, []⟩, []),
    (⟨some 89, .move (.t 10), none, []⟩, []),
    (⟨some 90, .indexAddr 1 (.t 88) (.t 89), none, [2, 3]⟩, [88, 89]),
    (⟨some 91, .load none (.t 90), none, [2, 3, 4]⟩, [90]),
    (⟨some 92, .indexAddr 8 (.t 87) (.t 91), none, [0, 1, 2, 3, 4, 5]⟩, [87, 91]),
    (⟨some 93, .fieldAddr 0 (.t 92), none, [0, 1, 2, 3, 4, 5, 6]⟩, [92]),
    (⟨some 94, .load none (.t 93), none, [0, 1, 2, 3, 4, 5, 6, 7]⟩, [93]),
    (⟨some 95, .fieldAddr 5 (.t 1), none, []⟩, []),
    (⟨some 96, .load none (.t 95), none, [9]⟩, [95]),
    (⟨some 97, .move (.t 3), none, []⟩, []),
    (⟨some 98, .move (.t 8), none, []⟩, []),
    (⟨some 99, .indexAddr 1 (.t 97) (.t 98), none, [11, 12]⟩, [97, 98]),
    (⟨some 100, .load none (.t 99), none, [11, 12, 13]⟩, [99]),
    (⟨some 101, .indexAddr 8 (.t 96) (.t 100), none, [9, 10, 11, 12, 13, 14]⟩, [96, 100]),
    (⟨some 102, .fieldAddr 0 (.t 101), none, [9, 10, 11, 12, 13, 14, 15]⟩, [101]),
    (⟨some 103, .load none (.t 102), none, [9, 10, 11, 12, 13, 14, 15, 16]⟩, [102]),
    (⟨some 104, .bin .eql (.t 94) (.t 103), none, [0, 1, 2, 3, 4, 5, 6, 7, 8, 9, 10, 11, 12, 13, 14, 15, 16, 17]⟩, [94, 103])])
    (.cond (.t 104)
    (.regionK false [
      (⟨some 105, .move (.t 9), none, []⟩, [104]),
      (⟨some 106, .bin .add (.t 105) (.c (.p (.int .i64 1))), none, []⟩, [105]),
      (⟨some 9, .move (.t 106), none, []⟩, [106])])
    .skip)))
  (.regionK false [
  (⟨some 84, .move (.t 10), none, []⟩, [104]),
  (⟨some 85, .bin .add (.t 84) (.c (.p (.int .i64 1))), none, []⟩, [84]),
  (⟨some 10, .move (.t 85), none, []⟩, [85])])))

@[irreducible] def a7_l2 : ACode :=
  (.seq (.seq (.regionK false [
  (⟨some 49, .move (.t 8), none, []⟩, []),
  (⟨some 50, .move (.t 3), none, []⟩, []),
  (⟨some 51, .len (.t 50), none, []⟩, [50]),
  (⟨some 52, .bin .lss (.t 49) (.t 51), none, []⟩, [49, 51])])
  (.cond (.t 52)
  .skip
  (.ghost (.forget [3, 8, 52]) (.ghost .lower (.exit 0)))))
  (.seq (.block 1
  (.seq (.seq (.regionK true [
    (⟨some 55, .move (.t 3), none, []⟩, [52]),
    (⟨some 56, .move (.t 8), none, []⟩, []),
    (⟨some 57, .indexAddr 1 (.t 55) (.t 56), none, [0, 1]⟩, [55, 56]),
    (⟨some 58, .load none (.t 57), none, [0, 1, 2]⟩, [57]),
    (⟨some 59, .bin .lss (.t 58) (.c (.p (.int .i64 0))), none, [0, 1, 2, 3]⟩, [58]),
    (⟨some 60, .move (.t 59), none, [0, 1, 2, 3, 4]⟩, [59]),
    (⟨some 61, .move (.t 3), some (60, false), [0, 1, 2, 3, 4, 5]⟩, []),
    (⟨some 62, .move (.t 8), some (60, false), [0, 1, 2, 3, 4, 5]⟩, []),
    (⟨some 63, .indexAddr 1 (.t 61) (.t 62), some (60, false), [0, 1, 2, 3, 4, 5, 6, 7]⟩, [61, 62]),
    (⟨some 64, .load none (.t 63), some (60, false), [0, 1, 2, 3, 4, 5, 6, 7, 8]⟩, [63]),
    (⟨some 65, .fieldAddr 5 (.t 1), some (60, false), [0, 1, 2, 3, 4, 5]⟩, []),
    (⟨some 66, .load none (.t 65), some (60, false), [0, 1, 2, 3, 4, 5, 10]⟩, [65]),
    (⟨some 67, .len (.t 66), some (60, false), [0, 1, 2, 3, 4, 5, 10, 11]⟩, [66]),
    (⟨some 68, .bin .geq (.t 64) (.t 67), some (60, false), [0, 1, 2, 3, 4, 5, 6, 7, 8, 9, 10, 11, 12]⟩, [64, 67]),
    (⟨some 69, .pick (.t 60) (.c (.p (.bool true))) (.t 68), none, [0, 1, 2, 3, 4, 5, 6, 7, 8, 9, 10, 11, 12, 13]⟩, [60, 68])])
    (.cond (.t 69)
    (.seq (.regionK false [
      (⟨some 2, .move (.c (.p (.bool false))), none, []⟩, [3, 7, 8, 69])])
      .ret)
    .skip))
    (.seq (.regionK true [
    (⟨some 70, .move (.t 7), none, []⟩, [69]),
    (⟨some 71, .fieldAddr 6 (.t 1), none, []⟩, []),
    (⟨some 72, .load none (.t 71), none, [1]⟩, [71]),
    (⟨some 73, .move (.t 3), none, []⟩, []),
    (⟨some 74, .move (.t 8), none, []⟩, []),
    (⟨some 75, .indexAddr 1 (.t 73) (.t 74), none, [3, 4]⟩, [73, 74]),
    (⟨some 76, .load none (.t 75), none, [3, 4, 5]⟩, [75]),
    (⟨some 77, .indexAddr 3 (.t 72) (.t 76), none, [1, 2, 3, 4, 5, 6]⟩, [72, 76]),
    (⟨some 78, .load (some 3) (.t 77), none, [1, 2, 3, 4, 5, 6, 7]⟩, [77]),
    (⟨some 79, .buildSlice [.bool false, .slice true [], .slice true []] 1 [(0, .t 78)], none, [1, 2, 3, 4, 5, 6, 7, 8]⟩, [78]),
    (⟨some 80, .append 56 3 (.t 70) (.t 79), none, [0, 1, 2, 3, 4, 5, 6, 7, 8, 9]⟩, [70, 79]),
    (⟨some 7, .move (.t 80), none, [0, 1, 2, 3, 4, 5, 6, 7, 8, 9, 10]⟩, [80])])
    (.seq (.regionK false [
    (⟨some 9, .move (.c (.p (.int .i64 0))), none, []⟩, [])])
    (.seq (.seq (.regionK false [
    (⟨some 10, .move (.c (.p (.int .i64 0))), none, []⟩, [])])
    (.block 2
    (.loop
      (.ghost .lower a7_l1))))
    (.seq (.regionK false [
    (⟨some 107, .move (.t 9), none, []⟩, [9]),
    (⟨some 108, .fieldAddr 0 (.t 1), none, []⟩, []),
    (⟨some 109, .fieldAddr 1 (.t 108), none, []⟩, [108]),
    (⟨some 110, .load none (.t 109), none, []⟩, [109]),
    (⟨some 111, .bin .gtr (.t 107) (.t 110), none, []⟩, [107, 110])])
    (.cond (.t 111)
    (.seq (.regionK false [
      (⟨some 2, .move (.c (.p (.bool false))), none, []⟩, [3, 7, 8, 111])])
      .ret)
    .skip)))))))
  (.regionK false [
  (⟨some 53, .move (.t 8), none, []⟩, [111]),
  (⟨some 54, .bin .add (.t 53) (.c (.p (.int .i64 1))), none, []⟩, [53]),
  (⟨some 8, .move (.t 54), none, []⟩, [54])])))

def a7 : AFunc := ⟨131, 1, [.tmp 2],
  (.seq (.regionK false [
  (⟨some 1, .box (.t 0), none, []⟩, [0]),
  (⟨some 2, .move (.c (.p (.bool false))), none, []⟩, [2])])
  (.seq (.seq (.regionK false [
  (⟨some 12, .load (some 8) (.t 1), none, []⟩, []),
  (⟨some 13, .call false 20 [.t 12], none, []⟩, [12]),
  (⟨some 14, .un .not (.t 13), none, []⟩, [13])])
  (.cond (.t 14)
  (.seq (.regionK false [
    (⟨some 15, .call false 21 [], none, []⟩, [14]),
    (⟨some 2, .move (.t 15), none, []⟩, [15])])
    .ret)
  .skip))
  (.seq (.regionK false [
  (⟨some 17, .fieldAddr 0 (.t 1), none, []⟩, [14]),
  (⟨some 18, .load (some 4) (.t 17), none, []⟩, [17]),
  (⟨some 19, .fieldAddr 4 (.t 1), none, []⟩, []),
  (⟨some 20, .load none (.t 19), none, []⟩, [19]),
  (⟨some 21, .fieldAddr 5 (.t 1), none, []⟩, []),
  (⟨some 22, .load none (.t 21), none, []⟩, [21]),
  (⟨some 23, .fieldAddr 6 (.t 1), none, []⟩, []),
  (⟨some 24, .load none (.t 23), none, []⟩, [23]),
  (⟨some 25, .fieldAddr 7 (.t 1), none, []⟩, []),
  (⟨some 26, .load none (.t 25), none, []⟩, [25]),
  (⟨some 27, .call false 22 [.t 18, .t 20, .t 22, .t 24, .t 26], none, []⟩, [18, 20, 22, 24, 26]),
  (⟨some 16, .move (.t 27), none, []⟩, [27]),
  (⟨some 28, .extract (.t 16) 0, none, []⟩, []),
  (⟨some 29, .extract (.t 16) 1, none, []⟩, []),
  (⟨some 30, .extract (.t 16) 2, none, []⟩, []),
  (⟨some 31, .extract (.t 16) 3, none, []⟩, [16]),
  (⟨some 3, .move (.t 28), none, []⟩, [28]),
  (⟨some 4, .move (.t 29), none, []⟩, [29]),
  (⟨some 5, .move (.t 30), none, []⟩, [5, 30]),
  (⟨some 6, .move (.t 31), none, []⟩, [31])])
  (.seq (.seq (.regionK false [
  (⟨some 32, .move (.t 6), none, []⟩, [6]),
  (⟨some 33, .bin .neq (.t 32) (.c (.p (.int .i64 0))), none, []⟩, [32])])
  (.cond (.t 33)
  (.seq (.regionK false [
    (⟨some 34, .call false 21 [], none, []⟩, [3, 4, 33]),
    (⟨some 2, .move (.t 34), none, []⟩, [34])])
    .ret)
  .skip))
  (.seq (.seq (.regionK false [
  (⟨some 35, .move (.t 3), none, []⟩, [33]),
  (⟨some 36, .len (.t 35), none, []⟩, [35]),
  (⟨some 37, .fieldAddr 0 (.t 1), none, []⟩, []),
  (⟨some 38, .fieldAddr 0 (.t 37), none, []⟩, [37]),
  (⟨some 39, .load none (.t 38), none, []⟩, [38]),
  (⟨some 40, .bin .gtr (.t 36) (.t 39), none, []⟩, [36, 39]),
  (⟨some 41, .move (.t 40), none, []⟩, [40]),
  (⟨some 42, .move (.t 4), some (41, false), []⟩, [4]),
  (⟨some 43, .len (.t 42), some (41, false), []⟩, [42]),
  (⟨some 44, .fieldAddr 0 (.t 1), some (41, false), []⟩, []),
  (⟨some 45, .fieldAddr 3 (.t 44), some (41, false), []⟩, [44]),
  (⟨some 46, .load none (.t 45), some (41, false), []⟩, [45]),
  (⟨some 47, .bin .gtr (.t 43) (.t 46), some (41, false), []⟩, [43, 46]),
  (⟨some 48, .pick (.t 41) (.c (.p (.bool true))) (.t 47), none, []⟩, [41, 47])])
  (.cond (.t 48)
  (.seq (.regionK false [
    (⟨some 2, .move (.c (.p (.bool false))), none, []⟩, [3, 48])])
    .ret)
  .skip))
  (.seq (.regionK false [
  (⟨some 7, .move (.c (.p (.slice true []))), none, []⟩, [48])])
  (.ghost (.own 3 7) (.seq (.seq (.regionK false [
  (⟨some 8, .move (.c (.p (.int .i64 0))), none, []⟩, [])])
  (.block 0
  (.loop
    (.ghost .lower a7_l2))))
  (.seq (.seq (.regionK false [
  (⟨some 11, .move (.c (.p (.int .i64 0))), none, []⟩, [])])
  (.block 4
  (.loop
    (.ghost .lower a7_l0))))
  (.seq (.regionK false [
  (⟨some 130, .call false 21 [], none, []⟩, []),
  (⟨some 2, .move (.t 130), none, []⟩, [130])])
  .ret))))))))))⟩

/-- clockwork/clockworklaw38.AdmitPrefix -/
def a8 : AFunc := ⟨106, 2, [.tmp 4],
  (.seq (.regionK false [
  (⟨some 2, .box (.t 0), none, []⟩, [0]),
  (⟨some 4, .move (.c (.p (.bool false))), none, []⟩, [4])])
  (.seq (.seq (.regionK false [
  (⟨some 13, .load (some 8) (.t 2), none, []⟩, []),
  (⟨some 14, .call false 20 [.t 13], none, []⟩, [13]),
  (⟨some 15, .un .not (.t 14), none, []⟩, [14]),
  (⟨some 16, .move (.t 15), none, []⟩, [15]),
  (⟨some 17, .move (.t 1), some (16, false), []⟩, []),
  (⟨some 18, .fieldAddr 7 (.t 2), some (16, false), []⟩, []),
  (⟨some 19, .load none (.t 18), some (16, false), []⟩, [18]),
  (⟨some 20, .bin .lss (.t 17) (.t 19), some (16, false), []⟩, [17, 19]),
  (⟨some 21, .pick (.t 16) (.c (.p (.bool true))) (.t 20), none, []⟩, [16, 20]),
  (⟨some 22, .move (.t 21), none, []⟩, [21]),
  (⟨some 23, .move (.t 1), some (22, false), []⟩, []),
  (⟨some 24, .fieldAddr 5 (.t 2), some (22, false), []⟩, []),
  (⟨some 25, .load none (.t 24), some (22, false), []⟩, [24]),
  (⟨some 26, .len (.t 25), some (22, false), []⟩, [25]),
  (⟨some 27, .bin .gtr (.t 23) (.t 26), some (22, false), []⟩, [23, 26]),
  (⟨some 28, .pick (.t 22) (.c (.p (.bool true))) (.t 27), none, []⟩, [22, 27]),
  (⟨some 29, .move (.t 28), none, []⟩, [28]),
  (⟨some 30, .move (.t 1), some (29, false), []⟩, []),
  (⟨some 31, .bin .lss (.t 30) (.c (.p (.int .i64 0))), some (29, false), []⟩, [30]),
  (⟨some 32, .pick (.t 29) (.c (.p (.bool true))) (.t 31), none, []⟩, [29, 31]),
  (⟨some 33, .move (.t 32), none, []⟩, [32]),
  (⟨some 34, .fieldAddr 6 (.t 2), some (33, false), []⟩, []),
  (⟨some 35, .load none (.t 34), some (33, false), []⟩, [34]),
  (⟨some 36, .len (.t 35), some (33, false), []⟩, [35]),
  (⟨some 37, .fieldAddr 5 (.t 2), some (33, false), []⟩, []),
  (⟨some 38, .load none (.t 37), some (33, false), []⟩, [37]),
  (⟨some 39, .len (.t 38), some (33, false), []⟩, [38]),
  (⟨some 40, .bin .neq (.t 36) (.t 39), some (33, false), []⟩, [36, 39]),
  (⟨some 41, .pick (.t 33) (.c (.p (.bool true))) (.t 40), none, []⟩, [33, 40])])
  (.cond (.t 41)
  (.seq (.regionK false [
    (⟨some 42, .call false 21 [], none, []⟩, [1, 41]),
    (⟨some 4, .move (.t 42), none, []⟩, [42])])
    .ret)
  .skip))
  (.seq (.regionK false [
  (⟨some 44, .fieldAddr 0 (.t 2), none, []⟩, [41]),
  (⟨some 45, .load (some 4) (.t 44), none, []⟩, [44]),
  (⟨some 46, .fieldAddr 4 (.t 2), none, []⟩, []),
  (⟨some 47, .load none (.t 46), none, []⟩, [46]),
  (⟨some 48, .fieldAddr 5 (.t 2), none, []⟩, []),
  (⟨some 49, .load none (.t 48), none, []⟩, [48]),
  (⟨some 50, .fieldAddr 6 (.t 2), none, []⟩, []),
  (⟨some 51, .load none (.t 50), none, []⟩, [50]),
  (⟨some 52, .fieldAddr 7 (.t 2), none, []⟩, []),
  (⟨some 53, .load none (.t 52), none, []⟩, [52]),
  (⟨some 54, .call false 22 [.t 45, .t 47, .t 49, .t 51, .t 53], none, []⟩, [45, 47, 49, 51, 53]),
  (⟨some 43, .move (.t 54), none, []⟩, [54]),
  (⟨some 55, .extract (.t 43) 0, none, []⟩, []),
  (⟨some 56, .extract (.t 43) 1, none, []⟩, []),
  (⟨some 57, .extract (.t 43) 2, none, []⟩, []),
  (⟨some 58, .extract (.t 43) 3, none, []⟩, [43]),
  (⟨some 5, .move (.t 55), none, []⟩, [55]),
  (⟨some 6, .move (.t 56), none, []⟩, [56]),
  (⟨some 7, .move (.t 57), none, []⟩, [57]),
  (⟨some 8, .move (.t 58), none, []⟩, [58])])
  (.seq (.regionK true [
  (⟨some 60, .fieldAddr 0 (.t 2), none, []⟩, []),
  (⟨some 61, .load (some 4) (.t 60), none, [0]⟩, [60]),
  (⟨some 62, .fieldAddr 4 (.t 2), none, []⟩, []),
  (⟨some 63, .load none (.t 62), none, [2]⟩, [62]),
  (⟨some 64, .fieldAddr 5 (.t 2), none, []⟩, []),
  (⟨some 65, .load none (.t 64), none, [4]⟩, [64]),
  (⟨some 66, .move (.t 1), none, []⟩, []),
  (⟨some 67, .slice 8 (.t 65) none (some (.t 66)) none, none, [4, 5, 6]⟩, [65, 66]),
  (⟨some 68, .fieldAddr 6 (.t 2), none, []⟩, []),
  (⟨some 69, .load none (.t 68), none, [8]⟩, [68]),
  (⟨some 70, .move (.t 1), none, []⟩, []),
  (⟨some 71, .slice 3 (.t 69) none (some (.t 70)) none, none, [8, 9, 10]⟩, [69, 70]),
  (⟨some 72, .fieldAddr 7 (.t 2), none, []⟩, []),
  (⟨some 73, .load none (.t 72), none, [12]⟩, [72]),
  (⟨some 74, .call false 22 [.t 61, .t 63, .t 67, .t 71, .t 73], none, [0, 1, 2, 3, 4, 5, 6, 7, 8, 9, 10, 11, 12, 13]⟩, [61, 63, 67, 71, 73]),
  (⟨some 59, .move (.t 74), none, [0, 1, 2, 3, 4, 5, 6, 7, 8, 9, 10, 11, 12, 13, 14]⟩, [74]),
  (⟨some 75, .extract (.t 59) 0, none, [0, 1, 2, 3, 4, 5, 6, 7, 8, 9, 10, 11, 12, 13, 14, 15]⟩, []),
  (⟨some 76, .extract (.t 59) 1, none, [0, 1, 2, 3, 4, 5, 6, 7, 8, 9, 10, 11, 12, 13, 14, 15]⟩, []),
  (⟨some 77, .extract (.t 59) 2, none, [0, 1, 2, 3, 4, 5, 6, 7, 8, 9, 10, 11, 12, 13, 14, 15]⟩, []),
  (⟨some 78, .extract (.t 59) 3, none, [0, 1, 2, 3, 4, 5, 6, 7, 8, 9, 10, 11, 12, 13, 14, 15]⟩, [59]),
  (⟨some 9, .move (.t 75), none, [0, 1, 2, 3, 4, 5, 6, 7, 8, 9, 10, 11, 12, 13, 14, 15, 16]⟩, [75]),
  (⟨some 10, .move (.t 76), none, [0, 1, 2, 3, 4, 5, 6, 7, 8, 9, 10, 11, 12, 13, 14, 15, 16, 17, 20]⟩, [76]),
  (⟨some 11, .move (.t 77), none, [0, 1, 2, 3, 4, 5, 6, 7, 8, 9, 10, 11, 12, 13, 14, 15, 16, 17, 18, 20, 21]⟩, [77]),
  (⟨some 12, .move (.t 78), none, [0, 1, 2, 3, 4, 5, 6, 7, 8, 9, 10, 11, 12, 13, 14, 15, 16, 17, 18, 19, 20, 21, 22]⟩, [78])])
  (.seq (.regionK false [
  (⟨some 79, .move (.t 8), none, []⟩, [8]),
  (⟨some 80, .move (.t 12), none, []⟩, [12]),
  (⟨some 81, .bin .eql (.t 79) (.t 80), none, []⟩, [79, 80]),
  (⟨some 82, .move (.t 81), none, []⟩, [81]),
  (⟨some 83, .move (.t 5), some (82, true), []⟩, [5]),
  (⟨some 84, .move (.t 1), some (82, true), []⟩, []),
  (⟨some 85, .call false 32 [.t 83, .t 84], some (82, true), []⟩, [83, 84]),
  (⟨some 86, .move (.t 9), some (82, true), []⟩, [9]),
  (⟨some 87, .call false 30 [.t 85, .t 86], some (82, true), []⟩, [85, 86]),
  (⟨some 88, .pick (.t 82) (.t 87) (.c (.p (.bool false))), none, []⟩, [82, 87]),
  (⟨some 89, .move (.t 88), none, []⟩, [88]),
  (⟨some 90, .move (.t 6), some (89, true), []⟩, [6]),
  (⟨some 91, .move (.t 1), some (89, true), []⟩, []),
  (⟨some 92, .call false 32 [.t 90, .t 91], some (89, true), []⟩, [90, 91]),
  (⟨some 93, .move (.t 10), some (89, true), []⟩, [10]),
  (⟨some 94, .call false 30 [.t 92, .t 93], some (89, true), []⟩, [92, 93]),
  (⟨some 95, .pick (.t 89) (.t 94) (.c (.p (.bool false))), none, []⟩, [89, 94]),
  (⟨some 96, .move (.t 95), none, []⟩, [95]),
  (⟨some 97, .move (.t 7), some (96, true), []⟩, [7]),
  (⟨some 98, .move (.t 1), some (96, true), []⟩, [1]),
  (⟨some 99, .call false 32 [.t 97, .t 98], some (96, true), []⟩, [97, 98]),
  (⟨some 100, .move (.t 11), some (96, true), []⟩, [11]),
  (⟨some 101, .call false 30 [.t 99, .t 100], some (96, true), []⟩, [99, 100]),
  (⟨some 102, .pick (.t 96) (.t 101) (.c (.p (.bool false))), none, []⟩, [96, 101]),
  (⟨some 103, .move (.t 102), none, []⟩, [102]),
  (⟨some 104, .call false 21 [], some (103, true), []⟩, []),
  (⟨some 105, .pick (.t 103) (.t 104) (.c (.p (.bool false))), none, []⟩, [103, 104]),
  (⟨some 4, .move (.t 105), none, []⟩, [105])])
  .ret)))))⟩

/-- clockwork/clockworklaw19.FootprintCovers -/
def a9 : AFunc := ⟨42, 3, [.tmp 6],
  (.seq (.regionK false [
  (⟨some 3, .box (.t 0), none, []⟩, [0]),
  (⟨some 4, .box (.t 1), none, []⟩, [1]),
  (⟨some 5, .box (.t 2), none, []⟩, [2]),
  (⟨some 6, .move (.c (.p (.bool false))), none, []⟩, [6])])
  (.seq (.seq (.regionK false [
  (⟨some 7, .load (some 3) (.t 3), none, []⟩, []),
  (⟨some 8, .load (some 3) (.t 4), none, []⟩, []),
  (⟨some 9, .load (some 3) (.t 5), none, []⟩, []),
  (⟨some 10, .buildSlice [.bool false, .slice true [], .slice true []] 3 [(0, .t 7), (1, .t 8), (2, .t 9)], none, []⟩, [7, 8, 9]),
  (⟨some 11, .call false 15 [.t 10], none, []⟩, [10]),
  (⟨some 12, .un .not (.t 11), none, []⟩, [11])])
  (.cond (.t 12)
  (.seq (.regionK false [
    (⟨some 13, .call false 16 [], none, []⟩, [12]),
    (⟨some 6, .move (.t 13), none, []⟩, [13])])
    .ret)
  .skip))
  (.seq (.seq (.regionK false [
  (⟨some 14, .load (some 3) (.t 3), none, []⟩, [12]),
  (⟨some 15, .load (some 3) (.t 4), none, []⟩, []),
  (⟨some 16, .call false 33 [.t 14, .t 15], none, []⟩, [14, 15]),
  (⟨some 17, .un .not (.t 16), none, []⟩, [16])])
  (.cond (.t 17)
  (.seq (.regionK false [
    (⟨some 18, .call false 16 [], none, []⟩, [17]),
    (⟨some 6, .move (.t 18), none, []⟩, [18])])
    .ret)
  .skip))
  (.seq (.regionK false [
  (⟨some 19, .load (some 3) (.t 4), none, []⟩, [17]),
  (⟨some 20, .load (some 3) (.t 5), none, []⟩, []),
  (⟨some 21, .call false 34 [.t 19, .t 20], none, []⟩, [19, 20]),
  (⟨some 22, .un .not (.t 21), none, []⟩, [21]),
  (⟨some 23, .move (.t 22), none, []⟩, [22]),
  (⟨some 24, .load (some 3) (.t 3), some (23, false), []⟩, []),
  (⟨some 25, .load (some 3) (.t 5), some (23, false), []⟩, []),
  (⟨some 26, .call false 34 [.t 24, .t 25], some (23, false), []⟩, [24, 25]),
  (⟨some 27, .pick (.t 23) (.c (.p (.bool true))) (.t 26), none, []⟩, [23, 26]),
  (⟨some 28, .move (.t 27), none, []⟩, [27]),
  (⟨some 29, .load (some 3) (.t 4), some (28, true), []⟩, []),
  (⟨some 30, .load (some 3) (.t 5), some (28, true), []⟩, []),
  (⟨some 31, .call false 33 [.t 29, .t 30], some (28, true), []⟩, [29, 30]),
  (⟨some 32, .un .not (.t 31), some (28, true), []⟩, [31]),
  (⟨some 33, .move (.t 32), some (28, true), []⟩, [32]),
  (⟨some 34, .load (some 3) (.t 3), some (33, false), []⟩, []),
  (⟨some 35, .load (some 3) (.t 5), some (33, false), []⟩, []),
  (⟨some 36, .call false 33 [.t 34, .t 35], some (33, false), []⟩, [34, 35]),
  (⟨some 37, .pick (.t 33) (.c (.p (.bool true))) (.t 36), some (28, true), []⟩, [33, 36]),
  (⟨some 38, .pick (.t 28) (.t 37) (.c (.p (.bool false))), none, []⟩, [28, 37]),
  (⟨some 39, .move (.t 38), none, []⟩, [38]),
  (⟨some 40, .call false 16 [], some (39, true), []⟩, []),
  (⟨some 41, .pick (.t 39) (.t 40) (.c (.p (.bool false))), none, []⟩, [39, 40]),
  (⟨some 6, .move (.t 41), none, []⟩, [41])])
  .ret))))⟩

/-- clockwork/clockworklaw19.FootprintRelates -/
def a10 : AFunc := ⟨39, 2, [.tmp 4],
  (.seq (.regionK false [
  (⟨some 2, .box (.t 0), none, []⟩, [0]),
  (⟨some 3, .box (.t 1), none, []⟩, [1]),
  (⟨some 4, .move (.c (.p (.bool false))), none, []⟩, [4])])
  (.seq (.seq (.regionK false [
  (⟨some 6, .load (some 3) (.t 2), none, []⟩, []),
  (⟨some 7, .load (some 3) (.t 3), none, []⟩, []),
  (⟨some 8, .buildSlice [.bool false, .slice true [], .slice true []] 2 [(0, .t 6), (1, .t 7)], none, []⟩, [6, 7]),
  (⟨some 9, .call false 15 [.t 8], none, []⟩, [8]),
  (⟨some 10, .un .not (.t 9), none, []⟩, [9])])
  (.cond (.t 10)
  (.seq (.regionK false [
    (⟨some 11, .call false 16 [], none, []⟩, [10]),
    (⟨some 4, .move (.t 11), none, []⟩, [11])])
    .ret)
  .skip))
  (.seq (.regionK false [
  (⟨some 12, .load (some 3) (.t 2), none, []⟩, [10]),
  (⟨some 13, .load (some 3) (.t 3), none, []⟩, []),
  (⟨some 14, .call false 34 [.t 12, .t 13], none, []⟩, [12, 13]),
  (⟨some 5, .move (.t 14), none, []⟩, [14])])
  (.seq (.regionK true [
  (⟨some 15, .move (.t 5), none, []⟩, []),
  (⟨some 16, .load (some 3) (.t 2), none, []⟩, []),
  (⟨some 17, .load (some 3) (.t 3), none, []⟩, []),
  (⟨some 18, .call false 35 [.t 16, .t 17], none, [1, 2]⟩, [16, 17]),
  (⟨some 19, .eqb false (.t 15) (.t 18), none, [0, 1, 2, 3]⟩, [15, 18]),
  (⟨some 20, .move (.t 19), none, [0, 1, 2, 3, 4]⟩, [19]),
  (⟨some 21, .move (.t 5), some (20, true), [0, 1, 2, 3, 4, 5]⟩, [5]),
  (⟨some 22, .load (some 3) (.t 3), some (20, true), [0, 1, 2, 3, 4, 5]⟩, []),
  (⟨some 23, .load (some 3) (.t 2), some (20, true), [0, 1, 2, 3, 4, 5]⟩, []),
  (⟨some 24, .call false 34 [.t 22, .t 23], some (20, true), [0, 1, 2, 3, 4, 5, 7, 8]⟩, [22, 23]),
  (⟨some 25, .eqb false (.t 21) (.t 24), some (20, true), [0, 1, 2, 3, 4, 5, 6, 7, 8, 9]⟩, [21, 24]),
  (⟨some 26, .pick (.t 20) (.t 25) (.c (.p (.bool false))), none, [0, 1, 2, 3, 4, 5, 6, 7, 8, 9, 10]⟩, [20, 25]),
  (⟨some 27, .move (.t 26), none, [0, 1, 2, 3, 4, 5, 6, 7, 8, 9, 10, 11]⟩, [26]),
  (⟨some 28, .load (some 3) (.t 2), some (27, true), [0, 1, 2, 3, 4, 5, 6, 7, 8, 9, 10, 11, 12]⟩, []),
  (⟨some 29, .load (some 3) (.t 3), some (27, true), [0, 1, 2, 3, 4, 5, 6, 7, 8, 9, 10, 11, 12]⟩, []),
  (⟨some 30, .call false 33 [.t 28, .t 29], some (27, true), [0, 1, 2, 3, 4, 5, 6, 7, 8, 9, 10, 11, 12, 13, 14]⟩, [28, 29]),
  (⟨some 31, .load (some 3) (.t 2), some (27, true), [0, 1, 2, 3, 4, 5, 6, 7, 8, 9, 10, 11, 12]⟩, []),
  (⟨some 32, .load (some 3) (.t 3), some (27, true), [0, 1, 2, 3, 4, 5, 6, 7, 8, 9, 10, 11, 12]⟩, []),
  (⟨some 33, .call false 36 [.t 31, .t 32], some (27, true), [0, 1, 2, 3, 4, 5, 6, 7, 8, 9, 10, 11, 12, 13, 14, 15, 16, 17]⟩, [31, 32]),
  (⟨some 34, .eqb false (.t 30) (.t 33), some (27, true), [0, 1, 2, 3, 4, 5, 6, 7, 8, 9, 10, 11, 12, 13, 14, 15, 16, 17, 18]⟩, [30, 33]),
  (⟨some 35, .pick (.t 27) (.t 34) (.c (.p (.bool false))), none, [0, 1, 2, 3, 4, 5, 6, 7, 8, 9, 10, 11, 12, 13, 14, 15, 16, 17, 18, 19]⟩, [27, 34]),
  (⟨some 36, .move (.t 35), none, [0, 1, 2, 3, 4, 5, 6, 7, 8, 9, 10, 11, 12, 13, 14, 15, 16, 17, 18, 19, 20]⟩, [35]),
  (⟨some 37, .call false 16 [], some (36, true), [0, 1, 2, 3, 4, 5, 6, 7, 8, 9, 10, 11, 12, 13, 14, 15, 16, 17, 18, 19, 20, 21]⟩, []),
  (⟨some 38, .pick (.t 36) (.t 37) (.c (.p (.bool false))), none, [0, 1, 2, 3, 4, 5, 6, 7, 8, 9, 10, 11, 12, 13, 14, 15, 16, 17, 18, 19, 20, 21, 22]⟩, [36, 37]),
  (⟨some 4, .move (.t 38), none, [0, 1, 2, 3, 4, 5, 6, 7, 8, 9, 10, 11, 12, 13, 14, 15, 16, 17, 18, 19, 20, 21, 22, 23]⟩, [38])])
  .ret))))⟩

/-- clockwork/clockworklaw19.FootprintLeast -/
def a11 : AFunc := ⟨74, 3, [.tmp 6],
  (.seq (.regionK false [
  (⟨some 3, .box (.t 0), none, []⟩, [0]),
  (⟨some 4, .box (.t 1), none, []⟩, [1]),
  (⟨some 5, .box (.t 2), none, []⟩, [2]),
  (⟨some 6, .move (.c (.p (.bool false))), none, []⟩, [6])])
  (.seq (.seq (.regionK false [
  (⟨some 10, .load (some 3) (.t 3), none, []⟩, []),
  (⟨some 11, .load (some 3) (.t 4), none, []⟩, []),
  (⟨some 12, .load (some 3) (.t 5), none, []⟩, []),
  (⟨some 13, .buildSlice [.bool false, .slice true [], .slice true []] 3 [(0, .t 10), (1, .t 11), (2, .t 12)], none, []⟩, [10, 11, 12]),
  (⟨some 14, .call false 15 [.t 13], none, []⟩, [13]),
  (⟨some 15, .un .not (.t 14), none, []⟩, [14])])
  (.cond (.t 15)
  (.seq (.regionK false [
    (⟨some 16, .call false 16 [], none, []⟩, [15]),
    (⟨some 6, .move (.t 16), none, []⟩, [16])])
    .ret)
  .skip))
  (.seq (.regionK false [
  (⟨some 18, .load (some 3) (.t 3), none, []⟩, [15]),
  (⟨some 19, .load (some 3) (.t 4), none, []⟩, []),
  (⟨some 20, .call false 17 [.t 18, .t 19], none, []⟩, [18, 19]),
  (⟨some 17, .move (.t 20), none, []⟩, [20]),
  (⟨some 21, .extract (.t 17) 0, none, []⟩, []),
  (⟨some 22, .extract (.t 17) 1, none, []⟩, [17]),
  (⟨some 7, .alloc [.bool false, .slice true [], .slice true []], none, []⟩, []),
  (⟨none, .store 3 (.t 7) (.t 21), none, []⟩, [21]),
  (⟨some 8, .move (.t 22), none, []⟩, [22])])
  (.seq (.regionK false [
  (⟨some 23, .load (some 3) (.t 5), none, []⟩, []),
  (⟨some 24, .load (some 3) (.t 3), none, []⟩, []),
  (⟨some 25, .call false 33 [.t 23, .t 24], none, []⟩, [23, 24]),
  (⟨some 26, .move (.t 25), none, []⟩, [25]),
  (⟨some 27, .load (some 3) (.t 5), some (26, true), []⟩, []),
  (⟨some 28, .load (some 3) (.t 4), some (26, true), []⟩, []),
  (⟨some 29, .call false 33 [.t 27, .t 28], some (26, true), []⟩, [27, 28]),
  (⟨some 30, .pick (.t 26) (.t 29) (.c (.p (.bool false))), none, []⟩, [26, 29]),
  (⟨some 9, .move (.t 30), none, []⟩, [30])])
  (.seq (.seq (.regionK false [
  (⟨some 31, .move (.t 8), none, []⟩, []),
  (⟨some 32, .bin .neq (.t 31) (.c (.p (.int .i64 0))), none, []⟩, [31])])
  (.cond (.t 32)
  (.seq (.regionK false [
    (⟨some 33, .move (.t 8), none, []⟩, [32]),
    (⟨some 34, .bin .eql (.t 33) (.c (.p (.int .i64 1))), none, []⟩, [33]),
    (⟨some 35, .move (.t 34), none, []⟩, [34]),
    (⟨some 36, .move (.t 8), some (35, false), []⟩, [8]),
    (⟨some 37, .bin .eql (.t 36) (.c (.p (.int .i64 2))), some (35, false), []⟩, [36]),
    (⟨some 38, .pick (.t 35) (.c (.p (.bool true))) (.t 37), none, []⟩, [35, 37]),
    (⟨some 39, .move (.t 38), none, []⟩, [38]),
    (⟨some 40, .move (.t 9), some (39, true), []⟩, [9]),
    (⟨some 41, .un .not (.t 40), some (39, true), []⟩, [40]),
    (⟨some 42, .move (.t 41), some (39, true), []⟩, [41]),
    (⟨some 43, .fieldAddr 0 (.t 5), some (42, false), []⟩, []),
    (⟨some 44, .load none (.t 43), some (42, false), []⟩, [43]),
    (⟨some 45, .pick (.t 42) (.c (.p (.bool true))) (.t 44), some (39, true), []⟩, [42, 44]),
    (⟨some 46, .pick (.t 39) (.t 45) (.c (.p (.bool false))), none, []⟩, [39, 45]),
    (⟨some 47, .move (.t 46), none, []⟩, [46]),
    (⟨some 48, .call false 16 [], some (47, true), []⟩, []),
    (⟨some 49, .pick (.t 47) (.t 48) (.c (.p (.bool false))), none, []⟩, [47, 48]),
    (⟨some 6, .move (.t 49), none, []⟩, [49])])
    .ret)
  .skip))
  (.seq (.regionK false [
  (⟨some 50, .load (some 3) (.t 7), none, []⟩, [8, 32]),
  (⟨some 51, .call false 37 [.t 50], none, []⟩, [50]),
  (⟨some 52, .move (.t 51), none, []⟩, [51]),
  (⟨some 53, .load (some 3) (.t 7), some (52, true), []⟩, []),
  (⟨some 54, .load (some 3) (.t 3), some (52, true), []⟩, []),
  (⟨some 55, .call false 33 [.t 53, .t 54], some (52, true), []⟩, [53, 54]),
  (⟨some 56, .pick (.t 52) (.t 55) (.c (.p (.bool false))), none, []⟩, [52, 55]),
  (⟨some 57, .move (.t 56), none, []⟩, [56]),
  (⟨some 58, .load (some 3) (.t 7), some (57, true), []⟩, []),
  (⟨some 59, .load (some 3) (.t 4), some (57, true), []⟩, []),
  (⟨some 60, .call false 33 [.t 58, .t 59], some (57, true), []⟩, [58, 59]),
  (⟨some 61, .pick (.t 57) (.t 60) (.c (.p (.bool false))), none, []⟩, [57, 60]),
  (⟨some 62, .move (.t 61), none, []⟩, [61]),
  (⟨some 63, .move (.t 9), some (62, true), []⟩, [9]),
  (⟨some 64, .un .not (.t 63), some (62, true), []⟩, [63]),
  (⟨some 65, .move (.t 64), some (62, true), []⟩, [64]),
  (⟨some 66, .load (some 3) (.t 5), some (65, false), []⟩, []),
  (⟨some 67, .load (some 3) (.t 7), some (65, false), []⟩, []),
  (⟨some 68, .call false 33 [.t 66, .t 67], some (65, false), []⟩, [66, 67]),
  (⟨some 69, .pick (.t 65) (.c (.p (.bool true))) (.t 68), some (62, true), []⟩, [65, 68]),
  (⟨some 70, .pick (.t 62) (.t 69) (.c (.p (.bool false))), none, []⟩, [62, 69]),
  (⟨some 71, .move (.t 70), none, []⟩, [70]),
  (⟨some 72, .call false 16 [], some (71, true), []⟩, []),
  (⟨some 73, .pick (.t 71) (.t 72) (.c (.p (.bool false))), none, []⟩, [71, 72]),
  (⟨some 6, .move (.t 73), none, []⟩, [73])])
  .ret))))))⟩

/-- clockwork/clockworklaw19.FootprintForms -/
def a12 : AFunc := ⟨59, 2, [.tmp 4],
  (.seq (.regionK false [
  (⟨some 2, .box (.t 0), none, []⟩, [0]),
  (⟨some 3, .box (.t 1), none, []⟩, [1]),
  (⟨some 4, .move (.c (.p (.bool false))), none, []⟩, [4])])
  (.seq (.seq (.regionK false [
  (⟨some 9, .load (some 3) (.t 2), none, []⟩, []),
  (⟨some 10, .load (some 3) (.t 3), none, []⟩, []),
  (⟨some 11, .buildSlice [.bool false, .slice true [], .slice true []] 2 [(0, .t 9), (1, .t 10)], none, []⟩, [9, 10]),
  (⟨some 12, .call false 15 [.t 11], none, []⟩, [11]),
  (⟨some 13, .un .not (.t 12), none, []⟩, [12])])
  (.cond (.t 13)
  (.seq (.regionK false [
    (⟨some 14, .call false 16 [], none, []⟩, [13]),
    (⟨some 4, .move (.t 14), none, []⟩, [14])])
    .ret)
  .skip))
  (.seq (.regionK false [
  (⟨some 16, .load (some 3) (.t 2), none, []⟩, [13]),
  (⟨some 17, .call false 38 [.t 16], none, []⟩, [16]),
  (⟨some 15, .move (.t 17), none, []⟩, [17]),
  (⟨some 18, .extract (.t 15) 0, none, []⟩, []),
  (⟨some 19, .extract (.t 15) 1, none, []⟩, [15]),
  (⟨some 5, .alloc [.bool false, .slice true [], .slice true []], none, []⟩, []),
  (⟨none, .store 3 (.t 5) (.t 18), none, []⟩, [18]),
  (⟨some 6, .move (.t 19), none, []⟩, [19])])
  (.seq (.regionK false [
  (⟨some 21, .load (some 3) (.t 2), none, []⟩, []),
  (⟨some 22, .call false 39 [.t 21], none, []⟩, [21]),
  (⟨some 20, .move (.t 22), none, []⟩, [22]),
  (⟨some 23, .extract (.t 20) 0, none, []⟩, []),
  (⟨some 24, .extract (.t 20) 1, none, []⟩, [20]),
  (⟨some 7, .alloc [.bool false, .slice true [], .slice true []], none, []⟩, []),
  (⟨none, .store 3 (.t 7) (.t 23), none, []⟩, [23]),
  (⟨some 8, .move (.t 24), none, []⟩, [24])])
  (.seq (.regionK true [
  (⟨some 25, .load (some 3) (.t 2), none, []⟩, []),
  (⟨some 26, .call false 37 [.t 25], none, [0]⟩, [25]),
  (⟨some 27, .load (some 3) (.t 2), none, []⟩, []),
  (⟨some 28, .call false 40 [.t 27], none, [0, 1, 2]⟩, [27]),
  (⟨some 29, .eqb false (.t 26) (.t 28), none, [0, 1, 2, 3]⟩, [26, 28]),
  (⟨some 30, .move (.t 29), none, [0, 1, 2, 3, 4]⟩, [29]),
  (⟨some 31, .load (some 3) (.t 2), some (30, true), [0, 1, 2, 3, 4, 5]⟩, []),
  (⟨some 32, .load (some 3) (.t 3), some (30, true), [0, 1, 2, 3, 4, 5]⟩, []),
  (⟨some 33, .call false 41 [.t 31, .t 32], some (30, true), [0, 1, 2, 3, 4, 5, 6, 7]⟩, [31, 32]),
  (⟨some 34, .load (some 3) (.t 2), some (30, true), [0, 1, 2, 3, 4, 5]⟩, []),
  (⟨some 35, .load (some 3) (.t 3), some (30, true), [0, 1, 2, 3, 4, 5]⟩, []),
  (⟨some 36, .call false 19 [.t 34, .t 35], some (30, true), [0, 1, 2, 3, 4, 5, 6, 7, 8, 9, 10]⟩, [34, 35]),
  (⟨some 37, .eqb false (.t 33) (.t 36), some (30, true), [0, 1, 2, 3, 4, 5, 6, 7, 8, 9, 10, 11]⟩, [33, 36]),
  (⟨some 38, .pick (.t 30) (.t 37) (.c (.p (.bool false))), none, [0, 1, 2, 3, 4, 5, 6, 7, 8, 9, 10, 11, 12]⟩, [30, 37]),
  (⟨some 39, .move (.t 38), none, [0, 1, 2, 3, 4, 5, 6, 7, 8, 9, 10, 11, 12, 13]⟩, [38]),
  (⟨some 40, .load (some 3) (.t 5), some (39, true), [0, 1, 2, 3, 4, 5, 6, 7, 8, 9, 10, 11, 12, 13, 14]⟩, []),
  (⟨some 41, .load (some 3) (.t 7), some (39, true), [0, 1, 2, 3, 4, 5, 6, 7, 8, 9, 10, 11, 12, 13, 14]⟩, []),
  (⟨some 42, .call false 19 [.t 40, .t 41], some (39, true), [0, 1, 2, 3, 4, 5, 6, 7, 8, 9, 10, 11, 12, 13, 14, 15, 16]⟩, [40, 41]),
  (⟨some 43, .pick (.t 39) (.t 42) (.c (.p (.bool false))), none, [0, 1, 2, 3, 4, 5, 6, 7, 8, 9, 10, 11, 12, 13, 14, 15, 16, 17]⟩, [39, 42]),
  (⟨some 44, .move (.t 43), none, [0, 1, 2, 3, 4, 5, 6, 7, 8, 9, 10, 11, 12, 13, 14, 15, 16, 17, 18]⟩, [43]),
  (⟨some 45, .move (.t 6), some (44, true), [0, 1, 2, 3, 4, 5, 6, 7, 8, 9, 10, 11, 12, 13, 14, 15, 16, 17, 18, 19]⟩, [6]),
  (⟨some 46, .move (.t 8), some (44, true), [0, 1, 2, 3, 4, 5, 6, 7, 8, 9, 10, 11, 12, 13, 14, 15, 16, 17, 18, 19]⟩, [8]),
  (⟨some 47, .bin .eql (.t 45) (.t 46), some (44, true), [0, 1, 2, 3, 4, 5, 6, 7, 8, 9, 10, 11, 12, 13, 14, 15, 16, 17, 18, 19, 20, 21]⟩, [45, 46]),
  (⟨some 48, .pick (.t 44) (.t 47) (.c (.p (.bool false))), none, [0, 1, 2, 3, 4, 5, 6, 7, 8, 9, 10, 11, 12, 13, 14, 15, 16, 17, 18, 19, 20, 21, 22]⟩, [44, 47]),
  (⟨some 49, .move (.t 48), none, [0, 1, 2, 3, 4, 5, 6, 7, 8, 9, 10, 11, 12, 13, 14, 15, 16, 17, 18, 19, 20, 21, 22, 23]⟩, [48]),
  (⟨some 50, .load (some 3) (.t 2), some (49, true), [0, 1, 2, 3, 4, 5, 6, 7, 8, 9, 10, 11, 12, 13, 14, 15, 16, 17, 18, 19, 20, 21, 22, 23, 24]⟩, []),
  (⟨some 51, .call false 43 [.t 50], some (49, true), [0, 1, 2, 3, 4, 5, 6, 7, 8, 9, 10, 11, 12, 13, 14, 15, 16, 17, 18, 19, 20, 21, 22, 23, 24, 25]⟩, [50]),
  (⟨some 52, .load (some 3) (.t 2), some (49, true), [0, 1, 2, 3, 4, 5, 6, 7, 8, 9, 10, 11, 12, 13, 14, 15, 16, 17, 18, 19, 20, 21, 22, 23, 24]⟩, []),
  (⟨some 53, .call false 44 [.t 52], some (49, true), [0, 1, 2, 3, 4, 5, 6, 7, 8, 9, 10, 11, 12, 13, 14, 15, 16, 17, 18, 19, 20, 21, 22, 23, 24, 25, 26, 27]⟩, [52]),
  (⟨some 54, .call false 42 [.t 51, .t 53], some (49, true), [0, 1, 2, 3, 4, 5, 6, 7, 8, 9, 10, 11, 12, 13, 14, 15, 16, 17, 18, 19, 20, 21, 22, 23, 24, 25, 26, 27, 28]⟩, [51, 53]),
  (⟨some 55, .pick (.t 49) (.t 54) (.c (.p (.bool false))), none, [0, 1, 2, 3, 4, 5, 6, 7, 8, 9, 10, 11, 12, 13, 14, 15, 16, 17, 18, 19, 20, 21, 22, 23, 24, 25, 26, 27, 28, 29]⟩, [49, 54]),
  (⟨some 56, .move (.t 55), none, [0, 1, 2, 3, 4, 5, 6, 7, 8, 9, 10, 11, 12, 13, 14, 15, 16, 17, 18, 19, 20, 21, 22, 23, 24, 25, 26, 27, 28, 29, 30]⟩, [55]),
  (⟨some 57, .call false 16 [], some (56, true), [0, 1, 2, 3, 4, 5, 6, 7, 8, 9, 10, 11, 12, 13, 14, 15, 16, 17, 18, 19, 20, 21, 22, 23, 24, 25, 26, 27, 28, 29, 30, 31]⟩, []),
  (⟨some 58, .pick (.t 56) (.t 57) (.c (.p (.bool false))), none, [0, 1, 2, 3, 4, 5, 6, 7, 8, 9, 10, 11, 12, 13, 14, 15, 16, 17, 18, 19, 20, 21, 22, 23, 24, 25, 26, 27, 28, 29, 30, 31, 32]⟩, [56, 57]),
  (⟨some 4, .move (.t 58), none, [0, 1, 2, 3, 4, 5, 6, 7, 8, 9, 10, 11, 12, 13, 14, 15, 16, 17, 18, 19, 20, 21, 22, 23, 24, 25, 26, 27, 28, 29, 30, 31, 32, 33]⟩, [58])])
  .ret)))))⟩

/-- clockwork/clockworklaw19.FootprintProjects -/
def a13 : AFunc := ⟨44, 3, [.tmp 6],
  (.seq (.regionK false [
  (⟨some 3, .box (.t 0), none, []⟩, [0]),
  (⟨some 4, .box (.t 1), none, []⟩, [1]),
  (⟨some 5, .box (.t 2), none, []⟩, [2]),
  (⟨some 6, .move (.c (.p (.bool false))), none, []⟩, [6])])
  (.seq (.regionK false [
  (⟨some 8, .load (some 8) (.t 5), none, []⟩, []),
  (⟨some 9, .call false 45 [.t 8], none, []⟩, [8]),
  (⟨some 7, .alloc [.bool false, .slice true [], .slice true []], none, []⟩, []),
  (⟨none, .store 3 (.t 7) (.t 9), none, []⟩, [9])])
  (.seq (.seq (.regionK false [
  (⟨some 10, .load (some 3) (.t 3), none, []⟩, []),
  (⟨some 11, .load (some 3) (.t 7), none, []⟩, []),
  (⟨some 12, .buildSlice [.bool false, .slice true [], .slice true []] 2 [(0, .t 10), (1, .t 11)], none, []⟩, [10, 11]),
  (⟨some 13, .call false 15 [.t 12], none, []⟩, [12]),
  (⟨some 14, .un .not (.t 13), none, []⟩, [13]),
  (⟨some 15, .move (.t 14), none, []⟩, [14]),
  (⟨some 16, .fieldAddr 0 (.t 4), some (15, false), []⟩, []),
  (⟨some 17, .load none (.t 16), some (15, false), []⟩, [16]),
  (⟨some 18, .lenS (.t 17), some (15, false), []⟩, [17]),
  (⟨some 19, .bin .gtr (.t 18) (.c (.p (.int .i64 100))), some (15, false), []⟩, [18]),
  (⟨some 20, .pick (.t 15) (.c (.p (.bool true))) (.t 19), none, []⟩, [15, 19]),
  (⟨some 21, .move (.t 20), none, []⟩, [20]),
  (⟨some 22, .fieldAddr 1 (.t 4), some (21, false), []⟩, []),
  (⟨some 23, .load none (.t 22), some (21, false), []⟩, [22]),
  (⟨some 24, .lenS (.t 23), some (21, false), []⟩, [23]),
  (⟨some 25, .bin .gtr (.t 24) (.c (.p (.int .i64 100))), some (21, false), []⟩, [24]),
  (⟨some 26, .pick (.t 21) (.c (.p (.bool true))) (.t 25), none, []⟩, [21, 25])])
  (.cond (.t 26)
  (.seq (.regionK false [
    (⟨some 27, .call false 16 [], none, []⟩, [26]),
    (⟨some 6, .move (.t 27), none, []⟩, [27])])
    .ret)
  .skip))
  (.seq (.regionK true [
  (⟨some 28, .load (some 3) (.t 3), none, []⟩, [26]),
  (⟨some 29, .load (some 2) (.t 4), none, []⟩, []),
  (⟨some 30, .call false 46 [.t 28, .t 29], none, [0, 1]⟩, [28, 29]),
  (⟨some 31, .load (some 3) (.t 3), none, []⟩, []),
  (⟨some 32, .load (some 2) (.t 4), none, []⟩, []),
  (⟨some 33, .call false 47 [.t 31, .t 32], none, [0, 1, 2, 3, 4]⟩, [31, 32]),
  (⟨some 34, .call false 19 [.t 30, .t 33], none, [0, 1, 2, 3, 4, 5]⟩, [30, 33]),
  (⟨some 35, .move (.t 34), none, [0, 1, 2, 3, 4, 5, 6]⟩, [34]),
  (⟨some 36, .load (some 8) (.t 5), some (35, true), [0, 1, 2, 3, 4, 5, 6, 7]⟩, []),
  (⟨some 37, .call false 48 [.t 36], some (35, true), [0, 1, 2, 3, 4, 5, 6, 7, 8]⟩, [36]),
  (⟨some 38, .load (some 3) (.t 7), some (35, true), [0, 1, 2, 3, 4, 5, 6, 7]⟩, []),
  (⟨some 39, .call false 19 [.t 37, .t 38], some (35, true), [0, 1, 2, 3, 4, 5, 6, 7, 8, 9, 10]⟩, [37, 38]),
  (⟨some 40, .pick (.t 35) (.t 39) (.c (.p (.bool false))), none, [0, 1, 2, 3, 4, 5, 6, 7, 8, 9, 10, 11]⟩, [35, 39]),
  (⟨some 41, .move (.t 40), none, [0, 1, 2, 3, 4, 5, 6, 7, 8, 9, 10, 11, 12]⟩, [40]),
  (⟨some 42, .call false 16 [], some (41, true), [0, 1, 2, 3, 4, 5, 6, 7, 8, 9, 10, 11, 12, 13]⟩, []),
  (⟨some 43, .pick (.t 41) (.t 42) (.c (.p (.bool false))), none, [0, 1, 2, 3, 4, 5, 6, 7, 8, 9, 10, 11, 12, 13, 14]⟩, [41, 42]),
  (⟨some 6, .move (.t 43), none, [0, 1, 2, 3, 4, 5, 6, 7, 8, 9, 10, 11, 12, 13, 14, 15]⟩, [43])])
  .ret))))⟩

/-- clockwork/clockworklaw19.FootprintSplits -/
def a14 : AFunc := ⟨97, 3, [.tmp 6],
  (.seq (.regionK false [
  (⟨some 3, .box (.t 0), none, []⟩, [0]),
  (⟨some 4, .box (.t 1), none, []⟩, [1]),
  (⟨some 6, .move (.c (.p (.bool false))), none, []⟩, [6])])
  (.seq (.seq (.regionK false [
  (⟨some 14, .load (some 3) (.t 3), none, []⟩, []),
  (⟨some 15, .buildSlice [.bool false, .slice true [], .slice true []] 1 [(0, .t 14)], none, []⟩, [14]),
  (⟨some 16, .call false 15 [.t 15], none, []⟩, [15]),
  (⟨some 17, .un .not (.t 16), none, []⟩, [16]),
  (⟨some 18, .move (.t 17), none, []⟩, [17]),
  (⟨some 19, .fieldAddr 0 (.t 4), some (18, false), []⟩, []),
  (⟨some 20, .load none (.t 19), some (18, false), []⟩, [19]),
  (⟨some 21, .lenS (.t 20), some (18, false), []⟩, [20]),
  (⟨some 22, .bin .gtr (.t 21) (.c (.p (.int .i64 100))), some (18, false), []⟩, [21]),
  (⟨some 23, .pick (.t 18) (.c (.p (.bool true))) (.t 22), none, []⟩, [18, 22]),
  (⟨some 24, .move (.t 23), none, []⟩, [23]),
  (⟨some 25, .fieldAddr 1 (.t 4), some (24, false), []⟩, []),
  (⟨some 26, .load none (.t 25), some (24, false), []⟩, [25]),
  (⟨some 27, .lenS (.t 26), some (24, false), []⟩, [26]),
  (⟨some 28, .bin .gtr (.t 27) (.c (.p (.int .i64 100))), some (24, false), []⟩, [27]),
  (⟨some 29, .pick (.t 24) (.c (.p (.bool true))) (.t 28), none, []⟩, [24, 28]),
  (⟨some 30, .move (.t 29), none, []⟩, [29]),
  (⟨some 31, .move (.t 2), some (30, false), []⟩, []),
  (⟨some 32, .lenS (.t 31), some (30, false), []⟩, [31]),
  (⟨some 33, .bin .gtr (.t 32) (.c (.p (.int .i64 100))), some (30, false), []⟩, [32]),
  (⟨some 34, .pick (.t 30) (.c (.p (.bool true))) (.t 33), none, []⟩, [30, 33])])
  (.cond (.t 34)
  (.seq (.regionK false [
    (⟨some 35, .call false 16 [], none, []⟩, [2, 34]),
    (⟨some 6, .move (.t 35), none, []⟩, [35])])
    .ret)
  .skip))
  (.seq (.regionK false [
  (⟨some 37, .load (some 2) (.t 4), none, []⟩, [34]),
  (⟨some 38, .move (.t 2), none, []⟩, [2]),
  (⟨some 39, .call false 49 [.t 37, .t 38], none, []⟩, [37, 38]),
  (⟨some 36, .move (.t 39), none, []⟩, [39]),
  (⟨some 40, .extract (.t 36) 0, none, []⟩, []),
  (⟨some 41, .extract (.t 36) 1, none, []⟩, []),
  (⟨some 42, .extract (.t 36) 2, none, []⟩, [36]),
  (⟨some 7, .alloc [.str ⟨#[]⟩, .str ⟨#[]⟩], none, []⟩, []),
  (⟨some 8, .alloc [.str ⟨#[]⟩, .str ⟨#[]⟩], none, []⟩, []),
  (⟨none, .store 2 (.t 7) (.t 40), none, []⟩, [40]),
  (⟨none, .store 2 (.t 8) (.t 41), none, []⟩, [41]),
  (⟨some 9, .move (.t 42), none, []⟩, [42])])
  (.seq (.seq (.regionK false [
  (⟨some 43, .move (.t 9), none, []⟩, [9]),
  (⟨some 44, .bin .neq (.t 43) (.c (.p (.int .i64 0))), none, []⟩, [43]),
  (⟨some 45, .move (.t 44), none, []⟩, [44]),
  (⟨some 46, .load (some 3) (.t 3), some (45, false), []⟩, []),
  (⟨some 47, .call false 37 [.t 46], some (45, false), []⟩, [46]),
  (⟨some 48, .un .not (.t 47), some (45, false), []⟩, [47]),
  (⟨some 49, .pick (.t 45) (.c (.p (.bool true))) (.t 48), none, []⟩, [45, 48])])
  (.cond (.t 49)
  (.seq (.regionK false [
    (⟨some 50, .call false 16 [], none, []⟩, [49]),
    (⟨some 6, .move (.t 50), none, []⟩, [50])])
    .ret)
  .skip))
  (.seq (.regionK false [
  (⟨some 51, .load (some 3) (.t 3), none, []⟩, [49]),
  (⟨some 52, .load (some 2) (.t 7), none, []⟩, []),
  (⟨some 53, .call false 46 [.t 51, .t 52], none, []⟩, [51, 52]),
  (⟨some 10, .alloc [.bool false, .slice true [], .slice true []], none, []⟩, []),
  (⟨none, .store 3 (.t 10) (.t 53), none, []⟩, [53])])
  (.seq (.regionK false [
  (⟨some 54, .load (some 3) (.t 3), none, []⟩, []),
  (⟨some 55, .load (some 2) (.t 8), none, []⟩, []),
  (⟨some 56, .call false 46 [.t 54, .t 55], none, []⟩, [54, 55]),
  (⟨some 11, .alloc [.bool false, .slice true [], .slice true []], none, []⟩, []),
  (⟨none, .store 3 (.t 11) (.t 56), none, []⟩, [56])])
  (.seq (.regionK false [
  (⟨some 58, .load (some 3) (.t 10), none, []⟩, []),
  (⟨some 59, .load (some 3) (.t 11), none, []⟩, []),
  (⟨some 60, .call false 17 [.t 58, .t 59], none, []⟩, [58, 59]),
  (⟨some 57, .move (.t 60), none, []⟩, [60]),
  (⟨some 61, .extract (.t 57) 0, none, []⟩, []),
  (⟨some 62, .extract (.t 57) 1, none, []⟩, [57]),
  (⟨some 12, .alloc [.bool false, .slice true [], .slice true []], none, []⟩, []),
  (⟨none, .store 3 (.t 12) (.t 61), none, []⟩, [61]),
  (⟨some 13, .move (.t 62), none, []⟩, [62])])
  (.seq (.regionK true [
  (⟨some 63, .move (.t 13), none, []⟩, [13]),
  (⟨some 64, .bin .eql (.t 63) (.c (.p (.int .i64 0))), none, [0]⟩, [63]),
  (⟨some 65, .move (.t 64), none, [0, 1]⟩, [64]),
  (⟨some 66, .load (some 3) (.t 12), some (65, true), [0, 1, 2]⟩, []),
  (⟨some 67, .load (some 3) (.t 3), some (65, true), [0, 1, 2]⟩, []),
  (⟨some 68, .load (some 2) (.t 4), some (65, true), [0, 1, 2]⟩, []),
  (⟨some 69, .call false 46 [.t 67, .t 68], some (65, true), [0, 1, 2, 4, 5]⟩, [67, 68]),
  (⟨some 70, .call false 19 [.t 66, .t 69], some (65, true), [0, 1, 2, 3, 4, 5, 6]⟩, [66, 69]),
  (⟨some 71, .pick (.t 65) (.t 70) (.c (.p (.bool false))), none, [0, 1, 2, 3, 4, 5, 6, 7]⟩, [65, 70]),
  (⟨some 72, .move (.t 71), none, [0, 1, 2, 3, 4, 5, 6, 7, 8]⟩, [71]),
  (⟨some 73, .load (some 3) (.t 3), some (72, true), [0, 1, 2, 3, 4, 5, 6, 7, 8, 9]⟩, []),
  (⟨some 74, .load (some 3) (.t 12), some (72, true), [0, 1, 2, 3, 4, 5, 6, 7, 8, 9]⟩, []),
  (⟨some 75, .call false 33 [.t 73, .t 74], some (72, true), [0, 1, 2, 3, 4, 5, 6, 7, 8, 9, 10, 11]⟩, [73, 74]),
  (⟨some 76, .pick (.t 72) (.t 75) (.c (.p (.bool false))), none, [0, 1, 2, 3, 4, 5, 6, 7, 8, 9, 10, 11, 12]⟩, [72, 75]),
  (⟨some 77, .move (.t 76), none, [0, 1, 2, 3, 4, 5, 6, 7, 8, 9, 10, 11, 12, 13]⟩, [76]),
  (⟨some 78, .fieldAddr 0 (.t 3), some (77, true), [0, 1, 2, 3, 4, 5, 6, 7, 8, 9, 10, 11, 12, 13, 14]⟩, []),
  (⟨some 79, .load none (.t 78), some (77, true), [0, 1, 2, 3, 4, 5, 6, 7, 8, 9, 10, 11, 12, 13, 14, 15]⟩, [78]),
  (⟨some 80, .move (.t 79), some (77, true), [0, 1, 2, 3, 4, 5, 6, 7, 8, 9, 10, 11, 12, 13, 14, 15, 16]⟩, [79]),
  (⟨some 81, .fieldAddr 1 (.t 10), some (80, false), [0, 1, 2, 3, 4, 5, 6, 7, 8, 9, 10, 11, 12, 13, 14, 15, 16, 17]⟩, []),
  (⟨some 82, .load none (.t 81), some (80, false), [0, 1, 2, 3, 4, 5, 6, 7, 8, 9, 10, 11, 12, 13, 14, 15, 16, 17, 18]⟩, [81]),
  (⟨some 83, .len (.t 82), some (80, false), [0, 1, 2, 3, 4, 5, 6, 7, 8, 9, 10, 11, 12, 13, 14, 15, 16, 17, 18, 19]⟩, [82]),
  (⟨some 84, .fieldAddr 1 (.t 11), some (80, false), [0, 1, 2, 3, 4, 5, 6, 7, 8, 9, 10, 11, 12, 13, 14, 15, 16, 17]⟩, []),
  (⟨some 85, .load none (.t 84), some (80, false), [0, 1, 2, 3, 4, 5, 6, 7, 8, 9, 10, 11, 12, 13, 14, 15, 16, 17, 21]⟩, [84]),
  (⟨some 86, .len (.t 85), some (80, false), [0, 1, 2, 3, 4, 5, 6, 7, 8, 9, 10, 11, 12, 13, 14, 15, 16, 17, 21, 22]⟩, [85]),
  (⟨some 87, .bin .add (.t 83) (.t 86), some (80, false), [0, 1, 2, 3, 4, 5, 6, 7, 8, 9, 10, 11, 12, 13, 14, 15, 16, 17, 18, 19, 20, 21, 22, 23]⟩, [83, 86]),
  (⟨some 88, .fieldAddr 1 (.t 12), some (80, false), [0, 1, 2, 3, 4, 5, 6, 7, 8, 9, 10, 11, 12, 13, 14, 15, 16, 17]⟩, []),
  (⟨some 89, .load none (.t 88), some (80, false), [0, 1, 2, 3, 4, 5, 6, 7, 8, 9, 10, 11, 12, 13, 14, 15, 16, 17, 25]⟩, [88]),
  (⟨some 90, .len (.t 89), some (80, false), [0, 1, 2, 3, 4, 5, 6, 7, 8, 9, 10, 11, 12, 13, 14, 15, 16, 17, 25, 26]⟩, [89]),
  (⟨some 91, .bin .eql (.t 87) (.t 90), some (80, false), [0, 1, 2, 3, 4, 5, 6, 7, 8, 9, 10, 11, 12, 13, 14, 15, 16, 17, 18, 19, 20, 21, 22, 23, 24, 25, 26, 27]⟩, [87, 90]),
  (⟨some 92, .pick (.t 80) (.c (.p (.bool true))) (.t 91), some (77, true), [0, 1, 2, 3, 4, 5, 6, 7, 8, 9, 10, 11, 12, 13, 14, 15, 16, 17, 18, 19, 20, 21, 22, 23, 24, 25, 26, 27, 28]⟩, [80, 91]),
  (⟨some 93, .pick (.t 77) (.t 92) (.c (.p (.bool false))), none, [0, 1, 2, 3, 4, 5, 6, 7, 8, 9, 10, 11, 12, 13, 14, 15, 16, 17, 18, 19, 20, 21, 22, 23, 24, 25, 26, 27, 28, 29]⟩, [77, 92]),
  (⟨some 94, .move (.t 93), none, [0, 1, 2, 3, 4, 5, 6, 7, 8, 9, 10, 11, 12, 13, 14, 15, 16, 17, 18, 19, 20, 21, 22, 23, 24, 25, 26, 27, 28, 29, 30]⟩, [93]),
  (⟨some 95, .call false 16 [], some (94, true), [0, 1, 2, 3, 4, 5, 6, 7, 8, 9, 10, 11, 12, 13, 14, 15, 16, 17, 18, 19, 20, 21, 22, 23, 24, 25, 26, 27, 28, 29, 30, 31]⟩, []),
  (⟨some 96, .pick (.t 94) (.t 95) (.c (.p (.bool false))), none, [0, 1, 2, 3, 4, 5, 6, 7, 8, 9, 10, 11, 12, 13, 14, 15, 16, 17, 18, 19, 20, 21, 22, 23, 24, 25, 26, 27, 28, 29, 30, 31, 32]⟩, [94, 95]),
  (⟨some 6, .move (.t 96), none, [0, 1, 2, 3, 4, 5, 6, 7, 8, 9, 10, 11, 12, 13, 14, 15, 16, 17, 18, 19, 20, 21, 22, 23, 24, 25, 26, 27, 28, 29, 30, 31, 32, 33]⟩, [96])])
  .ret))))))))⟩

/-- clockwork/clockworklaw19.few -/
@[irreducible] def a15_l0 : ACode :=
  (.seq (.seq (.regionK false [
  (⟨some 4, .move (.t 3), none, []⟩, []),
  (⟨some 5, .move (.t 0), none, []⟩, []),
  (⟨some 6, .len (.t 5), none, []⟩, [5]),
  (⟨some 7, .bin .lss (.t 4) (.t 6), none, []⟩, [4, 6])])
  (.cond (.t 7)
  .skip
  (.ghost (.forget [0, 3, 7]) (.ghost .lower (.exit 0)))))
  (.seq (.block 1
  (.seq (.regionK false [
    (⟨some 10, .move (.t 0), none, []⟩, [7]),
    (⟨some 11, .move (.t 3), none, []⟩, []),
    (⟨some 12, .indexAddr 3 (.t 10) (.t 11), none, []⟩, [10, 11]),
    (⟨some 13, .load (some 3) (.t 12), none, []⟩, [12]),
    (⟨some 14, .call false 50 [.t 13, .c (.p (.int .i64 80))], none, []⟩, [13]),
    (⟨some 15, .un .not (.t 14), none, []⟩, [14])])
    (.cond (.t 15)
    (.seq (.regionK false [
      (⟨some 2, .move (.c (.p (.bool false))), none, []⟩, [0, 3, 15])])
      .ret)
    .skip)))
  (.regionK false [
  (⟨some 8, .move (.t 3), none, []⟩, [15]),
  (⟨some 9, .bin .add (.t 8) (.c (.p (.int .i64 1))), none, []⟩, [8]),
  (⟨some 3, .move (.t 9), none, []⟩, [9])])))

def a15 : AFunc := ⟨16, 1, [.tmp 2],
  (.seq (.regionK false [
  (⟨some 2, .move (.c (.p (.bool false))), none, []⟩, [2])])
  (.seq (.seq (.regionK false [
  (⟨some 3, .move (.c (.p (.int .i64 0))), none, []⟩, [])])
  (.block 0
  (.loop
    (.ghost .lower a15_l0))))
  (.seq (.regionK false [
  (⟨some 2, .move (.c (.p (.bool true))), none, []⟩, [])])
  .ret)))⟩

/-- clockwork/clockworklaw19.lives -/
def a16 : AFunc := ⟨66, 0, [.tmp 0],
  (.seq (.regionK false [
  (⟨some 0, .move (.c (.p (.bool false))), none, []⟩, [0])])
  (.seq (.regionK false [
  (⟨some 7, .buildSlice [.str ⟨#[]⟩] 3 [(0, .c (.p (.str ⟨#[98]⟩))), (1, .c (.p (.str ⟨#[97]⟩))), (2, .c (.p (.str ⟨#[98]⟩)))], none, []⟩, []),
  (⟨some 8, .build [.bool false, .slice true [], .slice true []] [(1, 1, .t 7)], none, []⟩, [7]),
  (⟨some 9, .call false 38 [.t 8], none, []⟩, [8]),
  (⟨some 6, .move (.t 9), none, []⟩, [9]),
  (⟨some 10, .extract (.t 6) 0, none, []⟩, []),
  (⟨some 11, .extract (.t 6) 1, none, []⟩, [6]),
  (⟨some 1, .alloc [.bool false, .slice true [], .slice true []], none, []⟩, []),
  (⟨none, .store 3 (.t 1) (.t 10), none, []⟩, [10]),
  (⟨some 2, .move (.t 11), none, []⟩, [11])])
  (.seq (.regionK false [
  (⟨some 13, .buildSlice [.str ⟨#[]⟩] 1 [(0, .c (.p (.str ⟨#[97]⟩)))], none, []⟩, []),
  (⟨some 14, .build [.bool false, .slice true [], .slice true []] [(1, 1, .t 13)], none, []⟩, [13]),
  (⟨some 15, .buildSlice [.str ⟨#[]⟩] 1 [(0, .c (.p (.str ⟨#[98]⟩)))], none, []⟩, []),
  (⟨some 16, .buildSlice [.str ⟨#[]⟩] 1 [(0, .c (.p (.str ⟨#[97]⟩)))], none, []⟩, []),
  (⟨some 17, .build [.bool false, .slice true [], .slice true []] [(1, 1, .t 15), (2, 1, .t 16)], none, []⟩, [15, 16]),
  (⟨some 18, .call false 17 [.t 14, .t 17], none, []⟩, [14, 17]),
  (⟨some 12, .move (.t 18), none, []⟩, [18]),
  (⟨some 19, .extract (.t 12) 0, none, []⟩, []),
  (⟨some 20, .extract (.t 12) 1, none, []⟩, [12]),
  (⟨some 3, .alloc [.bool false, .slice true [], .slice true []], none, []⟩, []),
  (⟨none, .store 3 (.t 3) (.t 19), none, []⟩, [19]),
  (⟨some 4, .move (.t 20), none, []⟩, [20])])
  (.seq (.regionK false [
  (⟨some 21, .buildSlice [.str ⟨#[]⟩] 1 [(0, .c (.p (.str ⟨#[120]⟩)))], none, []⟩, []),
  (⟨some 22, .buildSlice [.str ⟨#[]⟩] 1 [(0, .c (.p (.str ⟨#[121]⟩)))], none, []⟩, []),
  (⟨some 23, .build [.bool false, .slice true [], .slice true []] [(1, 1, .t 21), (2, 1, .t 22)], none, []⟩, [21, 22]),
  (⟨some 5, .alloc [.bool false, .slice true [], .slice true []], none, []⟩, []),
  (⟨none, .store 3 (.t 5) (.t 23), none, []⟩, [23])])
  (.seq (.regionK false [
  (⟨some 24, .fieldAddr 1 (.t 1), none, []⟩, []),
  (⟨some 25, .load none (.t 24), none, []⟩, [24]),
  (⟨some 26, .buildSlice [.str ⟨#[]⟩] 2 [(0, .c (.p (.str ⟨#[97]⟩))), (1, .c (.p (.str ⟨#[98]⟩)))], none, []⟩, []),
  (⟨some 27, .call false 42 [.t 25, .t 26], none, []⟩, [25, 26]),
  (⟨some 28, .move (.t 27), none, []⟩, [27]),
  (⟨some 29, .move (.t 2), some (28, true), []⟩, [2]),
  (⟨some 30, .bin .eql (.t 29) (.c (.p (.int .i64 0))), some (28, true), []⟩, [29]),
  (⟨some 31, .pick (.t 28) (.t 30) (.c (.p (.bool false))), none, []⟩, [28, 30]),
  (⟨some 32, .move (.t 31), none, []⟩, [31]),
  (⟨some 33, .fieldAddr 1 (.t 3), some (32, true), []⟩, []),
  (⟨some 34, .load none (.t 33), some (32, true), []⟩, [33]),
  (⟨some 35, .buildSlice [.str ⟨#[]⟩] 2 [(0, .c (.p (.str ⟨#[97]⟩))), (1, .c (.p (.str ⟨#[98]⟩)))], some (32, true), []⟩, []),
  (⟨some 36, .call false 42 [.t 34, .t 35], some (32, true), []⟩, [34, 35]),
  (⟨some 37, .pick (.t 32) (.t 36) (.c (.p (.bool false))), none, []⟩, [32, 36]),
  (⟨some 38, .move (.t 37), none, []⟩, [37]),
  (⟨some 39, .fieldAddr 2 (.t 3), some (38, true), []⟩, []),
  (⟨some 40, .load none (.t 39), some (38, true), []⟩, [39]),
  (⟨some 41, .buildSlice [.str ⟨#[]⟩] 1 [(0, .c (.p (.str ⟨#[97]⟩)))], some (38, true), []⟩, []),
  (⟨some 42, .call false 42 [.t 40, .t 41], some (38, true), []⟩, [40, 41]),
  (⟨some 43, .pick (.t 38) (.t 42) (.c (.p (.bool false))), none, []⟩, [38, 42]),
  (⟨some 44, .move (.t 43), none, []⟩, [43]),
  (⟨some 45, .move (.t 4), some (44, true), []⟩, [4]),
  (⟨some 46, .bin .eql (.t 45) (.c (.p (.int .i64 0))), some (44, true), []⟩, [45]),
  (⟨some 47, .pick (.t 44) (.t 46) (.c (.p (.bool false))), none, []⟩, [44, 46]),
  (⟨some 48, .move (.t 47), none, []⟩, [47]),
  (⟨some 49, .load (some 3) (.t 5), some (48, true), []⟩, []),
  (⟨some 50, .buildSlice [.str ⟨#[]⟩] 1 [(0, .c (.p (.str ⟨#[121]⟩)))], some (48, true), []⟩, []),
  (⟨some 51, .build [.bool false, .slice true [], .slice true []] [(1, 1, .t 50)], some (48, true), []⟩, [50]),
  (⟨some 52, .call false 34 [.t 49, .t 51], some (48, true), []⟩, [49, 51]),
  (⟨some 53, .pick (.t 48) (.t 52) (.c (.p (.bool false))), none, []⟩, [48, 52]),
  (⟨some 54, .move (.t 53), none, []⟩, [53]),
  (⟨some 55, .load (some 3) (.t 5), some (54, true), []⟩, []),
  (⟨some 56, .buildSlice [.str ⟨#[]⟩] 1 [(0, .c (.p (.str ⟨#[120]⟩)))], some (54, true), []⟩, []),
  (⟨some 57, .build [.bool false, .slice true [], .slice true []] [(1, 1, .t 56)], some (54, true), []⟩, [56]),
  (⟨some 58, .call false 34 [.t 55, .t 57], some (54, true), []⟩, [55, 57]),
  (⟨some 59, .un .not (.t 58), some (54, true), []⟩, [58]),
  (⟨some 60, .pick (.t 54) (.t 59) (.c (.p (.bool false))), none, []⟩, [54, 59]),
  (⟨some 61, .move (.t 60), none, []⟩, [60]),
  (⟨some 62, .build [.bool false, .slice true [], .slice true []] [], some (61, true), []⟩, []),
  (⟨some 63, .build [.bool false, .slice true [], .slice true []] [(0, 1, .c (.p (.bool true)))], some (61, true), []⟩, []),
  (⟨some 64, .call false 34 [.t 62, .t 63], some (61, true), []⟩, [62, 63]),
  (⟨some 65, .pick (.t 61) (.t 64) (.c (.p (.bool false))), none, []⟩, [61, 64]),
  (⟨some 0, .move (.t 65), none, []⟩, [65])])
  .ret)))))⟩

/-- clockwork/footprint.Union -/
def a17 : AFunc := ⟨37, 2, [.cell 4 3, .tmp 5],
  (.seq (.regionK false [
  (⟨some 2, .box (.t 0), none, []⟩, [0]),
  (⟨some 3, .box (.t 1), none, []⟩, [1]),
  (⟨some 4, .alloc [.bool false, .slice true [], .slice true []], none, []⟩, []),
  (⟨some 5, .move (.c (.p (.int .i64 0))), none, []⟩, [5])])
  (.seq (.seq (.regionK false [
  (⟨some 6, .load (some 3) (.t 2), none, []⟩, []),
  (⟨some 7, .call false 37 [.t 6], none, []⟩, [6]),
  (⟨some 8, .un .not (.t 7), none, []⟩, [7]),
  (⟨some 9, .move (.t 8), none, []⟩, [8]),
  (⟨some 10, .load (some 3) (.t 3), some (9, false), []⟩, []),
  (⟨some 11, .call false 37 [.t 10], some (9, false), []⟩, [10]),
  (⟨some 12, .un .not (.t 11), some (9, false), []⟩, [11]),
  (⟨some 13, .pick (.t 9) (.c (.p (.bool true))) (.t 12), none, []⟩, [9, 12])])
  (.cond (.t 13)
  (.seq (.regionK false [
    (⟨some 14, .build [.bool false, .slice true [], .slice true []] [], none, []⟩, [13]),
    (⟨none, .store 3 (.t 4) (.t 14), none, []⟩, [14]),
    (⟨some 5, .move (.c (.p (.int .i64 1))), none, []⟩, [])])
    .ret)
  .skip))
  (.seq (.seq (.regionK false [
  (⟨some 15, .fieldAddr 0 (.t 2), none, []⟩, [13]),
  (⟨some 16, .load none (.t 15), none, []⟩, [15]),
  (⟨some 17, .move (.t 16), none, []⟩, [16]),
  (⟨some 18, .fieldAddr 0 (.t 3), some (17, false), []⟩, []),
  (⟨some 19, .load none (.t 18), some (17, false), []⟩, [18]),
  (⟨some 20, .pick (.t 17) (.c (.p (.bool true))) (.t 19), none, []⟩, [17, 19])])
  (.cond (.t 20)
  (.seq (.regionK false [
    (⟨some 21, .build [.bool false, .slice true [], .slice true []] [(0, 1, .c (.p (.bool true)))], none, []⟩, [20]),
    (⟨none, .store 3 (.t 4) (.t 21), none, []⟩, [21]),
    (⟨some 5, .move (.c (.p (.int .i64 0))), none, []⟩, [])])
    .ret)
  .skip))
  (.seq (.regionK true [
  (⟨some 22, .fieldAddr 1 (.t 2), none, []⟩, [20]),
  (⟨some 23, .load none (.t 22), none, [0]⟩, [22]),
  (⟨some 24, .fieldAddr 1 (.t 3), none, []⟩, []),
  (⟨some 25, .load none (.t 24), none, [2]⟩, [24]),
  (⟨some 26, .buildSlice [.slice true []] 2 [(0, .t 23), (1, .t 25)], none, [0, 1, 2, 3]⟩, [23, 25]),
  (⟨some 27, .call false 52 [.t 26], none, [0, 1, 2, 3, 4]⟩, [26]),
  (⟨some 28, .fieldAddr 2 (.t 2), none, []⟩, []),
  (⟨some 29, .load none (.t 28), none, [6]⟩, [28]),
  (⟨some 30, .fieldAddr 2 (.t 3), none, []⟩, []),
  (⟨some 31, .load none (.t 30), none, [8]⟩, [30]),
  (⟨some 32, .buildSlice [.slice true []] 2 [(0, .t 29), (1, .t 31)], none, [6, 7, 8, 9]⟩, [29, 31]),
  (⟨some 33, .call false 52 [.t 32], none, [0, 1, 2, 3, 4, 5, 6, 7, 8, 9, 10]⟩, [32]),
  (⟨some 34, .call false 51 [.t 27, .t 33], none, [0, 1, 2, 3, 4, 5, 6, 7, 8, 9, 10, 11]⟩, [27, 33]),
  (⟨some 35, .extract (.t 34) 0, none, [0, 1, 2, 3, 4, 5, 6, 7, 8, 9, 10, 11, 12]⟩, []),
  (⟨some 36, .extract (.t 34) 1, none, [0, 1, 2, 3, 4, 5, 6, 7, 8, 9, 10, 11, 12]⟩, [34]),
  (⟨none, .store 3 (.t 4) (.t 35), none, [0, 1, 2, 3, 4, 5, 6, 7, 8, 9, 10, 11, 12, 13, 14]⟩, [35]),
  (⟨some 5, .move (.t 36), none, [0, 1, 2, 3, 4, 5, 6, 7, 8, 9, 10, 11, 12, 13, 14, 15]⟩, [36])])
  .ret))))⟩

/-- clockwork/clockworkref19.Union -/
def a18 : AFunc := ⟨35, 2, [.cell 4 3, .tmp 5],
  (.seq (.regionK false [
  (⟨some 2, .box (.t 0), none, []⟩, [0]),
  (⟨some 3, .box (.t 1), none, []⟩, [1]),
  (⟨some 4, .alloc [.bool false, .slice true [], .slice true []], none, []⟩, []),
  (⟨some 5, .move (.c (.p (.int .i64 0))), none, []⟩, [5])])
  (.seq (.seq (.regionK false [
  (⟨some 6, .load (some 3) (.t 2), none, []⟩, []),
  (⟨some 7, .call false 40 [.t 6], none, []⟩, [6]),
  (⟨some 8, .un .not (.t 7), none, []⟩, [7]),
  (⟨some 9, .move (.t 8), none, []⟩, [8]),
  (⟨some 10, .load (some 3) (.t 3), some (9, false), []⟩, []),
  (⟨some 11, .call false 40 [.t 10], some (9, false), []⟩, [10]),
  (⟨some 12, .un .not (.t 11), some (9, false), []⟩, [11]),
  (⟨some 13, .pick (.t 9) (.c (.p (.bool true))) (.t 12), none, []⟩, [9, 12])])
  (.cond (.t 13)
  (.seq (.regionK false [
    (⟨some 14, .build [.bool false, .slice true [], .slice true []] [], none, []⟩, [13]),
    (⟨none, .store 3 (.t 4) (.t 14), none, []⟩, [14]),
    (⟨some 5, .move (.c (.p (.int .i64 1))), none, []⟩, [])])
    .ret)
  .skip))
  (.seq (.seq (.regionK false [
  (⟨some 15, .fieldAddr 0 (.t 2), none, []⟩, [13]),
  (⟨some 16, .load none (.t 15), none, []⟩, [15]),
  (⟨some 17, .move (.t 16), none, []⟩, [16]),
  (⟨some 18, .fieldAddr 0 (.t 3), some (17, false), []⟩, []),
  (⟨some 19, .load none (.t 18), some (17, false), []⟩, [18]),
  (⟨some 20, .pick (.t 17) (.c (.p (.bool true))) (.t 19), none, []⟩, [17, 19])])
  (.cond (.t 20)
  (.seq (.regionK false [
    (⟨some 21, .build [.bool false, .slice true [], .slice true []] [(0, 1, .c (.p (.bool true)))], none, []⟩, [20]),
    (⟨none, .store 3 (.t 4) (.t 21), none, []⟩, [21]),
    (⟨some 5, .move (.c (.p (.int .i64 0))), none, []⟩, [])])
    .ret)
  .skip))
  (.seq (.regionK true [
  (⟨some 22, .fieldAddr 1 (.t 2), none, []⟩, [20]),
  (⟨some 23, .load none (.t 22), none, [0]⟩, [22]),
  (⟨some 24, .fieldAddr 1 (.t 3), none, []⟩, []),
  (⟨some 25, .load none (.t 24), none, [2]⟩, [24]),
  (⟨some 26, .call false 54 [.t 23, .t 25], none, [0, 1, 2, 3]⟩, [23, 25]),
  (⟨some 27, .fieldAddr 2 (.t 2), none, []⟩, []),
  (⟨some 28, .load none (.t 27), none, [5]⟩, [27]),
  (⟨some 29, .fieldAddr 2 (.t 3), none, []⟩, []),
  (⟨some 30, .load none (.t 29), none, [7]⟩, [29]),
  (⟨some 31, .call false 54 [.t 28, .t 30], none, [0, 1, 2, 3, 4, 5, 6, 7, 8]⟩, [28, 30]),
  (⟨some 32, .call false 53 [.t 26, .t 31], none, [0, 1, 2, 3, 4, 5, 6, 7, 8, 9]⟩, [26, 31]),
  (⟨some 33, .extract (.t 32) 0, none, [0, 1, 2, 3, 4, 5, 6, 7, 8, 9, 10]⟩, []),
  (⟨some 34, .extract (.t 32) 1, none, [0, 1, 2, 3, 4, 5, 6, 7, 8, 9, 10]⟩, [32]),
  (⟨none, .store 3 (.t 4) (.t 33), none, [0, 1, 2, 3, 4, 5, 6, 7, 8, 9, 10, 11, 12]⟩, [33]),
  (⟨some 5, .move (.t 34), none, [0, 1, 2, 3, 4, 5, 6, 7, 8, 9, 10, 11, 12, 13]⟩, [34])])
  .ret))))⟩

/-- clockwork/clockworkref19.Same -/
def a19 : AFunc := ⟨24, 2, [.tmp 4],
  (.seq (.regionK false [
  (⟨some 2, .box (.t 0), none, []⟩, [0]),
  (⟨some 3, .box (.t 1), none, []⟩, [1]),
  (⟨some 4, .move (.c (.p (.bool false))), none, []⟩, [4])])
  (.seq (.regionK false [
  (⟨some 5, .fieldAddr 0 (.t 2), none, []⟩, []),
  (⟨some 6, .load none (.t 5), none, []⟩, [5]),
  (⟨some 7, .fieldAddr 0 (.t 3), none, []⟩, []),
  (⟨some 8, .load none (.t 7), none, []⟩, [7]),
  (⟨some 9, .eqb false (.t 6) (.t 8), none, []⟩, [6, 8]),
  (⟨some 10, .move (.t 9), none, []⟩, [9]),
  (⟨some 11, .fieldAddr 1 (.t 2), some (10, true), []⟩, []),
  (⟨some 12, .load none (.t 11), some (10, true), []⟩, [11]),
  (⟨some 13, .fieldAddr 1 (.t 3), some (10, true), []⟩, []),
  (⟨some 14, .load none (.t 13), some (10, true), []⟩, [13]),
  (⟨some 15, .call false 42 [.t 12, .t 14], some (10, true), []⟩, [12, 14]),
  (⟨some 16, .pick (.t 10) (.t 15) (.c (.p (.bool false))), none, []⟩, [10, 15]),
  (⟨some 17, .move (.t 16), none, []⟩, [16]),
  (⟨some 18, .fieldAddr 2 (.t 2), some (17, true), []⟩, []),
  (⟨some 19, .load none (.t 18), some (17, true), []⟩, [18]),
  (⟨some 20, .fieldAddr 2 (.t 3), some (17, true), []⟩, []),
  (⟨some 21, .load none (.t 20), some (17, true), []⟩, [20]),
  (⟨some 22, .call false 42 [.t 19, .t 21], some (17, true), []⟩, [19, 21]),
  (⟨some 23, .pick (.t 17) (.t 22) (.c (.p (.bool false))), none, []⟩, [17, 22]),
  (⟨some 4, .move (.t 23), none, []⟩, [23])])
  .ret))⟩

/-- clockwork/clockworklaw38.few -/
def a20 : AFunc := ⟨10, 1, [.tmp 2],
  (.seq (.regionK false [
  (⟨some 1, .box (.t 0), none, []⟩, [0]),
  (⟨some 2, .move (.c (.p (.bool false))), none, []⟩, [2])])
  (.seq (.regionK false [
  (⟨some 3, .fieldAddr 4 (.t 1), none, []⟩, []),
  (⟨some 4, .load none (.t 3), none, []⟩, [3]),
  (⟨some 5, .fieldAddr 5 (.t 1), none, []⟩, []),
  (⟨some 6, .load none (.t 5), none, []⟩, [5]),
  (⟨some 7, .fieldAddr 6 (.t 1), none, []⟩, []),
  (⟨some 8, .load none (.t 7), none, []⟩, [7]),
  (⟨some 9, .call false 24 [.t 4, .t 6, .t 8], none, []⟩, [4, 6, 8]),
  (⟨some 2, .move (.t 9), none, []⟩, [9])])
  .ret))⟩

/-- clockwork/clockworklaw38.lives -/
def a21 : AFunc := ⟨66, 0, [.tmp 0],
  (.seq (.regionK false [
  (⟨some 0, .move (.c (.p (.bool false))), none, []⟩, [0])])
  (.seq (.regionS [(1, 3), (2, 3)] [
  ⟨some 11, .build [.int .i64 0, .int .i64 0, .int .i64 0, .int .i64 0] [(0, 1, .c (.p (.int .i64 2))), (1, 1, .c (.p (.int .i64 1))), (2, 1, .c (.p (.int .i64 2))), (3, 1, .c (.p (.int .i64 1)))], none, []⟩,
  ⟨some 12, .buildSlice [.int .i64 0] 5 [(0, .c (.p (.int .i64 1))), (1, .c (.p (.int .i64 1))), (2, .c (.p (.int .i64 2))), (3, .c (.p (.int .i64 3))), (4, .c (.p (.int .i64 1)))], none, []⟩,
  ⟨some 13, .call false 55 [.t 12], none, [1]⟩,
  ⟨some 14, .makeSlice [.bool false, .slice true [], .slice true []] 56 (.c (.p (.int .i64 5))) (.c (.p (.int .i64 5))), none, []⟩,
  ⟨some 15, .call false 22 [.t 11, .c (.p (.slice true [])), .t 13, .t 14, .c (.p (.int .i64 0))], none, [0, 1, 2, 3]⟩,
  ⟨some 10, .move (.t 15), none, [0, 1, 2, 3, 4]⟩,
  ⟨some 16, .extract (.t 10) 0, none, [0, 1, 2, 3, 4, 5]⟩,
  ⟨some 17, .extract (.t 10) 1, none, [0, 1, 2, 3, 4, 5]⟩,
  ⟨some 18, .extract (.t 10) 2, none, [0, 1, 2, 3, 4, 5]⟩,
  ⟨some 19, .extract (.t 10) 3, none, [0, 1, 2, 3, 4, 5]⟩,
  ⟨some 1, .move (.t 16), none, [0, 1, 2, 3, 4, 5, 6]⟩,
  ⟨some 2, .move (.t 17), none, [0, 1, 2, 3, 4, 5, 6, 7, 10]⟩,
  ⟨some 3, .move (.t 18), none, [0, 1, 2, 3, 4, 5, 6, 7, 8, 10, 11]⟩,
  ⟨some 4, .move (.t 19), none, [0, 1, 2, 3, 4, 5, 6, 7, 8, 9, 10, 11, 12]⟩] [10, 11, 12, 13, 14, 15, 16, 17, 18, 19])
  (.seq (.regionK false [
  (⟨some 20, .buildSlice [.str ⟨#[]⟩] 1 [(0, .c (.p (.str ⟨#[120]⟩)))], none, []⟩, []),
  (⟨some 21, .build [.bool false, .slice true [], .slice true []] [(1, 1, .t 20)], none, []⟩, [20]),
  (⟨some 5, .alloc [.bool false, .slice true [], .slice true []], none, []⟩, []),
  (⟨none, .store 3 (.t 5) (.t 21), none, []⟩, [21])])
  (.seq (.regionK true [
  (⟨some 23, .build [.int .i64 0, .int .i64 0, .int .i64 0, .int .i64 0] [(0, 1, .c (.p (.int .i64 9))), (1, 1, .c (.p (.int .i64 9))), (2, 1, .c (.p (.int .i64 1))), (3, 1, .c (.p (.int .i64 9)))], none, []⟩, []),
  (⟨some 24, .buildSlice [.str ⟨#[]⟩] 1 [(0, .c (.p (.str ⟨#[120]⟩)))], none, []⟩, []),
  (⟨some 25, .buildSlice [.int .i64 0] 2 [(0, .c (.p (.int .i64 1))), (1, .c (.p (.int .i64 2)))], none, []⟩, []),
  (⟨some 26, .call false 55 [.t 25], none, [2]⟩, [25]),
  (⟨some 27, .load (some 3) (.t 5), none, []⟩, []),
  (⟨some 28, .load (some 3) (.t 5), none, []⟩, []),
  (⟨some 29, .buildSlice [.bool false, .slice true [], .slice true []] 2 [(0, .t 27), (1, .t 28)], none, [4, 5]⟩, [27, 28]),
  (⟨some 30, .call false 22 [.t 23, .t 24, .t 26, .t 29, .c (.p (.int .i64 0))], none, [0, 1, 2, 3, 4, 5, 6]⟩, [23, 24, 26, 29]),
  (⟨some 22, .move (.t 30), none, [0, 1, 2, 3, 4, 5, 6, 7]⟩, [30]),
  (⟨some 31, .extract (.t 22) 0, none, [0, 1, 2, 3, 4, 5, 6, 7, 8]⟩, []),
  (⟨some 32, .extract (.t 22) 1, none, [0, 1, 2, 3, 4, 5, 6, 7, 8]⟩, []),
  (⟨some 33, .extract (.t 22) 2, none, [0, 1, 2, 3, 4, 5, 6, 7, 8]⟩, []),
  (⟨some 34, .extract (.t 22) 3, none, [0, 1, 2, 3, 4, 5, 6, 7, 8]⟩, [22]),
  (⟨some 6, .move (.t 31), none, [0, 1, 2, 3, 4, 5, 6, 7, 8, 9]⟩, [31]),
  (⟨some 7, .move (.t 32), none, [0, 1, 2, 3, 4, 5, 6, 7, 8, 9, 10, 13]⟩, [32]),
  (⟨some 8, .move (.t 33), none, [0, 1, 2, 3, 4, 5, 6, 7, 8, 9, 10, 11, 13, 14]⟩, [8, 33]),
  (⟨some 9, .move (.t 34), none, [0, 1, 2, 3, 4, 5, 6, 7, 8, 9, 10, 11, 12, 13, 14, 15]⟩, [34])])
  (.seq (.regionK false [
  (⟨some 35, .move (.t 1), none, []⟩, [1]),
  (⟨some 36, .buildSlice [.int .i64 0] 2 [(0, .c (.p (.int .i64 0))), (1, .c (.p (.int .i64 2)))], none, []⟩, []),
  (⟨some 37, .call false 30 [.t 35, .t 36], none, []⟩, [35, 36]),
  (⟨some 38, .move (.t 37), none, []⟩, [37]),
  (⟨some 39, .move (.t 2), some (38, true), []⟩, [2]),
  (⟨some 40, .buildSlice [.int .i64 0] 1 [(0, .c (.p (.int .i64 1)))], some (38, true), []⟩, []),
  (⟨some 41, .call false 30 [.t 39, .t 40], some (38, true), []⟩, [39, 40]),
  (⟨some 42, .pick (.t 38) (.t 41) (.c (.p (.bool false))), none, []⟩, [38, 41]),
  (⟨some 43, .move (.t 42), none, []⟩, [42]),
  (⟨some 44, .move (.t 3), some (43, true), []⟩, [3]),
  (⟨some 45, .buildSlice [.int .i64 0] 2 [(0, .c (.p (.int .i64 3))), (1, .c (.p (.int .i64 4)))], some (43, true), []⟩, []),
  (⟨some 46, .call false 30 [.t 44, .t 45], some (43, true), []⟩, [44, 45]),
  (⟨some 47, .pick (.t 43) (.t 46) (.c (.p (.bool false))), none, []⟩, [43, 46]),
  (⟨some 48, .move (.t 47), none, []⟩, [47]),
  (⟨some 49, .move (.t 4), some (48, true), []⟩, [4]),
  (⟨some 50, .bin .eql (.t 49) (.c (.p (.int .i64 0))), some (48, true), []⟩, [49]),
  (⟨some 51, .pick (.t 48) (.t 50) (.c (.p (.bool false))), none, []⟩, [48, 50]),
  (⟨some 52, .move (.t 51), none, []⟩, [51]),
  (⟨some 53, .move (.t 6), some (52, true), []⟩, [6]),
  (⟨some 54, .buildSlice [.int .i64 0] 1 [(0, .c (.p (.int .i64 0)))], some (52, true), []⟩, []),
  (⟨some 55, .call false 30 [.t 53, .t 54], some (52, true), []⟩, [53, 54]),
  (⟨some 56, .pick (.t 52) (.t 55) (.c (.p (.bool false))), none, []⟩, [52, 55]),
  (⟨some 57, .move (.t 56), none, []⟩, [56]),
  (⟨some 58, .move (.t 7), some (57, true), []⟩, [7]),
  (⟨some 59, .buildSlice [.int .i64 0] 1 [(0, .c (.p (.int .i64 1)))], some (57, true), []⟩, []),
  (⟨some 60, .call false 30 [.t 58, .t 59], some (57, true), []⟩, [58, 59]),
  (⟨some 61, .pick (.t 57) (.t 60) (.c (.p (.bool false))), none, []⟩, [57, 60]),
  (⟨some 62, .move (.t 61), none, []⟩, [61]),
  (⟨some 63, .move (.t 9), some (62, true), []⟩, [9]),
  (⟨some 64, .bin .eql (.t 63) (.c (.p (.int .i64 0))), some (62, true), []⟩, [63]),
  (⟨some 65, .pick (.t 62) (.t 64) (.c (.p (.bool false))), none, []⟩, [62, 64]),
  (⟨some 0, .move (.t 65), none, []⟩, [65])])
  .ret)))))⟩

/-- clockwork/admit.Select -/
@[irreducible] def a22_l0 : ACode :=
  (.seq (.regionK false [
  (⟨some 57, .bin .lss (.t 56) (.t 55), none, []⟩, [])])
  (.seq (.cond (.t 57)
  .skip
  (.ghost (.forget [3, 4, 14, 54, 55, 56, 57]) (.ghost (.free [5]) (.ghost .lower (.exit 0)))))
  (.seq (.block 1
  (.seq (.regionK false [
    (⟨some 58, .move (.t 56), none, []⟩, [57]),
    (⟨some 59, .indexAddr 8 (.t 54) (.t 56), none, []⟩, []),
    (⟨some 60, .load (some 8) (.t 59), none, []⟩, [59]),
    (⟨some 19, .alloc [.int .i64 0, .int .i64 0, .str ⟨#[]⟩, .slice true [], .bool false, .bool false, .slice true [], .slice true []], none, []⟩, []),
    (⟨some 18, .move (.t 58), none, []⟩, [58]),
    (⟨none, .store 8 (.t 19) (.t 60), none, []⟩, [60])])
    (.seq (.regionK false [
    (⟨some 61, .move (.t 18), none, []⟩, []),
    (⟨some 62, .move (.t 4), none, []⟩, []),
    (⟨some 63, .bin .geq (.t 61) (.t 62), none, []⟩, [61, 62]),
    (⟨some 20, .move (.t 63), none, []⟩, [63])])
    (.block 2
    (.seq (.regionK true [
      (⟨some 75, .move (.t 20), none, []⟩, []),
      (⟨some 76, .move (.t 75), none, [0]⟩, [75]),
      (⟨some 77, .move (.t 14), some (76, true), [0, 1]⟩, []),
      (⟨some 78, .nilCheck (.t 77), some (76, true), [0, 1, 2]⟩, [77]),
      (⟨some 79, .fieldAddr 8 (.t 78), some (76, true), [0, 1, 2, 3]⟩, [78]),
      (⟨some 80, .load none (.t 79), some (76, true), [0, 1, 2, 3, 4]⟩, [79]),
      (⟨some 81, .fieldAddr 0 (.t 19), some (76, true), [0, 1]⟩, []),
      (⟨some 82, .load none (.t 81), some (76, true), [0, 1, 6]⟩, [81]),
      (⟨some 83, .lookup (.bool false) (.t 80) (.t 82), some (76, true), [0, 1, 2, 3, 4, 5, 6, 7]⟩, [80, 82]),
      (⟨some 84, .pick (.t 76) (.t 83) (.c (.p (.bool false))), none, [0, 1, 2, 3, 4, 5, 6, 7, 8]⟩, [76, 83]),
      (⟨some 74, .move (.t 84), none, [0, 1, 2, 3, 4, 5, 6, 7, 8, 9]⟩, [84])])
      (.cond (.t 74)
      (.regionK false [
        (⟨some 85, .move (.t 17), none, []⟩, [20, 74]),
        (⟨some 86, .move (.t 18), none, []⟩, [18]),
        (⟨some 87, .buildSlice [.int .i64 0] 1 [(0, .t 86)], none, []⟩, [86]),
        (⟨some 88, .append 8 1 (.t 85) (.t 87), none, []⟩, [85, 87]),
        (⟨some 17, .move (.t 88), none, []⟩, [88])])
      (.seq (.regionK true [
        (⟨some 90, .move (.t 14), none, []⟩, [74]),
        (⟨some 91, .fieldAddr 0 (.t 19), none, []⟩, []),
        (⟨some 92, .load none (.t 91), none, [1]⟩, [91]),
        (⟨some 93, .move (.t 3), none, []⟩, []),
        (⟨some 94, .move (.t 18), none, []⟩, []),
        (⟨some 95, .indexAddr 3 (.t 93) (.t 94), none, [3, 4]⟩, [93, 94]),
        (⟨some 96, .load (some 3) (.t 95), none, [3, 4, 5]⟩, [95]),
        (⟨some 97, .call true 56 [.t 90, .t 92, .t 96], none, [0, 1, 2, 3, 4, 5, 6]⟩, [90, 92, 96]),
        (⟨some 89, .move (.t 97), none, [0, 1, 2, 3, 4, 5, 6, 7]⟩, [97])])
        (.cond (.t 89)
        (.seq (.regionK false [
          (⟨some 98, .move (.t 15), none, []⟩, [20, 89]),
          (⟨some 99, .move (.t 18), none, []⟩, []),
          (⟨some 100, .buildSlice [.int .i64 0] 1 [(0, .t 99)], none, []⟩, [99]),
          (⟨some 101, .append 8 1 (.t 98) (.t 100), none, []⟩, [98, 100]),
          (⟨some 15, .move (.t 101), none, []⟩, [101])])
          (.seq (.regionK true [
          (⟨some 102, .move (.t 14), none, []⟩, []),
          (⟨some 103, .move (.t 14), none, []⟩, []),
          (⟨some 104, .nilCheck (.t 103), none, [1]⟩, [103]),
          (⟨some 105, .fieldAddr 5 (.t 104), none, [1, 2]⟩, [104]),
          (⟨some 106, .load none (.t 105), none, [1, 2, 3]⟩, [105]),
          (⟨some 107, .move (.t 3), none, []⟩, []),
          (⟨some 108, .move (.t 18), none, []⟩, [18]),
          (⟨some 109, .indexAddr 3 (.t 107) (.t 108), none, [5, 6]⟩, [107, 108]),
          (⟨some 110, .load (some 3) (.t 109), none, [5, 6, 7]⟩, [109]),
          (⟨some 111, .buildSlice [.bool false, .slice true [], .slice true []] 1 [(0, .t 110)], none, [5, 6, 7, 8]⟩, [110]),
          (⟨some 112, .append 56 3 (.t 106) (.t 111), none, [1, 2, 3, 4, 5, 6, 7, 8, 9]⟩, [106, 111]),
          (⟨some 113, .nilCheck (.t 102), none, [0, 1, 2, 3, 4, 5, 6, 7, 8, 9, 10]⟩, [102]),
          (⟨some 114, .fieldAddr 5 (.t 113), none, [0, 1, 2, 3, 4, 5, 6, 7, 8, 9, 10, 11]⟩, [113]),
          (⟨none, .store 1 (.t 114) (.t 112), none, [0, 1, 2, 3, 4, 5, 6, 7, 8, 9, 10, 11, 12]⟩, [112, 114])])
          (.regionK true [
          (⟨some 115, .move (.t 14), none, []⟩, []),
          (⟨some 116, .nilCheck (.t 115), none, [0]⟩, [115]),
          (⟨some 117, .fieldAddr 6 (.t 116), none, [0, 1]⟩, [116]),
          (⟨some 118, .load none (.t 117), none, [0, 1, 2]⟩, [117]),
          (⟨some 119, .fieldAddr 0 (.t 19), none, []⟩, []),
          (⟨some 120, .load none (.t 119), none, [4]⟩, [119]),
          (⟨some 121, .lookup (.int .i64 0) (.t 118) (.t 120), none, [0, 1, 2, 3, 4, 5]⟩, []),
          (⟨some 122, .bin .add (.t 121) (.c (.p (.int .i64 1))), none, [0, 1, 2, 3, 4, 5, 6]⟩, [121]),
          (⟨none, .mapSet (.t 118) (.t 120) (.t 122), none, [0, 1, 2, 3, 4, 5, 6, 7]⟩, [118, 120, 122])])))
        (.seq (.regionK false [
          (⟨some 124, .move (.t 20), none, []⟩, [20, 89]),
          (⟨some 125, .move (.t 124), none, []⟩, [124]),
          (⟨some 126, .move (.t 16), some (125, true), []⟩, []),
          (⟨some 127, .len (.t 126), some (125, true), []⟩, [126]),
          (⟨some 128, .fieldAddr 3 (.t 5), some (125, true), []⟩, []),
          (⟨some 129, .load none (.t 128), some (125, true), []⟩, [128]),
          (⟨some 130, .bin .geq (.t 127) (.t 129), some (125, true), []⟩, [127, 129]),
          (⟨some 131, .pick (.t 125) (.t 130) (.c (.p (.bool false))), none, []⟩, [125, 130]),
          (⟨some 123, .move (.t 131), none, []⟩, [131])])
          (.cond (.t 123)
          (.seq (.regionK false [
            (⟨some 132, .move (.t 17), none, []⟩, [123]),
            (⟨some 133, .move (.t 18), none, []⟩, [18]),
            (⟨some 134, .buildSlice [.int .i64 0] 1 [(0, .t 133)], none, []⟩, [133]),
            (⟨some 135, .append 8 1 (.t 132) (.t 134), none, []⟩, [132, 134]),
            (⟨some 17, .move (.t 135), none, []⟩, [135])])
            (.regionK true [
            (⟨some 136, .move (.t 14), none, []⟩, []),
            (⟨some 137, .nilCheck (.t 136), none, [0]⟩, [136]),
            (⟨some 138, .fieldAddr 8 (.t 137), none, [0, 1]⟩, [137]),
            (⟨some 139, .load none (.t 138), none, [0, 1, 2]⟩, [138]),
            (⟨some 140, .fieldAddr 0 (.t 19), none, []⟩, []),
            (⟨some 141, .load none (.t 140), none, [4]⟩, [140]),
            (⟨none, .mapSet (.t 139) (.t 141) (.c (.p (.bool true))), none, [0, 1, 2, 3, 4, 5]⟩, [139, 141])]))
          (.seq (.regionK false [
            (⟨some 64, .move (.t 16), none, []⟩, [123]),
            (⟨some 65, .move (.t 18), none, []⟩, [18]),
            (⟨some 66, .buildSlice [.int .i64 0] 1 [(0, .t 65)], none, []⟩, [65]),
            (⟨some 67, .append 8 1 (.t 64) (.t 66), none, []⟩, [64, 66]),
            (⟨some 16, .move (.t 67), none, []⟩, [67])])
            (.regionK true [
            (⟨some 68, .move (.t 14), none, []⟩, []),
            (⟨some 69, .nilCheck (.t 68), none, [0]⟩, [68]),
            (⟨some 70, .fieldAddr 7 (.t 69), none, [0, 1]⟩, [69]),
            (⟨some 71, .load none (.t 70), none, [0, 1, 2]⟩, [70]),
            (⟨some 72, .fieldAddr 0 (.t 19), none, []⟩, []),
            (⟨some 73, .load none (.t 72), none, [4]⟩, [72]),
            (⟨none, .mapSet (.t 71) (.t 73) (.c (.p (.bool true))), none, [0, 1, 2, 3, 4, 5]⟩, [71, 73])]))))))))))))
  (.regionK false [
  (⟨some 142, .bin .add (.t 56) (.c (.p (.int .i64 1))), none, []⟩, []),
  (⟨some 56, .move (.t 142), none, []⟩, [142])]))))

def a22 : AFunc := ⟨146, 5, [.tmp 10, .tmp 11, .tmp 12, .tmp 13],
  (.seq (.regionK false [
  (⟨some 5, .box (.t 0), none, []⟩, [0]),
  (⟨some 10, .move (.c (.p (.slice true []))), none, []⟩, [10]),
  (⟨some 11, .move (.c (.p (.slice true []))), none, []⟩, [11]),
  (⟨some 12, .move (.c (.p (.slice true []))), none, []⟩, [12]),
  (⟨some 13, .move (.c (.p (.int .i64 0))), none, []⟩, [13])])
  (.seq (.seq (.regionK false [
  (⟨some 21, .load (some 4) (.t 5), none, []⟩, []),
  (⟨some 22, .call false 25 [.t 21], none, []⟩, [21]),
  (⟨some 23, .un .not (.t 22), none, []⟩, [22]),
  (⟨some 24, .move (.t 23), none, []⟩, [23]),
  (⟨some 25, .move (.t 2), some (24, false), []⟩, []),
  (⟨some 26, .len (.t 25), some (24, false), []⟩, [25]),
  (⟨some 27, .move (.t 3), some (24, false), []⟩, []),
  (⟨some 28, .len (.t 27), some (24, false), []⟩, [27]),
  (⟨some 29, .bin .neq (.t 26) (.t 28), some (24, false), []⟩, [26, 28]),
  (⟨some 30, .pick (.t 24) (.c (.p (.bool true))) (.t 29), none, []⟩, [24, 29]),
  (⟨some 31, .move (.t 30), none, []⟩, [30]),
  (⟨some 32, .move (.t 4), some (31, false), []⟩, []),
  (⟨some 33, .bin .lss (.t 32) (.c (.p (.int .i64 0))), some (31, false), []⟩, [32]),
  (⟨some 34, .pick (.t 31) (.c (.p (.bool true))) (.t 33), none, []⟩, [31, 33]),
  (⟨some 35, .move (.t 34), none, []⟩, [34]),
  (⟨some 36, .move (.t 4), some (35, false), []⟩, []),
  (⟨some 37, .move (.t 2), some (35, false), []⟩, []),
  (⟨some 38, .len (.t 37), some (35, false), []⟩, [37]),
  (⟨some 39, .bin .gtr (.t 36) (.t 38), some (35, false), []⟩, [36, 38]),
  (⟨some 40, .pick (.t 35) (.c (.p (.bool true))) (.t 39), none, []⟩, [35, 39]),
  (⟨some 41, .move (.t 40), none, []⟩, [40]),
  (⟨some 42, .move (.t 4), some (41, false), []⟩, []),
  (⟨some 43, .fieldAddr 3 (.t 5), some (41, false), []⟩, []),
  (⟨some 44, .load none (.t 43), some (41, false), []⟩, [43]),
  (⟨some 45, .bin .gtr (.t 42) (.t 44), some (41, false), []⟩, [42, 44]),
  (⟨some 46, .pick (.t 41) (.c (.p (.bool true))) (.t 45), none, []⟩, [41, 45])])
  (.cond (.t 46)
  (.seq (.regionK false [
    (⟨some 10, .move (.c (.p (.slice true []))), none, []⟩, [1, 2, 3, 4, 46]),
    (⟨some 11, .move (.c (.p (.slice true []))), none, []⟩, []),
    (⟨some 12, .move (.c (.p (.slice true []))), none, []⟩, []),
    (⟨some 13, .move (.c (.p (.int .i64 1))), none, []⟩, [])])
    .ret)
  .skip))
  (.seq (.regionK false [
  (⟨some 47, .load (some 4) (.t 5), none, []⟩, [46]),
  (⟨some 48, .move (.t 1), none, []⟩, [1]),
  (⟨some 49, .makeMap, none, []⟩, []),
  (⟨some 50, .makeMap, none, []⟩, []),
  (⟨some 51, .makeMap, none, []⟩, []),
  (⟨some 52, .build [.int .i64 0, .int .i64 0, .int .i64 0, .int .i64 0, .slice true [], .slice true [], .undef, .undef, .undef] [(0, 4, .t 47), (4, 1, .t 48), (6, 1, .t 49), (7, 1, .t 50), (8, 1, .t 51)], none, []⟩, [47, 48, 49, 50, 51]),
  (⟨some 53, .box (.t 52), none, []⟩, [52]),
  (⟨some 14, .move (.t 53), none, []⟩, [53])])
  (.ghost (.ownIn 3 14 5) (.seq (.regionK false [
  (⟨some 15, .move (.c (.p (.slice true []))), none, []⟩, []),
  (⟨some 16, .move (.c (.p (.slice true []))), none, []⟩, []),
  (⟨some 17, .move (.c (.p (.slice true []))), none, []⟩, [])])
  (.ghost (.own 1 17) (.ghost (.own 1 16) (.ghost (.own 1 15) (.seq (.seq (.regionK false [
  (⟨some 54, .move (.t 2), none, []⟩, [2]),
  (⟨some 55, .len (.t 54), none, []⟩, []),
  (⟨some 56, .move (.c (.p (.int .i64 0))), none, []⟩, [])])
  (.block 0
  (.loop
    (.ghost (.free [19]) (.ghost .lower a22_l0)))))
  (.seq (.regionK false [
  (⟨some 143, .move (.t 15), none, []⟩, [15]),
  (⟨some 144, .move (.t 16), none, []⟩, [16]),
  (⟨some 145, .move (.t 17), none, []⟩, [17]),
  (⟨some 10, .move (.t 143), none, []⟩, [143]),
  (⟨some 11, .move (.t 144), none, []⟩, [144]),
  (⟨some 12, .move (.t 145), none, []⟩, [145]),
  (⟨some 13, .move (.c (.p (.int .i64 0))), none, []⟩, [])])
  .ret))))))))))⟩

/-- clockwork/clockworklaw38.place -/
@[irreducible] def a23_l0 : ACode :=
  (.seq (.seq (.regionK false [
  (⟨some 27, .move (.t 14), none, []⟩, []),
  (⟨some 28, .move (.t 13), none, []⟩, []),
  (⟨some 29, .len (.t 28), none, []⟩, [28]),
  (⟨some 30, .bin .lss (.t 27) (.t 29), none, []⟩, [27, 29])])
  (.cond (.t 30)
  .skip
  (.ghost (.forget [13, 14, 30]) (.ghost .lower (.exit 2)))))
  (.seq (.block 3
  (.seq (.seq (.regionK false [
    (⟨some 33, .move (.t 13), none, []⟩, [30]),
    (⟨some 34, .move (.t 14), none, []⟩, []),
    (⟨some 35, .indexAddr 1 (.t 33) (.t 34), none, []⟩, [33, 34]),
    (⟨some 36, .load none (.t 35), none, []⟩, [35]),
    (⟨some 37, .move (.t 3), none, []⟩, []),
    (⟨some 38, .bin .eql (.t 36) (.t 37), none, []⟩, [36, 37])])
    (.cond (.t 38)
    (.seq (.regionK false [
      (⟨some 39, .move (.t 10), none, []⟩, [11, 38]),
      (⟨some 40, .bin .add (.t 39) (.c (.p (.int .i64 1))), none, []⟩, [39]),
      (⟨some 10, .move (.t 40), none, []⟩, [40])])
      (.regionK false [
      (⟨some 41, .move (.t 12), none, []⟩, []),
      (⟨some 42, .bin .add (.t 41) (.c (.p (.int .i64 1))), none, []⟩, [41]),
      (⟨some 11, .move (.t 42), none, []⟩, [42])]))
    .skip))
    (.seq (.regionK true [
    (⟨some 43, .move (.t 14), none, []⟩, [38]),
    (⟨some 44, .bin .gtr (.t 43) (.c (.p (.int .i64 0))), none, [0]⟩, [43]),
    (⟨some 45, .move (.t 44), none, [0, 1]⟩, [44]),
    (⟨some 46, .move (.t 13), some (45, true), [0, 1, 2]⟩, []),
    (⟨some 47, .move (.t 14), some (45, true), [0, 1, 2]⟩, []),
    (⟨some 48, .indexAddr 1 (.t 46) (.t 47), some (45, true), [0, 1, 2, 3, 4]⟩, [46, 47]),
    (⟨some 49, .load none (.t 48), some (45, true), [0, 1, 2, 3, 4, 5]⟩, [48]),
    (⟨some 50, .move (.t 13), some (45, true), [0, 1, 2]⟩, []),
    (⟨some 51, .move (.t 14), some (45, true), [0, 1, 2]⟩, []),
    (⟨some 52, .bin .sub (.t 51) (.c (.p (.int .i64 1))), some (45, true), [0, 1, 2, 8]⟩, [51]),
    (⟨some 53, .indexAddr 1 (.t 50) (.t 52), some (45, true), [0, 1, 2, 7, 8, 9]⟩, [50, 52]),
    (⟨some 54, .load none (.t 53), some (45, true), [0, 1, 2, 7, 8, 9, 10]⟩, [53]),
    (⟨some 55, .bin .leq (.t 49) (.t 54), some (45, true), [0, 1, 2, 3, 4, 5, 6, 7, 8, 9, 10, 11]⟩, [49, 54]),
    (⟨some 56, .pick (.t 45) (.t 55) (.c (.p (.bool false))), none, [0, 1, 2, 3, 4, 5, 6, 7, 8, 9, 10, 11, 12]⟩, [45, 55])])
    (.cond (.t 56)
    (.seq (.regionK false [
      (⟨some 8, .move (.c (.p (.int .i64 0))), none, []⟩, [3, 9, 10, 11, 12, 13, 14, 56])])
      .ret)
    .skip))))
  (.regionK false [
  (⟨some 31, .move (.t 14), none, []⟩, [56]),
  (⟨some 32, .bin .add (.t 31) (.c (.p (.int .i64 1))), none, []⟩, [31]),
  (⟨some 14, .move (.t 32), none, []⟩, [32])])))

@[irreducible] def a23_l1 : ACode :=
  (.seq (.seq (.regionK false [
  (⟨some 19, .move (.t 12), none, []⟩, []),
  (⟨some 20, .bin .lss (.t 19) (.c (.p (.int .i64 3))), none, []⟩, [19])])
  (.cond (.t 20)
  .skip
  (.ghost (.forget [3, 9, 12, 20]) (.ghost .lower (.exit 0)))))
  (.seq (.block 1
  (.seq (.regionK false [
    (⟨some 23, .move (.t 9), none, []⟩, [20]),
    (⟨some 24, .move (.t 12), none, []⟩, []),
    (⟨some 25, .indexAddr 1 (.t 23) (.t 24), none, []⟩, [23, 24]),
    (⟨some 26, .load none (.t 25), none, []⟩, [25]),
    (⟨some 13, .move (.t 26), none, []⟩, [26])])
    (.seq (.regionK false [
    (⟨some 14, .move (.c (.p (.int .i64 0))), none, []⟩, [])])
    (.block 2
    (.loop
      (.ghost .lower a23_l0))))))
  (.regionK false [
  (⟨some 21, .move (.t 12), none, []⟩, []),
  (⟨some 22, .bin .add (.t 21) (.c (.p (.int .i64 1))), none, []⟩, [21]),
  (⟨some 12, .move (.t 22), none, []⟩, [22])])))

def a23 : AFunc := ⟨60, 4, [.tmp 8],
  (.seq (.regionK false [
  (⟨some 8, .move (.c (.p (.int .i64 0))), none, []⟩, [8])])
  (.seq (.regionK false [
  (⟨some 15, .move (.t 0), none, []⟩, [0]),
  (⟨some 16, .move (.t 1), none, []⟩, [1]),
  (⟨some 17, .move (.t 2), none, []⟩, [2]),
  (⟨some 18, .buildSlice [.slice true []] 3 [(0, .t 15), (1, .t 16), (2, .t 17)], none, []⟩, [15, 16, 17]),
  (⟨some 9, .move (.t 18), none, []⟩, [18])])
  (.seq (.regionK false [
  (⟨some 10, .move (.c (.p (.int .i64 0))), none, []⟩, [])])
  (.seq (.regionK false [
  (⟨some 11, .move (.c (.p (.int .i64 0))), none, []⟩, [])])
  (.seq (.seq (.regionK false [
  (⟨some 12, .move (.c (.p (.int .i64 0))), none, []⟩, [])])
  (.block 0
  (.loop
    (.ghost .lower a23_l1))))
  (.seq (.seq (.regionK false [
  (⟨some 57, .move (.t 10), none, []⟩, [10]),
  (⟨some 58, .bin .neq (.t 57) (.c (.p (.int .i64 1))), none, []⟩, [57])])
  (.cond (.t 58)
  (.seq (.regionK false [
    (⟨some 8, .move (.c (.p (.int .i64 0))), none, []⟩, [11, 58])])
    .ret)
  .skip))
  (.seq (.regionK false [
  (⟨some 59, .move (.t 11), none, []⟩, [11, 58]),
  (⟨some 8, .move (.t 59), none, []⟩, [59])])
  .ret)))))))⟩

/-- clockwork/clockworkref38.Few -/
@[irreducible] def a24_l0 : ACode :=
  (.seq (.seq (.regionK false [
  (⟨some 34, .move (.t 8), none, []⟩, []),
  (⟨some 35, .move (.t 2), none, []⟩, []),
  (⟨some 36, .len (.t 35), none, []⟩, [35]),
  (⟨some 37, .bin .lss (.t 34) (.t 36), none, []⟩, [34, 36])])
  (.cond (.t 37)
  .skip
  (.ghost (.forget [2, 8, 37]) (.ghost .lower (.exit 2)))))
  (.seq (.block 3
  (.seq (.regionK false [
    (⟨some 40, .move (.t 2), none, []⟩, [37]),
    (⟨some 41, .move (.t 8), none, []⟩, []),
    (⟨some 42, .indexAddr 3 (.t 40) (.t 41), none, []⟩, [40, 41]),
    (⟨some 43, .load (some 3) (.t 42), none, []⟩, [42]),
    (⟨some 44, .call false 50 [.t 43, .c (.p (.int .i64 8))], none, []⟩, [43]),
    (⟨some 45, .un .not (.t 44), none, []⟩, [44])])
    (.cond (.t 45)
    (.seq (.regionK false [
      (⟨some 6, .move (.c (.p (.bool false))), none, []⟩, [2, 8, 45])])
      .ret)
    .skip)))
  (.regionK false [
  (⟨some 38, .move (.t 8), none, []⟩, [45]),
  (⟨some 39, .bin .add (.t 38) (.c (.p (.int .i64 1))), none, []⟩, [38]),
  (⟨some 8, .move (.t 39), none, []⟩, [39])])))

@[irreducible] def a24_l1 : ACode :=
  (.seq (.seq (.regionK false [
  (⟨some 22, .move (.t 7), none, []⟩, []),
  (⟨some 23, .move (.t 0), none, []⟩, []),
  (⟨some 24, .len (.t 23), none, []⟩, [23]),
  (⟨some 25, .bin .lss (.t 22) (.t 24), none, []⟩, [22, 24])])
  (.cond (.t 25)
  .skip
  (.ghost (.forget [0, 7, 25]) (.ghost .lower (.exit 0)))))
  (.seq (.block 1
  (.seq (.regionK false [
    (⟨some 28, .move (.t 0), none, []⟩, [25]),
    (⟨some 29, .move (.t 7), none, []⟩, []),
    (⟨some 30, .indexAddr 1 (.t 28) (.t 29), none, []⟩, [28, 29]),
    (⟨some 31, .load none (.t 30), none, []⟩, [30]),
    (⟨some 32, .lenS (.t 31), none, []⟩, [31]),
    (⟨some 33, .bin .gtr (.t 32) (.c (.p (.int .i64 100))), none, []⟩, [32])])
    (.cond (.t 33)
    (.seq (.regionK false [
      (⟨some 6, .move (.c (.p (.bool false))), none, []⟩, [0, 2, 7, 33])])
      .ret)
    .skip)))
  (.regionK false [
  (⟨some 26, .move (.t 7), none, []⟩, [33]),
  (⟨some 27, .bin .add (.t 26) (.c (.p (.int .i64 1))), none, []⟩, [26]),
  (⟨some 7, .move (.t 27), none, []⟩, [27])])))

def a24 : AFunc := ⟨46, 3, [.tmp 6],
  (.seq (.regionK false [
  (⟨some 6, .move (.c (.p (.bool false))), none, []⟩, [6])])
  (.seq (.seq (.regionK false [
  (⟨some 9, .move (.t 0), none, []⟩, []),
  (⟨some 10, .len (.t 9), none, []⟩, [9]),
  (⟨some 11, .bin .gtr (.t 10) (.c (.p (.int .i64 8))), none, []⟩, [10]),
  (⟨some 12, .move (.t 11), none, []⟩, [11]),
  (⟨some 13, .move (.t 1), some (12, false), []⟩, [1]),
  (⟨some 14, .len (.t 13), some (12, false), []⟩, [13]),
  (⟨some 15, .bin .gtr (.t 14) (.c (.p (.int .i64 16))), some (12, false), []⟩, [14]),
  (⟨some 16, .pick (.t 12) (.c (.p (.bool true))) (.t 15), none, []⟩, [12, 15]),
  (⟨some 17, .move (.t 16), none, []⟩, [16]),
  (⟨some 18, .move (.t 2), some (17, false), []⟩, []),
  (⟨some 19, .len (.t 18), some (17, false), []⟩, [18]),
  (⟨some 20, .bin .gtr (.t 19) (.c (.p (.int .i64 16))), some (17, false), []⟩, [19]),
  (⟨some 21, .pick (.t 17) (.c (.p (.bool true))) (.t 20), none, []⟩, [17, 20])])
  (.cond (.t 21)
  (.seq (.regionK false [
    (⟨some 6, .move (.c (.p (.bool false))), none, []⟩, [0, 2, 21])])
    .ret)
  .skip))
  (.seq (.seq (.regionK false [
  (⟨some 7, .move (.c (.p (.int .i64 0))), none, []⟩, [21])])
  (.block 0
  (.loop
    (.ghost .lower a24_l1))))
  (.seq (.seq (.regionK false [
  (⟨some 8, .move (.c (.p (.int .i64 0))), none, []⟩, [])])
  (.block 2
  (.loop
    (.ghost .lower a24_l0))))
  (.seq (.regionK false [
  (⟨some 6, .move (.c (.p (.bool true))), none, []⟩, [])])
  .ret)))))⟩

/-- clockwork/admit.ValidQuota -/
@[irreducible] def a25_l0 : ACode :=
  (.seq (.regionK false [
  (⟨some 13, .bin .lss (.t 12) (.c (.p (.int .i64 3))), none, []⟩, [])])
  (.seq (.cond (.t 13)
  .skip
  (.ghost (.forget [11, 12, 13]) (.ghost .lower (.exit 0))))
  (.seq (.block 1
  (.seq (.regionK false [
    (⟨some 14, .arrIndex 3 (.t 11) (.t 12), none, []⟩, [13]),
    (⟨some 4, .move (.t 14), none, []⟩, [14])])
    (.seq (.regionK false [
    (⟨some 15, .move (.t 4), none, []⟩, []),
    (⟨some 16, .bin .lss (.t 15) (.c (.p (.int .i64 1))), none, []⟩, [15]),
    (⟨some 17, .move (.t 16), none, []⟩, [16]),
    (⟨some 18, .move (.t 4), some (17, false), []⟩, [4]),
    (⟨some 19, .bin .gtr (.t 18) (.c (.p (.int .i64 32))), some (17, false), []⟩, [18]),
    (⟨some 20, .pick (.t 17) (.c (.p (.bool true))) (.t 19), none, []⟩, [17, 19])])
    (.cond (.t 20)
    (.seq (.regionK false [
      (⟨some 2, .move (.c (.p (.bool false))), none, []⟩, [11, 12, 20])])
      .ret)
    .skip))))
  (.regionK false [
  (⟨some 21, .bin .add (.t 12) (.c (.p (.int .i64 1))), none, []⟩, [20]),
  (⟨some 12, .move (.t 21), none, []⟩, [21])]))))

def a25 : AFunc := ⟨30, 1, [.tmp 2],
  (.seq (.regionK false [
  (⟨some 1, .box (.t 0), none, []⟩, [0]),
  (⟨some 2, .move (.c (.p (.bool false))), none, []⟩, [2])])
  (.seq (.seq (.regionK false [
  (⟨some 5, .fieldAddr 0 (.t 1), none, []⟩, []),
  (⟨some 6, .load none (.t 5), none, []⟩, [5]),
  (⟨some 7, .fieldAddr 1 (.t 1), none, []⟩, []),
  (⟨some 8, .load none (.t 7), none, []⟩, [7]),
  (⟨some 9, .fieldAddr 2 (.t 1), none, []⟩, []),
  (⟨some 10, .load none (.t 9), none, []⟩, [9]),
  (⟨some 11, .build [.int .i64 0, .int .i64 0, .int .i64 0] [(0, 1, .t 6), (1, 1, .t 8), (2, 1, .t 10)], none, []⟩, [6, 8, 10]),
  (⟨some 12, .move (.c (.p (.int .i64 0))), none, []⟩, [])])
  (.block 0
  (.loop
    (.ghost .lower a25_l0))))
  (.seq (.regionK false [
  (⟨some 22, .fieldAddr 3 (.t 1), none, []⟩, []),
  (⟨some 23, .load none (.t 22), none, []⟩, [22]),
  (⟨some 24, .bin .geq (.t 23) (.c (.p (.int .i64 0))), none, []⟩, [23]),
  (⟨some 25, .move (.t 24), none, []⟩, [24]),
  (⟨some 26, .fieldAddr 3 (.t 1), some (25, true), []⟩, []),
  (⟨some 27, .load none (.t 26), some (25, true), []⟩, [26]),
  (⟨some 28, .bin .leq (.t 27) (.c (.p (.int .i64 64))), some (25, true), []⟩, [27]),
  (⟨some 29, .pick (.t 25) (.t 28) (.c (.p (.bool false))), none, []⟩, [25, 28]),
  (⟨some 2, .move (.t 29), none, []⟩, [29])])
  .ret)))⟩

/-- clockwork/clockworkref38.ValidQuota -/
def a26 : AFunc := ⟨41, 1, [.tmp 2],
  (.seq (.regionK false [
  (⟨some 1, .box (.t 0), none, []⟩, [0]),
  (⟨some 2, .move (.c (.p (.bool false))), none, []⟩, [2])])
  (.seq (.regionK false [
  (⟨some 3, .fieldAddr 0 (.t 1), none, []⟩, []),
  (⟨some 4, .load none (.t 3), none, []⟩, [3]),
  (⟨some 5, .bin .geq (.t 4) (.c (.p (.int .i64 1))), none, []⟩, [4]),
  (⟨some 6, .move (.t 5), none, []⟩, [5]),
  (⟨some 7, .fieldAddr 0 (.t 1), some (6, true), []⟩, []),
  (⟨some 8, .load none (.t 7), some (6, true), []⟩, [7]),
  (⟨some 9, .bin .leq (.t 8) (.c (.p (.int .i64 32))), some (6, true), []⟩, [8]),
  (⟨some 10, .pick (.t 6) (.t 9) (.c (.p (.bool false))), none, []⟩, [6, 9]),
  (⟨some 11, .move (.t 10), none, []⟩, [10]),
  (⟨some 12, .fieldAddr 1 (.t 1), some (11, true), []⟩, []),
  (⟨some 13, .load none (.t 12), some (11, true), []⟩, [12]),
  (⟨some 14, .bin .geq (.t 13) (.c (.p (.int .i64 1))), some (11, true), []⟩, [13]),
  (⟨some 15, .pick (.t 11) (.t 14) (.c (.p (.bool false))), none, []⟩, [11, 14]),
  (⟨some 16, .move (.t 15), none, []⟩, [15]),
  (⟨some 17, .fieldAddr 1 (.t 1), some (16, true), []⟩, []),
  (⟨some 18, .load none (.t 17), some (16, true), []⟩, [17]),
  (⟨some 19, .bin .leq (.t 18) (.c (.p (.int .i64 32))), some (16, true), []⟩, [18]),
  (⟨some 20, .pick (.t 16) (.t 19) (.c (.p (.bool false))), none, []⟩, [16, 19]),
  (⟨some 21, .move (.t 20), none, []⟩, [20]),
  (⟨some 22, .fieldAddr 2 (.t 1), some (21, true), []⟩, []),
  (⟨some 23, .load none (.t 22), some (21, true), []⟩, [22]),
  (⟨some 24, .bin .geq (.t 23) (.c (.p (.int .i64 1))), some (21, true), []⟩, [23]),
  (⟨some 25, .pick (.t 21) (.t 24) (.c (.p (.bool false))), none, []⟩, [21, 24]),
  (⟨some 26, .move (.t 25), none, []⟩, [25]),
  (⟨some 27, .fieldAddr 2 (.t 1), some (26, true), []⟩, []),
  (⟨some 28, .load none (.t 27), some (26, true), []⟩, [27]),
  (⟨some 29, .bin .leq (.t 28) (.c (.p (.int .i64 32))), some (26, true), []⟩, [28]),
  (⟨some 30, .pick (.t 26) (.t 29) (.c (.p (.bool false))), none, []⟩, [26, 29]),
  (⟨some 31, .move (.t 30), none, []⟩, [30]),
  (⟨some 32, .fieldAddr 3 (.t 1), some (31, true), []⟩, []),
  (⟨some 33, .load none (.t 32), some (31, true), []⟩, [32]),
  (⟨some 34, .bin .geq (.t 33) (.c (.p (.int .i64 0))), some (31, true), []⟩, [33]),
  (⟨some 35, .pick (.t 31) (.t 34) (.c (.p (.bool false))), none, []⟩, [31, 34]),
  (⟨some 36, .move (.t 35), none, []⟩, [35]),
  (⟨some 37, .fieldAddr 3 (.t 1), some (36, true), []⟩, []),
  (⟨some 38, .load none (.t 37), some (36, true), []⟩, [37]),
  (⟨some 39, .bin .leq (.t 38) (.c (.p (.int .i64 64))), some (36, true), []⟩, [38]),
  (⟨some 40, .pick (.t 36) (.t 39) (.c (.p (.bool false))), none, []⟩, [36, 39]),
  (⟨some 2, .move (.t 40), none, []⟩, [40])])
  .ret))⟩

/-- clockwork/admit.Blocked -/
@[irreducible] def a27_l0 : ACode :=
  (.seq (.regionK false [
  (⟨some 27, .bin .lss (.t 26) (.t 25), none, []⟩, [])])
  (.seq (.cond (.t 27)
  .skip
  (.ghost (.forget [10, 24, 25, 26, 27]) (.ghost .lower (.exit 2))))
  (.seq (.block 3
  (.seq (.regionK false [
    (⟨some 28, .indexAddr 3 (.t 24) (.t 26), none, []⟩, [27]),
    (⟨some 29, .load (some 3) (.t 28), none, []⟩, [28]),
    (⟨some 13, .alloc [.bool false, .slice true [], .slice true []], none, []⟩, []),
    (⟨none, .store 3 (.t 13) (.t 29), none, []⟩, [29])])
    (.seq (.regionK false [
    (⟨some 30, .load (some 3) (.t 13), none, []⟩, []),
    (⟨some 31, .move (.t 10), none, []⟩, []),
    (⟨some 32, .call false 57 [.t 30, .t 31], none, []⟩, [30, 31])])
    (.cond (.t 32)
    (.regionK false [
      (⟨some 33, .move (.t 11), none, []⟩, [32]),
      (⟨some 34, .bin .add (.t 33) (.c (.p (.int .i64 1))), none, []⟩, [33]),
      (⟨some 11, .move (.t 34), none, []⟩, [34])])
    .skip))))
  (.regionK false [
  (⟨some 35, .bin .add (.t 26) (.c (.p (.int .i64 1))), none, []⟩, [32]),
  (⟨some 26, .move (.t 35), none, []⟩, [35])]))))

@[irreducible] def a27_l1 : ACode :=
  (.seq (.regionK false [
  (⟨some 17, .bin .lss (.t 16) (.t 15), none, []⟩, [])])
  (.seq (.cond (.t 17)
  .skip
  (.ghost (.forget [2, 14, 15, 16, 17]) (.ghost (.free [4, 7]) (.ghost .lower (.exit 0)))))
  (.seq (.block 1
  (.seq (.regionK false [
    (⟨some 18, .indexAddr 1 (.t 14) (.t 16), none, []⟩, [17]),
    (⟨some 19, .load none (.t 18), none, []⟩, [18]),
    (⟨some 10, .move (.t 19), none, []⟩, [19])])
    (.seq (.seq (.regionK false [
    (⟨some 20, .load (some 3) (.t 7), none, []⟩, []),
    (⟨some 21, .move (.t 10), none, []⟩, []),
    (⟨some 22, .call false 57 [.t 20, .t 21], none, []⟩, [20, 21]),
    (⟨some 23, .un .not (.t 22), none, []⟩, [22])])
    (.cond (.t 23)
    (.ghost (.forget [10, 23]) (.ghost .lower (.exit 1)))
    .skip))
    (.seq (.regionK false [
    (⟨some 11, .move (.c (.p (.int .i64 0))), none, []⟩, [23])])
    (.seq (.seq (.regionK false [
    (⟨some 24, .move (.t 2), none, []⟩, []),
    (⟨some 25, .len (.t 24), none, []⟩, []),
    (⟨some 26, .move (.c (.p (.int .i64 0))), none, []⟩, [])])
    (.block 2
    (.loop
      (.ghost (.free [13]) (.ghost .lower a27_l0)))))
    (.seq (.regionK false [
    (⟨some 36, .move (.t 11), none, []⟩, [11]),
    (⟨some 37, .fieldAddr 2 (.t 4), none, []⟩, []),
    (⟨some 38, .load none (.t 37), none, []⟩, [37]),
    (⟨some 39, .bin .geq (.t 36) (.t 38), none, []⟩, [36, 38])])
    (.cond (.t 39)
    (.seq (.regionK false [
      (⟨some 8, .move (.c (.p (.bool true))), none, []⟩, [2, 14, 15, 16, 39])])
      .ret)
    .skip)))))))
  (.regionK false [
  (⟨some 40, .bin .add (.t 16) (.c (.p (.int .i64 1))), none, []⟩, [39]),
  (⟨some 16, .move (.t 40), none, []⟩, [40])]))))

def a27 : AFunc := ⟨41, 4, [.tmp 8],
  (.seq (.regionK false [
  (⟨some 4, .box (.t 0), none, []⟩, [0]),
  (⟨some 7, .box (.t 3), none, []⟩, [3]),
  (⟨some 8, .move (.c (.p (.bool false))), none, []⟩, [8])])
  (.seq (.seq (.regionK false [
  (⟨some 14, .move (.t 1), none, []⟩, [1]),
  (⟨some 15, .len (.t 14), none, []⟩, []),
  (⟨some 16, .move (.c (.p (.int .i64 0))), none, []⟩, [])])
  (.block 0
  (.loop
    (.ghost .lower a27_l1))))
  (.seq (.regionK false [
  (⟨some 8, .move (.c (.p (.bool false))), none, []⟩, [])])
  .ret)))⟩

/-- clockwork/clockworkref38.Blocked -/
@[irreducible] def a28_l0 : ACode :=
  (.seq (.seq (.regionK false [
  (⟨some 13, .move (.t 10), none, []⟩, []),
  (⟨some 14, .move (.t 1), none, []⟩, []),
  (⟨some 15, .len (.t 14), none, []⟩, [14]),
  (⟨some 16, .bin .lss (.t 13) (.t 15), none, []⟩, [13, 15])])
  (.cond (.t 16)
  .skip
  (.ghost (.forget [1, 2, 9, 10, 16]) (.ghost (.free [4]) (.ghost .lower (.exit 0))))))
  (.seq (.block 1
  (.seq (.regionK true [
    (⟨some 19, .move (.t 9), none, []⟩, [16]),
    (⟨some 20, .move (.t 1), none, []⟩, []),
    (⟨some 21, .move (.t 10), none, []⟩, []),
    (⟨some 22, .indexAddr 1 (.t 20) (.t 21), none, [1, 2]⟩, [20, 21]),
    (⟨some 23, .load none (.t 22), none, [1, 2, 3]⟩, [22]),
    (⟨some 24, .call false 58 [.t 19, .t 23], none, [0, 1, 2, 3, 4]⟩, [19, 23]),
    (⟨some 25, .move (.t 24), none, [0, 1, 2, 3, 4, 5]⟩, [24]),
    (⟨some 26, .move (.t 2), some (25, true), [0, 1, 2, 3, 4, 5, 6]⟩, []),
    (⟨some 27, .move (.t 1), some (25, true), [0, 1, 2, 3, 4, 5, 6]⟩, []),
    (⟨some 28, .move (.t 10), some (25, true), [0, 1, 2, 3, 4, 5, 6]⟩, []),
    (⟨some 29, .indexAddr 1 (.t 27) (.t 28), some (25, true), [0, 1, 2, 3, 4, 5, 6, 8, 9]⟩, [27, 28]),
    (⟨some 30, .load none (.t 29), some (25, true), [0, 1, 2, 3, 4, 5, 6, 8, 9, 10]⟩, [29]),
    (⟨some 31, .call false 31 [.t 26, .t 30], some (25, true), [0, 1, 2, 3, 4, 5, 6, 7, 8, 9, 10, 11]⟩, [26, 30]),
    (⟨some 32, .fieldAddr 2 (.t 4), some (25, true), [0, 1, 2, 3, 4, 5, 6]⟩, []),
    (⟨some 33, .load none (.t 32), some (25, true), [0, 1, 2, 3, 4, 5, 6, 13]⟩, [32]),
    (⟨some 34, .bin .geq (.t 31) (.t 33), some (25, true), [0, 1, 2, 3, 4, 5, 6, 7, 8, 9, 10, 11, 12, 13, 14]⟩, [31, 33]),
    (⟨some 35, .pick (.t 25) (.t 34) (.c (.p (.bool false))), none, [0, 1, 2, 3, 4, 5, 6, 7, 8, 9, 10, 11, 12, 13, 14, 15]⟩, [25, 34])])
    (.cond (.t 35)
    (.seq (.regionK false [
      (⟨some 8, .move (.c (.p (.bool true))), none, []⟩, [1, 2, 9, 10, 35])])
      .ret)
    .skip)))
  (.regionK false [
  (⟨some 17, .move (.t 10), none, []⟩, [35]),
  (⟨some 18, .bin .add (.t 17) (.c (.p (.int .i64 1))), none, []⟩, [17]),
  (⟨some 10, .move (.t 18), none, []⟩, [18])])))

def a28 : AFunc := ⟨36, 4, [.tmp 8],
  (.seq (.regionK false [
  (⟨some 4, .box (.t 0), none, []⟩, [0]),
  (⟨some 7, .box (.t 3), none, []⟩, [3]),
  (⟨some 8, .move (.c (.p (.bool false))), none, []⟩, [8])])
  (.seq (.regionK false [
  (⟨some 11, .load (some 3) (.t 7), none, []⟩, []),
  (⟨some 12, .call false 44 [.t 11], none, []⟩, [11]),
  (⟨some 9, .move (.t 12), none, []⟩, [12])])
  (.seq (.seq (.regionK false [
  (⟨some 10, .move (.c (.p (.int .i64 0))), none, []⟩, [])])
  (.block 0
  (.loop
    (.ghost (.free [7]) (.ghost .lower a28_l0)))))
  (.seq (.regionK false [
  (⟨some 8, .move (.c (.p (.bool false))), none, []⟩, [])])
  .ret))))⟩

/-- clockwork/clockworkref38.Select -/
@[irreducible] def a29_l0 : ACode :=
  (.seq (.seq (.regionK false [
  (⟨some 48, .move (.t 18), none, []⟩, []),
  (⟨some 49, .move (.t 2), none, []⟩, []),
  (⟨some 50, .len (.t 49), none, []⟩, [49]),
  (⟨some 51, .bin .lss (.t 48) (.t 50), none, []⟩, [48, 50])])
  (.cond (.t 51)
  .skip
  (.ghost (.forget [1, 2, 3, 4, 17, 18, 51]) (.ghost (.free [5]) (.ghost .lower (.exit 0))))))
  (.seq (.block 1
  (.seq (.regionK false [
    (⟨some 54, .move (.t 2), none, []⟩, [51]),
    (⟨some 55, .move (.t 18), none, []⟩, []),
    (⟨some 56, .indexAddr 8 (.t 54) (.t 55), none, []⟩, [54, 55]),
    (⟨some 57, .fieldAddr 0 (.t 56), none, []⟩, [56]),
    (⟨some 58, .load none (.t 57), none, []⟩, [57]),
    (⟨some 19, .move (.t 58), none, []⟩, [58])])
    (.seq (.regionK false [
    (⟨some 59, .move (.t 18), none, []⟩, []),
    (⟨some 60, .move (.t 4), none, []⟩, []),
    (⟨some 61, .bin .geq (.t 59) (.t 60), none, []⟩, [59, 60]),
    (⟨some 20, .move (.t 61), none, []⟩, [61])])
    (.seq (.regionK true [
    (⟨some 62, .move (.t 2), none, []⟩, []),
    (⟨some 63, .move (.t 15), none, []⟩, []),
    (⟨some 64, .move (.t 19), none, []⟩, []),
    (⟨some 65, .call false 59 [.t 62, .t 63, .t 64], none, [0, 1, 2]⟩, [62, 63, 64]),
    (⟨some 66, .bin .eql (.t 65) (.c (.p (.int .i64 0))), none, [0, 1, 2, 3]⟩, [65]),
    (⟨some 67, .move (.t 66), none, [0, 1, 2, 3, 4]⟩, [66]),
    (⟨some 68, .move (.t 14), some (67, true), [0, 1, 2, 3, 4, 5]⟩, []),
    (⟨some 69, .len (.t 68), some (67, true), [0, 1, 2, 3, 4, 5, 6]⟩, [68]),
    (⟨some 70, .fieldAddr 0 (.t 5), some (67, true), [0, 1, 2, 3, 4, 5]⟩, []),
    (⟨some 71, .load none (.t 70), some (67, true), [0, 1, 2, 3, 4, 5, 8]⟩, [70]),
    (⟨some 72, .bin .lss (.t 69) (.t 71), some (67, true), [0, 1, 2, 3, 4, 5, 6, 7, 8, 9]⟩, [69, 71]),
    (⟨some 73, .pick (.t 67) (.t 72) (.c (.p (.bool false))), none, [0, 1, 2, 3, 4, 5, 6, 7, 8, 9, 10]⟩, [67, 72]),
    (⟨some 74, .move (.t 73), none, [0, 1, 2, 3, 4, 5, 6, 7, 8, 9, 10, 11]⟩, [73]),
    (⟨some 75, .move (.t 2), some (74, true), [0, 1, 2, 3, 4, 5, 6, 7, 8, 9, 10, 11, 12]⟩, []),
    (⟨some 76, .move (.t 14), some (74, true), [0, 1, 2, 3, 4, 5, 6, 7, 8, 9, 10, 11, 12]⟩, []),
    (⟨some 77, .move (.t 19), some (74, true), [0, 1, 2, 3, 4, 5, 6, 7, 8, 9, 10, 11, 12]⟩, []),
    (⟨some 78, .call false 59 [.t 75, .t 76, .t 77], some (74, true), [0, 1, 2, 3, 4, 5, 6, 7, 8, 9, 10, 11, 12, 13, 14, 15]⟩, [75, 76, 77]),
    (⟨some 79, .fieldAddr 1 (.t 5), some (74, true), [0, 1, 2, 3, 4, 5, 6, 7, 8, 9, 10, 11, 12]⟩, []),
    (⟨some 80, .load none (.t 79), some (74, true), [0, 1, 2, 3, 4, 5, 6, 7, 8, 9, 10, 11, 12, 17]⟩, [79]),
    (⟨some 81, .bin .lss (.t 78) (.t 80), some (74, true), [0, 1, 2, 3, 4, 5, 6, 7, 8, 9, 10, 11, 12, 13, 14, 15, 16, 17, 18]⟩, [78, 80]),
    (⟨some 82, .pick (.t 74) (.t 81) (.c (.p (.bool false))), none, [0, 1, 2, 3, 4, 5, 6, 7, 8, 9, 10, 11, 12, 13, 14, 15, 16, 17, 18, 19]⟩, [74, 81]),
    (⟨some 83, .move (.t 82), none, [0, 1, 2, 3, 4, 5, 6, 7, 8, 9, 10, 11, 12, 13, 14, 15, 16, 17, 18, 19, 20]⟩, [82]),
    (⟨some 84, .load (some 4) (.t 5), some (83, true), [0, 1, 2, 3, 4, 5, 6, 7, 8, 9, 10, 11, 12, 13, 14, 15, 16, 17, 18, 19, 20, 21]⟩, []),
    (⟨some 85, .move (.t 1), some (83, true), [0, 1, 2, 3, 4, 5, 6, 7, 8, 9, 10, 11, 12, 13, 14, 15, 16, 17, 18, 19, 20, 21]⟩, []),
    (⟨some 86, .move (.t 17), some (83, true), [0, 1, 2, 3, 4, 5, 6, 7, 8, 9, 10, 11, 12, 13, 14, 15, 16, 17, 18, 19, 20, 21]⟩, []),
    (⟨some 87, .move (.t 3), some (83, true), [0, 1, 2, 3, 4, 5, 6, 7, 8, 9, 10, 11, 12, 13, 14, 15, 16, 17, 18, 19, 20, 21]⟩, []),
    (⟨some 88, .move (.t 18), some (83, true), [0, 1, 2, 3, 4, 5, 6, 7, 8, 9, 10, 11, 12, 13, 14, 15, 16, 17, 18, 19, 20, 21]⟩, []),
    (⟨some 89, .indexAddr 3 (.t 87) (.t 88), some (83, true), [0, 1, 2, 3, 4, 5, 6, 7, 8, 9, 10, 11, 12, 13, 14, 15, 16, 17, 18, 19, 20, 21, 25, 26]⟩, [87, 88]),
    (⟨some 90, .load (some 3) (.t 89), some (83, true), [0, 1, 2, 3, 4, 5, 6, 7, 8, 9, 10, 11, 12, 13, 14, 15, 16, 17, 18, 19, 20, 21, 25, 26, 27]⟩, [89]),
    (⟨some 91, .call false 28 [.t 84, .t 85, .t 86, .t 90], some (83, true), [0, 1, 2, 3, 4, 5, 6, 7, 8, 9, 10, 11, 12, 13, 14, 15, 16, 17, 18, 19, 20, 21, 22, 23, 24, 25, 26, 27, 28]⟩, [84, 85, 86, 90]),
    (⟨some 92, .un .not (.t 91), some (83, true), [0, 1, 2, 3, 4, 5, 6, 7, 8, 9, 10, 11, 12, 13, 14, 15, 16, 17, 18, 19, 20, 21, 22, 23, 24, 25, 26, 27, 28, 29]⟩, [91]),
    (⟨some 93, .pick (.t 83) (.t 92) (.c (.p (.bool false))), none, [0, 1, 2, 3, 4, 5, 6, 7, 8, 9, 10, 11, 12, 13, 14, 15, 16, 17, 18, 19, 20, 21, 22, 23, 24, 25, 26, 27, 28, 29, 30]⟩, [83, 92]),
    (⟨some 21, .move (.t 93), none, [0, 1, 2, 3, 4, 5, 6, 7, 8, 9, 10, 11, 12, 13, 14, 15, 16, 17, 18, 19, 20, 21, 22, 23, 24, 25, 26, 27, 28, 29, 30, 31]⟩, [93])])
    (.block 2
    (.seq (.regionK false [
      (⟨some 99, .move (.t 20), none, []⟩, []),
      (⟨some 100, .move (.t 99), none, []⟩, [99]),
      (⟨some 101, .move (.t 2), some (100, true), []⟩, []),
      (⟨some 102, .move (.t 16), some (100, true), []⟩, []),
      (⟨some 103, .move (.t 19), some (100, true), []⟩, [19]),
      (⟨some 104, .call false 59 [.t 101, .t 102, .t 103], some (100, true), []⟩, [101, 102, 103]),
      (⟨some 105, .bin .gtr (.t 104) (.c (.p (.int .i64 0))), some (100, true), []⟩, [104]),
      (⟨some 106, .pick (.t 100) (.t 105) (.c (.p (.bool false))), none, []⟩, [100, 105]),
      (⟨some 98, .move (.t 106), none, []⟩, [106])])
      (.cond (.t 98)
      (.regionK false [
        (⟨some 107, .move (.t 16), none, []⟩, [20, 21, 98]),
        (⟨some 108, .move (.t 18), none, []⟩, []),
        (⟨some 109, .buildSlice [.int .i64 0] 1 [(0, .t 108)], none, []⟩, [108]),
        (⟨some 110, .append 8 1 (.t 107) (.t 109), none, []⟩, [107, 109]),
        (⟨some 16, .move (.t 110), none, []⟩, [110])])
      (.seq (.regionK false [
        (⟨some 112, .move (.t 21), none, []⟩, [21, 98]),
        (⟨some 111, .move (.t 112), none, []⟩, [112])])
        (.cond (.t 111)
        (.seq (.regionK false [
          (⟨some 113, .move (.t 14), none, []⟩, [20, 111]),
          (⟨some 114, .move (.t 18), none, []⟩, []),
          (⟨some 115, .buildSlice [.int .i64 0] 1 [(0, .t 114)], none, []⟩, [114]),
          (⟨some 116, .append 8 1 (.t 113) (.t 115), none, []⟩, [113, 115]),
          (⟨some 14, .move (.t 116), none, []⟩, [116])])
          (.regionK false [
          (⟨some 117, .move (.t 17), none, []⟩, []),
          (⟨some 118, .move (.t 3), none, []⟩, []),
          (⟨some 119, .move (.t 18), none, []⟩, []),
          (⟨some 120, .indexAddr 3 (.t 118) (.t 119), none, []⟩, [118, 119]),
          (⟨some 121, .load (some 3) (.t 120), none, []⟩, [120]),
          (⟨some 122, .buildSlice [.bool false, .slice true [], .slice true []] 1 [(0, .t 121)], none, []⟩, [121]),
          (⟨some 123, .append 56 3 (.t 117) (.t 122), none, []⟩, [117, 122]),
          (⟨some 17, .move (.t 123), none, []⟩, [123])]))
        (.seq (.regionK false [
          (⟨some 125, .move (.t 20), none, []⟩, [20, 111]),
          (⟨some 126, .move (.t 125), none, []⟩, [125]),
          (⟨some 127, .move (.t 15), some (126, true), []⟩, []),
          (⟨some 128, .len (.t 127), some (126, true), []⟩, [127]),
          (⟨some 129, .fieldAddr 3 (.t 5), some (126, true), []⟩, []),
          (⟨some 130, .load none (.t 129), some (126, true), []⟩, [129]),
          (⟨some 131, .bin .geq (.t 128) (.t 130), some (126, true), []⟩, [128, 130]),
          (⟨some 132, .pick (.t 126) (.t 131) (.c (.p (.bool false))), none, []⟩, [126, 131]),
          (⟨some 124, .move (.t 132), none, []⟩, [132])])
          (.cond (.t 124)
          (.regionK false [
            (⟨some 133, .move (.t 16), none, []⟩, [124]),
            (⟨some 134, .move (.t 18), none, []⟩, []),
            (⟨some 135, .buildSlice [.int .i64 0] 1 [(0, .t 134)], none, []⟩, [134]),
            (⟨some 136, .append 8 1 (.t 133) (.t 135), none, []⟩, [133, 135]),
            (⟨some 16, .move (.t 136), none, []⟩, [136])])
          (.regionK false [
            (⟨some 94, .move (.t 15), none, []⟩, [124]),
            (⟨some 95, .move (.t 18), none, []⟩, []),
            (⟨some 96, .buildSlice [.int .i64 0] 1 [(0, .t 95)], none, []⟩, [95]),
            (⟨some 97, .append 8 1 (.t 94) (.t 96), none, []⟩, [94, 96]),
            (⟨some 15, .move (.t 97), none, []⟩, [97])]))))))))))))
  (.regionK false [
  (⟨some 52, .move (.t 18), none, []⟩, []),
  (⟨some 53, .bin .add (.t 52) (.c (.p (.int .i64 1))), none, []⟩, [52]),
  (⟨some 18, .move (.t 53), none, []⟩, [53])])))

def a29 : AFunc := ⟨140, 5, [.tmp 10, .tmp 11, .tmp 12, .tmp 13],
  (.seq (.regionK false [
  (⟨some 5, .box (.t 0), none, []⟩, [0]),
  (⟨some 10, .move (.c (.p (.slice true []))), none, []⟩, [10]),
  (⟨some 11, .move (.c (.p (.slice true []))), none, []⟩, [11]),
  (⟨some 12, .move (.c (.p (.slice true []))), none, []⟩, [12]),
  (⟨some 13, .move (.c (.p (.int .i64 0))), none, []⟩, [13])])
  (.seq (.seq (.regionK false [
  (⟨some 22, .load (some 4) (.t 5), none, []⟩, []),
  (⟨some 23, .call false 26 [.t 22], none, []⟩, [22]),
  (⟨some 24, .un .not (.t 23), none, []⟩, [23]),
  (⟨some 25, .move (.t 24), none, []⟩, [24]),
  (⟨some 26, .move (.t 2), some (25, false), []⟩, []),
  (⟨some 27, .len (.t 26), some (25, false), []⟩, [26]),
  (⟨some 28, .move (.t 3), some (25, false), []⟩, []),
  (⟨some 29, .len (.t 28), some (25, false), []⟩, [28]),
  (⟨some 30, .bin .neq (.t 27) (.t 29), some (25, false), []⟩, [27, 29]),
  (⟨some 31, .pick (.t 25) (.c (.p (.bool true))) (.t 30), none, []⟩, [25, 30]),
  (⟨some 32, .move (.t 31), none, []⟩, [31]),
  (⟨some 33, .move (.t 4), some (32, false), []⟩, []),
  (⟨some 34, .bin .lss (.t 33) (.c (.p (.int .i64 0))), some (32, false), []⟩, [33]),
  (⟨some 35, .pick (.t 32) (.c (.p (.bool true))) (.t 34), none, []⟩, [32, 34]),
  (⟨some 36, .move (.t 35), none, []⟩, [35]),
  (⟨some 37, .move (.t 4), some (36, false), []⟩, []),
  (⟨some 38, .move (.t 2), some (36, false), []⟩, []),
  (⟨some 39, .len (.t 38), some (36, false), []⟩, [38]),
  (⟨some 40, .bin .gtr (.t 37) (.t 39), some (36, false), []⟩, [37, 39]),
  (⟨some 41, .pick (.t 36) (.c (.p (.bool true))) (.t 40), none, []⟩, [36, 40]),
  (⟨some 42, .move (.t 41), none, []⟩, [41]),
  (⟨some 43, .move (.t 4), some (42, false), []⟩, []),
  (⟨some 44, .fieldAddr 3 (.t 5), some (42, false), []⟩, []),
  (⟨some 45, .load none (.t 44), some (42, false), []⟩, [44]),
  (⟨some 46, .bin .gtr (.t 43) (.t 45), some (42, false), []⟩, [43, 45]),
  (⟨some 47, .pick (.t 42) (.c (.p (.bool true))) (.t 46), none, []⟩, [42, 46])])
  (.cond (.t 47)
  (.seq (.regionK false [
    (⟨some 10, .move (.c (.p (.slice true []))), none, []⟩, [1, 2, 3, 4, 47]),
    (⟨some 11, .move (.c (.p (.slice true []))), none, []⟩, []),
    (⟨some 12, .move (.c (.p (.slice true []))), none, []⟩, []),
    (⟨some 13, .move (.c (.p (.int .i64 1))), none, []⟩, [])])
    .ret)
  .skip))
  (.seq (.regionK false [
  (⟨some 14, .move (.c (.p (.slice true []))), none, []⟩, [47]),
  (⟨some 15, .move (.c (.p (.slice true []))), none, []⟩, []),
  (⟨some 16, .move (.c (.p (.slice true []))), none, []⟩, [])])
  (.ghost (.own 1 16) (.ghost (.own 1 15) (.ghost (.own 1 14) (.seq (.regionK false [
  (⟨some 17, .move (.c (.p (.slice true []))), none, []⟩, [])])
  (.ghost (.own 3 17) (.seq (.seq (.regionK false [
  (⟨some 18, .move (.c (.p (.int .i64 0))), none, []⟩, [])])
  (.block 0
  (.loop
    (.ghost .lower a29_l0))))
  (.seq (.regionK false [
  (⟨some 137, .move (.t 14), none, []⟩, [14]),
  (⟨some 138, .move (.t 15), none, []⟩, [15]),
  (⟨some 139, .move (.t 16), none, []⟩, [16]),
  (⟨some 10, .move (.t 137), none, []⟩, [137]),
  (⟨some 11, .move (.t 138), none, []⟩, [138]),
  (⟨some 12, .move (.t 139), none, []⟩, [139]),
  (⟨some 13, .move (.c (.p (.int .i64 0))), none, []⟩, [])])
  .ret))))))))))⟩

/-- clockwork/clockworkref38.Same -/
@[irreducible] def a30_l0 : ACode :=
  (.seq (.seq (.regionK false [
  (⟨some 11, .move (.t 5), none, []⟩, []),
  (⟨some 12, .move (.t 0), none, []⟩, []),
  (⟨some 13, .len (.t 12), none, []⟩, [12]),
  (⟨some 14, .bin .lss (.t 11) (.t 13), none, []⟩, [11, 13])])
  (.cond (.t 14)
  .skip
  (.ghost (.forget [0, 1, 5, 14]) (.ghost .lower (.exit 0)))))
  (.seq (.block 1
  (.seq (.regionK true [
    (⟨some 17, .move (.t 0), none, []⟩, [14]),
    (⟨some 18, .move (.t 5), none, []⟩, []),
    (⟨some 19, .indexAddr 1 (.t 17) (.t 18), none, [0, 1]⟩, [17, 18]),
    (⟨some 20, .load none (.t 19), none, [0, 1, 2]⟩, [19]),
    (⟨some 21, .move (.t 1), none, []⟩, []),
    (⟨some 22, .move (.t 5), none, []⟩, []),
    (⟨some 23, .indexAddr 1 (.t 21) (.t 22), none, [4, 5]⟩, [21, 22]),
    (⟨some 24, .load none (.t 23), none, [4, 5, 6]⟩, [23]),
    (⟨some 25, .bin .neq (.t 20) (.t 24), none, [0, 1, 2, 3, 4, 5, 6, 7]⟩, [20, 24])])
    (.cond (.t 25)
    (.seq (.regionK false [
      (⟨some 4, .move (.c (.p (.bool false))), none, []⟩, [0, 1, 5, 25])])
      .ret)
    .skip)))
  (.regionK false [
  (⟨some 15, .move (.t 5), none, []⟩, [25]),
  (⟨some 16, .bin .add (.t 15) (.c (.p (.int .i64 1))), none, []⟩, [15]),
  (⟨some 5, .move (.t 16), none, []⟩, [16])])))

def a30 : AFunc := ⟨26, 2, [.tmp 4],
  (.seq (.regionK false [
  (⟨some 4, .move (.c (.p (.bool false))), none, []⟩, [4])])
  (.seq (.seq (.regionK false [
  (⟨some 6, .move (.t 0), none, []⟩, []),
  (⟨some 7, .len (.t 6), none, []⟩, [6]),
  (⟨some 8, .move (.t 1), none, []⟩, []),
  (⟨some 9, .len (.t 8), none, []⟩, [8]),
  (⟨some 10, .bin .neq (.t 7) (.t 9), none, []⟩, [7, 9])])
  (.cond (.t 10)
  (.seq (.regionK false [
    (⟨some 4, .move (.c (.p (.bool false))), none, []⟩, [0, 1, 10])])
    .ret)
  .skip))
  (.seq (.seq (.regionK false [
  (⟨some 5, .move (.c (.p (.int .i64 0))), none, []⟩, [10])])
  (.block 0
  (.loop
    (.ghost .lower a30_l0))))
  (.seq (.regionK false [
  (⟨some 4, .move (.c (.p (.bool true))), none, []⟩, [])])
  .ret))))⟩

/-- clockwork/clockworkref38.Users -/
@[irreducible] def a31_l0 : ACode :=
  (.seq (.seq (.regionK false [
  (⟨some 7, .move (.t 6), none, []⟩, []),
  (⟨some 8, .move (.t 0), none, []⟩, []),
  (⟨some 9, .len (.t 8), none, []⟩, [8]),
  (⟨some 10, .bin .lss (.t 7) (.t 9), none, []⟩, [7, 9])])
  (.cond (.t 10)
  .skip
  (.ghost (.forget [0, 1, 6, 10]) (.ghost .lower (.exit 0)))))
  (.seq (.block 1
  (.seq (.regionK false [
    (⟨some 13, .move (.t 0), none, []⟩, [10]),
    (⟨some 14, .move (.t 6), none, []⟩, []),
    (⟨some 15, .indexAddr 3 (.t 13) (.t 14), none, []⟩, [13, 14]),
    (⟨some 16, .load (some 3) (.t 15), none, []⟩, [15]),
    (⟨some 17, .call false 44 [.t 16], none, []⟩, [16]),
    (⟨some 18, .move (.t 1), none, []⟩, []),
    (⟨some 19, .call false 58 [.t 17, .t 18], none, []⟩, [17, 18])])
    (.cond (.t 19)
    (.regionK false [
      (⟨some 20, .move (.t 5), none, []⟩, [19]),
      (⟨some 21, .bin .add (.t 20) (.c (.p (.int .i64 1))), none, []⟩, [20]),
      (⟨some 5, .move (.t 21), none, []⟩, [21])])
    .skip)))
  (.regionK false [
  (⟨some 11, .move (.t 6), none, []⟩, [19]),
  (⟨some 12, .bin .add (.t 11) (.c (.p (.int .i64 1))), none, []⟩, [11]),
  (⟨some 6, .move (.t 12), none, []⟩, [12])])))

def a31 : AFunc := ⟨23, 2, [.tmp 4],
  (.seq (.regionK false [
  (⟨some 4, .move (.c (.p (.int .i64 0))), none, []⟩, [4])])
  (.seq (.regionK false [
  (⟨some 5, .move (.c (.p (.int .i64 0))), none, []⟩, [])])
  (.seq (.seq (.regionK false [
  (⟨some 6, .move (.c (.p (.int .i64 0))), none, []⟩, [])])
  (.block 0
  (.loop
    (.ghost .lower a31_l0))))
  (.seq (.regionK false [
  (⟨some 22, .move (.t 5), none, []⟩, [5]),
  (⟨some 4, .move (.t 22), none, []⟩, [22])])
  .ret))))⟩

/-- clockwork/clockworklaw38.below -/
@[irreducible] def a32_l0 : ACode :=
  (.seq (.seq (.regionK false [
  (⟨some 7, .move (.t 6), none, []⟩, []),
  (⟨some 8, .move (.t 0), none, []⟩, []),
  (⟨some 9, .len (.t 8), none, []⟩, [8]),
  (⟨some 10, .bin .lss (.t 7) (.t 9), none, []⟩, [7, 9])])
  (.cond (.t 10)
  .skip
  (.ghost (.forget [0, 1, 6, 10]) (.ghost .lower (.exit 0)))))
  (.seq (.block 1
  (.seq (.regionK false [
    (⟨some 13, .move (.t 0), none, []⟩, [10]),
    (⟨some 14, .move (.t 6), none, []⟩, []),
    (⟨some 15, .indexAddr 1 (.t 13) (.t 14), none, []⟩, [13, 14]),
    (⟨some 16, .load none (.t 15), none, []⟩, [15]),
    (⟨some 17, .move (.t 1), none, []⟩, []),
    (⟨some 18, .bin .lss (.t 16) (.t 17), none, []⟩, [16, 17])])
    (.cond (.t 18)
    (.regionK false [
      (⟨some 19, .move (.t 5), none, []⟩, [18]),
      (⟨some 20, .move (.t 0), none, []⟩, []),
      (⟨some 21, .move (.t 6), none, []⟩, []),
      (⟨some 22, .indexAddr 1 (.t 20) (.t 21), none, []⟩, [20, 21]),
      (⟨some 23, .load none (.t 22), none, []⟩, [22]),
      (⟨some 24, .buildSlice [.int .i64 0] 1 [(0, .t 23)], none, []⟩, [23]),
      (⟨some 25, .append 8 1 (.t 19) (.t 24), none, []⟩, [19, 24]),
      (⟨some 5, .move (.t 25), none, []⟩, [25])])
    .skip)))
  (.regionK false [
  (⟨some 11, .move (.t 6), none, []⟩, [18]),
  (⟨some 12, .bin .add (.t 11) (.c (.p (.int .i64 1))), none, []⟩, [11]),
  (⟨some 6, .move (.t 12), none, []⟩, [12])])))

def a32 : AFunc := ⟨27, 2, [.tmp 4],
  (.seq (.regionK false [
  (⟨some 4, .move (.c (.p (.slice true []))), none, []⟩, [4])])
  (.seq (.regionK false [
  (⟨some 5, .move (.c (.p (.slice true []))), none, []⟩, [])])
  (.ghost (.own 1 5) (.seq (.seq (.regionK false [
  (⟨some 6, .move (.c (.p (.int .i64 0))), none, []⟩, [])])
  (.block 0
  (.loop
    (.ghost .lower a32_l0))))
  (.seq (.regionK false [
  (⟨some 26, .move (.t 5), none, []⟩, [5]),
  (⟨some 4, .move (.t 26), none, []⟩, [26])])
  .ret)))))⟩

/-- clockwork/footprint.Covers -/
def a33 : AFunc := ⟨34, 2, [.tmp 4],
  (.seq (.regionK false [
  (⟨some 2, .box (.t 0), none, []⟩, [0]),
  (⟨some 3, .box (.t 1), none, []⟩, [1]),
  (⟨some 4, .move (.c (.p (.bool false))), none, []⟩, [4])])
  (.seq (.seq (.regionK false [
  (⟨some 5, .load (some 3) (.t 2), none, []⟩, []),
  (⟨some 6, .call false 37 [.t 5], none, []⟩, [5]),
  (⟨some 7, .un .not (.t 6), none, []⟩, [6]),
  (⟨some 8, .move (.t 7), none, []⟩, [7]),
  (⟨some 9, .load (some 3) (.t 3), some (8, false), []⟩, []),
  (⟨some 10, .call false 37 [.t 9], some (8, false), []⟩, [9]),
  (⟨some 11, .un .not (.t 10), some (8, false), []⟩, [10]),
  (⟨some 12, .pick (.t 8) (.c (.p (.bool true))) (.t 11), none, []⟩, [8, 11])])
  (.cond (.t 12)
  (.seq (.regionK false [
    (⟨some 4, .move (.c (.p (.bool false))), none, []⟩, [12])])
    .ret)
  .skip))
  (.seq (.regionK false [
  (⟨some 13, .fieldAddr 0 (.t 2), none, []⟩, [12]),
  (⟨some 14, .load none (.t 13), none, []⟩, [13]),
  (⟨some 15, .move (.t 14), none, []⟩, [14]),
  (⟨some 16, .fieldAddr 0 (.t 3), some (15, false), []⟩, []),
  (⟨some 17, .load none (.t 16), some (15, false), []⟩, [16]),
  (⟨some 18, .un .not (.t 17), some (15, false), []⟩, [17]),
  (⟨some 19, .move (.t 18), some (15, false), []⟩, [18]),
  (⟨some 20, .fieldAddr 1 (.t 2), some (19, true), []⟩, []),
  (⟨some 21, .load none (.t 20), some (19, true), []⟩, [20]),
  (⟨some 22, .fieldAddr 1 (.t 3), some (19, true), []⟩, []),
  (⟨some 23, .load none (.t 22), some (19, true), []⟩, [22]),
  (⟨some 24, .call false 60 [.t 21, .t 23], some (19, true), []⟩, [21, 23]),
  (⟨some 25, .pick (.t 19) (.t 24) (.c (.p (.bool false))), some (15, false), []⟩, [19, 24]),
  (⟨some 26, .move (.t 25), some (15, false), []⟩, [25]),
  (⟨some 27, .fieldAddr 2 (.t 2), some (26, true), []⟩, []),
  (⟨some 28, .load none (.t 27), some (26, true), []⟩, [27]),
  (⟨some 29, .fieldAddr 2 (.t 3), some (26, true), []⟩, []),
  (⟨some 30, .load none (.t 29), some (26, true), []⟩, [29]),
  (⟨some 31, .call false 60 [.t 28, .t 30], some (26, true), []⟩, [28, 30]),
  (⟨some 32, .pick (.t 26) (.t 31) (.c (.p (.bool false))), some (15, false), []⟩, [26, 31]),
  (⟨some 33, .pick (.t 15) (.c (.p (.bool true))) (.t 32), none, []⟩, [15, 32]),
  (⟨some 4, .move (.t 33), none, []⟩, [33])])
  .ret)))⟩

/-- clockwork/footprint.Conflicts -/
def a34 : AFunc := ⟨40, 2, [.tmp 4],
  (.seq (.regionK false [
  (⟨some 2, .box (.t 0), none, []⟩, [0]),
  (⟨some 3, .box (.t 1), none, []⟩, [1]),
  (⟨some 4, .move (.c (.p (.bool false))), none, []⟩, [4])])
  (.seq (.seq (.regionK false [
  (⟨some 5, .load (some 3) (.t 2), none, []⟩, []),
  (⟨some 6, .call false 37 [.t 5], none, []⟩, [5]),
  (⟨some 7, .un .not (.t 6), none, []⟩, [6]),
  (⟨some 8, .move (.t 7), none, []⟩, [7]),
  (⟨some 9, .load (some 3) (.t 3), some (8, false), []⟩, []),
  (⟨some 10, .call false 37 [.t 9], some (8, false), []⟩, [9]),
  (⟨some 11, .un .not (.t 10), some (8, false), []⟩, [10]),
  (⟨some 12, .pick (.t 8) (.c (.p (.bool true))) (.t 11), none, []⟩, [8, 11]),
  (⟨some 13, .move (.t 12), none, []⟩, [12]),
  (⟨some 14, .fieldAddr 0 (.t 2), some (13, false), []⟩, []),
  (⟨some 15, .load none (.t 14), some (13, false), []⟩, [14]),
  (⟨some 16, .pick (.t 13) (.c (.p (.bool true))) (.t 15), none, []⟩, [13, 15]),
  (⟨some 17, .move (.t 16), none, []⟩, [16]),
  (⟨some 18, .fieldAddr 0 (.t 3), some (17, false), []⟩, []),
  (⟨some 19, .load none (.t 18), some (17, false), []⟩, [18]),
  (⟨some 20, .pick (.t 17) (.c (.p (.bool true))) (.t 19), none, []⟩, [17, 19])])
  (.cond (.t 20)
  (.seq (.regionK false [
    (⟨some 4, .move (.c (.p (.bool true))), none, []⟩, [20])])
    .ret)
  .skip))
  (.seq (.regionK false [
  (⟨some 21, .fieldAddr 2 (.t 2), none, []⟩, [20]),
  (⟨some 22, .load none (.t 21), none, []⟩, [21]),
  (⟨some 23, .fieldAddr 2 (.t 3), none, []⟩, []),
  (⟨some 24, .load none (.t 23), none, []⟩, [23]),
  (⟨some 25, .call false 61 [.t 22, .t 24], none, []⟩, [22, 24]),
  (⟨some 26, .move (.t 25), none, []⟩, [25]),
  (⟨some 27, .fieldAddr 2 (.t 2), some (26, false), []⟩, []),
  (⟨some 28, .load none (.t 27), some (26, false), []⟩, [27]),
  (⟨some 29, .fieldAddr 1 (.t 3), some (26, false), []⟩, []),
  (⟨some 30, .load none (.t 29), some (26, false), []⟩, [29]),
  (⟨some 31, .call false 61 [.t 28, .t 30], some (26, false), []⟩, [28, 30]),
  (⟨some 32, .pick (.t 26) (.c (.p (.bool true))) (.t 31), none, []⟩, [26, 31]),
  (⟨some 33, .move (.t 32), none, []⟩, [32]),
  (⟨some 34, .fieldAddr 1 (.t 2), some (33, false), []⟩, []),
  (⟨some 35, .load none (.t 34), some (33, false), []⟩, [34]),
  (⟨some 36, .fieldAddr 2 (.t 3), some (33, false), []⟩, []),
  (⟨some 37, .load none (.t 36), some (33, false), []⟩, [36]),
  (⟨some 38, .call false 61 [.t 35, .t 37], some (33, false), []⟩, [35, 37]),
  (⟨some 39, .pick (.t 33) (.c (.p (.bool true))) (.t 38), none, []⟩, [33, 38]),
  (⟨some 4, .move (.t 39), none, []⟩, [39])])
  .ret)))⟩

/-- clockwork/clockworkref19.Conflicts -/
def a35 : AFunc := ⟨40, 2, [.tmp 4],
  (.seq (.regionK false [
  (⟨some 2, .box (.t 0), none, []⟩, [0]),
  (⟨some 3, .box (.t 1), none, []⟩, [1]),
  (⟨some 4, .move (.c (.p (.bool false))), none, []⟩, [4])])
  (.seq (.seq (.regionK false [
  (⟨some 5, .load (some 3) (.t 2), none, []⟩, []),
  (⟨some 6, .call false 40 [.t 5], none, []⟩, [5]),
  (⟨some 7, .un .not (.t 6), none, []⟩, [6]),
  (⟨some 8, .move (.t 7), none, []⟩, [7]),
  (⟨some 9, .load (some 3) (.t 3), some (8, false), []⟩, []),
  (⟨some 10, .call false 40 [.t 9], some (8, false), []⟩, [9]),
  (⟨some 11, .un .not (.t 10), some (8, false), []⟩, [10]),
  (⟨some 12, .pick (.t 8) (.c (.p (.bool true))) (.t 11), none, []⟩, [8, 11]),
  (⟨some 13, .move (.t 12), none, []⟩, [12]),
  (⟨some 14, .fieldAddr 0 (.t 2), some (13, false), []⟩, []),
  (⟨some 15, .load none (.t 14), some (13, false), []⟩, [14]),
  (⟨some 16, .pick (.t 13) (.c (.p (.bool true))) (.t 15), none, []⟩, [13, 15]),
  (⟨some 17, .move (.t 16), none, []⟩, [16]),
  (⟨some 18, .fieldAddr 0 (.t 3), some (17, false), []⟩, []),
  (⟨some 19, .load none (.t 18), some (17, false), []⟩, [18]),
  (⟨some 20, .pick (.t 17) (.c (.p (.bool true))) (.t 19), none, []⟩, [17, 19])])
  (.cond (.t 20)
  (.seq (.regionK false [
    (⟨some 4, .move (.c (.p (.bool true))), none, []⟩, [20])])
    .ret)
  .skip))
  (.seq (.regionK false [
  (⟨some 21, .fieldAddr 2 (.t 2), none, []⟩, [20]),
  (⟨some 22, .load none (.t 21), none, []⟩, [21]),
  (⟨some 23, .fieldAddr 2 (.t 3), none, []⟩, []),
  (⟨some 24, .load none (.t 23), none, []⟩, [23]),
  (⟨some 25, .call false 62 [.t 22, .t 24], none, []⟩, [22, 24]),
  (⟨some 26, .move (.t 25), none, []⟩, [25]),
  (⟨some 27, .fieldAddr 2 (.t 2), some (26, false), []⟩, []),
  (⟨some 28, .load none (.t 27), some (26, false), []⟩, [27]),
  (⟨some 29, .fieldAddr 1 (.t 3), some (26, false), []⟩, []),
  (⟨some 30, .load none (.t 29), some (26, false), []⟩, [29]),
  (⟨some 31, .call false 62 [.t 28, .t 30], some (26, false), []⟩, [28, 30]),
  (⟨some 32, .pick (.t 26) (.c (.p (.bool true))) (.t 31), none, []⟩, [26, 31]),
  (⟨some 33, .move (.t 32), none, []⟩, [32]),
  (⟨some 34, .fieldAddr 1 (.t 2), some (33, false), []⟩, []),
  (⟨some 35, .load none (.t 34), some (33, false), []⟩, [34]),
  (⟨some 36, .fieldAddr 2 (.t 3), some (33, false), []⟩, []),
  (⟨some 37, .load none (.t 36), some (33, false), []⟩, [36]),
  (⟨some 38, .call false 62 [.t 35, .t 37], some (33, false), []⟩, [35, 37]),
  (⟨some 39, .pick (.t 33) (.c (.p (.bool true))) (.t 38), none, []⟩, [33, 38]),
  (⟨some 4, .move (.t 39), none, []⟩, [39])])
  .ret)))⟩

/-- clockwork/clockworkref19.Covers -/
def a36 : AFunc := ⟨34, 2, [.tmp 4],
  (.seq (.regionK false [
  (⟨some 2, .box (.t 0), none, []⟩, [0]),
  (⟨some 3, .box (.t 1), none, []⟩, [1]),
  (⟨some 4, .move (.c (.p (.bool false))), none, []⟩, [4])])
  (.seq (.seq (.regionK false [
  (⟨some 5, .load (some 3) (.t 2), none, []⟩, []),
  (⟨some 6, .call false 40 [.t 5], none, []⟩, [5]),
  (⟨some 7, .un .not (.t 6), none, []⟩, [6]),
  (⟨some 8, .move (.t 7), none, []⟩, [7]),
  (⟨some 9, .load (some 3) (.t 3), some (8, false), []⟩, []),
  (⟨some 10, .call false 40 [.t 9], some (8, false), []⟩, [9]),
  (⟨some 11, .un .not (.t 10), some (8, false), []⟩, [10]),
  (⟨some 12, .pick (.t 8) (.c (.p (.bool true))) (.t 11), none, []⟩, [8, 11])])
  (.cond (.t 12)
  (.seq (.regionK false [
    (⟨some 4, .move (.c (.p (.bool false))), none, []⟩, [12])])
    .ret)
  .skip))
  (.seq (.regionK false [
  (⟨some 13, .fieldAddr 0 (.t 2), none, []⟩, [12]),
  (⟨some 14, .load none (.t 13), none, []⟩, [13]),
  (⟨some 15, .move (.t 14), none, []⟩, [14]),
  (⟨some 16, .fieldAddr 0 (.t 3), some (15, false), []⟩, []),
  (⟨some 17, .load none (.t 16), some (15, false), []⟩, [16]),
  (⟨some 18, .un .not (.t 17), some (15, false), []⟩, [17]),
  (⟨some 19, .move (.t 18), some (15, false), []⟩, [18]),
  (⟨some 20, .fieldAddr 1 (.t 3), some (19, true), []⟩, []),
  (⟨some 21, .load none (.t 20), some (19, true), []⟩, [20]),
  (⟨some 22, .fieldAddr 1 (.t 2), some (19, true), []⟩, []),
  (⟨some 23, .load none (.t 22), some (19, true), []⟩, [22]),
  (⟨some 24, .call false 63 [.t 21, .t 23], some (19, true), []⟩, [21, 23]),
  (⟨some 25, .pick (.t 19) (.t 24) (.c (.p (.bool false))), some (15, false), []⟩, [19, 24]),
  (⟨some 26, .move (.t 25), some (15, false), []⟩, [25]),
  (⟨some 27, .fieldAddr 2 (.t 3), some (26, true), []⟩, []),
  (⟨some 28, .load none (.t 27), some (26, true), []⟩, [27]),
  (⟨some 29, .fieldAddr 2 (.t 2), some (26, true), []⟩, []),
  (⟨some 30, .load none (.t 29), some (26, true), []⟩, [29]),
  (⟨some 31, .call false 63 [.t 28, .t 30], some (26, true), []⟩, [28, 30]),
  (⟨some 32, .pick (.t 26) (.t 31) (.c (.p (.bool false))), some (15, false), []⟩, [26, 31]),
  (⟨some 33, .pick (.t 15) (.c (.p (.bool true))) (.t 32), none, []⟩, [15, 32]),
  (⟨some 4, .move (.t 33), none, []⟩, [33])])
  .ret)))⟩

/-- clockwork/footprint.Valid -/
def a37 : AFunc := ⟨23, 1, [.tmp 2],
  (.seq (.regionK false [
  (⟨some 1, .box (.t 0), none, []⟩, [0]),
  (⟨some 2, .move (.c (.p (.bool false))), none, []⟩, [2])])
  (.seq (.seq (.regionK false [
  (⟨some 3, .fieldAddr 0 (.t 1), none, []⟩, []),
  (⟨some 4, .load none (.t 3), none, []⟩, [3])])
  (.cond (.t 4)
  (.seq (.regionK false [
    (⟨some 5, .fieldAddr 1 (.t 1), none, []⟩, [4]),
    (⟨some 6, .load none (.t 5), none, []⟩, [5]),
    (⟨some 7, .len (.t 6), none, []⟩, [6]),
    (⟨some 8, .bin .eql (.t 7) (.c (.p (.int .i64 0))), none, []⟩, [7]),
    (⟨some 9, .move (.t 8), none, []⟩, [8]),
    (⟨some 10, .fieldAddr 2 (.t 1), some (9, true), []⟩, []),
    (⟨some 11, .load none (.t 10), some (9, true), []⟩, [10]),
    (⟨some 12, .len (.t 11), some (9, true), []⟩, [11]),
    (⟨some 13, .bin .eql (.t 12) (.c (.p (.int .i64 0))), some (9, true), []⟩, [12]),
    (⟨some 14, .pick (.t 9) (.t 13) (.c (.p (.bool false))), none, []⟩, [9, 13]),
    (⟨some 2, .move (.t 14), none, []⟩, [14])])
    .ret)
  .skip))
  (.seq (.regionK false [
  (⟨some 15, .fieldAddr 1 (.t 1), none, []⟩, [4]),
  (⟨some 16, .load none (.t 15), none, []⟩, [15]),
  (⟨some 17, .call false 64 [.t 16], none, []⟩, [16]),
  (⟨some 18, .move (.t 17), none, []⟩, [17]),
  (⟨some 19, .fieldAddr 2 (.t 1), some (18, true), []⟩, []),
  (⟨some 20, .load none (.t 19), some (18, true), []⟩, [19]),
  (⟨some 21, .call false 64 [.t 20], some (18, true), []⟩, [20]),
  (⟨some 22, .pick (.t 18) (.t 21) (.c (.p (.bool false))), none, []⟩, [18, 21]),
  (⟨some 2, .move (.t 22), none, []⟩, [22])])
  .ret)))⟩

/-- clockwork/footprint.Norm -/
@[irreducible] def a38_l0 : ACode :=
  (.seq (.regionK false [
  (⟨some 14, .bin .lss (.t 13) (.t 12), none, []⟩, [])])
  (.seq (.cond (.t 14)
  .skip
  (.ghost (.forget [11, 12, 13, 14]) (.ghost .lower (.exit 0))))
  (.seq (.block 1
  (.seq (.regionK false [
    (⟨some 15, .indexAddr 1 (.t 11) (.t 13), none, []⟩, [14]),
    (⟨some 16, .load none (.t 15), none, []⟩, [15]),
    (⟨some 5, .move (.t 16), none, []⟩, [16])])
    (.seq (.regionK false [
    (⟨some 17, .move (.t 5), none, []⟩, [5]),
    (⟨some 18, .call false 66 [.t 17], none, []⟩, [17]),
    (⟨some 19, .un .not (.t 18), none, []⟩, [18])])
    (.cond (.t 19)
    (.seq (.regionK false [
      (⟨some 20, .build [.bool false, .slice true [], .slice true []] [], none, []⟩, [11, 12, 13, 19]),
      (⟨none, .store 3 (.t 2) (.t 20), none, []⟩, [20]),
      (⟨some 3, .move (.c (.p (.int .i64 1))), none, []⟩, [])])
      .ret)
    .skip))))
  (.regionK false [
  (⟨some 21, .bin .add (.t 13) (.c (.p (.int .i64 1))), none, []⟩, [19]),
  (⟨some 13, .move (.t 21), none, []⟩, [21])]))))

def a38 : AFunc := ⟨36, 1, [.cell 2 3, .tmp 3],
  (.seq (.regionK false [
  (⟨some 1, .box (.t 0), none, []⟩, [0]),
  (⟨some 2, .alloc [.bool false, .slice true [], .slice true []], none, []⟩, []),
  (⟨some 3, .move (.c (.p (.int .i64 0))), none, []⟩, [3])])
  (.seq (.seq (.regionK false [
  (⟨some 6, .fieldAddr 1 (.t 1), none, []⟩, []),
  (⟨some 7, .load none (.t 6), none, []⟩, [6]),
  (⟨some 8, .fieldAddr 2 (.t 1), none, []⟩, []),
  (⟨some 9, .load none (.t 8), none, []⟩, [8]),
  (⟨some 10, .buildSlice [.slice true []] 2 [(0, .t 7), (1, .t 9)], none, []⟩, [7, 9]),
  (⟨some 11, .call true 65 [.t 10], none, []⟩, [10]),
  (⟨some 12, .len (.t 11), none, []⟩, []),
  (⟨some 13, .move (.c (.p (.int .i64 0))), none, []⟩, [])])
  (.block 0
  (.loop
    (.ghost .lower a38_l0))))
  (.seq (.seq (.regionK false [
  (⟨some 22, .fieldAddr 0 (.t 1), none, []⟩, []),
  (⟨some 23, .load none (.t 22), none, []⟩, [22])])
  (.cond (.t 23)
  (.seq (.regionK false [
    (⟨some 24, .build [.bool false, .slice true [], .slice true []] [(0, 1, .c (.p (.bool true)))], none, []⟩, [23]),
    (⟨none, .store 3 (.t 2) (.t 24), none, []⟩, [24]),
    (⟨some 3, .move (.c (.p (.int .i64 0))), none, []⟩, [])])
    .ret)
  .skip))
  (.seq (.regionK true [
  (⟨some 25, .fieldAddr 1 (.t 1), none, []⟩, [23]),
  (⟨some 26, .load none (.t 25), none, [0]⟩, [25]),
  (⟨some 27, .buildSlice [.slice true []] 1 [(0, .t 26)], none, [0, 1]⟩, [26]),
  (⟨some 28, .call false 52 [.t 27], none, [0, 1, 2]⟩, [27]),
  (⟨some 29, .fieldAddr 2 (.t 1), none, []⟩, []),
  (⟨some 30, .load none (.t 29), none, [4]⟩, [29]),
  (⟨some 31, .buildSlice [.slice true []] 1 [(0, .t 30)], none, [4, 5]⟩, [30]),
  (⟨some 32, .call false 52 [.t 31], none, [0, 1, 2, 3, 4, 5, 6]⟩, [31]),
  (⟨some 33, .call false 51 [.t 28, .t 32], none, [0, 1, 2, 3, 4, 5, 6, 7]⟩, [28, 32]),
  (⟨some 34, .extract (.t 33) 0, none, [0, 1, 2, 3, 4, 5, 6, 7, 8]⟩, []),
  (⟨some 35, .extract (.t 33) 1, none, [0, 1, 2, 3, 4, 5, 6, 7, 8]⟩, [33]),
  (⟨none, .store 3 (.t 2) (.t 34), none, [0, 1, 2, 3, 4, 5, 6, 7, 8, 9, 10]⟩, [34]),
  (⟨some 3, .move (.t 35), none, [0, 1, 2, 3, 4, 5, 6, 7, 8, 9, 10, 11]⟩, [35])])
  .ret))))⟩

/-- clockwork/clockworkref19.Norm -/
def a39 : AFunc := ⟨27, 1, [.cell 2 3, .tmp 3],
  (.seq (.regionK false [
  (⟨some 1, .box (.t 0), none, []⟩, [0]),
  (⟨some 2, .alloc [.bool false, .slice true [], .slice true []], none, []⟩, []),
  (⟨some 3, .move (.c (.p (.int .i64 0))), none, []⟩, [3])])
  (.seq (.seq (.regionK false [
  (⟨some 4, .fieldAddr 1 (.t 1), none, []⟩, []),
  (⟨some 5, .load none (.t 4), none, []⟩, [4]),
  (⟨some 6, .call false 67 [.t 5], none, []⟩, [5]),
  (⟨some 7, .un .not (.t 6), none, []⟩, [6]),
  (⟨some 8, .move (.t 7), none, []⟩, [7]),
  (⟨some 9, .fieldAddr 2 (.t 1), some (8, false), []⟩, []),
  (⟨some 10, .load none (.t 9), some (8, false), []⟩, [9]),
  (⟨some 11, .call false 67 [.t 10], some (8, false), []⟩, [10]),
  (⟨some 12, .un .not (.t 11), some (8, false), []⟩, [11]),
  (⟨some 13, .pick (.t 8) (.c (.p (.bool true))) (.t 12), none, []⟩, [8, 12])])
  (.cond (.t 13)
  (.seq (.regionK false [
    (⟨some 14, .build [.bool false, .slice true [], .slice true []] [], none, []⟩, [13]),
    (⟨none, .store 3 (.t 2) (.t 14), none, []⟩, [14]),
    (⟨some 3, .move (.c (.p (.int .i64 1))), none, []⟩, [])])
    .ret)
  .skip))
  (.seq (.seq (.regionK false [
  (⟨some 15, .fieldAddr 0 (.t 1), none, []⟩, [13]),
  (⟨some 16, .load none (.t 15), none, []⟩, [15])])
  (.cond (.t 16)
  (.seq (.regionK false [
    (⟨some 17, .build [.bool false, .slice true [], .slice true []] [(0, 1, .c (.p (.bool true)))], none, []⟩, [16]),
    (⟨none, .store 3 (.t 2) (.t 17), none, []⟩, [17]),
    (⟨some 3, .move (.c (.p (.int .i64 0))), none, []⟩, [])])
    .ret)
  .skip))
  (.seq (.regionK true [
  (⟨some 18, .fieldAddr 1 (.t 1), none, []⟩, [16]),
  (⟨some 19, .load none (.t 18), none, [0]⟩, [18]),
  (⟨some 20, .call false 68 [.t 19], none, [0, 1]⟩, [19]),
  (⟨some 21, .fieldAddr 2 (.t 1), none, []⟩, []),
  (⟨some 22, .load none (.t 21), none, [3]⟩, [21]),
  (⟨some 23, .call false 68 [.t 22], none, [0, 1, 2, 3, 4]⟩, [22]),
  (⟨some 24, .call false 53 [.t 20, .t 23], none, [0, 1, 2, 3, 4, 5]⟩, [20, 23]),
  (⟨some 25, .extract (.t 24) 0, none, [0, 1, 2, 3, 4, 5, 6]⟩, []),
  (⟨some 26, .extract (.t 24) 1, none, [0, 1, 2, 3, 4, 5, 6]⟩, [24]),
  (⟨none, .store 3 (.t 2) (.t 25), none, [0, 1, 2, 3, 4, 5, 6, 7, 8]⟩, [25]),
  (⟨some 3, .move (.t 26), none, [0, 1, 2, 3, 4, 5, 6, 7, 8, 9]⟩, [26])])
  .ret))))⟩

/-- clockwork/clockworkref19.Valid -/
def a40 : AFunc := ⟨35, 1, [.tmp 2],
  (.seq (.regionK false [
  (⟨some 1, .box (.t 0), none, []⟩, [0]),
  (⟨some 2, .move (.c (.p (.bool false))), none, []⟩, [2])])
  (.seq (.seq (.regionK false [
  (⟨some 3, .fieldAddr 0 (.t 1), none, []⟩, []),
  (⟨some 4, .load none (.t 3), none, []⟩, [3])])
  (.cond (.t 4)
  (.seq (.regionK false [
    (⟨some 5, .fieldAddr 1 (.t 1), none, []⟩, [4]),
    (⟨some 6, .load none (.t 5), none, []⟩, [5]),
    (⟨some 7, .len (.t 6), none, []⟩, [6]),
    (⟨some 8, .bin .eql (.t 7) (.c (.p (.int .i64 0))), none, []⟩, [7]),
    (⟨some 9, .move (.t 8), none, []⟩, [8]),
    (⟨some 10, .fieldAddr 2 (.t 1), some (9, true), []⟩, []),
    (⟨some 11, .load none (.t 10), some (9, true), []⟩, [10]),
    (⟨some 12, .len (.t 11), some (9, true), []⟩, [11]),
    (⟨some 13, .bin .eql (.t 12) (.c (.p (.int .i64 0))), some (9, true), []⟩, [12]),
    (⟨some 14, .pick (.t 9) (.t 13) (.c (.p (.bool false))), none, []⟩, [9, 13]),
    (⟨some 2, .move (.t 14), none, []⟩, [14])])
    .ret)
  .skip))
  (.seq (.regionK false [
  (⟨some 15, .fieldAddr 1 (.t 1), none, []⟩, [4]),
  (⟨some 16, .load none (.t 15), none, []⟩, [15]),
  (⟨some 17, .len (.t 16), none, []⟩, [16]),
  (⟨some 18, .bin .leq (.t 17) (.c (.p (.int .i64 64))), none, []⟩, [17]),
  (⟨some 19, .move (.t 18), none, []⟩, [18]),
  (⟨some 20, .fieldAddr 2 (.t 1), some (19, true), []⟩, []),
  (⟨some 21, .load none (.t 20), some (19, true), []⟩, [20]),
  (⟨some 22, .len (.t 21), some (19, true), []⟩, [21]),
  (⟨some 23, .bin .leq (.t 22) (.c (.p (.int .i64 64))), some (19, true), []⟩, [22]),
  (⟨some 24, .pick (.t 19) (.t 23) (.c (.p (.bool false))), none, []⟩, [19, 23]),
  (⟨some 25, .move (.t 24), none, []⟩, [24]),
  (⟨some 26, .fieldAddr 1 (.t 1), some (25, true), []⟩, []),
  (⟨some 27, .load none (.t 26), some (25, true), []⟩, [26]),
  (⟨some 28, .call false 69 [.t 27], some (25, true), []⟩, [27]),
  (⟨some 29, .pick (.t 25) (.t 28) (.c (.p (.bool false))), none, []⟩, [25, 28]),
  (⟨some 30, .move (.t 29), none, []⟩, [29]),
  (⟨some 31, .fieldAddr 2 (.t 1), some (30, true), []⟩, []),
  (⟨some 32, .load none (.t 31), some (30, true), []⟩, [31]),
  (⟨some 33, .call false 69 [.t 32], some (30, true), []⟩, [32]),
  (⟨some 34, .pick (.t 30) (.t 33) (.c (.p (.bool false))), none, []⟩, [30, 33]),
  (⟨some 2, .move (.t 34), none, []⟩, [34])])
  .ret)))⟩

/-- clockwork/footprint.Same -/
def a41 : AFunc := ⟨24, 2, [.tmp 4],
  (.seq (.regionK false [
  (⟨some 2, .box (.t 0), none, []⟩, [0]),
  (⟨some 3, .box (.t 1), none, []⟩, [1]),
  (⟨some 4, .move (.c (.p (.bool false))), none, []⟩, [4])])
  (.seq (.regionK false [
  (⟨some 5, .fieldAddr 0 (.t 2), none, []⟩, []),
  (⟨some 6, .load none (.t 5), none, []⟩, [5]),
  (⟨some 7, .fieldAddr 0 (.t 3), none, []⟩, []),
  (⟨some 8, .load none (.t 7), none, []⟩, [7]),
  (⟨some 9, .eqb false (.t 6) (.t 8), none, []⟩, [6, 8]),
  (⟨some 10, .move (.t 9), none, []⟩, [9]),
  (⟨some 11, .fieldAddr 1 (.t 2), some (10, true), []⟩, []),
  (⟨some 12, .load none (.t 11), some (10, true), []⟩, [11]),
  (⟨some 13, .fieldAddr 1 (.t 3), some (10, true), []⟩, []),
  (⟨some 14, .load none (.t 13), some (10, true), []⟩, [13]),
  (⟨some 15, .call false 70 [.t 12, .t 14], some (10, true), []⟩, [12, 14]),
  (⟨some 16, .pick (.t 10) (.t 15) (.c (.p (.bool false))), none, []⟩, [10, 15]),
  (⟨some 17, .move (.t 16), none, []⟩, [16]),
  (⟨some 18, .fieldAddr 2 (.t 2), some (17, true), []⟩, []),
  (⟨some 19, .load none (.t 18), some (17, true), []⟩, [18]),
  (⟨some 20, .fieldAddr 2 (.t 3), some (17, true), []⟩, []),
  (⟨some 21, .load none (.t 20), some (17, true), []⟩, [20]),
  (⟨some 22, .call false 70 [.t 19, .t 21], some (17, true), []⟩, [19, 21]),
  (⟨some 23, .pick (.t 17) (.t 22) (.c (.p (.bool false))), none, []⟩, [17, 22]),
  (⟨some 4, .move (.t 23), none, []⟩, [23])])
  .ret))⟩

/-- clockwork/clockworkref04.Same -/
@[irreducible] def a42_l0 : ACode :=
  (.seq (.seq (.regionK false [
  (⟨some 11, .move (.t 5), none, []⟩, []),
  (⟨some 12, .move (.t 0), none, []⟩, []),
  (⟨some 13, .len (.t 12), none, []⟩, [12]),
  (⟨some 14, .bin .lss (.t 11) (.t 13), none, []⟩, [11, 13])])
  (.cond (.t 14)
  .skip
  (.ghost (.forget [0, 1, 5, 14]) (.ghost .lower (.exit 0)))))
  (.seq (.block 1
  (.seq (.regionK true [
    (⟨some 17, .move (.t 0), none, []⟩, [14]),
    (⟨some 18, .move (.t 5), none, []⟩, []),
    (⟨some 19, .indexAddr 1 (.t 17) (.t 18), none, [0, 1]⟩, [17, 18]),
    (⟨some 20, .load none (.t 19), none, [0, 1, 2]⟩, [19]),
    (⟨some 21, .move (.t 1), none, []⟩, []),
    (⟨some 22, .move (.t 5), none, []⟩, []),
    (⟨some 23, .indexAddr 1 (.t 21) (.t 22), none, [4, 5]⟩, [21, 22]),
    (⟨some 24, .load none (.t 23), none, [4, 5, 6]⟩, [23]),
    (⟨some 25, .bin .neq (.t 20) (.t 24), none, [0, 1, 2, 3, 4, 5, 6, 7]⟩, [20, 24])])
    (.cond (.t 25)
    (.seq (.regionK false [
      (⟨some 4, .move (.c (.p (.bool false))), none, []⟩, [0, 1, 5, 25])])
      .ret)
    .skip)))
  (.regionK false [
  (⟨some 15, .move (.t 5), none, []⟩, [25]),
  (⟨some 16, .bin .add (.t 15) (.c (.p (.int .i64 1))), none, []⟩, [15]),
  (⟨some 5, .move (.t 16), none, []⟩, [16])])))

def a42 : AFunc := ⟨26, 2, [.tmp 4],
  (.seq (.regionK false [
  (⟨some 4, .move (.c (.p (.bool false))), none, []⟩, [4])])
  (.seq (.seq (.regionK false [
  (⟨some 6, .move (.t 0), none, []⟩, []),
  (⟨some 7, .len (.t 6), none, []⟩, [6]),
  (⟨some 8, .move (.t 1), none, []⟩, []),
  (⟨some 9, .len (.t 8), none, []⟩, [8]),
  (⟨some 10, .bin .neq (.t 7) (.t 9), none, []⟩, [7, 9])])
  (.cond (.t 10)
  (.seq (.regionK false [
    (⟨some 4, .move (.c (.p (.bool false))), none, []⟩, [0, 1, 10])])
    .ret)
  .skip))
  (.seq (.seq (.regionK false [
  (⟨some 5, .move (.c (.p (.int .i64 0))), none, []⟩, [10])])
  (.block 0
  (.loop
    (.ghost .lower a42_l0))))
  (.seq (.regionK false [
  (⟨some 4, .move (.c (.p (.bool true))), none, []⟩, [])])
  .ret))))⟩

/-- clockwork/footprint.Keys -/
def a43 : AFunc := ⟨12, 1, [.tmp 2],
  (.seq (.regionK false [
  (⟨some 1, .box (.t 0), none, []⟩, [0]),
  (⟨some 2, .move (.c (.p (.slice true []))), none, []⟩, [2])])
  (.seq (.seq (.regionK false [
  (⟨some 3, .load (some 3) (.t 1), none, []⟩, []),
  (⟨some 4, .call false 37 [.t 3], none, []⟩, [3]),
  (⟨some 5, .un .not (.t 4), none, []⟩, [4])])
  (.cond (.t 5)
  (.seq (.regionK false [
    (⟨some 2, .move (.c (.p (.slice true []))), none, []⟩, [5])])
    .ret)
  .skip))
  (.seq (.regionK false [
  (⟨some 6, .fieldAddr 1 (.t 1), none, []⟩, [5]),
  (⟨some 7, .load none (.t 6), none, []⟩, [6]),
  (⟨some 8, .fieldAddr 2 (.t 1), none, []⟩, []),
  (⟨some 9, .load none (.t 8), none, []⟩, [8]),
  (⟨some 10, .buildSlice [.slice true []] 2 [(0, .t 7), (1, .t 9)], none, []⟩, [7, 9]),
  (⟨some 11, .call false 52 [.t 10], none, []⟩, [10]),
  (⟨some 2, .move (.t 11), none, []⟩, [11])])
  .ret)))⟩

/-- clockwork/clockworkref19.Keys -/
def a44 : AFunc := ⟨11, 1, [.tmp 2],
  (.seq (.regionK false [
  (⟨some 1, .box (.t 0), none, []⟩, [0]),
  (⟨some 2, .move (.c (.p (.slice true []))), none, []⟩, [2])])
  (.seq (.seq (.regionK false [
  (⟨some 3, .load (some 3) (.t 1), none, []⟩, []),
  (⟨some 4, .call false 40 [.t 3], none, []⟩, [3]),
  (⟨some 5, .un .not (.t 4), none, []⟩, [4])])
  (.cond (.t 5)
  (.seq (.regionK false [
    (⟨some 2, .move (.c (.p (.slice true []))), none, []⟩, [5])])
    .ret)
  .skip))
  (.seq (.regionK false [
  (⟨some 6, .fieldAddr 1 (.t 1), none, []⟩, [5]),
  (⟨some 7, .load none (.t 6), none, []⟩, [6]),
  (⟨some 8, .fieldAddr 2 (.t 1), none, []⟩, []),
  (⟨some 9, .load none (.t 8), none, []⟩, [8]),
  (⟨some 10, .call false 54 [.t 7, .t 9], none, []⟩, [7, 9]),
  (⟨some 2, .move (.t 10), none, []⟩, [10])])
  .ret)))⟩

/-- clockwork/clockworkref19.Of -/
def a45 : AFunc := ⟨8, 1, [.cell 2 3],
  (.seq (.regionK false [
  (⟨some 1, .box (.t 0), none, []⟩, [0]),
  (⟨some 2, .alloc [.bool false, .slice true [], .slice true []], none, []⟩, [])])
  (.seq (.regionK false [
  (⟨some 3, .fieldAddr 3 (.t 1), none, []⟩, []),
  (⟨some 4, .load none (.t 3), none, []⟩, [3]),
  (⟨some 5, .fieldAddr 4 (.t 1), none, []⟩, []),
  (⟨some 6, .load none (.t 5), none, []⟩, [5]),
  (⟨some 7, .build [.bool false, .slice true [], .slice true []] [(1, 1, .t 4), (2, 1, .t 6)], none, []⟩, [4, 6]),
  (⟨none, .store 3 (.t 2) (.t 7), none, []⟩, [7])])
  .ret))⟩

/-- clockwork/footprint.Project -/
def a46 : AFunc := ⟨25, 2, [.cell 4 3],
  (.seq (.regionK false [
  (⟨some 2, .box (.t 0), none, []⟩, [0]),
  (⟨some 3, .box (.t 1), none, []⟩, [1]),
  (⟨some 4, .alloc [.bool false, .slice true [], .slice true []], none, []⟩, [])])
  (.seq (.seq (.regionK false [
  (⟨some 6, .load (some 3) (.t 2), none, []⟩, []),
  (⟨some 7, .call false 37 [.t 6], none, []⟩, [6]),
  (⟨some 8, .un .not (.t 7), none, []⟩, [7])])
  (.cond (.t 8)
  (.seq (.regionK false [
    (⟨some 9, .build [.bool false, .slice true [], .slice true []] [], none, []⟩, [8]),
    (⟨none, .store 3 (.t 4) (.t 9), none, []⟩, [9])])
    .ret)
  .skip))
  (.seq (.seq (.regionK false [
  (⟨some 10, .fieldAddr 0 (.t 2), none, []⟩, [8]),
  (⟨some 11, .load none (.t 10), none, []⟩, [10])])
  (.cond (.t 11)
  (.seq (.regionK false [
    (⟨some 12, .build [.bool false, .slice true [], .slice true []] [(0, 1, .c (.p (.bool true)))], none, []⟩, [11]),
    (⟨none, .store 3 (.t 4) (.t 12), none, []⟩, [12])])
    .ret)
  .skip))
  (.seq (.regionK false [
  (⟨some 13, .mkfunc 71 [.t 3], none, []⟩, [11]),
  (⟨some 5, .move (.t 13), none, []⟩, [13])])
  (.seq (.ghost (.pure [2]) (.regionS [(2, 5), (4, 5), (2, 6), (4, 6)] [
  ⟨some 14, .fieldAddr 1 (.t 2), none, []⟩,
  ⟨some 15, .load none (.t 14), none, [0]⟩,
  ⟨some 16, .call true 74 [.t 15], none, [0, 1]⟩,
  ⟨some 17, .move (.t 5), none, []⟩,
  ⟨some 18, .call true 73 [.t 16, .t 17], none, [0, 1, 2, 3]⟩,
  ⟨some 19, .fieldAddr 2 (.t 2), none, []⟩,
  ⟨some 20, .load none (.t 19), none, [5]⟩,
  ⟨some 21, .call true 74 [.t 20], none, [0, 1, 2, 3, 4, 5, 6]⟩,
  ⟨some 22, .move (.t 5), none, []⟩,
  ⟨some 23, .call true 73 [.t 21, .t 22], none, [0, 1, 2, 3, 4, 5, 6, 7, 8]⟩,
  ⟨some 24, .build [.bool false, .slice true [], .slice true []] [(1, 1, .t 18), (2, 1, .t 23)], none, [0, 1, 2, 3, 4, 5, 6, 7, 8, 9]⟩,
  ⟨none, .store 3 (.t 4) (.t 24), none, [0, 1, 2, 3, 4, 5, 6, 7, 8, 9, 10]⟩] [5, 14, 15, 16, 17, 18, 19, 20, 21, 22, 23, 24]))
  .ret)))))⟩

/-- clockwork/clockworkref19.Project -/
def a47 : AFunc := ⟨28, 2, [.cell 4 3],
  (.seq (.regionK false [
  (⟨some 2, .box (.t 0), none, []⟩, [0]),
  (⟨some 3, .box (.t 1), none, []⟩, [1]),
  (⟨some 4, .alloc [.bool false, .slice true [], .slice true []], none, []⟩, [])])
  (.seq (.seq (.regionK false [
  (⟨some 5, .load (some 3) (.t 2), none, []⟩, []),
  (⟨some 6, .call false 40 [.t 5], none, []⟩, [5]),
  (⟨some 7, .un .not (.t 6), none, []⟩, [6]),
  (⟨some 8, .move (.t 7), none, []⟩, [7]),
  (⟨some 9, .fieldAddr 0 (.t 2), some (8, false), []⟩, []),
  (⟨some 10, .load none (.t 9), some (8, false), []⟩, [9]),
  (⟨some 11, .pick (.t 8) (.c (.p (.bool true))) (.t 10), none, []⟩, [8, 10])])
  (.cond (.t 11)
  (.seq (.regionK false [
    (⟨some 12, .fieldAddr 0 (.t 2), none, []⟩, [11]),
    (⟨some 13, .load none (.t 12), none, []⟩, [12]),
    (⟨some 14, .move (.t 13), none, []⟩, [13]),
    (⟨some 15, .load (some 3) (.t 2), some (14, true), []⟩, []),
    (⟨some 16, .call false 40 [.t 15], some (14, true), []⟩, [15]),
    (⟨some 17, .pick (.t 14) (.t 16) (.c (.p (.bool false))), none, []⟩, [14, 16]),
    (⟨some 18, .build [.bool false, .slice true [], .slice true []] [(0, 1, .t 17)], none, []⟩, [17]),
    (⟨none, .store 3 (.t 4) (.t 18), none, []⟩, [18])])
    .ret)
  .skip))
  (.seq (.regionK true [
  (⟨some 19, .fieldAddr 1 (.t 2), none, []⟩, [11]),
  (⟨some 20, .load none (.t 19), none, [0]⟩, [19]),
  (⟨some 21, .load (some 2) (.t 3), none, []⟩, []),
  (⟨some 22, .call false 75 [.t 20, .t 21], none, [0, 1, 2]⟩, [20, 21]),
  (⟨some 23, .fieldAddr 2 (.t 2), none, []⟩, []),
  (⟨some 24, .load none (.t 23), none, [4]⟩, [23]),
  (⟨some 25, .load (some 2) (.t 3), none, []⟩, []),
  (⟨some 26, .call false 75 [.t 24, .t 25], none, [0, 1, 2, 3, 4, 5, 6]⟩, [24, 25]),
  (⟨some 27, .build [.bool false, .slice true [], .slice true []] [(1, 1, .t 22), (2, 1, .t 26)], none, [0, 1, 2, 3, 4, 5, 6, 7]⟩, [22, 26]),
  (⟨none, .store 3 (.t 4) (.t 27), none, [0, 1, 2, 3, 4, 5, 6, 7, 8]⟩, [27])])
  .ret)))⟩

/-- clockwork/footprint.Of -/
def a48 : AFunc := ⟨10, 1, [.cell 2 3],
  (.seq (.regionK false [
  (⟨some 1, .box (.t 0), none, []⟩, [0]),
  (⟨some 2, .alloc [.bool false, .slice true [], .slice true []], none, []⟩, [])])
  (.seq (.regionK true [
  (⟨some 3, .fieldAddr 3 (.t 1), none, []⟩, []),
  (⟨some 4, .load none (.t 3), none, [0]⟩, [3]),
  (⟨some 5, .call false 74 [.t 4], none, [0, 1]⟩, [4]),
  (⟨some 6, .fieldAddr 4 (.t 1), none, []⟩, []),
  (⟨some 7, .load none (.t 6), none, [3]⟩, [6]),
  (⟨some 8, .call false 74 [.t 7], none, [0, 1, 2, 3, 4]⟩, [7]),
  (⟨some 9, .build [.bool false, .slice true [], .slice true []] [(1, 1, .t 5), (2, 1, .t 8)], none, [0, 1, 2, 3, 4, 5]⟩, [5, 8]),
  (⟨none, .store 3 (.t 2) (.t 9), none, [0, 1, 2, 3, 4, 5, 6]⟩, [9])])
  .ret))⟩

/-- clockwork/clockworkref04.Split -/
def a49 : AFunc := ⟨42, 2, [.cell 4 2, .cell 5 2, .tmp 6],
  (.seq (.regionK false [
  (⟨some 2, .box (.t 0), none, []⟩, [0]),
  (⟨some 4, .alloc [.str ⟨#[]⟩, .str ⟨#[]⟩], none, []⟩, []),
  (⟨some 5, .alloc [.str ⟨#[]⟩, .str ⟨#[]⟩], none, []⟩, []),
  (⟨some 6, .move (.c (.p (.int .i64 0))), none, []⟩, [6])])
  (.seq (.seq (.regionK false [
  (⟨some 7, .load (some 2) (.t 2), none, []⟩, []),
  (⟨some 8, .call false 76 [.t 7], none, []⟩, [7]),
  (⟨some 9, .un .not (.t 8), none, []⟩, [8]),
  (⟨some 10, .move (.t 9), none, []⟩, [9]),
  (⟨some 11, .move (.t 1), some (10, false), []⟩, []),
  (⟨some 12, .call false 77 [.t 11], some (10, false), []⟩, [11]),
  (⟨some 13, .un .not (.t 12), some (10, false), []⟩, [12]),
  (⟨some 14, .pick (.t 10) (.c (.p (.bool true))) (.t 13), none, []⟩, [10, 13]),
  (⟨some 15, .move (.t 14), none, []⟩, [14]),
  (⟨some 16, .move (.t 1), some (15, false), []⟩, []),
  (⟨some 17, .fieldAddr 0 (.t 2), some (15, false), []⟩, []),
  (⟨some 18, .load none (.t 17), some (15, false), []⟩, [17]),
  (⟨some 19, .bin .leq (.t 16) (.t 18), some (15, false), []⟩, [16, 18]),
  (⟨some 20, .pick (.t 15) (.c (.p (.bool true))) (.t 19), none, []⟩, [15, 19]),
  (⟨some 21, .move (.t 20), none, []⟩, [20]),
  (⟨some 22, .fieldAddr 1 (.t 2), some (21, false), []⟩, []),
  (⟨some 23, .load none (.t 22), some (21, false), []⟩, [22]),
  (⟨some 24, .bin .neq (.t 23) (.c (.p (.str ⟨#[]⟩))), some (21, false), []⟩, [23]),
  (⟨some 25, .move (.t 24), some (21, false), []⟩, [24]),
  (⟨some 26, .move (.t 1), some (25, true), []⟩, []),
  (⟨some 27, .fieldAddr 1 (.t 2), some (25, true), []⟩, []),
  (⟨some 28, .load none (.t 27), some (25, true), []⟩, [27]),
  (⟨some 29, .bin .geq (.t 26) (.t 28), some (25, true), []⟩, [26, 28]),
  (⟨some 30, .pick (.t 25) (.t 29) (.c (.p (.bool false))), some (21, false), []⟩, [25, 29]),
  (⟨some 31, .pick (.t 21) (.c (.p (.bool true))) (.t 30), none, []⟩, [21, 30])])
  (.cond (.t 31)
  (.seq (.regionK false [
    (⟨some 32, .build [.str ⟨#[]⟩, .str ⟨#[]⟩] [], none, []⟩, [1, 31]),
    (⟨some 33, .build [.str ⟨#[]⟩, .str ⟨#[]⟩] [], none, []⟩, []),
    (⟨none, .store 2 (.t 4) (.t 32), none, []⟩, [32]),
    (⟨none, .store 2 (.t 5) (.t 33), none, []⟩, [33]),
    (⟨some 6, .move (.c (.p (.int .i64 1))), none, []⟩, [])])
    .ret)
  .skip))
  (.seq (.regionS [(5, 8), (6, 8)] [
  ⟨some 34, .fieldAddr 0 (.t 2), none, []⟩,
  ⟨some 35, .load none (.t 34), none, [0]⟩,
  ⟨some 36, .move (.t 1), none, []⟩,
  ⟨some 37, .build [.str ⟨#[]⟩, .str ⟨#[]⟩] [(0, 1, .t 35), (1, 1, .t 36)], none, [0, 1, 2]⟩,
  ⟨some 38, .move (.t 1), none, []⟩,
  ⟨some 39, .fieldAddr 1 (.t 2), none, []⟩,
  ⟨some 40, .load none (.t 39), none, [5]⟩,
  ⟨some 41, .build [.str ⟨#[]⟩, .str ⟨#[]⟩] [(0, 1, .t 38), (1, 1, .t 40)], none, [4, 5, 6]⟩,
  ⟨none, .store 2 (.t 4) (.t 37), none, [0, 1, 2, 3]⟩,
  ⟨none, .store 2 (.t 5) (.t 41), none, [0, 1, 2, 3, 4, 5, 6, 7, 8]⟩,
  ⟨some 6, .move (.c (.p (.int .i64 0))), none, [0, 1, 2, 3, 4, 5, 6, 7, 8, 9]⟩] [1, 31, 34, 35, 36, 37, 38, 39, 40, 41])
  .ret)))⟩

/-- clockwork/clockworkref19.Few -/
@[irreducible] def a50_l0 : ACode :=
  (.seq (.seq (.regionK false [
  (⟨some 33, .move (.t 6), none, []⟩, []),
  (⟨some 34, .fieldAddr 2 (.t 2), none, []⟩, []),
  (⟨some 35, .load none (.t 34), none, []⟩, [34]),
  (⟨some 36, .len (.t 35), none, []⟩, [35]),
  (⟨some 37, .bin .lss (.t 33) (.t 36), none, []⟩, [33, 36])])
  (.cond (.t 37)
  .skip
  (.ghost (.forget [6, 37]) (.ghost (.free [2]) (.ghost .lower (.exit 2))))))
  (.seq (.block 3
  (.seq (.regionK false [
    (⟨some 40, .fieldAddr 2 (.t 2), none, []⟩, [37]),
    (⟨some 41, .load none (.t 40), none, []⟩, [40]),
    (⟨some 42, .move (.t 6), none, []⟩, []),
    (⟨some 43, .indexAddr 1 (.t 41) (.t 42), none, []⟩, [41, 42]),
    (⟨some 44, .load none (.t 43), none, []⟩, [43]),
    (⟨some 45, .lenS (.t 44), none, []⟩, [44]),
    (⟨some 46, .bin .gtr (.t 45) (.c (.p (.int .i64 100))), none, []⟩, [45])])
    (.cond (.t 46)
    (.seq (.regionK false [
      (⟨some 4, .move (.c (.p (.bool false))), none, []⟩, [6, 46])])
      .ret)
    .skip)))
  (.regionK false [
  (⟨some 38, .move (.t 6), none, []⟩, [46]),
  (⟨some 39, .bin .add (.t 38) (.c (.p (.int .i64 1))), none, []⟩, [38]),
  (⟨some 6, .move (.t 39), none, []⟩, [39])])))

@[irreducible] def a50_l1 : ACode :=
  (.seq (.seq (.regionK false [
  (⟨some 19, .move (.t 5), none, []⟩, []),
  (⟨some 20, .fieldAddr 1 (.t 2), none, []⟩, []),
  (⟨some 21, .load none (.t 20), none, []⟩, [20]),
  (⟨some 22, .len (.t 21), none, []⟩, [21]),
  (⟨some 23, .bin .lss (.t 19) (.t 22), none, []⟩, [19, 22])])
  (.cond (.t 23)
  .skip
  (.ghost (.forget [5, 23]) (.ghost .lower (.exit 0)))))
  (.seq (.block 1
  (.seq (.regionK false [
    (⟨some 26, .fieldAddr 1 (.t 2), none, []⟩, [23]),
    (⟨some 27, .load none (.t 26), none, []⟩, [26]),
    (⟨some 28, .move (.t 5), none, []⟩, []),
    (⟨some 29, .indexAddr 1 (.t 27) (.t 28), none, []⟩, [27, 28]),
    (⟨some 30, .load none (.t 29), none, []⟩, [29]),
    (⟨some 31, .lenS (.t 30), none, []⟩, [30]),
    (⟨some 32, .bin .gtr (.t 31) (.c (.p (.int .i64 100))), none, []⟩, [31])])
    (.cond (.t 32)
    (.seq (.regionK false [
      (⟨some 4, .move (.c (.p (.bool false))), none, []⟩, [5, 32])])
      .ret)
    .skip)))
  (.regionK false [
  (⟨some 24, .move (.t 5), none, []⟩, [32]),
  (⟨some 25, .bin .add (.t 24) (.c (.p (.int .i64 1))), none, []⟩, [24]),
  (⟨some 5, .move (.t 25), none, []⟩, [25])])))

def a50 : AFunc := ⟨47, 2, [.tmp 4],
  (.seq (.regionK false [
  (⟨some 2, .box (.t 0), none, []⟩, [0]),
  (⟨some 4, .move (.c (.p (.bool false))), none, []⟩, [4])])
  (.seq (.seq (.regionK false [
  (⟨some 7, .fieldAddr 1 (.t 2), none, []⟩, []),
  (⟨some 8, .load none (.t 7), none, []⟩, [7]),
  (⟨some 9, .len (.t 8), none, []⟩, [8]),
  (⟨some 10, .move (.t 1), none, []⟩, []),
  (⟨some 11, .bin .gtr (.t 9) (.t 10), none, []⟩, [9, 10]),
  (⟨some 12, .move (.t 11), none, []⟩, [11]),
  (⟨some 13, .fieldAddr 2 (.t 2), some (12, false), []⟩, []),
  (⟨some 14, .load none (.t 13), some (12, false), []⟩, [13]),
  (⟨some 15, .len (.t 14), some (12, false), []⟩, [14]),
  (⟨some 16, .move (.t 1), some (12, false), []⟩, [1]),
  (⟨some 17, .bin .gtr (.t 15) (.t 16), some (12, false), []⟩, [15, 16]),
  (⟨some 18, .pick (.t 12) (.c (.p (.bool true))) (.t 17), none, []⟩, [12, 17])])
  (.cond (.t 18)
  (.seq (.regionK false [
    (⟨some 4, .move (.c (.p (.bool false))), none, []⟩, [18])])
    .ret)
  .skip))
  (.seq (.seq (.regionK false [
  (⟨some 5, .move (.c (.p (.int .i64 0))), none, []⟩, [18])])
  (.block 0
  (.loop
    (.ghost .lower a50_l1))))
  (.seq (.seq (.regionK false [
  (⟨some 6, .move (.c (.p (.int .i64 0))), none, []⟩, [])])
  (.block 2
  (.loop
    (.ghost .lower a50_l0))))
  (.seq (.regionK false [
  (⟨some 4, .move (.c (.p (.bool true))), none, []⟩, [])])
  .ret)))))⟩

/-- clockwork/footprint.limited -/
def a51 : AFunc := ⟨18, 2, [.cell 4 3, .tmp 5],
  (.seq (.regionK false [
  (⟨some 4, .alloc [.bool false, .slice true [], .slice true []], none, []⟩, []),
  (⟨some 5, .move (.c (.p (.int .i64 0))), none, []⟩, [5])])
  (.seq (.seq (.regionK false [
  (⟨some 6, .move (.t 0), none, []⟩, []),
  (⟨some 7, .len (.t 6), none, []⟩, [6]),
  (⟨some 8, .bin .gtr (.t 7) (.c (.p (.int .i64 64))), none, []⟩, [7]),
  (⟨some 9, .move (.t 8), none, []⟩, [8]),
  (⟨some 10, .move (.t 1), some (9, false), []⟩, []),
  (⟨some 11, .len (.t 10), some (9, false), []⟩, [10]),
  (⟨some 12, .bin .gtr (.t 11) (.c (.p (.int .i64 64))), some (9, false), []⟩, [11]),
  (⟨some 13, .pick (.t 9) (.c (.p (.bool true))) (.t 12), none, []⟩, [9, 12])])
  (.cond (.t 13)
  (.seq (.regionK false [
    (⟨some 14, .build [.bool false, .slice true [], .slice true []] [], none, []⟩, [0, 1, 13]),
    (⟨none, .store 3 (.t 4) (.t 14), none, []⟩, [14]),
    (⟨some 5, .move (.c (.p (.int .i64 2))), none, []⟩, [])])
    .ret)
  .skip))
  (.seq (.regionK false [
  (⟨some 15, .move (.t 0), none, []⟩, [0, 13]),
  (⟨some 16, .move (.t 1), none, []⟩, [1]),
  (⟨some 17, .build [.bool false, .slice true [], .slice true []] [(1, 1, .t 15), (2, 1, .t 16)], none, []⟩, [15, 16]),
  (⟨none, .store 3 (.t 4) (.t 17), none, []⟩, [17]),
  (⟨some 5, .move (.c (.p (.int .i64 0))), none, []⟩, [])])
  .ret)))⟩

/-- clockwork/footprint.merged -/
def a52 : AFunc := ⟨10, 1, [.tmp 2],
  (.seq (.regionK false [
  (⟨some 2, .move (.c (.p (.slice true []))), none, []⟩, [2])])
  (.seq (.regionK false [
  (⟨some 4, .move (.t 0), none, []⟩, [0]),
  (⟨some 5, .call true 65 [.t 4], none, []⟩, [4]),
  (⟨some 3, .move (.t 5), none, []⟩, [5])])
  (.seq (.regionK false [
  (⟨some 6, .move (.t 3), none, []⟩, []),
  (⟨some 7, .call true 78 [.t 6], none, []⟩, [6, 7])])
  (.seq (.regionK false [
  (⟨some 8, .move (.t 3), none, []⟩, [3]),
  (⟨some 9, .call true 79 [.t 8], none, []⟩, [8]),
  (⟨some 2, .move (.t 9), none, []⟩, [9])])
  .ret))))⟩

/-- clockwork/clockworkref19.limited -/
def a53 : AFunc := ⟨18, 2, [.cell 4 3, .tmp 5],
  (.seq (.regionK false [
  (⟨some 4, .alloc [.bool false, .slice true [], .slice true []], none, []⟩, []),
  (⟨some 5, .move (.c (.p (.int .i64 0))), none, []⟩, [5])])
  (.seq (.seq (.regionK false [
  (⟨some 6, .move (.t 0), none, []⟩, []),
  (⟨some 7, .len (.t 6), none, []⟩, [6]),
  (⟨some 8, .bin .gtr (.t 7) (.c (.p (.int .i64 64))), none, []⟩, [7]),
  (⟨some 9, .move (.t 8), none, []⟩, [8]),
  (⟨some 10, .move (.t 1), some (9, false), []⟩, []),
  (⟨some 11, .len (.t 10), some (9, false), []⟩, [10]),
  (⟨some 12, .bin .gtr (.t 11) (.c (.p (.int .i64 64))), some (9, false), []⟩, [11]),
  (⟨some 13, .pick (.t 9) (.c (.p (.bool true))) (.t 12), none, []⟩, [9, 12])])
  (.cond (.t 13)
  (.seq (.regionK false [
    (⟨some 14, .build [.bool false, .slice true [], .slice true []] [], none, []⟩, [0, 1, 13]),
    (⟨none, .store 3 (.t 4) (.t 14), none, []⟩, [14]),
    (⟨some 5, .move (.c (.p (.int .i64 2))), none, []⟩, [])])
    .ret)
  .skip))
  (.seq (.regionK false [
  (⟨some 15, .move (.t 0), none, []⟩, [0, 13]),
  (⟨some 16, .move (.t 1), none, []⟩, [1]),
  (⟨some 17, .build [.bool false, .slice true [], .slice true []] [(1, 1, .t 15), (2, 1, .t 16)], none, []⟩, [15, 16]),
  (⟨none, .store 3 (.t 4) (.t 17), none, []⟩, [17]),
  (⟨some 5, .move (.c (.p (.int .i64 0))), none, []⟩, [])])
  .ret)))⟩

/-- clockwork/clockworkref19.both -/
@[irreducible] def a54_l0 : ACode :=
  (.seq (.seq (.regionK false [
  (⟨some 9, .move (.t 6), none, []⟩, []),
  (⟨some 10, .move (.t 1), none, []⟩, []),
  (⟨some 11, .len (.t 10), none, []⟩, [10]),
  (⟨some 12, .bin .lss (.t 9) (.t 11), none, []⟩, [9, 11])])
  (.cond (.t 12)
  .skip
  (.ghost (.forget [1, 6, 12]) (.ghost .lower (.exit 0)))))
  (.seq (.block 1
  (.regionK false [
    (⟨some 15, .move (.t 5), none, []⟩, [12]),
    (⟨some 16, .move (.t 1), none, []⟩, []),
    (⟨some 17, .move (.t 6), none, []⟩, []),
    (⟨some 18, .indexAddr 1 (.t 16) (.t 17), none, []⟩, [16, 17]),
    (⟨some 19, .load none (.t 18), none, []⟩, [18]),
    (⟨some 20, .call false 80 [.t 15, .t 19], none, []⟩, [15, 19]),
    (⟨some 5, .move (.t 20), none, []⟩, [20])]))
  (.regionK false [
  (⟨some 13, .move (.t 6), none, []⟩, []),
  (⟨some 14, .bin .add (.t 13) (.c (.p (.int .i64 1))), none, []⟩, [13]),
  (⟨some 6, .move (.t 14), none, []⟩, [14])])))

def a54 : AFunc := ⟨22, 2, [.tmp 4],
  (.seq (.regionK false [
  (⟨some 4, .move (.c (.p (.slice true []))), none, []⟩, [4])])
  (.seq (.regionK false [
  (⟨some 7, .move (.t 0), none, []⟩, [0]),
  (⟨some 8, .call false 68 [.t 7], none, []⟩, [7]),
  (⟨some 5, .move (.t 8), none, []⟩, [8])])
  (.seq (.seq (.regionK false [
  (⟨some 6, .move (.c (.p (.int .i64 0))), none, []⟩, [])])
  (.block 0
  (.loop
    (.ghost .lower a54_l0))))
  (.seq (.regionK false [
  (⟨some 21, .move (.t 5), none, []⟩, [5]),
  (⟨some 4, .move (.t 21), none, []⟩, [21])])
  .ret))))⟩

/-- clockwork/clockworklaw38.clients -/
@[irreducible] def a55_l0 : ACode :=
  (.seq (.seq (.regionK false [
  (⟨some 5, .move (.t 4), none, []⟩, []),
  (⟨some 6, .move (.t 0), none, []⟩, []),
  (⟨some 7, .len (.t 6), none, []⟩, [6]),
  (⟨some 8, .bin .lss (.t 5) (.t 7), none, []⟩, [5, 7])])
  (.cond (.t 8)
  .skip
  (.ghost (.forget [0, 4, 8]) (.ghost .lower (.exit 0)))))
  (.seq (.block 1
  (.regionK false [
    (⟨some 11, .move (.t 3), none, []⟩, [8]),
    (⟨some 12, .move (.t 0), none, []⟩, []),
    (⟨some 13, .move (.t 4), none, []⟩, []),
    (⟨some 14, .indexAddr 1 (.t 12) (.t 13), none, []⟩, [12, 13]),
    (⟨some 15, .load none (.t 14), none, []⟩, [14]),
    (⟨some 16, .build [.int .i64 0, .int .i64 0, .str ⟨#[]⟩, .slice true [], .bool false, .bool false, .slice true [], .slice true []] [(0, 1, .t 15)], none, []⟩, [15]),
    (⟨some 17, .buildSlice [.int .i64 0, .int .i64 0, .str ⟨#[]⟩, .slice true [], .bool false, .bool false, .slice true [], .slice true []] 1 [(0, .t 16)], none, []⟩, [16]),
    (⟨some 18, .append 120 8 (.t 11) (.t 17), none, []⟩, [11, 17]),
    (⟨some 3, .move (.t 18), none, []⟩, [18])]))
  (.regionK false [
  (⟨some 9, .move (.t 4), none, []⟩, []),
  (⟨some 10, .bin .add (.t 9) (.c (.p (.int .i64 1))), none, []⟩, [9]),
  (⟨some 4, .move (.t 10), none, []⟩, [10])])))

def a55 : AFunc := ⟨20, 1, [.tmp 2],
  (.seq (.regionK false [
  (⟨some 2, .move (.c (.p (.slice true []))), none, []⟩, [2])])
  (.seq (.regionK false [
  (⟨some 3, .move (.c (.p (.slice true []))), none, []⟩, [])])
  (.ghost (.own 8 3) (.seq (.seq (.regionK false [
  (⟨some 4, .move (.c (.p (.int .i64 0))), none, []⟩, [])])
  (.block 0
  (.loop
    (.ghost .lower a55_l0))))
  (.seq (.regionK false [
  (⟨some 19, .move (.t 3), none, []⟩, [3]),
  (⟨some 2, .move (.t 19), none, []⟩, [19])])
  .ret)))))⟩

/-- (*clockwork/admit.desk).open -/
def a56 : AFunc := ⟨58, 3, [.tmp 6],
  (.seq (.regionK false [
  (⟨some 5, .box (.t 2), none, []⟩, [2]),
  (⟨some 6, .move (.c (.p (.bool false))), none, []⟩, [6])])
  (.seq (.regionK true [
  (⟨some 7, .move (.t 0), none, []⟩, []),
  (⟨some 8, .nilCheck (.t 7), none, [0]⟩, [7]),
  (⟨some 9, .fieldAddr 7 (.t 8), none, [0, 1]⟩, [8]),
  (⟨some 10, .load none (.t 9), none, [0, 1, 2]⟩, [9]),
  (⟨some 11, .move (.t 1), none, []⟩, []),
  (⟨some 12, .lookup (.bool false) (.t 10) (.t 11), none, [0, 1, 2, 3, 4]⟩, [10, 11]),
  (⟨some 13, .un .not (.t 12), none, [0, 1, 2, 3, 4, 5]⟩, [12]),
  (⟨some 14, .move (.t 13), none, [0, 1, 2, 3, 4, 5, 6]⟩, [13]),
  (⟨some 15, .move (.t 0), some (14, true), [0, 1, 2, 3, 4, 5, 6, 7]⟩, []),
  (⟨some 16, .nilCheck (.t 15), some (14, true), [0, 1, 2, 3, 4, 5, 6, 7, 8]⟩, [15]),
  (⟨some 17, .fieldAddr 5 (.t 16), some (14, true), [0, 1, 2, 3, 4, 5, 6, 7, 8, 9]⟩, [16]),
  (⟨some 18, .load none (.t 17), some (14, true), [0, 1, 2, 3, 4, 5, 6, 7, 8, 9, 10]⟩, [17]),
  (⟨some 19, .len (.t 18), some (14, true), [0, 1, 2, 3, 4, 5, 6, 7, 8, 9, 10, 11]⟩, [18]),
  (⟨some 20, .move (.t 0), some (14, true), [0, 1, 2, 3, 4, 5, 6, 7]⟩, []),
  (⟨some 21, .nilCheck (.t 20), some (14, true), [0, 1, 2, 3, 4, 5, 6, 7, 13]⟩, [20]),
  (⟨some 22, .fieldAddr 0 (.t 21), some (14, true), [0, 1, 2, 3, 4, 5, 6, 7, 13, 14]⟩, [21]),
  (⟨some 23, .fieldAddr 0 (.t 22), some (14, true), [0, 1, 2, 3, 4, 5, 6, 7, 13, 14, 15]⟩, [22]),
  (⟨some 24, .load none (.t 23), some (14, true), [0, 1, 2, 3, 4, 5, 6, 7, 13, 14, 15, 16]⟩, [23]),
  (⟨some 25, .bin .lss (.t 19) (.t 24), some (14, true), [0, 1, 2, 3, 4, 5, 6, 7, 8, 9, 10, 11, 12, 13, 14, 15, 16, 17]⟩, [19, 24]),
  (⟨some 26, .pick (.t 14) (.t 25) (.c (.p (.bool false))), none, [0, 1, 2, 3, 4, 5, 6, 7, 8, 9, 10, 11, 12, 13, 14, 15, 16, 17, 18]⟩, [14, 25]),
  (⟨some 27, .move (.t 26), none, [0, 1, 2, 3, 4, 5, 6, 7, 8, 9, 10, 11, 12, 13, 14, 15, 16, 17, 18, 19]⟩, [26]),
  (⟨some 28, .move (.t 0), some (27, true), [0, 1, 2, 3, 4, 5, 6, 7, 8, 9, 10, 11, 12, 13, 14, 15, 16, 17, 18, 19, 20]⟩, []),
  (⟨some 29, .nilCheck (.t 28), some (27, true), [0, 1, 2, 3, 4, 5, 6, 7, 8, 9, 10, 11, 12, 13, 14, 15, 16, 17, 18, 19, 20, 21]⟩, [28]),
  (⟨some 30, .fieldAddr 6 (.t 29), some (27, true), [0, 1, 2, 3, 4, 5, 6, 7, 8, 9, 10, 11, 12, 13, 14, 15, 16, 17, 18, 19, 20, 21, 22]⟩, [29]),
  (⟨some 31, .load none (.t 30), some (27, true), [0, 1, 2, 3, 4, 5, 6, 7, 8, 9, 10, 11, 12, 13, 14, 15, 16, 17, 18, 19, 20, 21, 22, 23]⟩, [30]),
  (⟨some 32, .move (.t 1), some (27, true), [0, 1, 2, 3, 4, 5, 6, 7, 8, 9, 10, 11, 12, 13, 14, 15, 16, 17, 18, 19, 20]⟩, [1]),
  (⟨some 33, .lookup (.int .i64 0) (.t 31) (.t 32), some (27, true), [0, 1, 2, 3, 4, 5, 6, 7, 8, 9, 10, 11, 12, 13, 14, 15, 16, 17, 18, 19, 20, 21, 22, 23, 24, 25]⟩, [31, 32]),
  (⟨some 34, .move (.t 0), some (27, true), [0, 1, 2, 3, 4, 5, 6, 7, 8, 9, 10, 11, 12, 13, 14, 15, 16, 17, 18, 19, 20]⟩, []),
  (⟨some 35, .nilCheck (.t 34), some (27, true), [0, 1, 2, 3, 4, 5, 6, 7, 8, 9, 10, 11, 12, 13, 14, 15, 16, 17, 18, 19, 20, 27]⟩, [34]),
  (⟨some 36, .fieldAddr 0 (.t 35), some (27, true), [0, 1, 2, 3, 4, 5, 6, 7, 8, 9, 10, 11, 12, 13, 14, 15, 16, 17, 18, 19, 20, 27, 28]⟩, [35]),
  (⟨some 37, .fieldAddr 1 (.t 36), some (27, true), [0, 1, 2, 3, 4, 5, 6, 7, 8, 9, 10, 11, 12, 13, 14, 15, 16, 17, 18, 19, 20, 27, 28, 29]⟩, [36]),
  (⟨some 38, .load none (.t 37), some (27, true), [0, 1, 2, 3, 4, 5, 6, 7, 8, 9, 10, 11, 12, 13, 14, 15, 16, 17, 18, 19, 20, 27, 28, 29, 30]⟩, [37]),
  (⟨some 39, .bin .lss (.t 33) (.t 38), some (27, true), [0, 1, 2, 3, 4, 5, 6, 7, 8, 9, 10, 11, 12, 13, 14, 15, 16, 17, 18, 19, 20, 21, 22, 23, 24, 25, 26, 27, 28, 29, 30, 31]⟩, [33, 38]),
  (⟨some 40, .pick (.t 27) (.t 39) (.c (.p (.bool false))), none, [0, 1, 2, 3, 4, 5, 6, 7, 8, 9, 10, 11, 12, 13, 14, 15, 16, 17, 18, 19, 20, 21, 22, 23, 24, 25, 26, 27, 28, 29, 30, 31, 32]⟩, [27, 39]),
  (⟨some 41, .move (.t 40), none, [0, 1, 2, 3, 4, 5, 6, 7, 8, 9, 10, 11, 12, 13, 14, 15, 16, 17, 18, 19, 20, 21, 22, 23, 24, 25, 26, 27, 28, 29, 30, 31, 32, 33]⟩, [40]),
  (⟨some 42, .move (.t 0), some (41, true), [0, 1, 2, 3, 4, 5, 6, 7, 8, 9, 10, 11, 12, 13, 14, 15, 16, 17, 18, 19, 20, 21, 22, 23, 24, 25, 26, 27, 28, 29, 30, 31, 32, 33, 34]⟩, []),
  (⟨some 43, .nilCheck (.t 42), some (41, true), [0, 1, 2, 3, 4, 5, 6, 7, 8, 9, 10, 11, 12, 13, 14, 15, 16, 17, 18, 19, 20, 21, 22, 23, 24, 25, 26, 27, 28, 29, 30, 31, 32, 33, 34, 35]⟩, [42]),
  (⟨some 44, .fieldAddr 0 (.t 43), some (41, true), [0, 1, 2, 3, 4, 5, 6, 7, 8, 9, 10, 11, 12, 13, 14, 15, 16, 17, 18, 19, 20, 21, 22, 23, 24, 25, 26, 27, 28, 29, 30, 31, 32, 33, 34, 35, 36]⟩, [43]),
  (⟨some 45, .load (some 4) (.t 44), some (41, true), [0, 1, 2, 3, 4, 5, 6, 7, 8, 9, 10, 11, 12, 13, 14, 15, 16, 17, 18, 19, 20, 21, 22, 23, 24, 25, 26, 27, 28, 29, 30, 31, 32, 33, 34, 35, 36, 37]⟩, [44]),
  (⟨some 46, .move (.t 0), some (41, true), [0, 1, 2, 3, 4, 5, 6, 7, 8, 9, 10, 11, 12, 13, 14, 15, 16, 17, 18, 19, 20, 21, 22, 23, 24, 25, 26, 27, 28, 29, 30, 31, 32, 33, 34]⟩, []),
  (⟨some 47, .nilCheck (.t 46), some (41, true), [0, 1, 2, 3, 4, 5, 6, 7, 8, 9, 10, 11, 12, 13, 14, 15, 16, 17, 18, 19, 20, 21, 22, 23, 24, 25, 26, 27, 28, 29, 30, 31, 32, 33, 34, 39]⟩, [46]),
  (⟨some 48, .fieldAddr 4 (.t 47), some (41, true), [0, 1, 2, 3, 4, 5, 6, 7, 8, 9, 10, 11, 12, 13, 14, 15, 16, 17, 18, 19, 20, 21, 22, 23, 24, 25, 26, 27, 28, 29, 30, 31, 32, 33, 34, 39, 40]⟩, [47]),
  (⟨some 49, .load none (.t 48), some (41, true), [0, 1, 2, 3, 4, 5, 6, 7, 8, 9, 10, 11, 12, 13, 14, 15, 16, 17, 18, 19, 20, 21, 22, 23, 24, 25, 26, 27, 28, 29, 30, 31, 32, 33, 34, 39, 40, 41]⟩, [48]),
  (⟨some 50, .move (.t 0), some (41, true), [0, 1, 2, 3, 4, 5, 6, 7, 8, 9, 10, 11, 12, 13, 14, 15, 16, 17, 18, 19, 20, 21, 22, 23, 24, 25, 26, 27, 28, 29, 30, 31, 32, 33, 34]⟩, [0]),
  (⟨some 51, .nilCheck (.t 50), some (41, true), [0, 1, 2, 3, 4, 5, 6, 7, 8, 9, 10, 11, 12, 13, 14, 15, 16, 17, 18, 19, 20, 21, 22, 23, 24, 25, 26, 27, 28, 29, 30, 31, 32, 33, 34, 43]⟩, [50]),
  (⟨some 52, .fieldAddr 5 (.t 51), some (41, true), [0, 1, 2, 3, 4, 5, 6, 7, 8, 9, 10, 11, 12, 13, 14, 15, 16, 17, 18, 19, 20, 21, 22, 23, 24, 25, 26, 27, 28, 29, 30, 31, 32, 33, 34, 43, 44]⟩, [51]),
  (⟨some 53, .load none (.t 52), some (41, true), [0, 1, 2, 3, 4, 5, 6, 7, 8, 9, 10, 11, 12, 13, 14, 15, 16, 17, 18, 19, 20, 21, 22, 23, 24, 25, 26, 27, 28, 29, 30, 31, 32, 33, 34, 43, 44, 45]⟩, [52]),
  (⟨some 54, .load (some 3) (.t 5), some (41, true), [0, 1, 2, 3, 4, 5, 6, 7, 8, 9, 10, 11, 12, 13, 14, 15, 16, 17, 18, 19, 20, 21, 22, 23, 24, 25, 26, 27, 28, 29, 30, 31, 32, 33, 34]⟩, []),
  (⟨some 55, .call false 27 [.t 45, .t 49, .t 53, .t 54], some (41, true), [0, 1, 2, 3, 4, 5, 6, 7, 8, 9, 10, 11, 12, 13, 14, 15, 16, 17, 18, 19, 20, 21, 22, 23, 24, 25, 26, 27, 28, 29, 30, 31, 32, 33, 34, 35, 36, 37, 38, 39, 40, 41, 42, 43, 44, 45, 46, 47]⟩, [45, 49, 53, 54]),
  (⟨some 56, .un .not (.t 55), some (41, true), [0, 1, 2, 3, 4, 5, 6, 7, 8, 9, 10, 11, 12, 13, 14, 15, 16, 17, 18, 19, 20, 21, 22, 23, 24, 25, 26, 27, 28, 29, 30, 31, 32, 33, 34, 35, 36, 37, 38, 39, 40, 41, 42, 43, 44, 45, 46, 47, 48]⟩, [55]),
  (⟨some 57, .pick (.t 41) (.t 56) (.c (.p (.bool false))), none, [0, 1, 2, 3, 4, 5, 6, 7, 8, 9, 10, 11, 12, 13, 14, 15, 16, 17, 18, 19, 20, 21, 22, 23, 24, 25, 26, 27, 28, 29, 30, 31, 32, 33, 34, 35, 36, 37, 38, 39, 40, 41, 42, 43, 44, 45, 46, 47, 48, 49]⟩, [41, 56]),
  (⟨some 6, .move (.t 57), none, [0, 1, 2, 3, 4, 5, 6, 7, 8, 9, 10, 11, 12, 13, 14, 15, 16, 17, 18, 19, 20, 21, 22, 23, 24, 25, 26, 27, 28, 29, 30, 31, 32, 33, 34, 35, 36, 37, 38, 39, 40, 41, 42, 43, 44, 45, 46, 47, 48, 49, 50]⟩, [57])])
  (.ghost (.free [5]) .ret)))⟩

/-- clockwork/admit.contains -/
def a57 : AFunc := ⟨14, 2, [.tmp 4],
  (.seq (.regionK false [
  (⟨some 2, .box (.t 0), none, []⟩, [0]),
  (⟨some 4, .move (.c (.p (.bool false))), none, []⟩, [4])])
  (.seq (.regionK false [
  (⟨some 5, .fieldAddr 0 (.t 2), none, []⟩, []),
  (⟨some 6, .load none (.t 5), none, []⟩, [5]),
  (⟨some 7, .un .not (.t 6), none, []⟩, [6]),
  (⟨some 8, .move (.t 7), none, []⟩, [7]),
  (⟨some 9, .load (some 3) (.t 2), some (8, true), []⟩, []),
  (⟨some 10, .call false 43 [.t 9], some (8, true), []⟩, [9]),
  (⟨some 11, .move (.t 1), some (8, true), []⟩, [1]),
  (⟨some 12, .call false 81 [.t 10, .t 11], some (8, true), []⟩, [10, 11]),
  (⟨some 13, .pick (.t 8) (.t 12) (.c (.p (.bool false))), none, []⟩, [8, 12]),
  (⟨some 4, .move (.t 13), none, []⟩, [13])])
  .ret))⟩

/-- clockwork/clockworkref04.Has -/
@[irreducible] def a58_l0 : ACode :=
  (.seq (.seq (.regionK false [
  (⟨some 6, .move (.t 5), none, []⟩, []),
  (⟨some 7, .move (.t 0), none, []⟩, []),
  (⟨some 8, .len (.t 7), none, []⟩, [7]),
  (⟨some 9, .bin .lss (.t 6) (.t 8), none, []⟩, [6, 8])])
  (.cond (.t 9)
  .skip
  (.ghost (.forget [0, 1, 5, 9]) (.ghost .lower (.exit 0)))))
  (.seq (.block 1
  (.seq (.regionK false [
    (⟨some 12, .move (.t 0), none, []⟩, [9]),
    (⟨some 13, .move (.t 5), none, []⟩, []),
    (⟨some 14, .indexAddr 1 (.t 12) (.t 13), none, []⟩, [12, 13]),
    (⟨some 15, .load none (.t 14), none, []⟩, [14]),
    (⟨some 16, .move (.t 1), none, []⟩, []),
    (⟨some 17, .bin .eql (.t 15) (.t 16), none, []⟩, [15, 16])])
    (.cond (.t 17)
    (.seq (.regionK false [
      (⟨some 4, .move (.c (.p (.bool true))), none, []⟩, [0, 1, 5, 17])])
      .ret)
    .skip)))
  (.regionK false [
  (⟨some 10, .move (.t 5), none, []⟩, [17]),
  (⟨some 11, .bin .add (.t 10) (.c (.p (.int .i64 1))), none, []⟩, [10]),
  (⟨some 5, .move (.t 11), none, []⟩, [11])])))

def a58 : AFunc := ⟨18, 2, [.tmp 4],
  (.seq (.regionK false [
  (⟨some 4, .move (.c (.p (.bool false))), none, []⟩, [4])])
  (.seq (.seq (.regionK false [
  (⟨some 5, .move (.c (.p (.int .i64 0))), none, []⟩, [])])
  (.block 0
  (.loop
    (.ghost .lower a58_l0))))
  (.seq (.regionK false [
  (⟨some 4, .move (.c (.p (.bool false))), none, []⟩, [])])
  .ret)))⟩

/-- clockwork/clockworkref38.of -/
@[irreducible] def a59_l0 : ACode :=
  (.seq (.seq (.regionK false [
  (⟨some 9, .move (.t 8), none, []⟩, []),
  (⟨some 10, .move (.t 1), none, []⟩, []),
  (⟨some 11, .len (.t 10), none, []⟩, [10]),
  (⟨some 12, .bin .lss (.t 9) (.t 11), none, []⟩, [9, 11])])
  (.cond (.t 12)
  .skip
  (.ghost (.forget [0, 1, 2, 8, 12]) (.ghost .lower (.exit 0)))))
  (.seq (.block 1
  (.seq (.regionK false [
    (⟨some 15, .move (.t 0), none, []⟩, [12]),
    (⟨some 16, .move (.t 1), none, []⟩, []),
    (⟨some 17, .move (.t 8), none, []⟩, []),
    (⟨some 18, .indexAddr 1 (.t 16) (.t 17), none, []⟩, [16, 17]),
    (⟨some 19, .load none (.t 18), none, []⟩, [18]),
    (⟨some 20, .indexAddr 8 (.t 15) (.t 19), none, []⟩, [15, 19]),
    (⟨some 21, .fieldAddr 0 (.t 20), none, []⟩, [20]),
    (⟨some 22, .load none (.t 21), none, []⟩, [21]),
    (⟨some 23, .move (.t 2), none, []⟩, []),
    (⟨some 24, .bin .eql (.t 22) (.t 23), none, []⟩, [22, 23])])
    (.cond (.t 24)
    (.regionK false [
      (⟨some 25, .move (.t 7), none, []⟩, [24]),
      (⟨some 26, .bin .add (.t 25) (.c (.p (.int .i64 1))), none, []⟩, [25]),
      (⟨some 7, .move (.t 26), none, []⟩, [26])])
    .skip)))
  (.regionK false [
  (⟨some 13, .move (.t 8), none, []⟩, [24]),
  (⟨some 14, .bin .add (.t 13) (.c (.p (.int .i64 1))), none, []⟩, [13]),
  (⟨some 8, .move (.t 14), none, []⟩, [14])])))

def a59 : AFunc := ⟨28, 3, [.tmp 6],
  (.seq (.regionK false [
  (⟨some 6, .move (.c (.p (.int .i64 0))), none, []⟩, [6])])
  (.seq (.regionK false [
  (⟨some 7, .move (.c (.p (.int .i64 0))), none, []⟩, [])])
  (.seq (.seq (.regionK false [
  (⟨some 8, .move (.c (.p (.int .i64 0))), none, []⟩, [])])
  (.block 0
  (.loop
    (.ghost .lower a59_l0))))
  (.seq (.regionK false [
  (⟨some 27, .move (.t 7), none, []⟩, [7]),
  (⟨some 6, .move (.t 27), none, []⟩, [27])])
  .ret))))⟩

/-- clockwork/footprint.within -/
@[irreducible] def a60_l0 : ACode :=
  (.seq (.regionK false [
  (⟨some 12, .bin .lss (.t 11) (.t 10), none, []⟩, [])])
  (.seq (.cond (.t 12)
  .skip
  (.ghost (.forget [0, 9, 10, 11, 12]) (.ghost .lower (.exit 0))))
  (.seq (.block 1
  (.seq (.regionK false [
    (⟨some 13, .indexAddr 1 (.t 9) (.t 11), none, []⟩, [12]),
    (⟨some 14, .load none (.t 13), none, []⟩, [13]),
    (⟨some 6, .move (.t 14), none, []⟩, [14])])
    (.seq (.regionK false [
    (⟨some 16, .move (.t 0), none, []⟩, []),
    (⟨some 17, .move (.t 6), none, []⟩, [6]),
    (⟨some 18, .call false 82 [.t 16, .t 17], none, []⟩, [16, 17]),
    (⟨some 15, .move (.t 18), none, []⟩, [18]),
    (⟨some 19, .extract (.t 15) 0, none, []⟩, []),
    (⟨some 20, .extract (.t 15) 1, none, []⟩, [15]),
    (⟨some 7, .move (.t 19), none, []⟩, [7, 19]),
    (⟨some 8, .move (.t 20), none, []⟩, [20])])
    (.seq (.regionK false [
    (⟨some 21, .move (.t 8), none, []⟩, [8]),
    (⟨some 22, .un .not (.t 21), none, []⟩, [21])])
    (.cond (.t 22)
    (.seq (.regionK false [
      (⟨some 4, .move (.c (.p (.bool false))), none, []⟩, [0, 9, 10, 11, 22])])
      .ret)
    .skip)))))
  (.regionK false [
  (⟨some 23, .bin .add (.t 11) (.c (.p (.int .i64 1))), none, []⟩, [22]),
  (⟨some 11, .move (.t 23), none, []⟩, [23])]))))

def a60 : AFunc := ⟨24, 2, [.tmp 4],
  (.seq (.regionK false [
  (⟨some 4, .move (.c (.p (.bool false))), none, []⟩, [4])])
  (.seq (.seq (.regionK false [
  (⟨some 9, .move (.t 1), none, []⟩, [1]),
  (⟨some 10, .len (.t 9), none, []⟩, []),
  (⟨some 11, .move (.c (.p (.int .i64 0))), none, []⟩, [])])
  (.block 0
  (.loop
    (.ghost .lower a60_l0))))
  (.seq (.regionK false [
  (⟨some 4, .move (.c (.p (.bool true))), none, []⟩, [])])
  .ret)))⟩

/-- clockwork/footprint.meet -/
@[irreducible] def a61_l0 : ACode :=
  (.seq (.regionK false [
  (⟨some 12, .bin .lss (.t 11) (.t 10), none, []⟩, [])])
  (.seq (.cond (.t 12)
  .skip
  (.ghost (.forget [1, 9, 10, 11, 12]) (.ghost .lower (.exit 0))))
  (.seq (.block 1
  (.seq (.regionK false [
    (⟨some 13, .indexAddr 1 (.t 9) (.t 11), none, []⟩, [12]),
    (⟨some 14, .load none (.t 13), none, []⟩, [13]),
    (⟨some 6, .move (.t 14), none, []⟩, [14])])
    (.seq (.regionK false [
    (⟨some 16, .move (.t 1), none, []⟩, []),
    (⟨some 17, .move (.t 6), none, []⟩, [6]),
    (⟨some 18, .call false 82 [.t 16, .t 17], none, []⟩, [16, 17]),
    (⟨some 15, .move (.t 18), none, []⟩, [18]),
    (⟨some 19, .extract (.t 15) 0, none, []⟩, []),
    (⟨some 20, .extract (.t 15) 1, none, []⟩, [15]),
    (⟨some 7, .move (.t 19), none, []⟩, [7, 19]),
    (⟨some 8, .move (.t 20), none, []⟩, [20])])
    (.seq (.regionK false [
    (⟨some 21, .move (.t 8), none, []⟩, [8])])
    (.cond (.t 21)
    (.seq (.regionK false [
      (⟨some 4, .move (.c (.p (.bool true))), none, []⟩, [1, 9, 10, 11, 21])])
      .ret)
    .skip)))))
  (.regionK false [
  (⟨some 22, .bin .add (.t 11) (.c (.p (.int .i64 1))), none, []⟩, [21]),
  (⟨some 11, .move (.t 22), none, []⟩, [22])]))))

def a61 : AFunc := ⟨23, 2, [.tmp 4],
  (.seq (.regionK false [
  (⟨some 4, .move (.c (.p (.bool false))), none, []⟩, [4])])
  (.seq (.seq (.regionK false [
  (⟨some 9, .move (.t 0), none, []⟩, [0]),
  (⟨some 10, .len (.t 9), none, []⟩, []),
  (⟨some 11, .move (.c (.p (.int .i64 0))), none, []⟩, [])])
  (.block 0
  (.loop
    (.ghost .lower a61_l0))))
  (.seq (.regionK false [
  (⟨some 4, .move (.c (.p (.bool false))), none, []⟩, [])])
  .ret)))⟩

/-- clockwork/clockworkref19.meet -/
@[irreducible] def a62_l0 : ACode :=
  (.seq (.seq (.regionK false [
  (⟨some 6, .move (.t 5), none, []⟩, []),
  (⟨some 7, .move (.t 0), none, []⟩, []),
  (⟨some 8, .len (.t 7), none, []⟩, [7]),
  (⟨some 9, .bin .lss (.t 6) (.t 8), none, []⟩, [6, 8])])
  (.cond (.t 9)
  .skip
  (.ghost (.forget [0, 1, 5, 9]) (.ghost .lower (.exit 0)))))
  (.seq (.block 1
  (.seq (.regionK false [
    (⟨some 12, .move (.t 1), none, []⟩, [9]),
    (⟨some 13, .move (.t 0), none, []⟩, []),
    (⟨some 14, .move (.t 5), none, []⟩, []),
    (⟨some 15, .indexAddr 1 (.t 13) (.t 14), none, []⟩, [13, 14]),
    (⟨some 16, .load none (.t 15), none, []⟩, [15]),
    (⟨some 17, .call false 58 [.t 12, .t 16], none, []⟩, [12, 16])])
    (.cond (.t 17)
    (.seq (.regionK false [
      (⟨some 4, .move (.c (.p (.bool true))), none, []⟩, [0, 1, 5, 17])])
      .ret)
    .skip)))
  (.regionK false [
  (⟨some 10, .move (.t 5), none, []⟩, [17]),
  (⟨some 11, .bin .add (.t 10) (.c (.p (.int .i64 1))), none, []⟩, [10]),
  (⟨some 5, .move (.t 11), none, []⟩, [11])])))

def a62 : AFunc := ⟨18, 2, [.tmp 4],
  (.seq (.regionK false [
  (⟨some 4, .move (.c (.p (.bool false))), none, []⟩, [4])])
  (.seq (.seq (.regionK false [
  (⟨some 5, .move (.c (.p (.int .i64 0))), none, []⟩, [])])
  (.block 0
  (.loop
    (.ghost .lower a62_l0))))
  (.seq (.regionK false [
  (⟨some 4, .move (.c (.p (.bool false))), none, []⟩, [])])
  .ret)))⟩

/-- clockwork/clockworkref19.within -/
@[irreducible] def a63_l0 : ACode :=
  (.seq (.seq (.regionK false [
  (⟨some 6, .move (.t 5), none, []⟩, []),
  (⟨some 7, .move (.t 0), none, []⟩, []),
  (⟨some 8, .len (.t 7), none, []⟩, [7]),
  (⟨some 9, .bin .lss (.t 6) (.t 8), none, []⟩, [6, 8])])
  (.cond (.t 9)
  .skip
  (.ghost (.forget [0, 1, 5, 9]) (.ghost .lower (.exit 0)))))
  (.seq (.block 1
  (.seq (.regionK false [
    (⟨some 12, .move (.t 1), none, []⟩, [9]),
    (⟨some 13, .move (.t 0), none, []⟩, []),
    (⟨some 14, .move (.t 5), none, []⟩, []),
    (⟨some 15, .indexAddr 1 (.t 13) (.t 14), none, []⟩, [13, 14]),
    (⟨some 16, .load none (.t 15), none, []⟩, [15]),
    (⟨some 17, .call false 58 [.t 12, .t 16], none, []⟩, [12, 16]),
    (⟨some 18, .un .not (.t 17), none, []⟩, [17])])
    (.cond (.t 18)
    (.seq (.regionK false [
      (⟨some 4, .move (.c (.p (.bool false))), none, []⟩, [0, 1, 5, 18])])
      .ret)
    .skip)))
  (.regionK false [
  (⟨some 10, .move (.t 5), none, []⟩, [18]),
  (⟨some 11, .bin .add (.t 10) (.c (.p (.int .i64 1))), none, []⟩, [10]),
  (⟨some 5, .move (.t 11), none, []⟩, [11])])))

def a63 : AFunc := ⟨19, 2, [.tmp 4],
  (.seq (.regionK false [
  (⟨some 4, .move (.c (.p (.bool false))), none, []⟩, [4])])
  (.seq (.seq (.regionK false [
  (⟨some 5, .move (.c (.p (.int .i64 0))), none, []⟩, [])])
  (.block 0
  (.loop
    (.ghost .lower a63_l0))))
  (.seq (.regionK false [
  (⟨some 4, .move (.c (.p (.bool true))), none, []⟩, [])])
  .ret)))⟩

/-- clockwork/footprint.ascending -/
@[irreducible] def a64_l0 : ACode :=
  (.seq (.regionK false [
  (⟨some 8, .bin .lss (.t 7) (.t 6), none, []⟩, [])])
  (.seq (.cond (.t 8)
  .skip
  (.ghost (.forget [5, 6, 7, 8]) (.ghost .lower (.exit 0))))
  (.seq (.block 1
  (.seq (.regionK false [
    (⟨some 9, .move (.t 7), none, []⟩, [8]),
    (⟨some 10, .indexAddr 1 (.t 5) (.t 7), none, []⟩, []),
    (⟨some 11, .load none (.t 10), none, []⟩, [10]),
    (⟨some 3, .move (.t 9), none, []⟩, [9]),
    (⟨some 4, .move (.t 11), none, []⟩, [11])])
    (.seq (.regionK false [
    (⟨some 12, .move (.t 4), none, []⟩, []),
    (⟨some 13, .call false 66 [.t 12], none, []⟩, [12]),
    (⟨some 14, .un .not (.t 13), none, []⟩, [13]),
    (⟨some 15, .move (.t 14), none, []⟩, [14]),
    (⟨some 16, .move (.t 3), some (15, false), []⟩, []),
    (⟨some 17, .bin .gtr (.t 16) (.c (.p (.int .i64 0))), some (15, false), []⟩, [16]),
    (⟨some 18, .move (.t 17), some (15, false), []⟩, [17]),
    (⟨some 19, .move (.t 4), some (18, true), []⟩, [4]),
    (⟨some 20, .move (.t 0), some (18, true), []⟩, []),
    (⟨some 21, .move (.t 3), some (18, true), []⟩, [3]),
    (⟨some 22, .bin .sub (.t 21) (.c (.p (.int .i64 1))), some (18, true), []⟩, [21]),
    (⟨some 23, .indexAddr 1 (.t 20) (.t 22), some (18, true), []⟩, [20, 22]),
    (⟨some 24, .load none (.t 23), some (18, true), []⟩, [23]),
    (⟨some 25, .bin .leq (.t 19) (.t 24), some (18, true), []⟩, [19, 24]),
    (⟨some 26, .pick (.t 18) (.t 25) (.c (.p (.bool false))), some (15, false), []⟩, [18, 25]),
    (⟨some 27, .pick (.t 15) (.c (.p (.bool true))) (.t 26), none, []⟩, [15, 26])])
    (.cond (.t 27)
    (.seq (.regionK false [
      (⟨some 2, .move (.c (.p (.bool false))), none, []⟩, [0, 5, 6, 7, 27])])
      .ret)
    .skip))))
  (.regionK false [
  (⟨some 28, .bin .add (.t 7) (.c (.p (.int .i64 1))), none, []⟩, [27]),
  (⟨some 7, .move (.t 28), none, []⟩, [28])]))))

def a64 : AFunc := ⟨32, 1, [.tmp 2],
  (.seq (.regionK false [
  (⟨some 2, .move (.c (.p (.bool false))), none, []⟩, [2])])
  (.seq (.seq (.regionK false [
  (⟨some 5, .move (.t 0), none, []⟩, []),
  (⟨some 6, .len (.t 5), none, []⟩, []),
  (⟨some 7, .move (.c (.p (.int .i64 0))), none, []⟩, [])])
  (.block 0
  (.loop
    (.ghost .lower a64_l0))))
  (.seq (.regionK false [
  (⟨some 29, .move (.t 0), none, []⟩, [0]),
  (⟨some 30, .len (.t 29), none, []⟩, [29]),
  (⟨some 31, .bin .leq (.t 30) (.c (.p (.int .i64 64))), none, []⟩, [30]),
  (⟨some 2, .move (.t 31), none, []⟩, [31])])
  .ret)))⟩

/-- slices.Concat[[]string,string] -/
@[irreducible] def a65_l0 : ACode :=
  (.seq (.regionK false [
  (⟨some 28, .bin .lss (.t 27) (.t 26), none, []⟩, [])])
  (.seq (.cond (.t 28)
  .skip
  (.ghost (.forget [25, 26, 27, 28]) (.exit 2)))
  (.seq (.block 3
  (.seq (.regionK false [
    (⟨some 29, .indexAddr 1 (.t 25) (.t 27), none, []⟩, [28]),
    (⟨some 30, .load none (.t 29), none, []⟩, [29]),
    (⟨some 8, .move (.t 30), none, []⟩, [30])])
    (.regionK false [
    (⟨some 31, .move (.t 6), none, []⟩, []),
    (⟨some 32, .move (.t 8), none, []⟩, [8]),
    (⟨some 33, .append 16 1 (.t 31) (.t 32), none, []⟩, [31, 32]),
    (⟨some 6, .move (.t 33), none, []⟩, [33])])))
  (.regionK false [
  (⟨some 34, .bin .add (.t 27) (.c (.p (.int .i64 1))), none, []⟩, []),
  (⟨some 27, .move (.t 34), none, []⟩, [34])]))))

@[irreducible] def a65_l1 : ACode :=
  (.seq (.regionK false [
  (⟨some 12, .bin .lss (.t 11) (.t 10), none, []⟩, [])])
  (.seq (.cond (.t 12)
  .skip
  (.ghost (.forget [9, 10, 11, 12]) (.exit 0)))
  (.seq (.block 1
  (.seq (.regionK false [
    (⟨some 13, .indexAddr 1 (.t 9) (.t 11), none, []⟩, [12]),
    (⟨some 14, .load none (.t 13), none, []⟩, [13]),
    (⟨some 5, .move (.t 14), none, []⟩, [14])])
    (.seq (.regionK false [
    (⟨some 15, .move (.t 3), none, []⟩, []),
    (⟨some 16, .move (.t 5), none, []⟩, [5]),
    (⟨some 17, .len (.t 16), none, []⟩, [16]),
    (⟨some 18, .bin .add (.t 15) (.t 17), none, []⟩, [15, 17]),
    (⟨some 3, .move (.t 18), none, []⟩, [18])])
    (.seq (.regionK false [
    (⟨some 19, .move (.t 3), none, []⟩, []),
    (⟨some 20, .bin .lss (.t 19) (.c (.p (.int .i64 0))), none, []⟩, [19])])
    (.cond (.t 20)
    .dead
    .skip)))))
  (.regionK false [
  (⟨some 22, .bin .add (.t 11) (.c (.p (.int .i64 1))), none, []⟩, [20]),
  (⟨some 11, .move (.t 22), none, []⟩, [22])]))))

def a65 : AFunc := ⟨36, 1, [.tmp 2],
  (.seq (.regionK false [
  (⟨some 2, .move (.c (.p (.slice true []))), none, []⟩, [2])])
  (.seq (.regionK false [
  (⟨some 3, .move (.c (.p (.int .i64 0))), none, []⟩, [])])
  (.seq (.seq (.regionK false [
  (⟨some 9, .move (.t 0), none, []⟩, []),
  (⟨some 10, .len (.t 9), none, []⟩, []),
  (⟨some 11, .move (.c (.p (.int .i64 0))), none, []⟩, [])])
  (.block 0
  (.loop
    a65_l1)))
  (.seq (.regionK false [
  (⟨some 23, .move (.t 3), none, []⟩, [3]),
  (⟨some 24, .call true 83 [.c (.p (.slice true [])), .t 23], none, []⟩, [23]),
  (⟨some 6, .move (.t 24), none, []⟩, [24])])
  (.seq (.seq (.regionK false [
  (⟨some 25, .move (.t 0), none, []⟩, [0]),
  (⟨some 26, .len (.t 25), none, []⟩, []),
  (⟨some 27, .move (.c (.p (.int .i64 0))), none, []⟩, [])])
  (.block 2
  (.loop
    a65_l0)))
  (.seq (.regionK false [
  (⟨some 35, .move (.t 6), none, []⟩, [6]),
  (⟨some 2, .move (.t 35), none, []⟩, [35])])
  .ret))))))⟩

/-- clockwork/keys.Valid -/
def a66 : AFunc := ⟨9, 1, [.tmp 2],
  (.seq (.regionK false [
  (⟨some 2, .move (.c (.p (.bool false))), none, []⟩, [2])])
  (.seq (.regionK false [
  (⟨some 3, .move (.t 0), none, []⟩, []),
  (⟨some 4, .bin .neq (.t 3) (.c (.p (.str ⟨#[]⟩))), none, []⟩, [3]),
  (⟨some 5, .move (.t 4), none, []⟩, [4]),
  (⟨some 6, .move (.t 0), some (5, true), []⟩, [0]),
  (⟨some 7, .call false 84 [.t 6, .c (.func 85 [])], some (5, true), []⟩, [6]),
  (⟨some 8, .pick (.t 5) (.t 7) (.c (.p (.bool false))), none, []⟩, [5, 7]),
  (⟨some 2, .move (.t 8), none, []⟩, [8])])
  .ret))⟩

/-- clockwork/clockworkref19.keys -/
@[irreducible] def a67_l0 : ACode :=
  (.seq (.seq (.regionK false [
  (⟨some 4, .move (.t 3), none, []⟩, []),
  (⟨some 5, .move (.t 0), none, []⟩, []),
  (⟨some 6, .len (.t 5), none, []⟩, [5]),
  (⟨some 7, .bin .lss (.t 4) (.t 6), none, []⟩, [4, 6])])
  (.cond (.t 7)
  .skip
  (.ghost (.forget [0, 3, 7]) (.ghost .lower (.exit 0)))))
  (.seq (.block 1
  (.seq (.regionK false [
    (⟨some 10, .move (.t 0), none, []⟩, [7]),
    (⟨some 11, .move (.t 3), none, []⟩, []),
    (⟨some 12, .indexAddr 1 (.t 10) (.t 11), none, []⟩, [10, 11]),
    (⟨some 13, .load none (.t 12), none, []⟩, [12]),
    (⟨some 14, .call false 86 [.t 13], none, []⟩, [13]),
    (⟨some 15, .un .not (.t 14), none, []⟩, [14])])
    (.cond (.t 15)
    (.seq (.regionK false [
      (⟨some 2, .move (.c (.p (.bool false))), none, []⟩, [0, 3, 15])])
      .ret)
    .skip)))
  (.regionK false [
  (⟨some 8, .move (.t 3), none, []⟩, [15]),
  (⟨some 9, .bin .add (.t 8) (.c (.p (.int .i64 1))), none, []⟩, [8]),
  (⟨some 3, .move (.t 9), none, []⟩, [9])])))

def a67 : AFunc := ⟨16, 1, [.tmp 2],
  (.seq (.regionK false [
  (⟨some 2, .move (.c (.p (.bool false))), none, []⟩, [2])])
  (.seq (.seq (.regionK false [
  (⟨some 3, .move (.c (.p (.int .i64 0))), none, []⟩, [])])
  (.block 0
  (.loop
    (.ghost .lower a67_l0))))
  (.seq (.regionK false [
  (⟨some 2, .move (.c (.p (.bool true))), none, []⟩, [])])
  .ret)))⟩

/-- clockwork/clockworkref19.sorted -/
@[irreducible] def a68_l0 : ACode :=
  (.seq (.seq (.regionK false [
  (⟨some 5, .move (.t 4), none, []⟩, []),
  (⟨some 6, .move (.t 0), none, []⟩, []),
  (⟨some 7, .len (.t 6), none, []⟩, [6]),
  (⟨some 8, .bin .lss (.t 5) (.t 7), none, []⟩, [5, 7])])
  (.cond (.t 8)
  .skip
  (.ghost (.forget [0, 4, 8]) (.ghost .lower (.exit 0)))))
  (.seq (.block 1
  (.regionK false [
    (⟨some 11, .move (.t 3), none, []⟩, [8]),
    (⟨some 12, .move (.t 0), none, []⟩, []),
    (⟨some 13, .move (.t 4), none, []⟩, []),
    (⟨some 14, .indexAddr 1 (.t 12) (.t 13), none, []⟩, [12, 13]),
    (⟨some 15, .load none (.t 14), none, []⟩, [14]),
    (⟨some 16, .call false 80 [.t 11, .t 15], none, []⟩, [11, 15]),
    (⟨some 3, .move (.t 16), none, []⟩, [16])]))
  (.regionK false [
  (⟨some 9, .move (.t 4), none, []⟩, []),
  (⟨some 10, .bin .add (.t 9) (.c (.p (.int .i64 1))), none, []⟩, [9]),
  (⟨some 4, .move (.t 10), none, []⟩, [10])])))

def a68 : AFunc := ⟨18, 1, [.tmp 2],
  (.seq (.regionK false [
  (⟨some 2, .move (.c (.p (.slice true []))), none, []⟩, [2])])
  (.seq (.regionK false [
  (⟨some 3, .move (.c (.p (.slice true []))), none, []⟩, [])])
  (.seq (.seq (.regionK false [
  (⟨some 4, .move (.c (.p (.int .i64 0))), none, []⟩, [])])
  (.block 0
  (.loop
    (.ghost .lower a68_l0))))
  (.seq (.regionK false [
  (⟨some 17, .move (.t 3), none, []⟩, [3]),
  (⟨some 2, .move (.t 17), none, []⟩, [17])])
  .ret))))⟩

/-- clockwork/clockworkref04.Ascending -/
@[irreducible] def a69_l0 : ACode :=
  (.seq (.seq (.regionK false [
  (⟨some 4, .move (.t 3), none, []⟩, []),
  (⟨some 5, .move (.t 0), none, []⟩, []),
  (⟨some 6, .len (.t 5), none, []⟩, [5]),
  (⟨some 7, .bin .lss (.t 4) (.t 6), none, []⟩, [4, 6])])
  (.cond (.t 7)
  .skip
  (.ghost (.forget [0, 3, 7]) (.ghost .lower (.exit 0)))))
  (.seq (.block 1
  (.seq (.regionK true [
    (⟨some 10, .move (.t 0), none, []⟩, [7]),
    (⟨some 11, .move (.t 3), none, []⟩, []),
    (⟨some 12, .indexAddr 1 (.t 10) (.t 11), none, [0, 1]⟩, [10, 11]),
    (⟨some 13, .load none (.t 12), none, [0, 1, 2]⟩, [12]),
    (⟨some 14, .call false 86 [.t 13], none, [0, 1, 2, 3]⟩, [13]),
    (⟨some 15, .un .not (.t 14), none, [0, 1, 2, 3, 4]⟩, [14]),
    (⟨some 16, .move (.t 15), none, [0, 1, 2, 3, 4, 5]⟩, [15]),
    (⟨some 17, .move (.t 3), some (16, false), [0, 1, 2, 3, 4, 5, 6]⟩, []),
    (⟨some 18, .bin .gtr (.t 17) (.c (.p (.int .i64 0))), some (16, false), [0, 1, 2, 3, 4, 5, 6, 7]⟩, [17]),
    (⟨some 19, .move (.t 18), some (16, false), [0, 1, 2, 3, 4, 5, 6, 7, 8]⟩, [18]),
    (⟨some 20, .move (.t 0), some (19, true), [0, 1, 2, 3, 4, 5, 6, 7, 8, 9]⟩, []),
    (⟨some 21, .move (.t 3), some (19, true), [0, 1, 2, 3, 4, 5, 6, 7, 8, 9]⟩, []),
    (⟨some 22, .bin .sub (.t 21) (.c (.p (.int .i64 1))), some (19, true), [0, 1, 2, 3, 4, 5, 6, 7, 8, 9, 11]⟩, [21]),
    (⟨some 23, .indexAddr 1 (.t 20) (.t 22), some (19, true), [0, 1, 2, 3, 4, 5, 6, 7, 8, 9, 10, 11, 12]⟩, [20, 22]),
    (⟨some 24, .load none (.t 23), some (19, true), [0, 1, 2, 3, 4, 5, 6, 7, 8, 9, 10, 11, 12, 13]⟩, [23]),
    (⟨some 25, .move (.t 0), some (19, true), [0, 1, 2, 3, 4, 5, 6, 7, 8, 9]⟩, []),
    (⟨some 26, .move (.t 3), some (19, true), [0, 1, 2, 3, 4, 5, 6, 7, 8, 9]⟩, []),
    (⟨some 27, .indexAddr 1 (.t 25) (.t 26), some (19, true), [0, 1, 2, 3, 4, 5, 6, 7, 8, 9, 15, 16]⟩, [25, 26]),
    (⟨some 28, .load none (.t 27), some (19, true), [0, 1, 2, 3, 4, 5, 6, 7, 8, 9, 15, 16, 17]⟩, [27]),
    (⟨some 29, .bin .geq (.t 24) (.t 28), some (19, true), [0, 1, 2, 3, 4, 5, 6, 7, 8, 9, 10, 11, 12, 13, 14, 15, 16, 17, 18]⟩, [24, 28]),
    (⟨some 30, .pick (.t 19) (.t 29) (.c (.p (.bool false))), some (16, false), [0, 1, 2, 3, 4, 5, 6, 7, 8, 9, 10, 11, 12, 13, 14, 15, 16, 17, 18, 19]⟩, [19, 29]),
    (⟨some 31, .pick (.t 16) (.c (.p (.bool true))) (.t 30), none, [0, 1, 2, 3, 4, 5, 6, 7, 8, 9, 10, 11, 12, 13, 14, 15, 16, 17, 18, 19, 20]⟩, [16, 30])])
    (.cond (.t 31)
    (.seq (.regionK false [
      (⟨some 2, .move (.c (.p (.bool false))), none, []⟩, [0, 3, 31])])
      .ret)
    .skip)))
  (.regionK false [
  (⟨some 8, .move (.t 3), none, []⟩, [31]),
  (⟨some 9, .bin .add (.t 8) (.c (.p (.int .i64 1))), none, []⟩, [8]),
  (⟨some 3, .move (.t 9), none, []⟩, [9])])))

def a69 : AFunc := ⟨32, 1, [.tmp 2],
  (.seq (.regionK false [
  (⟨some 2, .move (.c (.p (.bool false))), none, []⟩, [2])])
  (.seq (.seq (.regionK false [
  (⟨some 3, .move (.c (.p (.int .i64 0))), none, []⟩, [])])
  (.block 0
  (.loop
    (.ghost .lower a69_l0))))
  (.seq (.regionK false [
  (⟨some 2, .move (.c (.p (.bool true))), none, []⟩, [])])
  .ret)))⟩

/-- slices.Equal[[]string,string] -/
@[irreducible] def a70_l0 : ACode :=
  (.seq (.regionK false [
  (⟨some 14, .bin .lss (.t 13) (.t 12), none, []⟩, [])])
  (.seq (.cond (.t 14)
  .skip
  (.ghost (.forget [0, 1, 12, 13, 14]) (.ghost .lower (.exit 0))))
  (.seq (.block 1
  (.seq (.regionK false [
    (⟨some 15, .move (.t 13), none, []⟩, [14]),
    (⟨some 5, .move (.t 15), none, []⟩, [15])])
    (.seq (.regionK true [
    (⟨some 16, .move (.t 0), none, []⟩, []),
    (⟨some 17, .move (.t 5), none, []⟩, []),
    (⟨some 18, .indexAddr 1 (.t 16) (.t 17), none, [0, 1]⟩, [16, 17]),
    (⟨some 19, .load none (.t 18), none, [0, 1, 2]⟩, [18]),
    (⟨some 20, .move (.t 1), none, []⟩, []),
    (⟨some 21, .move (.t 5), none, []⟩, [5]),
    (⟨some 22, .indexAddr 1 (.t 20) (.t 21), none, [4, 5]⟩, [20, 21]),
    (⟨some 23, .load none (.t 22), none, [4, 5, 6]⟩, [22]),
    (⟨some 24, .bin .neq (.t 19) (.t 23), none, [0, 1, 2, 3, 4, 5, 6, 7]⟩, [19, 23])])
    (.cond (.t 24)
    (.seq (.regionK false [
      (⟨some 4, .move (.c (.p (.bool false))), none, []⟩, [0, 1, 12, 13, 24])])
      .ret)
    .skip))))
  (.regionK false [
  (⟨some 25, .bin .add (.t 13) (.c (.p (.int .i64 1))), none, []⟩, [24]),
  (⟨some 13, .move (.t 25), none, []⟩, [25])]))))

def a70 : AFunc := ⟨26, 2, [.tmp 4],
  (.seq (.regionK false [
  (⟨some 4, .move (.c (.p (.bool false))), none, []⟩, [4])])
  (.seq (.seq (.regionK false [
  (⟨some 6, .move (.t 0), none, []⟩, []),
  (⟨some 7, .len (.t 6), none, []⟩, [6]),
  (⟨some 8, .move (.t 1), none, []⟩, []),
  (⟨some 9, .len (.t 8), none, []⟩, [8]),
  (⟨some 10, .bin .neq (.t 7) (.t 9), none, []⟩, [7, 9])])
  (.cond (.t 10)
  (.seq (.regionK false [
    (⟨some 4, .move (.c (.p (.bool false))), none, []⟩, [0, 1, 10])])
    .ret)
  .skip))
  (.seq (.seq (.regionK false [
  (⟨some 11, .move (.t 0), none, []⟩, [10]),
  (⟨some 12, .len (.t 11), none, []⟩, [11]),
  (⟨some 13, .move (.c (.p (.int .i64 0))), none, []⟩, [])])
  (.block 0
  (.loop
    (.ghost .lower a70_l0))))
  (.seq (.regionK false [
  (⟨some 4, .move (.c (.p (.bool true))), none, []⟩, [])])
  .ret))))⟩

/-- clockwork/footprint.Project$1 -/
def a71 : AFunc := ⟨8, 2, [.tmp 3],
  (.seq (.regionK false [
  (⟨some 3, .move (.c (.p (.bool false))), none, []⟩, [3])])
  (.seq (.regionK false [
  (⟨some 4, .load (some 2) (.t 1), none, []⟩, [1]),
  (⟨some 5, .move (.t 0), none, []⟩, [0]),
  (⟨some 6, .call false 72 [.t 4, .t 5], none, []⟩, [4, 5]),
  (⟨some 7, .un .not (.t 6), none, []⟩, [6]),
  (⟨some 3, .move (.t 7), none, []⟩, [7])])
  .ret))⟩

/-- clockwork/keys.Contains -/
def a72 : AFunc := ⟨24, 2, [.tmp 4],
  (.seq (.regionK false [
  (⟨some 2, .box (.t 0), none, []⟩, [0]),
  (⟨some 4, .move (.c (.p (.bool false))), none, []⟩, [4])])
  (.seq (.regionK false [
  (⟨some 5, .load (some 2) (.t 2), none, []⟩, []),
  (⟨some 6, .call false 87 [.t 5], none, []⟩, [5]),
  (⟨some 7, .move (.t 6), none, []⟩, [6]),
  (⟨some 8, .fieldAddr 0 (.t 2), some (7, true), []⟩, []),
  (⟨some 9, .load none (.t 8), some (7, true), []⟩, [8]),
  (⟨some 10, .move (.t 1), some (7, true), []⟩, []),
  (⟨some 11, .bin .leq (.t 9) (.t 10), some (7, true), []⟩, [9, 10]),
  (⟨some 12, .pick (.t 7) (.t 11) (.c (.p (.bool false))), none, []⟩, [7, 11]),
  (⟨some 13, .move (.t 12), none, []⟩, [12]),
  (⟨some 14, .fieldAddr 1 (.t 2), some (13, true), []⟩, []),
  (⟨some 15, .load none (.t 14), some (13, true), []⟩, [14]),
  (⟨some 16, .bin .eql (.t 15) (.c (.p (.str ⟨#[]⟩))), some (13, true), []⟩, [15]),
  (⟨some 17, .move (.t 16), some (13, true), []⟩, [16]),
  (⟨some 18, .move (.t 1), some (17, false), []⟩, [1]),
  (⟨some 19, .fieldAddr 1 (.t 2), some (17, false), []⟩, []),
  (⟨some 20, .load none (.t 19), some (17, false), []⟩, [19]),
  (⟨some 21, .bin .lss (.t 18) (.t 20), some (17, false), []⟩, [18, 20]),
  (⟨some 22, .pick (.t 17) (.c (.p (.bool true))) (.t 21), some (13, true), []⟩, [17, 21]),
  (⟨some 23, .pick (.t 13) (.t 22) (.c (.p (.bool false))), none, []⟩, [13, 22]),
  (⟨some 4, .move (.t 23), none, []⟩, [23])])
  .ret))⟩

/-- slices.DeleteFunc[[]string,string] -/
@[irreducible] def a73_l0 : ACode :=
  (.seq (.seq (.regionK false [
  (⟨some 16, .move (.t 6), none, []⟩, []),
  (⟨some 17, .move (.t 0), none, []⟩, []),
  (⟨some 18, .len (.t 17), none, []⟩, [17]),
  (⟨some 19, .bin .lss (.t 16) (.t 18), none, []⟩, [16, 18])])
  (.cond (.t 19)
  .skip
  (.ghost (.forget [1, 6, 19]) (.exit 0))))
  (.seq (.block 1
  (.seq (.regionK false [
    (⟨some 22, .move (.t 0), none, []⟩, [19]),
    (⟨some 23, .move (.t 6), none, []⟩, []),
    (⟨some 24, .indexAddr 1 (.t 22) (.t 23), none, []⟩, [22, 23]),
    (⟨some 25, .load none (.t 24), none, []⟩, [24]),
    (⟨some 7, .move (.t 25), none, []⟩, [25])])
    (.seq (.regionK false [
    (⟨some 26, .move (.t 1), none, []⟩, []),
    (⟨some 27, .move (.t 7), none, []⟩, []),
    (⟨some 28, .callv false (.t 26) [.t 27], none, []⟩, [26, 27]),
    (⟨some 29, .un .not (.t 28), none, []⟩, [28])])
    (.cond (.t 29)
    (.seq (.regionK false [
      (⟨some 30, .move (.t 0), none, []⟩, [29]),
      (⟨some 31, .move (.t 5), none, []⟩, []),
      (⟨some 32, .move (.t 7), none, []⟩, [7]),
      (⟨some 33, .indexAddr 1 (.t 30) (.t 31), none, []⟩, [30, 31]),
      (⟨none, .store 1 (.t 33) (.t 32), none, []⟩, [32, 33])])
      (.regionK false [
      (⟨some 34, .move (.t 5), none, []⟩, []),
      (⟨some 35, .bin .add (.t 34) (.c (.p (.int .i64 1))), none, []⟩, [34]),
      (⟨some 5, .move (.t 35), none, []⟩, [35])]))
    .skip))))
  (.regionK false [
  (⟨some 20, .move (.t 6), none, []⟩, [7, 29]),
  (⟨some 21, .bin .add (.t 20) (.c (.p (.int .i64 1))), none, []⟩, [20]),
  (⟨some 6, .move (.t 21), none, []⟩, [21])])))

def a73 : AFunc := ⟨42, 2, [.tmp 4],
  (.seq (.regionK false [
  (⟨some 4, .move (.c (.p (.slice true []))), none, []⟩, [4])])
  (.seq (.regionK false [
  (⟨some 8, .move (.t 0), none, []⟩, []),
  (⟨some 9, .move (.t 1), none, []⟩, []),
  (⟨some 10, .call false 88 [.t 8, .t 9], none, []⟩, [8, 9]),
  (⟨some 5, .move (.t 10), none, []⟩, [10])])
  (.seq (.seq (.regionK false [
  (⟨some 11, .move (.t 5), none, []⟩, []),
  (⟨some 12, .bin .eql (.t 11) (.c (.p (.int .i64 (-1)))), none, []⟩, [11])])
  (.cond (.t 12)
  (.seq (.regionK false [
    (⟨some 13, .move (.t 0), none, []⟩, [0, 1, 5, 12]),
    (⟨some 4, .move (.t 13), none, []⟩, [13])])
    .ret)
  .skip))
  (.seq (.seq (.regionK false [
  (⟨some 14, .move (.t 5), none, []⟩, [12]),
  (⟨some 15, .bin .add (.t 14) (.c (.p (.int .i64 1))), none, []⟩, [14]),
  (⟨some 6, .move (.t 15), none, []⟩, [15])])
  (.block 0
  (.loop
    a73_l0)))
  (.seq (.regionK false [
  (⟨some 36, .move (.t 0), none, []⟩, []),
  (⟨some 37, .move (.t 5), none, []⟩, []),
  (⟨some 38, .slice 1 (.t 36) (some (.t 37)) none none, none, []⟩, [36, 37]),
  (⟨none, .clear [.str ⟨#[]⟩] (.t 38), none, []⟩, [38])])
  (.seq (.regionK false [
  (⟨some 39, .move (.t 0), none, []⟩, [0]),
  (⟨some 40, .move (.t 5), none, []⟩, [5]),
  (⟨some 41, .slice 1 (.t 39) none (some (.t 40)) none, none, []⟩, [39, 40]),
  (⟨some 4, .move (.t 41), none, []⟩, [41])])
  .ret))))))⟩

/-- clockwork/clockworkref19.inside -/
@[irreducible] def a75_l0 : ACode :=
  (.seq (.seq (.regionK false [
  (⟨some 7, .move (.t 6), none, []⟩, []),
  (⟨some 8, .move (.t 0), none, []⟩, []),
  (⟨some 9, .len (.t 8), none, []⟩, [8]),
  (⟨some 10, .bin .lss (.t 7) (.t 9), none, []⟩, [7, 9])])
  (.cond (.t 10)
  .skip
  (.ghost (.forget [0, 6, 10]) (.ghost (.free [3]) (.ghost .lower (.exit 0))))))
  (.seq (.block 1
  (.seq (.regionK true [
    (⟨some 13, .load (some 2) (.t 3), none, []⟩, [10]),
    (⟨some 14, .move (.t 0), none, []⟩, []),
    (⟨some 15, .move (.t 6), none, []⟩, []),
    (⟨some 16, .indexAddr 1 (.t 14) (.t 15), none, [1, 2]⟩, [14, 15]),
    (⟨some 17, .load none (.t 16), none, [1, 2, 3]⟩, [16]),
    (⟨some 18, .call false 89 [.t 13, .t 17], none, [0, 1, 2, 3, 4]⟩, [13, 17])])
    (.cond (.t 18)
    (.regionK false [
      (⟨some 19, .move (.t 5), none, []⟩, [18]),
      (⟨some 20, .move (.t 0), none, []⟩, []),
      (⟨some 21, .move (.t 6), none, []⟩, []),
      (⟨some 22, .indexAddr 1 (.t 20) (.t 21), none, []⟩, [20, 21]),
      (⟨some 23, .load none (.t 22), none, []⟩, [22]),
      (⟨some 24, .buildSlice [.str ⟨#[]⟩] 1 [(0, .t 23)], none, []⟩, [23]),
      (⟨some 25, .append 16 1 (.t 19) (.t 24), none, []⟩, [19, 24]),
      (⟨some 5, .move (.t 25), none, []⟩, [25])])
    .skip)))
  (.regionK false [
  (⟨some 11, .move (.t 6), none, []⟩, [18]),
  (⟨some 12, .bin .add (.t 11) (.c (.p (.int .i64 1))), none, []⟩, [11]),
  (⟨some 6, .move (.t 12), none, []⟩, [12])])))

def a75 : AFunc := ⟨27, 2, [.tmp 4],
  (.seq (.regionK false [
  (⟨some 3, .box (.t 1), none, []⟩, [1]),
  (⟨some 4, .move (.c (.p (.slice true []))), none, []⟩, [4])])
  (.seq (.regionK false [
  (⟨some 5, .move (.c (.p (.slice true []))), none, []⟩, [])])
  (.ghost (.own 1 5) (.seq (.seq (.regionK false [
  (⟨some 6, .move (.c (.p (.int .i64 0))), none, []⟩, [])])
  (.block 0
  (.loop
    (.ghost .lower a75_l0))))
  (.seq (.regionK false [
  (⟨some 26, .move (.t 5), none, []⟩, [5]),
  (⟨some 4, .move (.t 26), none, []⟩, [26])])
  .ret)))))⟩

/-- clockwork/clockworkref04.ValidRange -/
def a76 : AFunc := ⟨23, 1, [.tmp 2],
  (.seq (.regionK false [
  (⟨some 1, .box (.t 0), none, []⟩, [0]),
  (⟨some 2, .move (.c (.p (.bool false))), none, []⟩, [2])])
  (.seq (.regionK false [
  (⟨some 3, .fieldAddr 0 (.t 1), none, []⟩, []),
  (⟨some 4, .load none (.t 3), none, []⟩, [3]),
  (⟨some 5, .call false 77 [.t 4], none, []⟩, [4]),
  (⟨some 6, .move (.t 5), none, []⟩, [5]),
  (⟨some 7, .fieldAddr 1 (.t 1), some (6, true), []⟩, []),
  (⟨some 8, .load none (.t 7), some (6, true), []⟩, [7]),
  (⟨some 9, .call false 77 [.t 8], some (6, true), []⟩, [8]),
  (⟨some 10, .pick (.t 6) (.t 9) (.c (.p (.bool false))), none, []⟩, [6, 9]),
  (⟨some 11, .move (.t 10), none, []⟩, [10]),
  (⟨some 12, .fieldAddr 1 (.t 1), some (11, true), []⟩, []),
  (⟨some 13, .load none (.t 12), some (11, true), []⟩, [12]),
  (⟨some 14, .bin .eql (.t 13) (.c (.p (.str ⟨#[]⟩))), some (11, true), []⟩, [13]),
  (⟨some 15, .move (.t 14), some (11, true), []⟩, [14]),
  (⟨some 16, .fieldAddr 1 (.t 1), some (15, false), []⟩, []),
  (⟨some 17, .load none (.t 16), some (15, false), []⟩, [16]),
  (⟨some 18, .fieldAddr 0 (.t 1), some (15, false), []⟩, []),
  (⟨some 19, .load none (.t 18), some (15, false), []⟩, [18]),
  (⟨some 20, .bin .gtr (.t 17) (.t 19), some (15, false), []⟩, [17, 19]),
  (⟨some 21, .pick (.t 15) (.c (.p (.bool true))) (.t 20), some (11, true), []⟩, [15, 20]),
  (⟨some 22, .pick (.t 11) (.t 21) (.c (.p (.bool false))), none, []⟩, [11, 21]),
  (⟨some 2, .move (.t 22), none, []⟩, [22])])
  .ret))⟩

/-- clockwork/clockworkref04.Bound -/
@[irreducible] def a77_l0 : ACode :=
  (.seq (.seq (.regionK false [
  (⟨some 4, .move (.t 3), none, []⟩, []),
  (⟨some 5, .move (.t 0), none, []⟩, []),
  (⟨some 6, .lenS (.t 5), none, []⟩, [5]),
  (⟨some 7, .bin .lss (.t 4) (.t 6), none, []⟩, [4, 6])])
  (.cond (.t 7)
  .skip
  (.ghost (.forget [3, 7]) (.ghost .lower (.exit 0)))))
  (.seq (.block 1
  (.seq (.regionK false [
    (⟨some 10, .move (.t 0), none, []⟩, [7]),
    (⟨some 11, .move (.t 3), none, []⟩, []),
    (⟨some 12, .index (.t 10) (.t 11), none, []⟩, [10, 11]),
    (⟨some 13, .bin .lss (.t 12) (.c (.p (.int .u8 33))), none, []⟩, [12]),
    (⟨some 14, .move (.t 13), none, []⟩, [13]),
    (⟨some 15, .move (.t 0), some (14, false), []⟩, []),
    (⟨some 16, .move (.t 3), some (14, false), []⟩, []),
    (⟨some 17, .index (.t 15) (.t 16), some (14, false), []⟩, [15, 16]),
    (⟨some 18, .bin .gtr (.t 17) (.c (.p (.int .u8 126))), some (14, false), []⟩, [17]),
    (⟨some 19, .pick (.t 14) (.c (.p (.bool true))) (.t 18), none, []⟩, [14, 18])])
    (.cond (.t 19)
    (.seq (.regionK false [
      (⟨some 2, .move (.c (.p (.bool false))), none, []⟩, [0, 3, 19])])
      .ret)
    .skip)))
  (.regionK false [
  (⟨some 8, .move (.t 3), none, []⟩, [19]),
  (⟨some 9, .bin .add (.t 8) (.c (.p (.int .i64 1))), none, []⟩, [8]),
  (⟨some 3, .move (.t 9), none, []⟩, [9])])))

def a77 : AFunc := ⟨23, 1, [.tmp 2],
  (.seq (.regionK false [
  (⟨some 2, .move (.c (.p (.bool false))), none, []⟩, [2])])
  (.seq (.seq (.regionK false [
  (⟨some 3, .move (.c (.p (.int .i64 0))), none, []⟩, [])])
  (.block 0
  (.loop
    (.ghost .lower a77_l0))))
  (.seq (.regionK false [
  (⟨some 20, .move (.t 0), none, []⟩, [0]),
  (⟨some 21, .lenS (.t 20), none, []⟩, [20]),
  (⟨some 22, .bin .leq (.t 21) (.c (.p (.int .i64 24))), none, []⟩, [21]),
  (⟨some 2, .move (.t 22), none, []⟩, [22])])
  .ret)))⟩

/-- slices.Compact[[]string,string] -/
@[irreducible] def a79_l0 : ACode :=
  (.seq (.seq (.regionK false [
  (⟨some 29, .move (.t 5), none, []⟩, []),
  (⟨some 30, .move (.t 4), none, []⟩, []),
  (⟨some 31, .len (.t 30), none, []⟩, [30]),
  (⟨some 32, .bin .lss (.t 29) (.t 31), none, []⟩, [29, 31])])
  (.cond (.t 32)
  .skip
  (.ghost (.forget [4, 5, 32]) (.exit 2))))
  (.seq (.block 3
  (.seq (.regionK true [
    (⟨some 35, .move (.t 4), none, []⟩, [32]),
    (⟨some 36, .move (.t 5), none, []⟩, []),
    (⟨some 37, .indexAddr 1 (.t 35) (.t 36), none, [0, 1]⟩, [35, 36]),
    (⟨some 38, .load none (.t 37), none, [0, 1, 2]⟩, [37]),
    (⟨some 39, .move (.t 4), none, []⟩, []),
    (⟨some 40, .move (.t 5), none, []⟩, []),
    (⟨some 41, .bin .sub (.t 40) (.c (.p (.int .i64 1))), none, [5]⟩, [40]),
    (⟨some 42, .indexAddr 1 (.t 39) (.t 41), none, [4, 5, 6]⟩, [39, 41]),
    (⟨some 43, .load none (.t 42), none, [4, 5, 6, 7]⟩, [42]),
    (⟨some 44, .bin .neq (.t 38) (.t 43), none, [0, 1, 2, 3, 4, 5, 6, 7, 8]⟩, [38, 43])])
    (.cond (.t 44)
    (.seq (.regionK false [
      (⟨some 45, .move (.t 0), none, []⟩, [44]),
      (⟨some 46, .move (.t 3), none, []⟩, []),
      (⟨some 47, .move (.t 4), none, []⟩, []),
      (⟨some 48, .move (.t 5), none, []⟩, []),
      (⟨some 49, .indexAddr 1 (.t 47) (.t 48), none, []⟩, [47, 48]),
      (⟨some 50, .load none (.t 49), none, []⟩, [49]),
      (⟨some 51, .indexAddr 1 (.t 45) (.t 46), none, []⟩, [45, 46]),
      (⟨none, .store 1 (.t 51) (.t 50), none, []⟩, [50, 51])])
      (.regionK false [
      (⟨some 52, .move (.t 3), none, []⟩, []),
      (⟨some 53, .bin .add (.t 52) (.c (.p (.int .i64 1))), none, []⟩, [52]),
      (⟨some 3, .move (.t 53), none, []⟩, [53])]))
    .skip)))
  (.regionK false [
  (⟨some 33, .move (.t 5), none, []⟩, [44]),
  (⟨some 34, .bin .add (.t 33) (.c (.p (.int .i64 1))), none, []⟩, [33]),
  (⟨some 5, .move (.t 34), none, []⟩, [34])])))

@[irreducible] def a79_l1 : ACode :=
  (.seq (.seq (.regionK false [
  (⟨some 10, .move (.t 3), none, []⟩, []),
  (⟨some 11, .move (.t 0), none, []⟩, []),
  (⟨some 12, .len (.t 11), none, []⟩, [11]),
  (⟨some 13, .bin .lss (.t 10) (.t 12), none, []⟩, [10, 12])])
  (.cond (.t 13)
  .skip
  (.ghost (.forget [3, 13]) (.exit 0))))
  (.seq (.block 1
  (.seq (.regionK true [
    (⟨some 16, .move (.t 0), none, []⟩, [13]),
    (⟨some 17, .move (.t 3), none, []⟩, []),
    (⟨some 18, .indexAddr 1 (.t 16) (.t 17), none, [0, 1]⟩, [16, 17]),
    (⟨some 19, .load none (.t 18), none, [0, 1, 2]⟩, [18]),
    (⟨some 20, .move (.t 0), none, []⟩, []),
    (⟨some 21, .move (.t 3), none, []⟩, []),
    (⟨some 22, .bin .sub (.t 21) (.c (.p (.int .i64 1))), none, [5]⟩, [21]),
    (⟨some 23, .indexAddr 1 (.t 20) (.t 22), none, [4, 5, 6]⟩, [20, 22]),
    (⟨some 24, .load none (.t 23), none, [4, 5, 6, 7]⟩, [23]),
    (⟨some 25, .bin .eql (.t 19) (.t 24), none, [0, 1, 2, 3, 4, 5, 6, 7, 8]⟩, [19, 24])])
    (.cond (.t 25)
    (.seq (.regionK false [
      (⟨some 26, .move (.t 0), none, []⟩, [25]),
      (⟨some 27, .move (.t 3), none, []⟩, []),
      (⟨some 28, .slice 1 (.t 26) (some (.t 27)) none none, none, []⟩, [26, 27]),
      (⟨some 4, .move (.t 28), none, []⟩, [28])])
      (.seq (.seq (.regionK false [
      (⟨some 5, .move (.c (.p (.int .i64 1))), none, []⟩, [])])
      (.block 2
      (.loop
        a79_l0)))
      (.seq (.regionK false [
      (⟨some 54, .move (.t 0), none, []⟩, []),
      (⟨some 55, .move (.t 3), none, []⟩, []),
      (⟨some 56, .slice 1 (.t 54) (some (.t 55)) none none, none, []⟩, [54, 55]),
      (⟨none, .clear [.str ⟨#[]⟩] (.t 56), none, []⟩, [56])])
      (.seq (.regionK false [
      (⟨some 57, .move (.t 0), none, []⟩, [0]),
      (⟨some 58, .move (.t 3), none, []⟩, [3]),
      (⟨some 59, .slice 1 (.t 57) none (some (.t 58)) none, none, []⟩, [57, 58]),
      (⟨some 2, .move (.t 59), none, []⟩, [59])])
      .ret))))
    .skip)))
  (.regionK false [
  (⟨some 14, .move (.t 3), none, []⟩, [25]),
  (⟨some 15, .bin .add (.t 14) (.c (.p (.int .i64 1))), none, []⟩, [14]),
  (⟨some 3, .move (.t 15), none, []⟩, [15])])))

def a79 : AFunc := ⟨61, 1, [.tmp 2],
  (.seq (.regionK false [
  (⟨some 2, .move (.c (.p (.slice true []))), none, []⟩, [2])])
  (.seq (.seq (.regionK false [
  (⟨some 6, .move (.t 0), none, []⟩, []),
  (⟨some 7, .len (.t 6), none, []⟩, [6]),
  (⟨some 8, .bin .lss (.t 7) (.c (.p (.int .i64 2))), none, []⟩, [7])])
  (.cond (.t 8)
  (.seq (.regionK false [
    (⟨some 9, .move (.t 0), none, []⟩, [0, 8]),
    (⟨some 2, .move (.t 9), none, []⟩, [9])])
    .ret)
  .skip))
  (.seq (.seq (.regionK false [
  (⟨some 3, .move (.c (.p (.int .i64 1))), none, []⟩, [8])])
  (.block 0
  (.loop
    a79_l1)))
  (.seq (.regionK false [
  (⟨some 60, .move (.t 0), none, []⟩, [0]),
  (⟨some 2, .move (.t 60), none, []⟩, [60])])
  .ret))))⟩


end Go.Dv.Try
