/-
  The annotated functions of this seat. Printed by wip/gen.py.
-/
import Derived.Test.YtjnigloanggmmaaWalk
set_option linter.unusedVariables false
set_option maxRecDepth 100000
namespace Go.Dv.Try
open Go Go.Dv

/-- clockwork/clockworklaw41.ElectionOnce -/
@[irreducible] def a6_l0 : ACode :=
  (.seq (.seq (.region false [
  ⟨some 191, .move (.t 11), none, []⟩,
  ⟨some 192, .move (.t 10), none, []⟩,
  ⟨some 193, .bin .lss (.t 191) (.t 192), none, []⟩] [191, 192])
  (.cond (.t 193)
  .skip
  (.ghost (.forget [11, 193]) (.ghost .lower (.exit 6)))))
  (.seq (.block 7
  (.seq (.region true [
    ⟨some 196, .move (.t 5), none, []⟩,
    ⟨some 197, .move (.t 10), none, []⟩,
    ⟨some 198, .indexAddr 2 (.t 196) (.t 197), none, [0, 1]⟩,
    ⟨some 199, .fieldAddr 0 (.t 198), none, [0, 1, 2]⟩,
    ⟨some 200, .load none (.t 199), none, [0, 1, 2, 3]⟩,
    ⟨some 201, .move (.t 5), none, []⟩,
    ⟨some 202, .move (.t 11), none, []⟩,
    ⟨some 203, .indexAddr 2 (.t 201) (.t 202), none, [5, 6]⟩,
    ⟨some 204, .fieldAddr 0 (.t 203), none, [5, 6, 7]⟩,
    ⟨some 205, .load none (.t 204), none, [5, 6, 7, 8]⟩,
    ⟨some 206, .bin .eql (.t 200) (.t 205), none, [0, 1, 2, 3, 4, 5, 6, 7, 8, 9]⟩,
    ⟨some 207, .move (.t 206), none, [0, 1, 2, 3, 4, 5, 6, 7, 8, 9, 10]⟩,
    ⟨some 208, .move (.t 5), some (207, true), [0, 1, 2, 3, 4, 5, 6, 7, 8, 9, 10, 11]⟩,
    ⟨some 209, .move (.t 10), some (207, true), [0, 1, 2, 3, 4, 5, 6, 7, 8, 9, 10, 11]⟩,
    ⟨some 210, .indexAddr 2 (.t 208) (.t 209), some (207, true), [0, 1, 2, 3, 4, 5, 6, 7, 8, 9, 10, 11, 12, 13]⟩,
    ⟨some 211, .fieldAddr 1 (.t 210), some (207, true), [0, 1, 2, 3, 4, 5, 6, 7, 8, 9, 10, 11, 12, 13, 14]⟩,
    ⟨some 212, .load none (.t 211), some (207, true), [0, 1, 2, 3, 4, 5, 6, 7, 8, 9, 10, 11, 12, 13, 14, 15]⟩,
    ⟨some 213, .move (.t 5), some (207, true), [0, 1, 2, 3, 4, 5, 6, 7, 8, 9, 10, 11]⟩,
    ⟨some 214, .move (.t 11), some (207, true), [0, 1, 2, 3, 4, 5, 6, 7, 8, 9, 10, 11]⟩,
    ⟨some 215, .indexAddr 2 (.t 213) (.t 214), some (207, true), [0, 1, 2, 3, 4, 5, 6, 7, 8, 9, 10, 11, 17, 18]⟩,
    ⟨some 216, .fieldAddr 1 (.t 215), some (207, true), [0, 1, 2, 3, 4, 5, 6, 7, 8, 9, 10, 11, 17, 18, 19]⟩,
    ⟨some 217, .load none (.t 216), some (207, true), [0, 1, 2, 3, 4, 5, 6, 7, 8, 9, 10, 11, 17, 18, 19, 20]⟩,
    ⟨some 218, .bin .neq (.t 212) (.t 217), some (207, true), [0, 1, 2, 3, 4, 5, 6, 7, 8, 9, 10, 11, 12, 13, 14, 15, 16, 17, 18, 19, 20, 21]⟩,
    ⟨some 219, .pick (.t 207) (.t 218) (.c (.p (.bool false))), none, [0, 1, 2, 3, 4, 5, 6, 7, 8, 9, 10, 11, 12, 13, 14, 15, 16, 17, 18, 19, 20, 21, 22]⟩] [193, 196, 197, 198, 199, 200, 201, 202, 203, 204, 205, 206, 207, 208, 209, 210, 211, 212, 213, 214, 215, 216, 217, 218])
    (.cond (.t 219)
    (.seq (.region false [
      ⟨some 4, .move (.c (.p (.bool false))), none, []⟩] [5, 10, 11, 219])
      .ret)
    .skip)))
  (.region false [
  ⟨some 194, .move (.t 11), none, []⟩,
  ⟨some 195, .bin .add (.t 194) (.c (.p (.int .i64 1))), none, []⟩,
  ⟨some 11, .move (.t 195), none, []⟩] [194, 195, 219])))

@[irreducible] def a6_l1 : ACode :=
  (.seq (.seq (.region false [
  ⟨some 185, .move (.t 10), none, []⟩,
  ⟨some 186, .move (.t 5), none, []⟩,
  ⟨some 187, .len (.t 186), none, []⟩,
  ⟨some 188, .bin .lss (.t 185) (.t 187), none, []⟩] [185, 186, 187])
  (.cond (.t 188)
  .skip
  (.ghost (.forget [5, 10, 188]) (.ghost .lower (.exit 4)))))
  (.seq (.block 5
  (.seq (.region false [
    ⟨some 11, .move (.c (.p (.int .i64 0))), none, []⟩] [188])
    (.block 6
    (.loop
      (.ghost .lower a6_l0)))))
  (.region false [
  ⟨some 189, .move (.t 10), none, []⟩,
  ⟨some 190, .bin .add (.t 189) (.c (.p (.int .i64 1))), none, []⟩,
  ⟨some 10, .move (.t 190), none, []⟩] [189, 190])))

@[irreducible] def a6_l2 : ACode :=
  (.seq (.seq (.region false [
  ⟨some 124, .move (.t 9), none, []⟩,
  ⟨some 125, .move (.t 8), none, []⟩,
  ⟨some 126, .len (.t 125), none, []⟩,
  ⟨some 127, .bin .lss (.t 124) (.t 126), none, []⟩] [124, 125, 126])
  (.cond (.t 127)
  .skip
  (.ghost (.forget [8, 9, 127]) (.ghost .lower (.exit 2)))))
  (.seq (.block 3
  (.seq (.seq (.region true [
    ⟨some 130, .move (.t 8), none, []⟩,
    ⟨some 131, .move (.t 9), none, []⟩,
    ⟨some 132, .indexAddr 9 (.t 130) (.t 131), none, [0, 1]⟩,
    ⟨some 133, .load (some 9) (.t 132), none, [0, 1, 2]⟩,
    ⟨some 134, .fieldAddr 1 (.t 2), none, []⟩,
    ⟨some 135, .load none (.t 134), none, [4]⟩,
    ⟨some 136, .call false 40 [.t 133, .t 135], none, [0, 1, 2, 3, 4, 5]⟩,
    ⟨some 137, .un .not (.t 136), none, [0, 1, 2, 3, 4, 5, 6]⟩,
    ⟨some 138, .move (.t 137), none, [0, 1, 2, 3, 4, 5, 6, 7]⟩,
    ⟨some 139, .move (.t 8), some (138, false), [0, 1, 2, 3, 4, 5, 6, 7, 8]⟩,
    ⟨some 140, .move (.t 9), some (138, false), [0, 1, 2, 3, 4, 5, 6, 7, 8]⟩,
    ⟨some 141, .indexAddr 9 (.t 139) (.t 140), some (138, false), [0, 1, 2, 3, 4, 5, 6, 7, 8, 9, 10]⟩,
    ⟨some 142, .fieldAddr 1 (.t 141), some (138, false), [0, 1, 2, 3, 4, 5, 6, 7, 8, 9, 10, 11]⟩,
    ⟨some 143, .load none (.t 142), some (138, false), [0, 1, 2, 3, 4, 5, 6, 7, 8, 9, 10, 11, 12]⟩,
    ⟨some 144, .fieldAddr 0 (.t 2), some (138, false), [0, 1, 2, 3, 4, 5, 6, 7, 8]⟩,
    ⟨some 145, .load none (.t 144), some (138, false), [0, 1, 2, 3, 4, 5, 6, 7, 8, 14]⟩,
    ⟨some 146, .bin .neq (.t 143) (.t 145), some (138, false), [0, 1, 2, 3, 4, 5, 6, 7, 8, 9, 10, 11, 12, 13, 14, 15]⟩,
    ⟨some 147, .pick (.t 138) (.c (.p (.bool true))) (.t 146), none, [0, 1, 2, 3, 4, 5, 6, 7, 8, 9, 10, 11, 12, 13, 14, 15, 16]⟩,
    ⟨some 148, .move (.t 147), none, [0, 1, 2, 3, 4, 5, 6, 7, 8, 9, 10, 11, 12, 13, 14, 15, 16, 17]⟩,
    ⟨some 149, .move (.t 8), some (148, false), [0, 1, 2, 3, 4, 5, 6, 7, 8, 9, 10, 11, 12, 13, 14, 15, 16, 17, 18]⟩,
    ⟨some 150, .move (.t 9), some (148, false), [0, 1, 2, 3, 4, 5, 6, 7, 8, 9, 10, 11, 12, 13, 14, 15, 16, 17, 18]⟩,
    ⟨some 151, .indexAddr 9 (.t 149) (.t 150), some (148, false), [0, 1, 2, 3, 4, 5, 6, 7, 8, 9, 10, 11, 12, 13, 14, 15, 16, 17, 18, 19, 20]⟩,
    ⟨some 152, .fieldAddr 3 (.t 151), some (148, false), [0, 1, 2, 3, 4, 5, 6, 7, 8, 9, 10, 11, 12, 13, 14, 15, 16, 17, 18, 19, 20, 21]⟩,
    ⟨some 153, .load none (.t 152), some (148, false), [0, 1, 2, 3, 4, 5, 6, 7, 8, 9, 10, 11, 12, 13, 14, 15, 16, 17, 18, 19, 20, 21, 22]⟩,
    ⟨some 154, .fieldAddr 2 (.t 2), some (148, false), [0, 1, 2, 3, 4, 5, 6, 7, 8, 9, 10, 11, 12, 13, 14, 15, 16, 17, 18]⟩,
    ⟨some 155, .load none (.t 154), some (148, false), [0, 1, 2, 3, 4, 5, 6, 7, 8, 9, 10, 11, 12, 13, 14, 15, 16, 17, 18, 24]⟩,
    ⟨some 156, .bin .neq (.t 153) (.t 155), some (148, false), [0, 1, 2, 3, 4, 5, 6, 7, 8, 9, 10, 11, 12, 13, 14, 15, 16, 17, 18, 19, 20, 21, 22, 23, 24, 25]⟩,
    ⟨some 157, .pick (.t 148) (.c (.p (.bool true))) (.t 156), none, [0, 1, 2, 3, 4, 5, 6, 7, 8, 9, 10, 11, 12, 13, 14, 15, 16, 17, 18, 19, 20, 21, 22, 23, 24, 25, 26]⟩] [127, 130, 131, 132, 133, 134, 135, 136, 137, 138, 139, 140, 141, 142, 143, 144, 145, 146, 147, 148, 149, 150, 151, 152, 153, 154, 155, 156])
    (.cond (.t 157)
    (.seq (.region false [
      ⟨some 4, .move (.c (.p (.bool false))), none, []⟩] [1, 5, 6, 8, 9, 157])
      .ret)
    .skip))
    (.seq (.region false [
    ⟨some 158, .move (.t 8), none, []⟩,
    ⟨some 159, .move (.t 9), none, []⟩,
    ⟨some 160, .indexAddr 9 (.t 158) (.t 159), none, []⟩,
    ⟨some 161, .fieldAddr 0 (.t 160), none, []⟩,
    ⟨some 162, .load none (.t 161), none, []⟩,
    ⟨some 163, .bin .eql (.t 162) (.c (.p (.int .i64 2))), none, []⟩,
    ⟨some 164, .move (.t 163), none, []⟩,
    ⟨some 165, .move (.t 8), some (164, true), []⟩,
    ⟨some 166, .move (.t 9), some (164, true), []⟩,
    ⟨some 167, .indexAddr 9 (.t 165) (.t 166), some (164, true), []⟩,
    ⟨some 168, .fieldAddr 7 (.t 167), some (164, true), []⟩,
    ⟨some 169, .load none (.t 168), some (164, true), []⟩,
    ⟨some 170, .pick (.t 164) (.t 169) (.c (.p (.bool false))), none, []⟩] [157, 158, 159, 160, 161, 162, 163, 164, 165, 166, 167, 168, 169])
    (.cond (.t 170)
    (.region true [
      ⟨some 171, .move (.t 5), none, []⟩,
      ⟨some 172, .move (.t 8), none, []⟩,
      ⟨some 173, .move (.t 9), none, []⟩,
      ⟨some 174, .indexAddr 9 (.t 172) (.t 173), none, [1, 2]⟩,
      ⟨some 175, .fieldAddr 3 (.t 174), none, [1, 2, 3]⟩,
      ⟨some 176, .load none (.t 175), none, [1, 2, 3, 4]⟩,
      ⟨some 177, .move (.t 8), none, []⟩,
      ⟨some 178, .move (.t 9), none, []⟩,
      ⟨some 179, .indexAddr 9 (.t 177) (.t 178), none, [6, 7]⟩,
      ⟨some 180, .fieldAddr 2 (.t 179), none, [6, 7, 8]⟩,
      ⟨some 181, .load none (.t 180), none, [6, 7, 8, 9]⟩,
      ⟨some 182, .build [.int .i64 0, .int .i64 0] [(0, 1, .t 176), (1, 1, .t 181)], none, [1, 2, 3, 4, 5, 6, 7, 8, 9, 10]⟩,
      ⟨some 183, .buildSlice [.int .i64 0, .int .i64 0] 1 [(0, .t 182)], none, [1, 2, 3, 4, 5, 6, 7, 8, 9, 10, 11]⟩,
      ⟨some 184, .append 16 2 (.t 171) (.t 183), none, [0, 1, 2, 3, 4, 5, 6, 7, 8, 9, 10, 11, 12]⟩,
      ⟨some 5, .move (.t 184), none, [0, 1, 2, 3, 4, 5, 6, 7, 8, 9, 10, 11, 12, 13]⟩] [170, 171, 172, 173, 174, 175, 176, 177, 178, 179, 180, 181, 182, 183, 184])
    .skip))))
  (.region false [
  ⟨some 128, .move (.t 9), none, []⟩,
  ⟨some 129, .bin .add (.t 128) (.c (.p (.int .i64 1))), none, []⟩,
  ⟨some 9, .move (.t 129), none, []⟩] [128, 129, 170])))

@[irreducible] def a6_l3 : ACode :=
  (.seq (.seq (.region false [
  ⟨some 37, .move (.t 6), none, []⟩,
  ⟨some 38, .move (.t 1), none, []⟩,
  ⟨some 39, .len (.t 38), none, []⟩,
  ⟨some 40, .bin .lss (.t 37) (.t 39), none, []⟩] [37, 38, 39])
  (.cond (.t 40)
  .skip
  (.ghost (.forget [1, 6, 40]) (.ghost (.free [2]) (.ghost .lower (.exit 0))))))
  (.seq (.block 1
  (.seq (.seq (.region false [
    ⟨some 43, .move (.t 1), none, []⟩,
    ⟨some 44, .move (.t 6), none, []⟩,
    ⟨some 45, .indexAddr 10 (.t 43) (.t 44), none, []⟩,
    ⟨some 46, .fieldAddr 1 (.t 45), none, []⟩,
    ⟨some 47, .fieldAddr 8 (.t 46), none, []⟩,
    ⟨some 48, .load none (.t 47), none, []⟩,
    ⟨some 49, .call false 35 [.t 48], none, []⟩,
    ⟨some 50, .un .not (.t 49), none, []⟩] [40, 43, 44, 45, 46, 47, 48, 49])
    (.cond (.t 50)
    (.seq (.region false [
      ⟨some 51, .call false 22 [], none, []⟩,
      ⟨some 4, .move (.t 51), none, []⟩] [1, 5, 6, 50, 51])
      .ret)
    .skip))
    (.seq (.region true [
    ⟨some 53, .load (some 10) (.t 2), none, []⟩,
    ⟨some 54, .move (.t 1), none, []⟩,
    ⟨some 55, .move (.t 6), none, []⟩,
    ⟨some 56, .indexAddr 10 (.t 54) (.t 55), none, [1, 2]⟩,
    ⟨some 57, .load (some 10) (.t 56), none, [1, 2, 3]⟩,
    ⟨some 58, .call false 38 [.t 53, .t 57], none, [0, 1, 2, 3, 4]⟩,
    ⟨some 52, .move (.t 58), none, [0, 1, 2, 3, 4, 5]⟩,
    ⟨some 59, .extract (.t 52) 0, none, [0, 1, 2, 3, 4, 5, 6]⟩,
    ⟨some 60, .extract (.t 52) 1, none, [0, 1, 2, 3, 4, 5, 6]⟩,
    ⟨some 7, .alloc [.int .i64 0, .int .i64 0, .int .i64 0, .int .i64 0, .slice true [], .int .i64 0, .int .i64 0, .slice true [], .slice true [], .slice true []], none, []⟩,
    ⟨none, .store 10 (.t 7) (.t 59), none, [0, 1, 2, 3, 4, 5, 6, 7, 9]⟩,
    ⟨some 8, .move (.t 60), none, [0, 1, 2, 3, 4, 5, 6, 7, 8, 9, 10]⟩] [50, 52, 53, 54, 55, 56, 57, 58, 59, 60])
    (.seq (.seq (.region false [
    ⟨some 61, .load (some 10) (.t 7), none, []⟩,
    ⟨some 62, .call false 28 [.t 61], none, []⟩,
    ⟨some 63, .un .not (.t 62), none, []⟩,
    ⟨some 64, .move (.t 63), none, []⟩,
    ⟨some 65, .fieldAddr 2 (.t 7), some (64, false), []⟩,
    ⟨some 66, .load none (.t 65), some (64, false), []⟩,
    ⟨some 67, .fieldAddr 2 (.t 2), some (64, false), []⟩,
    ⟨some 68, .load none (.t 67), some (64, false), []⟩,
    ⟨some 69, .bin .lss (.t 66) (.t 68), some (64, false), []⟩,
    ⟨some 70, .pick (.t 64) (.c (.p (.bool true))) (.t 69), none, []⟩,
    ⟨some 71, .move (.t 70), none, []⟩,
    ⟨some 72, .fieldAddr 2 (.t 7), some (71, false), []⟩,
    ⟨some 73, .load none (.t 72), some (71, false), []⟩,
    ⟨some 74, .fieldAddr 2 (.t 2), some (71, false), []⟩,
    ⟨some 75, .load none (.t 74), some (71, false), []⟩,
    ⟨some 76, .bin .eql (.t 73) (.t 75), some (71, false), []⟩,
    ⟨some 77, .move (.t 76), some (71, false), []⟩,
    ⟨some 78, .fieldAddr 3 (.t 2), some (77, true), []⟩,
    ⟨some 79, .load none (.t 78), some (77, true), []⟩,
    ⟨some 80, .bin .neq (.t 79) (.c (.p (.int .i64 0))), some (77, true), []⟩,
    ⟨some 81, .pick (.t 77) (.t 80) (.c (.p (.bool false))), some (71, false), []⟩,
    ⟨some 82, .move (.t 81), some (71, false), []⟩,
    ⟨some 83, .fieldAddr 3 (.t 7), some (82, true), []⟩,
    ⟨some 84, .load none (.t 83), some (82, true), []⟩,
    ⟨some 85, .fieldAddr 3 (.t 2), some (82, true), []⟩,
    ⟨some 86, .load none (.t 85), some (82, true), []⟩,
    ⟨some 87, .bin .neq (.t 84) (.t 86), some (82, true), []⟩,
    ⟨some 88, .pick (.t 82) (.t 87) (.c (.p (.bool false))), some (71, false), []⟩,
    ⟨some 89, .pick (.t 71) (.c (.p (.bool true))) (.t 88), none, []⟩,
    ⟨some 90, .move (.t 89), none, []⟩,
    ⟨some 91, .fieldAddr 4 (.t 7), some (90, false), []⟩,
    ⟨some 92, .load none (.t 91), some (90, false), []⟩,
    ⟨some 93, .fieldAddr 4 (.t 2), some (90, false), []⟩,
    ⟨some 94, .load none (.t 93), some (90, false), []⟩,
    ⟨some 95, .call false 39 [.t 92, .t 94], some (90, false), []⟩,
    ⟨some 96, .un .not (.t 95), some (90, false), []⟩,
    ⟨some 97, .pick (.t 90) (.c (.p (.bool true))) (.t 96), none, []⟩,
    ⟨some 98, .move (.t 97), none, []⟩,
    ⟨some 99, .fieldAddr 0 (.t 7), some (98, false), []⟩,
    ⟨some 100, .load none (.t 99), some (98, false), []⟩,
    ⟨some 101, .fieldAddr 0 (.t 2), some (98, false), []⟩,
    ⟨some 102, .load none (.t 101), some (98, false), []⟩,
    ⟨some 103, .bin .neq (.t 100) (.t 102), some (98, false), []⟩,
    ⟨some 104, .pick (.t 98) (.c (.p (.bool true))) (.t 103), none, []⟩,
    ⟨some 105, .move (.t 104), none, []⟩,
    ⟨some 106, .fieldAddr 1 (.t 7), some (105, false), []⟩,
    ⟨some 107, .load none (.t 106), some (105, false), []⟩,
    ⟨some 108, .fieldAddr 1 (.t 2), some (105, false), []⟩,
    ⟨some 109, .load none (.t 108), some (105, false), []⟩,
    ⟨some 110, .bin .neq (.t 107) (.t 109), some (105, false), []⟩,
    ⟨some 111, .pick (.t 105) (.c (.p (.bool true))) (.t 110), none, []⟩] [61, 62, 63, 64, 65, 66, 67, 68, 69, 70, 71, 72, 73, 74, 75, 76, 77, 78, 79, 80, 81, 82, 83, 84, 85, 86, 87, 88, 89, 90, 91, 92, 93, 94, 95, 96, 97, 98, 99, 100, 101, 102, 103, 104, 105, 106, 107, 108, 109, 110])
    (.cond (.t 111)
    (.seq (.region false [
      ⟨some 4, .move (.c (.p (.bool false))), none, []⟩] [1, 5, 6, 8, 111])
      .ret)
    .skip))
    (.seq (.region false [
    ⟨some 112, .load (some 10) (.t 7), none, []⟩,
    ⟨none, .store 10 (.t 2) (.t 112), none, []⟩] [111, 112])
    (.seq (.seq (.region false [
    ⟨some 113, .fieldAddr 3 (.t 2), none, []⟩,
    ⟨some 114, .load none (.t 113), none, []⟩,
    ⟨some 115, .bin .neq (.t 114) (.c (.p (.int .i64 0))), none, []⟩] [113, 114])
    (.cond (.t 115)
    (.region false [
      ⟨some 116, .move (.t 5), none, []⟩,
      ⟨some 117, .fieldAddr 2 (.t 2), none, []⟩,
      ⟨some 118, .load none (.t 117), none, []⟩,
      ⟨some 119, .fieldAddr 3 (.t 2), none, []⟩,
      ⟨some 120, .load none (.t 119), none, []⟩,
      ⟨some 121, .build [.int .i64 0, .int .i64 0] [(0, 1, .t 118), (1, 1, .t 120)], none, []⟩,
      ⟨some 122, .buildSlice [.int .i64 0, .int .i64 0] 1 [(0, .t 121)], none, []⟩,
      ⟨some 123, .append 16 2 (.t 116) (.t 122), none, []⟩,
      ⟨some 5, .move (.t 123), none, []⟩] [115, 116, 117, 118, 119, 120, 121, 122, 123])
    .skip))
    (.seq (.region false [
    ⟨some 9, .move (.c (.p (.int .i64 0))), none, []⟩] [115])
    (.block 2
    (.loop
      (.ghost (.free [7]) (.ghost .lower a6_l2)))))))))))
  (.region false [
  ⟨some 41, .move (.t 6), none, []⟩,
  ⟨some 42, .bin .add (.t 41) (.c (.p (.int .i64 1))), none, []⟩,
  ⟨some 6, .move (.t 42), none, []⟩] [41, 42])))

def a6 : AFunc := ⟨221, 2, [.tmp 4],
  (.seq (.region false [
  ⟨some 2, .box (.t 0), none, []⟩,
  ⟨some 4, .move (.c (.p (.bool false))), none, []⟩] [0, 4])
  (.seq (.seq (.region false [
  ⟨some 12, .load (some 10) (.t 2), none, []⟩,
  ⟨some 13, .call false 21 [.t 12], none, []⟩,
  ⟨some 14, .un .not (.t 13), none, []⟩,
  ⟨some 15, .move (.t 14), none, []⟩,
  ⟨some 16, .move (.t 1), some (15, false), []⟩,
  ⟨some 17, .len (.t 16), some (15, false), []⟩,
  ⟨some 18, .bin .gtr (.t 17) (.c (.p (.int .i64 20))), some (15, false), []⟩,
  ⟨some 19, .pick (.t 15) (.c (.p (.bool true))) (.t 18), none, []⟩,
  ⟨some 20, .move (.t 19), none, []⟩,
  ⟨some 21, .load (some 10) (.t 2), some (20, false), []⟩,
  ⟨some 22, .call false 28 [.t 21], some (20, false), []⟩,
  ⟨some 23, .un .not (.t 22), some (20, false), []⟩,
  ⟨some 24, .pick (.t 20) (.c (.p (.bool true))) (.t 23), none, []⟩] [12, 13, 14, 15, 16, 17, 18, 19, 20, 21, 22, 23])
  (.cond (.t 24)
  (.seq (.region false [
    ⟨some 25, .call false 22 [], none, []⟩,
    ⟨some 4, .move (.t 25), none, []⟩] [1, 24, 25])
    .ret)
  .skip))
  (.seq (.region false [
  ⟨some 5, .move (.c (.p (.slice true []))), none, []⟩] [24])
  (.ghost (.own 2 5) (.seq (.seq (.region false [
  ⟨some 26, .fieldAddr 3 (.t 2), none, []⟩,
  ⟨some 27, .load none (.t 26), none, []⟩,
  ⟨some 28, .bin .neq (.t 27) (.c (.p (.int .i64 0))), none, []⟩] [26, 27])
  (.cond (.t 28)
  (.region false [
    ⟨some 29, .move (.t 5), none, []⟩,
    ⟨some 30, .fieldAddr 2 (.t 2), none, []⟩,
    ⟨some 31, .load none (.t 30), none, []⟩,
    ⟨some 32, .fieldAddr 3 (.t 2), none, []⟩,
    ⟨some 33, .load none (.t 32), none, []⟩,
    ⟨some 34, .build [.int .i64 0, .int .i64 0] [(0, 1, .t 31), (1, 1, .t 33)], none, []⟩,
    ⟨some 35, .buildSlice [.int .i64 0, .int .i64 0] 1 [(0, .t 34)], none, []⟩,
    ⟨some 36, .append 16 2 (.t 29) (.t 35), none, []⟩,
    ⟨some 5, .move (.t 36), none, []⟩] [28, 29, 30, 31, 32, 33, 34, 35, 36])
  .skip))
  (.seq (.seq (.region false [
  ⟨some 6, .move (.c (.p (.int .i64 0))), none, []⟩] [28])
  (.block 0
  (.loop
    (.ghost .lower a6_l3))))
  (.seq (.seq (.region false [
  ⟨some 10, .move (.c (.p (.int .i64 0))), none, []⟩] [])
  (.block 4
  (.loop
    (.ghost .lower a6_l1))))
  (.seq (.region false [
  ⟨some 220, .call false 22 [], none, []⟩,
  ⟨some 4, .move (.t 220), none, []⟩] [220])
  .ret))))))))⟩

/-- clockwork/clockworklaw41.ElectionSafe -/
@[irreducible] def a8_l0 : ACode :=
  (.seq (.seq (.region false [
  ⟨some 143, .move (.t 17), none, []⟩,
  ⟨some 144, .move (.t 16), none, []⟩,
  ⟨some 145, .bin .lss (.t 143) (.t 144), none, []⟩] [143, 144])
  (.cond (.t 145)
  .skip
  (.ghost (.forget [17, 145]) (.ghost .lower (.exit 7)))))
  (.seq (.block 8
  (.seq (.region true [
    ⟨some 148, .move (.t 10), none, []⟩,
    ⟨some 149, .move (.t 16), none, []⟩,
    ⟨some 150, .indexAddr 2 (.t 148) (.t 149), none, [0, 1]⟩,
    ⟨some 151, .fieldAddr 0 (.t 150), none, [0, 1, 2]⟩,
    ⟨some 152, .load none (.t 151), none, [0, 1, 2, 3]⟩,
    ⟨some 153, .move (.t 10), none, []⟩,
    ⟨some 154, .move (.t 17), none, []⟩,
    ⟨some 155, .indexAddr 2 (.t 153) (.t 154), none, [5, 6]⟩,
    ⟨some 156, .fieldAddr 0 (.t 155), none, [5, 6, 7]⟩,
    ⟨some 157, .load none (.t 156), none, [5, 6, 7, 8]⟩,
    ⟨some 158, .bin .eql (.t 152) (.t 157), none, [0, 1, 2, 3, 4, 5, 6, 7, 8, 9]⟩,
    ⟨some 159, .move (.t 158), none, [0, 1, 2, 3, 4, 5, 6, 7, 8, 9, 10]⟩,
    ⟨some 160, .move (.t 10), some (159, true), [0, 1, 2, 3, 4, 5, 6, 7, 8, 9, 10, 11]⟩,
    ⟨some 161, .move (.t 16), some (159, true), [0, 1, 2, 3, 4, 5, 6, 7, 8, 9, 10, 11]⟩,
    ⟨some 162, .indexAddr 2 (.t 160) (.t 161), some (159, true), [0, 1, 2, 3, 4, 5, 6, 7, 8, 9, 10, 11, 12, 13]⟩,
    ⟨some 163, .fieldAddr 1 (.t 162), some (159, true), [0, 1, 2, 3, 4, 5, 6, 7, 8, 9, 10, 11, 12, 13, 14]⟩,
    ⟨some 164, .load none (.t 163), some (159, true), [0, 1, 2, 3, 4, 5, 6, 7, 8, 9, 10, 11, 12, 13, 14, 15]⟩,
    ⟨some 165, .move (.t 10), some (159, true), [0, 1, 2, 3, 4, 5, 6, 7, 8, 9, 10, 11]⟩,
    ⟨some 166, .move (.t 17), some (159, true), [0, 1, 2, 3, 4, 5, 6, 7, 8, 9, 10, 11]⟩,
    ⟨some 167, .indexAddr 2 (.t 165) (.t 166), some (159, true), [0, 1, 2, 3, 4, 5, 6, 7, 8, 9, 10, 11, 17, 18]⟩,
    ⟨some 168, .fieldAddr 1 (.t 167), some (159, true), [0, 1, 2, 3, 4, 5, 6, 7, 8, 9, 10, 11, 17, 18, 19]⟩,
    ⟨some 169, .load none (.t 168), some (159, true), [0, 1, 2, 3, 4, 5, 6, 7, 8, 9, 10, 11, 17, 18, 19, 20]⟩,
    ⟨some 170, .bin .neq (.t 164) (.t 169), some (159, true), [0, 1, 2, 3, 4, 5, 6, 7, 8, 9, 10, 11, 12, 13, 14, 15, 16, 17, 18, 19, 20, 21]⟩,
    ⟨some 171, .pick (.t 159) (.t 170) (.c (.p (.bool false))), none, [0, 1, 2, 3, 4, 5, 6, 7, 8, 9, 10, 11, 12, 13, 14, 15, 16, 17, 18, 19, 20, 21, 22]⟩] [145, 148, 149, 150, 151, 152, 153, 154, 155, 156, 157, 158, 159, 160, 161, 162, 163, 164, 165, 166, 167, 168, 169, 170])
    (.cond (.t 171)
    (.seq (.region false [
      ⟨some 4, .move (.c (.p (.bool false))), none, []⟩] [10, 16, 17, 171])
      .ret)
    .skip)))
  (.region false [
  ⟨some 146, .move (.t 17), none, []⟩,
  ⟨some 147, .bin .add (.t 146) (.c (.p (.int .i64 1))), none, []⟩,
  ⟨some 17, .move (.t 147), none, []⟩] [146, 147, 171])))

@[irreducible] def a8_l1 : ACode :=
  (.seq (.seq (.region false [
  ⟨some 137, .move (.t 16), none, []⟩,
  ⟨some 138, .move (.t 10), none, []⟩,
  ⟨some 139, .len (.t 138), none, []⟩,
  ⟨some 140, .bin .lss (.t 137) (.t 139), none, []⟩] [137, 138, 139])
  (.cond (.t 140)
  .skip
  (.ghost (.forget [10, 16, 140]) (.ghost .lower (.exit 5)))))
  (.seq (.block 6
  (.seq (.region false [
    ⟨some 17, .move (.c (.p (.int .i64 0))), none, []⟩] [140])
    (.block 7
    (.loop
      (.ghost .lower a8_l0)))))
  (.region false [
  ⟨some 141, .move (.t 16), none, []⟩,
  ⟨some 142, .bin .add (.t 141) (.c (.p (.int .i64 1))), none, []⟩,
  ⟨some 16, .move (.t 142), none, []⟩] [141, 142])))

@[irreducible] def a8_l2 : ACode :=
  (.seq (.seq (.region false [
  ⟨some 47, .move (.t 11), none, []⟩,
  ⟨some 48, .move (.t 1), none, []⟩,
  ⟨some 49, .len (.t 48), none, []⟩,
  ⟨some 50, .bin .lss (.t 47) (.t 49), none, []⟩] [47, 48, 49])
  (.cond (.t 50)
  .skip
  (.ghost (.forget [0, 1, 5, 9, 11, 50]) (.ghost .lower (.exit 2)))))
  (.seq (.block 3
  (.seq (.region false [
    ⟨some 53, .move (.t 1), none, []⟩,
    ⟨some 54, .move (.t 11), none, []⟩,
    ⟨some 55, .indexAddr 1 (.t 53) (.t 54), none, []⟩,
    ⟨some 56, .load none (.t 55), none, []⟩,
    ⟨some 12, .move (.t 56), none, []⟩] [50, 53, 54, 55, 56])
    (.seq (.region false [
    ⟨some 57, .build [.int .i64 0, .int .i64 0, .int .i64 0, .int .i64 0, .int .i64 0, .int .i64 0, .int .i64 0, .int .i64 0, .bool false, .slice true []] [(0, 1, .c (.p (.int .i64 2)))], none, []⟩,
    ⟨some 13, .alloc [.int .i64 0, .int .i64 0, .int .i64 0, .int .i64 0, .int .i64 0, .int .i64 0, .int .i64 0, .int .i64 0, .bool false, .slice true []], none, []⟩,
    ⟨none, .store 10 (.t 13) (.t 57), none, []⟩] [57])
    (.seq (.seq (.region false [
    ⟨some 58, .move (.t 12), none, []⟩,
    ⟨some 59, .bin .lss (.t 58) (.c (.p (.int .i64 0))), none, []⟩,
    ⟨some 60, .move (.t 59), none, []⟩,
    ⟨some 61, .move (.t 12), some (60, false), []⟩,
    ⟨some 62, .move (.t 0), some (60, false), []⟩,
    ⟨some 63, .bin .mul (.c (.p (.int .i64 2))) (.t 62), some (60, false), []⟩,
    ⟨some 64, .bin .geq (.t 61) (.t 63), some (60, false), []⟩,
    ⟨some 65, .move (.t 64), some (60, false), []⟩,
    ⟨some 66, .move (.t 9), some (65, true), []⟩,
    ⟨some 67, .len (.t 66), some (65, true), []⟩,
    ⟨some 68, .bin .eql (.t 67) (.c (.p (.int .i64 0))), some (65, true), []⟩,
    ⟨some 69, .pick (.t 65) (.t 68) (.c (.p (.bool false))), some (60, false), []⟩,
    ⟨some 70, .pick (.t 60) (.c (.p (.bool true))) (.t 69), none, []⟩] [58, 59, 60, 61, 62, 63, 64, 65, 66, 67, 68, 69])
    (.cond (.t 70)
    (.ghost (.forget [12, 70]) (.ghost (.free [13]) (.ghost .lower (.exit 3))))
    .skip))
    (.seq (.block 4
    (.seq (.region false [
      ⟨some 90, .move (.t 12), none, []⟩,
      ⟨some 91, .move (.t 0), none, []⟩,
      ⟨some 92, .bin .lss (.t 90) (.t 91), none, []⟩,
      ⟨some 89, .move (.t 92), none, []⟩] [70, 90, 91, 92])
      (.cond (.t 89)
      (.region false [
        ⟨some 93, .fieldAddr 0 (.t 13), none, []⟩,
        ⟨none, .store 1 (.t 93) (.c (.p (.int .i64 0))), none, []⟩] [89, 93])
      (.seq (.region false [
        ⟨some 95, .move (.t 12), none, []⟩,
        ⟨some 96, .move (.t 0), none, []⟩,
        ⟨some 97, .bin .mul (.c (.p (.int .i64 2))) (.t 96), none, []⟩,
        ⟨some 98, .bin .lss (.t 95) (.t 97), none, []⟩,
        ⟨some 94, .move (.t 98), none, []⟩] [89, 95, 96, 97, 98])
        (.cond (.t 94)
        (.seq (.region false [
          ⟨some 99, .fieldAddr 0 (.t 13), none, []⟩,
          ⟨none, .store 1 (.t 99) (.c (.p (.int .i64 1))), none, []⟩] [94, 99])
          (.region false [
          ⟨some 100, .move (.t 12), none, []⟩,
          ⟨some 101, .move (.t 0), none, []⟩,
          ⟨some 102, .bin .sub (.t 100) (.t 101), none, []⟩,
          ⟨some 12, .move (.t 102), none, []⟩] [100, 101, 102]))
        (.seq (.seq (.region false [
          ⟨some 71, .move (.t 9), none, []⟩,
          ⟨some 72, .len (.t 71), none, []⟩,
          ⟨some 73, .bin .eql (.t 72) (.c (.p (.int .i64 0))), none, []⟩] [71, 72, 94])
          (.cond (.t 73)
          (.ghost (.forget [12, 73]) (.ghost (.free [13]) (.ghost .lower (.exit 3))))
          .skip))
          (.seq (.region false [
          ⟨some 74, .move (.t 9), none, []⟩,
          ⟨some 75, .move (.t 12), none, []⟩,
          ⟨some 76, .move (.t 0), none, []⟩,
          ⟨some 77, .bin .mul (.c (.p (.int .i64 2))) (.t 76), none, []⟩,
          ⟨some 78, .bin .sub (.t 75) (.t 77), none, []⟩,
          ⟨some 79, .move (.t 9), none, []⟩,
          ⟨some 80, .len (.t 79), none, []⟩,
          ⟨some 81, .bin .rem (.t 78) (.t 80), none, []⟩,
          ⟨some 82, .indexAddr 9 (.t 74) (.t 81), none, []⟩,
          ⟨some 83, .load (some 9) (.t 82), none, []⟩,
          ⟨some 84, .fieldAddr 1 (.t 13), none, []⟩,
          ⟨none, .store 9 (.t 84) (.t 83), none, []⟩] [12, 73, 74, 75, 76, 77, 78, 79, 80, 81, 82, 83, 84])
          (.region false [
          ⟨some 85, .fieldAddr 1 (.t 13), none, []⟩,
          ⟨some 86, .fieldAddr 2 (.t 85), none, []⟩,
          ⟨some 87, .load none (.t 86), none, []⟩,
          ⟨some 88, .bin .sub (.t 87) (.c (.p (.int .i64 1))), none, []⟩,
          ⟨some 12, .move (.t 88), none, []⟩] [85, 86, 87, 88]))))))))
    (.seq (.seq (.region false [
    ⟨some 103, .move (.t 12), none, []⟩,
    ⟨some 104, .bin .lss (.t 103) (.c (.p (.int .i64 0))), none, []⟩,
    ⟨some 105, .move (.t 104), none, []⟩,
    ⟨some 106, .move (.t 12), some (105, false), []⟩,
    ⟨some 107, .move (.t 0), some (105, false), []⟩,
    ⟨some 108, .bin .geq (.t 106) (.t 107), some (105, false), []⟩,
    ⟨some 109, .pick (.t 105) (.c (.p (.bool true))) (.t 108), none, []⟩] [103, 104, 105, 106, 107, 108])
    (.cond (.t 109)
    (.seq (.region false [
      ⟨some 4, .move (.c (.p (.bool false))), none, []⟩] [0, 1, 5, 9, 10, 11, 12, 109])
      .ret)
    .skip))
    (.seq (.region true [
    ⟨some 111, .move (.t 5), none, []⟩,
    ⟨some 112, .move (.t 12), none, []⟩,
    ⟨some 113, .indexAddr 10 (.t 111) (.t 112), none, [0, 1]⟩,
    ⟨some 114, .load (some 10) (.t 113), none, [0, 1, 2]⟩,
    ⟨some 115, .load (some 10) (.t 13), none, []⟩,
    ⟨some 116, .call false 38 [.t 114, .t 115], none, [0, 1, 2, 3, 4]⟩,
    ⟨some 110, .move (.t 116), none, [0, 1, 2, 3, 4, 5]⟩,
    ⟨some 117, .extract (.t 110) 0, none, [0, 1, 2, 3, 4, 5, 6]⟩,
    ⟨some 118, .extract (.t 110) 1, none, [0, 1, 2, 3, 4, 5, 6]⟩,
    ⟨some 14, .alloc [.int .i64 0, .int .i64 0, .int .i64 0, .int .i64 0, .slice true [], .int .i64 0, .int .i64 0, .slice true [], .slice true [], .slice true []], none, []⟩,
    ⟨none, .store 10 (.t 14) (.t 117), none, [0, 1, 2, 3, 4, 5, 6, 7, 9]⟩,
    ⟨some 15, .move (.t 118), none, [0, 1, 2, 3, 4, 5, 6, 7, 8, 9, 10]⟩] [109, 110, 111, 112, 113, 114, 115, 116, 117, 118])
    (.seq (.region false [
    ⟨some 119, .move (.t 5), none, []⟩,
    ⟨some 120, .move (.t 12), none, []⟩,
    ⟨some 121, .load (some 10) (.t 14), none, []⟩,
    ⟨some 122, .indexAddr 10 (.t 119) (.t 120), none, []⟩,
    ⟨none, .store 10 (.t 122) (.t 121), none, []⟩] [12, 119, 120, 121, 122])
    (.seq (.region false [
    ⟨some 123, .move (.t 9), none, []⟩,
    ⟨some 124, .move (.t 15), none, []⟩,
    ⟨some 125, .append 88 9 (.t 123) (.t 124), none, []⟩,
    ⟨some 9, .move (.t 125), none, []⟩] [15, 123, 124, 125])
    (.seq (.region false [
    ⟨some 126, .fieldAddr 5 (.t 14), none, []⟩,
    ⟨some 127, .load none (.t 126), none, []⟩,
    ⟨some 128, .bin .eql (.t 127) (.c (.p (.int .i64 3))), none, []⟩] [126, 127])
    (.cond (.t 128)
    (.region false [
      ⟨some 129, .move (.t 10), none, []⟩,
      ⟨some 130, .fieldAddr 2 (.t 14), none, []⟩,
      ⟨some 131, .load none (.t 130), none, []⟩,
      ⟨some 132, .fieldAddr 0 (.t 14), none, []⟩,
      ⟨some 133, .load none (.t 132), none, []⟩,
      ⟨some 134, .build [.int .i64 0, .int .i64 0] [(0, 1, .t 131), (1, 1, .t 133)], none, []⟩,
      ⟨some 135, .buildSlice [.int .i64 0, .int .i64 0] 1 [(0, .t 134)], none, []⟩,
      ⟨some 136, .append 16 2 (.t 129) (.t 135), none, []⟩,
      ⟨some 10, .move (.t 136), none, []⟩] [128, 129, 130, 131, 132, 133, 134, 135, 136])
    .skip)))))))))))
  (.region false [
  ⟨some 51, .move (.t 11), none, []⟩,
  ⟨some 52, .bin .add (.t 51) (.c (.p (.int .i64 1))), none, []⟩,
  ⟨some 11, .move (.t 52), none, []⟩] [51, 52, 128])))

@[irreducible] def a8_l3 : ACode :=
  (.seq (.seq (.region false [
  ⟨some 30, .move (.t 6), none, []⟩,
  ⟨some 31, .move (.t 0), none, []⟩,
  ⟨some 32, .bin .leq (.t 30) (.t 31), none, []⟩] [30, 31])
  (.cond (.t 32)
  .skip
  (.ghost (.forget [6, 32]) (.ghost .lower (.exit 0)))))
  (.seq (.block 1
  (.seq (.region false [
    ⟨some 36, .move (.t 6), none, []⟩,
    ⟨some 37, .move (.t 0), none, []⟩,
    ⟨some 38, .call false 23 [.t 36, .t 37], none, []⟩,
    ⟨some 35, .move (.t 38), none, []⟩,
    ⟨some 39, .extract (.t 35) 0, none, []⟩,
    ⟨some 40, .extract (.t 35) 1, none, []⟩,
    ⟨some 7, .alloc [.int .i64 0, .int .i64 0, .int .i64 0, .int .i64 0, .slice true [], .int .i64 0, .int .i64 0, .slice true [], .slice true [], .slice true []], none, []⟩,
    ⟨none, .store 10 (.t 7) (.t 39), none, []⟩,
    ⟨some 8, .move (.t 40), none, []⟩] [32, 35, 36, 37, 38, 39, 40])
    (.seq (.seq (.region false [
    ⟨some 41, .move (.t 8), none, []⟩,
    ⟨some 42, .bin .neq (.t 41) (.c (.p (.int .i64 0))), none, []⟩] [8, 41])
    (.cond (.t 42)
    (.seq (.region false [
      ⟨some 4, .move (.c (.p (.bool false))), none, []⟩] [0, 1, 5, 6, 42])
      .ret)
    .skip))
    (.region false [
    ⟨some 43, .move (.t 5), none, []⟩,
    ⟨some 44, .load (some 10) (.t 7), none, []⟩,
    ⟨some 45, .buildSlice [.int .i64 0, .int .i64 0, .int .i64 0, .int .i64 0, .slice true [], .int .i64 0, .int .i64 0, .slice true [], .slice true [], .slice true []] 1 [(0, .t 44)], none, []⟩,
    ⟨some 46, .append 144 10 (.t 43) (.t 45), none, []⟩,
    ⟨some 5, .move (.t 46), none, []⟩] [42, 43, 44, 45, 46]))))
  (.region false [
  ⟨some 33, .move (.t 6), none, []⟩,
  ⟨some 34, .bin .add (.t 33) (.c (.p (.int .i64 1))), none, []⟩,
  ⟨some 6, .move (.t 34), none, []⟩] [33, 34])))

def a8 : AFunc := ⟨173, 2, [.tmp 4],
  (.seq (.region false [
  ⟨some 4, .move (.c (.p (.bool false))), none, []⟩] [4])
  (.seq (.seq (.region false [
  ⟨some 18, .move (.t 0), none, []⟩,
  ⟨some 19, .bin .lss (.t 18) (.c (.p (.int .i64 1))), none, []⟩,
  ⟨some 20, .move (.t 19), none, []⟩,
  ⟨some 21, .move (.t 0), some (20, false), []⟩,
  ⟨some 22, .bin .gtr (.t 21) (.c (.p (.int .i64 7))), some (20, false), []⟩,
  ⟨some 23, .pick (.t 20) (.c (.p (.bool true))) (.t 22), none, []⟩,
  ⟨some 24, .move (.t 23), none, []⟩,
  ⟨some 25, .move (.t 1), some (24, false), []⟩,
  ⟨some 26, .len (.t 25), some (24, false), []⟩,
  ⟨some 27, .bin .gtr (.t 26) (.c (.p (.int .i64 30))), some (24, false), []⟩,
  ⟨some 28, .pick (.t 24) (.c (.p (.bool true))) (.t 27), none, []⟩] [18, 19, 20, 21, 22, 23, 24, 25, 26, 27])
  (.cond (.t 28)
  (.seq (.region false [
    ⟨some 29, .call false 22 [], none, []⟩,
    ⟨some 4, .move (.t 29), none, []⟩] [0, 1, 28, 29])
    .ret)
  .skip))
  (.seq (.region false [
  ⟨some 5, .move (.c (.p (.slice true []))), none, []⟩] [28])
  (.ghost (.own 10 5) (.seq (.seq (.region false [
  ⟨some 6, .move (.c (.p (.int .i64 1))), none, []⟩] [])
  (.block 0
  (.loop
    (.ghost (.free [7]) (.ghost .lower a8_l3)))))
  (.seq (.region false [
  ⟨some 9, .move (.c (.p (.slice true []))), none, []⟩] [])
  (.ghost (.own 9 9) (.seq (.region false [
  ⟨some 10, .move (.c (.p (.slice true []))), none, []⟩] [])
  (.ghost (.own 2 10) (.seq (.seq (.region false [
  ⟨some 11, .move (.c (.p (.int .i64 0))), none, []⟩] [])
  (.block 2
  (.loop
    (.ghost (.free [13, 14]) (.ghost .lower a8_l2)))))
  (.seq (.seq (.region false [
  ⟨some 16, .move (.c (.p (.int .i64 0))), none, []⟩] [])
  (.block 5
  (.loop
    (.ghost .lower a8_l1))))
  (.seq (.region false [
  ⟨some 172, .call false 22 [], none, []⟩,
  ⟨some 4, .move (.t 172), none, []⟩] [172])
  .ret))))))))))))⟩

/-- clockwork/clockworklaw42.ReplicateStays -/
@[irreducible] def a14_l0 : ACode :=
  (.seq (.seq (.region false [
  ⟨some 91, .move (.t 11), none, []⟩,
  ⟨some 92, .move (.t 10), none, []⟩,
  ⟨some 93, .len (.t 92), none, []⟩,
  ⟨some 94, .bin .lss (.t 91) (.t 93), none, []⟩] [91, 92, 93])
  (.cond (.t 94)
  .skip
  (.ghost (.forget [10, 11, 94]) (.ghost (.free [2]) (.ghost .lower (.exit 0))))))
  (.seq (.block 1
  (.seq (.region true [
    ⟨some 97, .move (.t 10), none, []⟩,
    ⟨some 98, .move (.t 11), none, []⟩,
    ⟨some 99, .indexAddr 9 (.t 97) (.t 98), none, [0, 1]⟩,
    ⟨some 100, .load (some 9) (.t 99), none, [0, 1, 2]⟩,
    ⟨some 101, .fieldAddr 1 (.t 2), none, []⟩,
    ⟨some 102, .load none (.t 101), none, [4]⟩,
    ⟨some 103, .call false 40 [.t 100, .t 102], none, [0, 1, 2, 3, 4, 5]⟩,
    ⟨some 104, .un .not (.t 103), none, [0, 1, 2, 3, 4, 5, 6]⟩,
    ⟨some 105, .move (.t 104), none, [0, 1, 2, 3, 4, 5, 6, 7]⟩,
    ⟨some 106, .move (.t 10), some (105, false), [0, 1, 2, 3, 4, 5, 6, 7, 8]⟩,
    ⟨some 107, .move (.t 11), some (105, false), [0, 1, 2, 3, 4, 5, 6, 7, 8]⟩,
    ⟨some 108, .indexAddr 9 (.t 106) (.t 107), some (105, false), [0, 1, 2, 3, 4, 5, 6, 7, 8, 9, 10]⟩,
    ⟨some 109, .fieldAddr 1 (.t 108), some (105, false), [0, 1, 2, 3, 4, 5, 6, 7, 8, 9, 10, 11]⟩,
    ⟨some 110, .load none (.t 109), some (105, false), [0, 1, 2, 3, 4, 5, 6, 7, 8, 9, 10, 11, 12]⟩,
    ⟨some 111, .fieldAddr 0 (.t 2), some (105, false), [0, 1, 2, 3, 4, 5, 6, 7, 8]⟩,
    ⟨some 112, .load none (.t 111), some (105, false), [0, 1, 2, 3, 4, 5, 6, 7, 8, 14]⟩,
    ⟨some 113, .bin .neq (.t 110) (.t 112), some (105, false), [0, 1, 2, 3, 4, 5, 6, 7, 8, 9, 10, 11, 12, 13, 14, 15]⟩,
    ⟨some 114, .pick (.t 105) (.c (.p (.bool true))) (.t 113), none, [0, 1, 2, 3, 4, 5, 6, 7, 8, 9, 10, 11, 12, 13, 14, 15, 16]⟩] [94, 97, 98, 99, 100, 101, 102, 103, 104, 105, 106, 107, 108, 109, 110, 111, 112, 113])
    (.cond (.t 114)
    (.seq (.region false [
      ⟨some 4, .move (.c (.p (.bool false))), none, []⟩] [10, 11, 114])
      .ret)
    .skip)))
  (.region false [
  ⟨some 95, .move (.t 11), none, []⟩,
  ⟨some 96, .bin .add (.t 95) (.c (.p (.int .i64 1))), none, []⟩,
  ⟨some 11, .move (.t 96), none, []⟩] [95, 96, 114])))

def a14 : AFunc := ⟨116, 2, [.tmp 4],
  (.seq (.region false [
  ⟨some 2, .box (.t 0), none, []⟩,
  ⟨some 3, .box (.t 1), none, []⟩,
  ⟨some 4, .move (.c (.p (.bool false))), none, []⟩] [0, 1, 4])
  (.seq (.seq (.region false [
  ⟨some 12, .load (some 10) (.t 2), none, []⟩,
  ⟨some 13, .load (some 9) (.t 3), none, []⟩,
  ⟨some 14, .call false 45 [.t 12, .t 13], none, []⟩,
  ⟨some 15, .un .not (.t 14), none, []⟩,
  ⟨some 16, .move (.t 15), none, []⟩,
  ⟨some 17, .load (some 10) (.t 2), some (16, false), []⟩,
  ⟨some 18, .call false 29 [.t 17], some (16, false), []⟩,
  ⟨some 19, .un .not (.t 18), some (16, false), []⟩,
  ⟨some 20, .pick (.t 16) (.c (.p (.bool true))) (.t 19), none, []⟩] [12, 13, 14, 15, 16, 17, 18, 19])
  (.cond (.t 20)
  (.seq (.region false [
    ⟨some 21, .call false 46 [], none, []⟩,
    ⟨some 4, .move (.t 21), none, []⟩] [20, 21])
    .ret)
  .skip))
  (.seq (.region false [
  ⟨some 23, .load (some 10) (.t 2), none, []⟩,
  ⟨some 24, .load (some 9) (.t 3), none, []⟩,
  ⟨some 25, .call false 54 [.t 23, .t 24], none, []⟩,
  ⟨some 22, .move (.t 25), none, []⟩,
  ⟨some 26, .extract (.t 22) 0, none, []⟩,
  ⟨some 27, .extract (.t 22) 1, none, []⟩,
  ⟨some 5, .alloc [.int .i64 0, .int .i64 0, .int .i64 0, .int .i64 0, .slice true [], .int .i64 0, .int .i64 0, .slice true [], .slice true [], .slice true []], none, []⟩,
  ⟨none, .store 10 (.t 5) (.t 26), none, []⟩,
  ⟨some 6, .move (.t 27), none, []⟩] [20, 22, 23, 24, 25, 26, 27])
  (.seq (.region false [
  ⟨some 29, .load (some 10) (.t 2), none, []⟩,
  ⟨some 30, .call false 47 [.t 29, .c (.p (.str ⟨#[120]⟩))], none, []⟩,
  ⟨some 28, .move (.t 30), none, []⟩,
  ⟨some 31, .extract (.t 28) 0, none, []⟩,
  ⟨some 32, .extract (.t 28) 1, none, []⟩,
  ⟨some 7, .alloc [.int .i64 0, .int .i64 0, .int .i64 0, .int .i64 0, .slice true [], .int .i64 0, .int .i64 0, .slice true [], .slice true [], .slice true []], none, []⟩,
  ⟨none, .store 10 (.t 7) (.t 31), none, []⟩,
  ⟨some 8, .move (.t 32), none, []⟩] [28, 29, 30, 31, 32])
  (.seq (.region false [
  ⟨some 33, .load (some 10) (.t 2), none, []⟩,
  ⟨some 34, .call false 50 [.t 33], none, []⟩,
  ⟨some 9, .move (.t 34), none, []⟩] [33, 34])
  (.seq (.seq (.region true [
  ⟨some 35, .load (some 10) (.t 5), none, []⟩,
  ⟨some 36, .call false 29 [.t 35], none, [0]⟩,
  ⟨some 37, .un .not (.t 36), none, [0, 1]⟩,
  ⟨some 38, .move (.t 37), none, [0, 1, 2]⟩,
  ⟨some 39, .fieldAddr 6 (.t 5), some (38, false), [0, 1, 2, 3]⟩,
  ⟨some 40, .load none (.t 39), some (38, false), [0, 1, 2, 3, 4]⟩,
  ⟨some 41, .fieldAddr 6 (.t 2), some (38, false), [0, 1, 2, 3]⟩,
  ⟨some 42, .load none (.t 41), some (38, false), [0, 1, 2, 3, 6]⟩,
  ⟨some 43, .bin .lss (.t 40) (.t 42), some (38, false), [0, 1, 2, 3, 4, 5, 6, 7]⟩,
  ⟨some 44, .pick (.t 38) (.c (.p (.bool true))) (.t 43), none, [0, 1, 2, 3, 4, 5, 6, 7, 8]⟩,
  ⟨some 45, .move (.t 44), none, [0, 1, 2, 3, 4, 5, 6, 7, 8, 9]⟩,
  ⟨some 46, .fieldAddr 2 (.t 5), some (45, false), [0, 1, 2, 3, 4, 5, 6, 7, 8, 9, 10]⟩,
  ⟨some 47, .load none (.t 46), some (45, false), [0, 1, 2, 3, 4, 5, 6, 7, 8, 9, 10, 11]⟩,
  ⟨some 48, .fieldAddr 2 (.t 2), some (45, false), [0, 1, 2, 3, 4, 5, 6, 7, 8, 9, 10]⟩,
  ⟨some 49, .load none (.t 48), some (45, false), [0, 1, 2, 3, 4, 5, 6, 7, 8, 9, 10, 13]⟩,
  ⟨some 50, .bin .lss (.t 47) (.t 49), some (45, false), [0, 1, 2, 3, 4, 5, 6, 7, 8, 9, 10, 11, 12, 13, 14]⟩,
  ⟨some 51, .pick (.t 45) (.c (.p (.bool true))) (.t 50), none, [0, 1, 2, 3, 4, 5, 6, 7, 8, 9, 10, 11, 12, 13, 14, 15]⟩,
  ⟨some 52, .move (.t 51), none, [0, 1, 2, 3, 4, 5, 6, 7, 8, 9, 10, 11, 12, 13, 14, 15, 16]⟩,
  ⟨some 53, .load (some 10) (.t 5), some (52, false), [0, 1, 2, 3, 4, 5, 6, 7, 8, 9, 10, 11, 12, 13, 14, 15, 16, 17]⟩,
  ⟨some 54, .call false 57 [.t 53], some (52, false), [0, 1, 2, 3, 4, 5, 6, 7, 8, 9, 10, 11, 12, 13, 14, 15, 16, 17, 18]⟩,
  ⟨some 55, .load (some 10) (.t 2), some (52, false), [0, 1, 2, 3, 4, 5, 6, 7, 8, 9, 10, 11, 12, 13, 14, 15, 16, 17]⟩,
  ⟨some 56, .call false 57 [.t 55], some (52, false), [0, 1, 2, 3, 4, 5, 6, 7, 8, 9, 10, 11, 12, 13, 14, 15, 16, 17, 18, 19, 20]⟩,
  ⟨some 57, .call false 59 [.t 54, .t 56], some (52, false), [0, 1, 2, 3, 4, 5, 6, 7, 8, 9, 10, 11, 12, 13, 14, 15, 16, 17, 18, 19, 20, 21]⟩,
  ⟨some 58, .un .not (.t 57), some (52, false), [0, 1, 2, 3, 4, 5, 6, 7, 8, 9, 10, 11, 12, 13, 14, 15, 16, 17, 18, 19, 20, 21, 22]⟩,
  ⟨some 59, .pick (.t 52) (.c (.p (.bool true))) (.t 58), none, [0, 1, 2, 3, 4, 5, 6, 7, 8, 9, 10, 11, 12, 13, 14, 15, 16, 17, 18, 19, 20, 21, 22, 23]⟩] [35, 36, 37, 38, 39, 40, 41, 42, 43, 44, 45, 46, 47, 48, 49, 50, 51, 52, 53, 54, 55, 56, 57, 58])
  (.cond (.t 59)
  (.seq (.region false [
    ⟨some 4, .move (.c (.p (.bool false))), none, []⟩] [6, 8, 9, 59])
    .ret)
  .skip))
  (.seq (.seq (.region true [
  ⟨some 60, .move (.t 8), none, []⟩,
  ⟨some 61, .bin .eql (.t 60) (.c (.p (.int .i64 0))), none, [0]⟩,
  ⟨some 62, .move (.t 61), none, [0, 1]⟩,
  ⟨some 63, .load (some 10) (.t 7), some (62, true), [0, 1, 2]⟩,
  ⟨some 64, .call false 29 [.t 63], some (62, true), [0, 1, 2, 3]⟩,
  ⟨some 65, .un .not (.t 64), some (62, true), [0, 1, 2, 3, 4]⟩,
  ⟨some 66, .move (.t 65), some (62, true), [0, 1, 2, 3, 4, 5]⟩,
  ⟨some 67, .fieldAddr 4 (.t 7), some (66, false), [0, 1, 2, 3, 4, 5, 6]⟩,
  ⟨some 68, .load none (.t 67), some (66, false), [0, 1, 2, 3, 4, 5, 6, 7]⟩,
  ⟨some 69, .len (.t 68), some (66, false), [0, 1, 2, 3, 4, 5, 6, 7, 8]⟩,
  ⟨some 70, .fieldAddr 4 (.t 2), some (66, false), [0, 1, 2, 3, 4, 5, 6]⟩,
  ⟨some 71, .load none (.t 70), some (66, false), [0, 1, 2, 3, 4, 5, 6, 10]⟩,
  ⟨some 72, .len (.t 71), some (66, false), [0, 1, 2, 3, 4, 5, 6, 10, 11]⟩,
  ⟨some 73, .bin .add (.t 72) (.c (.p (.int .i64 1))), some (66, false), [0, 1, 2, 3, 4, 5, 6, 10, 11, 12]⟩,
  ⟨some 74, .bin .neq (.t 69) (.t 73), some (66, false), [0, 1, 2, 3, 4, 5, 6, 7, 8, 9, 10, 11, 12, 13]⟩,
  ⟨some 75, .pick (.t 66) (.c (.p (.bool true))) (.t 74), some (62, true), [0, 1, 2, 3, 4, 5, 6, 7, 8, 9, 10, 11, 12, 13, 14]⟩,
  ⟨some 76, .move (.t 75), some (62, true), [0, 1, 2, 3, 4, 5, 6, 7, 8, 9, 10, 11, 12, 13, 14, 15]⟩,
  ⟨some 77, .load (some 10) (.t 7), some (76, false), [0, 1, 2, 3, 4, 5, 6, 7, 8, 9, 10, 11, 12, 13, 14, 15, 16]⟩,
  ⟨some 78, .call false 57 [.t 77], some (76, false), [0, 1, 2, 3, 4, 5, 6, 7, 8, 9, 10, 11, 12, 13, 14, 15, 16, 17]⟩,
  ⟨some 79, .load (some 10) (.t 2), some (76, false), [0, 1, 2, 3, 4, 5, 6, 7, 8, 9, 10, 11, 12, 13, 14, 15, 16]⟩,
  ⟨some 80, .call false 57 [.t 79], some (76, false), [0, 1, 2, 3, 4, 5, 6, 7, 8, 9, 10, 11, 12, 13, 14, 15, 16, 17, 18, 19]⟩,
  ⟨some 81, .call false 59 [.t 78, .t 80], some (76, false), [0, 1, 2, 3, 4, 5, 6, 7, 8, 9, 10, 11, 12, 13, 14, 15, 16, 17, 18, 19, 20]⟩,
  ⟨some 82, .un .not (.t 81), some (76, false), [0, 1, 2, 3, 4, 5, 6, 7, 8, 9, 10, 11, 12, 13, 14, 15, 16, 17, 18, 19, 20, 21]⟩,
  ⟨some 83, .pick (.t 76) (.c (.p (.bool true))) (.t 82), some (62, true), [0, 1, 2, 3, 4, 5, 6, 7, 8, 9, 10, 11, 12, 13, 14, 15, 16, 17, 18, 19, 20, 21, 22]⟩,
  ⟨some 84, .pick (.t 62) (.t 83) (.c (.p (.bool false))), none, [0, 1, 2, 3, 4, 5, 6, 7, 8, 9, 10, 11, 12, 13, 14, 15, 16, 17, 18, 19, 20, 21, 22, 23]⟩] [8, 59, 60, 61, 62, 63, 64, 65, 66, 67, 68, 69, 70, 71, 72, 73, 74, 75, 76, 77, 78, 79, 80, 81, 82, 83])
  (.cond (.t 84)
  (.seq (.region false [
    ⟨some 4, .move (.c (.p (.bool false))), none, []⟩] [6, 9, 84])
    .ret)
  .skip))
  (.seq (.region false [
  ⟨some 10, .move (.c (.p (.slice true []))), none, []⟩] [84])
  (.seq (.region false [
  ⟨some 85, .move (.t 10), none, []⟩,
  ⟨some 86, .move (.t 6), none, []⟩,
  ⟨some 87, .append 88 9 (.t 85) (.t 86), none, []⟩,
  ⟨some 10, .move (.t 87), none, []⟩] [6, 85, 86, 87])
  (.seq (.region false [
  ⟨some 88, .move (.t 10), none, []⟩,
  ⟨some 89, .move (.t 9), none, []⟩,
  ⟨some 90, .append 88 9 (.t 88) (.t 89), none, []⟩,
  ⟨some 10, .move (.t 90), none, []⟩] [9, 88, 89, 90])
  (.seq (.seq (.region false [
  ⟨some 11, .move (.c (.p (.int .i64 0))), none, []⟩] [])
  (.block 0
  (.loop
    (.ghost (.free [3, 5, 7]) (.ghost .lower a14_l0)))))
  (.seq (.region false [
  ⟨some 115, .call false 46 [], none, []⟩,
  ⟨some 4, .move (.t 115), none, []⟩] [115])
  .ret))))))))))))⟩

/-- clockwork/clockworkref41.Few -/
def a21 : AFunc := ⟨24, 1, [.tmp 2],
  (.seq (.region false [
  ⟨some 1, .box (.t 0), none, []⟩,
  ⟨some 2, .move (.c (.p (.bool false))), none, []⟩] [0, 2])
  (.seq (.region false [
  ⟨some 3, .fieldAddr 4 (.t 1), none, []⟩,
  ⟨some 4, .load none (.t 3), none, []⟩,
  ⟨some 5, .call false 35 [.t 4], none, []⟩,
  ⟨some 6, .move (.t 5), none, []⟩,
  ⟨some 7, .fieldAddr 7 (.t 1), some (6, true), []⟩,
  ⟨some 8, .load none (.t 7), some (6, true), []⟩,
  ⟨some 9, .len (.t 8), some (6, true), []⟩,
  ⟨some 10, .bin .leq (.t 9) (.c (.p (.int .i64 20))), some (6, true), []⟩,
  ⟨some 11, .pick (.t 6) (.t 10) (.c (.p (.bool false))), none, []⟩,
  ⟨some 12, .move (.t 11), none, []⟩,
  ⟨some 13, .fieldAddr 8 (.t 1), some (12, true), []⟩,
  ⟨some 14, .load none (.t 13), some (12, true), []⟩,
  ⟨some 15, .len (.t 14), some (12, true), []⟩,
  ⟨some 16, .bin .leq (.t 15) (.c (.p (.int .i64 20))), some (12, true), []⟩,
  ⟨some 17, .pick (.t 12) (.t 16) (.c (.p (.bool false))), none, []⟩,
  ⟨some 18, .move (.t 17), none, []⟩,
  ⟨some 19, .fieldAddr 9 (.t 1), some (18, true), []⟩,
  ⟨some 20, .load none (.t 19), some (18, true), []⟩,
  ⟨some 21, .len (.t 20), some (18, true), []⟩,
  ⟨some 22, .bin .leq (.t 21) (.c (.p (.int .i64 20))), some (18, true), []⟩,
  ⟨some 23, .pick (.t 18) (.t 22) (.c (.p (.bool false))), none, []⟩,
  ⟨some 2, .move (.t 23), none, []⟩] [3, 4, 5, 6, 7, 8, 9, 10, 11, 12, 13, 14, 15, 16, 17, 18, 19, 20, 21, 22, 23])
  .ret))⟩

/-- clockwork/clockworklaw41.lives -/
def a22 : AFunc := ⟨124, 0, [.tmp 0],
  (.seq (.region false [
  ⟨some 0, .move (.c (.p (.bool false))), none, []⟩] [0])
  (.seq (.region false [
  ⟨some 10, .call false 23 [.c (.p (.int .i64 1)), .c (.p (.int .i64 3))], none, []⟩,
  ⟨some 9, .move (.t 10), none, []⟩,
  ⟨some 11, .extract (.t 9) 0, none, []⟩,
  ⟨some 12, .extract (.t 9) 1, none, []⟩,
  ⟨some 1, .alloc [.int .i64 0, .int .i64 0, .int .i64 0, .int .i64 0, .slice true [], .int .i64 0, .int .i64 0, .slice true [], .slice true [], .slice true []], none, []⟩,
  ⟨none, .store 10 (.t 1) (.t 11), none, []⟩,
  ⟨some 2, .move (.t 12), none, []⟩] [9, 10, 11, 12])
  (.seq (.region false [
  ⟨some 14, .call false 23 [.c (.p (.int .i64 2)), .c (.p (.int .i64 3))], none, []⟩,
  ⟨some 13, .move (.t 14), none, []⟩,
  ⟨some 15, .extract (.t 13) 0, none, []⟩,
  ⟨some 16, .extract (.t 13) 1, none, []⟩,
  ⟨some 3, .alloc [.int .i64 0, .int .i64 0, .int .i64 0, .int .i64 0, .slice true [], .int .i64 0, .int .i64 0, .slice true [], .slice true [], .slice true []], none, []⟩,
  ⟨none, .store 10 (.t 3) (.t 15), none, []⟩,
  ⟨some 4, .move (.t 16), none, []⟩] [13, 14, 15, 16])
  (.seq (.region false [
  ⟨some 18, .load (some 10) (.t 1), none, []⟩,
  ⟨some 19, .call false 32 [.t 18], none, []⟩,
  ⟨some 17, .move (.t 19), none, []⟩,
  ⟨some 20, .extract (.t 17) 0, none, []⟩,
  ⟨some 21, .extract (.t 17) 1, none, []⟩,
  ⟨none, .store 10 (.t 1) (.t 20), none, []⟩,
  ⟨some 5, .move (.t 21), none, []⟩] [17, 18, 19, 20, 21])
  (.seq (.seq (.region false [
  ⟨some 22, .move (.t 2), none, []⟩,
  ⟨some 23, .bin .neq (.t 22) (.c (.p (.int .i64 0))), none, []⟩,
  ⟨some 24, .move (.t 23), none, []⟩,
  ⟨some 25, .move (.t 4), some (24, false), []⟩,
  ⟨some 26, .bin .neq (.t 25) (.c (.p (.int .i64 0))), some (24, false), []⟩,
  ⟨some 27, .pick (.t 24) (.c (.p (.bool true))) (.t 26), none, []⟩,
  ⟨some 28, .move (.t 27), none, []⟩,
  ⟨some 29, .move (.t 5), some (28, false), []⟩,
  ⟨some 30, .len (.t 29), some (28, false), []⟩,
  ⟨some 31, .bin .neq (.t 30) (.c (.p (.int .i64 2))), some (28, false), []⟩,
  ⟨some 32, .pick (.t 28) (.c (.p (.bool true))) (.t 31), none, []⟩,
  ⟨some 33, .move (.t 32), none, []⟩,
  ⟨some 34, .move (.t 5), some (33, false), []⟩,
  ⟨some 35, .indexAddr 9 (.t 34) (.c (.p (.int .i64 0))), some (33, false), []⟩,
  ⟨some 36, .fieldAddr 2 (.t 35), some (33, false), []⟩,
  ⟨some 37, .load none (.t 36), some (33, false), []⟩,
  ⟨some 38, .bin .neq (.t 37) (.c (.p (.int .i64 2))), some (33, false), []⟩,
  ⟨some 39, .pick (.t 33) (.c (.p (.bool true))) (.t 38), none, []⟩,
  ⟨some 40, .move (.t 39), none, []⟩,
  ⟨some 41, .move (.t 5), some (40, false), []⟩,
  ⟨some 42, .indexAddr 9 (.t 41) (.c (.p (.int .i64 0))), some (40, false), []⟩,
  ⟨some 43, .fieldAddr 3 (.t 42), some (40, false), []⟩,
  ⟨some 44, .load none (.t 43), some (40, false), []⟩,
  ⟨some 45, .bin .neq (.t 44) (.c (.p (.int .i64 1))), some (40, false), []⟩,
  ⟨some 46, .pick (.t 40) (.c (.p (.bool true))) (.t 45), none, []⟩,
  ⟨some 47, .move (.t 46), none, []⟩,
  ⟨some 48, .fieldAddr 5 (.t 1), some (47, false), []⟩,
  ⟨some 49, .load none (.t 48), some (47, false), []⟩,
  ⟨some 50, .bin .neq (.t 49) (.c (.p (.int .i64 2))), some (47, false), []⟩,
  ⟨some 51, .pick (.t 47) (.c (.p (.bool true))) (.t 50), none, []⟩] [2, 4, 22, 23, 24, 25, 26, 27, 28, 29, 30, 31, 32, 33, 34, 35, 36, 37, 38, 39, 40, 41, 42, 43, 44, 45, 46, 47, 48, 49, 50])
  (.cond (.t 51)
  (.seq (.region false [
    ⟨some 0, .move (.c (.p (.bool false))), none, []⟩] [5, 51])
    .ret)
  .skip))
  (.seq (.region true [
  ⟨some 53, .load (some 10) (.t 3), none, []⟩,
  ⟨some 54, .move (.t 5), none, []⟩,
  ⟨some 55, .indexAddr 9 (.t 54) (.c (.p (.int .i64 0))), none, [1]⟩,
  ⟨some 56, .load (some 9) (.t 55), none, [1, 2]⟩,
  ⟨some 57, .call false 36 [.t 53, .t 56], none, [0, 1, 2, 3]⟩,
  ⟨some 52, .move (.t 57), none, [0, 1, 2, 3, 4]⟩,
  ⟨some 58, .extract (.t 52) 0, none, [0, 1, 2, 3, 4, 5]⟩,
  ⟨some 59, .extract (.t 52) 1, none, [0, 1, 2, 3, 4, 5]⟩,
  ⟨none, .store 10 (.t 3) (.t 58), none, [0, 1, 2, 3, 4, 5, 6]⟩,
  ⟨some 6, .move (.t 59), none, [0, 1, 2, 3, 4, 5, 6, 7, 8]⟩] [5, 51, 52, 53, 54, 55, 56, 57, 58, 59])
  (.seq (.region false [
  ⟨some 61, .load (some 10) (.t 3), none, []⟩,
  ⟨some 62, .build [.int .i64 0, .int .i64 0, .int .i64 0, .int .i64 0, .int .i64 0, .int .i64 0, .int .i64 0, .bool false, .slice true []] [(0, 1, .c (.p (.int .i64 1))), (1, 1, .c (.p (.int .i64 3))), (2, 1, .c (.p (.int .i64 2))), (3, 1, .c (.p (.int .i64 1)))], none, []⟩,
  ⟨some 63, .call false 36 [.t 61, .t 62], none, []⟩,
  ⟨some 60, .move (.t 63), none, []⟩,
  ⟨some 64, .extract (.t 60) 0, none, []⟩,
  ⟨some 65, .extract (.t 60) 1, none, []⟩,
  ⟨some 7, .alloc [.int .i64 0, .int .i64 0, .int .i64 0, .int .i64 0, .slice true [], .int .i64 0, .int .i64 0, .slice true [], .slice true [], .slice true []], none, []⟩,
  ⟨none, .store 10 (.t 7) (.t 64), none, []⟩,
  ⟨some 8, .move (.t 65), none, []⟩] [60, 61, 62, 63, 64, 65])
  (.seq (.seq (.region false [
  ⟨some 66, .move (.t 6), none, []⟩,
  ⟨some 67, .len (.t 66), none, []⟩,
  ⟨some 68, .bin .neq (.t 67) (.c (.p (.int .i64 1))), none, []⟩,
  ⟨some 69, .move (.t 68), none, []⟩,
  ⟨some 70, .move (.t 6), some (69, false), []⟩,
  ⟨some 71, .indexAddr 9 (.t 70) (.c (.p (.int .i64 0))), some (69, false), []⟩,
  ⟨some 72, .fieldAddr 7 (.t 71), some (69, false), []⟩,
  ⟨some 73, .load none (.t 72), some (69, false), []⟩,
  ⟨some 74, .un .not (.t 73), some (69, false), []⟩,
  ⟨some 75, .pick (.t 69) (.c (.p (.bool true))) (.t 74), none, []⟩,
  ⟨some 76, .move (.t 75), none, []⟩,
  ⟨some 77, .fieldAddr 3 (.t 3), some (76, false), []⟩,
  ⟨some 78, .load none (.t 77), some (76, false), []⟩,
  ⟨some 79, .bin .neq (.t 78) (.c (.p (.int .i64 1))), some (76, false), []⟩,
  ⟨some 80, .pick (.t 76) (.c (.p (.bool true))) (.t 79), none, []⟩,
  ⟨some 81, .move (.t 80), none, []⟩,
  ⟨some 82, .move (.t 8), some (81, false), []⟩,
  ⟨some 83, .len (.t 82), some (81, false), []⟩,
  ⟨some 84, .bin .neq (.t 83) (.c (.p (.int .i64 1))), some (81, false), []⟩,
  ⟨some 85, .pick (.t 81) (.c (.p (.bool true))) (.t 84), none, []⟩,
  ⟨some 86, .move (.t 85), none, []⟩,
  ⟨some 87, .move (.t 8), some (86, false), []⟩,
  ⟨some 88, .indexAddr 9 (.t 87) (.c (.p (.int .i64 0))), some (86, false), []⟩,
  ⟨some 89, .fieldAddr 7 (.t 88), some (86, false), []⟩,
  ⟨some 90, .load none (.t 89), some (86, false), []⟩,
  ⟨some 91, .pick (.t 86) (.c (.p (.bool true))) (.t 90), none, []⟩] [8, 66, 67, 68, 69, 70, 71, 72, 73, 74, 75, 76, 77, 78, 79, 80, 81, 82, 83, 84, 85, 86, 87, 88, 89, 90])
  (.cond (.t 91)
  (.seq (.region false [
    ⟨some 0, .move (.c (.p (.bool false))), none, []⟩] [6, 91])
    .ret)
  .skip))
  (.seq (.region true [
  ⟨some 93, .load (some 10) (.t 1), none, []⟩,
  ⟨some 94, .move (.t 6), none, []⟩,
  ⟨some 95, .indexAddr 9 (.t 94) (.c (.p (.int .i64 0))), none, [1]⟩,
  ⟨some 96, .load (some 9) (.t 95), none, [1, 2]⟩,
  ⟨some 97, .call false 41 [.t 93, .t 96], none, [0, 1, 2, 3]⟩,
  ⟨some 92, .move (.t 97), none, [0, 1, 2, 3, 4]⟩,
  ⟨some 98, .extract (.t 92) 0, none, [0, 1, 2, 3, 4, 5]⟩,
  ⟨some 99, .extract (.t 92) 1, none, [0, 1, 2, 3, 4, 5]⟩,
  ⟨none, .store 10 (.t 1) (.t 98), none, [0, 1, 2, 3, 4, 5, 6]⟩] [6, 91, 92, 93, 94, 95, 96, 97, 98, 99])
  (.seq (.region false [
  ⟨some 100, .fieldAddr 5 (.t 1), none, []⟩,
  ⟨some 101, .load none (.t 100), none, []⟩,
  ⟨some 102, .bin .eql (.t 101) (.c (.p (.int .i64 3))), none, []⟩,
  ⟨some 103, .move (.t 102), none, []⟩,
  ⟨some 104, .fieldAddr 8 (.t 1), some (103, true), []⟩,
  ⟨some 105, .load none (.t 104), some (103, true), []⟩,
  ⟨some 106, .len (.t 105), some (103, true), []⟩,
  ⟨some 107, .bin .eql (.t 106) (.c (.p (.int .i64 3))), some (103, true), []⟩,
  ⟨some 108, .pick (.t 103) (.t 107) (.c (.p (.bool false))), none, []⟩,
  ⟨some 109, .move (.t 108), none, []⟩,
  ⟨some 110, .fieldAddr 8 (.t 1), some (109, true), []⟩,
  ⟨some 111, .load none (.t 110), some (109, true), []⟩,
  ⟨some 112, .indexAddr 1 (.t 111) (.c (.p (.int .i64 1))), some (109, true), []⟩,
  ⟨some 113, .load none (.t 112), some (109, true), []⟩,
  ⟨some 114, .bin .eql (.t 113) (.c (.p (.int .i64 0))), some (109, true), []⟩,
  ⟨some 115, .pick (.t 109) (.t 114) (.c (.p (.bool false))), none, []⟩,
  ⟨some 116, .move (.t 115), none, []⟩,
  ⟨some 117, .call false 25 [.c (.p (.int .i64 4))], some (116, true), []⟩,
  ⟨some 118, .bin .eql (.t 117) (.c (.p (.int .i64 3))), some (116, true), []⟩,
  ⟨some 119, .pick (.t 116) (.t 118) (.c (.p (.bool false))), none, []⟩,
  ⟨some 120, .move (.t 119), none, []⟩,
  ⟨some 121, .call false 25 [.c (.p (.int .i64 7))], some (120, true), []⟩,
  ⟨some 122, .bin .eql (.t 121) (.c (.p (.int .i64 4))), some (120, true), []⟩,
  ⟨some 123, .pick (.t 120) (.t 122) (.c (.p (.bool false))), none, []⟩,
  ⟨some 0, .move (.t 123), none, []⟩] [100, 101, 102, 103, 104, 105, 106, 107, 108, 109, 110, 111, 112, 113, 114, 115, 116, 117, 118, 119, 120, 121, 122, 123])
  .ret))))))))))⟩

/-- clockwork/election.New -/
def a23 : AFunc := ⟨25, 2, [.cell 4 10, .tmp 5],
  (.seq (.region false [
  ⟨some 4, .alloc [.int .i64 0, .int .i64 0, .int .i64 0, .int .i64 0, .slice true [], .int .i64 0, .int .i64 0, .slice true [], .slice true [], .slice true []], none, []⟩,
  ⟨some 5, .move (.c (.p (.int .i64 0))), none, []⟩] [5])
  (.seq (.seq (.region false [
  ⟨some 6, .move (.t 1), none, []⟩,
  ⟨some 7, .bin .lss (.t 6) (.c (.p (.int .i64 1))), none, []⟩,
  ⟨some 8, .move (.t 7), none, []⟩,
  ⟨some 9, .move (.t 1), some (8, false), []⟩,
  ⟨some 10, .bin .gtr (.t 9) (.c (.p (.int .i64 7))), some (8, false), []⟩,
  ⟨some 11, .pick (.t 8) (.c (.p (.bool true))) (.t 10), none, []⟩,
  ⟨some 12, .move (.t 11), none, []⟩,
  ⟨some 13, .move (.t 0), some (12, false), []⟩,
  ⟨some 14, .bin .lss (.t 13) (.c (.p (.int .i64 1))), some (12, false), []⟩,
  ⟨some 15, .pick (.t 12) (.c (.p (.bool true))) (.t 14), none, []⟩,
  ⟨some 16, .move (.t 15), none, []⟩,
  ⟨some 17, .move (.t 0), some (16, false), []⟩,
  ⟨some 18, .move (.t 1), some (16, false), []⟩,
  ⟨some 19, .bin .gtr (.t 17) (.t 18), some (16, false), []⟩,
  ⟨some 20, .pick (.t 16) (.c (.p (.bool true))) (.t 19), none, []⟩] [6, 7, 8, 9, 10, 11, 12, 13, 14, 15, 16, 17, 18, 19])
  (.cond (.t 20)
  (.seq (.region false [
    ⟨some 21, .build [.int .i64 0, .int .i64 0, .int .i64 0, .int .i64 0, .slice true [], .int .i64 0, .int .i64 0, .slice true [], .slice true [], .slice true []] [], none, []⟩,
    ⟨none, .store 10 (.t 4) (.t 21), none, []⟩,
    ⟨some 5, .move (.c (.p (.int .i64 1))), none, []⟩] [0, 1, 20, 21])
    .ret)
  .skip))
  (.seq (.region false [
  ⟨some 22, .move (.t 0), none, []⟩,
  ⟨some 23, .move (.t 1), none, []⟩,
  ⟨some 24, .build [.int .i64 0, .int .i64 0, .int .i64 0, .int .i64 0, .slice true [], .int .i64 0, .int .i64 0, .slice true [], .slice true [], .slice true []] [(0, 1, .t 22), (1, 1, .t 23), (5, 1, .c (.p (.int .i64 1)))], none, []⟩,
  ⟨none, .store 10 (.t 4) (.t 24), none, []⟩,
  ⟨some 5, .move (.c (.p (.int .i64 0))), none, []⟩] [0, 1, 20, 22, 23, 24])
  .ret)))⟩

/-- clockwork/election.Majority -/
def a25 : AFunc := ⟨8, 1, [.tmp 2],
  (.seq (.region false [
  ⟨some 2, .move (.c (.p (.int .i64 0))), none, []⟩] [2])
  (.seq (.seq (.region false [
  ⟨some 3, .move (.t 0), none, []⟩,
  ⟨some 4, .bin .lss (.t 3) (.c (.p (.int .i64 0))), none, []⟩] [3])
  (.cond (.t 4)
  (.seq (.region false [
    ⟨some 2, .move (.c (.p (.int .i64 1))), none, []⟩] [0, 4])
    .ret)
  .skip))
  (.seq (.region false [
  ⟨some 5, .move (.t 0), none, []⟩,
  ⟨some 6, .bin .quo (.t 5) (.c (.p (.int .i64 2))), none, []⟩,
  ⟨some 7, .bin .add (.t 6) (.c (.p (.int .i64 1))), none, []⟩,
  ⟨some 2, .move (.t 7), none, []⟩] [0, 4, 5, 6, 7])
  .ret)))⟩

/-- clockwork/clockworkref41.Majority -/
def a26 : AFunc := ⟨7, 1, [.tmp 2],
  (.seq (.region false [
  ⟨some 2, .move (.c (.p (.int .i64 0))), none, []⟩] [2])
  (.seq (.region false [
  ⟨some 3, .move (.t 0), none, []⟩,
  ⟨some 4, .minmax true (.t 3) [.c (.p (.int .i64 0))], none, []⟩,
  ⟨some 5, .bin .quo (.t 4) (.c (.p (.int .i64 2))), none, []⟩,
  ⟨some 6, .bin .add (.t 5) (.c (.p (.int .i64 1))), none, []⟩,
  ⟨some 2, .move (.t 6), none, []⟩] [0, 3, 4, 5, 6])
  .ret))⟩

/-- clockwork/election.Valid -/
def a28 : AFunc := ⟨127, 1, [.tmp 2],
  (.seq (.region false [
  ⟨some 1, .box (.t 0), none, []⟩,
  ⟨some 2, .move (.c (.p (.bool false))), none, []⟩] [0, 2])
  (.seq (.seq (.region false [
  ⟨some 4, .fieldAddr 1 (.t 1), none, []⟩,
  ⟨some 5, .load none (.t 4), none, []⟩,
  ⟨some 6, .bin .lss (.t 5) (.c (.p (.int .i64 1))), none, []⟩,
  ⟨some 7, .move (.t 6), none, []⟩,
  ⟨some 8, .fieldAddr 1 (.t 1), some (7, false), []⟩,
  ⟨some 9, .load none (.t 8), some (7, false), []⟩,
  ⟨some 10, .bin .gtr (.t 9) (.c (.p (.int .i64 7))), some (7, false), []⟩,
  ⟨some 11, .pick (.t 7) (.c (.p (.bool true))) (.t 10), none, []⟩,
  ⟨some 12, .move (.t 11), none, []⟩,
  ⟨some 13, .fieldAddr 0 (.t 1), some (12, false), []⟩,
  ⟨some 14, .load none (.t 13), some (12, false), []⟩,
  ⟨some 15, .bin .lss (.t 14) (.c (.p (.int .i64 1))), some (12, false), []⟩,
  ⟨some 16, .pick (.t 12) (.c (.p (.bool true))) (.t 15), none, []⟩,
  ⟨some 17, .move (.t 16), none, []⟩,
  ⟨some 18, .fieldAddr 0 (.t 1), some (17, false), []⟩,
  ⟨some 19, .load none (.t 18), some (17, false), []⟩,
  ⟨some 20, .fieldAddr 1 (.t 1), some (17, false), []⟩,
  ⟨some 21, .load none (.t 20), some (17, false), []⟩,
  ⟨some 22, .bin .gtr (.t 19) (.t 21), some (17, false), []⟩,
  ⟨some 23, .pick (.t 17) (.c (.p (.bool true))) (.t 22), none, []⟩,
  ⟨some 24, .move (.t 23), none, []⟩,
  ⟨some 25, .fieldAddr 2 (.t 1), some (24, false), []⟩,
  ⟨some 26, .load none (.t 25), some (24, false), []⟩,
  ⟨some 27, .bin .lss (.t 26) (.c (.p (.int .i64 0))), some (24, false), []⟩,
  ⟨some 28, .pick (.t 24) (.c (.p (.bool true))) (.t 27), none, []⟩,
  ⟨some 29, .move (.t 28), none, []⟩,
  ⟨some 30, .fieldAddr 2 (.t 1), some (29, false), []⟩,
  ⟨some 31, .load none (.t 30), some (29, false), []⟩,
  ⟨some 32, .bin .gtr (.t 31) (.c (.p (.int .i64 1099511627776))), some (29, false), []⟩,
  ⟨some 33, .pick (.t 29) (.c (.p (.bool true))) (.t 32), none, []⟩,
  ⟨some 34, .move (.t 33), none, []⟩,
  ⟨some 35, .fieldAddr 3 (.t 1), some (34, false), []⟩,
  ⟨some 36, .load none (.t 35), some (34, false), []⟩,
  ⟨some 37, .bin .lss (.t 36) (.c (.p (.int .i64 0))), some (34, false), []⟩,
  ⟨some 38, .pick (.t 34) (.c (.p (.bool true))) (.t 37), none, []⟩,
  ⟨some 39, .move (.t 38), none, []⟩,
  ⟨some 40, .fieldAddr 3 (.t 1), some (39, false), []⟩,
  ⟨some 41, .load none (.t 40), some (39, false), []⟩,
  ⟨some 42, .fieldAddr 1 (.t 1), some (39, false), []⟩,
  ⟨some 43, .load none (.t 42), some (39, false), []⟩,
  ⟨some 44, .bin .gtr (.t 41) (.t 43), some (39, false), []⟩,
  ⟨some 45, .pick (.t 39) (.c (.p (.bool true))) (.t 44), none, []⟩] [4, 5, 6, 7, 8, 9, 10, 11, 12, 13, 14, 15, 16, 17, 18, 19, 20, 21, 22, 23, 24, 25, 26, 27, 28, 29, 30, 31, 32, 33, 34, 35, 36, 37, 38, 39, 40, 41, 42, 43, 44])
  (.cond (.t 45)
  (.seq (.region false [
    ⟨some 2, .move (.c (.p (.bool false))), none, []⟩] [45])
    .ret)
  .skip))
  (.seq (.seq (.region false [
  ⟨some 46, .fieldAddr 4 (.t 1), none, []⟩,
  ⟨some 47, .load none (.t 46), none, []⟩,
  ⟨some 48, .call false 75 [.t 47], none, []⟩,
  ⟨some 49, .un .not (.t 48), none, []⟩,
  ⟨some 50, .move (.t 49), none, []⟩,
  ⟨some 51, .fieldAddr 6 (.t 1), some (50, false), []⟩,
  ⟨some 52, .load none (.t 51), some (50, false), []⟩,
  ⟨some 53, .bin .lss (.t 52) (.c (.p (.int .i64 0))), some (50, false), []⟩,
  ⟨some 54, .pick (.t 50) (.c (.p (.bool true))) (.t 53), none, []⟩,
  ⟨some 55, .move (.t 54), none, []⟩,
  ⟨some 56, .fieldAddr 6 (.t 1), some (55, false), []⟩,
  ⟨some 57, .load none (.t 56), some (55, false), []⟩,
  ⟨some 58, .fieldAddr 4 (.t 1), some (55, false), []⟩,
  ⟨some 59, .load none (.t 58), some (55, false), []⟩,
  ⟨some 60, .len (.t 59), some (55, false), []⟩,
  ⟨some 61, .bin .gtr (.t 57) (.t 60), some (55, false), []⟩,
  ⟨some 62, .pick (.t 55) (.c (.p (.bool true))) (.t 61), none, []⟩] [45, 46, 47, 48, 49, 50, 51, 52, 53, 54, 55, 56, 57, 58, 59, 60, 61])
  (.cond (.t 62)
  (.seq (.region false [
    ⟨some 2, .move (.c (.p (.bool false))), none, []⟩] [62])
    .ret)
  .skip))
  (.seq (.region false [
  ⟨some 63, .fieldAddr 2 (.t 1), none, []⟩,
  ⟨some 64, .load none (.t 63), none, []⟩,
  ⟨some 65, .bin .geq (.t 64) (.c (.p (.int .i64 1))), none, []⟩,
  ⟨some 66, .move (.t 65), none, []⟩,
  ⟨some 67, .fieldAddr 3 (.t 1), some (66, true), []⟩,
  ⟨some 68, .load none (.t 67), some (66, true), []⟩,
  ⟨some 69, .fieldAddr 0 (.t 1), some (66, true), []⟩,
  ⟨some 70, .load none (.t 69), some (66, true), []⟩,
  ⟨some 71, .bin .eql (.t 68) (.t 70), some (66, true), []⟩,
  ⟨some 72, .pick (.t 66) (.t 71) (.c (.p (.bool false))), none, []⟩,
  ⟨some 3, .move (.t 72), none, []⟩] [62, 63, 64, 65, 66, 67, 68, 69, 70, 71, 72])
  (.seq (.seq (.region false [
  ⟨some 73, .fieldAddr 5 (.t 1), none, []⟩,
  ⟨some 74, .load none (.t 73), none, []⟩] [73])
  (.block 0
  (.seq (.region false [
    ⟨some 76, .bin .eql (.t 74) (.c (.p (.int .i64 1))), none, []⟩,
    ⟨some 75, .move (.t 76), none, []⟩] [76])
    (.cond (.t 75)
    (.seq (.region false [
      ⟨some 77, .fieldAddr 7 (.t 1), none, []⟩,
      ⟨some 78, .load none (.t 77), none, []⟩,
      ⟨some 79, .len (.t 78), none, []⟩,
      ⟨some 80, .bin .eql (.t 79) (.c (.p (.int .i64 0))), none, []⟩,
      ⟨some 81, .move (.t 80), none, []⟩,
      ⟨some 82, .fieldAddr 8 (.t 1), some (81, true), []⟩,
      ⟨some 83, .load none (.t 82), some (81, true), []⟩,
      ⟨some 84, .len (.t 83), some (81, true), []⟩,
      ⟨some 85, .bin .eql (.t 84) (.c (.p (.int .i64 0))), some (81, true), []⟩,
      ⟨some 86, .pick (.t 81) (.t 85) (.c (.p (.bool false))), none, []⟩,
      ⟨some 87, .move (.t 86), none, []⟩,
      ⟨some 88, .fieldAddr 9 (.t 1), some (87, true), []⟩,
      ⟨some 89, .load none (.t 88), some (87, true), []⟩,
      ⟨some 90, .len (.t 89), some (87, true), []⟩,
      ⟨some 91, .bin .eql (.t 90) (.c (.p (.int .i64 0))), some (87, true), []⟩,
      ⟨some 92, .pick (.t 87) (.t 91) (.c (.p (.bool false))), none, []⟩,
      ⟨some 2, .move (.t 92), none, []⟩] [3, 74, 75, 77, 78, 79, 80, 81, 82, 83, 84, 85, 86, 87, 88, 89, 90, 91, 92])
      .ret)
    (.seq (.region false [
      ⟨some 94, .bin .eql (.t 74) (.c (.p (.int .i64 2))), none, []⟩,
      ⟨some 93, .move (.t 94), none, []⟩] [75, 94])
      (.cond (.t 93)
      (.seq (.region false [
        ⟨some 95, .move (.t 3), none, []⟩,
        ⟨some 96, .move (.t 95), none, []⟩,
        ⟨some 97, .fieldAddr 8 (.t 1), some (96, true), []⟩,
        ⟨some 98, .load none (.t 97), some (96, true), []⟩,
        ⟨some 99, .len (.t 98), some (96, true), []⟩,
        ⟨some 100, .bin .eql (.t 99) (.c (.p (.int .i64 0))), some (96, true), []⟩,
        ⟨some 101, .pick (.t 96) (.t 100) (.c (.p (.bool false))), none, []⟩,
        ⟨some 102, .move (.t 101), none, []⟩,
        ⟨some 103, .fieldAddr 9 (.t 1), some (102, true), []⟩,
        ⟨some 104, .load none (.t 103), some (102, true), []⟩,
        ⟨some 105, .len (.t 104), some (102, true), []⟩,
        ⟨some 106, .bin .eql (.t 105) (.c (.p (.int .i64 0))), some (102, true), []⟩,
        ⟨some 107, .pick (.t 102) (.t 106) (.c (.p (.bool false))), none, []⟩,
        ⟨some 108, .move (.t 107), none, []⟩,
        ⟨some 109, .load (some 10) (.t 1), some (108, true), []⟩,
        ⟨some 110, .build [.int .i64 0, .int .i64 0, .int .i64 0, .int .i64 0, .slice true [], .int .i64 0, .int .i64 0, .slice true [], .slice true [], .slice true []] [(0, 10, .t 109)], some (108, true), []⟩,
        ⟨some 111, .call false 76 [.t 110], some (108, true), []⟩,
        ⟨some 112, .pick (.t 108) (.t 111) (.c (.p (.bool false))), none, []⟩,
        ⟨some 2, .move (.t 112), none, []⟩] [3, 74, 93, 95, 96, 97, 98, 99, 100, 101, 102, 103, 104, 105, 106, 107, 108, 109, 110, 111, 112])
        .ret)
      (.seq (.region false [
        ⟨some 114, .bin .eql (.t 74) (.c (.p (.int .i64 3))), none, []⟩,
        ⟨some 113, .move (.t 114), none, []⟩] [74, 93, 114])
        (.cond (.t 113)
        (.seq (.region false [
          ⟨some 115, .move (.t 3), none, []⟩,
          ⟨some 116, .move (.t 115), none, []⟩,
          ⟨some 117, .fieldAddr 7 (.t 1), some (116, true), []⟩,
          ⟨some 118, .load none (.t 117), some (116, true), []⟩,
          ⟨some 119, .len (.t 118), some (116, true), []⟩,
          ⟨some 120, .bin .eql (.t 119) (.c (.p (.int .i64 0))), some (116, true), []⟩,
          ⟨some 121, .pick (.t 116) (.t 120) (.c (.p (.bool false))), none, []⟩,
          ⟨some 122, .move (.t 121), none, []⟩,
          ⟨some 123, .load (some 10) (.t 1), some (122, true), []⟩,
          ⟨some 124, .build [.int .i64 0, .int .i64 0, .int .i64 0, .int .i64 0, .slice true [], .int .i64 0, .int .i64 0, .slice true [], .slice true [], .slice true []] [(0, 10, .t 123)], some (122, true), []⟩,
          ⟨some 125, .call false 77 [.t 124], some (122, true), []⟩,
          ⟨some 126, .pick (.t 122) (.t 125) (.c (.p (.bool false))), none, []⟩,
          ⟨some 2, .move (.t 126), none, []⟩] [3, 113, 115, 116, 117, 118, 119, 120, 121, 122, 123, 124, 125, 126])
          .ret)
        .skip))))))))
  (.seq (.region false [
  ⟨some 2, .move (.c (.p (.bool false))), none, []⟩] [3, 113])
  .ret))))))⟩

/-- clockwork/clockworkref41.Valid -/
def a29 : AFunc := ⟨132, 1, [.tmp 2],
  (.seq (.region false [
  ⟨some 1, .box (.t 0), none, []⟩,
  ⟨some 2, .move (.c (.p (.bool false))), none, []⟩] [0, 2])
  (.seq (.seq (.region false [
  ⟨some 3, .fieldAddr 1 (.t 1), none, []⟩,
  ⟨some 4, .load none (.t 3), none, []⟩,
  ⟨some 5, .bin .lss (.t 4) (.c (.p (.int .i64 1))), none, []⟩,
  ⟨some 6, .move (.t 5), none, []⟩,
  ⟨some 7, .fieldAddr 1 (.t 1), some (6, false), []⟩,
  ⟨some 8, .load none (.t 7), some (6, false), []⟩,
  ⟨some 9, .bin .gtr (.t 8) (.c (.p (.int .i64 7))), some (6, false), []⟩,
  ⟨some 10, .pick (.t 6) (.c (.p (.bool true))) (.t 9), none, []⟩,
  ⟨some 11, .move (.t 10), none, []⟩,
  ⟨some 12, .fieldAddr 0 (.t 1), some (11, false), []⟩,
  ⟨some 13, .load none (.t 12), some (11, false), []⟩,
  ⟨some 14, .bin .lss (.t 13) (.c (.p (.int .i64 1))), some (11, false), []⟩,
  ⟨some 15, .pick (.t 11) (.c (.p (.bool true))) (.t 14), none, []⟩,
  ⟨some 16, .move (.t 15), none, []⟩,
  ⟨some 17, .fieldAddr 0 (.t 1), some (16, false), []⟩,
  ⟨some 18, .load none (.t 17), some (16, false), []⟩,
  ⟨some 19, .fieldAddr 1 (.t 1), some (16, false), []⟩,
  ⟨some 20, .load none (.t 19), some (16, false), []⟩,
  ⟨some 21, .bin .gtr (.t 18) (.t 20), some (16, false), []⟩,
  ⟨some 22, .pick (.t 16) (.c (.p (.bool true))) (.t 21), none, []⟩,
  ⟨some 23, .move (.t 22), none, []⟩,
  ⟨some 24, .fieldAddr 2 (.t 1), some (23, false), []⟩,
  ⟨some 25, .load none (.t 24), some (23, false), []⟩,
  ⟨some 26, .bin .lss (.t 25) (.c (.p (.int .i64 0))), some (23, false), []⟩,
  ⟨some 27, .pick (.t 23) (.c (.p (.bool true))) (.t 26), none, []⟩,
  ⟨some 28, .move (.t 27), none, []⟩,
  ⟨some 29, .fieldAddr 2 (.t 1), some (28, false), []⟩,
  ⟨some 30, .load none (.t 29), some (28, false), []⟩,
  ⟨some 31, .bin .gtr (.t 30) (.c (.p (.int .i64 1099511627776))), some (28, false), []⟩,
  ⟨some 32, .pick (.t 28) (.c (.p (.bool true))) (.t 31), none, []⟩,
  ⟨some 33, .move (.t 32), none, []⟩,
  ⟨some 34, .fieldAddr 3 (.t 1), some (33, false), []⟩,
  ⟨some 35, .load none (.t 34), some (33, false), []⟩,
  ⟨some 36, .bin .lss (.t 35) (.c (.p (.int .i64 0))), some (33, false), []⟩,
  ⟨some 37, .pick (.t 33) (.c (.p (.bool true))) (.t 36), none, []⟩,
  ⟨some 38, .move (.t 37), none, []⟩,
  ⟨some 39, .fieldAddr 3 (.t 1), some (38, false), []⟩,
  ⟨some 40, .load none (.t 39), some (38, false), []⟩,
  ⟨some 41, .fieldAddr 1 (.t 1), some (38, false), []⟩,
  ⟨some 42, .load none (.t 41), some (38, false), []⟩,
  ⟨some 43, .bin .gtr (.t 40) (.t 42), some (38, false), []⟩,
  ⟨some 44, .pick (.t 38) (.c (.p (.bool true))) (.t 43), none, []⟩] [3, 4, 5, 6, 7, 8, 9, 10, 11, 12, 13, 14, 15, 16, 17, 18, 19, 20, 21, 22, 23, 24, 25, 26, 27, 28, 29, 30, 31, 32, 33, 34, 35, 36, 37, 38, 39, 40, 41, 42, 43])
  (.cond (.t 44)
  (.seq (.region false [
    ⟨some 2, .move (.c (.p (.bool false))), none, []⟩] [44])
    .ret)
  .skip))
  (.seq (.seq (.region false [
  ⟨some 45, .fieldAddr 4 (.t 1), none, []⟩,
  ⟨some 46, .load none (.t 45), none, []⟩,
  ⟨some 47, .call false 78 [.t 46], none, []⟩,
  ⟨some 48, .un .not (.t 47), none, []⟩,
  ⟨some 49, .move (.t 48), none, []⟩,
  ⟨some 50, .fieldAddr 6 (.t 1), some (49, false), []⟩,
  ⟨some 51, .load none (.t 50), some (49, false), []⟩,
  ⟨some 52, .bin .lss (.t 51) (.c (.p (.int .i64 0))), some (49, false), []⟩,
  ⟨some 53, .pick (.t 49) (.c (.p (.bool true))) (.t 52), none, []⟩,
  ⟨some 54, .move (.t 53), none, []⟩,
  ⟨some 55, .fieldAddr 6 (.t 1), some (54, false), []⟩,
  ⟨some 56, .load none (.t 55), some (54, false), []⟩,
  ⟨some 57, .fieldAddr 4 (.t 1), some (54, false), []⟩,
  ⟨some 58, .load none (.t 57), some (54, false), []⟩,
  ⟨some 59, .len (.t 58), some (54, false), []⟩,
  ⟨some 60, .bin .gtr (.t 56) (.t 59), some (54, false), []⟩,
  ⟨some 61, .pick (.t 54) (.c (.p (.bool true))) (.t 60), none, []⟩] [44, 45, 46, 47, 48, 49, 50, 51, 52, 53, 54, 55, 56, 57, 58, 59, 60])
  (.cond (.t 61)
  (.seq (.region false [
    ⟨some 2, .move (.c (.p (.bool false))), none, []⟩] [61])
    .ret)
  .skip))
  (.seq (.seq (.region false [
  ⟨some 62, .fieldAddr 5 (.t 1), none, []⟩,
  ⟨some 63, .load none (.t 62), none, []⟩] [61, 62])
  (.block 0
  (.seq (.region false [
    ⟨some 65, .bin .eql (.t 63) (.c (.p (.int .i64 1))), none, []⟩,
    ⟨some 64, .move (.t 65), none, []⟩] [65])
    (.cond (.t 64)
    (.seq (.region false [
      ⟨some 66, .fieldAddr 7 (.t 1), none, []⟩,
      ⟨some 67, .load none (.t 66), none, []⟩,
      ⟨some 68, .len (.t 67), none, []⟩,
      ⟨some 69, .bin .eql (.t 68) (.c (.p (.int .i64 0))), none, []⟩,
      ⟨some 70, .move (.t 69), none, []⟩,
      ⟨some 71, .fieldAddr 8 (.t 1), some (70, true), []⟩,
      ⟨some 72, .load none (.t 71), some (70, true), []⟩,
      ⟨some 73, .len (.t 72), some (70, true), []⟩,
      ⟨some 74, .bin .eql (.t 73) (.c (.p (.int .i64 0))), some (70, true), []⟩,
      ⟨some 75, .pick (.t 70) (.t 74) (.c (.p (.bool false))), none, []⟩,
      ⟨some 76, .move (.t 75), none, []⟩,
      ⟨some 77, .fieldAddr 9 (.t 1), some (76, true), []⟩,
      ⟨some 78, .load none (.t 77), some (76, true), []⟩,
      ⟨some 79, .len (.t 78), some (76, true), []⟩,
      ⟨some 80, .bin .eql (.t 79) (.c (.p (.int .i64 0))), some (76, true), []⟩,
      ⟨some 81, .pick (.t 76) (.t 80) (.c (.p (.bool false))), none, []⟩,
      ⟨some 2, .move (.t 81), none, []⟩] [63, 64, 66, 67, 68, 69, 70, 71, 72, 73, 74, 75, 76, 77, 78, 79, 80, 81])
      .ret)
    (.seq (.region false [
      ⟨some 83, .bin .eql (.t 63) (.c (.p (.int .i64 2))), none, []⟩,
      ⟨some 82, .move (.t 83), none, []⟩] [64, 83])
      (.cond (.t 82)
      (.seq (.region false [
        ⟨some 84, .fieldAddr 2 (.t 1), none, []⟩,
        ⟨some 85, .load none (.t 84), none, []⟩,
        ⟨some 86, .bin .geq (.t 85) (.c (.p (.int .i64 1))), none, []⟩,
        ⟨some 87, .move (.t 86), none, []⟩,
        ⟨some 88, .fieldAddr 3 (.t 1), some (87, true), []⟩,
        ⟨some 89, .load none (.t 88), some (87, true), []⟩,
        ⟨some 90, .fieldAddr 0 (.t 1), some (87, true), []⟩,
        ⟨some 91, .load none (.t 90), some (87, true), []⟩,
        ⟨some 92, .bin .eql (.t 89) (.t 91), some (87, true), []⟩,
        ⟨some 93, .pick (.t 87) (.t 92) (.c (.p (.bool false))), none, []⟩,
        ⟨some 94, .move (.t 93), none, []⟩,
        ⟨some 95, .load (some 10) (.t 1), some (94, true), []⟩,
        ⟨some 96, .call false 79 [.t 95], some (94, true), []⟩,
        ⟨some 97, .pick (.t 94) (.t 96) (.c (.p (.bool false))), none, []⟩,
        ⟨some 98, .move (.t 97), none, []⟩,
        ⟨some 99, .fieldAddr 8 (.t 1), some (98, true), []⟩,
        ⟨some 100, .load none (.t 99), some (98, true), []⟩,
        ⟨some 101, .len (.t 100), some (98, true), []⟩,
        ⟨some 102, .bin .eql (.t 101) (.c (.p (.int .i64 0))), some (98, true), []⟩,
        ⟨some 103, .pick (.t 98) (.t 102) (.c (.p (.bool false))), none, []⟩,
        ⟨some 104, .move (.t 103), none, []⟩,
        ⟨some 105, .fieldAddr 9 (.t 1), some (104, true), []⟩,
        ⟨some 106, .load none (.t 105), some (104, true), []⟩,
        ⟨some 107, .len (.t 106), some (104, true), []⟩,
        ⟨some 108, .bin .eql (.t 107) (.c (.p (.int .i64 0))), some (104, true), []⟩,
        ⟨some 109, .pick (.t 104) (.t 108) (.c (.p (.bool false))), none, []⟩,
        ⟨some 2, .move (.t 109), none, []⟩] [63, 82, 84, 85, 86, 87, 88, 89, 90, 91, 92, 93, 94, 95, 96, 97, 98, 99, 100, 101, 102, 103, 104, 105, 106, 107, 108, 109])
        .ret)
      (.seq (.region false [
        ⟨some 111, .bin .eql (.t 63) (.c (.p (.int .i64 3))), none, []⟩,
        ⟨some 110, .move (.t 111), none, []⟩] [63, 82, 111])
        (.cond (.t 110)
        (.seq (.region false [
          ⟨some 112, .fieldAddr 2 (.t 1), none, []⟩,
          ⟨some 113, .load none (.t 112), none, []⟩,
          ⟨some 114, .bin .geq (.t 113) (.c (.p (.int .i64 1))), none, []⟩,
          ⟨some 115, .move (.t 114), none, []⟩,
          ⟨some 116, .fieldAddr 3 (.t 1), some (115, true), []⟩,
          ⟨some 117, .load none (.t 116), some (115, true), []⟩,
          ⟨some 118, .fieldAddr 0 (.t 1), some (115, true), []⟩,
          ⟨some 119, .load none (.t 118), some (115, true), []⟩,
          ⟨some 120, .bin .eql (.t 117) (.t 119), some (115, true), []⟩,
          ⟨some 121, .pick (.t 115) (.t 120) (.c (.p (.bool false))), none, []⟩,
          ⟨some 122, .move (.t 121), none, []⟩,
          ⟨some 123, .fieldAddr 7 (.t 1), some (122, true), []⟩,
          ⟨some 124, .load none (.t 123), some (122, true), []⟩,
          ⟨some 125, .len (.t 124), some (122, true), []⟩,
          ⟨some 126, .bin .eql (.t 125) (.c (.p (.int .i64 0))), some (122, true), []⟩,
          ⟨some 127, .pick (.t 122) (.t 126) (.c (.p (.bool false))), none, []⟩,
          ⟨some 128, .move (.t 127), none, []⟩,
          ⟨some 129, .load (some 10) (.t 1), some (128, true), []⟩,
          ⟨some 130, .call false 80 [.t 129], some (128, true), []⟩,
          ⟨some 131, .pick (.t 128) (.t 130) (.c (.p (.bool false))), none, []⟩,
          ⟨some 2, .move (.t 131), none, []⟩] [110, 112, 113, 114, 115, 116, 117, 118, 119, 120, 121, 122, 123, 124, 125, 126, 127, 128, 129, 130, 131])
          .ret)
        .skip))))))))
  (.seq (.region false [
  ⟨some 2, .move (.c (.p (.bool false))), none, []⟩] [110])
  .ret)))))⟩

/-- clockwork/election.UpToDate -/
def a30 : AFunc := ⟨26, 3, [.tmp 6],
  (.seq (.region false [
  ⟨some 3, .box (.t 0), none, []⟩,
  ⟨some 6, .move (.c (.p (.bool false))), none, []⟩] [0, 6])
  (.seq (.region false [
  ⟨some 8, .fieldAddr 4 (.t 3), none, []⟩,
  ⟨some 9, .load none (.t 8), none, []⟩,
  ⟨some 10, .call false 81 [.t 9], none, []⟩,
  ⟨some 7, .move (.t 10), none, []⟩] [8, 9, 10])
  (.seq (.region false [
  ⟨some 11, .move (.t 2), none, []⟩,
  ⟨some 12, .move (.t 7), none, []⟩,
  ⟨some 13, .bin .gtr (.t 11) (.t 12), none, []⟩,
  ⟨some 14, .move (.t 13), none, []⟩,
  ⟨some 15, .move (.t 2), some (14, false), []⟩,
  ⟨some 16, .move (.t 7), some (14, false), []⟩,
  ⟨some 17, .bin .eql (.t 15) (.t 16), some (14, false), []⟩,
  ⟨some 18, .move (.t 17), some (14, false), []⟩,
  ⟨some 19, .move (.t 1), some (18, true), []⟩,
  ⟨some 20, .fieldAddr 4 (.t 3), some (18, true), []⟩,
  ⟨some 21, .load none (.t 20), some (18, true), []⟩,
  ⟨some 22, .len (.t 21), some (18, true), []⟩,
  ⟨some 23, .bin .geq (.t 19) (.t 22), some (18, true), []⟩,
  ⟨some 24, .pick (.t 18) (.t 23) (.c (.p (.bool false))), some (14, false), []⟩,
  ⟨some 25, .pick (.t 14) (.c (.p (.bool true))) (.t 24), none, []⟩,
  ⟨some 6, .move (.t 25), none, []⟩] [1, 2, 7, 11, 12, 13, 14, 15, 16, 17, 18, 19, 20, 21, 22, 23, 24, 25])
  .ret)))⟩

/-- clockwork/election.Timeout -/
@[irreducible] def a32_l0 : ACode :=
  (.seq (.seq (.region false [
  ⟨some 45, .move (.t 6), none, []⟩,
  ⟨some 46, .fieldAddr 0 (.t 4), none, []⟩,
  ⟨some 47, .fieldAddr 1 (.t 46), none, []⟩,
  ⟨some 48, .load none (.t 47), none, []⟩,
  ⟨some 49, .bin .leq (.t 45) (.t 48), none, []⟩] [45, 46, 47, 48])
  (.cond (.t 49)
  .skip
  (.ghost (.forget [6, 49]) (.ghost .lower (.exit 0)))))
  (.seq (.block 1
  (.seq (.region false [
    ⟨some 52, .move (.t 6), none, []⟩,
    ⟨some 53, .fieldAddr 0 (.t 4), none, []⟩,
    ⟨some 54, .fieldAddr 0 (.t 53), none, []⟩,
    ⟨some 55, .load none (.t 54), none, []⟩,
    ⟨some 56, .bin .neq (.t 52) (.t 55), none, []⟩] [49, 52, 53, 54, 55])
    (.cond (.t 56)
    (.region true [
      ⟨some 57, .move (.t 5), none, []⟩,
      ⟨some 58, .fieldAddr 0 (.t 4), none, []⟩,
      ⟨some 59, .fieldAddr 0 (.t 58), none, [1]⟩,
      ⟨some 60, .load none (.t 59), none, [1, 2]⟩,
      ⟨some 61, .move (.t 6), none, []⟩,
      ⟨some 62, .fieldAddr 0 (.t 4), none, []⟩,
      ⟨some 63, .fieldAddr 2 (.t 62), none, [5]⟩,
      ⟨some 64, .load none (.t 63), none, [5, 6]⟩,
      ⟨some 65, .fieldAddr 0 (.t 4), none, []⟩,
      ⟨some 66, .fieldAddr 4 (.t 65), none, [8]⟩,
      ⟨some 67, .load none (.t 66), none, [8, 9]⟩,
      ⟨some 68, .len (.t 67), none, [8, 9, 10]⟩,
      ⟨some 69, .fieldAddr 0 (.t 4), none, []⟩,
      ⟨some 70, .fieldAddr 4 (.t 69), none, [12]⟩,
      ⟨some 71, .load none (.t 70), none, [12, 13]⟩,
      ⟨some 72, .call false 81 [.t 71], none, [12, 13, 14]⟩,
      ⟨some 73, .build [.int .i64 0, .int .i64 0, .int .i64 0, .int .i64 0, .int .i64 0, .int .i64 0, .int .i64 0, .bool false, .slice true []] [(0, 1, .c (.p (.int .i64 1))), (1, 1, .t 60), (2, 1, .t 61), (3, 1, .t 64), (4, 1, .t 68), (5, 1, .t 72)], none, [1, 2, 3, 4, 5, 6, 7, 8, 9, 10, 11, 12, 13, 14, 15]⟩,
      ⟨some 74, .buildSlice [.int .i64 0, .int .i64 0, .int .i64 0, .int .i64 0, .int .i64 0, .int .i64 0, .int .i64 0, .bool false, .slice true []] 1 [(0, .t 73)], none, [1, 2, 3, 4, 5, 6, 7, 8, 9, 10, 11, 12, 13, 14, 15, 16]⟩,
      ⟨some 75, .append 88 9 (.t 57) (.t 74), none, [0, 1, 2, 3, 4, 5, 6, 7, 8, 9, 10, 11, 12, 13, 14, 15, 16, 17]⟩,
      ⟨some 5, .move (.t 75), none, [0, 1, 2, 3, 4, 5, 6, 7, 8, 9, 10, 11, 12, 13, 14, 15, 16, 17, 18]⟩] [56, 57, 58, 59, 60, 61, 62, 63, 64, 65, 66, 67, 68, 69, 70, 71, 72, 73, 74, 75])
    .skip)))
  (.region false [
  ⟨some 50, .move (.t 6), none, []⟩,
  ⟨some 51, .bin .add (.t 50) (.c (.p (.int .i64 1))), none, []⟩,
  ⟨some 6, .move (.t 51), none, []⟩] [50, 51, 56])))

def a32 : AFunc := ⟨79, 1, [.cell 2 10, .tmp 3],
  (.seq (.region false [
  ⟨some 1, .box (.t 0), none, []⟩,
  ⟨some 2, .alloc [.int .i64 0, .int .i64 0, .int .i64 0, .int .i64 0, .slice true [], .int .i64 0, .int .i64 0, .slice true [], .slice true [], .slice true []], none, []⟩,
  ⟨some 3, .move (.c (.p (.slice true []))), none, []⟩] [0, 3])
  (.seq (.region false [
  ⟨some 7, .load (some 10) (.t 1), none, []⟩,
  ⟨some 8, .call true 83 [.t 7], none, []⟩,
  ⟨some 9, .build [.int .i64 0, .int .i64 0, .int .i64 0, .int .i64 0, .slice true [], .int .i64 0, .int .i64 0, .slice true [], .slice true [], .slice true []] [(0, 10, .t 8)], none, []⟩,
  ⟨some 4, .alloc [.int .i64 0, .int .i64 0, .int .i64 0, .int .i64 0, .slice true [], .int .i64 0, .int .i64 0, .slice true [], .slice true [], .slice true []], none, []⟩,
  ⟨none, .store 10 (.t 4) (.t 9), none, []⟩] [7, 8, 9])
  (.seq (.seq (.region false [
  ⟨some 10, .load (some 10) (.t 1), none, []⟩,
  ⟨some 11, .call false 28 [.t 10], none, []⟩,
  ⟨some 12, .un .not (.t 11), none, []⟩,
  ⟨some 13, .move (.t 12), none, []⟩,
  ⟨some 14, .fieldAddr 5 (.t 1), some (13, false), []⟩,
  ⟨some 15, .load none (.t 14), some (13, false), []⟩,
  ⟨some 16, .bin .eql (.t 15) (.c (.p (.int .i64 3))), some (13, false), []⟩,
  ⟨some 17, .pick (.t 13) (.c (.p (.bool true))) (.t 16), none, []⟩,
  ⟨some 18, .move (.t 17), none, []⟩,
  ⟨some 19, .fieldAddr 2 (.t 1), some (18, false), []⟩,
  ⟨some 20, .load none (.t 19), some (18, false), []⟩,
  ⟨some 21, .bin .eql (.t 20) (.c (.p (.int .i64 1099511627776))), some (18, false), []⟩,
  ⟨some 22, .pick (.t 18) (.c (.p (.bool true))) (.t 21), none, []⟩] [10, 11, 12, 13, 14, 15, 16, 17, 18, 19, 20, 21])
  (.cond (.t 22)
  (.seq (.region false [
    ⟨some 23, .fieldAddr 0 (.t 4), none, []⟩,
    ⟨some 24, .load (some 10) (.t 23), none, []⟩,
    ⟨none, .store 10 (.t 2) (.t 24), none, []⟩,
    ⟨some 3, .move (.c (.p (.slice true []))), none, []⟩] [22, 23, 24])
    .ret)
  .skip))
  (.seq (.region false [
  ⟨some 25, .fieldAddr 0 (.t 4), none, []⟩,
  ⟨some 26, .fieldAddr 2 (.t 25), none, []⟩,
  ⟨some 27, .load none (.t 26), none, []⟩,
  ⟨some 28, .bin .add (.t 27) (.c (.p (.int .i64 1))), none, []⟩,
  ⟨some 29, .fieldAddr 0 (.t 4), none, []⟩,
  ⟨some 30, .fieldAddr 2 (.t 29), none, []⟩,
  ⟨none, .store 1 (.t 30) (.t 28), none, []⟩] [22, 25, 26, 27, 28, 29, 30])
  (.seq (.region false [
  ⟨some 31, .fieldAddr 0 (.t 4), none, []⟩,
  ⟨some 32, .fieldAddr 0 (.t 31), none, []⟩,
  ⟨some 33, .load none (.t 32), none, []⟩,
  ⟨some 34, .fieldAddr 0 (.t 4), none, []⟩,
  ⟨some 35, .fieldAddr 3 (.t 34), none, []⟩,
  ⟨none, .store 1 (.t 35) (.t 33), none, []⟩] [31, 32, 33, 34, 35])
  (.seq (.region false [
  ⟨some 36, .fieldAddr 0 (.t 4), none, []⟩,
  ⟨some 37, .fieldAddr 5 (.t 36), none, []⟩,
  ⟨none, .store 1 (.t 37) (.c (.p (.int .i64 2))), none, []⟩] [36, 37])
  (.seq (.region false [
  ⟨some 38, .fieldAddr 0 (.t 4), none, []⟩,
  ⟨some 39, .fieldAddr 0 (.t 38), none, []⟩,
  ⟨some 40, .load none (.t 39), none, []⟩,
  ⟨some 41, .buildSlice [.int .i64 0] 1 [(0, .t 40)], none, []⟩,
  ⟨some 42, .fieldAddr 0 (.t 4), none, []⟩,
  ⟨some 43, .fieldAddr 7 (.t 42), none, []⟩,
  ⟨none, .store 1 (.t 43) (.t 41), none, []⟩] [38, 39, 40, 41, 42, 43])
  (.seq (.region false [
  ⟨some 44, .call true 84 [.t 4], none, []⟩] [44])
  (.seq (.region false [
  ⟨some 5, .move (.c (.p (.slice true []))), none, []⟩] [])
  (.ghost (.own 9 5) (.seq (.seq (.region false [
  ⟨some 6, .move (.c (.p (.int .i64 1))), none, []⟩] [])
  (.block 0
  (.loop
    (.ghost (.free [1]) (.ghost .lower a32_l0)))))
  (.seq (.region false [
  ⟨some 76, .fieldAddr 0 (.t 4), none, []⟩,
  ⟨some 77, .load (some 10) (.t 76), none, []⟩,
  ⟨some 78, .move (.t 5), none, []⟩,
  ⟨none, .store 10 (.t 2) (.t 77), none, []⟩,
  ⟨some 3, .move (.t 78), none, []⟩] [5, 76, 77, 78])
  .ret))))))))))))⟩

/-- clockwork/clockworkref41.FewItems -/
@[irreducible] def a35_l0 : ACode :=
  (.seq (.seq (.region false [
  ⟨some 7, .move (.t 3), none, []⟩,
  ⟨some 8, .move (.t 0), none, []⟩,
  ⟨some 9, .len (.t 8), none, []⟩,
  ⟨some 10, .bin .lss (.t 7) (.t 9), none, []⟩] [7, 8, 9])
  (.cond (.t 10)
  .skip
  (.ghost (.forget [0, 3, 10]) (.ghost .lower (.exit 0)))))
  (.seq (.block 1
  (.seq (.region false [
    ⟨some 13, .move (.t 0), none, []⟩,
    ⟨some 14, .move (.t 3), none, []⟩,
    ⟨some 15, .indexAddr 2 (.t 13) (.t 14), none, []⟩,
    ⟨some 16, .fieldAddr 1 (.t 15), none, []⟩,
    ⟨some 17, .load none (.t 16), none, []⟩,
    ⟨some 18, .lenS (.t 17), none, []⟩,
    ⟨some 19, .bin .gtr (.t 18) (.c (.p (.int .i64 100))), none, []⟩] [10, 13, 14, 15, 16, 17, 18])
    (.cond (.t 19)
    (.seq (.region false [
      ⟨some 2, .move (.c (.p (.bool false))), none, []⟩] [0, 3, 19])
      .ret)
    .skip)))
  (.region false [
  ⟨some 11, .move (.t 3), none, []⟩,
  ⟨some 12, .bin .add (.t 11) (.c (.p (.int .i64 1))), none, []⟩,
  ⟨some 3, .move (.t 12), none, []⟩] [11, 12, 19])))

def a35 : AFunc := ⟨20, 1, [.tmp 2],
  (.seq (.region false [
  ⟨some 2, .move (.c (.p (.bool false))), none, []⟩] [2])
  (.seq (.seq (.region false [
  ⟨some 4, .move (.t 0), none, []⟩,
  ⟨some 5, .len (.t 4), none, []⟩,
  ⟨some 6, .bin .gtr (.t 5) (.c (.p (.int .i64 20))), none, []⟩] [4, 5])
  (.cond (.t 6)
  (.seq (.region false [
    ⟨some 2, .move (.c (.p (.bool false))), none, []⟩] [0, 6])
    .ret)
  .skip))
  (.seq (.seq (.region false [
  ⟨some 3, .move (.c (.p (.int .i64 0))), none, []⟩] [6])
  (.block 0
  (.loop
    (.ghost .lower a35_l0))))
  (.seq (.region false [
  ⟨some 2, .move (.c (.p (.bool true))), none, []⟩] [])
  .ret))))⟩

/-- clockwork/election.Vote -/
def a36 : AFunc := ⟨73, 2, [.cell 4 10, .tmp 5],
  (.seq (.region false [
  ⟨some 2, .box (.t 0), none, []⟩,
  ⟨some 3, .box (.t 1), none, []⟩,
  ⟨some 4, .alloc [.int .i64 0, .int .i64 0, .int .i64 0, .int .i64 0, .slice true [], .int .i64 0, .int .i64 0, .slice true [], .slice true [], .slice true []], none, []⟩,
  ⟨some 5, .move (.c (.p (.slice true []))), none, []⟩] [0, 1, 5])
  (.seq (.region false [
  ⟨some 8, .load (some 10) (.t 2), none, []⟩,
  ⟨some 9, .call true 83 [.t 8], none, []⟩,
  ⟨some 10, .build [.int .i64 0, .int .i64 0, .int .i64 0, .int .i64 0, .slice true [], .int .i64 0, .int .i64 0, .slice true [], .slice true [], .slice true []] [(0, 10, .t 9)], none, []⟩,
  ⟨some 6, .alloc [.int .i64 0, .int .i64 0, .int .i64 0, .int .i64 0, .slice true [], .int .i64 0, .int .i64 0, .slice true [], .slice true [], .slice true []], none, []⟩,
  ⟨none, .store 10 (.t 6) (.t 10), none, []⟩] [8, 9, 10])
  (.seq (.seq (.region false [
  ⟨some 11, .load (some 10) (.t 2), none, []⟩,
  ⟨some 12, .load (some 9) (.t 3), none, []⟩,
  ⟨some 13, .call false 88 [.t 11, .t 12, .c (.p (.int .i64 1))], none, []⟩,
  ⟨some 14, .un .not (.t 13), none, []⟩] [11, 12, 13])
  (.cond (.t 14)
  (.seq (.region false [
    ⟨some 15, .fieldAddr 0 (.t 6), none, []⟩,
    ⟨some 16, .load (some 10) (.t 15), none, []⟩,
    ⟨none, .store 10 (.t 4) (.t 16), none, []⟩,
    ⟨some 5, .move (.c (.p (.slice true []))), none, []⟩] [14, 15, 16])
    .ret)
  .skip))
  (.seq (.seq (.region false [
  ⟨some 17, .fieldAddr 3 (.t 3), none, []⟩,
  ⟨some 18, .load none (.t 17), none, []⟩,
  ⟨some 19, .fieldAddr 0 (.t 6), none, []⟩,
  ⟨some 20, .fieldAddr 2 (.t 19), none, []⟩,
  ⟨some 21, .load none (.t 20), none, []⟩,
  ⟨some 22, .bin .gtr (.t 18) (.t 21), none, []⟩] [14, 17, 18, 19, 20, 21])
  (.cond (.t 22)
  (.region false [
    ⟨some 23, .fieldAddr 3 (.t 3), none, []⟩,
    ⟨some 24, .load none (.t 23), none, []⟩,
    ⟨some 25, .call true 89 [.t 6, .t 24], none, []⟩] [22, 23, 24, 25])
  .skip))
  (.seq (.region false [
  ⟨some 26, .fieldAddr 3 (.t 3), none, []⟩,
  ⟨some 27, .load none (.t 26), none, []⟩,
  ⟨some 28, .fieldAddr 0 (.t 6), none, []⟩,
  ⟨some 29, .fieldAddr 2 (.t 28), none, []⟩,
  ⟨some 30, .load none (.t 29), none, []⟩,
  ⟨some 31, .bin .eql (.t 27) (.t 30), none, []⟩,
  ⟨some 32, .move (.t 31), none, []⟩,
  ⟨some 33, .fieldAddr 0 (.t 6), some (32, true), []⟩,
  ⟨some 34, .fieldAddr 3 (.t 33), some (32, true), []⟩,
  ⟨some 35, .load none (.t 34), some (32, true), []⟩,
  ⟨some 36, .bin .eql (.t 35) (.c (.p (.int .i64 0))), some (32, true), []⟩,
  ⟨some 37, .move (.t 36), some (32, true), []⟩,
  ⟨some 38, .fieldAddr 0 (.t 6), some (37, false), []⟩,
  ⟨some 39, .fieldAddr 3 (.t 38), some (37, false), []⟩,
  ⟨some 40, .load none (.t 39), some (37, false), []⟩,
  ⟨some 41, .fieldAddr 1 (.t 3), some (37, false), []⟩,
  ⟨some 42, .load none (.t 41), some (37, false), []⟩,
  ⟨some 43, .bin .eql (.t 40) (.t 42), some (37, false), []⟩,
  ⟨some 44, .pick (.t 37) (.c (.p (.bool true))) (.t 43), some (32, true), []⟩,
  ⟨some 45, .pick (.t 32) (.t 44) (.c (.p (.bool false))), none, []⟩,
  ⟨some 46, .move (.t 45), none, []⟩,
  ⟨some 47, .fieldAddr 0 (.t 6), some (46, true), []⟩,
  ⟨some 48, .load (some 10) (.t 47), some (46, true), []⟩,
  ⟨some 49, .fieldAddr 4 (.t 3), some (46, true), []⟩,
  ⟨some 50, .load none (.t 49), some (46, true), []⟩,
  ⟨some 51, .fieldAddr 5 (.t 3), some (46, true), []⟩,
  ⟨some 52, .load none (.t 51), some (46, true), []⟩,
  ⟨some 53, .call false 30 [.t 48, .t 50, .t 52], some (46, true), []⟩,
  ⟨some 54, .pick (.t 46) (.t 53) (.c (.p (.bool false))), none, []⟩,
  ⟨some 7, .move (.t 54), none, []⟩] [22, 26, 27, 28, 29, 30, 31, 32, 33, 34, 35, 36, 37, 38, 39, 40, 41, 42, 43, 44, 45, 46, 47, 48, 49, 50, 51, 52, 53, 54])
  (.seq (.seq (.region false [
  ⟨some 55, .move (.t 7), none, []⟩] [])
  (.cond (.t 55)
  (.region false [
    ⟨some 56, .fieldAddr 1 (.t 3), none, []⟩,
    ⟨some 57, .load none (.t 56), none, []⟩,
    ⟨some 58, .fieldAddr 0 (.t 6), none, []⟩,
    ⟨some 59, .fieldAddr 3 (.t 58), none, []⟩,
    ⟨none, .store 1 (.t 59) (.t 57), none, []⟩] [55, 56, 57, 58, 59])
  .skip))
  (.seq (.regionS [(2, 13), (3, 13), (4, 13), (5, 13), (6, 13), (7, 13), (8, 13), (9, 13), (12, 13)] [
  ⟨some 60, .fieldAddr 0 (.t 6), none, []⟩,
  ⟨some 61, .load (some 10) (.t 60), none, [0]⟩,
  ⟨some 62, .fieldAddr 0 (.t 6), none, []⟩,
  ⟨some 63, .fieldAddr 0 (.t 62), none, [2]⟩,
  ⟨some 64, .load none (.t 63), none, [2, 3]⟩,
  ⟨some 65, .fieldAddr 1 (.t 3), none, []⟩,
  ⟨some 66, .load none (.t 65), none, [5]⟩,
  ⟨some 67, .fieldAddr 0 (.t 6), none, []⟩,
  ⟨some 68, .fieldAddr 2 (.t 67), none, [7]⟩,
  ⟨some 69, .load none (.t 68), none, [7, 8]⟩,
  ⟨some 70, .move (.t 7), none, []⟩,
  ⟨some 71, .build [.int .i64 0, .int .i64 0, .int .i64 0, .int .i64 0, .int .i64 0, .int .i64 0, .int .i64 0, .bool false, .slice true []] [(0, 1, .c (.p (.int .i64 2))), (1, 1, .t 64), (2, 1, .t 66), (3, 1, .t 69), (7, 1, .t 70)], none, [2, 3, 4, 5, 6, 7, 8, 9, 10]⟩,
  ⟨some 72, .buildSlice [.int .i64 0, .int .i64 0, .int .i64 0, .int .i64 0, .int .i64 0, .int .i64 0, .int .i64 0, .bool false, .slice true []] 1 [(0, .t 71)], none, [2, 3, 4, 5, 6, 7, 8, 9, 10, 11]⟩,
  ⟨none, .store 10 (.t 4) (.t 61), none, [0, 1]⟩,
  ⟨some 5, .move (.t 72), none, [0, 1, 2, 3, 4, 5, 6, 7, 8, 9, 10, 11, 12, 13]⟩] [7, 55, 60, 61, 62, 63, 64, 65, 66, 67, 68, 69, 70, 71, 72])
  .ret)))))))⟩

/-- clockwork/clockworklaw41.do -/
def a38 : AFunc := ⟨41, 2, [.cell 4 10, .tmp 5],
  (.seq (.region false [
  ⟨some 2, .box (.t 0), none, []⟩,
  ⟨some 3, .box (.t 1), none, []⟩,
  ⟨some 4, .alloc [.int .i64 0, .int .i64 0, .int .i64 0, .int .i64 0, .slice true [], .int .i64 0, .int .i64 0, .slice true [], .slice true [], .slice true []], none, []⟩,
  ⟨some 5, .move (.c (.p (.slice true []))), none, []⟩] [0, 1, 5])
  (.seq (.seq (.region false [
  ⟨some 10, .fieldAddr 0 (.t 3), none, []⟩,
  ⟨some 11, .load none (.t 10), none, []⟩] [10])
  (.block 0
  (.seq (.region false [
    ⟨some 13, .bin .eql (.t 11) (.c (.p (.int .i64 0))), none, []⟩,
    ⟨some 12, .move (.t 13), none, []⟩] [13])
    (.cond (.t 12)
    (.seq (.region false [
      ⟨some 14, .load (some 10) (.t 2), none, []⟩,
      ⟨some 15, .call false 32 [.t 14], none, []⟩,
      ⟨some 16, .extract (.t 15) 0, none, []⟩,
      ⟨some 17, .extract (.t 15) 1, none, []⟩,
      ⟨none, .store 10 (.t 4) (.t 16), none, []⟩,
      ⟨some 5, .move (.t 17), none, []⟩] [11, 12, 14, 15, 16, 17])
      .ret)
    (.seq (.region false [
      ⟨some 19, .bin .eql (.t 11) (.c (.p (.int .i64 1))), none, []⟩,
      ⟨some 18, .move (.t 19), none, []⟩] [11, 12, 19])
      (.cond (.t 18)
      (.seq (.region false [
        ⟨some 20, .load (some 10) (.t 2), none, []⟩,
        ⟨some 21, .call false 43 [.t 20], none, []⟩,
        ⟨none, .store 10 (.t 4) (.t 21), none, []⟩,
        ⟨some 5, .move (.c (.p (.slice true []))), none, []⟩] [18, 20, 21])
        .ret)
      .skip))))))
  (.seq (.region false [
  ⟨some 23, .load (some 10) (.t 2), none, []⟩,
  ⟨some 24, .fieldAddr 1 (.t 3), none, []⟩,
  ⟨some 25, .load (some 9) (.t 24), none, []⟩,
  ⟨some 26, .call false 36 [.t 23, .t 25], none, []⟩,
  ⟨some 22, .move (.t 26), none, []⟩,
  ⟨some 27, .extract (.t 22) 0, none, []⟩,
  ⟨some 28, .extract (.t 22) 1, none, []⟩,
  ⟨some 6, .alloc [.int .i64 0, .int .i64 0, .int .i64 0, .int .i64 0, .slice true [], .int .i64 0, .int .i64 0, .slice true [], .slice true [], .slice true []], none, []⟩,
  ⟨none, .store 10 (.t 6) (.t 27), none, []⟩,
  ⟨some 7, .move (.t 28), none, []⟩] [18, 22, 23, 24, 25, 26, 27, 28])
  (.seq (.region false [
  ⟨some 30, .load (some 10) (.t 6), none, []⟩,
  ⟨some 31, .fieldAddr 1 (.t 3), none, []⟩,
  ⟨some 32, .load (some 9) (.t 31), none, []⟩,
  ⟨some 33, .call false 41 [.t 30, .t 32], none, []⟩,
  ⟨some 29, .move (.t 33), none, []⟩,
  ⟨some 34, .extract (.t 29) 0, none, []⟩,
  ⟨some 35, .extract (.t 29) 1, none, []⟩,
  ⟨some 8, .alloc [.int .i64 0, .int .i64 0, .int .i64 0, .int .i64 0, .slice true [], .int .i64 0, .int .i64 0, .slice true [], .slice true [], .slice true []], none, []⟩,
  ⟨none, .store 10 (.t 8) (.t 34), none, []⟩,
  ⟨some 9, .move (.t 35), none, []⟩] [29, 30, 31, 32, 33, 34, 35])
  (.seq (.regionS [(0, 2), (0, 4)] [
  ⟨some 36, .load (some 10) (.t 8), none, []⟩,
  ⟨some 37, .move (.t 7), none, []⟩,
  ⟨some 38, .append 88 9 (.c (.p (.slice true []))) (.t 37), none, [1]⟩,
  ⟨some 39, .move (.t 9), none, []⟩,
  ⟨some 40, .append 88 9 (.t 38) (.t 39), none, [1, 2, 3]⟩,
  ⟨none, .store 10 (.t 4) (.t 36), none, [0, 1, 2, 3, 4]⟩,
  ⟨some 5, .move (.t 40), none, [0, 1, 2, 3, 4, 5]⟩] [7, 9, 36, 37, 38, 39, 40])
  .ret)))))⟩

/-- clockwork/clockworkref41.SameItems -/
@[irreducible] def a39_l0 : ACode :=
  (.seq (.seq (.region false [
  ⟨some 11, .move (.t 5), none, []⟩,
  ⟨some 12, .move (.t 0), none, []⟩,
  ⟨some 13, .len (.t 12), none, []⟩,
  ⟨some 14, .bin .lss (.t 11) (.t 13), none, []⟩] [11, 12, 13])
  (.cond (.t 14)
  .skip
  (.ghost (.forget [0, 1, 5, 14]) (.ghost .lower (.exit 0)))))
  (.seq (.block 1
  (.seq (.region true [
    ⟨some 17, .move (.t 0), none, []⟩,
    ⟨some 18, .move (.t 5), none, []⟩,
    ⟨some 19, .indexAddr 2 (.t 17) (.t 18), none, [0, 1]⟩,
    ⟨some 20, .load (some 2) (.t 19), none, [0, 1, 2]⟩,
    ⟨some 21, .move (.t 1), none, []⟩,
    ⟨some 22, .move (.t 5), none, []⟩,
    ⟨some 23, .indexAddr 2 (.t 21) (.t 22), none, [4, 5]⟩,
    ⟨some 24, .load (some 2) (.t 23), none, [4, 5, 6]⟩,
    ⟨some 25, .eqagg true [(0, 0), (1, 2)] (.t 20) (.t 24), none, [0, 1, 2, 3, 4, 5, 6, 7]⟩] [14, 17, 18, 19, 20, 21, 22, 23, 24])
    (.cond (.t 25)
    (.seq (.region false [
      ⟨some 4, .move (.c (.p (.bool false))), none, []⟩] [0, 1, 5, 25])
      .ret)
    .skip)))
  (.region false [
  ⟨some 15, .move (.t 5), none, []⟩,
  ⟨some 16, .bin .add (.t 15) (.c (.p (.int .i64 1))), none, []⟩,
  ⟨some 5, .move (.t 16), none, []⟩] [15, 16, 25])))

def a39 : AFunc := ⟨26, 2, [.tmp 4],
  (.seq (.region false [
  ⟨some 4, .move (.c (.p (.bool false))), none, []⟩] [4])
  (.seq (.seq (.region false [
  ⟨some 6, .move (.t 0), none, []⟩,
  ⟨some 7, .len (.t 6), none, []⟩,
  ⟨some 8, .move (.t 1), none, []⟩,
  ⟨some 9, .len (.t 8), none, []⟩,
  ⟨some 10, .bin .neq (.t 7) (.t 9), none, []⟩] [6, 7, 8, 9])
  (.cond (.t 10)
  (.seq (.region false [
    ⟨some 4, .move (.c (.p (.bool false))), none, []⟩] [0, 1, 10])
    .ret)
  .skip))
  (.seq (.seq (.region false [
  ⟨some 5, .move (.c (.p (.int .i64 0))), none, []⟩] [10])
  (.block 0
  (.loop
    (.ghost .lower a39_l0))))
  (.seq (.region false [
  ⟨some 4, .move (.c (.p (.bool true))), none, []⟩] [])
  .ret))))⟩

/-- clockwork/clockworkref40.Valid -/
def a40 : AFunc := ⟨75, 2, [.tmp 4],
  (.seq (.region false [
  ⟨some 2, .box (.t 0), none, []⟩,
  ⟨some 4, .move (.c (.p (.bool false))), none, []⟩] [0, 4])
  (.seq (.seq (.region false [
  ⟨some 5, .move (.t 1), none, []⟩,
  ⟨some 6, .bin .lss (.t 5) (.c (.p (.int .i64 1))), none, []⟩,
  ⟨some 7, .move (.t 6), none, []⟩,
  ⟨some 8, .move (.t 1), some (7, false), []⟩,
  ⟨some 9, .bin .gtr (.t 8) (.c (.p (.int .i64 7))), some (7, false), []⟩,
  ⟨some 10, .pick (.t 7) (.c (.p (.bool true))) (.t 9), none, []⟩,
  ⟨some 11, .move (.t 10), none, []⟩,
  ⟨some 12, .fieldAddr 0 (.t 2), some (11, false), []⟩,
  ⟨some 13, .load none (.t 12), some (11, false), []⟩,
  ⟨some 14, .bin .lss (.t 13) (.c (.p (.int .i64 1))), some (11, false), []⟩,
  ⟨some 15, .pick (.t 11) (.c (.p (.bool true))) (.t 14), none, []⟩,
  ⟨some 16, .move (.t 15), none, []⟩,
  ⟨some 17, .fieldAddr 0 (.t 2), some (16, false), []⟩,
  ⟨some 18, .load none (.t 17), some (16, false), []⟩,
  ⟨some 19, .bin .gtr (.t 18) (.c (.p (.int .i64 4))), some (16, false), []⟩,
  ⟨some 20, .pick (.t 16) (.c (.p (.bool true))) (.t 19), none, []⟩] [5, 6, 7, 8, 9, 10, 11, 12, 13, 14, 15, 16, 17, 18, 19])
  (.cond (.t 20)
  (.seq (.region false [
    ⟨some 4, .move (.c (.p (.bool false))), none, []⟩] [1, 20])
    .ret)
  .skip))
  (.seq (.seq (.region false [
  ⟨some 21, .fieldAddr 1 (.t 2), none, []⟩,
  ⟨some 22, .load none (.t 21), none, []⟩,
  ⟨some 23, .bin .lss (.t 22) (.c (.p (.int .i64 1))), none, []⟩,
  ⟨some 24, .move (.t 23), none, []⟩,
  ⟨some 25, .fieldAddr 1 (.t 2), some (24, false), []⟩,
  ⟨some 26, .load none (.t 25), some (24, false), []⟩,
  ⟨some 27, .move (.t 1), some (24, false), []⟩,
  ⟨some 28, .bin .gtr (.t 26) (.t 27), some (24, false), []⟩,
  ⟨some 29, .pick (.t 24) (.c (.p (.bool true))) (.t 28), none, []⟩,
  ⟨some 30, .move (.t 29), none, []⟩,
  ⟨some 31, .fieldAddr 2 (.t 2), some (30, false), []⟩,
  ⟨some 32, .load none (.t 31), some (30, false), []⟩,
  ⟨some 33, .bin .lss (.t 32) (.c (.p (.int .i64 1))), some (30, false), []⟩,
  ⟨some 34, .pick (.t 30) (.c (.p (.bool true))) (.t 33), none, []⟩,
  ⟨some 35, .move (.t 34), none, []⟩,
  ⟨some 36, .fieldAddr 2 (.t 2), some (35, false), []⟩,
  ⟨some 37, .load none (.t 36), some (35, false), []⟩,
  ⟨some 38, .move (.t 1), some (35, false), []⟩,
  ⟨some 39, .bin .gtr (.t 37) (.t 38), some (35, false), []⟩,
  ⟨some 40, .pick (.t 35) (.c (.p (.bool true))) (.t 39), none, []⟩,
  ⟨some 41, .move (.t 40), none, []⟩,
  ⟨some 42, .fieldAddr 1 (.t 2), some (41, false), []⟩,
  ⟨some 43, .load none (.t 42), some (41, false), []⟩,
  ⟨some 44, .fieldAddr 2 (.t 2), some (41, false), []⟩,
  ⟨some 45, .load none (.t 44), some (41, false), []⟩,
  ⟨some 46, .bin .eql (.t 43) (.t 45), some (41, false), []⟩,
  ⟨some 47, .pick (.t 41) (.c (.p (.bool true))) (.t 46), none, []⟩] [1, 20, 21, 22, 23, 24, 25, 26, 27, 28, 29, 30, 31, 32, 33, 34, 35, 36, 37, 38, 39, 40, 41, 42, 43, 44, 45, 46])
  (.cond (.t 47)
  (.seq (.region false [
    ⟨some 4, .move (.c (.p (.bool false))), none, []⟩] [47])
    .ret)
  .skip))
  (.seq (.region false [
  ⟨some 48, .fieldAddr 3 (.t 2), none, []⟩,
  ⟨some 49, .load none (.t 48), none, []⟩,
  ⟨some 50, .call false 91 [.t 49, .c (.p (.int .i64 1))], none, []⟩,
  ⟨some 51, .move (.t 50), none, []⟩,
  ⟨some 52, .fieldAddr 4 (.t 2), some (51, true), []⟩,
  ⟨some 53, .load none (.t 52), some (51, true), []⟩,
  ⟨some 54, .call false 91 [.t 53, .c (.p (.int .i64 0))], some (51, true), []⟩,
  ⟨some 55, .pick (.t 51) (.t 54) (.c (.p (.bool false))), none, []⟩,
  ⟨some 56, .move (.t 55), none, []⟩,
  ⟨some 57, .fieldAddr 5 (.t 2), some (56, true), []⟩,
  ⟨some 58, .load none (.t 57), some (56, true), []⟩,
  ⟨some 59, .call false 91 [.t 58, .c (.p (.int .i64 0))], some (56, true), []⟩,
  ⟨some 60, .pick (.t 56) (.t 59) (.c (.p (.bool false))), none, []⟩,
  ⟨some 61, .move (.t 60), none, []⟩,
  ⟨some 62, .fieldAddr 6 (.t 2), some (61, true), []⟩,
  ⟨some 63, .load none (.t 62), some (61, true), []⟩,
  ⟨some 64, .call false 91 [.t 63, .c (.p (.int .i64 0))], some (61, true), []⟩,
  ⟨some 65, .pick (.t 61) (.t 64) (.c (.p (.bool false))), none, []⟩,
  ⟨some 66, .move (.t 65), none, []⟩,
  ⟨some 67, .fieldAddr 8 (.t 2), some (66, true), []⟩,
  ⟨some 68, .load none (.t 67), some (66, true), []⟩,
  ⟨some 69, .call false 92 [.t 68], some (66, true), []⟩,
  ⟨some 70, .pick (.t 66) (.t 69) (.c (.p (.bool false))), none, []⟩,
  ⟨some 71, .move (.t 70), none, []⟩,
  ⟨some 72, .load (some 9) (.t 2), some (71, true), []⟩,
  ⟨some 73, .call false 93 [.t 72], some (71, true), []⟩,
  ⟨some 74, .pick (.t 71) (.t 73) (.c (.p (.bool false))), none, []⟩,
  ⟨some 4, .move (.t 74), none, []⟩] [47, 48, 49, 50, 51, 52, 53, 54, 55, 56, 57, 58, 59, 60, 61, 62, 63, 64, 65, 66, 67, 68, 69, 70, 71, 72, 73, 74])
  .ret))))⟩

/-- clockwork/election.Count -/
def a41 : AFunc := ⟨70, 2, [.cell 4 10, .tmp 5],
  (.seq (.region false [
  ⟨some 2, .box (.t 0), none, []⟩,
  ⟨some 3, .box (.t 1), none, []⟩,
  ⟨some 4, .alloc [.int .i64 0, .int .i64 0, .int .i64 0, .int .i64 0, .slice true [], .int .i64 0, .int .i64 0, .slice true [], .slice true [], .slice true []], none, []⟩,
  ⟨some 5, .move (.c (.p (.slice true []))), none, []⟩] [0, 1, 5])
  (.seq (.region false [
  ⟨some 7, .load (some 10) (.t 2), none, []⟩,
  ⟨some 8, .call true 83 [.t 7], none, []⟩,
  ⟨some 9, .build [.int .i64 0, .int .i64 0, .int .i64 0, .int .i64 0, .slice true [], .int .i64 0, .int .i64 0, .slice true [], .slice true [], .slice true []] [(0, 10, .t 8)], none, []⟩,
  ⟨some 6, .alloc [.int .i64 0, .int .i64 0, .int .i64 0, .int .i64 0, .slice true [], .int .i64 0, .int .i64 0, .slice true [], .slice true [], .slice true []], none, []⟩,
  ⟨none, .store 10 (.t 6) (.t 9), none, []⟩] [7, 8, 9])
  (.seq (.seq (.region false [
  ⟨some 10, .load (some 10) (.t 2), none, []⟩,
  ⟨some 11, .load (some 9) (.t 3), none, []⟩,
  ⟨some 12, .call false 88 [.t 10, .t 11, .c (.p (.int .i64 2))], none, []⟩,
  ⟨some 13, .un .not (.t 12), none, []⟩] [10, 11, 12])
  (.cond (.t 13)
  (.seq (.region false [
    ⟨some 14, .fieldAddr 0 (.t 6), none, []⟩,
    ⟨some 15, .load (some 10) (.t 14), none, []⟩,
    ⟨none, .store 10 (.t 4) (.t 15), none, []⟩,
    ⟨some 5, .move (.c (.p (.slice true []))), none, []⟩] [13, 14, 15])
    .ret)
  .skip))
  (.seq (.seq (.region false [
  ⟨some 16, .fieldAddr 3 (.t 3), none, []⟩,
  ⟨some 17, .load none (.t 16), none, []⟩,
  ⟨some 18, .fieldAddr 0 (.t 6), none, []⟩,
  ⟨some 19, .fieldAddr 2 (.t 18), none, []⟩,
  ⟨some 20, .load none (.t 19), none, []⟩,
  ⟨some 21, .bin .gtr (.t 17) (.t 20), none, []⟩] [13, 16, 17, 18, 19, 20])
  (.cond (.t 21)
  (.seq (.region false [
    ⟨some 22, .fieldAddr 3 (.t 3), none, []⟩,
    ⟨some 23, .load none (.t 22), none, []⟩,
    ⟨some 24, .call true 89 [.t 6, .t 23], none, []⟩] [21, 22, 23, 24])
    (.seq (.region false [
    ⟨some 25, .fieldAddr 0 (.t 6), none, []⟩,
    ⟨some 26, .load (some 10) (.t 25), none, []⟩,
    ⟨none, .store 10 (.t 4) (.t 26), none, []⟩,
    ⟨some 5, .move (.c (.p (.slice true []))), none, []⟩] [25, 26])
    .ret))
  .skip))
  (.seq (.seq (.region false [
  ⟨some 27, .fieldAddr 3 (.t 3), none, []⟩,
  ⟨some 28, .load none (.t 27), none, []⟩,
  ⟨some 29, .fieldAddr 0 (.t 6), none, []⟩,
  ⟨some 30, .fieldAddr 2 (.t 29), none, []⟩,
  ⟨some 31, .load none (.t 30), none, []⟩,
  ⟨some 32, .bin .lss (.t 28) (.t 31), none, []⟩,
  ⟨some 33, .move (.t 32), none, []⟩,
  ⟨some 34, .fieldAddr 0 (.t 6), some (33, false), []⟩,
  ⟨some 35, .fieldAddr 5 (.t 34), some (33, false), []⟩,
  ⟨some 36, .load none (.t 35), some (33, false), []⟩,
  ⟨some 37, .bin .neq (.t 36) (.c (.p (.int .i64 2))), some (33, false), []⟩,
  ⟨some 38, .pick (.t 33) (.c (.p (.bool true))) (.t 37), none, []⟩,
  ⟨some 39, .move (.t 38), none, []⟩,
  ⟨some 40, .fieldAddr 7 (.t 3), some (39, false), []⟩,
  ⟨some 41, .load none (.t 40), some (39, false), []⟩,
  ⟨some 42, .un .not (.t 41), some (39, false), []⟩,
  ⟨some 43, .pick (.t 39) (.c (.p (.bool true))) (.t 42), none, []⟩,
  ⟨some 44, .move (.t 43), none, []⟩,
  ⟨some 45, .fieldAddr 0 (.t 6), some (44, false), []⟩,
  ⟨some 46, .fieldAddr 7 (.t 45), some (44, false), []⟩,
  ⟨some 47, .load none (.t 46), some (44, false), []⟩,
  ⟨some 48, .fieldAddr 1 (.t 3), some (44, false), []⟩,
  ⟨some 49, .load none (.t 48), some (44, false), []⟩,
  ⟨some 50, .call false 94 [.t 47, .t 49], some (44, false), []⟩,
  ⟨some 51, .pick (.t 44) (.c (.p (.bool true))) (.t 50), none, []⟩] [21, 27, 28, 29, 30, 31, 32, 33, 34, 35, 36, 37, 38, 39, 40, 41, 42, 43, 44, 45, 46, 47, 48, 49, 50])
  (.cond (.t 51)
  (.seq (.region false [
    ⟨some 52, .fieldAddr 0 (.t 6), none, []⟩,
    ⟨some 53, .load (some 10) (.t 52), none, []⟩,
    ⟨none, .store 10 (.t 4) (.t 53), none, []⟩,
    ⟨some 5, .move (.c (.p (.slice true []))), none, []⟩] [51, 52, 53])
    .ret)
  .skip))
  (.seq (.region false [
  ⟨some 54, .fieldAddr 0 (.t 6), none, []⟩,
  ⟨some 55, .fieldAddr 7 (.t 54), none, []⟩,
  ⟨some 56, .load none (.t 55), none, []⟩,
  ⟨some 57, .fieldAddr 1 (.t 3), none, []⟩,
  ⟨some 58, .load none (.t 57), none, []⟩,
  ⟨some 59, .buildSlice [.int .i64 0] 1 [(0, .t 58)], none, []⟩,
  ⟨some 60, .append 8 1 (.t 56) (.t 59), none, []⟩,
  ⟨some 61, .fieldAddr 0 (.t 6), none, []⟩,
  ⟨some 62, .fieldAddr 7 (.t 61), none, []⟩,
  ⟨none, .store 1 (.t 62) (.t 60), none, []⟩] [51, 54, 55, 56, 57, 58, 59, 60, 61, 62])
  (.seq (.region false [
  ⟨some 63, .fieldAddr 0 (.t 6), none, []⟩,
  ⟨some 64, .fieldAddr 7 (.t 63), none, []⟩,
  ⟨some 65, .load none (.t 64), none, []⟩,
  ⟨some 66, .call true 95 [.t 65], none, []⟩] [63, 64, 65, 66])
  (.seq (.region false [
  ⟨some 67, .call true 84 [.t 6], none, []⟩] [67])
  (.seq (.region false [
  ⟨some 68, .fieldAddr 0 (.t 6), none, []⟩,
  ⟨some 69, .load (some 10) (.t 68), none, []⟩,
  ⟨none, .store 10 (.t 4) (.t 69), none, []⟩,
  ⟨some 5, .move (.c (.p (.slice true []))), none, []⟩] [68, 69])
  .ret)))))))))⟩

/-- clockwork/election.Restart -/
def a43 : AFunc := ⟨20, 1, [.cell 2 10],
  (.seq (.region false [
  ⟨some 1, .box (.t 0), none, []⟩,
  ⟨some 2, .alloc [.int .i64 0, .int .i64 0, .int .i64 0, .int .i64 0, .slice true [], .int .i64 0, .int .i64 0, .slice true [], .slice true [], .slice true []], none, []⟩] [0])
  (.seq (.seq (.region false [
  ⟨some 3, .load (some 10) (.t 1), none, []⟩,
  ⟨some 4, .call false 28 [.t 3], none, []⟩,
  ⟨some 5, .un .not (.t 4), none, []⟩] [3, 4])
  (.cond (.t 5)
  (.seq (.region false [
    ⟨some 6, .load (some 10) (.t 1), none, []⟩,
    ⟨some 7, .call true 83 [.t 6], none, []⟩,
    ⟨none, .store 10 (.t 2) (.t 7), none, []⟩] [5, 6, 7])
    .ret)
  .skip))
  (.seq (.region true [
  ⟨some 8, .fieldAddr 0 (.t 1), none, []⟩,
  ⟨some 9, .load none (.t 8), none, [0]⟩,
  ⟨some 10, .fieldAddr 1 (.t 1), none, []⟩,
  ⟨some 11, .load none (.t 10), none, [2]⟩,
  ⟨some 12, .fieldAddr 2 (.t 1), none, []⟩,
  ⟨some 13, .load none (.t 12), none, [4]⟩,
  ⟨some 14, .fieldAddr 3 (.t 1), none, []⟩,
  ⟨some 15, .load none (.t 14), none, [6]⟩,
  ⟨some 16, .fieldAddr 4 (.t 1), none, []⟩,
  ⟨some 17, .load none (.t 16), none, [8]⟩,
  ⟨some 18, .call false 97 [.t 17], none, [8, 9]⟩,
  ⟨some 19, .build [.int .i64 0, .int .i64 0, .int .i64 0, .int .i64 0, .slice true [], .int .i64 0, .int .i64 0, .slice true [], .slice true [], .slice true []] [(0, 1, .t 9), (1, 1, .t 11), (2, 1, .t 13), (3, 1, .t 15), (4, 1, .t 18), (5, 1, .c (.p (.int .i64 1)))], none, [0, 1, 2, 3, 4, 5, 6, 7, 8, 9, 10]⟩,
  ⟨none, .store 10 (.t 2) (.t 19), none, [0, 1, 2, 3, 4, 5, 6, 7, 8, 9, 10, 11]⟩] [5, 8, 9, 10, 11, 12, 13, 14, 15, 16, 17, 18, 19])
  .ret)))⟩

/-- clockwork/clockworklaw42.few -/
def a45 : AFunc := ⟨31, 2, [.tmp 4],
  (.seq (.region false [
  ⟨some 2, .box (.t 0), none, []⟩,
  ⟨some 3, .box (.t 1), none, []⟩,
  ⟨some 4, .move (.c (.p (.bool false))), none, []⟩] [0, 1, 4])
  (.seq (.region false [
  ⟨some 5, .fieldAddr 4 (.t 2), none, []⟩,
  ⟨some 6, .load none (.t 5), none, []⟩,
  ⟨some 7, .call false 98 [.t 6], none, []⟩,
  ⟨some 8, .move (.t 7), none, []⟩,
  ⟨some 9, .fieldAddr 8 (.t 3), some (8, true), []⟩,
  ⟨some 10, .load none (.t 9), some (8, true), []⟩,
  ⟨some 11, .call false 98 [.t 10], some (8, true), []⟩,
  ⟨some 12, .pick (.t 8) (.t 11) (.c (.p (.bool false))), none, []⟩,
  ⟨some 13, .move (.t 12), none, []⟩,
  ⟨some 14, .fieldAddr 7 (.t 2), some (13, true), []⟩,
  ⟨some 15, .load none (.t 14), some (13, true), []⟩,
  ⟨some 16, .len (.t 15), some (13, true), []⟩,
  ⟨some 17, .bin .leq (.t 16) (.c (.p (.int .i64 40))), some (13, true), []⟩,
  ⟨some 18, .pick (.t 13) (.t 17) (.c (.p (.bool false))), none, []⟩,
  ⟨some 19, .move (.t 18), none, []⟩,
  ⟨some 20, .fieldAddr 8 (.t 2), some (19, true), []⟩,
  ⟨some 21, .load none (.t 20), some (19, true), []⟩,
  ⟨some 22, .len (.t 21), some (19, true), []⟩,
  ⟨some 23, .bin .leq (.t 22) (.c (.p (.int .i64 40))), some (19, true), []⟩,
  ⟨some 24, .pick (.t 19) (.t 23) (.c (.p (.bool false))), none, []⟩,
  ⟨some 25, .move (.t 24), none, []⟩,
  ⟨some 26, .fieldAddr 9 (.t 2), some (25, true), []⟩,
  ⟨some 27, .load none (.t 26), some (25, true), []⟩,
  ⟨some 28, .len (.t 27), some (25, true), []⟩,
  ⟨some 29, .bin .leq (.t 28) (.c (.p (.int .i64 40))), some (25, true), []⟩,
  ⟨some 30, .pick (.t 25) (.t 29) (.c (.p (.bool false))), none, []⟩,
  ⟨some 4, .move (.t 30), none, []⟩] [5, 6, 7, 8, 9, 10, 11, 12, 13, 14, 15, 16, 17, 18, 19, 20, 21, 22, 23, 24, 25, 26, 27, 28, 29, 30])
  .ret))⟩

/-- clockwork/clockworklaw42.works -/
def a46 : AFunc := ⟨162, 0, [.tmp 0],
  (.seq (.region false [
  ⟨some 0, .move (.c (.p (.bool false))), none, []⟩] [0])
  (.seq (.region false [
  ⟨some 16, .call false 99 [], none, []⟩,
  ⟨some 17, .call false 47 [.t 16, .c (.p (.str ⟨#[97]⟩))], none, []⟩,
  ⟨some 15, .move (.t 17), none, []⟩,
  ⟨some 18, .extract (.t 15) 0, none, []⟩,
  ⟨some 19, .extract (.t 15) 1, none, []⟩,
  ⟨some 1, .alloc [.int .i64 0, .int .i64 0, .int .i64 0, .int .i64 0, .slice true [], .int .i64 0, .int .i64 0, .slice true [], .slice true [], .slice true []], none, []⟩,
  ⟨none, .store 10 (.t 1) (.t 18), none, []⟩,
  ⟨some 2, .move (.t 19), none, []⟩] [15, 16, 17, 18, 19])
  (.seq (.region false [
  ⟨some 20, .load (some 10) (.t 1), none, []⟩,
  ⟨some 21, .call false 50 [.t 20], none, []⟩,
  ⟨some 3, .move (.t 21), none, []⟩] [20, 21])
  (.seq (.seq (.region false [
  ⟨some 22, .move (.t 2), none, []⟩,
  ⟨some 23, .bin .neq (.t 22) (.c (.p (.int .i64 0))), none, []⟩,
  ⟨some 24, .move (.t 23), none, []⟩,
  ⟨some 25, .move (.t 3), some (24, false), []⟩,
  ⟨some 26, .len (.t 25), some (24, false), []⟩,
  ⟨some 27, .bin .neq (.t 26) (.c (.p (.int .i64 2))), some (24, false), []⟩,
  ⟨some 28, .pick (.t 24) (.c (.p (.bool true))) (.t 27), none, []⟩,
  ⟨some 29, .move (.t 28), none, []⟩,
  ⟨some 30, .fieldAddr 4 (.t 1), some (29, false), []⟩,
  ⟨some 31, .load none (.t 30), some (29, false), []⟩,
  ⟨some 32, .len (.t 31), some (29, false), []⟩,
  ⟨some 33, .bin .neq (.t 32) (.c (.p (.int .i64 1))), some (29, false), []⟩,
  ⟨some 34, .pick (.t 29) (.c (.p (.bool true))) (.t 33), none, []⟩,
  ⟨some 35, .move (.t 34), none, []⟩,
  ⟨some 36, .fieldAddr 6 (.t 1), some (35, false), []⟩,
  ⟨some 37, .load none (.t 36), some (35, false), []⟩,
  ⟨some 38, .bin .neq (.t 37) (.c (.p (.int .i64 0))), some (35, false), []⟩,
  ⟨some 39, .pick (.t 35) (.c (.p (.bool true))) (.t 38), none, []⟩] [2, 22, 23, 24, 25, 26, 27, 28, 29, 30, 31, 32, 33, 34, 35, 36, 37, 38])
  (.cond (.t 39)
  (.seq (.region false [
    ⟨some 0, .move (.c (.p (.bool false))), none, []⟩] [3, 39])
    .ret)
  .skip))
  (.seq (.region false [
  ⟨some 41, .call false 23 [.c (.p (.int .i64 2)), .c (.p (.int .i64 3))], none, []⟩,
  ⟨some 40, .move (.t 41), none, []⟩,
  ⟨some 42, .extract (.t 40) 0, none, []⟩,
  ⟨some 43, .extract (.t 40) 1, none, []⟩,
  ⟨some 4, .alloc [.int .i64 0, .int .i64 0, .int .i64 0, .int .i64 0, .slice true [], .int .i64 0, .int .i64 0, .slice true [], .slice true [], .slice true []], none, []⟩,
  ⟨none, .store 10 (.t 4) (.t 42), none, []⟩,
  ⟨some 5, .move (.t 43), none, []⟩] [5, 39, 40, 41, 42, 43])
  (.seq (.region true [
  ⟨some 45, .load (some 10) (.t 4), none, []⟩,
  ⟨some 46, .move (.t 3), none, []⟩,
  ⟨some 47, .indexAddr 9 (.t 46) (.c (.p (.int .i64 0))), none, [1]⟩,
  ⟨some 48, .load (some 9) (.t 47), none, [1, 2]⟩,
  ⟨some 49, .call false 52 [.t 45, .t 48], none, [0, 1, 2, 3]⟩,
  ⟨some 44, .move (.t 49), none, [0, 1, 2, 3, 4]⟩,
  ⟨some 50, .extract (.t 44) 0, none, [0, 1, 2, 3, 4, 5]⟩,
  ⟨some 51, .extract (.t 44) 1, none, [0, 1, 2, 3, 4, 5]⟩,
  ⟨some 6, .alloc [.int .i64 0, .int .i64 0, .int .i64 0, .int .i64 0, .slice true [], .int .i64 0, .int .i64 0, .slice true [], .slice true [], .slice true []], none, []⟩,
  ⟨none, .store 10 (.t 6) (.t 50), none, [0, 1, 2, 3, 4, 5, 6, 8]⟩,
  ⟨some 7, .move (.t 51), none, [0, 1, 2, 3, 4, 5, 6, 7, 8, 9]⟩] [44, 45, 46, 47, 48, 49, 50, 51])
  (.seq (.seq (.region false [
  ⟨some 52, .move (.t 7), none, []⟩,
  ⟨some 53, .len (.t 52), none, []⟩,
  ⟨some 54, .bin .neq (.t 53) (.c (.p (.int .i64 1))), none, []⟩,
  ⟨some 55, .move (.t 54), none, []⟩,
  ⟨some 56, .fieldAddr 4 (.t 6), some (55, false), []⟩,
  ⟨some 57, .load none (.t 56), some (55, false), []⟩,
  ⟨some 58, .len (.t 57), some (55, false), []⟩,
  ⟨some 59, .bin .neq (.t 58) (.c (.p (.int .i64 1))), some (55, false), []⟩,
  ⟨some 60, .pick (.t 55) (.c (.p (.bool true))) (.t 59), none, []⟩,
  ⟨some 61, .move (.t 60), none, []⟩,
  ⟨some 62, .move (.t 7), some (61, false), []⟩,
  ⟨some 63, .indexAddr 9 (.t 62) (.c (.p (.int .i64 0))), some (61, false), []⟩,
  ⟨some 64, .fieldAddr 7 (.t 63), some (61, false), []⟩,
  ⟨some 65, .load none (.t 64), some (61, false), []⟩,
  ⟨some 66, .un .not (.t 65), some (61, false), []⟩,
  ⟨some 67, .pick (.t 61) (.c (.p (.bool true))) (.t 66), none, []⟩,
  ⟨some 68, .move (.t 67), none, []⟩,
  ⟨some 69, .move (.t 7), some (68, false), []⟩,
  ⟨some 70, .indexAddr 9 (.t 69) (.c (.p (.int .i64 0))), some (68, false), []⟩,
  ⟨some 71, .fieldAddr 4 (.t 70), some (68, false), []⟩,
  ⟨some 72, .load none (.t 71), some (68, false), []⟩,
  ⟨some 73, .bin .neq (.t 72) (.c (.p (.int .i64 1))), some (68, false), []⟩,
  ⟨some 74, .pick (.t 68) (.c (.p (.bool true))) (.t 73), none, []⟩] [52, 53, 54, 55, 56, 57, 58, 59, 60, 61, 62, 63, 64, 65, 66, 67, 68, 69, 70, 71, 72, 73])
  (.cond (.t 74)
  (.seq (.region false [
    ⟨some 0, .move (.c (.p (.bool false))), none, []⟩] [3, 7, 74])
    .ret)
  .skip))
  (.seq (.region true [
  ⟨some 75, .load (some 10) (.t 1), none, []⟩,
  ⟨some 76, .move (.t 7), none, []⟩,
  ⟨some 77, .indexAddr 9 (.t 76) (.c (.p (.int .i64 0))), none, [1]⟩,
  ⟨some 78, .load (some 9) (.t 77), none, [1, 2]⟩,
  ⟨some 79, .call false 100 [.t 75, .t 78], none, [0, 1, 2, 3]⟩,
  ⟨some 8, .alloc [.int .i64 0, .int .i64 0, .int .i64 0, .int .i64 0, .slice true [], .int .i64 0, .int .i64 0, .slice true [], .slice true [], .slice true []], none, []⟩,
  ⟨none, .store 10 (.t 8) (.t 79), none, [0, 1, 2, 3, 4, 5]⟩] [7, 74, 75, 76, 77, 78, 79])
  (.seq (.region false [
  ⟨some 81, .load (some 10) (.t 4), none, []⟩,
  ⟨some 82, .build [.int .i64 0, .int .i64 0, .int .i64 0, .int .i64 0, .int .i64 0, .int .i64 0, .int .i64 0, .bool false, .slice true []] [(0, 1, .c (.p (.int .i64 3))), (1, 1, .c (.p (.int .i64 1))), (2, 1, .c (.p (.int .i64 2))), (3, 1, .c (.p (.int .i64 1))), (4, 1, .c (.p (.int .i64 2))), (5, 1, .c (.p (.int .i64 1)))], none, []⟩,
  ⟨some 83, .call false 52 [.t 81, .t 82], none, []⟩,
  ⟨some 80, .move (.t 83), none, []⟩,
  ⟨some 84, .extract (.t 80) 0, none, []⟩,
  ⟨some 85, .extract (.t 80) 1, none, []⟩,
  ⟨some 9, .alloc [.int .i64 0, .int .i64 0, .int .i64 0, .int .i64 0, .slice true [], .int .i64 0, .int .i64 0, .slice true [], .slice true [], .slice true []], none, []⟩,
  ⟨none, .store 10 (.t 9) (.t 84), none, []⟩,
  ⟨some 10, .move (.t 85), none, []⟩] [80, 81, 82, 83, 84, 85])
  (.seq (.region false [
  ⟨some 86, .call false 99 [], none, []⟩,
  ⟨some 11, .alloc [.int .i64 0, .int .i64 0, .int .i64 0, .int .i64 0, .slice true [], .int .i64 0, .int .i64 0, .slice true [], .slice true [], .slice true []], none, []⟩,
  ⟨none, .store 10 (.t 11) (.t 86), none, []⟩] [86])
  (.seq (.region false [
  ⟨some 87, .build [.int .i64 0, .str ⟨#[]⟩] [(0, 1, .c (.p (.int .i64 1)))], none, []⟩,
  ⟨some 88, .build [.int .i64 0, .str ⟨#[]⟩] [(0, 1, .c (.p (.int .i64 1)))], none, []⟩,
  ⟨some 89, .buildSlice [.int .i64 0, .str ⟨#[]⟩] 2 [(0, .t 87), (1, .t 88)], none, []⟩,
  ⟨some 90, .fieldAddr 4 (.t 11), none, []⟩,
  ⟨none, .store 1 (.t 90) (.t 89), none, []⟩] [87, 88, 89, 90])
  (.seq (.region false [
  ⟨some 91, .buildSlice [.int .i64 0] 3 [(0, .c (.p (.int .i64 2))), (1, .c (.p (.int .i64 2))), (2, .c (.p (.int .i64 2)))], none, []⟩,
  ⟨some 92, .fieldAddr 8 (.t 11), none, []⟩,
  ⟨none, .store 1 (.t 92) (.t 91), none, []⟩] [91, 92])
  (.seq (.region false [
  ⟨some 93, .buildSlice [.int .i64 0] 3 [(0, .c (.p (.int .i64 2))), (1, .c (.p (.int .i64 0))), (2, .c (.p (.int .i64 0)))], none, []⟩,
  ⟨some 94, .fieldAddr 9 (.t 11), none, []⟩,
  ⟨none, .store 1 (.t 94) (.t 93), none, []⟩] [93, 94])
  (.seq (.seq (.region false [
  ⟨some 95, .move (.t 10), none, []⟩,
  ⟨some 96, .len (.t 95), none, []⟩,
  ⟨some 97, .bin .neq (.t 96) (.c (.p (.int .i64 1))), none, []⟩,
  ⟨some 98, .move (.t 97), none, []⟩,
  ⟨some 99, .move (.t 10), some (98, false), []⟩,
  ⟨some 100, .indexAddr 9 (.t 99) (.c (.p (.int .i64 0))), some (98, false), []⟩,
  ⟨some 101, .fieldAddr 7 (.t 100), some (98, false), []⟩,
  ⟨some 102, .load none (.t 101), some (98, false), []⟩,
  ⟨some 103, .pick (.t 98) (.c (.p (.bool true))) (.t 102), none, []⟩,
  ⟨some 104, .move (.t 103), none, []⟩,
  ⟨some 105, .move (.t 10), some (104, false), []⟩,
  ⟨some 106, .indexAddr 9 (.t 105) (.c (.p (.int .i64 0))), some (104, false), []⟩,
  ⟨some 107, .fieldAddr 4 (.t 106), some (104, false), []⟩,
  ⟨some 108, .load none (.t 107), some (104, false), []⟩,
  ⟨some 109, .bin .neq (.t 108) (.c (.p (.int .i64 0))), some (104, false), []⟩,
  ⟨some 110, .pick (.t 104) (.c (.p (.bool true))) (.t 109), none, []⟩] [95, 96, 97, 98, 99, 100, 101, 102, 103, 104, 105, 106, 107, 108, 109])
  (.cond (.t 110)
  (.seq (.region false [
    ⟨some 0, .move (.c (.p (.bool false))), none, []⟩] [3, 10, 110])
    .ret)
  .skip))
  (.seq (.region true [
  ⟨some 111, .load (some 10) (.t 11), none, []⟩,
  ⟨some 112, .move (.t 10), none, []⟩,
  ⟨some 113, .indexAddr 9 (.t 112) (.c (.p (.int .i64 0))), none, [1]⟩,
  ⟨some 114, .load (some 9) (.t 113), none, [1, 2]⟩,
  ⟨some 115, .call false 100 [.t 111, .t 114], none, [0, 1, 2, 3]⟩,
  ⟨some 12, .alloc [.int .i64 0, .int .i64 0, .int .i64 0, .int .i64 0, .slice true [], .int .i64 0, .int .i64 0, .slice true [], .slice true [], .slice true []], none, []⟩,
  ⟨none, .store 10 (.t 12) (.t 115), none, [0, 1, 2, 3, 4, 5]⟩] [10, 110, 111, 112, 113, 114, 115])
  (.seq (.region false [
  ⟨some 117, .load (some 10) (.t 4), none, []⟩,
  ⟨some 118, .call false 47 [.t 117, .c (.p (.str ⟨#[120]⟩))], none, []⟩,
  ⟨some 116, .move (.t 118), none, []⟩,
  ⟨some 119, .extract (.t 116) 0, none, []⟩,
  ⟨some 120, .extract (.t 116) 1, none, []⟩,
  ⟨some 13, .alloc [.int .i64 0, .int .i64 0, .int .i64 0, .int .i64 0, .slice true [], .int .i64 0, .int .i64 0, .slice true [], .slice true [], .slice true []], none, []⟩,
  ⟨none, .store 10 (.t 13) (.t 119), none, []⟩,
  ⟨some 14, .move (.t 120), none, []⟩] [116, 117, 118, 119, 120])
  (.seq (.region false [
  ⟨some 121, .fieldAddr 6 (.t 8), none, []⟩,
  ⟨some 122, .load none (.t 121), none, []⟩,
  ⟨some 123, .bin .eql (.t 122) (.c (.p (.int .i64 1))), none, []⟩,
  ⟨some 124, .move (.t 123), none, []⟩,
  ⟨some 125, .load (some 10) (.t 8), some (124, true), []⟩,
  ⟨some 126, .call false 57 [.t 125], some (124, true), []⟩,
  ⟨some 127, .buildSlice [.str ⟨#[]⟩] 1 [(0, .c (.p (.str ⟨#[97]⟩)))], some (124, true), []⟩,
  ⟨some 128, .call false 56 [.t 126, .t 127], some (124, true), []⟩,
  ⟨some 129, .pick (.t 124) (.t 128) (.c (.p (.bool false))), none, []⟩,
  ⟨some 130, .move (.t 129), none, []⟩,
  ⟨some 131, .fieldAddr 8 (.t 12), some (130, true), []⟩,
  ⟨some 132, .load none (.t 131), some (130, true), []⟩,
  ⟨some 133, .len (.t 132), some (130, true), []⟩,
  ⟨some 134, .bin .eql (.t 133) (.c (.p (.int .i64 3))), some (130, true), []⟩,
  ⟨some 135, .pick (.t 130) (.t 134) (.c (.p (.bool false))), none, []⟩,
  ⟨some 136, .move (.t 135), none, []⟩,
  ⟨some 137, .fieldAddr 8 (.t 12), some (136, true), []⟩,
  ⟨some 138, .load none (.t 137), some (136, true), []⟩,
  ⟨some 139, .indexAddr 1 (.t 138) (.c (.p (.int .i64 1))), some (136, true), []⟩,
  ⟨some 140, .load none (.t 139), some (136, true), []⟩,
  ⟨some 141, .bin .eql (.t 140) (.c (.p (.int .i64 0))), some (136, true), []⟩,
  ⟨some 142, .pick (.t 136) (.t 141) (.c (.p (.bool false))), none, []⟩,
  ⟨some 143, .move (.t 142), none, []⟩,
  ⟨some 144, .move (.t 14), some (143, true), []⟩,
  ⟨some 145, .bin .eql (.t 144) (.c (.p (.int .i64 21))), some (143, true), []⟩,
  ⟨some 146, .pick (.t 143) (.t 145) (.c (.p (.bool false))), none, []⟩,
  ⟨some 147, .move (.t 146), none, []⟩,
  ⟨some 148, .move (.t 3), some (147, true), []⟩,
  ⟨some 149, .indexAddr 9 (.t 148) (.c (.p (.int .i64 1))), some (147, true), []⟩,
  ⟨some 150, .fieldAddr 2 (.t 149), some (147, true), []⟩,
  ⟨some 151, .load none (.t 150), some (147, true), []⟩,
  ⟨some 152, .bin .eql (.t 151) (.c (.p (.int .i64 3))), some (147, true), []⟩,
  ⟨some 153, .pick (.t 147) (.t 152) (.c (.p (.bool false))), none, []⟩,
  ⟨some 154, .move (.t 153), none, []⟩,
  ⟨some 155, .move (.t 3), some (154, true), []⟩,
  ⟨some 156, .indexAddr 9 (.t 155) (.c (.p (.int .i64 1))), some (154, true), []⟩,
  ⟨some 157, .fieldAddr 8 (.t 156), some (154, true), []⟩,
  ⟨some 158, .load none (.t 157), some (154, true), []⟩,
  ⟨some 159, .len (.t 158), some (154, true), []⟩,
  ⟨some 160, .bin .eql (.t 159) (.c (.p (.int .i64 1))), some (154, true), []⟩,
  ⟨some 161, .pick (.t 154) (.t 160) (.c (.p (.bool false))), none, []⟩,
  ⟨some 0, .move (.t 161), none, []⟩] [3, 14, 121, 122, 123, 124, 125, 126, 127, 128, 129, 130, 131, 132, 133, 134, 135, 136, 137, 138, 139, 140, 141, 142, 143, 144, 145, 146, 147, 148, 149, 150, 151, 152, 153, 154, 155, 156, 157, 158, 159, 160, 161])
  .ret)))))))))))))))))⟩

/-- clockwork/replicate.Propose -/
def a47 : AFunc := ⟨61, 2, [.cell 4 10, .tmp 5],
  (.seq (.region false [
  ⟨some 2, .box (.t 0), none, []⟩,
  ⟨some 4, .alloc [.int .i64 0, .int .i64 0, .int .i64 0, .int .i64 0, .slice true [], .int .i64 0, .int .i64 0, .slice true [], .slice true [], .slice true []], none, []⟩,
  ⟨some 5, .move (.c (.p (.int .i64 0))), none, []⟩] [0, 5])
  (.seq (.block 0
  (.seq (.region false [
    ⟨some 8, .load (some 10) (.t 2), none, []⟩,
    ⟨some 9, .call false 28 [.t 8], none, []⟩,
    ⟨some 10, .un .not (.t 9), none, []⟩,
    ⟨some 7, .move (.t 10), none, []⟩] [8, 9, 10])
    (.cond (.t 7)
    (.seq (.region false [
      ⟨some 11, .build [.int .i64 0, .int .i64 0, .int .i64 0, .int .i64 0, .slice true [], .int .i64 0, .int .i64 0, .slice true [], .slice true [], .slice true []] [], none, []⟩,
      ⟨none, .store 10 (.t 4) (.t 11), none, []⟩,
      ⟨some 5, .move (.c (.p (.int .i64 1))), none, []⟩] [1, 7, 11])
      .ret)
    (.seq (.region false [
      ⟨some 13, .fieldAddr 5 (.t 2), none, []⟩,
      ⟨some 14, .load none (.t 13), none, []⟩,
      ⟨some 15, .bin .neq (.t 14) (.c (.p (.int .i64 3))), none, []⟩,
      ⟨some 12, .move (.t 15), none, []⟩] [7, 13, 14, 15])
      (.cond (.t 12)
      (.seq (.region false [
        ⟨some 16, .build [.int .i64 0, .int .i64 0, .int .i64 0, .int .i64 0, .slice true [], .int .i64 0, .int .i64 0, .slice true [], .slice true [], .slice true []] [], none, []⟩,
        ⟨none, .store 10 (.t 4) (.t 16), none, []⟩,
        ⟨some 5, .move (.c (.p (.int .i64 21))), none, []⟩] [1, 12, 16])
        .ret)
      (.seq (.region false [
        ⟨some 18, .move (.t 1), none, []⟩,
        ⟨some 19, .lenS (.t 18), none, []⟩,
        ⟨some 20, .bin .gtr (.t 19) (.c (.p (.int .i64 4096))), none, []⟩,
        ⟨some 17, .move (.t 20), none, []⟩] [12, 18, 19, 20])
        (.cond (.t 17)
        (.seq (.region false [
          ⟨some 21, .build [.int .i64 0, .int .i64 0, .int .i64 0, .int .i64 0, .slice true [], .int .i64 0, .int .i64 0, .slice true [], .slice true [], .slice true []] [], none, []⟩,
          ⟨none, .store 10 (.t 4) (.t 21), none, []⟩,
          ⟨some 5, .move (.c (.p (.int .i64 2))), none, []⟩] [1, 17, 21])
          .ret)
        (.seq (.region false [
          ⟨some 23, .fieldAddr 4 (.t 2), none, []⟩,
          ⟨some 24, .load none (.t 23), none, []⟩,
          ⟨some 25, .len (.t 24), none, []⟩,
          ⟨some 26, .bin .geq (.t 25) (.c (.p (.int .i64 256))), none, []⟩,
          ⟨some 22, .move (.t 26), none, []⟩] [17, 23, 24, 25, 26])
          (.cond (.t 22)
          (.seq (.region false [
            ⟨some 27, .build [.int .i64 0, .int .i64 0, .int .i64 0, .int .i64 0, .slice true [], .int .i64 0, .int .i64 0, .slice true [], .slice true [], .slice true []] [], none, []⟩,
            ⟨none, .store 10 (.t 4) (.t 27), none, []⟩,
            ⟨some 5, .move (.c (.p (.int .i64 17))), none, []⟩] [1, 22, 27])
            .ret)
          .skip)))))))))
  (.seq (.region false [
  ⟨some 28, .load (some 10) (.t 2), none, []⟩,
  ⟨some 29, .call true 101 [.t 28], none, []⟩,
  ⟨some 6, .alloc [.int .i64 0, .int .i64 0, .int .i64 0, .int .i64 0, .slice true [], .int .i64 0, .int .i64 0, .slice true [], .slice true [], .slice true []], none, []⟩,
  ⟨none, .store 10 (.t 6) (.t 29), none, []⟩] [22, 28, 29])
  (.seq (.region false [
  ⟨some 30, .fieldAddr 4 (.t 6), none, []⟩,
  ⟨some 31, .load none (.t 30), none, []⟩,
  ⟨some 32, .fieldAddr 2 (.t 2), none, []⟩,
  ⟨some 33, .load none (.t 32), none, []⟩,
  ⟨some 34, .move (.t 1), none, []⟩,
  ⟨some 35, .build [.int .i64 0, .str ⟨#[]⟩] [(0, 1, .t 33), (1, 1, .t 34)], none, []⟩,
  ⟨some 36, .buildSlice [.int .i64 0, .str ⟨#[]⟩] 1 [(0, .t 35)], none, []⟩,
  ⟨some 37, .append 24 2 (.t 31) (.t 36), none, []⟩,
  ⟨some 38, .fieldAddr 4 (.t 6), none, []⟩,
  ⟨none, .store 1 (.t 38) (.t 37), none, []⟩] [1, 30, 31, 32, 33, 34, 35, 36, 37, 38])
  (.seq (.region false [
  ⟨some 39, .fieldAddr 8 (.t 6), none, []⟩,
  ⟨some 40, .load none (.t 39), none, []⟩,
  ⟨some 41, .fieldAddr 0 (.t 2), none, []⟩,
  ⟨some 42, .load none (.t 41), none, []⟩,
  ⟨some 43, .bin .sub (.t 42) (.c (.p (.int .i64 1))), none, []⟩,
  ⟨some 44, .fieldAddr 4 (.t 6), none, []⟩,
  ⟨some 45, .load none (.t 44), none, []⟩,
  ⟨some 46, .len (.t 45), none, []⟩,
  ⟨some 47, .indexAddr 1 (.t 40) (.t 43), none, []⟩,
  ⟨none, .store 1 (.t 47) (.t 46), none, []⟩] [39, 40, 41, 42, 43, 44, 45, 46, 47])
  (.seq (.region false [
  ⟨some 48, .fieldAddr 9 (.t 6), none, []⟩,
  ⟨some 49, .load none (.t 48), none, []⟩,
  ⟨some 50, .fieldAddr 0 (.t 2), none, []⟩,
  ⟨some 51, .load none (.t 50), none, []⟩,
  ⟨some 52, .bin .sub (.t 51) (.c (.p (.int .i64 1))), none, []⟩,
  ⟨some 53, .fieldAddr 4 (.t 6), none, []⟩,
  ⟨some 54, .load none (.t 53), none, []⟩,
  ⟨some 55, .len (.t 54), none, []⟩,
  ⟨some 56, .indexAddr 1 (.t 49) (.t 52), none, []⟩,
  ⟨none, .store 1 (.t 56) (.t 55), none, []⟩] [48, 49, 50, 51, 52, 53, 54, 55, 56])
  (.seq (.region false [
  ⟨some 57, .load (some 10) (.t 6), none, []⟩,
  ⟨some 58, .call false 102 [.t 57], none, []⟩,
  ⟨some 59, .fieldAddr 6 (.t 6), none, []⟩,
  ⟨none, .store 1 (.t 59) (.t 58), none, []⟩] [57, 58, 59])
  (.seq (.region false [
  ⟨some 60, .load (some 10) (.t 6), none, []⟩,
  ⟨none, .store 10 (.t 4) (.t 60), none, []⟩,
  ⟨some 5, .move (.c (.p (.int .i64 0))), none, []⟩] [60])
  .ret))))))))⟩

/-- clockwork/replicate.Heartbeat -/
@[irreducible] def a50_l0 : ACode :=
  (.seq (.seq (.region false [
  ⟨some 14, .move (.t 4), none, []⟩,
  ⟨some 15, .fieldAddr 1 (.t 1), none, []⟩,
  ⟨some 16, .load none (.t 15), none, []⟩,
  ⟨some 17, .bin .leq (.t 14) (.t 16), none, []⟩] [14, 15, 16])
  (.cond (.t 17)
  .skip
  (.ghost (.forget [4, 17]) (.ghost (.free [1]) (.ghost .lower (.exit 0))))))
  (.seq (.block 1
  (.seq (.seq (.region false [
    ⟨some 20, .move (.t 4), none, []⟩,
    ⟨some 21, .fieldAddr 0 (.t 1), none, []⟩,
    ⟨some 22, .load none (.t 21), none, []⟩,
    ⟨some 23, .bin .eql (.t 20) (.t 22), none, []⟩] [17, 20, 21, 22])
    (.cond (.t 23)
    (.ghost (.forget [23]) (.ghost .lower (.exit 1)))
    .skip))
    (.seq (.region false [
    ⟨some 24, .fieldAddr 8 (.t 1), none, []⟩,
    ⟨some 25, .load none (.t 24), none, []⟩,
    ⟨some 26, .move (.t 4), none, []⟩,
    ⟨some 27, .bin .sub (.t 26) (.c (.p (.int .i64 1))), none, []⟩,
    ⟨some 28, .indexAddr 1 (.t 25) (.t 27), none, []⟩,
    ⟨some 29, .load none (.t 28), none, []⟩,
    ⟨some 5, .move (.t 29), none, []⟩] [23, 24, 25, 26, 27, 28, 29])
    (.region true [
    ⟨some 30, .move (.t 3), none, []⟩,
    ⟨some 31, .fieldAddr 0 (.t 1), none, []⟩,
    ⟨some 32, .load none (.t 31), none, [1]⟩,
    ⟨some 33, .move (.t 4), none, []⟩,
    ⟨some 34, .fieldAddr 2 (.t 1), none, []⟩,
    ⟨some 35, .load none (.t 34), none, [4]⟩,
    ⟨some 36, .move (.t 5), none, []⟩,
    ⟨some 37, .load (some 10) (.t 1), none, []⟩,
    ⟨some 38, .move (.t 5), none, []⟩,
    ⟨some 39, .call false 106 [.t 37, .t 38], none, [7, 8]⟩,
    ⟨some 40, .fieldAddr 6 (.t 1), none, []⟩,
    ⟨some 41, .load none (.t 40), none, [10]⟩,
    ⟨some 42, .fieldAddr 4 (.t 1), none, []⟩,
    ⟨some 43, .load none (.t 42), none, [12]⟩,
    ⟨some 44, .move (.t 5), none, []⟩,
    ⟨some 45, .slice 2 (.t 43) (some (.t 44)) none none, none, [12, 13, 14]⟩,
    ⟨some 46, .call false 97 [.t 45], none, [7, 8, 9, 12, 13, 14, 15]⟩,
    ⟨some 47, .build [.int .i64 0, .int .i64 0, .int .i64 0, .int .i64 0, .int .i64 0, .int .i64 0, .int .i64 0, .bool false, .slice true []] [(0, 1, .c (.p (.int .i64 3))), (1, 1, .t 32), (2, 1, .t 33), (3, 1, .t 35), (4, 1, .t 36), (5, 1, .t 39), (6, 1, .t 41), (8, 1, .t 46)], none, [1, 2, 3, 4, 5, 6, 7, 8, 9, 10, 11, 12, 13, 14, 15, 16]⟩,
    ⟨some 48, .buildSlice [.int .i64 0, .int .i64 0, .int .i64 0, .int .i64 0, .int .i64 0, .int .i64 0, .int .i64 0, .bool false, .slice true []] 1 [(0, .t 47)], none, [1, 2, 3, 4, 5, 6, 7, 8, 9, 10, 11, 12, 13, 14, 15, 16, 17]⟩,
    ⟨some 49, .append 88 9 (.t 30) (.t 48), none, [0, 1, 2, 3, 4, 5, 6, 7, 8, 9, 10, 11, 12, 13, 14, 15, 16, 17, 18]⟩,
    ⟨some 3, .move (.t 49), none, [0, 1, 2, 3, 4, 5, 6, 7, 8, 9, 10, 11, 12, 13, 14, 15, 16, 17, 18, 19]⟩] [5, 30, 31, 32, 33, 34, 35, 36, 37, 38, 39, 40, 41, 42, 43, 44, 45, 46, 47, 48, 49]))))
  (.region false [
  ⟨some 18, .move (.t 4), none, []⟩,
  ⟨some 19, .bin .add (.t 18) (.c (.p (.int .i64 1))), none, []⟩,
  ⟨some 4, .move (.t 19), none, []⟩] [18, 19])))

def a50 : AFunc := ⟨51, 1, [.tmp 2],
  (.seq (.region false [
  ⟨some 1, .box (.t 0), none, []⟩,
  ⟨some 2, .move (.c (.p (.slice true []))), none, []⟩] [0, 2])
  (.seq (.seq (.region false [
  ⟨some 6, .load (some 10) (.t 1), none, []⟩,
  ⟨some 7, .call false 28 [.t 6], none, []⟩,
  ⟨some 8, .un .not (.t 7), none, []⟩,
  ⟨some 9, .move (.t 8), none, []⟩,
  ⟨some 10, .fieldAddr 5 (.t 1), some (9, false), []⟩,
  ⟨some 11, .load none (.t 10), some (9, false), []⟩,
  ⟨some 12, .bin .neq (.t 11) (.c (.p (.int .i64 3))), some (9, false), []⟩,
  ⟨some 13, .pick (.t 9) (.c (.p (.bool true))) (.t 12), none, []⟩] [6, 7, 8, 9, 10, 11, 12])
  (.cond (.t 13)
  (.seq (.region false [
    ⟨some 2, .move (.c (.p (.slice true []))), none, []⟩] [13])
    .ret)
  .skip))
  (.seq (.region false [
  ⟨some 3, .move (.c (.p (.slice true []))), none, []⟩] [13])
  (.ghost (.own 9 3) (.seq (.seq (.region false [
  ⟨some 4, .move (.c (.p (.int .i64 1))), none, []⟩] [])
  (.block 0
  (.loop
    (.ghost .lower a50_l0))))
  (.seq (.region false [
  ⟨some 50, .move (.t 3), none, []⟩,
  ⟨some 2, .move (.t 50), none, []⟩] [3, 50])
  .ret))))))⟩

/-- clockwork/replicate.Append -/
def a52 : AFunc := ⟨141, 2, [.cell 4 10, .tmp 5],
  (.seq (.region false [
  ⟨some 2, .box (.t 0), none, []⟩,
  ⟨some 3, .box (.t 1), none, []⟩,
  ⟨some 4, .alloc [.int .i64 0, .int .i64 0, .int .i64 0, .int .i64 0, .slice true [], .int .i64 0, .int .i64 0, .slice true [], .slice true [], .slice true []], none, []⟩,
  ⟨some 5, .move (.c (.p (.slice true []))), none, []⟩] [0, 1, 5])
  (.seq (.region false [
  ⟨some 9, .load (some 10) (.t 2), none, []⟩,
  ⟨some 10, .call true 101 [.t 9], none, []⟩,
  ⟨some 6, .alloc [.int .i64 0, .int .i64 0, .int .i64 0, .int .i64 0, .slice true [], .int .i64 0, .int .i64 0, .slice true [], .slice true [], .slice true []], none, []⟩,
  ⟨none, .store 10 (.t 6) (.t 10), none, []⟩] [9, 10])
  (.seq (.seq (.region false [
  ⟨some 11, .load (some 10) (.t 2), none, []⟩,
  ⟨some 12, .load (some 9) (.t 3), none, []⟩,
  ⟨some 13, .call false 108 [.t 11, .t 12, .c (.p (.int .i64 3))], none, []⟩,
  ⟨some 14, .un .not (.t 13), none, []⟩] [11, 12, 13])
  (.cond (.t 14)
  (.seq (.region false [
    ⟨some 15, .load (some 10) (.t 6), none, []⟩,
    ⟨none, .store 10 (.t 4) (.t 15), none, []⟩,
    ⟨some 5, .move (.c (.p (.slice true []))), none, []⟩] [14, 15])
    .ret)
  .skip))
  (.seq (.seq (.region false [
  ⟨some 16, .fieldAddr 3 (.t 3), none, []⟩,
  ⟨some 17, .load none (.t 16), none, []⟩,
  ⟨some 18, .fieldAddr 2 (.t 2), none, []⟩,
  ⟨some 19, .load none (.t 18), none, []⟩,
  ⟨some 20, .bin .lss (.t 17) (.t 19), none, []⟩] [14, 16, 17, 18, 19])
  (.cond (.t 20)
  (.seq (.region true [
    ⟨some 21, .load (some 10) (.t 6), none, []⟩,
    ⟨some 22, .load (some 10) (.t 2), none, []⟩,
    ⟨some 23, .fieldAddr 1 (.t 3), none, []⟩,
    ⟨some 24, .load none (.t 23), none, [2]⟩,
    ⟨some 25, .call false 109 [.t 22, .t 24, .c (.p (.int .i64 0)), .c (.p (.bool false))], none, [1, 2, 3]⟩,
    ⟨none, .store 10 (.t 4) (.t 21), none, [0, 1, 2, 3, 4]⟩,
    ⟨some 5, .move (.t 25), none, [0, 1, 2, 3, 4, 5]⟩] [20, 21, 22, 23, 24, 25])
    .ret)
  .skip))
  (.seq (.seq (.region false [
  ⟨some 26, .fieldAddr 3 (.t 3), none, []⟩,
  ⟨some 27, .load none (.t 26), none, []⟩,
  ⟨some 28, .fieldAddr 2 (.t 2), none, []⟩,
  ⟨some 29, .load none (.t 28), none, []⟩,
  ⟨some 30, .bin .gtr (.t 27) (.t 29), none, []⟩] [20, 26, 27, 28, 29])
  (.cond (.t 30)
  (.region false [
    ⟨some 31, .load (some 10) (.t 6), none, []⟩,
    ⟨some 32, .fieldAddr 3 (.t 3), none, []⟩,
    ⟨some 33, .load none (.t 32), none, []⟩,
    ⟨some 34, .call false 110 [.t 31, .t 33], none, []⟩,
    ⟨none, .store 10 (.t 6) (.t 34), none, []⟩] [30, 31, 32, 33, 34])
  .skip))
  (.seq (.seq (.region false [
  ⟨some 35, .fieldAddr 5 (.t 6), none, []⟩,
  ⟨some 36, .load none (.t 35), none, []⟩,
  ⟨some 37, .bin .eql (.t 36) (.c (.p (.int .i64 3))), none, []⟩] [30, 35, 36])
  (.cond (.t 37)
  (.seq (.region false [
    ⟨some 38, .load (some 10) (.t 6), none, []⟩,
    ⟨none, .store 10 (.t 4) (.t 38), none, []⟩,
    ⟨some 5, .move (.c (.p (.slice true []))), none, []⟩] [37, 38])
    .ret)
  .skip))
  (.seq (.region false [
  ⟨some 39, .fieldAddr 5 (.t 6), none, []⟩,
  ⟨none, .store 1 (.t 39) (.c (.p (.int .i64 1))), none, []⟩] [37, 39])
  (.seq (.region false [
  ⟨some 40, .fieldAddr 7 (.t 6), none, []⟩,
  ⟨none, .store 1 (.t 40) (.c (.p (.slice true []))), none, []⟩] [40])
  (.seq (.seq (.region true [
  ⟨some 41, .fieldAddr 4 (.t 6), none, []⟩,
  ⟨some 42, .load none (.t 41), none, [0]⟩,
  ⟨some 43, .len (.t 42), none, [0, 1]⟩,
  ⟨some 44, .fieldAddr 4 (.t 3), none, []⟩,
  ⟨some 45, .load none (.t 44), none, [3]⟩,
  ⟨some 46, .bin .lss (.t 43) (.t 45), none, [0, 1, 2, 3, 4]⟩,
  ⟨some 47, .move (.t 46), none, [0, 1, 2, 3, 4, 5]⟩,
  ⟨some 48, .fieldAddr 4 (.t 3), some (47, false), [0, 1, 2, 3, 4, 5, 6]⟩,
  ⟨some 49, .load none (.t 48), some (47, false), [0, 1, 2, 3, 4, 5, 6, 7]⟩,
  ⟨some 50, .bin .neq (.t 49) (.c (.p (.int .i64 0))), some (47, false), [0, 1, 2, 3, 4, 5, 6, 7, 8]⟩,
  ⟨some 51, .move (.t 50), some (47, false), [0, 1, 2, 3, 4, 5, 6, 7, 8, 9]⟩,
  ⟨some 52, .load (some 10) (.t 6), some (51, true), [0, 1, 2, 3, 4, 5, 6, 7, 8, 9, 10]⟩,
  ⟨some 53, .fieldAddr 4 (.t 3), some (51, true), [0, 1, 2, 3, 4, 5, 6, 7, 8, 9, 10]⟩,
  ⟨some 54, .load none (.t 53), some (51, true), [0, 1, 2, 3, 4, 5, 6, 7, 8, 9, 10, 12]⟩,
  ⟨some 55, .call false 106 [.t 52, .t 54], some (51, true), [0, 1, 2, 3, 4, 5, 6, 7, 8, 9, 10, 11, 12, 13]⟩,
  ⟨some 56, .fieldAddr 5 (.t 3), some (51, true), [0, 1, 2, 3, 4, 5, 6, 7, 8, 9, 10]⟩,
  ⟨some 57, .load none (.t 56), some (51, true), [0, 1, 2, 3, 4, 5, 6, 7, 8, 9, 10, 15]⟩,
  ⟨some 58, .bin .neq (.t 55) (.t 57), some (51, true), [0, 1, 2, 3, 4, 5, 6, 7, 8, 9, 10, 11, 12, 13, 14, 15, 16]⟩,
  ⟨some 59, .pick (.t 51) (.t 58) (.c (.p (.bool false))), some (47, false), [0, 1, 2, 3, 4, 5, 6, 7, 8, 9, 10, 11, 12, 13, 14, 15, 16, 17]⟩,
  ⟨some 60, .pick (.t 47) (.c (.p (.bool true))) (.t 59), none, [0, 1, 2, 3, 4, 5, 6, 7, 8, 9, 10, 11, 12, 13, 14, 15, 16, 17, 18]⟩] [41, 42, 43, 44, 45, 46, 47, 48, 49, 50, 51, 52, 53, 54, 55, 56, 57, 58, 59])
  (.cond (.t 60)
  (.seq (.region true [
    ⟨some 61, .load (some 10) (.t 6), none, []⟩,
    ⟨some 62, .load (some 10) (.t 6), none, []⟩,
    ⟨some 63, .fieldAddr 1 (.t 3), none, []⟩,
    ⟨some 64, .load none (.t 63), none, [2]⟩,
    ⟨some 65, .fieldAddr 4 (.t 6), none, []⟩,
    ⟨some 66, .load none (.t 65), none, [4]⟩,
    ⟨some 67, .len (.t 66), none, [4, 5]⟩,
    ⟨some 68, .fieldAddr 4 (.t 3), none, []⟩,
    ⟨some 69, .load none (.t 68), none, [7]⟩,
    ⟨some 70, .bin .sub (.t 69) (.c (.p (.int .i64 1))), none, [7, 8]⟩,
    ⟨some 71, .minmax false (.t 67) [.t 70], none, [4, 5, 6, 7, 8, 9]⟩,
    ⟨some 72, .call false 109 [.t 62, .t 64, .t 71, .c (.p (.bool false))], none, [1, 2, 3, 4, 5, 6, 7, 8, 9, 10]⟩,
    ⟨none, .store 10 (.t 4) (.t 61), none, [0, 1, 2, 3, 4, 5, 6, 7, 8, 9, 10, 11]⟩,
    ⟨some 5, .move (.t 72), none, [0, 1, 2, 3, 4, 5, 6, 7, 8, 9, 10, 11, 12]⟩] [60, 61, 62, 63, 64, 65, 66, 67, 68, 69, 70, 71, 72])
    .ret)
  .skip))
  (.seq (.region false [
  ⟨some 73, .fieldAddr 4 (.t 3), none, []⟩,
  ⟨some 74, .load none (.t 73), none, []⟩,
  ⟨some 75, .fieldAddr 8 (.t 3), none, []⟩,
  ⟨some 76, .load none (.t 75), none, []⟩,
  ⟨some 77, .len (.t 76), none, []⟩,
  ⟨some 78, .bin .add (.t 74) (.t 77), none, []⟩,
  ⟨some 7, .move (.t 78), none, []⟩] [60, 73, 74, 75, 76, 77, 78])
  (.seq (.region false [
  ⟨some 79, .fieldAddr 4 (.t 6), none, []⟩,
  ⟨some 80, .load none (.t 79), none, []⟩,
  ⟨some 81, .fieldAddr 4 (.t 3), none, []⟩,
  ⟨some 82, .load none (.t 81), none, []⟩,
  ⟨some 83, .fieldAddr 8 (.t 3), none, []⟩,
  ⟨some 84, .load none (.t 83), none, []⟩,
  ⟨some 85, .call false 111 [.t 80, .t 82, .t 84], none, []⟩,
  ⟨some 8, .move (.t 85), none, []⟩] [79, 80, 81, 82, 83, 84, 85])
  (.seq (.seq (.region false [
  ⟨some 86, .move (.t 7), none, []⟩,
  ⟨some 87, .bin .gtr (.t 86) (.c (.p (.int .i64 256))), none, []⟩,
  ⟨some 88, .move (.t 87), none, []⟩,
  ⟨some 89, .move (.t 8), some (88, false), []⟩,
  ⟨some 90, .fieldAddr 8 (.t 3), some (88, false), []⟩,
  ⟨some 91, .load none (.t 90), some (88, false), []⟩,
  ⟨some 92, .len (.t 91), some (88, false), []⟩,
  ⟨some 93, .bin .lss (.t 89) (.t 92), some (88, false), []⟩,
  ⟨some 94, .move (.t 93), some (88, false), []⟩,
  ⟨some 95, .fieldAddr 4 (.t 3), some (94, true), []⟩,
  ⟨some 96, .load none (.t 95), some (94, true), []⟩,
  ⟨some 97, .move (.t 8), some (94, true), []⟩,
  ⟨some 98, .bin .add (.t 96) (.t 97), some (94, true), []⟩,
  ⟨some 99, .fieldAddr 6 (.t 6), some (94, true), []⟩,
  ⟨some 100, .load none (.t 99), some (94, true), []⟩,
  ⟨some 101, .bin .lss (.t 98) (.t 100), some (94, true), []⟩,
  ⟨some 102, .pick (.t 94) (.t 101) (.c (.p (.bool false))), some (88, false), []⟩,
  ⟨some 103, .pick (.t 88) (.c (.p (.bool true))) (.t 102), none, []⟩] [86, 87, 88, 89, 90, 91, 92, 93, 94, 95, 96, 97, 98, 99, 100, 101, 102])
  (.cond (.t 103)
  (.seq (.region false [
    ⟨some 104, .load (some 10) (.t 6), none, []⟩,
    ⟨none, .store 10 (.t 4) (.t 104), none, []⟩,
    ⟨some 5, .move (.c (.p (.slice true []))), none, []⟩] [7, 8, 103, 104])
    .ret)
  .skip))
  (.seq (.seq (.region false [
  ⟨some 105, .move (.t 8), none, []⟩,
  ⟨some 106, .fieldAddr 8 (.t 3), none, []⟩,
  ⟨some 107, .load none (.t 106), none, []⟩,
  ⟨some 108, .len (.t 107), none, []⟩,
  ⟨some 109, .bin .lss (.t 105) (.t 108), none, []⟩] [103, 105, 106, 107, 108])
  (.cond (.t 109)
  (.region true [
    ⟨some 110, .fieldAddr 4 (.t 6), none, []⟩,
    ⟨some 111, .load none (.t 110), none, [0]⟩,
    ⟨some 112, .fieldAddr 4 (.t 3), none, []⟩,
    ⟨some 113, .load none (.t 112), none, [2]⟩,
    ⟨some 114, .move (.t 8), none, []⟩,
    ⟨some 115, .bin .add (.t 113) (.t 114), none, [2, 3, 4]⟩,
    ⟨some 116, .fieldAddr 4 (.t 3), none, []⟩,
    ⟨some 117, .load none (.t 116), none, [6]⟩,
    ⟨some 118, .move (.t 8), none, []⟩,
    ⟨some 119, .bin .add (.t 117) (.t 118), none, [6, 7, 8]⟩,
    ⟨some 120, .slice 2 (.t 111) none (some (.t 115)) (some (.t 119)), none, [0, 1, 2, 3, 4, 5, 6, 7, 8, 9]⟩,
    ⟨some 121, .fieldAddr 8 (.t 3), none, []⟩,
    ⟨some 122, .load none (.t 121), none, [11]⟩,
    ⟨some 123, .move (.t 8), none, []⟩,
    ⟨some 124, .slice 2 (.t 122) (some (.t 123)) none none, none, [11, 12, 13]⟩,
    ⟨some 125, .append 24 2 (.t 120) (.t 124), none, [0, 1, 2, 3, 4, 5, 6, 7, 8, 9, 10, 11, 12, 13, 14]⟩,
    ⟨some 126, .fieldAddr 4 (.t 6), none, [0, 1, 2, 3, 4, 5, 6, 7, 8, 9, 10, 11, 12, 13, 14, 15]⟩,
    ⟨none, .store 1 (.t 126) (.t 125), none, [0, 1, 2, 3, 4, 5, 6, 7, 8, 9, 10, 11, 12, 13, 14, 15, 16]⟩] [8, 109, 110, 111, 112, 113, 114, 115, 116, 117, 118, 119, 120, 121, 122, 123, 124, 125, 126])
  .skip))
  (.seq (.region false [
  ⟨some 127, .fieldAddr 6 (.t 6), none, []⟩,
  ⟨some 128, .load none (.t 127), none, []⟩,
  ⟨some 129, .fieldAddr 6 (.t 3), none, []⟩,
  ⟨some 130, .load none (.t 129), none, []⟩,
  ⟨some 131, .move (.t 7), none, []⟩,
  ⟨some 132, .minmax false (.t 130) [.t 131], none, []⟩,
  ⟨some 133, .minmax true (.t 128) [.t 132], none, []⟩,
  ⟨some 134, .fieldAddr 6 (.t 6), none, []⟩,
  ⟨none, .store 1 (.t 134) (.t 133), none, []⟩] [8, 109, 127, 128, 129, 130, 131, 132, 133, 134])
  (.seq (.region true [
  ⟨some 135, .load (some 10) (.t 6), none, []⟩,
  ⟨some 136, .load (some 10) (.t 6), none, []⟩,
  ⟨some 137, .fieldAddr 1 (.t 3), none, []⟩,
  ⟨some 138, .load none (.t 137), none, [2]⟩,
  ⟨some 139, .move (.t 7), none, []⟩,
  ⟨some 140, .call false 109 [.t 136, .t 138, .t 139, .c (.p (.bool true))], none, [1, 2, 3, 4]⟩,
  ⟨none, .store 10 (.t 4) (.t 135), none, [0, 1, 2, 3, 4, 5]⟩,
  ⟨some 5, .move (.t 140), none, [0, 1, 2, 3, 4, 5, 6]⟩] [7, 135, 136, 137, 138, 139, 140])
  .ret)))))))))))))))⟩

/-- clockwork/replicate.Receive -/
def a54 : AFunc := ⟨36, 2, [.cell 4 10, .tmp 5],
  (.seq (.region false [
  ⟨some 2, .box (.t 0), none, []⟩,
  ⟨some 3, .box (.t 1), none, []⟩,
  ⟨some 4, .alloc [.int .i64 0, .int .i64 0, .int .i64 0, .int .i64 0, .slice true [], .int .i64 0, .int .i64 0, .slice true [], .slice true [], .slice true []], none, []⟩,
  ⟨some 5, .move (.c (.p (.slice true []))), none, []⟩] [0, 1, 5])
  (.seq (.seq (.region false [
  ⟨some 6, .fieldAddr 0 (.t 3), none, []⟩,
  ⟨some 7, .load none (.t 6), none, []⟩] [6])
  (.block 0
  (.seq (.region false [
    ⟨some 9, .bin .eql (.t 7) (.c (.p (.int .i64 1))), none, []⟩,
    ⟨some 8, .move (.t 9), none, []⟩] [9])
    (.cond (.t 8)
    (.seq (.region false [
      ⟨some 10, .load (some 10) (.t 2), none, []⟩,
      ⟨some 11, .load (some 9) (.t 3), none, []⟩,
      ⟨some 12, .call false 36 [.t 10, .t 11], none, []⟩,
      ⟨some 13, .extract (.t 12) 0, none, []⟩,
      ⟨some 14, .extract (.t 12) 1, none, []⟩,
      ⟨none, .store 10 (.t 4) (.t 13), none, []⟩,
      ⟨some 5, .move (.t 14), none, []⟩] [7, 8, 10, 11, 12, 13, 14])
      .ret)
    (.seq (.region false [
      ⟨some 16, .bin .eql (.t 7) (.c (.p (.int .i64 2))), none, []⟩,
      ⟨some 15, .move (.t 16), none, []⟩] [8, 16])
      (.cond (.t 15)
      (.seq (.region false [
        ⟨some 17, .load (some 10) (.t 2), none, []⟩,
        ⟨some 18, .load (some 9) (.t 3), none, []⟩,
        ⟨some 19, .call false 41 [.t 17, .t 18], none, []⟩,
        ⟨some 20, .extract (.t 19) 0, none, []⟩,
        ⟨some 21, .extract (.t 19) 1, none, []⟩,
        ⟨none, .store 10 (.t 4) (.t 20), none, []⟩,
        ⟨some 5, .move (.t 21), none, []⟩] [7, 15, 17, 18, 19, 20, 21])
        .ret)
      (.seq (.region false [
        ⟨some 23, .bin .eql (.t 7) (.c (.p (.int .i64 3))), none, []⟩,
        ⟨some 22, .move (.t 23), none, []⟩] [15, 23])
        (.cond (.t 22)
        (.seq (.region false [
          ⟨some 24, .load (some 10) (.t 2), none, []⟩,
          ⟨some 25, .load (some 9) (.t 3), none, []⟩,
          ⟨some 26, .call false 52 [.t 24, .t 25], none, []⟩,
          ⟨some 27, .extract (.t 26) 0, none, []⟩,
          ⟨some 28, .extract (.t 26) 1, none, []⟩,
          ⟨none, .store 10 (.t 4) (.t 27), none, []⟩,
          ⟨some 5, .move (.t 28), none, []⟩] [7, 22, 24, 25, 26, 27, 28])
          .ret)
        (.seq (.region false [
          ⟨some 30, .bin .eql (.t 7) (.c (.p (.int .i64 4))), none, []⟩,
          ⟨some 29, .move (.t 30), none, []⟩] [7, 22, 30])
          (.cond (.t 29)
          (.seq (.region false [
            ⟨some 31, .load (some 10) (.t 2), none, []⟩,
            ⟨some 32, .load (some 9) (.t 3), none, []⟩,
            ⟨some 33, .call false 100 [.t 31, .t 32], none, []⟩,
            ⟨none, .store 10 (.t 4) (.t 33), none, []⟩,
            ⟨some 5, .move (.c (.p (.slice true []))), none, []⟩] [29, 31, 32, 33])
            .ret)
          .skip))))))))))
  (.seq (.region false [
  ⟨some 34, .load (some 10) (.t 2), none, []⟩,
  ⟨some 35, .call true 101 [.t 34], none, []⟩,
  ⟨none, .store 10 (.t 4) (.t 35), none, []⟩,
  ⟨some 5, .move (.c (.p (.slice true []))), none, []⟩] [29, 34, 35])
  .ret)))⟩

/-- clockwork/clockworkref04.Same -/
@[irreducible] def a56_l0 : ACode :=
  (.seq (.seq (.region false [
  ⟨some 11, .move (.t 5), none, []⟩,
  ⟨some 12, .move (.t 0), none, []⟩,
  ⟨some 13, .len (.t 12), none, []⟩,
  ⟨some 14, .bin .lss (.t 11) (.t 13), none, []⟩] [11, 12, 13])
  (.cond (.t 14)
  .skip
  (.ghost (.forget [0, 1, 5, 14]) (.ghost .lower (.exit 0)))))
  (.seq (.block 1
  (.seq (.region true [
    ⟨some 17, .move (.t 0), none, []⟩,
    ⟨some 18, .move (.t 5), none, []⟩,
    ⟨some 19, .indexAddr 1 (.t 17) (.t 18), none, [0, 1]⟩,
    ⟨some 20, .load none (.t 19), none, [0, 1, 2]⟩,
    ⟨some 21, .move (.t 1), none, []⟩,
    ⟨some 22, .move (.t 5), none, []⟩,
    ⟨some 23, .indexAddr 1 (.t 21) (.t 22), none, [4, 5]⟩,
    ⟨some 24, .load none (.t 23), none, [4, 5, 6]⟩,
    ⟨some 25, .bin .neq (.t 20) (.t 24), none, [0, 1, 2, 3, 4, 5, 6, 7]⟩] [14, 17, 18, 19, 20, 21, 22, 23, 24])
    (.cond (.t 25)
    (.seq (.region false [
      ⟨some 4, .move (.c (.p (.bool false))), none, []⟩] [0, 1, 5, 25])
      .ret)
    .skip)))
  (.region false [
  ⟨some 15, .move (.t 5), none, []⟩,
  ⟨some 16, .bin .add (.t 15) (.c (.p (.int .i64 1))), none, []⟩,
  ⟨some 5, .move (.t 16), none, []⟩] [15, 16, 25])))

def a56 : AFunc := ⟨26, 2, [.tmp 4],
  (.seq (.region false [
  ⟨some 4, .move (.c (.p (.bool false))), none, []⟩] [4])
  (.seq (.seq (.region false [
  ⟨some 6, .move (.t 0), none, []⟩,
  ⟨some 7, .len (.t 6), none, []⟩,
  ⟨some 8, .move (.t 1), none, []⟩,
  ⟨some 9, .len (.t 8), none, []⟩,
  ⟨some 10, .bin .neq (.t 7) (.t 9), none, []⟩] [6, 7, 8, 9])
  (.cond (.t 10)
  (.seq (.region false [
    ⟨some 4, .move (.c (.p (.bool false))), none, []⟩] [0, 1, 10])
    .ret)
  .skip))
  (.seq (.seq (.region false [
  ⟨some 5, .move (.c (.p (.int .i64 0))), none, []⟩] [10])
  (.block 0
  (.loop
    (.ghost .lower a56_l0))))
  (.seq (.region false [
  ⟨some 4, .move (.c (.p (.bool true))), none, []⟩] [])
  .ret))))⟩

/-- clockwork/replicate.Committed -/
@[irreducible] def a57_l0 : ACode :=
  (.seq (.region false [
  ⟨some 18, .bin .lss (.t 17) (.t 16), none, []⟩] [])
  (.seq (.cond (.t 18)
  .skip
  (.ghost (.forget [15, 16, 17, 18]) (.ghost .lower (.exit 0))))
  (.seq (.block 1
  (.seq (.region false [
    ⟨some 19, .indexAddr 2 (.t 15) (.t 17), none, []⟩,
    ⟨some 20, .load (some 2) (.t 19), none, []⟩,
    ⟨some 5, .alloc [.int .i64 0, .str ⟨#[]⟩], none, []⟩,
    ⟨none, .store 2 (.t 5) (.t 20), none, []⟩] [18, 19, 20])
    (.region false [
    ⟨some 21, .move (.t 3), none, []⟩,
    ⟨some 22, .fieldAddr 1 (.t 5), none, []⟩,
    ⟨some 23, .load none (.t 22), none, []⟩,
    ⟨some 24, .buildSlice [.str ⟨#[]⟩] 1 [(0, .t 23)], none, []⟩,
    ⟨some 25, .append 16 1 (.t 21) (.t 24), none, []⟩,
    ⟨some 3, .move (.t 25), none, []⟩] [21, 22, 23, 24, 25])))
  (.region false [
  ⟨some 26, .bin .add (.t 17) (.c (.p (.int .i64 1))), none, []⟩,
  ⟨some 17, .move (.t 26), none, []⟩] [26]))))

def a57 : AFunc := ⟨28, 1, [.tmp 2],
  (.seq (.region false [
  ⟨some 1, .box (.t 0), none, []⟩,
  ⟨some 2, .move (.c (.p (.slice true []))), none, []⟩] [0, 2])
  (.seq (.region false [
  ⟨some 3, .move (.c (.p (.slice true []))), none, []⟩] [])
  (.ghost (.own 1 3) (.seq (.seq (.region false [
  ⟨some 6, .fieldAddr 4 (.t 1), none, []⟩,
  ⟨some 7, .load none (.t 6), none, []⟩,
  ⟨some 8, .fieldAddr 6 (.t 1), none, []⟩,
  ⟨some 9, .load none (.t 8), none, []⟩,
  ⟨some 10, .fieldAddr 4 (.t 1), none, []⟩,
  ⟨some 11, .load none (.t 10), none, []⟩,
  ⟨some 12, .len (.t 11), none, []⟩,
  ⟨some 13, .minmax false (.t 9) [.t 12], none, []⟩,
  ⟨some 14, .minmax true (.t 13) [.c (.p (.int .i64 0))], none, []⟩,
  ⟨some 15, .slice 2 (.t 7) none (some (.t 14)) none, none, []⟩,
  ⟨some 16, .len (.t 15), none, []⟩,
  ⟨some 17, .move (.c (.p (.int .i64 0))), none, []⟩] [6, 7, 8, 9, 10, 11, 12, 13, 14])
  (.block 0
  (.loop
    (.ghost (.free [1, 5]) (.ghost .lower a57_l0)))))
  (.seq (.region false [
  ⟨some 27, .move (.t 3), none, []⟩,
  ⟨some 2, .move (.t 27), none, []⟩] [3, 27])
  .ret)))))⟩

/-- clockwork/clockworklaw42.begins -/
def a59 : AFunc := ⟨18, 2, [.tmp 4],
  (.seq (.region false [
  ⟨some 4, .move (.c (.p (.bool false))), none, []⟩] [4])
  (.seq (.region false [
  ⟨some 5, .move (.t 0), none, []⟩,
  ⟨some 6, .len (.t 5), none, []⟩,
  ⟨some 7, .move (.t 1), none, []⟩,
  ⟨some 8, .len (.t 7), none, []⟩,
  ⟨some 9, .bin .geq (.t 6) (.t 8), none, []⟩,
  ⟨some 10, .move (.t 9), none, []⟩,
  ⟨some 11, .move (.t 0), some (10, true), []⟩,
  ⟨some 12, .move (.t 1), some (10, true), []⟩,
  ⟨some 13, .len (.t 12), some (10, true), []⟩,
  ⟨some 14, .slice 1 (.t 11) none (some (.t 13)) none, some (10, true), []⟩,
  ⟨some 15, .move (.t 1), some (10, true), []⟩,
  ⟨some 16, .call false 56 [.t 14, .t 15], some (10, true), []⟩,
  ⟨some 17, .pick (.t 10) (.t 16) (.c (.p (.bool false))), none, []⟩,
  ⟨some 4, .move (.t 17), none, []⟩] [0, 1, 5, 6, 7, 8, 9, 10, 11, 12, 13, 14, 15, 16, 17])
  .ret))⟩

/-- clockwork/election.validLog -/
@[irreducible] def a75_l0 : ACode :=
  (.seq (.region false [
  ⟨some 11, .bin .lss (.t 10) (.t 9), none, []⟩] [])
  (.seq (.cond (.t 11)
  .skip
  (.ghost (.forget [8, 9, 10, 11]) (.ghost .lower (.exit 0))))
  (.seq (.block 1
  (.seq (.region false [
    ⟨some 12, .indexAddr 2 (.t 8) (.t 10), none, []⟩,
    ⟨some 13, .load (some 2) (.t 12), none, []⟩,
    ⟨some 4, .alloc [.int .i64 0, .str ⟨#[]⟩], none, []⟩,
    ⟨none, .store 2 (.t 4) (.t 13), none, []⟩] [11, 12, 13])
    (.seq (.region false [
    ⟨some 14, .fieldAddr 0 (.t 4), none, []⟩,
    ⟨some 15, .load none (.t 14), none, []⟩,
    ⟨some 16, .bin .lss (.t 15) (.c (.p (.int .i64 1))), none, []⟩,
    ⟨some 17, .move (.t 16), none, []⟩,
    ⟨some 18, .fieldAddr 0 (.t 4), some (17, false), []⟩,
    ⟨some 19, .load none (.t 18), some (17, false), []⟩,
    ⟨some 20, .bin .gtr (.t 19) (.c (.p (.int .i64 1099511627776))), some (17, false), []⟩,
    ⟨some 21, .pick (.t 17) (.c (.p (.bool true))) (.t 20), none, []⟩,
    ⟨some 22, .move (.t 21), none, []⟩,
    ⟨some 23, .fieldAddr 1 (.t 4), some (22, false), []⟩,
    ⟨some 24, .load none (.t 23), some (22, false), []⟩,
    ⟨some 25, .lenS (.t 24), some (22, false), []⟩,
    ⟨some 26, .bin .gtr (.t 25) (.c (.p (.int .i64 4096))), some (22, false), []⟩,
    ⟨some 27, .pick (.t 22) (.c (.p (.bool true))) (.t 26), none, []⟩] [14, 15, 16, 17, 18, 19, 20, 21, 22, 23, 24, 25, 26])
    (.cond (.t 27)
    (.seq (.region false [
      ⟨some 2, .move (.c (.p (.bool false))), none, []⟩] [8, 9, 10, 27])
      .ret)
    .skip))))
  (.region false [
  ⟨some 28, .bin .add (.t 10) (.c (.p (.int .i64 1))), none, []⟩,
  ⟨some 10, .move (.t 28), none, []⟩] [27, 28]))))

def a75 : AFunc := ⟨29, 1, [.tmp 2],
  (.seq (.region false [
  ⟨some 2, .move (.c (.p (.bool false))), none, []⟩] [2])
  (.seq (.seq (.region false [
  ⟨some 5, .move (.t 0), none, []⟩,
  ⟨some 6, .len (.t 5), none, []⟩,
  ⟨some 7, .bin .gtr (.t 6) (.c (.p (.int .i64 256))), none, []⟩] [5, 6])
  (.cond (.t 7)
  (.seq (.region false [
    ⟨some 2, .move (.c (.p (.bool false))), none, []⟩] [0, 7])
    .ret)
  .skip))
  (.seq (.seq (.region false [
  ⟨some 8, .move (.t 0), none, []⟩,
  ⟨some 9, .len (.t 8), none, []⟩,
  ⟨some 10, .move (.c (.p (.int .i64 0))), none, []⟩] [0, 7])
  (.block 0
  (.loop
    (.ghost (.free [4]) (.ghost .lower a75_l0)))))
  (.seq (.region false [
  ⟨some 2, .move (.c (.p (.bool true))), none, []⟩] [])
  .ret))))⟩

/-- (clockwork/election.voter).validVotes -/
@[irreducible] def a76_l0 : ACode :=
  (.seq (.region false [
  ⟨some 11, .bin .lss (.t 10) (.t 9), none, []⟩] [])
  (.seq (.cond (.t 11)
  .skip
  (.ghost (.forget [8, 9, 10, 11]) (.ghost .lower (.exit 0))))
  (.seq (.block 1
  (.seq (.region false [
    ⟨some 12, .move (.t 10), none, []⟩,
    ⟨some 13, .indexAddr 1 (.t 8) (.t 10), none, []⟩,
    ⟨some 14, .load none (.t 13), none, []⟩,
    ⟨some 4, .move (.t 12), none, []⟩,
    ⟨some 5, .move (.t 14), none, []⟩] [11, 12, 13, 14])
    (.seq (.seq (.region false [
    ⟨some 15, .move (.t 5), none, []⟩,
    ⟨some 16, .bin .lss (.t 15) (.c (.p (.int .i64 1))), none, []⟩,
    ⟨some 17, .move (.t 16), none, []⟩,
    ⟨some 18, .move (.t 5), some (17, false), []⟩,
    ⟨some 19, .fieldAddr 0 (.t 1), some (17, false), []⟩,
    ⟨some 20, .fieldAddr 1 (.t 19), some (17, false), []⟩,
    ⟨some 21, .load none (.t 20), some (17, false), []⟩,
    ⟨some 22, .bin .gtr (.t 18) (.t 21), some (17, false), []⟩,
    ⟨some 23, .pick (.t 17) (.c (.p (.bool true))) (.t 22), none, []⟩,
    ⟨some 24, .move (.t 23), none, []⟩,
    ⟨some 25, .move (.t 4), some (24, false), []⟩,
    ⟨some 26, .bin .gtr (.t 25) (.c (.p (.int .i64 0))), some (24, false), []⟩,
    ⟨some 27, .move (.t 26), some (24, false), []⟩,
    ⟨some 28, .move (.t 5), some (27, true), []⟩,
    ⟨some 29, .fieldAddr 0 (.t 1), some (27, true), []⟩,
    ⟨some 30, .fieldAddr 7 (.t 29), some (27, true), []⟩,
    ⟨some 31, .load none (.t 30), some (27, true), []⟩,
    ⟨some 32, .move (.t 4), some (27, true), []⟩,
    ⟨some 33, .bin .sub (.t 32) (.c (.p (.int .i64 1))), some (27, true), []⟩,
    ⟨some 34, .indexAddr 1 (.t 31) (.t 33), some (27, true), []⟩,
    ⟨some 35, .load none (.t 34), some (27, true), []⟩,
    ⟨some 36, .bin .leq (.t 28) (.t 35), some (27, true), []⟩,
    ⟨some 37, .pick (.t 27) (.t 36) (.c (.p (.bool false))), some (24, false), []⟩,
    ⟨some 38, .pick (.t 24) (.c (.p (.bool true))) (.t 37), none, []⟩] [4, 15, 16, 17, 18, 19, 20, 21, 22, 23, 24, 25, 26, 27, 28, 29, 30, 31, 32, 33, 34, 35, 36, 37])
    (.cond (.t 38)
    (.seq (.region false [
      ⟨some 2, .move (.c (.p (.bool false))), none, []⟩] [3, 5, 8, 9, 10, 38])
      .ret)
    .skip))
    (.region false [
    ⟨some 39, .move (.t 3), none, []⟩,
    ⟨some 40, .move (.t 39), none, []⟩,
    ⟨some 41, .move (.t 5), some (40, false), []⟩,
    ⟨some 42, .fieldAddr 0 (.t 1), some (40, false), []⟩,
    ⟨some 43, .fieldAddr 0 (.t 42), some (40, false), []⟩,
    ⟨some 44, .load none (.t 43), some (40, false), []⟩,
    ⟨some 45, .bin .eql (.t 41) (.t 44), some (40, false), []⟩,
    ⟨some 46, .pick (.t 40) (.c (.p (.bool true))) (.t 45), none, []⟩,
    ⟨some 3, .move (.t 46), none, []⟩] [5, 38, 39, 40, 41, 42, 43, 44, 45, 46]))))
  (.region false [
  ⟨some 47, .bin .add (.t 10) (.c (.p (.int .i64 1))), none, []⟩,
  ⟨some 10, .move (.t 47), none, []⟩] [47]))))

def a76 : AFunc := ⟨60, 1, [.tmp 2],
  (.seq (.region false [
  ⟨some 1, .box (.t 0), none, []⟩,
  ⟨some 2, .move (.c (.p (.bool false))), none, []⟩] [0, 2])
  (.seq (.region false [
  ⟨some 3, .move (.c (.p (.bool false))), none, []⟩] [])
  (.seq (.seq (.region false [
  ⟨some 6, .fieldAddr 0 (.t 1), none, []⟩,
  ⟨some 7, .fieldAddr 7 (.t 6), none, []⟩,
  ⟨some 8, .load none (.t 7), none, []⟩,
  ⟨some 9, .len (.t 8), none, []⟩,
  ⟨some 10, .move (.c (.p (.int .i64 0))), none, []⟩] [6, 7])
  (.block 0
  (.loop
    (.ghost .lower a76_l0))))
  (.seq (.region true [
  ⟨some 48, .move (.t 3), none, []⟩,
  ⟨some 49, .move (.t 48), none, [0]⟩,
  ⟨some 50, .fieldAddr 0 (.t 1), some (49, true), [0, 1]⟩,
  ⟨some 51, .fieldAddr 7 (.t 50), some (49, true), [0, 1, 2]⟩,
  ⟨some 52, .load none (.t 51), some (49, true), [0, 1, 2, 3]⟩,
  ⟨some 53, .len (.t 52), some (49, true), [0, 1, 2, 3, 4]⟩,
  ⟨some 54, .fieldAddr 0 (.t 1), some (49, true), [0, 1]⟩,
  ⟨some 55, .fieldAddr 1 (.t 54), some (49, true), [0, 1, 6]⟩,
  ⟨some 56, .load none (.t 55), some (49, true), [0, 1, 6, 7]⟩,
  ⟨some 57, .call false 25 [.t 56], some (49, true), [0, 1, 6, 7, 8]⟩,
  ⟨some 58, .bin .lss (.t 53) (.t 57), some (49, true), [0, 1, 2, 3, 4, 5, 6, 7, 8, 9]⟩,
  ⟨some 59, .pick (.t 49) (.t 58) (.c (.p (.bool false))), none, [0, 1, 2, 3, 4, 5, 6, 7, 8, 9, 10]⟩,
  ⟨some 2, .move (.t 59), none, [0, 1, 2, 3, 4, 5, 6, 7, 8, 9, 10, 11]⟩] [3, 48, 49, 50, 51, 52, 53, 54, 55, 56, 57, 58, 59])
  .ret))))⟩

/-- (clockwork/election.voter).validLeader -/
@[irreducible] def a77_l0 : ACode :=
  (.seq (.region false [
  ⟨some 32, .bin .lss (.t 31) (.t 30), none, []⟩] [])
  (.seq (.cond (.t 32)
  .skip
  (.ghost (.forget [30, 31, 32]) (.ghost .lower (.exit 0))))
  (.seq (.block 1
  (.seq (.region false [
    ⟨some 33, .move (.t 31), none, []⟩,
    ⟨some 4, .move (.t 33), none, []⟩] [32, 33])
    (.seq (.region true [
    ⟨some 34, .fieldAddr 0 (.t 1), none, []⟩,
    ⟨some 35, .fieldAddr 9 (.t 34), none, [0]⟩,
    ⟨some 36, .load none (.t 35), none, [0, 1]⟩,
    ⟨some 37, .move (.t 4), none, []⟩,
    ⟨some 38, .indexAddr 1 (.t 36) (.t 37), none, [0, 1, 2, 3]⟩,
    ⟨some 39, .load none (.t 38), none, [0, 1, 2, 3, 4]⟩,
    ⟨some 40, .bin .lss (.t 39) (.c (.p (.int .i64 0))), none, [0, 1, 2, 3, 4, 5]⟩,
    ⟨some 41, .move (.t 40), none, [0, 1, 2, 3, 4, 5, 6]⟩,
    ⟨some 42, .fieldAddr 0 (.t 1), some (41, false), [0, 1, 2, 3, 4, 5, 6, 7]⟩,
    ⟨some 43, .fieldAddr 9 (.t 42), some (41, false), [0, 1, 2, 3, 4, 5, 6, 7, 8]⟩,
    ⟨some 44, .load none (.t 43), some (41, false), [0, 1, 2, 3, 4, 5, 6, 7, 8, 9]⟩,
    ⟨some 45, .move (.t 4), some (41, false), [0, 1, 2, 3, 4, 5, 6, 7]⟩,
    ⟨some 46, .indexAddr 1 (.t 44) (.t 45), some (41, false), [0, 1, 2, 3, 4, 5, 6, 7, 8, 9, 10, 11]⟩,
    ⟨some 47, .load none (.t 46), some (41, false), [0, 1, 2, 3, 4, 5, 6, 7, 8, 9, 10, 11, 12]⟩,
    ⟨some 48, .fieldAddr 0 (.t 1), some (41, false), [0, 1, 2, 3, 4, 5, 6, 7]⟩,
    ⟨some 49, .fieldAddr 8 (.t 48), some (41, false), [0, 1, 2, 3, 4, 5, 6, 7, 14]⟩,
    ⟨some 50, .load none (.t 49), some (41, false), [0, 1, 2, 3, 4, 5, 6, 7, 14, 15]⟩,
    ⟨some 51, .move (.t 4), some (41, false), [0, 1, 2, 3, 4, 5, 6, 7]⟩,
    ⟨some 52, .indexAddr 1 (.t 50) (.t 51), some (41, false), [0, 1, 2, 3, 4, 5, 6, 7, 14, 15, 16, 17]⟩,
    ⟨some 53, .load none (.t 52), some (41, false), [0, 1, 2, 3, 4, 5, 6, 7, 14, 15, 16, 17, 18]⟩,
    ⟨some 54, .bin .gtr (.t 47) (.t 53), some (41, false), [0, 1, 2, 3, 4, 5, 6, 7, 8, 9, 10, 11, 12, 13, 14, 15, 16, 17, 18, 19]⟩,
    ⟨some 55, .pick (.t 41) (.c (.p (.bool true))) (.t 54), none, [0, 1, 2, 3, 4, 5, 6, 7, 8, 9, 10, 11, 12, 13, 14, 15, 16, 17, 18, 19, 20]⟩,
    ⟨some 56, .move (.t 55), none, [0, 1, 2, 3, 4, 5, 6, 7, 8, 9, 10, 11, 12, 13, 14, 15, 16, 17, 18, 19, 20, 21]⟩,
    ⟨some 57, .fieldAddr 0 (.t 1), some (56, false), [0, 1, 2, 3, 4, 5, 6, 7, 8, 9, 10, 11, 12, 13, 14, 15, 16, 17, 18, 19, 20, 21, 22]⟩,
    ⟨some 58, .fieldAddr 8 (.t 57), some (56, false), [0, 1, 2, 3, 4, 5, 6, 7, 8, 9, 10, 11, 12, 13, 14, 15, 16, 17, 18, 19, 20, 21, 22, 23]⟩,
    ⟨some 59, .load none (.t 58), some (56, false), [0, 1, 2, 3, 4, 5, 6, 7, 8, 9, 10, 11, 12, 13, 14, 15, 16, 17, 18, 19, 20, 21, 22, 23, 24]⟩,
    ⟨some 60, .move (.t 4), some (56, false), [0, 1, 2, 3, 4, 5, 6, 7, 8, 9, 10, 11, 12, 13, 14, 15, 16, 17, 18, 19, 20, 21, 22]⟩,
    ⟨some 61, .indexAddr 1 (.t 59) (.t 60), some (56, false), [0, 1, 2, 3, 4, 5, 6, 7, 8, 9, 10, 11, 12, 13, 14, 15, 16, 17, 18, 19, 20, 21, 22, 23, 24, 25, 26]⟩,
    ⟨some 62, .load none (.t 61), some (56, false), [0, 1, 2, 3, 4, 5, 6, 7, 8, 9, 10, 11, 12, 13, 14, 15, 16, 17, 18, 19, 20, 21, 22, 23, 24, 25, 26, 27]⟩,
    ⟨some 63, .move (.t 3), some (56, false), [0, 1, 2, 3, 4, 5, 6, 7, 8, 9, 10, 11, 12, 13, 14, 15, 16, 17, 18, 19, 20, 21, 22]⟩,
    ⟨some 64, .bin .gtr (.t 62) (.t 63), some (56, false), [0, 1, 2, 3, 4, 5, 6, 7, 8, 9, 10, 11, 12, 13, 14, 15, 16, 17, 18, 19, 20, 21, 22, 23, 24, 25, 26, 27, 28, 29]⟩,
    ⟨some 65, .pick (.t 56) (.c (.p (.bool true))) (.t 64), none, [0, 1, 2, 3, 4, 5, 6, 7, 8, 9, 10, 11, 12, 13, 14, 15, 16, 17, 18, 19, 20, 21, 22, 23, 24, 25, 26, 27, 28, 29, 30]⟩] [4, 34, 35, 36, 37, 38, 39, 40, 41, 42, 43, 44, 45, 46, 47, 48, 49, 50, 51, 52, 53, 54, 55, 56, 57, 58, 59, 60, 61, 62, 63, 64])
    (.cond (.t 65)
    (.seq (.region false [
      ⟨some 2, .move (.c (.p (.bool false))), none, []⟩] [3, 30, 31, 65])
      .ret)
    .skip))))
  (.region false [
  ⟨some 66, .bin .add (.t 31) (.c (.p (.int .i64 1))), none, []⟩,
  ⟨some 31, .move (.t 66), none, []⟩] [65, 66]))))

def a77 : AFunc := ⟨91, 1, [.tmp 2],
  (.seq (.region false [
  ⟨some 1, .box (.t 0), none, []⟩,
  ⟨some 2, .move (.c (.p (.bool false))), none, []⟩] [0, 2])
  (.seq (.region false [
  ⟨some 5, .fieldAddr 0 (.t 1), none, []⟩,
  ⟨some 6, .fieldAddr 4 (.t 5), none, []⟩,
  ⟨some 7, .load none (.t 6), none, []⟩,
  ⟨some 8, .len (.t 7), none, []⟩,
  ⟨some 3, .move (.t 8), none, []⟩] [5, 6, 7, 8])
  (.seq (.seq (.region false [
  ⟨some 9, .fieldAddr 0 (.t 1), none, []⟩,
  ⟨some 10, .fieldAddr 8 (.t 9), none, []⟩,
  ⟨some 11, .load none (.t 10), none, []⟩,
  ⟨some 12, .len (.t 11), none, []⟩,
  ⟨some 13, .fieldAddr 0 (.t 1), none, []⟩,
  ⟨some 14, .fieldAddr 1 (.t 13), none, []⟩,
  ⟨some 15, .load none (.t 14), none, []⟩,
  ⟨some 16, .bin .neq (.t 12) (.t 15), none, []⟩,
  ⟨some 17, .move (.t 16), none, []⟩,
  ⟨some 18, .fieldAddr 0 (.t 1), some (17, false), []⟩,
  ⟨some 19, .fieldAddr 9 (.t 18), some (17, false), []⟩,
  ⟨some 20, .load none (.t 19), some (17, false), []⟩,
  ⟨some 21, .len (.t 20), some (17, false), []⟩,
  ⟨some 22, .fieldAddr 0 (.t 1), some (17, false), []⟩,
  ⟨some 23, .fieldAddr 1 (.t 22), some (17, false), []⟩,
  ⟨some 24, .load none (.t 23), some (17, false), []⟩,
  ⟨some 25, .bin .neq (.t 21) (.t 24), some (17, false), []⟩,
  ⟨some 26, .pick (.t 17) (.c (.p (.bool true))) (.t 25), none, []⟩] [9, 10, 11, 12, 13, 14, 15, 16, 17, 18, 19, 20, 21, 22, 23, 24, 25])
  (.cond (.t 26)
  (.seq (.region false [
    ⟨some 2, .move (.c (.p (.bool false))), none, []⟩] [3, 26])
    .ret)
  .skip))
  (.seq (.seq (.region false [
  ⟨some 27, .fieldAddr 0 (.t 1), none, []⟩,
  ⟨some 28, .fieldAddr 8 (.t 27), none, []⟩,
  ⟨some 29, .load none (.t 28), none, []⟩,
  ⟨some 30, .len (.t 29), none, []⟩,
  ⟨some 31, .move (.c (.p (.int .i64 0))), none, []⟩] [26, 27, 28, 29])
  (.block 0
  (.loop
    (.ghost .lower a77_l0))))
  (.seq (.region false [
  ⟨some 67, .fieldAddr 0 (.t 1), none, []⟩,
  ⟨some 68, .fieldAddr 8 (.t 67), none, []⟩,
  ⟨some 69, .load none (.t 68), none, []⟩,
  ⟨some 70, .fieldAddr 0 (.t 1), none, []⟩,
  ⟨some 71, .fieldAddr 0 (.t 70), none, []⟩,
  ⟨some 72, .load none (.t 71), none, []⟩,
  ⟨some 73, .bin .sub (.t 72) (.c (.p (.int .i64 1))), none, []⟩,
  ⟨some 74, .indexAddr 1 (.t 69) (.t 73), none, []⟩,
  ⟨some 75, .load none (.t 74), none, []⟩,
  ⟨some 76, .move (.t 3), none, []⟩,
  ⟨some 77, .bin .eql (.t 75) (.t 76), none, []⟩,
  ⟨some 78, .move (.t 77), none, []⟩,
  ⟨some 79, .fieldAddr 0 (.t 1), some (78, true), []⟩,
  ⟨some 80, .fieldAddr 9 (.t 79), some (78, true), []⟩,
  ⟨some 81, .load none (.t 80), some (78, true), []⟩,
  ⟨some 82, .fieldAddr 0 (.t 1), some (78, true), []⟩,
  ⟨some 83, .fieldAddr 0 (.t 82), some (78, true), []⟩,
  ⟨some 84, .load none (.t 83), some (78, true), []⟩,
  ⟨some 85, .bin .sub (.t 84) (.c (.p (.int .i64 1))), some (78, true), []⟩,
  ⟨some 86, .indexAddr 1 (.t 81) (.t 85), some (78, true), []⟩,
  ⟨some 87, .load none (.t 86), some (78, true), []⟩,
  ⟨some 88, .move (.t 3), some (78, true), []⟩,
  ⟨some 89, .bin .eql (.t 87) (.t 88), some (78, true), []⟩,
  ⟨some 90, .pick (.t 78) (.t 89) (.c (.p (.bool false))), none, []⟩,
  ⟨some 2, .move (.t 90), none, []⟩] [3, 67, 68, 69, 70, 71, 72, 73, 74, 75, 76, 77, 78, 79, 80, 81, 82, 83, 84, 85, 86, 87, 88, 89, 90])
  .ret)))))⟩

/-- clockwork/clockworkref41.items -/
@[irreducible] def a78_l0 : ACode :=
  (.seq (.seq (.region false [
  ⟨some 4, .move (.t 3), none, []⟩,
  ⟨some 5, .move (.t 0), none, []⟩,
  ⟨some 6, .len (.t 5), none, []⟩,
  ⟨some 7, .bin .lss (.t 4) (.t 6), none, []⟩] [4, 5, 6])
  (.cond (.t 7)
  .skip
  (.ghost (.forget [3, 7]) (.ghost .lower (.exit 0)))))
  (.seq (.block 1
  (.seq (.region false [
    ⟨some 10, .move (.t 0), none, []⟩,
    ⟨some 11, .move (.t 3), none, []⟩,
    ⟨some 12, .indexAddr 2 (.t 10) (.t 11), none, []⟩,
    ⟨some 13, .fieldAddr 0 (.t 12), none, []⟩,
    ⟨some 14, .load none (.t 13), none, []⟩,
    ⟨some 15, .bin .lss (.t 14) (.c (.p (.int .i64 1))), none, []⟩,
    ⟨some 16, .move (.t 15), none, []⟩,
    ⟨some 17, .move (.t 0), some (16, false), []⟩,
    ⟨some 18, .move (.t 3), some (16, false), []⟩,
    ⟨some 19, .indexAddr 2 (.t 17) (.t 18), some (16, false), []⟩,
    ⟨some 20, .fieldAddr 0 (.t 19), some (16, false), []⟩,
    ⟨some 21, .load none (.t 20), some (16, false), []⟩,
    ⟨some 22, .bin .gtr (.t 21) (.c (.p (.int .i64 1099511627776))), some (16, false), []⟩,
    ⟨some 23, .pick (.t 16) (.c (.p (.bool true))) (.t 22), none, []⟩,
    ⟨some 24, .move (.t 23), none, []⟩,
    ⟨some 25, .move (.t 0), some (24, false), []⟩,
    ⟨some 26, .move (.t 3), some (24, false), []⟩,
    ⟨some 27, .indexAddr 2 (.t 25) (.t 26), some (24, false), []⟩,
    ⟨some 28, .fieldAddr 1 (.t 27), some (24, false), []⟩,
    ⟨some 29, .load none (.t 28), some (24, false), []⟩,
    ⟨some 30, .lenS (.t 29), some (24, false), []⟩,
    ⟨some 31, .bin .gtr (.t 30) (.c (.p (.int .i64 4096))), some (24, false), []⟩,
    ⟨some 32, .pick (.t 24) (.c (.p (.bool true))) (.t 31), none, []⟩] [7, 10, 11, 12, 13, 14, 15, 16, 17, 18, 19, 20, 21, 22, 23, 24, 25, 26, 27, 28, 29, 30, 31])
    (.cond (.t 32)
    (.seq (.region false [
      ⟨some 2, .move (.c (.p (.bool false))), none, []⟩] [0, 3, 32])
      .ret)
    .skip)))
  (.region false [
  ⟨some 8, .move (.t 3), none, []⟩,
  ⟨some 9, .bin .add (.t 8) (.c (.p (.int .i64 1))), none, []⟩,
  ⟨some 3, .move (.t 9), none, []⟩] [8, 9, 32])))

def a78 : AFunc := ⟨36, 1, [.tmp 2],
  (.seq (.region false [
  ⟨some 2, .move (.c (.p (.bool false))), none, []⟩] [2])
  (.seq (.seq (.region false [
  ⟨some 3, .move (.c (.p (.int .i64 0))), none, []⟩] [])
  (.block 0
  (.loop
    (.ghost .lower a78_l0))))
  (.seq (.region false [
  ⟨some 33, .move (.t 0), none, []⟩,
  ⟨some 34, .len (.t 33), none, []⟩,
  ⟨some 35, .bin .leq (.t 34) (.c (.p (.int .i64 256))), none, []⟩,
  ⟨some 2, .move (.t 35), none, []⟩] [0, 33, 34, 35])
  .ret)))⟩

/-- clockwork/clockworkref41.votes -/
@[irreducible] def a79_l0 : ACode :=
  (.seq (.seq (.region false [
  ⟨some 6, .move (.t 4), none, []⟩,
  ⟨some 7, .fieldAddr 7 (.t 1), none, []⟩,
  ⟨some 8, .load none (.t 7), none, []⟩,
  ⟨some 9, .len (.t 8), none, []⟩,
  ⟨some 10, .bin .lss (.t 6) (.t 9), none, []⟩] [6, 7, 8, 9])
  (.cond (.t 10)
  .skip
  (.ghost (.forget [4, 10]) (.ghost .lower (.exit 0)))))
  (.seq (.block 1
  (.seq (.region false [
    ⟨some 13, .fieldAddr 7 (.t 1), none, []⟩,
    ⟨some 14, .load none (.t 13), none, []⟩,
    ⟨some 15, .move (.t 4), none, []⟩,
    ⟨some 16, .indexAddr 1 (.t 14) (.t 15), none, []⟩,
    ⟨some 17, .load none (.t 16), none, []⟩,
    ⟨some 5, .move (.t 17), none, []⟩] [10, 13, 14, 15, 16, 17])
    (.seq (.seq (.region false [
    ⟨some 18, .move (.t 5), none, []⟩,
    ⟨some 19, .bin .lss (.t 18) (.c (.p (.int .i64 1))), none, []⟩,
    ⟨some 20, .move (.t 19), none, []⟩,
    ⟨some 21, .move (.t 5), some (20, false), []⟩,
    ⟨some 22, .fieldAddr 1 (.t 1), some (20, false), []⟩,
    ⟨some 23, .load none (.t 22), some (20, false), []⟩,
    ⟨some 24, .bin .gtr (.t 21) (.t 23), some (20, false), []⟩,
    ⟨some 25, .pick (.t 20) (.c (.p (.bool true))) (.t 24), none, []⟩,
    ⟨some 26, .move (.t 25), none, []⟩,
    ⟨some 27, .move (.t 4), some (26, false), []⟩,
    ⟨some 28, .bin .gtr (.t 27) (.c (.p (.int .i64 0))), some (26, false), []⟩,
    ⟨some 29, .move (.t 28), some (26, false), []⟩,
    ⟨some 30, .move (.t 5), some (29, true), []⟩,
    ⟨some 31, .fieldAddr 7 (.t 1), some (29, true), []⟩,
    ⟨some 32, .load none (.t 31), some (29, true), []⟩,
    ⟨some 33, .move (.t 4), some (29, true), []⟩,
    ⟨some 34, .bin .sub (.t 33) (.c (.p (.int .i64 1))), some (29, true), []⟩,
    ⟨some 35, .indexAddr 1 (.t 32) (.t 34), some (29, true), []⟩,
    ⟨some 36, .load none (.t 35), some (29, true), []⟩,
    ⟨some 37, .bin .leq (.t 30) (.t 36), some (29, true), []⟩,
    ⟨some 38, .pick (.t 29) (.t 37) (.c (.p (.bool false))), some (26, false), []⟩,
    ⟨some 39, .pick (.t 26) (.c (.p (.bool true))) (.t 38), none, []⟩] [18, 19, 20, 21, 22, 23, 24, 25, 26, 27, 28, 29, 30, 31, 32, 33, 34, 35, 36, 37, 38])
    (.cond (.t 39)
    (.seq (.region false [
      ⟨some 2, .move (.c (.p (.bool false))), none, []⟩] [3, 4, 5, 39])
      .ret)
    .skip))
    (.region false [
    ⟨some 40, .move (.t 3), none, []⟩,
    ⟨some 41, .move (.t 40), none, []⟩,
    ⟨some 42, .move (.t 5), some (41, false), []⟩,
    ⟨some 43, .fieldAddr 0 (.t 1), some (41, false), []⟩,
    ⟨some 44, .load none (.t 43), some (41, false), []⟩,
    ⟨some 45, .bin .eql (.t 42) (.t 44), some (41, false), []⟩,
    ⟨some 46, .pick (.t 41) (.c (.p (.bool true))) (.t 45), none, []⟩,
    ⟨some 3, .move (.t 46), none, []⟩] [5, 39, 40, 41, 42, 43, 44, 45, 46]))))
  (.region false [
  ⟨some 11, .move (.t 4), none, []⟩,
  ⟨some 12, .bin .add (.t 11) (.c (.p (.int .i64 1))), none, []⟩,
  ⟨some 4, .move (.t 12), none, []⟩] [11, 12])))

def a79 : AFunc := ⟨57, 1, [.tmp 2],
  (.seq (.region false [
  ⟨some 1, .box (.t 0), none, []⟩,
  ⟨some 2, .move (.c (.p (.bool false))), none, []⟩] [0, 2])
  (.seq (.region false [
  ⟨some 3, .move (.c (.p (.bool false))), none, []⟩] [])
  (.seq (.seq (.region false [
  ⟨some 4, .move (.c (.p (.int .i64 0))), none, []⟩] [])
  (.block 0
  (.loop
    (.ghost .lower a79_l0))))
  (.seq (.region true [
  ⟨some 47, .move (.t 3), none, []⟩,
  ⟨some 48, .move (.t 47), none, [0]⟩,
  ⟨some 49, .fieldAddr 7 (.t 1), some (48, true), [0, 1]⟩,
  ⟨some 50, .load none (.t 49), some (48, true), [0, 1, 2]⟩,
  ⟨some 51, .len (.t 50), some (48, true), [0, 1, 2, 3]⟩,
  ⟨some 52, .fieldAddr 1 (.t 1), some (48, true), [0, 1]⟩,
  ⟨some 53, .load none (.t 52), some (48, true), [0, 1, 5]⟩,
  ⟨some 54, .call false 26 [.t 53], some (48, true), [0, 1, 5, 6]⟩,
  ⟨some 55, .bin .lss (.t 51) (.t 54), some (48, true), [0, 1, 2, 3, 4, 5, 6, 7]⟩,
  ⟨some 56, .pick (.t 48) (.t 55) (.c (.p (.bool false))), none, [0, 1, 2, 3, 4, 5, 6, 7, 8]⟩,
  ⟨some 2, .move (.t 56), none, [0, 1, 2, 3, 4, 5, 6, 7, 8, 9]⟩] [3, 47, 48, 49, 50, 51, 52, 53, 54, 55, 56])
  .ret))))⟩

/-- clockwork/clockworkref41.progress -/
@[irreducible] def a80_l0 : ACode :=
  (.seq (.seq (.region false [
  ⟨some 22, .move (.t 4), none, []⟩,
  ⟨some 23, .fieldAddr 1 (.t 1), none, []⟩,
  ⟨some 24, .load none (.t 23), none, []⟩,
  ⟨some 25, .bin .lss (.t 22) (.t 24), none, []⟩] [22, 23, 24])
  (.cond (.t 25)
  .skip
  (.ghost (.forget [4, 25]) (.ghost .lower (.exit 0)))))
  (.seq (.block 1
  (.seq (.region true [
    ⟨some 28, .fieldAddr 9 (.t 1), none, []⟩,
    ⟨some 29, .load none (.t 28), none, [0]⟩,
    ⟨some 30, .move (.t 4), none, []⟩,
    ⟨some 31, .indexAddr 1 (.t 29) (.t 30), none, [0, 1, 2]⟩,
    ⟨some 32, .load none (.t 31), none, [0, 1, 2, 3]⟩,
    ⟨some 33, .bin .lss (.t 32) (.c (.p (.int .i64 0))), none, [0, 1, 2, 3, 4]⟩,
    ⟨some 34, .move (.t 33), none, [0, 1, 2, 3, 4, 5]⟩,
    ⟨some 35, .fieldAddr 9 (.t 1), some (34, false), [0, 1, 2, 3, 4, 5, 6]⟩,
    ⟨some 36, .load none (.t 35), some (34, false), [0, 1, 2, 3, 4, 5, 6, 7]⟩,
    ⟨some 37, .move (.t 4), some (34, false), [0, 1, 2, 3, 4, 5, 6]⟩,
    ⟨some 38, .indexAddr 1 (.t 36) (.t 37), some (34, false), [0, 1, 2, 3, 4, 5, 6, 7, 8, 9]⟩,
    ⟨some 39, .load none (.t 38), some (34, false), [0, 1, 2, 3, 4, 5, 6, 7, 8, 9, 10]⟩,
    ⟨some 40, .fieldAddr 8 (.t 1), some (34, false), [0, 1, 2, 3, 4, 5, 6]⟩,
    ⟨some 41, .load none (.t 40), some (34, false), [0, 1, 2, 3, 4, 5, 6, 12]⟩,
    ⟨some 42, .move (.t 4), some (34, false), [0, 1, 2, 3, 4, 5, 6]⟩,
    ⟨some 43, .indexAddr 1 (.t 41) (.t 42), some (34, false), [0, 1, 2, 3, 4, 5, 6, 12, 13, 14]⟩,
    ⟨some 44, .load none (.t 43), some (34, false), [0, 1, 2, 3, 4, 5, 6, 12, 13, 14, 15]⟩,
    ⟨some 45, .bin .gtr (.t 39) (.t 44), some (34, false), [0, 1, 2, 3, 4, 5, 6, 7, 8, 9, 10, 11, 12, 13, 14, 15, 16]⟩,
    ⟨some 46, .pick (.t 34) (.c (.p (.bool true))) (.t 45), none, [0, 1, 2, 3, 4, 5, 6, 7, 8, 9, 10, 11, 12, 13, 14, 15, 16, 17]⟩,
    ⟨some 47, .move (.t 46), none, [0, 1, 2, 3, 4, 5, 6, 7, 8, 9, 10, 11, 12, 13, 14, 15, 16, 17, 18]⟩,
    ⟨some 48, .fieldAddr 8 (.t 1), some (47, false), [0, 1, 2, 3, 4, 5, 6, 7, 8, 9, 10, 11, 12, 13, 14, 15, 16, 17, 18, 19]⟩,
    ⟨some 49, .load none (.t 48), some (47, false), [0, 1, 2, 3, 4, 5, 6, 7, 8, 9, 10, 11, 12, 13, 14, 15, 16, 17, 18, 19, 20]⟩,
    ⟨some 50, .move (.t 4), some (47, false), [0, 1, 2, 3, 4, 5, 6, 7, 8, 9, 10, 11, 12, 13, 14, 15, 16, 17, 18, 19]⟩,
    ⟨some 51, .indexAddr 1 (.t 49) (.t 50), some (47, false), [0, 1, 2, 3, 4, 5, 6, 7, 8, 9, 10, 11, 12, 13, 14, 15, 16, 17, 18, 19, 20, 21, 22]⟩,
    ⟨some 52, .load none (.t 51), some (47, false), [0, 1, 2, 3, 4, 5, 6, 7, 8, 9, 10, 11, 12, 13, 14, 15, 16, 17, 18, 19, 20, 21, 22, 23]⟩,
    ⟨some 53, .move (.t 3), some (47, false), [0, 1, 2, 3, 4, 5, 6, 7, 8, 9, 10, 11, 12, 13, 14, 15, 16, 17, 18, 19]⟩,
    ⟨some 54, .bin .gtr (.t 52) (.t 53), some (47, false), [0, 1, 2, 3, 4, 5, 6, 7, 8, 9, 10, 11, 12, 13, 14, 15, 16, 17, 18, 19, 20, 21, 22, 23, 24, 25]⟩,
    ⟨some 55, .pick (.t 47) (.c (.p (.bool true))) (.t 54), none, [0, 1, 2, 3, 4, 5, 6, 7, 8, 9, 10, 11, 12, 13, 14, 15, 16, 17, 18, 19, 20, 21, 22, 23, 24, 25, 26]⟩] [25, 28, 29, 30, 31, 32, 33, 34, 35, 36, 37, 38, 39, 40, 41, 42, 43, 44, 45, 46, 47, 48, 49, 50, 51, 52, 53, 54])
    (.cond (.t 55)
    (.seq (.region false [
      ⟨some 2, .move (.c (.p (.bool false))), none, []⟩] [3, 4, 55])
      .ret)
    .skip)))
  (.region false [
  ⟨some 26, .move (.t 4), none, []⟩,
  ⟨some 27, .bin .add (.t 26) (.c (.p (.int .i64 1))), none, []⟩,
  ⟨some 4, .move (.t 27), none, []⟩] [26, 27, 55])))

def a80 : AFunc := ⟨76, 1, [.tmp 2],
  (.seq (.region false [
  ⟨some 1, .box (.t 0), none, []⟩,
  ⟨some 2, .move (.c (.p (.bool false))), none, []⟩] [0, 2])
  (.seq (.seq (.region false [
  ⟨some 5, .fieldAddr 8 (.t 1), none, []⟩,
  ⟨some 6, .load none (.t 5), none, []⟩,
  ⟨some 7, .len (.t 6), none, []⟩,
  ⟨some 8, .fieldAddr 1 (.t 1), none, []⟩,
  ⟨some 9, .load none (.t 8), none, []⟩,
  ⟨some 10, .bin .neq (.t 7) (.t 9), none, []⟩,
  ⟨some 11, .move (.t 10), none, []⟩,
  ⟨some 12, .fieldAddr 9 (.t 1), some (11, false), []⟩,
  ⟨some 13, .load none (.t 12), some (11, false), []⟩,
  ⟨some 14, .len (.t 13), some (11, false), []⟩,
  ⟨some 15, .fieldAddr 1 (.t 1), some (11, false), []⟩,
  ⟨some 16, .load none (.t 15), some (11, false), []⟩,
  ⟨some 17, .bin .neq (.t 14) (.t 16), some (11, false), []⟩,
  ⟨some 18, .pick (.t 11) (.c (.p (.bool true))) (.t 17), none, []⟩] [5, 6, 7, 8, 9, 10, 11, 12, 13, 14, 15, 16, 17])
  (.cond (.t 18)
  (.seq (.region false [
    ⟨some 2, .move (.c (.p (.bool false))), none, []⟩] [18])
    .ret)
  .skip))
  (.seq (.region false [
  ⟨some 19, .fieldAddr 4 (.t 1), none, []⟩,
  ⟨some 20, .load none (.t 19), none, []⟩,
  ⟨some 21, .len (.t 20), none, []⟩,
  ⟨some 3, .move (.t 21), none, []⟩] [18, 19, 20, 21])
  (.seq (.seq (.region false [
  ⟨some 4, .move (.c (.p (.int .i64 0))), none, []⟩] [])
  (.block 0
  (.loop
    (.ghost .lower a80_l0))))
  (.seq (.region false [
  ⟨some 56, .fieldAddr 9 (.t 1), none, []⟩,
  ⟨some 57, .load none (.t 56), none, []⟩,
  ⟨some 58, .fieldAddr 0 (.t 1), none, []⟩,
  ⟨some 59, .load none (.t 58), none, []⟩,
  ⟨some 60, .bin .sub (.t 59) (.c (.p (.int .i64 1))), none, []⟩,
  ⟨some 61, .indexAddr 1 (.t 57) (.t 60), none, []⟩,
  ⟨some 62, .load none (.t 61), none, []⟩,
  ⟨some 63, .move (.t 3), none, []⟩,
  ⟨some 64, .bin .eql (.t 62) (.t 63), none, []⟩,
  ⟨some 65, .move (.t 64), none, []⟩,
  ⟨some 66, .fieldAddr 8 (.t 1), some (65, true), []⟩,
  ⟨some 67, .load none (.t 66), some (65, true), []⟩,
  ⟨some 68, .fieldAddr 0 (.t 1), some (65, true), []⟩,
  ⟨some 69, .load none (.t 68), some (65, true), []⟩,
  ⟨some 70, .bin .sub (.t 69) (.c (.p (.int .i64 1))), some (65, true), []⟩,
  ⟨some 71, .indexAddr 1 (.t 67) (.t 70), some (65, true), []⟩,
  ⟨some 72, .load none (.t 71), some (65, true), []⟩,
  ⟨some 73, .move (.t 3), some (65, true), []⟩,
  ⟨some 74, .bin .eql (.t 72) (.t 73), some (65, true), []⟩,
  ⟨some 75, .pick (.t 65) (.t 74) (.c (.p (.bool false))), none, []⟩,
  ⟨some 2, .move (.t 75), none, []⟩] [3, 56, 57, 58, 59, 60, 61, 62, 63, 64, 65, 66, 67, 68, 69, 70, 71, 72, 73, 74, 75])
  .ret)))))⟩

/-- clockwork/election.lastTerm -/
def a81 : AFunc := ⟨13, 1, [.tmp 2],
  (.seq (.region false [
  ⟨some 2, .move (.c (.p (.int .i64 0))), none, []⟩] [2])
  (.seq (.seq (.region false [
  ⟨some 3, .move (.t 0), none, []⟩,
  ⟨some 4, .len (.t 3), none, []⟩,
  ⟨some 5, .bin .eql (.t 4) (.c (.p (.int .i64 0))), none, []⟩] [3, 4])
  (.cond (.t 5)
  (.seq (.region false [
    ⟨some 2, .move (.c (.p (.int .i64 0))), none, []⟩] [0, 5])
    .ret)
  .skip))
  (.seq (.region false [
  ⟨some 6, .move (.t 0), none, []⟩,
  ⟨some 7, .move (.t 0), none, []⟩,
  ⟨some 8, .len (.t 7), none, []⟩,
  ⟨some 9, .bin .sub (.t 8) (.c (.p (.int .i64 1))), none, []⟩,
  ⟨some 10, .indexAddr 2 (.t 6) (.t 9), none, []⟩,
  ⟨some 11, .fieldAddr 0 (.t 10), none, []⟩,
  ⟨some 12, .load none (.t 11), none, []⟩,
  ⟨some 2, .move (.t 12), none, []⟩] [0, 5, 6, 7, 8, 9, 10, 11, 12])
  .ret)))⟩

/-- clockwork/election.clone -/
def a83 : AFunc := ⟨20, 1, [.cell 2 10],
  (.seq (.region false [
  ⟨some 1, .box (.t 0), none, []⟩,
  ⟨some 2, .alloc [.int .i64 0, .int .i64 0, .int .i64 0, .int .i64 0, .slice true [], .int .i64 0, .int .i64 0, .slice true [], .slice true [], .slice true []], none, []⟩] [0])
  (.seq (.region false [
  ⟨some 3, .fieldAddr 4 (.t 1), none, []⟩,
  ⟨some 4, .load none (.t 3), none, []⟩,
  ⟨some 5, .call true 97 [.t 4], none, []⟩,
  ⟨some 6, .fieldAddr 4 (.t 1), none, []⟩,
  ⟨none, .store 1 (.t 6) (.t 5), none, []⟩] [3, 4, 5, 6])
  (.seq (.region false [
  ⟨some 7, .fieldAddr 7 (.t 1), none, []⟩,
  ⟨some 8, .load none (.t 7), none, []⟩,
  ⟨some 9, .call true 129 [.t 8], none, []⟩,
  ⟨some 10, .fieldAddr 7 (.t 1), none, []⟩,
  ⟨none, .store 1 (.t 10) (.t 9), none, []⟩] [7, 8, 9, 10])
  (.seq (.region false [
  ⟨some 11, .fieldAddr 8 (.t 1), none, []⟩,
  ⟨some 12, .load none (.t 11), none, []⟩,
  ⟨some 13, .call true 129 [.t 12], none, []⟩,
  ⟨some 14, .fieldAddr 8 (.t 1), none, []⟩,
  ⟨none, .store 1 (.t 14) (.t 13), none, []⟩] [11, 12, 13, 14])
  (.seq (.region false [
  ⟨some 15, .fieldAddr 9 (.t 1), none, []⟩,
  ⟨some 16, .load none (.t 15), none, []⟩,
  ⟨some 17, .call true 129 [.t 16], none, []⟩,
  ⟨some 18, .fieldAddr 9 (.t 1), none, []⟩,
  ⟨none, .store 1 (.t 18) (.t 17), none, []⟩] [15, 16, 17, 18])
  (.seq (.region false [
  ⟨some 19, .load (some 10) (.t 1), none, []⟩,
  ⟨none, .store 10 (.t 2) (.t 19), none, []⟩] [19])
  .ret))))))⟩

/-- (*clockwork/election.voter).count -/
@[irreducible] def a84_l0 : ACode :=
  (.seq (.region false [
  ⟨some 51, .bin .lss (.t 50) (.t 49), none, []⟩] [])
  (.seq (.cond (.t 51)
  .skip
  (.ghost (.forget [49, 50, 51]) (.exit 0)))
  (.seq (.block 1
  (.seq (.region false [
    ⟨some 52, .move (.t 50), none, []⟩,
    ⟨some 2, .move (.t 52), none, []⟩] [51, 52])
    (.region true [
    ⟨some 53, .move (.t 0), none, []⟩,
    ⟨some 54, .nilCheck (.t 53), none, [0]⟩,
    ⟨some 55, .fieldAddr 0 (.t 54), none, [0, 1]⟩,
    ⟨some 56, .fieldAddr 8 (.t 55), none, [0, 1, 2]⟩,
    ⟨some 57, .load none (.t 56), none, [0, 1, 2, 3]⟩,
    ⟨some 58, .move (.t 2), none, []⟩,
    ⟨some 59, .move (.t 0), none, []⟩,
    ⟨some 60, .nilCheck (.t 59), none, [6]⟩,
    ⟨some 61, .fieldAddr 0 (.t 60), none, [6, 7]⟩,
    ⟨some 62, .fieldAddr 4 (.t 61), none, [6, 7, 8]⟩,
    ⟨some 63, .load none (.t 62), none, [6, 7, 8, 9]⟩,
    ⟨some 64, .len (.t 63), none, [6, 7, 8, 9, 10]⟩,
    ⟨some 65, .indexAddr 1 (.t 57) (.t 58), none, [0, 1, 2, 3, 4, 5, 6, 7, 8, 9, 10, 11]⟩,
    ⟨none, .store 1 (.t 65) (.t 64), none, [0, 1, 2, 3, 4, 5, 6, 7, 8, 9, 10, 11, 12]⟩] [2, 53, 54, 55, 56, 57, 58, 59, 60, 61, 62, 63, 64, 65])))
  (.region false [
  ⟨some 66, .bin .add (.t 50) (.c (.p (.int .i64 1))), none, []⟩,
  ⟨some 50, .move (.t 66), none, []⟩] [66]))))

def a84 : AFunc := ⟨85, 1, [],
  (.seq (.seq (.region true [
  ⟨some 3, .move (.t 0), none, []⟩,
  ⟨some 4, .nilCheck (.t 3), none, [0]⟩,
  ⟨some 5, .fieldAddr 0 (.t 4), none, [0, 1]⟩,
  ⟨some 6, .fieldAddr 7 (.t 5), none, [0, 1, 2]⟩,
  ⟨some 7, .load none (.t 6), none, [0, 1, 2, 3]⟩,
  ⟨some 8, .len (.t 7), none, [0, 1, 2, 3, 4]⟩,
  ⟨some 9, .move (.t 0), none, []⟩,
  ⟨some 10, .nilCheck (.t 9), none, [6]⟩,
  ⟨some 11, .fieldAddr 0 (.t 10), none, [6, 7]⟩,
  ⟨some 12, .fieldAddr 1 (.t 11), none, [6, 7, 8]⟩,
  ⟨some 13, .load none (.t 12), none, [6, 7, 8, 9]⟩,
  ⟨some 14, .call false 25 [.t 13], none, [6, 7, 8, 9, 10]⟩,
  ⟨some 15, .bin .lss (.t 8) (.t 14), none, [0, 1, 2, 3, 4, 5, 6, 7, 8, 9, 10, 11]⟩] [3, 4, 5, 6, 7, 8, 9, 10, 11, 12, 13, 14])
  (.cond (.t 15)
  .ret
  .skip))
  (.seq (.region false [
  ⟨some 16, .move (.t 0), none, []⟩,
  ⟨some 17, .nilCheck (.t 16), none, []⟩,
  ⟨some 18, .fieldAddr 0 (.t 17), none, []⟩,
  ⟨some 19, .fieldAddr 5 (.t 18), none, []⟩,
  ⟨none, .store 1 (.t 19) (.c (.p (.int .i64 3))), none, []⟩] [15, 16, 17, 18, 19])
  (.seq (.region false [
  ⟨some 20, .move (.t 0), none, []⟩,
  ⟨some 21, .nilCheck (.t 20), none, []⟩,
  ⟨some 22, .fieldAddr 0 (.t 21), none, []⟩,
  ⟨some 23, .fieldAddr 7 (.t 22), none, []⟩,
  ⟨none, .store 1 (.t 23) (.c (.p (.slice true []))), none, []⟩] [20, 21, 22, 23])
  (.seq (.region false [
  ⟨some 24, .move (.t 0), none, []⟩,
  ⟨some 25, .move (.t 0), none, []⟩,
  ⟨some 26, .nilCheck (.t 25), none, []⟩,
  ⟨some 27, .fieldAddr 0 (.t 26), none, []⟩,
  ⟨some 28, .fieldAddr 1 (.t 27), none, []⟩,
  ⟨some 29, .load none (.t 28), none, []⟩,
  ⟨some 30, .makeSlice [.int .i64 0] 8 (.t 29) (.t 29), none, []⟩,
  ⟨some 31, .nilCheck (.t 24), none, []⟩,
  ⟨some 32, .fieldAddr 0 (.t 31), none, []⟩,
  ⟨some 33, .fieldAddr 8 (.t 32), none, []⟩,
  ⟨none, .store 1 (.t 33) (.t 30), none, []⟩] [24, 25, 26, 27, 28, 29, 30, 31, 32, 33])
  (.seq (.region false [
  ⟨some 34, .move (.t 0), none, []⟩,
  ⟨some 35, .move (.t 0), none, []⟩,
  ⟨some 36, .nilCheck (.t 35), none, []⟩,
  ⟨some 37, .fieldAddr 0 (.t 36), none, []⟩,
  ⟨some 38, .fieldAddr 1 (.t 37), none, []⟩,
  ⟨some 39, .load none (.t 38), none, []⟩,
  ⟨some 40, .makeSlice [.int .i64 0] 8 (.t 39) (.t 39), none, []⟩,
  ⟨some 41, .nilCheck (.t 34), none, []⟩,
  ⟨some 42, .fieldAddr 0 (.t 41), none, []⟩,
  ⟨some 43, .fieldAddr 9 (.t 42), none, []⟩,
  ⟨none, .store 1 (.t 43) (.t 40), none, []⟩] [34, 35, 36, 37, 38, 39, 40, 41, 42, 43])
  (.seq (.seq (.region false [
  ⟨some 44, .move (.t 0), none, []⟩,
  ⟨some 45, .nilCheck (.t 44), none, []⟩,
  ⟨some 46, .fieldAddr 0 (.t 45), none, []⟩,
  ⟨some 47, .fieldAddr 8 (.t 46), none, []⟩,
  ⟨some 48, .load none (.t 47), none, []⟩,
  ⟨some 49, .len (.t 48), none, []⟩,
  ⟨some 50, .move (.c (.p (.int .i64 0))), none, []⟩] [44, 45, 46, 47, 48])
  (.block 0
  (.loop
    a84_l0)))
  (.region true [
  ⟨some 67, .move (.t 0), none, []⟩,
  ⟨some 68, .nilCheck (.t 67), none, [0]⟩,
  ⟨some 69, .fieldAddr 0 (.t 68), none, [0, 1]⟩,
  ⟨some 70, .fieldAddr 9 (.t 69), none, [0, 1, 2]⟩,
  ⟨some 71, .load none (.t 70), none, [0, 1, 2, 3]⟩,
  ⟨some 72, .move (.t 0), none, []⟩,
  ⟨some 73, .nilCheck (.t 72), none, [5]⟩,
  ⟨some 74, .fieldAddr 0 (.t 73), none, [5, 6]⟩,
  ⟨some 75, .fieldAddr 0 (.t 74), none, [5, 6, 7]⟩,
  ⟨some 76, .load none (.t 75), none, [5, 6, 7, 8]⟩,
  ⟨some 77, .bin .sub (.t 76) (.c (.p (.int .i64 1))), none, [5, 6, 7, 8, 9]⟩,
  ⟨some 78, .move (.t 0), none, []⟩,
  ⟨some 79, .nilCheck (.t 78), none, [11]⟩,
  ⟨some 80, .fieldAddr 0 (.t 79), none, [11, 12]⟩,
  ⟨some 81, .fieldAddr 4 (.t 80), none, [11, 12, 13]⟩,
  ⟨some 82, .load none (.t 81), none, [11, 12, 13, 14]⟩,
  ⟨some 83, .len (.t 82), none, [11, 12, 13, 14, 15]⟩,
  ⟨some 84, .indexAddr 1 (.t 71) (.t 77), none, [0, 1, 2, 3, 4, 5, 6, 7, 8, 9, 10, 11, 12, 13, 14, 15, 16]⟩,
  ⟨none, .store 1 (.t 84) (.t 83), none, [0, 1, 2, 3, 4, 5, 6, 7, 8, 9, 10, 11, 12, 13, 14, 15, 16, 17]⟩] [0, 67, 68, 69, 70, 71, 72, 73, 74, 75, 76, 77, 78, 79, 80, 81, 82, 83, 84])))))))⟩

/-- clockwork/election.concerns -/
def a88 : AFunc := ⟨28, 3, [.tmp 6],
  (.seq (.region false [
  ⟨some 3, .box (.t 0), none, []⟩,
  ⟨some 4, .box (.t 1), none, []⟩,
  ⟨some 6, .move (.c (.p (.bool false))), none, []⟩] [0, 1, 6])
  (.seq (.region false [
  ⟨some 7, .load (some 10) (.t 3), none, []⟩,
  ⟨some 8, .call false 28 [.t 7], none, []⟩,
  ⟨some 9, .move (.t 8), none, []⟩,
  ⟨some 10, .load (some 9) (.t 4), some (9, true), []⟩,
  ⟨some 11, .fieldAddr 1 (.t 3), some (9, true), []⟩,
  ⟨some 12, .load none (.t 11), some (9, true), []⟩,
  ⟨some 13, .call false 131 [.t 10, .t 12], some (9, true), []⟩,
  ⟨some 14, .pick (.t 9) (.t 13) (.c (.p (.bool false))), none, []⟩,
  ⟨some 15, .move (.t 14), none, []⟩,
  ⟨some 16, .fieldAddr 2 (.t 4), some (15, true), []⟩,
  ⟨some 17, .load none (.t 16), some (15, true), []⟩,
  ⟨some 18, .fieldAddr 0 (.t 3), some (15, true), []⟩,
  ⟨some 19, .load none (.t 18), some (15, true), []⟩,
  ⟨some 20, .bin .eql (.t 17) (.t 19), some (15, true), []⟩,
  ⟨some 21, .pick (.t 15) (.t 20) (.c (.p (.bool false))), none, []⟩,
  ⟨some 22, .move (.t 21), none, []⟩,
  ⟨some 23, .fieldAddr 0 (.t 4), some (22, true), []⟩,
  ⟨some 24, .load none (.t 23), some (22, true), []⟩,
  ⟨some 25, .move (.t 2), some (22, true), []⟩,
  ⟨some 26, .bin .eql (.t 24) (.t 25), some (22, true), []⟩,
  ⟨some 27, .pick (.t 22) (.t 26) (.c (.p (.bool false))), none, []⟩,
  ⟨some 6, .move (.t 27), none, []⟩] [2, 7, 8, 9, 10, 11, 12, 13, 14, 15, 16, 17, 18, 19, 20, 21, 22, 23, 24, 25, 26, 27])
  .ret))⟩

/-- (*clockwork/election.voter).follow -/
def a89 : AFunc := ⟨29, 2, [],
  (.region true [
  ⟨some 4, .move (.t 0), none, []⟩,
  ⟨some 5, .move (.t 0), none, []⟩,
  ⟨some 6, .nilCheck (.t 5), none, [1]⟩,
  ⟨some 7, .fieldAddr 0 (.t 6), none, [1, 2]⟩,
  ⟨some 8, .fieldAddr 0 (.t 7), none, [1, 2, 3]⟩,
  ⟨some 9, .load none (.t 8), none, [1, 2, 3, 4]⟩,
  ⟨some 10, .move (.t 0), none, []⟩,
  ⟨some 11, .nilCheck (.t 10), none, [6]⟩,
  ⟨some 12, .fieldAddr 0 (.t 11), none, [6, 7]⟩,
  ⟨some 13, .fieldAddr 1 (.t 12), none, [6, 7, 8]⟩,
  ⟨some 14, .load none (.t 13), none, [6, 7, 8, 9]⟩,
  ⟨some 15, .move (.t 0), none, []⟩,
  ⟨some 16, .nilCheck (.t 15), none, [11]⟩,
  ⟨some 17, .fieldAddr 0 (.t 16), none, [11, 12]⟩,
  ⟨some 18, .fieldAddr 4 (.t 17), none, [11, 12, 13]⟩,
  ⟨some 19, .load none (.t 18), none, [11, 12, 13, 14]⟩,
  ⟨some 20, .move (.t 0), none, []⟩,
  ⟨some 21, .nilCheck (.t 20), none, [16]⟩,
  ⟨some 22, .fieldAddr 0 (.t 21), none, [16, 17]⟩,
  ⟨some 23, .fieldAddr 6 (.t 22), none, [16, 17, 18]⟩,
  ⟨some 24, .load none (.t 23), none, [16, 17, 18, 19]⟩,
  ⟨some 25, .move (.t 1), none, []⟩,
  ⟨some 26, .build [.int .i64 0, .int .i64 0, .int .i64 0, .int .i64 0, .slice true [], .int .i64 0, .int .i64 0, .slice true [], .slice true [], .slice true []] [(0, 1, .t 9), (1, 1, .t 14), (4, 1, .t 19), (6, 1, .t 24), (2, 1, .t 25), (5, 1, .c (.p (.int .i64 1)))], none, [1, 2, 3, 4, 5, 6, 7, 8, 9, 10, 11, 12, 13, 14, 15, 16, 17, 18, 19, 20, 21]⟩,
  ⟨some 27, .nilCheck (.t 4), none, [0, 1, 2, 3, 4, 5, 6, 7, 8, 9, 10, 11, 12, 13, 14, 15, 16, 17, 18, 19, 20, 21, 22]⟩,
  ⟨some 28, .fieldAddr 0 (.t 27), none, [0, 1, 2, 3, 4, 5, 6, 7, 8, 9, 10, 11, 12, 13, 14, 15, 16, 17, 18, 19, 20, 21, 22, 23]⟩,
  ⟨none, .store 10 (.t 28) (.t 26), none, [0, 1, 2, 3, 4, 5, 6, 7, 8, 9, 10, 11, 12, 13, 14, 15, 16, 17, 18, 19, 20, 21, 22, 23, 24]⟩] [0, 1, 4, 5, 6, 7, 8, 9, 10, 11, 12, 13, 14, 15, 16, 17, 18, 19, 20, 21, 22, 23, 24, 25, 26, 27, 28])⟩

/-- clockwork/clockworkref40.in -/
def a91 : AFunc := ⟨12, 2, [.tmp 4],
  (.seq (.region false [
  ⟨some 4, .move (.c (.p (.bool false))), none, []⟩] [4])
  (.seq (.region false [
  ⟨some 5, .move (.t 0), none, []⟩,
  ⟨some 6, .move (.t 1), none, []⟩,
  ⟨some 7, .bin .geq (.t 5) (.t 6), none, []⟩,
  ⟨some 8, .move (.t 7), none, []⟩,
  ⟨some 9, .move (.t 0), some (8, true), []⟩,
  ⟨some 10, .bin .leq (.t 9) (.c (.p (.int .i64 1099511627776))), some (8, true), []⟩,
  ⟨some 11, .pick (.t 8) (.t 10) (.c (.p (.bool false))), none, []⟩,
  ⟨some 4, .move (.t 11), none, []⟩] [0, 1, 5, 6, 7, 8, 9, 10, 11])
  .ret))⟩

/-- clockwork/clockworkref40.validItems -/
@[irreducible] def a92_l0 : ACode :=
  (.seq (.seq (.region false [
  ⟨some 4, .move (.t 3), none, []⟩,
  ⟨some 5, .move (.t 0), none, []⟩,
  ⟨some 6, .len (.t 5), none, []⟩,
  ⟨some 7, .bin .lss (.t 4) (.t 6), none, []⟩] [4, 5, 6])
  (.cond (.t 7)
  .skip
  (.ghost (.forget [3, 7]) (.ghost .lower (.exit 0)))))
  (.seq (.block 1
  (.seq (.region false [
    ⟨some 10, .move (.t 0), none, []⟩,
    ⟨some 11, .move (.t 3), none, []⟩,
    ⟨some 12, .indexAddr 2 (.t 10) (.t 11), none, []⟩,
    ⟨some 13, .fieldAddr 0 (.t 12), none, []⟩,
    ⟨some 14, .load none (.t 13), none, []⟩,
    ⟨some 15, .call false 91 [.t 14, .c (.p (.int .i64 1))], none, []⟩,
    ⟨some 16, .un .not (.t 15), none, []⟩,
    ⟨some 17, .move (.t 16), none, []⟩,
    ⟨some 18, .move (.t 0), some (17, false), []⟩,
    ⟨some 19, .move (.t 3), some (17, false), []⟩,
    ⟨some 20, .indexAddr 2 (.t 18) (.t 19), some (17, false), []⟩,
    ⟨some 21, .fieldAddr 1 (.t 20), some (17, false), []⟩,
    ⟨some 22, .load none (.t 21), some (17, false), []⟩,
    ⟨some 23, .lenS (.t 22), some (17, false), []⟩,
    ⟨some 24, .bin .gtr (.t 23) (.c (.p (.int .i64 4096))), some (17, false), []⟩,
    ⟨some 25, .pick (.t 17) (.c (.p (.bool true))) (.t 24), none, []⟩] [7, 10, 11, 12, 13, 14, 15, 16, 17, 18, 19, 20, 21, 22, 23, 24])
    (.cond (.t 25)
    (.seq (.region false [
      ⟨some 2, .move (.c (.p (.bool false))), none, []⟩] [0, 3, 25])
      .ret)
    .skip)))
  (.region false [
  ⟨some 8, .move (.t 3), none, []⟩,
  ⟨some 9, .bin .add (.t 8) (.c (.p (.int .i64 1))), none, []⟩,
  ⟨some 3, .move (.t 9), none, []⟩] [8, 9, 25])))

def a92 : AFunc := ⟨29, 1, [.tmp 2],
  (.seq (.region false [
  ⟨some 2, .move (.c (.p (.bool false))), none, []⟩] [2])
  (.seq (.seq (.region false [
  ⟨some 3, .move (.c (.p (.int .i64 0))), none, []⟩] [])
  (.block 0
  (.loop
    (.ghost .lower a92_l0))))
  (.seq (.region false [
  ⟨some 26, .move (.t 0), none, []⟩,
  ⟨some 27, .len (.t 26), none, []⟩,
  ⟨some 28, .bin .leq (.t 27) (.c (.p (.int .i64 256))), none, []⟩,
  ⟨some 2, .move (.t 28), none, []⟩] [0, 26, 27, 28])
  .ret)))⟩

/-- clockwork/clockworkref40.unused -/
def a93 : AFunc := ⟨61, 1, [.tmp 2],
  (.seq (.region false [
  ⟨some 1, .box (.t 0), none, []⟩,
  ⟨some 2, .move (.c (.p (.bool false))), none, []⟩] [0, 2])
  (.seq (.seq (.region false [
  ⟨some 3, .fieldAddr 0 (.t 1), none, []⟩,
  ⟨some 4, .load none (.t 3), none, []⟩] [3])
  (.block 0
  (.seq (.region false [
    ⟨some 6, .bin .eql (.t 4) (.c (.p (.int .i64 1))), none, []⟩,
    ⟨some 5, .move (.t 6), none, []⟩] [6])
    (.cond (.t 5)
    (.seq (.region false [
      ⟨some 7, .fieldAddr 6 (.t 1), none, []⟩,
      ⟨some 8, .load none (.t 7), none, []⟩,
      ⟨some 9, .bin .eql (.t 8) (.c (.p (.int .i64 0))), none, []⟩,
      ⟨some 10, .move (.t 9), none, []⟩,
      ⟨some 11, .fieldAddr 7 (.t 1), some (10, true), []⟩,
      ⟨some 12, .load none (.t 11), some (10, true), []⟩,
      ⟨some 13, .un .not (.t 12), some (10, true), []⟩,
      ⟨some 14, .pick (.t 10) (.t 13) (.c (.p (.bool false))), none, []⟩,
      ⟨some 15, .move (.t 14), none, []⟩,
      ⟨some 16, .fieldAddr 8 (.t 1), some (15, true), []⟩,
      ⟨some 17, .load none (.t 16), some (15, true), []⟩,
      ⟨some 18, .len (.t 17), some (15, true), []⟩,
      ⟨some 19, .bin .eql (.t 18) (.c (.p (.int .i64 0))), some (15, true), []⟩,
      ⟨some 20, .pick (.t 15) (.t 19) (.c (.p (.bool false))), none, []⟩,
      ⟨some 2, .move (.t 20), none, []⟩] [4, 5, 7, 8, 9, 10, 11, 12, 13, 14, 15, 16, 17, 18, 19, 20])
      .ret)
    (.seq (.region false [
      ⟨some 22, .bin .eql (.t 4) (.c (.p (.int .i64 2))), none, []⟩,
      ⟨some 21, .move (.t 22), none, []⟩] [5, 22])
      (.cond (.t 21)
      (.seq (.region false [
        ⟨some 23, .fieldAddr 4 (.t 1), none, []⟩,
        ⟨some 24, .load none (.t 23), none, []⟩,
        ⟨some 25, .bin .eql (.t 24) (.c (.p (.int .i64 0))), none, []⟩,
        ⟨some 26, .move (.t 25), none, []⟩,
        ⟨some 27, .fieldAddr 5 (.t 1), some (26, true), []⟩,
        ⟨some 28, .load none (.t 27), some (26, true), []⟩,
        ⟨some 29, .bin .eql (.t 28) (.c (.p (.int .i64 0))), some (26, true), []⟩,
        ⟨some 30, .pick (.t 26) (.t 29) (.c (.p (.bool false))), none, []⟩,
        ⟨some 31, .move (.t 30), none, []⟩,
        ⟨some 32, .fieldAddr 6 (.t 1), some (31, true), []⟩,
        ⟨some 33, .load none (.t 32), some (31, true), []⟩,
        ⟨some 34, .bin .eql (.t 33) (.c (.p (.int .i64 0))), some (31, true), []⟩,
        ⟨some 35, .pick (.t 31) (.t 34) (.c (.p (.bool false))), none, []⟩,
        ⟨some 36, .move (.t 35), none, []⟩,
        ⟨some 37, .fieldAddr 8 (.t 1), some (36, true), []⟩,
        ⟨some 38, .load none (.t 37), some (36, true), []⟩,
        ⟨some 39, .len (.t 38), some (36, true), []⟩,
        ⟨some 40, .bin .eql (.t 39) (.c (.p (.int .i64 0))), some (36, true), []⟩,
        ⟨some 41, .pick (.t 36) (.t 40) (.c (.p (.bool false))), none, []⟩,
        ⟨some 2, .move (.t 41), none, []⟩] [4, 21, 23, 24, 25, 26, 27, 28, 29, 30, 31, 32, 33, 34, 35, 36, 37, 38, 39, 40, 41])
        .ret)
      (.seq (.region false [
        ⟨some 43, .bin .eql (.t 4) (.c (.p (.int .i64 3))), none, []⟩,
        ⟨some 42, .move (.t 43), none, []⟩] [4, 21, 43])
        (.cond (.t 42)
        (.seq (.region false [
          ⟨some 44, .fieldAddr 7 (.t 1), none, []⟩,
          ⟨some 45, .load none (.t 44), none, []⟩,
          ⟨some 46, .un .not (.t 45), none, []⟩,
          ⟨some 2, .move (.t 46), none, []⟩] [42, 44, 45, 46])
          .ret)
        .skip))))))))
  (.seq (.region false [
  ⟨some 47, .fieldAddr 5 (.t 1), none, []⟩,
  ⟨some 48, .load none (.t 47), none, []⟩,
  ⟨some 49, .bin .eql (.t 48) (.c (.p (.int .i64 0))), none, []⟩,
  ⟨some 50, .move (.t 49), none, []⟩,
  ⟨some 51, .fieldAddr 6 (.t 1), some (50, true), []⟩,
  ⟨some 52, .load none (.t 51), some (50, true), []⟩,
  ⟨some 53, .bin .eql (.t 52) (.c (.p (.int .i64 0))), some (50, true), []⟩,
  ⟨some 54, .pick (.t 50) (.t 53) (.c (.p (.bool false))), none, []⟩,
  ⟨some 55, .move (.t 54), none, []⟩,
  ⟨some 56, .fieldAddr 8 (.t 1), some (55, true), []⟩,
  ⟨some 57, .load none (.t 56), some (55, true), []⟩,
  ⟨some 58, .len (.t 57), some (55, true), []⟩,
  ⟨some 59, .bin .eql (.t 58) (.c (.p (.int .i64 0))), some (55, true), []⟩,
  ⟨some 60, .pick (.t 55) (.t 59) (.c (.p (.bool false))), none, []⟩,
  ⟨some 2, .move (.t 60), none, []⟩] [42, 47, 48, 49, 50, 51, 52, 53, 54, 55, 56, 57, 58, 59, 60])
  .ret)))⟩

/-- slices.Contains[[]int,int] -/
def a94 : AFunc := ⟨9, 2, [.tmp 4],
  (.seq (.region false [
  ⟨some 4, .move (.c (.p (.bool false))), none, []⟩] [4])
  (.seq (.region false [
  ⟨some 5, .move (.t 0), none, []⟩,
  ⟨some 6, .move (.t 1), none, []⟩,
  ⟨some 7, .call false 132 [.t 5, .t 6], none, []⟩,
  ⟨some 8, .bin .geq (.t 7) (.c (.p (.int .i64 0))), none, []⟩,
  ⟨some 4, .move (.t 8), none, []⟩] [0, 1, 5, 6, 7, 8])
  .ret))⟩

/-- slices.Sort[[]int,int] -/
def a95 : AFunc := ⟨11, 1, [],
  (.seq (.region false [
  ⟨some 3, .move (.t 0), none, []⟩,
  ⟨some 4, .len (.t 3), none, []⟩,
  ⟨some 2, .move (.t 4), none, []⟩] [3, 4])
  (.region false [
  ⟨some 5, .move (.t 0), none, []⟩,
  ⟨some 6, .move (.t 2), none, []⟩,
  ⟨some 7, .move (.t 2), none, []⟩,
  ⟨some 8, .conv .u64 (.t 7), none, []⟩,
  ⟨some 9, .call false 134 [.t 8], none, []⟩,
  ⟨some 10, .call true 133 [.t 5, .c (.p (.int .i64 0)), .t 6, .t 9], none, []⟩] [0, 2, 5, 6, 7, 8, 9, 10]))⟩

/-- clockwork/clockworklaw42.items -/
@[irreducible] def a98_l0 : ACode :=
  (.seq (.seq (.region false [
  ⟨some 7, .move (.t 3), none, []⟩,
  ⟨some 8, .move (.t 0), none, []⟩,
  ⟨some 9, .len (.t 8), none, []⟩,
  ⟨some 10, .bin .lss (.t 7) (.t 9), none, []⟩] [7, 8, 9])
  (.cond (.t 10)
  .skip
  (.ghost (.forget [0, 3, 10]) (.ghost .lower (.exit 0)))))
  (.seq (.block 1
  (.seq (.region false [
    ⟨some 13, .move (.t 0), none, []⟩,
    ⟨some 14, .move (.t 3), none, []⟩,
    ⟨some 15, .indexAddr 2 (.t 13) (.t 14), none, []⟩,
    ⟨some 16, .fieldAddr 1 (.t 15), none, []⟩,
    ⟨some 17, .load none (.t 16), none, []⟩,
    ⟨some 18, .lenS (.t 17), none, []⟩,
    ⟨some 19, .bin .gtr (.t 18) (.c (.p (.int .i64 5000))), none, []⟩] [10, 13, 14, 15, 16, 17, 18])
    (.cond (.t 19)
    (.seq (.region false [
      ⟨some 2, .move (.c (.p (.bool false))), none, []⟩] [0, 3, 19])
      .ret)
    .skip)))
  (.region false [
  ⟨some 11, .move (.t 3), none, []⟩,
  ⟨some 12, .bin .add (.t 11) (.c (.p (.int .i64 1))), none, []⟩,
  ⟨some 3, .move (.t 12), none, []⟩] [11, 12, 19])))

def a98 : AFunc := ⟨20, 1, [.tmp 2],
  (.seq (.region false [
  ⟨some 2, .move (.c (.p (.bool false))), none, []⟩] [2])
  (.seq (.seq (.region false [
  ⟨some 4, .move (.t 0), none, []⟩,
  ⟨some 5, .len (.t 4), none, []⟩,
  ⟨some 6, .bin .gtr (.t 5) (.c (.p (.int .i64 300))), none, []⟩] [4, 5])
  (.cond (.t 6)
  (.seq (.region false [
    ⟨some 2, .move (.c (.p (.bool false))), none, []⟩] [0, 6])
    .ret)
  .skip))
  (.seq (.seq (.region false [
  ⟨some 3, .move (.c (.p (.int .i64 0))), none, []⟩] [6])
  (.block 0
  (.loop
    (.ghost .lower a98_l0))))
  (.seq (.region false [
  ⟨some 2, .move (.c (.p (.bool true))), none, []⟩] [])
  .ret))))⟩

/-- clockwork/clockworklaw42.leader -/
def a99 : AFunc := ⟨4, 0, [.cell 0 10],
  (.seq (.region false [
  ⟨some 0, .alloc [.int .i64 0, .int .i64 0, .int .i64 0, .int .i64 0, .slice true [], .int .i64 0, .int .i64 0, .slice true [], .slice true [], .slice true []], none, []⟩] [])
  (.seq (.region false [
  ⟨some 1, .buildSlice [.int .i64 0] 3 [(0, .c (.p (.int .i64 0))), (1, .c (.p (.int .i64 0))), (2, .c (.p (.int .i64 0)))], none, []⟩,
  ⟨some 2, .buildSlice [.int .i64 0] 3 [(0, .c (.p (.int .i64 0))), (1, .c (.p (.int .i64 0))), (2, .c (.p (.int .i64 0)))], none, []⟩,
  ⟨some 3, .build [.int .i64 0, .int .i64 0, .int .i64 0, .int .i64 0, .slice true [], .int .i64 0, .int .i64 0, .slice true [], .slice true [], .slice true []] [(0, 1, .c (.p (.int .i64 1))), (1, 1, .c (.p (.int .i64 3))), (2, 1, .c (.p (.int .i64 1))), (3, 1, .c (.p (.int .i64 1))), (5, 1, .c (.p (.int .i64 3))), (8, 1, .t 1), (9, 1, .t 2)], none, []⟩,
  ⟨none, .store 10 (.t 0) (.t 3), none, []⟩] [1, 2, 3])
  .ret))⟩

/-- clockwork/replicate.Ack -/
def a100 : AFunc := ⟨100, 2, [.cell 4 10],
  (.seq (.region false [
  ⟨some 2, .box (.t 0), none, []⟩,
  ⟨some 3, .box (.t 1), none, []⟩,
  ⟨some 4, .alloc [.int .i64 0, .int .i64 0, .int .i64 0, .int .i64 0, .slice true [], .int .i64 0, .int .i64 0, .slice true [], .slice true [], .slice true []], none, []⟩] [0, 1])
  (.seq (.region false [
  ⟨some 7, .load (some 10) (.t 2), none, []⟩,
  ⟨some 8, .call true 101 [.t 7], none, []⟩,
  ⟨some 5, .alloc [.int .i64 0, .int .i64 0, .int .i64 0, .int .i64 0, .slice true [], .int .i64 0, .int .i64 0, .slice true [], .slice true [], .slice true []], none, []⟩,
  ⟨none, .store 10 (.t 5) (.t 8), none, []⟩] [7, 8])
  (.seq (.seq (.region false [
  ⟨some 9, .load (some 10) (.t 2), none, []⟩,
  ⟨some 10, .load (some 9) (.t 3), none, []⟩,
  ⟨some 11, .call false 108 [.t 9, .t 10, .c (.p (.int .i64 4))], none, []⟩,
  ⟨some 12, .un .not (.t 11), none, []⟩] [9, 10, 11])
  (.cond (.t 12)
  (.seq (.region false [
    ⟨some 13, .load (some 10) (.t 5), none, []⟩,
    ⟨none, .store 10 (.t 4) (.t 13), none, []⟩] [12, 13])
    .ret)
  .skip))
  (.seq (.seq (.region false [
  ⟨some 14, .fieldAddr 3 (.t 3), none, []⟩,
  ⟨some 15, .load none (.t 14), none, []⟩,
  ⟨some 16, .fieldAddr 2 (.t 2), none, []⟩,
  ⟨some 17, .load none (.t 16), none, []⟩,
  ⟨some 18, .bin .gtr (.t 15) (.t 17), none, []⟩] [12, 14, 15, 16, 17])
  (.cond (.t 18)
  (.seq (.region false [
    ⟨some 19, .load (some 10) (.t 5), none, []⟩,
    ⟨some 20, .fieldAddr 3 (.t 3), none, []⟩,
    ⟨some 21, .load none (.t 20), none, []⟩,
    ⟨some 22, .call false 110 [.t 19, .t 21], none, []⟩,
    ⟨none, .store 10 (.t 4) (.t 22), none, []⟩] [18, 19, 20, 21, 22])
    .ret)
  .skip))
  (.seq (.seq (.region false [
  ⟨some 23, .fieldAddr 3 (.t 3), none, []⟩,
  ⟨some 24, .load none (.t 23), none, []⟩,
  ⟨some 25, .fieldAddr 2 (.t 2), none, []⟩,
  ⟨some 26, .load none (.t 25), none, []⟩,
  ⟨some 27, .bin .lss (.t 24) (.t 26), none, []⟩,
  ⟨some 28, .move (.t 27), none, []⟩,
  ⟨some 29, .fieldAddr 5 (.t 2), some (28, false), []⟩,
  ⟨some 30, .load none (.t 29), some (28, false), []⟩,
  ⟨some 31, .bin .neq (.t 30) (.c (.p (.int .i64 3))), some (28, false), []⟩,
  ⟨some 32, .pick (.t 28) (.c (.p (.bool true))) (.t 31), none, []⟩] [18, 23, 24, 25, 26, 27, 28, 29, 30, 31])
  (.cond (.t 32)
  (.seq (.region false [
    ⟨some 33, .load (some 10) (.t 5), none, []⟩,
    ⟨none, .store 10 (.t 4) (.t 33), none, []⟩] [32, 33])
    .ret)
  .skip))
  (.seq (.region false [
  ⟨some 34, .fieldAddr 1 (.t 3), none, []⟩,
  ⟨some 35, .load none (.t 34), none, []⟩,
  ⟨some 36, .bin .sub (.t 35) (.c (.p (.int .i64 1))), none, []⟩,
  ⟨some 6, .move (.t 36), none, []⟩] [32, 34, 35, 36])
  (.seq (.block 0
  (.seq (.region false [
    ⟨some 38, .fieldAddr 7 (.t 3), none, []⟩,
    ⟨some 39, .load none (.t 38), none, []⟩,
    ⟨some 40, .move (.t 39), none, []⟩,
    ⟨some 41, .fieldAddr 4 (.t 3), some (40, true), []⟩,
    ⟨some 42, .load none (.t 41), some (40, true), []⟩,
    ⟨some 43, .fieldAddr 4 (.t 5), some (40, true), []⟩,
    ⟨some 44, .load none (.t 43), some (40, true), []⟩,
    ⟨some 45, .len (.t 44), some (40, true), []⟩,
    ⟨some 46, .bin .gtr (.t 42) (.t 45), some (40, true), []⟩,
    ⟨some 47, .pick (.t 40) (.t 46) (.c (.p (.bool false))), none, []⟩,
    ⟨some 37, .move (.t 47), none, []⟩] [38, 39, 40, 41, 42, 43, 44, 45, 46, 47])
    (.cond (.t 37)
    (.seq (.region false [
      ⟨some 48, .load (some 10) (.t 5), none, []⟩,
      ⟨none, .store 10 (.t 4) (.t 48), none, []⟩] [6, 37, 48])
      .ret)
    (.seq (.region false [
      ⟨some 50, .fieldAddr 7 (.t 3), none, []⟩,
      ⟨some 51, .load none (.t 50), none, []⟩,
      ⟨some 49, .move (.t 51), none, []⟩] [37, 50, 51])
      (.cond (.t 49)
      (.seq (.region true [
        ⟨some 52, .fieldAddr 9 (.t 5), none, []⟩,
        ⟨some 53, .load none (.t 52), none, [0]⟩,
        ⟨some 54, .move (.t 6), none, []⟩,
        ⟨some 55, .fieldAddr 9 (.t 5), none, []⟩,
        ⟨some 56, .load none (.t 55), none, [3]⟩,
        ⟨some 57, .move (.t 6), none, []⟩,
        ⟨some 58, .indexAddr 1 (.t 56) (.t 57), none, [3, 4, 5]⟩,
        ⟨some 59, .load none (.t 58), none, [3, 4, 5, 6]⟩,
        ⟨some 60, .fieldAddr 4 (.t 3), none, []⟩,
        ⟨some 61, .load none (.t 60), none, [8]⟩,
        ⟨some 62, .minmax true (.t 59) [.t 61], none, [3, 4, 5, 6, 7, 8, 9]⟩,
        ⟨some 63, .indexAddr 1 (.t 53) (.t 54), none, [0, 1, 2, 3, 4, 5, 6, 7, 8, 9, 10]⟩,
        ⟨none, .store 1 (.t 63) (.t 62), none, [0, 1, 2, 3, 4, 5, 6, 7, 8, 9, 10, 11]⟩] [49, 52, 53, 54, 55, 56, 57, 58, 59, 60, 61, 62, 63])
        (.region true [
        ⟨some 64, .fieldAddr 8 (.t 5), none, []⟩,
        ⟨some 65, .load none (.t 64), none, [0]⟩,
        ⟨some 66, .move (.t 6), none, []⟩,
        ⟨some 67, .fieldAddr 9 (.t 5), none, []⟩,
        ⟨some 68, .load none (.t 67), none, [3]⟩,
        ⟨some 69, .move (.t 6), none, []⟩,
        ⟨some 70, .indexAddr 1 (.t 68) (.t 69), none, [3, 4, 5]⟩,
        ⟨some 71, .load none (.t 70), none, [3, 4, 5, 6]⟩,
        ⟨some 72, .indexAddr 1 (.t 65) (.t 66), none, [0, 1, 2, 3, 4, 5, 6, 7]⟩,
        ⟨none, .store 1 (.t 72) (.t 71), none, [0, 1, 2, 3, 4, 5, 6, 7, 8]⟩] [6, 64, 65, 66, 67, 68, 69, 70, 71, 72]))
      (.seq (.region false [
        ⟨some 74, .fieldAddr 7 (.t 3), none, []⟩,
        ⟨some 75, .load none (.t 74), none, []⟩,
        ⟨some 76, .un .not (.t 75), none, []⟩,
        ⟨some 73, .move (.t 76), none, []⟩] [49, 74, 75, 76])
        (.cond (.t 73)
        (.region true [
          ⟨some 77, .fieldAddr 8 (.t 5), none, []⟩,
          ⟨some 78, .load none (.t 77), none, [0]⟩,
          ⟨some 79, .move (.t 6), none, []⟩,
          ⟨some 80, .fieldAddr 8 (.t 5), none, []⟩,
          ⟨some 81, .load none (.t 80), none, [3]⟩,
          ⟨some 82, .move (.t 6), none, []⟩,
          ⟨some 83, .indexAddr 1 (.t 81) (.t 82), none, [3, 4, 5]⟩,
          ⟨some 84, .load none (.t 83), none, [3, 4, 5, 6]⟩,
          ⟨some 85, .bin .sub (.t 84) (.c (.p (.int .i64 1))), none, [3, 4, 5, 6, 7]⟩,
          ⟨some 86, .fieldAddr 4 (.t 3), none, []⟩,
          ⟨some 87, .load none (.t 86), none, [9]⟩,
          ⟨some 88, .minmax false (.t 85) [.t 87], none, [3, 4, 5, 6, 7, 8, 9, 10]⟩,
          ⟨some 89, .fieldAddr 9 (.t 5), none, []⟩,
          ⟨some 90, .load none (.t 89), none, [12]⟩,
          ⟨some 91, .move (.t 6), none, []⟩,
          ⟨some 92, .indexAddr 1 (.t 90) (.t 91), none, [12, 13, 14]⟩,
          ⟨some 93, .load none (.t 92), none, [12, 13, 14, 15]⟩,
          ⟨some 94, .minmax true (.t 88) [.t 93], none, [3, 4, 5, 6, 7, 8, 9, 10, 11, 12, 13, 14, 15, 16]⟩,
          ⟨some 95, .indexAddr 1 (.t 78) (.t 79), none, [0, 1, 2, 3, 4, 5, 6, 7, 8, 9, 10, 11, 12, 13, 14, 15, 16, 17]⟩,
          ⟨none, .store 1 (.t 95) (.t 94), none, [0, 1, 2, 3, 4, 5, 6, 7, 8, 9, 10, 11, 12, 13, 14, 15, 16, 17, 18]⟩] [6, 73, 77, 78, 79, 80, 81, 82, 83, 84, 85, 86, 87, 88, 89, 90, 91, 92, 93, 94, 95])
        .skip)))))))
  (.seq (.region false [
  ⟨some 96, .load (some 10) (.t 5), none, []⟩,
  ⟨some 97, .call false 102 [.t 96], none, []⟩,
  ⟨some 98, .fieldAddr 6 (.t 5), none, []⟩,
  ⟨none, .store 1 (.t 98) (.t 97), none, []⟩] [6, 73, 96, 97, 98])
  (.seq (.region false [
  ⟨some 99, .load (some 10) (.t 5), none, []⟩,
  ⟨none, .store 10 (.t 4) (.t 99), none, []⟩] [99])
  .ret)))))))))⟩

/-- clockwork/replicate.clone -/
def a101 : AFunc := ⟨20, 1, [.cell 2 10],
  (.seq (.region false [
  ⟨some 1, .box (.t 0), none, []⟩,
  ⟨some 2, .alloc [.int .i64 0, .int .i64 0, .int .i64 0, .int .i64 0, .slice true [], .int .i64 0, .int .i64 0, .slice true [], .slice true [], .slice true []], none, []⟩] [0])
  (.seq (.region false [
  ⟨some 3, .fieldAddr 4 (.t 1), none, []⟩,
  ⟨some 4, .load none (.t 3), none, []⟩,
  ⟨some 5, .call true 97 [.t 4], none, []⟩,
  ⟨some 6, .fieldAddr 4 (.t 1), none, []⟩,
  ⟨none, .store 1 (.t 6) (.t 5), none, []⟩] [3, 4, 5, 6])
  (.seq (.region false [
  ⟨some 7, .fieldAddr 7 (.t 1), none, []⟩,
  ⟨some 8, .load none (.t 7), none, []⟩,
  ⟨some 9, .call true 129 [.t 8], none, []⟩,
  ⟨some 10, .fieldAddr 7 (.t 1), none, []⟩,
  ⟨none, .store 1 (.t 10) (.t 9), none, []⟩] [7, 8, 9, 10])
  (.seq (.region false [
  ⟨some 11, .fieldAddr 8 (.t 1), none, []⟩,
  ⟨some 12, .load none (.t 11), none, []⟩,
  ⟨some 13, .call true 129 [.t 12], none, []⟩,
  ⟨some 14, .fieldAddr 8 (.t 1), none, []⟩,
  ⟨none, .store 1 (.t 14) (.t 13), none, []⟩] [11, 12, 13, 14])
  (.seq (.region false [
  ⟨some 15, .fieldAddr 9 (.t 1), none, []⟩,
  ⟨some 16, .load none (.t 15), none, []⟩,
  ⟨some 17, .call true 129 [.t 16], none, []⟩,
  ⟨some 18, .fieldAddr 9 (.t 1), none, []⟩,
  ⟨none, .store 1 (.t 18) (.t 17), none, []⟩] [15, 16, 17, 18])
  (.seq (.region false [
  ⟨some 19, .load (some 10) (.t 1), none, []⟩,
  ⟨none, .store 10 (.t 2) (.t 19), none, []⟩] [19])
  .ret))))))⟩

/-- clockwork/replicate.commit -/
@[irreducible] def a102_l0 : ACode :=
  (.seq (.seq (.region false [
  ⟨some 7, .move (.t 3), none, []⟩,
  ⟨some 8, .fieldAddr 6 (.t 1), none, []⟩,
  ⟨some 9, .load none (.t 8), none, []⟩,
  ⟨some 10, .bin .gtr (.t 7) (.t 9), none, []⟩] [7, 8, 9])
  (.cond (.t 10)
  .skip
  (.ghost (.forget [3, 10]) (.ghost .lower (.exit 0)))))
  (.seq (.block 1
  (.seq (.region true [
    ⟨some 13, .fieldAddr 4 (.t 1), none, []⟩,
    ⟨some 14, .load none (.t 13), none, [0]⟩,
    ⟨some 15, .move (.t 3), none, []⟩,
    ⟨some 16, .bin .sub (.t 15) (.c (.p (.int .i64 1))), none, [2]⟩,
    ⟨some 17, .indexAddr 2 (.t 14) (.t 16), none, [0, 1, 2, 3]⟩,
    ⟨some 18, .fieldAddr 0 (.t 17), none, [0, 1, 2, 3, 4]⟩,
    ⟨some 19, .load none (.t 18), none, [0, 1, 2, 3, 4, 5]⟩,
    ⟨some 20, .fieldAddr 2 (.t 1), none, []⟩,
    ⟨some 21, .load none (.t 20), none, [7]⟩,
    ⟨some 22, .bin .eql (.t 19) (.t 21), none, [0, 1, 2, 3, 4, 5, 6, 7, 8]⟩,
    ⟨some 23, .move (.t 22), none, [0, 1, 2, 3, 4, 5, 6, 7, 8, 9]⟩,
    ⟨some 24, .load (some 10) (.t 1), some (23, true), [0, 1, 2, 3, 4, 5, 6, 7, 8, 9, 10]⟩,
    ⟨some 25, .move (.t 3), some (23, true), [0, 1, 2, 3, 4, 5, 6, 7, 8, 9, 10]⟩,
    ⟨some 26, .call false 135 [.t 24, .t 25], some (23, true), [0, 1, 2, 3, 4, 5, 6, 7, 8, 9, 10, 11, 12]⟩,
    ⟨some 27, .fieldAddr 1 (.t 1), some (23, true), [0, 1, 2, 3, 4, 5, 6, 7, 8, 9, 10]⟩,
    ⟨some 28, .load none (.t 27), some (23, true), [0, 1, 2, 3, 4, 5, 6, 7, 8, 9, 10, 14]⟩,
    ⟨some 29, .call false 25 [.t 28], some (23, true), [0, 1, 2, 3, 4, 5, 6, 7, 8, 9, 10, 11, 12, 13, 14, 15]⟩,
    ⟨some 30, .bin .geq (.t 26) (.t 29), some (23, true), [0, 1, 2, 3, 4, 5, 6, 7, 8, 9, 10, 11, 12, 13, 14, 15, 16]⟩,
    ⟨some 31, .pick (.t 23) (.t 30) (.c (.p (.bool false))), none, [0, 1, 2, 3, 4, 5, 6, 7, 8, 9, 10, 11, 12, 13, 14, 15, 16, 17]⟩] [10, 13, 14, 15, 16, 17, 18, 19, 20, 21, 22, 23, 24, 25, 26, 27, 28, 29, 30])
    (.cond (.t 31)
    (.seq (.region false [
      ⟨some 32, .move (.t 3), none, []⟩,
      ⟨some 2, .move (.t 32), none, []⟩] [3, 31, 32])
      .ret)
    .skip)))
  (.region false [
  ⟨some 11, .move (.t 3), none, []⟩,
  ⟨some 12, .bin .sub (.t 11) (.c (.p (.int .i64 1))), none, []⟩,
  ⟨some 3, .move (.t 12), none, []⟩] [11, 12, 31])))

def a102 : AFunc := ⟨35, 1, [.tmp 2],
  (.seq (.region false [
  ⟨some 1, .box (.t 0), none, []⟩,
  ⟨some 2, .move (.c (.p (.int .i64 0))), none, []⟩] [0, 2])
  (.seq (.seq (.region false [
  ⟨some 4, .fieldAddr 4 (.t 1), none, []⟩,
  ⟨some 5, .load none (.t 4), none, []⟩,
  ⟨some 6, .len (.t 5), none, []⟩,
  ⟨some 3, .move (.t 6), none, []⟩] [4, 5, 6])
  (.block 0
  (.loop
    (.ghost .lower a102_l0))))
  (.seq (.region false [
  ⟨some 33, .fieldAddr 6 (.t 1), none, []⟩,
  ⟨some 34, .load none (.t 33), none, []⟩,
  ⟨some 2, .move (.t 34), none, []⟩] [33, 34])
  .ret)))⟩

/-- clockwork/replicate.termOf -/
def a106 : AFunc := ⟨14, 2, [.tmp 4],
  (.seq (.region false [
  ⟨some 2, .box (.t 0), none, []⟩,
  ⟨some 4, .move (.c (.p (.int .i64 0))), none, []⟩] [0, 4])
  (.seq (.seq (.region false [
  ⟨some 5, .move (.t 1), none, []⟩,
  ⟨some 6, .bin .eql (.t 5) (.c (.p (.int .i64 0))), none, []⟩] [5])
  (.cond (.t 6)
  (.seq (.region false [
    ⟨some 4, .move (.c (.p (.int .i64 0))), none, []⟩] [1, 6])
    .ret)
  .skip))
  (.seq (.region false [
  ⟨some 7, .fieldAddr 4 (.t 2), none, []⟩,
  ⟨some 8, .load none (.t 7), none, []⟩,
  ⟨some 9, .move (.t 1), none, []⟩,
  ⟨some 10, .bin .sub (.t 9) (.c (.p (.int .i64 1))), none, []⟩,
  ⟨some 11, .indexAddr 2 (.t 8) (.t 10), none, []⟩,
  ⟨some 12, .fieldAddr 0 (.t 11), none, []⟩,
  ⟨some 13, .load none (.t 12), none, []⟩,
  ⟨some 4, .move (.t 13), none, []⟩] [1, 6, 7, 8, 9, 10, 11, 12, 13])
  .ret)))⟩

/-- clockwork/replicate.concerns -/
def a108 : AFunc := ⟨28, 3, [.tmp 6],
  (.seq (.region false [
  ⟨some 3, .box (.t 0), none, []⟩,
  ⟨some 4, .box (.t 1), none, []⟩,
  ⟨some 6, .move (.c (.p (.bool false))), none, []⟩] [0, 1, 6])
  (.seq (.region false [
  ⟨some 7, .load (some 10) (.t 3), none, []⟩,
  ⟨some 8, .call false 28 [.t 7], none, []⟩,
  ⟨some 9, .move (.t 8), none, []⟩,
  ⟨some 10, .load (some 9) (.t 4), some (9, true), []⟩,
  ⟨some 11, .fieldAddr 1 (.t 3), some (9, true), []⟩,
  ⟨some 12, .load none (.t 11), some (9, true), []⟩,
  ⟨some 13, .call false 131 [.t 10, .t 12], some (9, true), []⟩,
  ⟨some 14, .pick (.t 9) (.t 13) (.c (.p (.bool false))), none, []⟩,
  ⟨some 15, .move (.t 14), none, []⟩,
  ⟨some 16, .fieldAddr 2 (.t 4), some (15, true), []⟩,
  ⟨some 17, .load none (.t 16), some (15, true), []⟩,
  ⟨some 18, .fieldAddr 0 (.t 3), some (15, true), []⟩,
  ⟨some 19, .load none (.t 18), some (15, true), []⟩,
  ⟨some 20, .bin .eql (.t 17) (.t 19), some (15, true), []⟩,
  ⟨some 21, .pick (.t 15) (.t 20) (.c (.p (.bool false))), none, []⟩,
  ⟨some 22, .move (.t 21), none, []⟩,
  ⟨some 23, .fieldAddr 0 (.t 4), some (22, true), []⟩,
  ⟨some 24, .load none (.t 23), some (22, true), []⟩,
  ⟨some 25, .move (.t 2), some (22, true), []⟩,
  ⟨some 26, .bin .eql (.t 24) (.t 25), some (22, true), []⟩,
  ⟨some 27, .pick (.t 22) (.t 26) (.c (.p (.bool false))), none, []⟩,
  ⟨some 6, .move (.t 27), none, []⟩] [2, 7, 8, 9, 10, 11, 12, 13, 14, 15, 16, 17, 18, 19, 20, 21, 22, 23, 24, 25, 26, 27])
  .ret))⟩

/-- clockwork/replicate.reply -/
def a109 : AFunc := ⟨18, 4, [.tmp 8],
  (.seq (.region false [
  ⟨some 4, .box (.t 0), none, []⟩,
  ⟨some 8, .move (.c (.p (.slice true []))), none, []⟩] [0, 8])
  (.seq (.region false [
  ⟨some 9, .fieldAddr 0 (.t 4), none, []⟩,
  ⟨some 10, .load none (.t 9), none, []⟩,
  ⟨some 11, .move (.t 1), none, []⟩,
  ⟨some 12, .fieldAddr 2 (.t 4), none, []⟩,
  ⟨some 13, .load none (.t 12), none, []⟩,
  ⟨some 14, .move (.t 2), none, []⟩,
  ⟨some 15, .move (.t 3), none, []⟩,
  ⟨some 16, .build [.int .i64 0, .int .i64 0, .int .i64 0, .int .i64 0, .int .i64 0, .int .i64 0, .int .i64 0, .bool false, .slice true []] [(0, 1, .c (.p (.int .i64 4))), (1, 1, .t 10), (2, 1, .t 11), (3, 1, .t 13), (4, 1, .t 14), (7, 1, .t 15)], none, []⟩,
  ⟨some 17, .buildSlice [.int .i64 0, .int .i64 0, .int .i64 0, .int .i64 0, .int .i64 0, .int .i64 0, .int .i64 0, .bool false, .slice true []] 1 [(0, .t 16)], none, []⟩,
  ⟨some 8, .move (.t 17), none, []⟩] [1, 2, 3, 9, 10, 11, 12, 13, 14, 15, 16, 17])
  .ret))⟩

/-- clockwork/replicate.follow -/
def a110 : AFunc := ⟨15, 2, [.cell 4 10],
  (.seq (.region false [
  ⟨some 2, .box (.t 0), none, []⟩,
  ⟨some 4, .alloc [.int .i64 0, .int .i64 0, .int .i64 0, .int .i64 0, .slice true [], .int .i64 0, .int .i64 0, .slice true [], .slice true [], .slice true []], none, []⟩] [0])
  (.seq (.region false [
  ⟨some 5, .fieldAddr 0 (.t 2), none, []⟩,
  ⟨some 6, .load none (.t 5), none, []⟩,
  ⟨some 7, .fieldAddr 1 (.t 2), none, []⟩,
  ⟨some 8, .load none (.t 7), none, []⟩,
  ⟨some 9, .fieldAddr 4 (.t 2), none, []⟩,
  ⟨some 10, .load none (.t 9), none, []⟩,
  ⟨some 11, .fieldAddr 6 (.t 2), none, []⟩,
  ⟨some 12, .load none (.t 11), none, []⟩,
  ⟨some 13, .move (.t 1), none, []⟩,
  ⟨some 14, .build [.int .i64 0, .int .i64 0, .int .i64 0, .int .i64 0, .slice true [], .int .i64 0, .int .i64 0, .slice true [], .slice true [], .slice true []] [(0, 1, .t 6), (1, 1, .t 8), (4, 1, .t 10), (6, 1, .t 12), (2, 1, .t 13), (5, 1, .c (.p (.int .i64 1)))], none, []⟩,
  ⟨none, .store 10 (.t 4) (.t 14), none, []⟩] [1, 5, 6, 7, 8, 9, 10, 11, 12, 13, 14])
  .ret))⟩

/-- clockwork/replicate.same -/
@[irreducible] def a111_l0 : ACode :=
  (.seq (.region false [
  ⟨some 13, .bin .lss (.t 12) (.t 11), none, []⟩] [])
  (.seq (.cond (.t 13)
  .skip
  (.ghost (.forget [0, 1, 10, 11, 12, 13]) (.ghost .lower (.exit 0))))
  (.seq (.block 1
  (.seq (.region false [
    ⟨some 14, .move (.t 12), none, []⟩,
    ⟨some 15, .indexAddr 2 (.t 10) (.t 12), none, []⟩,
    ⟨some 16, .load (some 2) (.t 15), none, []⟩,
    ⟨some 9, .alloc [.int .i64 0, .str ⟨#[]⟩], none, []⟩,
    ⟨some 8, .move (.t 14), none, []⟩,
    ⟨none, .store 2 (.t 9) (.t 16), none, []⟩] [13, 14, 15, 16])
    (.seq (.block 2
    (.seq (.seq (.region false [
      ⟨some 18, .move (.t 1), none, []⟩,
      ⟨some 19, .move (.t 8), none, []⟩,
      ⟨some 20, .bin .add (.t 18) (.t 19), none, []⟩,
      ⟨some 21, .move (.t 0), none, []⟩,
      ⟨some 22, .len (.t 21), none, []⟩,
      ⟨some 23, .bin .geq (.t 20) (.t 22), none, []⟩,
      ⟨some 17, .move (.t 23), none, []⟩] [18, 19, 20, 21, 22, 23])
      (.cond (.t 17)
      .skip
      (.region true [
        ⟨some 24, .move (.t 0), none, []⟩,
        ⟨some 25, .move (.t 1), none, []⟩,
        ⟨some 26, .move (.t 8), none, []⟩,
        ⟨some 27, .bin .add (.t 25) (.t 26), none, [1, 2]⟩,
        ⟨some 28, .indexAddr 2 (.t 24) (.t 27), none, [0, 1, 2, 3]⟩,
        ⟨some 29, .load (some 2) (.t 28), none, [0, 1, 2, 3, 4]⟩,
        ⟨some 30, .load (some 2) (.t 9), none, []⟩,
        ⟨some 31, .eqagg true [(0, 0), (1, 2)] (.t 29) (.t 30), none, [0, 1, 2, 3, 4, 5, 6]⟩,
        ⟨some 17, .move (.t 31), none, [0, 1, 2, 3, 4, 5, 6, 7]⟩] [8, 24, 25, 26, 27, 28, 29, 30, 31])))
      (.cond (.t 17)
      (.ghost (.forget [0, 1, 8, 10, 11, 12, 17]) (.ghost (.free [9]) (.ghost .lower (.exit 0))))
      .skip)))
    (.region false [
    ⟨some 32, .move (.t 7), none, []⟩,
    ⟨some 33, .bin .add (.t 32) (.c (.p (.int .i64 1))), none, []⟩,
    ⟨some 7, .move (.t 33), none, []⟩] [8, 17, 32, 33]))))
  (.region false [
  ⟨some 34, .bin .add (.t 12) (.c (.p (.int .i64 1))), none, []⟩,
  ⟨some 12, .move (.t 34), none, []⟩] [34]))))

def a111 : AFunc := ⟨36, 3, [.tmp 6],
  (.seq (.region false [
  ⟨some 6, .move (.c (.p (.int .i64 0))), none, []⟩] [6])
  (.scope
  (.seq (.region false [
  ⟨some 7, .move (.c (.p (.int .i64 0))), none, []⟩] [])
  (.seq .skip
  (.seq (.seq (.region false [
  ⟨some 10, .move (.t 2), none, []⟩,
  ⟨some 11, .len (.t 10), none, []⟩,
  ⟨some 12, .move (.c (.p (.int .i64 0))), none, []⟩] [2])
  (.block 0
  (.loop
    (.ghost (.free [9]) (.ghost .lower a111_l0)))))
  (.seq (.region false [
  ⟨some 35, .move (.t 7), none, []⟩,
  ⟨some 6, .move (.t 35), none, []⟩] [7, 35])
  .ret))))))⟩

/-- clockwork/network.Valid -/
def a131 : AFunc := ⟨58, 2, [.tmp 4],
  (.seq (.region false [
  ⟨some 2, .box (.t 0), none, []⟩,
  ⟨some 4, .move (.c (.p (.bool false))), none, []⟩] [0, 4])
  (.seq (.seq (.region false [
  ⟨some 5, .move (.t 1), none, []⟩,
  ⟨some 6, .call false 145 [.t 5, .c (.p (.int .i64 1)), .c (.p (.int .i64 7))], none, []⟩,
  ⟨some 7, .un .not (.t 6), none, []⟩,
  ⟨some 8, .move (.t 7), none, []⟩,
  ⟨some 9, .fieldAddr 1 (.t 2), some (8, false), []⟩,
  ⟨some 10, .load none (.t 9), some (8, false), []⟩,
  ⟨some 11, .move (.t 1), some (8, false), []⟩,
  ⟨some 12, .call false 145 [.t 10, .c (.p (.int .i64 1)), .t 11], some (8, false), []⟩,
  ⟨some 13, .un .not (.t 12), some (8, false), []⟩,
  ⟨some 14, .pick (.t 8) (.c (.p (.bool true))) (.t 13), none, []⟩,
  ⟨some 15, .move (.t 14), none, []⟩,
  ⟨some 16, .fieldAddr 2 (.t 2), some (15, false), []⟩,
  ⟨some 17, .load none (.t 16), some (15, false), []⟩,
  ⟨some 18, .move (.t 1), some (15, false), []⟩,
  ⟨some 19, .call false 145 [.t 17, .c (.p (.int .i64 1)), .t 18], some (15, false), []⟩,
  ⟨some 20, .un .not (.t 19), some (15, false), []⟩,
  ⟨some 21, .pick (.t 15) (.c (.p (.bool true))) (.t 20), none, []⟩,
  ⟨some 22, .move (.t 21), none, []⟩,
  ⟨some 23, .fieldAddr 1 (.t 2), some (22, false), []⟩,
  ⟨some 24, .load none (.t 23), some (22, false), []⟩,
  ⟨some 25, .fieldAddr 2 (.t 2), some (22, false), []⟩,
  ⟨some 26, .load none (.t 25), some (22, false), []⟩,
  ⟨some 27, .bin .eql (.t 24) (.t 26), some (22, false), []⟩,
  ⟨some 28, .pick (.t 22) (.c (.p (.bool true))) (.t 27), none, []⟩] [1, 5, 6, 7, 8, 9, 10, 11, 12, 13, 14, 15, 16, 17, 18, 19, 20, 21, 22, 23, 24, 25, 26, 27])
  (.cond (.t 28)
  (.seq (.region false [
    ⟨some 4, .move (.c (.p (.bool false))), none, []⟩] [28])
    .ret)
  .skip))
  (.seq (.seq (.region false [
  ⟨some 29, .fieldAddr 3 (.t 2), none, []⟩,
  ⟨some 30, .load none (.t 29), none, []⟩,
  ⟨some 31, .call false 145 [.t 30, .c (.p (.int .i64 1)), .c (.p (.int .i64 1099511627776))], none, []⟩,
  ⟨some 32, .un .not (.t 31), none, []⟩,
  ⟨some 33, .move (.t 32), none, []⟩,
  ⟨some 34, .fieldAddr 4 (.t 2), some (33, false), []⟩,
  ⟨some 35, .load none (.t 34), some (33, false), []⟩,
  ⟨some 36, .call false 145 [.t 35, .c (.p (.int .i64 0)), .c (.p (.int .i64 1099511627776))], some (33, false), []⟩,
  ⟨some 37, .un .not (.t 36), some (33, false), []⟩,
  ⟨some 38, .pick (.t 33) (.c (.p (.bool true))) (.t 37), none, []⟩,
  ⟨some 39, .move (.t 38), none, []⟩,
  ⟨some 40, .fieldAddr 5 (.t 2), some (39, false), []⟩,
  ⟨some 41, .load none (.t 40), some (39, false), []⟩,
  ⟨some 42, .call false 145 [.t 41, .c (.p (.int .i64 0)), .c (.p (.int .i64 1099511627776))], some (39, false), []⟩,
  ⟨some 43, .un .not (.t 42), some (39, false), []⟩,
  ⟨some 44, .pick (.t 39) (.c (.p (.bool true))) (.t 43), none, []⟩,
  ⟨some 45, .move (.t 44), none, []⟩,
  ⟨some 46, .fieldAddr 6 (.t 2), some (45, false), []⟩,
  ⟨some 47, .load none (.t 46), some (45, false), []⟩,
  ⟨some 48, .call false 145 [.t 47, .c (.p (.int .i64 0)), .c (.p (.int .i64 1099511627776))], some (45, false), []⟩,
  ⟨some 49, .un .not (.t 48), some (45, false), []⟩,
  ⟨some 50, .pick (.t 45) (.c (.p (.bool true))) (.t 49), none, []⟩] [28, 29, 30, 31, 32, 33, 34, 35, 36, 37, 38, 39, 40, 41, 42, 43, 44, 45, 46, 47, 48, 49])
  (.cond (.t 50)
  (.seq (.region false [
    ⟨some 4, .move (.c (.p (.bool false))), none, []⟩] [50])
    .ret)
  .skip))
  (.seq (.region false [
  ⟨some 51, .fieldAddr 8 (.t 2), none, []⟩,
  ⟨some 52, .load none (.t 51), none, []⟩,
  ⟨some 53, .call false 146 [.t 52], none, []⟩,
  ⟨some 54, .move (.t 53), none, []⟩,
  ⟨some 55, .load (some 9) (.t 2), some (54, true), []⟩,
  ⟨some 56, .call false 147 [.t 55], some (54, true), []⟩,
  ⟨some 57, .pick (.t 54) (.t 56) (.c (.p (.bool false))), none, []⟩,
  ⟨some 4, .move (.t 57), none, []⟩] [50, 51, 52, 53, 54, 55, 56, 57])
  .ret))))⟩

/-- slices.Index[[]int,int] -/
@[irreducible] def a132_l0 : ACode :=
  (.seq (.region false [
  ⟨some 9, .bin .lss (.t 8) (.t 7), none, []⟩] [])
  (.seq (.cond (.t 9)
  .skip
  (.ghost (.forget [0, 1, 7, 8, 9]) (.ghost .lower (.exit 0))))
  (.seq (.block 1
  (.seq (.region false [
    ⟨some 10, .move (.t 8), none, []⟩,
    ⟨some 5, .move (.t 10), none, []⟩] [9, 10])
    (.seq (.region false [
    ⟨some 11, .move (.t 1), none, []⟩,
    ⟨some 12, .move (.t 0), none, []⟩,
    ⟨some 13, .move (.t 5), none, []⟩,
    ⟨some 14, .indexAddr 1 (.t 12) (.t 13), none, []⟩,
    ⟨some 15, .load none (.t 14), none, []⟩,
    ⟨some 16, .bin .eql (.t 11) (.t 15), none, []⟩] [11, 12, 13, 14, 15])
    (.cond (.t 16)
    (.seq (.region false [
      ⟨some 17, .move (.t 5), none, []⟩,
      ⟨some 4, .move (.t 17), none, []⟩] [0, 1, 5, 7, 8, 16, 17])
      .ret)
    .skip))))
  (.region false [
  ⟨some 18, .bin .add (.t 8) (.c (.p (.int .i64 1))), none, []⟩,
  ⟨some 8, .move (.t 18), none, []⟩] [5, 16, 18]))))

def a132 : AFunc := ⟨19, 2, [.tmp 4],
  (.seq (.region false [
  ⟨some 4, .move (.c (.p (.int .i64 0))), none, []⟩] [4])
  (.seq (.seq (.region false [
  ⟨some 6, .move (.t 0), none, []⟩,
  ⟨some 7, .len (.t 6), none, []⟩,
  ⟨some 8, .move (.c (.p (.int .i64 0))), none, []⟩] [6])
  (.block 0
  (.loop
    (.ghost .lower a132_l0))))
  (.seq (.region false [
  ⟨some 4, .move (.c (.p (.int .i64 (-1)))), none, []⟩] [])
  .ret)))⟩


end Go.Dv.Try
