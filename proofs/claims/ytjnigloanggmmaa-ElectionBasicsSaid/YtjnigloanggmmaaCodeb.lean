/-
  The annotated functions of this seat. Printed by wip/gen.py.
-/
import Derived.Test.YtjnigloanggmmaaCode
set_option linter.unusedVariables false
set_option maxRecDepth 100000
namespace Go.Dv.Try
open Go Go.Dv

/-- slices.partitionOrdered[int] -/
@[irreducible] def a156_l0 : ACode :=
  (.seq (.seq (.region true [
  ⟨some 115, .move (.t 10), none, []⟩,
  ⟨some 116, .move (.t 11), none, []⟩,
  ⟨some 117, .bin .leq (.t 115) (.t 116), none, [0, 1]⟩,
  ⟨some 118, .move (.t 117), none, [0, 1, 2]⟩,
  ⟨some 119, .move (.t 0), some (118, true), [0, 1, 2, 3]⟩,
  ⟨some 120, .move (.t 11), some (118, true), [0, 1, 2, 3]⟩,
  ⟨some 121, .indexAddr 1 (.t 119) (.t 120), some (118, true), [0, 1, 2, 3, 4, 5]⟩,
  ⟨some 122, .load none (.t 121), some (118, true), [0, 1, 2, 3, 4, 5, 6]⟩,
  ⟨some 123, .move (.t 0), some (118, true), [0, 1, 2, 3]⟩,
  ⟨some 124, .move (.t 1), some (118, true), [0, 1, 2, 3]⟩,
  ⟨some 125, .indexAddr 1 (.t 123) (.t 124), some (118, true), [0, 1, 2, 3, 8, 9]⟩,
  ⟨some 126, .load none (.t 125), some (118, true), [0, 1, 2, 3, 8, 9, 10]⟩,
  ⟨some 127, .call false 154 [.t 122, .t 126], some (118, true), [0, 1, 2, 3, 4, 5, 6, 7, 8, 9, 10, 11]⟩,
  ⟨some 128, .un .not (.t 127), some (118, true), [0, 1, 2, 3, 4, 5, 6, 7, 8, 9, 10, 11, 12]⟩,
  ⟨some 129, .pick (.t 118) (.t 128) (.c (.p (.bool false))), none, [0, 1, 2, 3, 4, 5, 6, 7, 8, 9, 10, 11, 12, 13]⟩] [115, 116, 117, 118, 119, 120, 121, 122, 123, 124, 125, 126, 127, 128])
  (.cond (.t 129)
  .skip
  (.ghost (.forget [129]) (.ghost .lower (.exit 8)))))
  (.block 9
  (.region false [
    ⟨some 130, .move (.t 11), none, []⟩,
    ⟨some 131, .bin .sub (.t 130) (.c (.p (.int .i64 1))), none, []⟩,
    ⟨some 11, .move (.t 131), none, []⟩] [129, 130, 131])))

@[irreducible] def a156_l1 : ACode :=
  (.seq (.seq (.region true [
  ⟨some 99, .move (.t 10), none, []⟩,
  ⟨some 100, .move (.t 11), none, []⟩,
  ⟨some 101, .bin .leq (.t 99) (.t 100), none, [0, 1]⟩,
  ⟨some 102, .move (.t 101), none, [0, 1, 2]⟩,
  ⟨some 103, .move (.t 0), some (102, true), [0, 1, 2, 3]⟩,
  ⟨some 104, .move (.t 10), some (102, true), [0, 1, 2, 3]⟩,
  ⟨some 105, .indexAddr 1 (.t 103) (.t 104), some (102, true), [0, 1, 2, 3, 4, 5]⟩,
  ⟨some 106, .load none (.t 105), some (102, true), [0, 1, 2, 3, 4, 5, 6]⟩,
  ⟨some 107, .move (.t 0), some (102, true), [0, 1, 2, 3]⟩,
  ⟨some 108, .move (.t 1), some (102, true), [0, 1, 2, 3]⟩,
  ⟨some 109, .indexAddr 1 (.t 107) (.t 108), some (102, true), [0, 1, 2, 3, 8, 9]⟩,
  ⟨some 110, .load none (.t 109), some (102, true), [0, 1, 2, 3, 8, 9, 10]⟩,
  ⟨some 111, .call false 154 [.t 106, .t 110], some (102, true), [0, 1, 2, 3, 4, 5, 6, 7, 8, 9, 10, 11]⟩,
  ⟨some 112, .pick (.t 102) (.t 111) (.c (.p (.bool false))), none, [0, 1, 2, 3, 4, 5, 6, 7, 8, 9, 10, 11, 12]⟩] [99, 100, 101, 102, 103, 104, 105, 106, 107, 108, 109, 110, 111])
  (.cond (.t 112)
  .skip
  (.ghost (.forget [112]) (.ghost .lower (.exit 6)))))
  (.block 7
  (.region false [
    ⟨some 113, .move (.t 10), none, []⟩,
    ⟨some 114, .bin .add (.t 113) (.c (.p (.int .i64 1))), none, []⟩,
    ⟨some 10, .move (.t 114), none, []⟩] [112, 113, 114])))

@[irreducible] def a156_l2 : ACode :=
  (.block 5
  (.seq (.block 6
    (.loop
      (.ghost .lower a156_l1)))
    (.seq (.block 8
    (.loop
      (.ghost .lower a156_l0)))
    (.seq (.seq (.region false [
    ⟨some 132, .move (.t 10), none, []⟩,
    ⟨some 133, .move (.t 11), none, []⟩,
    ⟨some 134, .bin .gtr (.t 132) (.t 133), none, []⟩] [132, 133])
    (.cond (.t 134)
    (.ghost (.forget [10, 134]) (.ghost .lower (.exit 4)))
    .skip))
    (.seq (.region true [
    ⟨some 135, .move (.t 0), none, []⟩,
    ⟨some 136, .move (.t 10), none, []⟩,
    ⟨some 137, .move (.t 0), none, []⟩,
    ⟨some 138, .move (.t 11), none, []⟩,
    ⟨some 139, .move (.t 0), none, []⟩,
    ⟨some 140, .move (.t 11), none, []⟩,
    ⟨some 141, .indexAddr 1 (.t 139) (.t 140), none, [4, 5]⟩,
    ⟨some 142, .load none (.t 141), none, [4, 5, 6]⟩,
    ⟨some 143, .move (.t 0), none, []⟩,
    ⟨some 144, .move (.t 10), none, []⟩,
    ⟨some 145, .indexAddr 1 (.t 143) (.t 144), none, [8, 9]⟩,
    ⟨some 146, .load none (.t 145), none, [8, 9, 10]⟩,
    ⟨some 147, .indexAddr 1 (.t 135) (.t 136), none, [0, 1, 4, 5, 6, 7, 8, 9, 10, 11]⟩,
    ⟨none, .store 1 (.t 147) (.t 142), none, [0, 1, 4, 5, 6, 7, 8, 9, 10, 11, 12]⟩,
    ⟨some 148, .indexAddr 1 (.t 137) (.t 138), none, [0, 1, 2, 3, 4, 5, 6, 7, 8, 9, 10, 11, 12, 13]⟩,
    ⟨none, .store 1 (.t 148) (.t 146), none, [0, 1, 2, 3, 4, 5, 6, 7, 8, 9, 10, 11, 12, 13, 14]⟩] [134, 135, 136, 137, 138, 139, 140, 141, 142, 143, 144, 145, 146, 147, 148])
    (.seq (.region false [
    ⟨some 149, .move (.t 10), none, []⟩,
    ⟨some 150, .bin .add (.t 149) (.c (.p (.int .i64 1))), none, []⟩,
    ⟨some 10, .move (.t 150), none, []⟩] [149, 150])
    (.region false [
    ⟨some 151, .move (.t 11), none, []⟩,
    ⟨some 152, .bin .sub (.t 151) (.c (.p (.int .i64 1))), none, []⟩,
    ⟨some 11, .move (.t 152), none, []⟩] [151, 152])))))))

@[irreducible] def a156_l3 : ACode :=
  (.seq (.seq (.region true [
  ⟨some 46, .move (.t 10), none, []⟩,
  ⟨some 47, .move (.t 11), none, []⟩,
  ⟨some 48, .bin .leq (.t 46) (.t 47), none, [0, 1]⟩,
  ⟨some 49, .move (.t 48), none, [0, 1, 2]⟩,
  ⟨some 50, .move (.t 0), some (49, true), [0, 1, 2, 3]⟩,
  ⟨some 51, .move (.t 11), some (49, true), [0, 1, 2, 3]⟩,
  ⟨some 52, .indexAddr 1 (.t 50) (.t 51), some (49, true), [0, 1, 2, 3, 4, 5]⟩,
  ⟨some 53, .load none (.t 52), some (49, true), [0, 1, 2, 3, 4, 5, 6]⟩,
  ⟨some 54, .move (.t 0), some (49, true), [0, 1, 2, 3]⟩,
  ⟨some 55, .move (.t 1), some (49, true), [0, 1, 2, 3]⟩,
  ⟨some 56, .indexAddr 1 (.t 54) (.t 55), some (49, true), [0, 1, 2, 3, 8, 9]⟩,
  ⟨some 57, .load none (.t 56), some (49, true), [0, 1, 2, 3, 8, 9, 10]⟩,
  ⟨some 58, .call false 154 [.t 53, .t 57], some (49, true), [0, 1, 2, 3, 4, 5, 6, 7, 8, 9, 10, 11]⟩,
  ⟨some 59, .un .not (.t 58), some (49, true), [0, 1, 2, 3, 4, 5, 6, 7, 8, 9, 10, 11, 12]⟩,
  ⟨some 60, .pick (.t 49) (.t 59) (.c (.p (.bool false))), none, [0, 1, 2, 3, 4, 5, 6, 7, 8, 9, 10, 11, 12, 13]⟩] [46, 47, 48, 49, 50, 51, 52, 53, 54, 55, 56, 57, 58, 59])
  (.cond (.t 60)
  .skip
  (.ghost (.forget [60]) (.ghost .lower (.exit 2)))))
  (.block 3
  (.region false [
    ⟨some 61, .move (.t 11), none, []⟩,
    ⟨some 62, .bin .sub (.t 61) (.c (.p (.int .i64 1))), none, []⟩,
    ⟨some 11, .move (.t 62), none, []⟩] [60, 61, 62])))

@[irreducible] def a156_l4 : ACode :=
  (.seq (.seq (.region true [
  ⟨some 30, .move (.t 10), none, []⟩,
  ⟨some 31, .move (.t 11), none, []⟩,
  ⟨some 32, .bin .leq (.t 30) (.t 31), none, [0, 1]⟩,
  ⟨some 33, .move (.t 32), none, [0, 1, 2]⟩,
  ⟨some 34, .move (.t 0), some (33, true), [0, 1, 2, 3]⟩,
  ⟨some 35, .move (.t 10), some (33, true), [0, 1, 2, 3]⟩,
  ⟨some 36, .indexAddr 1 (.t 34) (.t 35), some (33, true), [0, 1, 2, 3, 4, 5]⟩,
  ⟨some 37, .load none (.t 36), some (33, true), [0, 1, 2, 3, 4, 5, 6]⟩,
  ⟨some 38, .move (.t 0), some (33, true), [0, 1, 2, 3]⟩,
  ⟨some 39, .move (.t 1), some (33, true), [0, 1, 2, 3]⟩,
  ⟨some 40, .indexAddr 1 (.t 38) (.t 39), some (33, true), [0, 1, 2, 3, 8, 9]⟩,
  ⟨some 41, .load none (.t 40), some (33, true), [0, 1, 2, 3, 8, 9, 10]⟩,
  ⟨some 42, .call false 154 [.t 37, .t 41], some (33, true), [0, 1, 2, 3, 4, 5, 6, 7, 8, 9, 10, 11]⟩,
  ⟨some 43, .pick (.t 33) (.t 42) (.c (.p (.bool false))), none, [0, 1, 2, 3, 4, 5, 6, 7, 8, 9, 10, 11, 12]⟩] [30, 31, 32, 33, 34, 35, 36, 37, 38, 39, 40, 41, 42])
  (.cond (.t 43)
  .skip
  (.ghost (.forget [43]) (.ghost .lower (.exit 0)))))
  (.block 1
  (.region false [
    ⟨some 44, .move (.t 10), none, []⟩,
    ⟨some 45, .bin .add (.t 44) (.c (.p (.int .i64 1))), none, []⟩,
    ⟨some 10, .move (.t 45), none, []⟩] [43, 44, 45])))

def a156 : AFunc := ⟨168, 4, [.tmp 8, .tmp 9],
  (.seq (.region false [
  ⟨some 8, .move (.c (.p (.int .i64 0))), none, []⟩,
  ⟨some 9, .move (.c (.p (.bool false))), none, []⟩] [8, 9])
  (.seq (.region true [
  ⟨some 12, .move (.t 0), none, []⟩,
  ⟨some 13, .move (.t 1), none, []⟩,
  ⟨some 14, .move (.t 0), none, []⟩,
  ⟨some 15, .move (.t 3), none, []⟩,
  ⟨some 16, .move (.t 0), none, []⟩,
  ⟨some 17, .move (.t 3), none, []⟩,
  ⟨some 18, .indexAddr 1 (.t 16) (.t 17), none, [4, 5]⟩,
  ⟨some 19, .load none (.t 18), none, [4, 5, 6]⟩,
  ⟨some 20, .move (.t 0), none, []⟩,
  ⟨some 21, .move (.t 1), none, []⟩,
  ⟨some 22, .indexAddr 1 (.t 20) (.t 21), none, [8, 9]⟩,
  ⟨some 23, .load none (.t 22), none, [8, 9, 10]⟩,
  ⟨some 24, .indexAddr 1 (.t 12) (.t 13), none, [0, 1, 4, 5, 6, 7, 8, 9, 10, 11]⟩,
  ⟨none, .store 1 (.t 24) (.t 19), none, [0, 1, 4, 5, 6, 7, 8, 9, 10, 11, 12]⟩,
  ⟨some 25, .indexAddr 1 (.t 14) (.t 15), none, [0, 1, 2, 3, 4, 5, 6, 7, 8, 9, 10, 11, 12, 13]⟩,
  ⟨none, .store 1 (.t 25) (.t 23), none, [0, 1, 2, 3, 4, 5, 6, 7, 8, 9, 10, 11, 12, 13, 14]⟩] [3, 12, 13, 14, 15, 16, 17, 18, 19, 20, 21, 22, 23, 24, 25])
  (.seq (.region false [
  ⟨some 26, .move (.t 1), none, []⟩,
  ⟨some 27, .bin .add (.t 26) (.c (.p (.int .i64 1))), none, []⟩,
  ⟨some 28, .move (.t 2), none, []⟩,
  ⟨some 29, .bin .sub (.t 28) (.c (.p (.int .i64 1))), none, []⟩,
  ⟨some 10, .move (.t 27), none, []⟩,
  ⟨some 11, .move (.t 29), none, []⟩] [2, 26, 27, 28, 29])
  (.seq (.block 0
  (.loop
    (.ghost .lower a156_l4)))
  (.seq (.block 2
  (.loop
    (.ghost .lower a156_l3)))
  (.seq (.seq (.region false [
  ⟨some 63, .move (.t 10), none, []⟩,
  ⟨some 64, .move (.t 11), none, []⟩,
  ⟨some 65, .bin .gtr (.t 63) (.t 64), none, []⟩] [63, 64])
  (.cond (.t 65)
  (.seq (.region true [
    ⟨some 66, .move (.t 0), none, []⟩,
    ⟨some 67, .move (.t 11), none, []⟩,
    ⟨some 68, .move (.t 0), none, []⟩,
    ⟨some 69, .move (.t 1), none, []⟩,
    ⟨some 70, .move (.t 0), none, []⟩,
    ⟨some 71, .move (.t 1), none, []⟩,
    ⟨some 72, .indexAddr 1 (.t 70) (.t 71), none, [4, 5]⟩,
    ⟨some 73, .load none (.t 72), none, [4, 5, 6]⟩,
    ⟨some 74, .move (.t 0), none, []⟩,
    ⟨some 75, .move (.t 11), none, []⟩,
    ⟨some 76, .indexAddr 1 (.t 74) (.t 75), none, [8, 9]⟩,
    ⟨some 77, .load none (.t 76), none, [8, 9, 10]⟩,
    ⟨some 78, .indexAddr 1 (.t 66) (.t 67), none, [0, 1, 4, 5, 6, 7, 8, 9, 10, 11]⟩,
    ⟨none, .store 1 (.t 78) (.t 73), none, [0, 1, 4, 5, 6, 7, 8, 9, 10, 11, 12]⟩,
    ⟨some 79, .indexAddr 1 (.t 68) (.t 69), none, [0, 1, 2, 3, 4, 5, 6, 7, 8, 9, 10, 11, 12, 13]⟩,
    ⟨none, .store 1 (.t 79) (.t 77), none, [0, 1, 2, 3, 4, 5, 6, 7, 8, 9, 10, 11, 12, 13, 14]⟩] [0, 1, 10, 65, 66, 67, 68, 69, 70, 71, 72, 73, 74, 75, 76, 77, 78, 79])
    (.seq (.region false [
    ⟨some 80, .move (.t 11), none, []⟩,
    ⟨some 8, .move (.t 80), none, []⟩,
    ⟨some 9, .move (.c (.p (.bool true))), none, []⟩] [11, 80])
    .ret))
  .skip))
  (.seq (.region true [
  ⟨some 81, .move (.t 0), none, []⟩,
  ⟨some 82, .move (.t 10), none, []⟩,
  ⟨some 83, .move (.t 0), none, []⟩,
  ⟨some 84, .move (.t 11), none, []⟩,
  ⟨some 85, .move (.t 0), none, []⟩,
  ⟨some 86, .move (.t 11), none, []⟩,
  ⟨some 87, .indexAddr 1 (.t 85) (.t 86), none, [4, 5]⟩,
  ⟨some 88, .load none (.t 87), none, [4, 5, 6]⟩,
  ⟨some 89, .move (.t 0), none, []⟩,
  ⟨some 90, .move (.t 10), none, []⟩,
  ⟨some 91, .indexAddr 1 (.t 89) (.t 90), none, [8, 9]⟩,
  ⟨some 92, .load none (.t 91), none, [8, 9, 10]⟩,
  ⟨some 93, .indexAddr 1 (.t 81) (.t 82), none, [0, 1, 4, 5, 6, 7, 8, 9, 10, 11]⟩,
  ⟨none, .store 1 (.t 93) (.t 88), none, [0, 1, 4, 5, 6, 7, 8, 9, 10, 11, 12]⟩,
  ⟨some 94, .indexAddr 1 (.t 83) (.t 84), none, [0, 1, 2, 3, 4, 5, 6, 7, 8, 9, 10, 11, 12, 13]⟩,
  ⟨none, .store 1 (.t 94) (.t 92), none, [0, 1, 2, 3, 4, 5, 6, 7, 8, 9, 10, 11, 12, 13, 14]⟩] [65, 81, 82, 83, 84, 85, 86, 87, 88, 89, 90, 91, 92, 93, 94])
  (.seq (.region false [
  ⟨some 95, .move (.t 10), none, []⟩,
  ⟨some 96, .bin .add (.t 95) (.c (.p (.int .i64 1))), none, []⟩,
  ⟨some 10, .move (.t 96), none, []⟩] [95, 96])
  (.seq (.region false [
  ⟨some 97, .move (.t 11), none, []⟩,
  ⟨some 98, .bin .sub (.t 97) (.c (.p (.int .i64 1))), none, []⟩,
  ⟨some 11, .move (.t 98), none, []⟩] [97, 98])
  (.seq (.block 4
  (.loop
    (.ghost .lower a156_l2)))
  (.seq (.region true [
  ⟨some 153, .move (.t 0), none, []⟩,
  ⟨some 154, .move (.t 11), none, []⟩,
  ⟨some 155, .move (.t 0), none, []⟩,
  ⟨some 156, .move (.t 1), none, []⟩,
  ⟨some 157, .move (.t 0), none, []⟩,
  ⟨some 158, .move (.t 1), none, []⟩,
  ⟨some 159, .indexAddr 1 (.t 157) (.t 158), none, [4, 5]⟩,
  ⟨some 160, .load none (.t 159), none, [4, 5, 6]⟩,
  ⟨some 161, .move (.t 0), none, []⟩,
  ⟨some 162, .move (.t 11), none, []⟩,
  ⟨some 163, .indexAddr 1 (.t 161) (.t 162), none, [8, 9]⟩,
  ⟨some 164, .load none (.t 163), none, [8, 9, 10]⟩,
  ⟨some 165, .indexAddr 1 (.t 153) (.t 154), none, [0, 1, 4, 5, 6, 7, 8, 9, 10, 11]⟩,
  ⟨none, .store 1 (.t 165) (.t 160), none, [0, 1, 4, 5, 6, 7, 8, 9, 10, 11, 12]⟩,
  ⟨some 166, .indexAddr 1 (.t 155) (.t 156), none, [0, 1, 2, 3, 4, 5, 6, 7, 8, 9, 10, 11, 12, 13]⟩,
  ⟨none, .store 1 (.t 166) (.t 164), none, [0, 1, 2, 3, 4, 5, 6, 7, 8, 9, 10, 11, 12, 13, 14]⟩] [0, 1, 153, 154, 155, 156, 157, 158, 159, 160, 161, 162, 163, 164, 165, 166])
  (.seq (.region false [
  ⟨some 167, .move (.t 11), none, []⟩,
  ⟨some 8, .move (.t 167), none, []⟩,
  ⟨some 9, .move (.c (.p (.bool false))), none, []⟩] [11, 167])
  .ret))))))))))))⟩

/-- math/bits.Len32 -/
def a157 : AFunc := ⟨19, 1, [.tmp 2],
  (.seq (.region false [
  ⟨some 2, .move (.c (.p (.int .i64 0))), none, []⟩] [])
  (.seq (.seq (.region false [
  ⟨some 3, .move (.t 0), none, []⟩,
  ⟨some 4, .bin .geq (.t 3) (.c (.p (.int .u32 65536))), none, []⟩] [3])
  (.cond (.t 4)
  (.seq (.region false [
    ⟨some 5, .move (.t 0), none, []⟩,
    ⟨some 6, .bin .shr (.t 5) (.c (.p (.int .u64 16))), none, []⟩,
    ⟨some 0, .move (.t 6), none, []⟩] [2, 4, 5, 6])
    (.region false [
    ⟨some 2, .move (.c (.p (.int .i64 16))), none, []⟩] []))
  .skip))
  (.seq (.seq (.region false [
  ⟨some 7, .move (.t 0), none, []⟩,
  ⟨some 8, .bin .geq (.t 7) (.c (.p (.int .u32 256))), none, []⟩] [4, 7])
  (.cond (.t 8)
  (.seq (.region false [
    ⟨some 9, .move (.t 0), none, []⟩,
    ⟨some 10, .bin .shr (.t 9) (.c (.p (.int .u64 8))), none, []⟩,
    ⟨some 0, .move (.t 10), none, []⟩] [8, 9, 10])
    (.region false [
    ⟨some 11, .move (.t 2), none, []⟩,
    ⟨some 12, .bin .add (.t 11) (.c (.p (.int .i64 8))), none, []⟩,
    ⟨some 2, .move (.t 12), none, []⟩] [11, 12]))
  .skip))
  (.seq (.region false [
  ⟨some 13, .move (.t 2), none, []⟩,
  ⟨some 14, .move (.t 0), none, []⟩,
  ⟨some 15, .conv .u8 (.t 14), none, []⟩,
  ⟨some 16, .index (.c (.p (.str ⟨#[0, 1, 2, 2, 3, 3, 3, 3, 4, 4, 4, 4, 4, 4, 4, 4, 5, 5, 5, 5, 5, 5, 5, 5, 5, 5, 5, 5, 5, 5, 5, 5, 6, 6, 6, 6, 6, 6, 6, 6, 6, 6, 6, 6, 6, 6, 6, 6, 6, 6, 6, 6, 6, 6, 6, 6, 6, 6, 6, 6, 6, 6, 6, 6, 7, 7, 7, 7, 7, 7, 7, 7, 7, 7, 7, 7, 7, 7, 7, 7, 7, 7, 7, 7, 7, 7, 7, 7, 7, 7, 7, 7, 7, 7, 7, 7, 7, 7, 7, 7, 7, 7, 7, 7, 7, 7, 7, 7, 7, 7, 7, 7, 7, 7, 7, 7, 7, 7, 7, 7, 7, 7, 7, 7, 7, 7, 7, 7, 8, 8, 8, 8, 8, 8, 8, 8, 8, 8, 8, 8, 8, 8, 8, 8, 8, 8, 8, 8, 8, 8, 8, 8, 8, 8, 8, 8, 8, 8, 8, 8, 8, 8, 8, 8, 8, 8, 8, 8, 8, 8, 8, 8, 8, 8, 8, 8, 8, 8, 8, 8, 8, 8, 8, 8, 8, 8, 8, 8, 8, 8, 8, 8, 8, 8, 8, 8, 8, 8, 8, 8, 8, 8, 8, 8, 8, 8, 8, 8, 8, 8, 8, 8, 8, 8, 8, 8, 8, 8, 8, 8, 8, 8, 8, 8, 8, 8, 8, 8, 8, 8, 8, 8, 8, 8, 8, 8, 8, 8, 8, 8, 8, 8, 8, 8, 8, 8, 8, 8, 8, 8, 8, 8, 8, 8, 8, 8]⟩))) (.t 15), none, []⟩,
  ⟨some 17, .conv .i64 (.t 16), none, []⟩,
  ⟨some 18, .bin .add (.t 13) (.t 17), none, []⟩,
  ⟨some 2, .move (.t 18), none, []⟩] [0, 8, 13, 14, 15, 16, 17, 18])
  .ret))))⟩

/-- math/bits.Len64 -/
def a158 : AFunc := ⟨25, 1, [.tmp 2],
  (.seq (.region false [
  ⟨some 2, .move (.c (.p (.int .i64 0))), none, []⟩] [])
  (.seq (.seq (.region false [
  ⟨some 3, .move (.t 0), none, []⟩,
  ⟨some 4, .bin .geq (.t 3) (.c (.p (.int .u64 4294967296))), none, []⟩] [3])
  (.cond (.t 4)
  (.seq (.region false [
    ⟨some 5, .move (.t 0), none, []⟩,
    ⟨some 6, .bin .shr (.t 5) (.c (.p (.int .u64 32))), none, []⟩,
    ⟨some 0, .move (.t 6), none, []⟩] [2, 4, 5, 6])
    (.region false [
    ⟨some 2, .move (.c (.p (.int .i64 32))), none, []⟩] []))
  .skip))
  (.seq (.seq (.region false [
  ⟨some 7, .move (.t 0), none, []⟩,
  ⟨some 8, .bin .geq (.t 7) (.c (.p (.int .u64 65536))), none, []⟩] [4, 7])
  (.cond (.t 8)
  (.seq (.region false [
    ⟨some 9, .move (.t 0), none, []⟩,
    ⟨some 10, .bin .shr (.t 9) (.c (.p (.int .u64 16))), none, []⟩,
    ⟨some 0, .move (.t 10), none, []⟩] [8, 9, 10])
    (.region false [
    ⟨some 11, .move (.t 2), none, []⟩,
    ⟨some 12, .bin .add (.t 11) (.c (.p (.int .i64 16))), none, []⟩,
    ⟨some 2, .move (.t 12), none, []⟩] [11, 12]))
  .skip))
  (.seq (.seq (.region false [
  ⟨some 13, .move (.t 0), none, []⟩,
  ⟨some 14, .bin .geq (.t 13) (.c (.p (.int .u64 256))), none, []⟩] [8, 13])
  (.cond (.t 14)
  (.seq (.region false [
    ⟨some 15, .move (.t 0), none, []⟩,
    ⟨some 16, .bin .shr (.t 15) (.c (.p (.int .u64 8))), none, []⟩,
    ⟨some 0, .move (.t 16), none, []⟩] [14, 15, 16])
    (.region false [
    ⟨some 17, .move (.t 2), none, []⟩,
    ⟨some 18, .bin .add (.t 17) (.c (.p (.int .i64 8))), none, []⟩,
    ⟨some 2, .move (.t 18), none, []⟩] [17, 18]))
  .skip))
  (.seq (.region false [
  ⟨some 19, .move (.t 2), none, []⟩,
  ⟨some 20, .move (.t 0), none, []⟩,
  ⟨some 21, .conv .u8 (.t 20), none, []⟩,
  ⟨some 22, .index (.c (.p (.str ⟨#[0, 1, 2, 2, 3, 3, 3, 3, 4, 4, 4, 4, 4, 4, 4, 4, 5, 5, 5, 5, 5, 5, 5, 5, 5, 5, 5, 5, 5, 5, 5, 5, 6, 6, 6, 6, 6, 6, 6, 6, 6, 6, 6, 6, 6, 6, 6, 6, 6, 6, 6, 6, 6, 6, 6, 6, 6, 6, 6, 6, 6, 6, 6, 6, 7, 7, 7, 7, 7, 7, 7, 7, 7, 7, 7, 7, 7, 7, 7, 7, 7, 7, 7, 7, 7, 7, 7, 7, 7, 7, 7, 7, 7, 7, 7, 7, 7, 7, 7, 7, 7, 7, 7, 7, 7, 7, 7, 7, 7, 7, 7, 7, 7, 7, 7, 7, 7, 7, 7, 7, 7, 7, 7, 7, 7, 7, 7, 7, 8, 8, 8, 8, 8, 8, 8, 8, 8, 8, 8, 8, 8, 8, 8, 8, 8, 8, 8, 8, 8, 8, 8, 8, 8, 8, 8, 8, 8, 8, 8, 8, 8, 8, 8, 8, 8, 8, 8, 8, 8, 8, 8, 8, 8, 8, 8, 8, 8, 8, 8, 8, 8, 8, 8, 8, 8, 8, 8, 8, 8, 8, 8, 8, 8, 8, 8, 8, 8, 8, 8, 8, 8, 8, 8, 8, 8, 8, 8, 8, 8, 8, 8, 8, 8, 8, 8, 8, 8, 8, 8, 8, 8, 8, 8, 8, 8, 8, 8, 8, 8, 8, 8, 8, 8, 8, 8, 8, 8, 8, 8, 8, 8, 8, 8, 8, 8, 8, 8, 8, 8, 8, 8, 8, 8, 8, 8, 8]⟩))) (.t 21), none, []⟩,
  ⟨some 23, .conv .i64 (.t 22), none, []⟩,
  ⟨some 24, .bin .add (.t 19) (.t 23), none, []⟩,
  ⟨some 2, .move (.t 24), none, []⟩] [0, 14, 19, 20, 21, 22, 23, 24])
  .ret)))))⟩

/-- slices.siftDownOrdered[int] -/
@[irreducible] def a159_l0 : ACode :=
  (.block 1
  (.seq (.region false [
    ⟨some 11, .move (.t 8), none, []⟩,
    ⟨some 12, .bin .mul (.c (.p (.int .i64 2))) (.t 11), none, []⟩,
    ⟨some 13, .bin .add (.t 12) (.c (.p (.int .i64 1))), none, []⟩,
    ⟨some 9, .move (.t 13), none, []⟩] [11, 12, 13])
    (.seq (.seq (.region false [
    ⟨some 14, .move (.t 9), none, []⟩,
    ⟨some 15, .move (.t 2), none, []⟩,
    ⟨some 16, .bin .geq (.t 14) (.t 15), none, []⟩] [14, 15])
    (.cond (.t 16)
    (.ghost (.forget [0, 2, 3, 8, 9, 16]) (.ghost .lower (.exit 0)))
    .skip))
    (.seq (.seq (.region true [
    ⟨some 17, .move (.t 9), none, []⟩,
    ⟨some 18, .bin .add (.t 17) (.c (.p (.int .i64 1))), none, [0]⟩,
    ⟨some 19, .move (.t 2), none, []⟩,
    ⟨some 20, .bin .lss (.t 18) (.t 19), none, [0, 1, 2]⟩,
    ⟨some 21, .move (.t 20), none, [0, 1, 2, 3]⟩,
    ⟨some 22, .move (.t 0), some (21, true), [0, 1, 2, 3, 4]⟩,
    ⟨some 23, .move (.t 3), some (21, true), [0, 1, 2, 3, 4]⟩,
    ⟨some 24, .move (.t 9), some (21, true), [0, 1, 2, 3, 4]⟩,
    ⟨some 25, .bin .add (.t 23) (.t 24), some (21, true), [0, 1, 2, 3, 4, 6, 7]⟩,
    ⟨some 26, .indexAddr 1 (.t 22) (.t 25), some (21, true), [0, 1, 2, 3, 4, 5, 6, 7, 8]⟩,
    ⟨some 27, .load none (.t 26), some (21, true), [0, 1, 2, 3, 4, 5, 6, 7, 8, 9]⟩,
    ⟨some 28, .move (.t 0), some (21, true), [0, 1, 2, 3, 4]⟩,
    ⟨some 29, .move (.t 3), some (21, true), [0, 1, 2, 3, 4]⟩,
    ⟨some 30, .move (.t 9), some (21, true), [0, 1, 2, 3, 4]⟩,
    ⟨some 31, .bin .add (.t 29) (.t 30), some (21, true), [0, 1, 2, 3, 4, 12, 13]⟩,
    ⟨some 32, .bin .add (.t 31) (.c (.p (.int .i64 1))), some (21, true), [0, 1, 2, 3, 4, 12, 13, 14]⟩,
    ⟨some 33, .indexAddr 1 (.t 28) (.t 32), some (21, true), [0, 1, 2, 3, 4, 11, 12, 13, 14, 15]⟩,
    ⟨some 34, .load none (.t 33), some (21, true), [0, 1, 2, 3, 4, 11, 12, 13, 14, 15, 16]⟩,
    ⟨some 35, .call false 154 [.t 27, .t 34], some (21, true), [0, 1, 2, 3, 4, 5, 6, 7, 8, 9, 10, 11, 12, 13, 14, 15, 16, 17]⟩,
    ⟨some 36, .pick (.t 21) (.t 35) (.c (.p (.bool false))), none, [0, 1, 2, 3, 4, 5, 6, 7, 8, 9, 10, 11, 12, 13, 14, 15, 16, 17, 18]⟩] [16, 17, 18, 19, 20, 21, 22, 23, 24, 25, 26, 27, 28, 29, 30, 31, 32, 33, 34, 35])
    (.cond (.t 36)
    (.region false [
      ⟨some 37, .move (.t 9), none, []⟩,
      ⟨some 38, .bin .add (.t 37) (.c (.p (.int .i64 1))), none, []⟩,
      ⟨some 9, .move (.t 38), none, []⟩] [36, 37, 38])
    .skip))
    (.seq (.seq (.region true [
    ⟨some 39, .move (.t 0), none, []⟩,
    ⟨some 40, .move (.t 3), none, []⟩,
    ⟨some 41, .move (.t 8), none, []⟩,
    ⟨some 42, .bin .add (.t 40) (.t 41), none, [1, 2]⟩,
    ⟨some 43, .indexAddr 1 (.t 39) (.t 42), none, [0, 1, 2, 3]⟩,
    ⟨some 44, .load none (.t 43), none, [0, 1, 2, 3, 4]⟩,
    ⟨some 45, .move (.t 0), none, []⟩,
    ⟨some 46, .move (.t 3), none, []⟩,
    ⟨some 47, .move (.t 9), none, []⟩,
    ⟨some 48, .bin .add (.t 46) (.t 47), none, [7, 8]⟩,
    ⟨some 49, .indexAddr 1 (.t 45) (.t 48), none, [6, 7, 8, 9]⟩,
    ⟨some 50, .load none (.t 49), none, [6, 7, 8, 9, 10]⟩,
    ⟨some 51, .call false 154 [.t 44, .t 50], none, [0, 1, 2, 3, 4, 5, 6, 7, 8, 9, 10, 11]⟩,
    ⟨some 52, .un .not (.t 51), none, [0, 1, 2, 3, 4, 5, 6, 7, 8, 9, 10, 11, 12]⟩] [36, 39, 40, 41, 42, 43, 44, 45, 46, 47, 48, 49, 50, 51])
    (.cond (.t 52)
    .ret
    .skip))
    (.seq (.region true [
    ⟨some 53, .move (.t 0), none, []⟩,
    ⟨some 54, .move (.t 3), none, []⟩,
    ⟨some 55, .move (.t 8), none, []⟩,
    ⟨some 56, .bin .add (.t 54) (.t 55), none, [1, 2]⟩,
    ⟨some 57, .move (.t 0), none, []⟩,
    ⟨some 58, .move (.t 3), none, []⟩,
    ⟨some 59, .move (.t 9), none, []⟩,
    ⟨some 60, .bin .add (.t 58) (.t 59), none, [5, 6]⟩,
    ⟨some 61, .move (.t 0), none, []⟩,
    ⟨some 62, .move (.t 3), none, []⟩,
    ⟨some 63, .move (.t 9), none, []⟩,
    ⟨some 64, .bin .add (.t 62) (.t 63), none, [9, 10]⟩,
    ⟨some 65, .indexAddr 1 (.t 61) (.t 64), none, [8, 9, 10, 11]⟩,
    ⟨some 66, .load none (.t 65), none, [8, 9, 10, 11, 12]⟩,
    ⟨some 67, .move (.t 0), none, []⟩,
    ⟨some 68, .move (.t 3), none, []⟩,
    ⟨some 69, .move (.t 8), none, []⟩,
    ⟨some 70, .bin .add (.t 68) (.t 69), none, [15, 16]⟩,
    ⟨some 71, .indexAddr 1 (.t 67) (.t 70), none, [14, 15, 16, 17]⟩,
    ⟨some 72, .load none (.t 71), none, [14, 15, 16, 17, 18]⟩,
    ⟨some 73, .indexAddr 1 (.t 53) (.t 56), none, [0, 1, 2, 3, 8, 9, 10, 11, 12, 13, 14, 15, 16, 17, 18, 19]⟩,
    ⟨none, .store 1 (.t 73) (.t 66), none, [0, 1, 2, 3, 8, 9, 10, 11, 12, 13, 14, 15, 16, 17, 18, 19, 20]⟩,
    ⟨some 74, .indexAddr 1 (.t 57) (.t 60), none, [0, 1, 2, 3, 4, 5, 6, 7, 8, 9, 10, 11, 12, 13, 14, 15, 16, 17, 18, 19, 20, 21]⟩,
    ⟨none, .store 1 (.t 74) (.t 72), none, [0, 1, 2, 3, 4, 5, 6, 7, 8, 9, 10, 11, 12, 13, 14, 15, 16, 17, 18, 19, 20, 21, 22]⟩] [8, 52, 53, 54, 55, 56, 57, 58, 59, 60, 61, 62, 63, 64, 65, 66, 67, 68, 69, 70, 71, 72, 73, 74])
    (.region false [
    ⟨some 75, .move (.t 9), none, []⟩,
    ⟨some 8, .move (.t 75), none, []⟩] [9, 75])))))))

def a159 : AFunc := ⟨76, 4, [],
  (.seq (.region false [
  ⟨some 10, .move (.t 1), none, []⟩,
  ⟨some 8, .move (.t 10), none, []⟩] [1, 10])
  (.block 0
  (.loop
    (.ghost .lower a159_l0))))⟩

/-- slices.nextPowerOfTwo -/
def a160 : AFunc := ⟨7, 1, [.tmp 2],
  (.seq (.region false [
  ⟨some 2, .move (.c (.p (.int .u64 0))), none, []⟩] [2])
  (.seq (.region false [
  ⟨some 3, .move (.t 0), none, []⟩,
  ⟨some 4, .conv .u64 (.t 3), none, []⟩,
  ⟨some 5, .call false 134 [.t 4], none, []⟩,
  ⟨some 6, .bin .shl (.c (.p (.int .u64 1))) (.t 5), none, []⟩,
  ⟨some 2, .move (.t 6), none, []⟩] [0, 3, 4, 5, 6])
  .ret))⟩

/-- (*slices.xorshift).Next -/
def a161 : AFunc := ⟨33, 1, [.tmp 2],
  (.seq (.region false [
  ⟨some 2, .move (.c (.p (.int .u64 0))), none, []⟩] [2])
  (.seq (.region true [
  ⟨some 3, .move (.t 0), none, []⟩,
  ⟨some 4, .nilCheck (.t 3), none, [0]⟩,
  ⟨some 5, .load none (.t 4), none, [0, 1]⟩,
  ⟨some 6, .move (.t 0), none, []⟩,
  ⟨some 7, .nilCheck (.t 6), none, [3]⟩,
  ⟨some 8, .load none (.t 7), none, [3, 4]⟩,
  ⟨some 9, .bin .shl (.t 8) (.c (.p (.int .u64 13))), none, [3, 4, 5]⟩,
  ⟨some 10, .bin .xor (.t 5) (.t 9), none, [0, 1, 2, 3, 4, 5, 6]⟩,
  ⟨some 11, .nilCheck (.t 3), none, [0, 1, 2, 3, 4, 5, 6, 7]⟩,
  ⟨none, .store 1 (.t 11) (.t 10), none, [0, 1, 2, 3, 4, 5, 6, 7, 8]⟩] [3, 4, 5, 6, 7, 8, 9, 10, 11])
  (.seq (.region true [
  ⟨some 12, .move (.t 0), none, []⟩,
  ⟨some 13, .nilCheck (.t 12), none, [0]⟩,
  ⟨some 14, .load none (.t 13), none, [0, 1]⟩,
  ⟨some 15, .move (.t 0), none, []⟩,
  ⟨some 16, .nilCheck (.t 15), none, [3]⟩,
  ⟨some 17, .load none (.t 16), none, [3, 4]⟩,
  ⟨some 18, .bin .shr (.t 17) (.c (.p (.int .u64 7))), none, [3, 4, 5]⟩,
  ⟨some 19, .bin .xor (.t 14) (.t 18), none, [0, 1, 2, 3, 4, 5, 6]⟩,
  ⟨some 20, .nilCheck (.t 12), none, [0, 1, 2, 3, 4, 5, 6, 7]⟩,
  ⟨none, .store 1 (.t 20) (.t 19), none, [0, 1, 2, 3, 4, 5, 6, 7, 8]⟩] [12, 13, 14, 15, 16, 17, 18, 19, 20])
  (.seq (.region true [
  ⟨some 21, .move (.t 0), none, []⟩,
  ⟨some 22, .nilCheck (.t 21), none, [0]⟩,
  ⟨some 23, .load none (.t 22), none, [0, 1]⟩,
  ⟨some 24, .move (.t 0), none, []⟩,
  ⟨some 25, .nilCheck (.t 24), none, [3]⟩,
  ⟨some 26, .load none (.t 25), none, [3, 4]⟩,
  ⟨some 27, .bin .shl (.t 26) (.c (.p (.int .u64 17))), none, [3, 4, 5]⟩,
  ⟨some 28, .bin .xor (.t 23) (.t 27), none, [0, 1, 2, 3, 4, 5, 6]⟩,
  ⟨some 29, .nilCheck (.t 21), none, [0, 1, 2, 3, 4, 5, 6, 7]⟩,
  ⟨none, .store 1 (.t 29) (.t 28), none, [0, 1, 2, 3, 4, 5, 6, 7, 8]⟩] [21, 22, 23, 24, 25, 26, 27, 28, 29])
  (.seq (.region false [
  ⟨some 30, .move (.t 0), none, []⟩,
  ⟨some 31, .nilCheck (.t 30), none, []⟩,
  ⟨some 32, .load none (.t 31), none, []⟩,
  ⟨some 2, .move (.t 32), none, []⟩] [0, 30, 31, 32])
  .ret)))))⟩

/-- slices.medianAdjacentOrdered[int] -/
def a162 : AFunc := ⟨15, 3, [.tmp 6],
  (.seq (.region false [
  ⟨some 6, .move (.c (.p (.int .i64 0))), none, []⟩] [6])
  (.seq (.region false [
  ⟨some 7, .move (.t 0), none, []⟩,
  ⟨some 8, .move (.t 1), none, []⟩,
  ⟨some 9, .bin .sub (.t 8) (.c (.p (.int .i64 1))), none, []⟩,
  ⟨some 10, .move (.t 1), none, []⟩,
  ⟨some 11, .move (.t 1), none, []⟩,
  ⟨some 12, .bin .add (.t 11) (.c (.p (.int .i64 1))), none, []⟩,
  ⟨some 13, .move (.t 2), none, []⟩,
  ⟨some 14, .call false 163 [.t 7, .t 9, .t 10, .t 12, .t 13], none, []⟩,
  ⟨some 6, .move (.t 14), none, []⟩] [0, 1, 2, 7, 8, 9, 10, 11, 12, 13, 14])
  .ret))⟩

/-- slices.medianOrdered[int] -/
def a163 : AFunc := ⟨36, 5, [.tmp 10],
  (.seq (.region false [
  ⟨some 10, .move (.c (.p (.int .i64 0))), none, []⟩] [10])
  (.seq (.region false [
  ⟨some 12, .move (.t 0), none, []⟩,
  ⟨some 13, .move (.t 1), none, []⟩,
  ⟨some 14, .move (.t 2), none, []⟩,
  ⟨some 15, .move (.t 4), none, []⟩,
  ⟨some 16, .call false 165 [.t 12, .t 13, .t 14, .t 15], none, []⟩,
  ⟨some 11, .move (.t 16), none, []⟩,
  ⟨some 17, .extract (.t 11) 0, none, []⟩,
  ⟨some 18, .extract (.t 11) 1, none, []⟩,
  ⟨some 1, .move (.t 17), none, []⟩,
  ⟨some 2, .move (.t 18), none, []⟩] [11, 12, 13, 14, 15, 16, 17, 18])
  (.seq (.region false [
  ⟨some 20, .move (.t 0), none, []⟩,
  ⟨some 21, .move (.t 2), none, []⟩,
  ⟨some 22, .move (.t 3), none, []⟩,
  ⟨some 23, .move (.t 4), none, []⟩,
  ⟨some 24, .call false 165 [.t 20, .t 21, .t 22, .t 23], none, []⟩,
  ⟨some 19, .move (.t 24), none, []⟩,
  ⟨some 25, .extract (.t 19) 0, none, []⟩,
  ⟨some 26, .extract (.t 19) 1, none, []⟩,
  ⟨some 2, .move (.t 25), none, []⟩,
  ⟨some 3, .move (.t 26), none, []⟩] [3, 19, 20, 21, 22, 23, 24, 25, 26])
  (.seq (.region false [
  ⟨some 28, .move (.t 0), none, []⟩,
  ⟨some 29, .move (.t 1), none, []⟩,
  ⟨some 30, .move (.t 2), none, []⟩,
  ⟨some 31, .move (.t 4), none, []⟩,
  ⟨some 32, .call false 165 [.t 28, .t 29, .t 30, .t 31], none, []⟩,
  ⟨some 27, .move (.t 32), none, []⟩,
  ⟨some 33, .extract (.t 27) 0, none, []⟩,
  ⟨some 34, .extract (.t 27) 1, none, []⟩,
  ⟨some 1, .move (.t 33), none, []⟩,
  ⟨some 2, .move (.t 34), none, []⟩] [0, 1, 4, 27, 28, 29, 30, 31, 32, 33, 34])
  (.seq (.region false [
  ⟨some 35, .move (.t 2), none, []⟩,
  ⟨some 10, .move (.t 35), none, []⟩] [2, 35])
  .ret)))))⟩

/-- cmp.isNaN[int] -/
def a164 : AFunc := ⟨6, 1, [.tmp 2],
  (.seq (.region false [
  ⟨some 2, .move (.c (.p (.bool false))), none, []⟩] [2])
  (.seq (.region false [
  ⟨some 3, .move (.t 0), none, []⟩,
  ⟨some 4, .move (.t 0), none, []⟩,
  ⟨some 5, .bin .neq (.t 3) (.t 4), none, []⟩,
  ⟨some 2, .move (.t 5), none, []⟩] [0, 3, 4, 5])
  .ret))⟩

/-- slices.order2Ordered[int] -/
def a165 : AFunc := ⟨28, 4, [.tmp 8, .tmp 9],
  (.seq (.region false [
  ⟨some 8, .move (.c (.p (.int .i64 0))), none, []⟩,
  ⟨some 9, .move (.c (.p (.int .i64 0))), none, []⟩] [8, 9])
  (.seq (.seq (.region true [
  ⟨some 10, .move (.t 0), none, []⟩,
  ⟨some 11, .move (.t 2), none, []⟩,
  ⟨some 12, .indexAddr 1 (.t 10) (.t 11), none, [0, 1]⟩,
  ⟨some 13, .load none (.t 12), none, [0, 1, 2]⟩,
  ⟨some 14, .move (.t 0), none, []⟩,
  ⟨some 15, .move (.t 1), none, []⟩,
  ⟨some 16, .indexAddr 1 (.t 14) (.t 15), none, [4, 5]⟩,
  ⟨some 17, .load none (.t 16), none, [4, 5, 6]⟩,
  ⟨some 18, .call false 154 [.t 13, .t 17], none, [0, 1, 2, 3, 4, 5, 6, 7]⟩] [0, 10, 11, 12, 13, 14, 15, 16, 17])
  (.cond (.t 18)
  (.seq (.region false [
    ⟨some 19, .move (.t 3), none, []⟩,
    ⟨some 20, .nilCheck (.t 19), none, []⟩,
    ⟨some 21, .load none (.t 20), none, []⟩,
    ⟨some 22, .bin .add (.t 21) (.c (.p (.int .i64 1))), none, []⟩,
    ⟨some 23, .nilCheck (.t 19), none, []⟩,
    ⟨none, .store 1 (.t 23) (.t 22), none, []⟩] [3, 18, 19, 20, 21, 22, 23])
    (.seq (.region false [
    ⟨some 24, .move (.t 2), none, []⟩,
    ⟨some 25, .move (.t 1), none, []⟩,
    ⟨some 8, .move (.t 24), none, []⟩,
    ⟨some 9, .move (.t 25), none, []⟩] [1, 2, 24, 25])
    .ret))
  .skip))
  (.seq (.region false [
  ⟨some 26, .move (.t 1), none, []⟩,
  ⟨some 27, .move (.t 2), none, []⟩,
  ⟨some 8, .move (.t 26), none, []⟩,
  ⟨some 9, .move (.t 27), none, []⟩] [1, 2, 3, 18, 26, 27])
  .ret)))⟩


end Go.Dv.Try
