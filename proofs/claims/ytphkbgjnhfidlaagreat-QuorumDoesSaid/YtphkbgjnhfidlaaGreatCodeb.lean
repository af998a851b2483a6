/-
  The annotated functions of this seat. Printed by wip/gen.py.
-/
import Derived.Test.YtphkbgjnhfidlaaGreatCode
set_option linter.unusedVariables false
set_option maxRecDepth 100000
namespace Go.Dv.Tryz
open Go Go.Dv

def a110 : AFunc := ⟨93, 2, [.cell 4 10],
  (.seq (.region false [
 .o 2 (.box (.t 0)),
 .o 3 (.box (.t 1)),
 .o 4 (.alloc zz1)] [0, 1])
 (.seq (.seq (.region false [
 .o 6 (.load (some 10) (.t 2)),
 .o 7 (.load (some 9) (.t 3)),
 .o 8 (.call false 124 [.t 6, .t 7, .i 4]),
 .o 9 (.un .not (.t 8))] [6, 7, 8])
 (.cond (.t 9)
 (.seq (.region false [
 .o 10 (.load (some 10) (.t 2)),
 .u (.store 10 (.t 4) (.t 10))] [9, 10])
 .ret)
 .skip))
 (.seq (.seq (.region false [
 .o 11 (.fieldAddr 3 (.t 3)),
 .o 12 (.load none (.t 11)),
 .o 13 (.fieldAddr 2 (.t 2)),
 .o 14 (.load none (.t 13)),
 .o 15 (.bin .gtr (.t 12) (.t 14))] [9, 11, 12, 13, 14])
 (.cond (.t 15)
 (.seq (.region false [
 .o 16 (.load (some 10) (.t 2)),
 .o 17 (.fieldAddr 3 (.t 3)),
 .o 18 (.load none (.t 17)),
 .o 19 (.call false 126 [.t 16, .t 18]),
 .u (.store 10 (.t 4) (.t 19))] [15, 16, 17, 18, 19])
 .ret)
 .skip))
 (.seq (.seq (.region false [
 .o 20 (.fieldAddr 3 (.t 3)),
 .o 21 (.load none (.t 20)),
 .o 22 (.fieldAddr 2 (.t 2)),
 .o 23 (.load none (.t 22)),
 .o 24 (.bin .lss (.t 21) (.t 23)),
 .o 25 (.move (.t 24)),
 .g 26 25 false (.fieldAddr 5 (.t 2)) [],
 .g 27 25 false (.load none (.t 26)) [],
 .g 28 25 false (.bin .neq (.t 27) (.i 3)) [],
 .o 29 (.pick (.t 25) (.b true) (.t 28)),
 .o 30 (.move (.t 29)),
 .g 31 30 false (.fieldAddr 7 (.t 3)) [],
 .g 32 30 false (.load none (.t 31)) [],
 .g 33 30 false (.move (.t 32)) [],
 .g 34 33 true (.fieldAddr 4 (.t 3)) [],
 .g 35 33 true (.load none (.t 34)) [],
 .g 36 33 true (.fieldAddr 4 (.t 2)) [],
 .g 37 33 true (.load none (.t 36)) [],
 .g 38 33 true (.len (.t 37)) [],
 .g 39 33 true (.bin .gtr (.t 35) (.t 38)) [],
 .g 40 30 false (.pick (.t 33) (.t 39) (.b false)) [],
 .o 41 (.pick (.t 30) (.b true) (.t 40))] [15, 20, 21, 22, 23, 24, 25, 26, 27, 28, 29, 30, 31, 32, 33, 34, 35, 36, 37, 38, 39, 40])
 (.cond (.t 41)
 (.seq (.region false [
 .o 42 (.load (some 10) (.t 2)),
 .u (.store 10 (.t 4) (.t 42))] [41, 42])
 .ret)
 .skip))
 (.seq (.region false [
 .o 43 (.fieldAddr 1 (.t 3)),
 .o 44 (.load none (.t 43)),
 .o 45 (.bin .sub (.t 44) (.i 1)),
 .o 5 (.move (.t 45))] [41, 43, 44, 45])
 (.seq (.seq (.region false [
 .o 46 (.fieldAddr 7 (.t 3)),
 .o 47 (.load none (.t 46))] [46])
 (.cond (.t 47)
 (.seq (.region true [
 .o 48 (.fieldAddr 9 (.t 2)),
 ⟨some 49, .load none (.t 48), none, [0]⟩,
 .o 50 (.move (.t 5)),
 .o 51 (.fieldAddr 9 (.t 2)),
 ⟨some 52, .load none (.t 51), none, [3]⟩,
 .o 53 (.move (.t 5)),
 ⟨some 54, .indexAddr 1 (.t 52) (.t 53), none, [3, 4, 5]⟩,
 ⟨some 55, .load none (.t 54), none, [3, 4, 5, 6]⟩,
 .o 56 (.fieldAddr 4 (.t 3)),
 ⟨some 57, .load none (.t 56), none, [8]⟩,
 ⟨some 58, .minmax true (.t 55) [.t 57], none, [3, 4, 5, 6, 7, 8, 9]⟩,
 ⟨some 59, .call false 90 [.t 49, .t 50, .t 58], none, [0, 1, 2, 3, 4, 5, 6, 7, 8, 9, 10]⟩,
 ⟨some 60, .fieldAddr 9 (.t 2), none, [0, 1, 2, 3, 4, 5, 6, 7, 8, 9, 10, 11]⟩,
 ⟨none, .store 1 (.t 60) (.t 59), none, [0, 1, 2, 3, 4, 5, 6, 7, 8, 9, 10, 11, 12]⟩] [47, 48, 49, 50, 51, 52, 53, 54, 55, 56, 57, 58, 59, 60])
 (.region true [
 .o 61 (.fieldAddr 8 (.t 2)),
 ⟨some 62, .load none (.t 61), none, [0]⟩,
 .o 63 (.move (.t 5)),
 .o 64 (.fieldAddr 9 (.t 2)),
 ⟨some 65, .load none (.t 64), none, [3]⟩,
 .o 66 (.move (.t 5)),
 ⟨some 67, .indexAddr 1 (.t 65) (.t 66), none, [3, 4, 5]⟩,
 ⟨some 68, .load none (.t 67), none, [3, 4, 5, 6]⟩,
 ⟨some 69, .call false 90 [.t 62, .t 63, .t 68], none, [0, 1, 2, 3, 4, 5, 6, 7]⟩,
 ⟨some 70, .fieldAddr 8 (.t 2), none, [0, 1, 2, 3, 4, 5, 6, 7, 8]⟩,
 ⟨none, .store 1 (.t 70) (.t 69), none, [0, 1, 2, 3, 4, 5, 6, 7, 8, 9]⟩] [5, 61, 62, 63, 64, 65, 66, 67, 68, 69, 70]))
 (.region true [
 .o 71 (.fieldAddr 8 (.t 2)),
 ⟨some 72, .load none (.t 71), none, [0]⟩,
 .o 73 (.move (.t 5)),
 .o 74 (.fieldAddr 9 (.t 2)),
 ⟨some 75, .load none (.t 74), none, [3]⟩,
 .o 76 (.move (.t 5)),
 ⟨some 77, .indexAddr 1 (.t 75) (.t 76), none, [3, 4, 5]⟩,
 ⟨some 78, .load none (.t 77), none, [3, 4, 5, 6]⟩,
 .o 79 (.fieldAddr 8 (.t 2)),
 ⟨some 80, .load none (.t 79), none, [8]⟩,
 .o 81 (.move (.t 5)),
 ⟨some 82, .indexAddr 1 (.t 80) (.t 81), none, [8, 9, 10]⟩,
 ⟨some 83, .load none (.t 82), none, [8, 9, 10, 11]⟩,
 ⟨some 84, .bin .sub (.t 83) (.i 1), none, [8, 9, 10, 11, 12]⟩,
 .o 85 (.fieldAddr 4 (.t 3)),
 ⟨some 86, .load none (.t 85), none, [14]⟩,
 ⟨some 87, .minmax false (.t 84) [.t 86], none, [8, 9, 10, 11, 12, 13, 14, 15]⟩,
 ⟨some 88, .minmax true (.t 78) [.t 87], none, [3, 4, 5, 6, 7, 8, 9, 10, 11, 12, 13, 14, 15, 16]⟩,
 ⟨some 89, .call false 90 [.t 72, .t 73, .t 88], none, [0, 1, 2, 3, 4, 5, 6, 7, 8, 9, 10, 11, 12, 13, 14, 15, 16, 17]⟩,
 ⟨some 90, .fieldAddr 8 (.t 2), none, [0, 1, 2, 3, 4, 5, 6, 7, 8, 9, 10, 11, 12, 13, 14, 15, 16, 17, 18]⟩,
 ⟨none, .store 1 (.t 90) (.t 89), none, [0, 1, 2, 3, 4, 5, 6, 7, 8, 9, 10, 11, 12, 13, 14, 15, 16, 17, 18, 19]⟩] [5, 47, 71, 72, 73, 74, 75, 76, 77, 78, 79, 80, 81, 82, 83, 84, 85, 86, 87, 88, 89, 90])))
 (.seq (.region false [
 .o 91 (.load (some 10) (.t 2)),
 .o 92 (.call false 91 [.t 91]),
 .u (.store 10 (.t 4) (.t 92))] [91, 92])
 .ret)))))))⟩

@[irreducible] def a111_l0 : ACode :=
  (.seq (.seq (.region false [
 .o 18 (.move (.t 4)),
 .o 19 (.fieldAddr 1 (.t 1)),
 .o 20 (.load none (.t 19)),
 .o 21 (.bin .leq (.t 18) (.t 20))] [18, 19, 20])
 (.cond (.t 21)
 .skip
 (.ghost (.forget [4, 21]) (.ghost (.free [1]) (.ghost .lower (.exit 0))))))
 (.seq (.block 1
 (.seq (.region false [
 .o 24 (.fieldAddr 8 (.t 3)),
 .o 25 (.load none (.t 24)),
 .o 26 (.fieldAddr 4 (.t 1)),
 .o 27 (.load none (.t 26)),
 .o 28 (.len (.t 27)),
 .o 29 (.buildSlice [.int .i64 0] 1 [(0, .t 28)]),
 .o 30 (.append 8 1 (.t 25) (.t 29)),
 .o 31 (.fieldAddr 8 (.t 3)),
 .u (.store 1 (.t 31) (.t 30))] [21, 24, 25, 26, 27, 28, 29, 30, 31])
 (.seq (.region false [
 .o 32 (.move (.t 4)),
 .o 33 (.fieldAddr 0 (.t 1)),
 .o 34 (.load none (.t 33)),
 .o 35 (.bin .eql (.t 32) (.t 34))] [32, 33, 34])
 (.cond (.t 35)
 (.region false [
 .o 36 (.fieldAddr 9 (.t 3)),
 .o 37 (.load none (.t 36)),
 .o 38 (.fieldAddr 4 (.t 1)),
 .o 39 (.load none (.t 38)),
 .o 40 (.len (.t 39)),
 .o 41 (.buildSlice [.int .i64 0] 1 [(0, .t 40)]),
 .o 42 (.append 8 1 (.t 37) (.t 41)),
 .o 43 (.fieldAddr 9 (.t 3)),
 .u (.store 1 (.t 43) (.t 42))] [35, 36, 37, 38, 39, 40, 41, 42, 43])
 (.region false [
 .o 44 (.fieldAddr 9 (.t 3)),
 .o 45 (.load none (.t 44)),
 .o 46 (.buildSlice [.int .i64 0] 1 [(0, .i 0)]),
 .o 47 (.append 8 1 (.t 45) (.t 46)),
 .o 48 (.fieldAddr 9 (.t 3)),
 .u (.store 1 (.t 48) (.t 47))] [35, 44, 45, 46, 47, 48])))))
 (.region false [
 .o 22 (.move (.t 4)),
 .o 23 (.bin .add (.t 22) (.i 1)),
 .o 4 (.move (.t 23))] [22, 23])))

def a111 : AFunc := ⟨50, 1, [.cell 2 10],
  (.seq (.region false [
 .o 1 (.box (.t 0)),
 .o 2 (.alloc zz1)] [0])
 (.seq (.region false [
 .o 5 (.fieldAddr 0 (.t 1)),
 .o 6 (.load none (.t 5)),
 .o 7 (.fieldAddr 1 (.t 1)),
 .o 8 (.load none (.t 7)),
 .o 9 (.fieldAddr 2 (.t 1)),
 .o 10 (.load none (.t 9)),
 .o 11 (.fieldAddr 3 (.t 1)),
 .o 12 (.load none (.t 11)),
 .o 13 (.fieldAddr 4 (.t 1)),
 .o 14 (.load none (.t 13)),
 .o 15 (.fieldAddr 6 (.t 1)),
 .o 16 (.load none (.t 15)),
 .o 17 (.build zz1 [(0, 1, .t 6), (1, 1, .t 8), (2, 1, .t 10), (3, 1, .t 12), (4, 1, .t 14), (5, 1, .i 3), (6, 1, .t 16)]),
 .o 3 (.alloc zz1),
 .u (.store 10 (.t 3) (.t 17))] [5, 6, 7, 8, 9, 10, 11, 12, 13, 14, 15, 16, 17])
 (.seq (.seq (.region false [
 .o 4 (.move (.i 1))] [])
 (.block 0
 (.loop
 (.ghost .lower a111_l0))))
 (.seq (.region false [
 .o 49 (.load (some 10) (.t 3)),
 .u (.store 10 (.t 2) (.t 49))] [49])
 .ret))))⟩

def a112 : AFunc := ⟨28, 3, [.tmp 6],
  (.seq (.region false [
 .o 3 (.box (.t 0)),
 .o 4 (.box (.t 1)),
 .o 6 (.move (.b false))] [0, 1, 6])
 (.seq (.region false [
 .o 7 (.load (some 10) (.t 3)),
 .o 8 (.call false 22 [.t 7]),
 .o 9 (.move (.t 8)),
 .g 10 9 true (.load (some 9) (.t 4)) [],
 .g 11 9 true (.fieldAddr 1 (.t 3)) [],
 .g 12 9 true (.load none (.t 11)) [],
 .g 13 9 true (.call false 23 [.t 10, .t 12]) [],
 .o 14 (.pick (.t 9) (.t 13) (.b false)),
 .o 15 (.move (.t 14)),
 .g 16 15 true (.fieldAddr 2 (.t 4)) [],
 .g 17 15 true (.load none (.t 16)) [],
 .g 18 15 true (.fieldAddr 0 (.t 3)) [],
 .g 19 15 true (.load none (.t 18)) [],
 .g 20 15 true (.bin .eql (.t 17) (.t 19)) [],
 .o 21 (.pick (.t 15) (.t 20) (.b false)),
 .o 22 (.move (.t 21)),
 .g 23 22 true (.fieldAddr 0 (.t 4)) [],
 .g 24 22 true (.load none (.t 23)) [],
 .g 25 22 true (.move (.t 2)) [],
 .g 26 22 true (.bin .eql (.t 24) (.t 25)) [],
 .o 27 (.pick (.t 22) (.t 26) (.b false)),
 .o 6 (.move (.t 27))] [2, 7, 8, 9, 10, 11, 12, 13, 14, 15, 16, 17, 18, 19, 20, 21, 22, 23, 24, 25, 26, 27])
 .ret))⟩

def a113 : AFunc := ⟨29, 2, [],
  (.region true [
 .o 4 (.move (.t 0)),
 .o 5 (.move (.t 0)),
 ⟨some 6, .nilCheck (.t 5), none, [1]⟩,
 ⟨some 7, .fieldAddr 0 (.t 6), none, [1, 2]⟩,
 ⟨some 8, .fieldAddr 0 (.t 7), none, [1, 2, 3]⟩,
 ⟨some 9, .load none (.t 8), none, [1, 2, 3, 4]⟩,
 .o 10 (.move (.t 0)),
 ⟨some 11, .nilCheck (.t 10), none, [6]⟩,
 ⟨some 12, .fieldAddr 0 (.t 11), none, [6, 7]⟩,
 ⟨some 13, .fieldAddr 1 (.t 12), none, [6, 7, 8]⟩,
 ⟨some 14, .load none (.t 13), none, [6, 7, 8, 9]⟩,
 .o 15 (.move (.t 0)),
 ⟨some 16, .nilCheck (.t 15), none, [11]⟩,
 ⟨some 17, .fieldAddr 0 (.t 16), none, [11, 12]⟩,
 ⟨some 18, .fieldAddr 4 (.t 17), none, [11, 12, 13]⟩,
 ⟨some 19, .load none (.t 18), none, [11, 12, 13, 14]⟩,
 .o 20 (.move (.t 0)),
 ⟨some 21, .nilCheck (.t 20), none, [16]⟩,
 ⟨some 22, .fieldAddr 0 (.t 21), none, [16, 17]⟩,
 ⟨some 23, .fieldAddr 6 (.t 22), none, [16, 17, 18]⟩,
 ⟨some 24, .load none (.t 23), none, [16, 17, 18, 19]⟩,
 .o 25 (.move (.t 1)),
 ⟨some 26, .build zz1 [(0, 1, .t 9), (1, 1, .t 14), (4, 1, .t 19), (6, 1, .t 24), (2, 1, .t 25), (5, 1, .i 1)], none, [1, 2, 3, 4, 5, 6, 7, 8, 9, 10, 11, 12, 13, 14, 15, 16, 17, 18, 19, 20, 21]⟩,
 ⟨some 27, .nilCheck (.t 4), none, [0, 1, 2, 3, 4, 5, 6, 7, 8, 9, 10, 11, 12, 13, 14, 15, 16, 17, 18, 19, 20, 21, 22]⟩,
 ⟨some 28, .fieldAddr 0 (.t 27), none, [0, 1, 2, 3, 4, 5, 6, 7, 8, 9, 10, 11, 12, 13, 14, 15, 16, 17, 18, 19, 20, 21, 22, 23]⟩,
 ⟨none, .store 10 (.t 28) (.t 26), none, [0, 1, 2, 3, 4, 5, 6, 7, 8, 9, 10, 11, 12, 13, 14, 15, 16, 17, 18, 19, 20, 21, 22, 23, 24]⟩] [0, 1, 4, 5, 6, 7, 8, 9, 10, 11, 12, 13, 14, 15, 16, 17, 18, 19, 20, 21, 22, 23, 24, 25, 26, 27, 28])⟩

def a114 : AFunc := ⟨26, 3, [.tmp 6],
  (.seq (.region false [
 .o 3 (.box (.t 0)),
 .o 6 (.move (.b false))] [0, 6])
 (.seq (.region false [
 .o 8 (.fieldAddr 4 (.t 3)),
 .o 9 (.load none (.t 8)),
 .o 10 (.call false 75 [.t 9]),
 .o 7 (.move (.t 10))] [8, 9, 10])
 (.seq (.region false [
 .o 11 (.move (.t 2)),
 .o 12 (.move (.t 7)),
 .o 13 (.bin .gtr (.t 11) (.t 12)),
 .o 14 (.move (.t 13)),
 .g 15 14 false (.move (.t 2)) [],
 .g 16 14 false (.move (.t 7)) [],
 .g 17 14 false (.bin .eql (.t 15) (.t 16)) [],
 .g 18 14 false (.move (.t 17)) [],
 .g 19 18 true (.move (.t 1)) [],
 .g 20 18 true (.fieldAddr 4 (.t 3)) [],
 .g 21 18 true (.load none (.t 20)) [],
 .g 22 18 true (.len (.t 21)) [],
 .g 23 18 true (.bin .geq (.t 19) (.t 22)) [],
 .g 24 14 false (.pick (.t 18) (.t 23) (.b false)) [],
 .o 25 (.pick (.t 14) (.b true) (.t 24)),
 .o 6 (.move (.t 25))] [1, 2, 7, 11, 12, 13, 14, 15, 16, 17, 18, 19, 20, 21, 22, 23, 24, 25])
 .ret)))⟩

def a115 : AFunc := ⟨9, 2, [.tmp 4],
  (.seq (.region false [
 .o 4 (.move (.b false))] [4])
 (.seq (.region false [
 .o 5 (.move (.t 0)),
 .o 6 (.move (.t 1)),
 .o 7 (.call false 127 [.t 5, .t 6]),
 .o 8 (.bin .geq (.t 7) (.i 0)),
 .o 4 (.move (.t 8))] [0, 1, 5, 6, 7, 8])
 .ret))⟩

def a116 : AFunc := ⟨11, 1, [],
  (.seq (.region false [
 .o 3 (.move (.t 0)),
 .o 4 (.len (.t 3)),
 .o 2 (.move (.t 4))] [3, 4])
 (.region false [
 .o 5 (.move (.t 0)),
 .o 6 (.move (.t 2)),
 .o 7 (.move (.t 2)),
 .o 8 (.conv .u64 (.t 7)),
 .o 9 (.call false 129 [.t 8]),
 .o 10 (.call true 128 [.t 5, .i 0, .t 6, .t 9])] [0, 2, 5, 6, 7, 8, 9, 10]))⟩

def a117 : AFunc := ⟨28, 3, [.tmp 6],
  (.seq (.region false [
 .o 3 (.box (.t 0)),
 .o 4 (.box (.t 1)),
 .o 6 (.move (.b false))] [0, 1, 6])
 (.seq (.region false [
 .o 7 (.load (some 10) (.t 3)),
 .o 8 (.call false 22 [.t 7]),
 .o 9 (.move (.t 8)),
 .g 10 9 true (.load (some 9) (.t 4)) [],
 .g 11 9 true (.fieldAddr 1 (.t 3)) [],
 .g 12 9 true (.load none (.t 11)) [],
 .g 13 9 true (.call false 23 [.t 10, .t 12]) [],
 .o 14 (.pick (.t 9) (.t 13) (.b false)),
 .o 15 (.move (.t 14)),
 .g 16 15 true (.fieldAddr 2 (.t 4)) [],
 .g 17 15 true (.load none (.t 16)) [],
 .g 18 15 true (.fieldAddr 0 (.t 3)) [],
 .g 19 15 true (.load none (.t 18)) [],
 .g 20 15 true (.bin .eql (.t 17) (.t 19)) [],
 .o 21 (.pick (.t 15) (.t 20) (.b false)),
 .o 22 (.move (.t 21)),
 .g 23 22 true (.fieldAddr 0 (.t 4)) [],
 .g 24 22 true (.load none (.t 23)) [],
 .g 25 22 true (.move (.t 2)) [],
 .g 26 22 true (.bin .eql (.t 24) (.t 25)) [],
 .o 27 (.pick (.t 22) (.t 26) (.b false)),
 .o 6 (.move (.t 27))] [2, 7, 8, 9, 10, 11, 12, 13, 14, 15, 16, 17, 18, 19, 20, 21, 22, 23, 24, 25, 26, 27])
 .ret))⟩

def a118 : AFunc := ⟨18, 4, [.tmp 8],
  (.seq (.region false [
 .o 4 (.box (.t 0)),
 .o 8 (.move (.c (.p (.slice true []))))] [0, 8])
 (.seq (.region false [
 .o 9 (.fieldAddr 0 (.t 4)),
 .o 10 (.load none (.t 9)),
 .o 11 (.move (.t 1)),
 .o 12 (.fieldAddr 2 (.t 4)),
 .o 13 (.load none (.t 12)),
 .o 14 (.move (.t 2)),
 .o 15 (.move (.t 3)),
 .o 16 (.build zz2 [(0, 1, .i 4), (1, 1, .t 10), (2, 1, .t 11), (3, 1, .t 13), (4, 1, .t 14), (7, 1, .t 15)]),
 .o 17 (.buildSlice zz2 1 [(0, .t 16)]),
 .o 8 (.move (.t 17))] [1, 2, 3, 9, 10, 11, 12, 13, 14, 15, 16, 17])
 .ret))⟩

def a119 : AFunc := ⟨15, 2, [.cell 4 10],
  (.seq (.region false [
 .o 2 (.box (.t 0)),
 .o 4 (.alloc zz1)] [0])
 (.seq (.region false [
 .o 5 (.fieldAddr 0 (.t 2)),
 .o 6 (.load none (.t 5)),
 .o 7 (.fieldAddr 1 (.t 2)),
 .o 8 (.load none (.t 7)),
 .o 9 (.fieldAddr 4 (.t 2)),
 .o 10 (.load none (.t 9)),
 .o 11 (.fieldAddr 6 (.t 2)),
 .o 12 (.load none (.t 11)),
 .o 13 (.move (.t 1)),
 .o 14 (.build zz1 [(0, 1, .t 6), (1, 1, .t 8), (4, 1, .t 10), (6, 1, .t 12), (2, 1, .t 13), (5, 1, .i 1)]),
 .u (.store 10 (.t 4) (.t 14))] [1, 5, 6, 7, 8, 9, 10, 11, 12, 13, 14])
 .ret))⟩

@[irreducible] def a120_l0 : ACode :=
  (.seq (.region false [
 .o 13 (.bin .lss (.t 12) (.t 11))] [])
 (.seq (.cond (.t 13)
 .skip
 (.ghost (.forget [0, 1, 10, 11, 12, 13]) (.ghost .lower (.exit 0))))
 (.seq (.block 1
 (.seq (.region false [
 .o 14 (.move (.t 12)),
 .o 15 (.indexAddr 2 (.t 10) (.t 12)),
 .o 16 (.load (some 2) (.t 15)),
 .o 9 (.alloc [.int .i64 0, .str ⟨#[]⟩]),
 .o 8 (.move (.t 14)),
 .u (.store 2 (.t 9) (.t 16))] [13, 14, 15, 16])
 (.seq (.block 2
 (.seq (.seq (.region false [
 .o 18 (.move (.t 1)),
 .o 19 (.move (.t 8)),
 .o 20 (.bin .add (.t 18) (.t 19)),
 .o 21 (.move (.t 0)),
 .o 22 (.len (.t 21)),
 .o 23 (.bin .geq (.t 20) (.t 22)),
 .o 17 (.move (.t 23))] [18, 19, 20, 21, 22, 23])
 (.cond (.t 17)
 .skip
 (.region true [
 .o 24 (.move (.t 0)),
 .o 25 (.move (.t 1)),
 .o 26 (.move (.t 8)),
 ⟨some 27, .bin .add (.t 25) (.t 26), none, [1, 2]⟩,
 ⟨some 28, .indexAddr 2 (.t 24) (.t 27), none, [0, 1, 2, 3]⟩,
 ⟨some 29, .load (some 2) (.t 28), none, [0, 1, 2, 3, 4]⟩,
 .o 30 (.load (some 2) (.t 9)),
 ⟨some 31, .eqagg true [(0, 0), (1, 2)] (.t 29) (.t 30), none, [0, 1, 2, 3, 4, 5, 6]⟩,
 ⟨some 17, .move (.t 31), none, [0, 1, 2, 3, 4, 5, 6, 7]⟩] [8, 24, 25, 26, 27, 28, 29, 30, 31])))
 (.cond (.t 17)
 (.ghost (.forget [0, 1, 8, 10, 11, 12, 17]) (.ghost (.free [9]) (.ghost .lower (.exit 0))))
 .skip)))
 (.region false [
 .o 32 (.move (.t 7)),
 .o 33 (.bin .add (.t 32) (.i 1)),
 .o 7 (.move (.t 33))] [8, 17, 32, 33]))))
 (.region false [
 .o 34 (.bin .add (.t 12) (.i 1)),
 .o 12 (.move (.t 34))] [34]))))

def a120 : AFunc := ⟨36, 3, [.tmp 6],
  (.seq (.region false [
 .o 6 (.move (.i 0))] [6])
 (.scope
 (.seq (.region false [
 .o 7 (.move (.i 0))] [])
 (.seq .skip
 (.seq (.seq (.region false [
 .o 10 (.move (.t 2)),
 .o 11 (.len (.t 10)),
 .o 12 (.move (.i 0))] [2])
 (.block 0
 (.loop
 (.ghost (.free [9]) (.ghost .lower a120_l0)))))
 (.seq (.region false [
 .o 35 (.move (.t 7)),
 .o 6 (.move (.t 35))] [7, 35])
 .ret))))))⟩

def a121 : AFunc := ⟨28, 3, [.tmp 6],
  (.seq (.region false [
 .o 3 (.box (.t 0)),
 .o 4 (.box (.t 1)),
 .o 6 (.move (.b false))] [0, 1, 6])
 (.seq (.region false [
 .o 7 (.load (some 10) (.t 3)),
 .o 8 (.call false 24 [.t 7]),
 .o 9 (.move (.t 8)),
 .g 10 9 true (.fieldAddr 0 (.t 4)) [],
 .g 11 9 true (.load none (.t 10)) [],
 .g 12 9 true (.move (.t 2)) [],
 .g 13 9 true (.bin .eql (.t 11) (.t 12)) [],
 .o 14 (.pick (.t 9) (.t 13) (.b false)),
 .o 15 (.move (.t 14)),
 .g 16 15 true (.fieldAddr 2 (.t 4)) [],
 .g 17 15 true (.load none (.t 16)) [],
 .g 18 15 true (.fieldAddr 0 (.t 3)) [],
 .g 19 15 true (.load none (.t 18)) [],
 .g 20 15 true (.bin .eql (.t 17) (.t 19)) [],
 .o 21 (.pick (.t 15) (.t 20) (.b false)),
 .o 22 (.move (.t 21)),
 .g 23 22 true (.load (some 9) (.t 4)) [],
 .g 24 22 true (.fieldAddr 1 (.t 3)) [],
 .g 25 22 true (.load none (.t 24)) [],
 .g 26 22 true (.call false 25 [.t 23, .t 25]) [],
 .o 27 (.pick (.t 22) (.t 26) (.b false)),
 .o 6 (.move (.t 27))] [2, 7, 8, 9, 10, 11, 12, 13, 14, 15, 16, 17, 18, 19, 20, 21, 22, 23, 24, 25, 26, 27])
 .ret))⟩

def a122 : AFunc := ⟨26, 3, [.tmp 6],
  (.seq (.region false [
 .o 3 (.box (.t 0)),
 .o 6 (.move (.b false))] [0, 6])
 (.seq (.region false [
 .o 8 (.fieldAddr 4 (.t 3)),
 .o 9 (.load none (.t 8)),
 .o 10 (.call false 85 [.t 9]),
 .o 7 (.move (.t 10))] [8, 9, 10])
 (.seq (.region false [
 .o 11 (.move (.t 2)),
 .o 12 (.move (.t 7)),
 .o 13 (.bin .gtr (.t 11) (.t 12)),
 .o 14 (.move (.t 13)),
 .g 15 14 false (.move (.t 2)) [],
 .g 16 14 false (.move (.t 7)) [],
 .g 17 14 false (.bin .eql (.t 15) (.t 16)) [],
 .g 18 14 false (.move (.t 17)) [],
 .g 19 18 true (.move (.t 1)) [],
 .g 20 18 true (.fieldAddr 4 (.t 3)) [],
 .g 21 18 true (.load none (.t 20)) [],
 .g 22 18 true (.len (.t 21)) [],
 .g 23 18 true (.bin .geq (.t 19) (.t 22)) [],
 .g 24 14 false (.pick (.t 18) (.t 23) (.b false)) [],
 .o 25 (.pick (.t 14) (.b true) (.t 24)),
 .o 6 (.move (.t 25))] [1, 2, 7, 11, 12, 13, 14, 15, 16, 17, 18, 19, 20, 21, 22, 23, 24, 25])
 .ret)))⟩

@[irreducible] def a123_l0 : ACode :=
  (.seq (.seq (.region false [
 .o 8 (.move (.t 7)),
 .o 9 (.move (.t 0)),
 .o 10 (.len (.t 9)),
 .o 11 (.bin .lss (.t 8) (.t 10))] [8, 9, 10])
 (.cond (.t 11)
 .skip
 (.ghost (.forget [0, 7, 11]) (.ghost .lower (.exit 0)))))
 (.seq (.block 1
 (.seq (.seq (.region false [
 .o 14 (.move (.t 6)),
 .o 15 (.un .not (.t 14)),
 .o 16 (.move (.t 15)),
 .g 17 16 true (.move (.t 0)) [],
 .g 18 16 true (.move (.t 7)) [],
 .g 19 16 true (.indexAddr 1 (.t 17) (.t 18)) [],
 .g 20 16 true (.load none (.t 19)) [],
 .g 21 16 true (.move (.t 1)) [],
 .g 22 16 true (.bin .geq (.t 20) (.t 21)) [],
 .o 23 (.pick (.t 16) (.t 22) (.b false))] [11, 14, 15, 16, 17, 18, 19, 20, 21, 22])
 (.cond (.t 23)
 (.seq (.region false [
 .o 24 (.move (.t 5)),
 .o 25 (.move (.t 1)),
 .o 26 (.buildSlice [.int .i64 0] 1 [(0, .t 25)]),
 .o 27 (.append 8 1 (.t 24) (.t 26)),
 .o 5 (.move (.t 27))] [6, 23, 24, 25, 26, 27])
 (.region false [
 .o 6 (.move (.b true))] []))
 .skip))
 (.seq (.region false [
 .o 28 (.move (.t 0)),
 .o 29 (.move (.t 7)),
 .o 30 (.indexAddr 1 (.t 28) (.t 29)),
 .o 31 (.load none (.t 30)),
 .o 32 (.move (.t 1)),
 .o 33 (.bin .neq (.t 31) (.t 32))] [23, 28, 29, 30, 31, 32])
 (.cond (.t 33)
 (.region false [
 .o 34 (.move (.t 5)),
 .o 35 (.move (.t 0)),
 .o 36 (.move (.t 7)),
 .o 37 (.indexAddr 1 (.t 35) (.t 36)),
 .o 38 (.load none (.t 37)),
 .o 39 (.buildSlice [.int .i64 0] 1 [(0, .t 38)]),
 .o 40 (.append 8 1 (.t 34) (.t 39)),
 .o 5 (.move (.t 40))] [33, 34, 35, 36, 37, 38, 39, 40])
 .skip))))
 (.region false [
 .o 12 (.move (.t 7)),
 .o 13 (.bin .add (.t 12) (.i 1)),
 .o 7 (.move (.t 13))] [12, 13, 33])))

def a123 : AFunc := ⟨48, 2, [.tmp 4],
  (.seq (.region false [
 .o 4 (.move (.c (.p (.slice true []))))] [4])
 (.seq (.region false [
 .o 5 (.move (.c (.p (.slice true []))))] [])
 (.ghost (.own 1 5) (.seq (.region false [
 .o 6 (.move (.b false))] [])
 (.seq (.seq (.region false [
 .o 7 (.move (.i 0))] [])
 (.block 0
 (.loop
 (.ghost .lower a123_l0))))
 (.seq (.seq (.region false [
 .o 41 (.move (.t 6)),
 .o 42 (.un .not (.t 41))] [6, 41])
 (.cond (.t 42)
 (.region false [
 .o 43 (.move (.t 5)),
 .o 44 (.move (.t 1)),
 .o 45 (.buildSlice [.int .i64 0] 1 [(0, .t 44)]),
 .o 46 (.append 8 1 (.t 43) (.t 45)),
 .o 5 (.move (.t 46))] [1, 42, 43, 44, 45, 46])
 .skip))
 (.seq (.region false [
 .o 47 (.move (.t 5)),
 .o 4 (.move (.t 47))] [1, 5, 42, 47])
 .ret)))))))⟩

def a124 : AFunc := ⟨28, 3, [.tmp 6],
  (.seq (.region false [
 .o 3 (.box (.t 0)),
 .o 4 (.box (.t 1)),
 .o 6 (.move (.b false))] [0, 1, 6])
 (.seq (.region false [
 .o 7 (.load (some 10) (.t 3)),
 .o 8 (.call false 24 [.t 7]),
 .o 9 (.move (.t 8)),
 .g 10 9 true (.load (some 9) (.t 4)) [],
 .g 11 9 true (.fieldAddr 1 (.t 3)) [],
 .g 12 9 true (.load none (.t 11)) [],
 .g 13 9 true (.call false 25 [.t 10, .t 12]) [],
 .o 14 (.pick (.t 9) (.t 13) (.b false)),
 .o 15 (.move (.t 14)),
 .g 16 15 true (.fieldAddr 2 (.t 4)) [],
 .g 17 15 true (.load none (.t 16)) [],
 .g 18 15 true (.fieldAddr 0 (.t 3)) [],
 .g 19 15 true (.load none (.t 18)) [],
 .g 20 15 true (.bin .eql (.t 17) (.t 19)) [],
 .o 21 (.pick (.t 15) (.t 20) (.b false)),
 .o 22 (.move (.t 21)),
 .g 23 22 true (.fieldAddr 0 (.t 4)) [],
 .g 24 22 true (.load none (.t 23)) [],
 .g 25 22 true (.move (.t 2)) [],
 .g 26 22 true (.bin .eql (.t 24) (.t 25)) [],
 .o 27 (.pick (.t 22) (.t 26) (.b false)),
 .o 6 (.move (.t 27))] [2, 7, 8, 9, 10, 11, 12, 13, 14, 15, 16, 17, 18, 19, 20, 21, 22, 23, 24, 25, 26, 27])
 .ret))⟩

def a125 : AFunc := ⟨18, 4, [.tmp 8],
  (.seq (.region false [
 .o 4 (.box (.t 0)),
 .o 8 (.move (.c (.p (.slice true []))))] [0, 8])
 (.seq (.region false [
 .o 9 (.fieldAddr 0 (.t 4)),
 .o 10 (.load none (.t 9)),
 .o 11 (.move (.t 1)),
 .o 12 (.fieldAddr 2 (.t 4)),
 .o 13 (.load none (.t 12)),
 .o 14 (.move (.t 2)),
 .o 15 (.move (.t 3)),
 .o 16 (.build zz2 [(0, 1, .i 4), (1, 1, .t 10), (2, 1, .t 11), (3, 1, .t 13), (4, 1, .t 14), (7, 1, .t 15)]),
 .o 17 (.buildSlice zz2 1 [(0, .t 16)]),
 .o 8 (.move (.t 17))] [1, 2, 3, 9, 10, 11, 12, 13, 14, 15, 16, 17])
 .ret))⟩

def a126 : AFunc := ⟨15, 2, [.cell 4 10],
  (.seq (.region false [
 .o 2 (.box (.t 0)),
 .o 4 (.alloc zz1)] [0])
 (.seq (.region false [
 .o 5 (.fieldAddr 0 (.t 2)),
 .o 6 (.load none (.t 5)),
 .o 7 (.fieldAddr 1 (.t 2)),
 .o 8 (.load none (.t 7)),
 .o 9 (.move (.t 1)),
 .o 10 (.fieldAddr 4 (.t 2)),
 .o 11 (.load none (.t 10)),
 .o 12 (.fieldAddr 6 (.t 2)),
 .o 13 (.load none (.t 12)),
 .o 14 (.build zz1 [(0, 1, .t 6), (1, 1, .t 8), (2, 1, .t 9), (4, 1, .t 11), (5, 1, .i 1), (6, 1, .t 13)]),
 .u (.store 10 (.t 4) (.t 14))] [1, 5, 6, 7, 8, 9, 10, 11, 12, 13, 14])
 .ret))⟩

@[irreducible] def a127_l0 : ACode :=
  (.seq (.region false [
 .o 9 (.bin .lss (.t 8) (.t 7))] [])
 (.seq (.cond (.t 9)
 .skip
 (.ghost (.forget [0, 1, 7, 8, 9]) (.ghost .lower (.exit 0))))
 (.seq (.block 1
 (.seq (.region false [
 .o 10 (.move (.t 8)),
 .o 5 (.move (.t 10))] [9, 10])
 (.seq (.region false [
 .o 11 (.move (.t 1)),
 .o 12 (.move (.t 0)),
 .o 13 (.move (.t 5)),
 .o 14 (.indexAddr 1 (.t 12) (.t 13)),
 .o 15 (.load none (.t 14)),
 .o 16 (.bin .eql (.t 11) (.t 15))] [11, 12, 13, 14, 15])
 (.cond (.t 16)
 (.seq (.region false [
 .o 17 (.move (.t 5)),
 .o 4 (.move (.t 17))] [0, 1, 5, 7, 8, 16, 17])
 .ret)
 .skip))))
 (.region false [
 .o 18 (.bin .add (.t 8) (.i 1)),
 .o 8 (.move (.t 18))] [5, 16, 18]))))

def a127 : AFunc := ⟨19, 2, [.tmp 4],
  (.seq (.region false [
 .o 4 (.move (.i 0))] [4])
 (.seq (.seq (.region false [
 .o 6 (.move (.t 0)),
 .o 7 (.len (.t 6)),
 .o 8 (.move (.i 0))] [6])
 (.block 0
 (.loop
 (.ghost .lower a127_l0))))
 (.seq (.region false [
 .o 4 (.move (.i (-1)))] [])
 .ret)))⟩

@[irreducible] def a128_l0 : ACode :=
  (.block 1
 (.seq (.region false [
 .o 19 (.move (.t 2)),
 .o 20 (.move (.t 1)),
 .o 21 (.bin .sub (.t 19) (.t 20)),
 .o 10 (.move (.t 21))] [19, 20, 21])
 (.seq (.seq (.region false [
 .o 22 (.move (.t 10)),
 .o 23 (.bin .leq (.t 22) (.i 12))] [22])
 (.cond (.t 23)
 (.seq (.region false [
 .o 24 (.move (.t 0)),
 .o 25 (.move (.t 1)),
 .o 26 (.move (.t 2)),
 .o 27 (.call true 130 [.t 24, .t 25, .t 26])] [0, 1, 2, 3, 8, 9, 10, 23, 24, 25, 26, 27])
 .ret)
 .skip))
 (.seq (.seq (.region false [
 .o 28 (.move (.t 3)),
 .o 29 (.bin .eql (.t 28) (.i 0))] [23, 28])
 (.cond (.t 29)
 (.seq (.region false [
 .o 30 (.move (.t 0)),
 .o 31 (.move (.t 1)),
 .o 32 (.move (.t 2)),
 .o 33 (.call true 131 [.t 30, .t 31, .t 32])] [0, 1, 2, 3, 8, 9, 10, 29, 30, 31, 32, 33])
 .ret)
 .skip))
 (.seq (.seq (.region false [
 .o 34 (.move (.t 8)),
 .o 35 (.un .not (.t 34))] [29, 34])
 (.cond (.t 35)
 (.seq (.region false [
 .o 36 (.move (.t 0)),
 .o 37 (.move (.t 1)),
 .o 38 (.move (.t 2)),
 .o 39 (.call false 132 [.t 36, .t 37, .t 38])] [35, 36, 37, 38, 39])
 (.region false [
 .o 40 (.move (.t 3)),
 .o 41 (.bin .sub (.t 40) (.i 1)),
 .o 3 (.move (.t 41))] [40, 41]))
 .skip))
 (.seq (.region false [
 .o 43 (.move (.t 0)),
 .o 44 (.move (.t 1)),
 .o 45 (.move (.t 2)),
 .o 46 (.call false 133 [.t 43, .t 44, .t 45]),
 .o 42 (.move (.t 46)),
 .o 47 (.extract (.t 42) 0),
 .o 48 (.extract (.t 42) 1),
 .o 11 (.move (.t 47)),
 .o 12 (.move (.t 48))] [35, 42, 43, 44, 45, 46, 47, 48])
 (.seq (.seq (.region false [
 .o 49 (.move (.t 12)),
 .o 50 (.bin .eql (.t 49) (.i 2))] [49])
 (.cond (.t 50)
 (.seq (.region false [
 .o 51 (.move (.t 0)),
 .o 52 (.move (.t 1)),
 .o 53 (.move (.t 2)),
 .o 54 (.call false 134 [.t 51, .t 52, .t 53])] [12, 50, 51, 52, 53, 54])
 (.seq (.region false [
 .o 55 (.move (.t 2)),
 .o 56 (.bin .sub (.t 55) (.i 1)),
 .o 57 (.move (.t 11)),
 .o 58 (.move (.t 1)),
 .o 59 (.bin .sub (.t 57) (.t 58)),
 .o 60 (.bin .sub (.t 56) (.t 59)),
 .o 11 (.move (.t 60))] [55, 56, 57, 58, 59, 60])
 (.region false [
 .o 12 (.move (.i 1))] [])))
 .skip))
 (.seq (.seq (.region false [
 .o 61 (.move (.t 8)),
 .o 62 (.move (.t 61)),
 .g 63 62 true (.move (.t 9)) [],
 .o 64 (.pick (.t 62) (.t 63) (.b false)),
 .o 65 (.move (.t 64)),
 .g 66 65 true (.move (.t 12)) [],
 .g 67 65 true (.bin .eql (.t 66) (.i 1)) [],
 .o 68 (.pick (.t 65) (.t 67) (.b false))] [12, 50, 61, 62, 63, 64, 65, 66, 67])
 (.cond (.t 68)
 (.seq (.region false [
 .o 69 (.move (.t 0)),
 .o 70 (.move (.t 1)),
 .o 71 (.move (.t 2)),
 .o 72 (.call false 135 [.t 69, .t 70, .t 71])] [68, 69, 70, 71])
 (.cond (.t 72)
 .ret
 .skip))
 .skip))
 (.seq (.seq (.region true [
 .o 73 (.move (.t 1)),
 ⟨some 74, .bin .gtr (.t 73) (.i 0), none, [0]⟩,
 ⟨some 75, .move (.t 74), none, [0, 1]⟩,
 .g 76 75 true (.move (.t 0)) [0, 1, 2],
 .g 77 75 true (.move (.t 1)) [0, 1, 2],
 .g 78 75 true (.bin .sub (.t 77) (.i 1)) [0, 1, 2, 4],
 .g 79 75 true (.indexAddr 1 (.t 76) (.t 78)) [0, 1, 2, 3, 4, 5],
 .g 80 75 true (.load none (.t 79)) [0, 1, 2, 3, 4, 5, 6],
 .g 81 75 true (.move (.t 0)) [0, 1, 2],
 .g 82 75 true (.move (.t 11)) [0, 1, 2],
 .g 83 75 true (.indexAddr 1 (.t 81) (.t 82)) [0, 1, 2, 8, 9],
 .g 84 75 true (.load none (.t 83)) [0, 1, 2, 8, 9, 10],
 .g 85 75 true (.call false 136 [.t 80, .t 84]) [0, 1, 2, 3, 4, 5, 6, 7, 8, 9, 10, 11],
 .g 86 75 true (.un .not (.t 85)) [0, 1, 2, 3, 4, 5, 6, 7, 8, 9, 10, 11, 12],
 ⟨some 87, .pick (.t 75) (.t 86) (.b false), none, [0, 1, 2, 3, 4, 5, 6, 7, 8, 9, 10, 11, 12, 13]⟩] [68, 72, 73, 74, 75, 76, 77, 78, 79, 80, 81, 82, 83, 84, 85, 86])
 (.cond (.t 87)
 (.seq (.region false [
 .o 88 (.move (.t 0)),
 .o 89 (.move (.t 1)),
 .o 90 (.move (.t 2)),
 .o 91 (.move (.t 11)),
 .o 92 (.call false 137 [.t 88, .t 89, .t 90, .t 91]),
 .o 13 (.move (.t 92))] [1, 10, 11, 87, 88, 89, 90, 91, 92])
 (.seq (.region false [
 .o 93 (.move (.t 13)),
 .o 1 (.move (.t 93))] [13, 93])
 (.exit 1)))
 .skip))
 (.seq (.region false [
 .o 95 (.move (.t 0)),
 .o 96 (.move (.t 1)),
 .o 97 (.move (.t 2)),
 .o 98 (.move (.t 11)),
 .o 99 (.call false 138 [.t 95, .t 96, .t 97, .t 98]),
 .o 94 (.move (.t 99)),
 .o 100 (.extract (.t 94) 0),
 .o 101 (.extract (.t 94) 1),
 .o 14 (.move (.t 100)),
 .o 15 (.move (.t 101))] [8, 9, 11, 87, 94, 95, 96, 97, 98, 99, 100, 101])
 (.seq (.region false [
 .o 102 (.move (.t 15)),
 .o 9 (.move (.t 102))] [15, 102])
 (.seq (.region false [
 .o 103 (.move (.t 14)),
 .o 104 (.move (.t 1)),
 .o 105 (.bin .sub (.t 103) (.t 104)),
 .o 106 (.move (.t 2)),
 .o 107 (.move (.t 14)),
 .o 108 (.bin .sub (.t 106) (.t 107)),
 .o 16 (.move (.t 105)),
 .o 17 (.move (.t 108))] [103, 104, 105, 106, 107, 108])
 (.seq (.region false [
 .o 109 (.move (.t 10)),
 .o 110 (.bin .quo (.t 109) (.i 8)),
 .o 18 (.move (.t 110))] [10, 109, 110])
 (.seq (.region false [
 .o 111 (.move (.t 16)),
 .o 112 (.move (.t 17)),
 .o 113 (.bin .lss (.t 111) (.t 112))] [111, 112])
 (.cond (.t 113)
 (.seq (.region false [
 .o 114 (.move (.t 16)),
 .o 115 (.move (.t 18)),
 .o 116 (.bin .geq (.t 114) (.t 115)),
 .o 8 (.move (.t 116))] [16, 17, 18, 113, 114, 115, 116])
 (.seq (.region false [
 .o 117 (.move (.t 0)),
 .o 118 (.move (.t 1)),
 .o 119 (.move (.t 14)),
 .o 120 (.move (.t 3)),
 .o 121 (.call true 128 [.t 117, .t 118, .t 119, .t 120])] [1, 117, 118, 119, 120, 121])
 (.region false [
 .o 122 (.move (.t 14)),
 .o 123 (.bin .add (.t 122) (.i 1)),
 .o 1 (.move (.t 123))] [14, 122, 123])))
 (.seq (.region false [
 .o 124 (.move (.t 17)),
 .o 125 (.move (.t 18)),
 .o 126 (.bin .geq (.t 124) (.t 125)),
 .o 8 (.move (.t 126))] [16, 17, 18, 113, 124, 125, 126])
 (.seq (.region false [
 .o 127 (.move (.t 0)),
 .o 128 (.move (.t 14)),
 .o 129 (.bin .add (.t 128) (.i 1)),
 .o 130 (.move (.t 2)),
 .o 131 (.move (.t 3)),
 .o 132 (.call true 128 [.t 127, .t 129, .t 130, .t 131])] [2, 127, 128, 129, 130, 131, 132])
 (.region false [
 .o 133 (.move (.t 14)),
 .o 2 (.move (.t 133))] [14, 133]))))))))))))))))))

def a128 : AFunc := ⟨134, 4, [],
  (.seq (.region false [
 .o 8 (.move (.b true))] [])
 (.seq (.region false [
 .o 9 (.move (.b true))] [])
 (.block 0
 (.loop
 a128_l0))))⟩

def a129 : AFunc := ⟨8, 1, [.tmp 2],
  (.seq (.region false [
 .o 2 (.move (.i 0))] [2])
 (.seq (.cond (.c (.p (.bool false)))
 (.seq (.region false [
 .o 3 (.move (.t 0)),
 .o 4 (.conv .u32 (.t 3)),
 .o 5 (.call false 139 [.t 4]),
 .o 2 (.move (.t 5))] [0, 3, 4, 5])
 .ret)
 .skip)
 (.seq (.region false [
 .o 6 (.move (.t 0)),
 .o 7 (.call false 140 [.t 6]),
 .o 2 (.move (.t 7))] [0, 6, 7])
 .ret)))⟩

@[irreducible] def a130_l0 : ACode :=
  (.seq (.seq (.region true [
 .o 16 (.move (.t 7)),
 .o 17 (.move (.t 1)),
 ⟨some 18, .bin .gtr (.t 16) (.t 17), none, [0, 1]⟩,
 ⟨some 19, .move (.t 18), none, [0, 1, 2]⟩,
 .g 20 19 true (.move (.t 0)) [0, 1, 2, 3],
 .g 21 19 true (.move (.t 7)) [0, 1, 2, 3],
 .g 22 19 true (.indexAddr 1 (.t 20) (.t 21)) [0, 1, 2, 3, 4, 5],
 .g 23 19 true (.load none (.t 22)) [0, 1, 2, 3, 4, 5, 6],
 .g 24 19 true (.move (.t 0)) [0, 1, 2, 3],
 .g 25 19 true (.move (.t 7)) [0, 1, 2, 3],
 .g 26 19 true (.bin .sub (.t 25) (.i 1)) [0, 1, 2, 3, 9],
 .g 27 19 true (.indexAddr 1 (.t 24) (.t 26)) [0, 1, 2, 3, 8, 9, 10],
 .g 28 19 true (.load none (.t 27)) [0, 1, 2, 3, 8, 9, 10, 11],
 .g 29 19 true (.call false 136 [.t 23, .t 28]) [0, 1, 2, 3, 4, 5, 6, 7, 8, 9, 10, 11, 12],
 ⟨some 30, .pick (.t 19) (.t 29) (.b false), none, [0, 1, 2, 3, 4, 5, 6, 7, 8, 9, 10, 11, 12, 13]⟩] [16, 17, 18, 19, 20, 21, 22, 23, 24, 25, 26, 27, 28, 29])
 (.cond (.t 30)
 .skip
 (.ghost (.forget [7, 30]) (.exit 2))))
 (.seq (.block 3
 (.region true [
 .o 33 (.move (.t 0)),
 .o 34 (.move (.t 7)),
 .o 35 (.move (.t 0)),
 .o 36 (.move (.t 7)),
 ⟨some 37, .bin .sub (.t 36) (.i 1), none, [3]⟩,
 .o 38 (.move (.t 0)),
 .o 39 (.move (.t 7)),
 ⟨some 40, .bin .sub (.t 39) (.i 1), none, [6]⟩,
 ⟨some 41, .indexAddr 1 (.t 38) (.t 40), none, [5, 6, 7]⟩,
 ⟨some 42, .load none (.t 41), none, [5, 6, 7, 8]⟩,
 .o 43 (.move (.t 0)),
 .o 44 (.move (.t 7)),
 ⟨some 45, .indexAddr 1 (.t 43) (.t 44), none, [10, 11]⟩,
 ⟨some 46, .load none (.t 45), none, [10, 11, 12]⟩,
 ⟨some 47, .indexAddr 1 (.t 33) (.t 34), none, [0, 1, 5, 6, 7, 8, 9, 10, 11, 12, 13]⟩,
 ⟨none, .store 1 (.t 47) (.t 42), none, [0, 1, 5, 6, 7, 8, 9, 10, 11, 12, 13, 14]⟩,
 ⟨some 48, .indexAddr 1 (.t 35) (.t 37), none, [0, 1, 2, 3, 4, 5, 6, 7, 8, 9, 10, 11, 12, 13, 14, 15]⟩,
 ⟨none, .store 1 (.t 48) (.t 46), none, [0, 1, 2, 3, 4, 5, 6, 7, 8, 9, 10, 11, 12, 13, 14, 15, 16]⟩] [30, 33, 34, 35, 36, 37, 38, 39, 40, 41, 42, 43, 44, 45, 46, 47, 48]))
 (.region false [
 .o 31 (.move (.t 7)),
 .o 32 (.bin .sub (.t 31) (.i 1)),
 .o 7 (.move (.t 32))] [31, 32])))

@[irreducible] def a130_l1 : ACode :=
  (.seq (.seq (.region false [
 .o 10 (.move (.t 6)),
 .o 11 (.move (.t 2)),
 .o 12 (.bin .lss (.t 10) (.t 11))] [10, 11])
 (.cond (.t 12)
 .skip
 (.ghost (.forget [0, 1, 2, 6, 12]) (.exit 0))))
 (.seq (.block 1
 (.seq (.region false [
 .o 15 (.move (.t 6)),
 .o 7 (.move (.t 15))] [12, 15])
 (.block 2
 (.loop
 a130_l0))))
 (.region false [
 .o 13 (.move (.t 6)),
 .o 14 (.bin .add (.t 13) (.i 1)),
 .o 6 (.move (.t 14))] [13, 14])))

def a130 : AFunc := ⟨49, 3, [],
  (.seq (.region false [
 .o 8 (.move (.t 1)),
 .o 9 (.bin .add (.t 8) (.i 1)),
 .o 6 (.move (.t 9))] [8, 9])
 (.block 0
 (.loop
 a130_l1)))⟩

def a136 : AFunc := ⟨17, 2, [.tmp 4],
  (.seq (.region false [
 .o 4 (.move (.b false))] [4])
 (.seq (.region false [
 .o 5 (.move (.t 0)),
 .o 6 (.call false 146 [.t 5]),
 .o 7 (.move (.t 6)),
 .g 8 7 true (.move (.t 1)) [],
 .g 9 7 true (.call false 146 [.t 8]) [],
 .g 10 7 true (.un .not (.t 9)) [],
 .o 11 (.pick (.t 7) (.t 10) (.b false)),
 .o 12 (.move (.t 11)),
 .g 13 12 false (.move (.t 0)) [],
 .g 14 12 false (.move (.t 1)) [],
 .g 15 12 false (.bin .lss (.t 13) (.t 14)) [],
 .o 16 (.pick (.t 12) (.b true) (.t 15)),
 .o 4 (.move (.t 16))] [0, 1, 5, 6, 7, 8, 9, 10, 11, 12, 13, 14, 15, 16])
 .ret))⟩

def a140 : AFunc := ⟨25, 1, [.tmp 2],
  (.seq (.region false [
 .o 2 (.move (.i 0))] [])
 (.seq (.seq (.region false [
 .o 3 (.move (.t 0)),
 .o 4 (.bin .geq (.t 3) (.c (.p (.int .u64 4294967296))))] [3])
 (.cond (.t 4)
 (.seq (.region false [
 .o 5 (.move (.t 0)),
 .o 6 (.bin .shr (.t 5) (.c (.p (.int .u64 32)))),
 .o 0 (.move (.t 6))] [2, 4, 5, 6])
 (.region false [
 .o 2 (.move (.i 32))] []))
 .skip))
 (.seq (.seq (.region false [
 .o 7 (.move (.t 0)),
 .o 8 (.bin .geq (.t 7) (.c (.p (.int .u64 65536))))] [4, 7])
 (.cond (.t 8)
 (.seq (.region false [
 .o 9 (.move (.t 0)),
 .o 10 (.bin .shr (.t 9) (.c (.p (.int .u64 16)))),
 .o 0 (.move (.t 10))] [8, 9, 10])
 (.region false [
 .o 11 (.move (.t 2)),
 .o 12 (.bin .add (.t 11) (.i 16)),
 .o 2 (.move (.t 12))] [11, 12]))
 .skip))
 (.seq (.seq (.region false [
 .o 13 (.move (.t 0)),
 .o 14 (.bin .geq (.t 13) (.c (.p (.int .u64 256))))] [8, 13])
 (.cond (.t 14)
 (.seq (.region false [
 .o 15 (.move (.t 0)),
 .o 16 (.bin .shr (.t 15) (.c (.p (.int .u64 8)))),
 .o 0 (.move (.t 16))] [14, 15, 16])
 (.region false [
 .o 17 (.move (.t 2)),
 .o 18 (.bin .add (.t 17) (.i 8)),
 .o 2 (.move (.t 18))] [17, 18]))
 .skip))
 (.seq (.region false [
 .o 19 (.move (.t 2)),
 .o 20 (.move (.t 0)),
 .o 21 (.conv .u8 (.t 20)),
 .o 22 (.index (.c (.p (.str ⟨#[0, 1, 2, 2, 3, 3, 3, 3, 4, 4, 4, 4, 4, 4, 4, 4, 5, 5, 5, 5, 5, 5, 5, 5, 5, 5, 5, 5, 5, 5, 5, 5, 6, 6, 6, 6, 6, 6, 6, 6, 6, 6, 6, 6, 6, 6, 6, 6, 6, 6, 6, 6, 6, 6, 6, 6, 6, 6, 6, 6, 6, 6, 6, 6, 7, 7, 7, 7, 7, 7, 7, 7, 7, 7, 7, 7, 7, 7, 7, 7, 7, 7, 7, 7, 7, 7, 7, 7, 7, 7, 7, 7, 7, 7, 7, 7, 7, 7, 7, 7, 7, 7, 7, 7, 7, 7, 7, 7, 7, 7, 7, 7, 7, 7, 7, 7, 7, 7, 7, 7, 7, 7, 7, 7, 7, 7, 7, 7, 8, 8, 8, 8, 8, 8, 8, 8, 8, 8, 8, 8, 8, 8, 8, 8, 8, 8, 8, 8, 8, 8, 8, 8, 8, 8, 8, 8, 8, 8, 8, 8, 8, 8, 8, 8, 8, 8, 8, 8, 8, 8, 8, 8, 8, 8, 8, 8, 8, 8, 8, 8, 8, 8, 8, 8, 8, 8, 8, 8, 8, 8, 8, 8, 8, 8, 8, 8, 8, 8, 8, 8, 8, 8, 8, 8, 8, 8, 8, 8, 8, 8, 8, 8, 8, 8, 8, 8, 8, 8, 8, 8, 8, 8, 8, 8, 8, 8, 8, 8, 8, 8, 8, 8, 8, 8, 8, 8, 8, 8, 8, 8, 8, 8, 8, 8, 8, 8, 8, 8, 8, 8, 8, 8, 8, 8, 8, 8]⟩))) (.t 21)),
 .o 23 (.conv .i64 (.t 22)),
 .o 24 (.bin .add (.t 19) (.t 23)),
 .o 2 (.move (.t 24))] [0, 14, 19, 20, 21, 22, 23, 24])
 .ret)))))⟩

def a146 : AFunc := ⟨6, 1, [.tmp 2],
  (.seq (.region false [
 .o 2 (.move (.b false))] [2])
 (.seq (.region false [
 .o 3 (.move (.t 0)),
 .o 4 (.move (.t 0)),
 .o 5 (.bin .neq (.t 3) (.t 4)),
 .o 2 (.move (.t 5))] [0, 3, 4, 5])
 .ret))⟩

end Go.Dv.Tryz
