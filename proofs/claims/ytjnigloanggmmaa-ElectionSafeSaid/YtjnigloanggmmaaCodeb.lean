/-
  The annotated functions of this seat. Printed by wip/gen.py.
-/
import Derived.Test.YtjnigloanggmmaaCode
set_option linter.unusedVariables false
set_option maxRecDepth 100000
namespace Go.Dv.Try
open Go Go.Dv

/-- slices.pdqsortOrdered[int] -/
@[irreducible] def a133_l0 : ACode :=
  (.block 1
  (.seq (.region false [
    ⟨some 19, .move (.t 2), none, []⟩,
    ⟨some 20, .move (.t 1), none, []⟩,
    ⟨some 21, .bin .sub (.t 19) (.t 20), none, []⟩,
    ⟨some 10, .move (.t 21), none, []⟩] [19, 20, 21])
    (.seq (.seq (.region false [
    ⟨some 22, .move (.t 10), none, []⟩,
    ⟨some 23, .bin .leq (.t 22) (.c (.p (.int .i64 12))), none, []⟩] [22])
    (.cond (.t 23)
    (.seq (.region false [
      ⟨some 24, .move (.t 0), none, []⟩,
      ⟨some 25, .move (.t 1), none, []⟩,
      ⟨some 26, .move (.t 2), none, []⟩,
      ⟨some 27, .call true 148 [.t 24, .t 25, .t 26], none, []⟩] [0, 1, 2, 3, 8, 9, 10, 23, 24, 25, 26, 27])
      .ret)
    .skip))
    (.seq (.seq (.region false [
    ⟨some 28, .move (.t 3), none, []⟩,
    ⟨some 29, .bin .eql (.t 28) (.c (.p (.int .i64 0))), none, []⟩] [23, 28])
    (.cond (.t 29)
    (.seq (.region false [
      ⟨some 30, .move (.t 0), none, []⟩,
      ⟨some 31, .move (.t 1), none, []⟩,
      ⟨some 32, .move (.t 2), none, []⟩,
      ⟨some 33, .call true 149 [.t 30, .t 31, .t 32], none, []⟩] [0, 1, 2, 3, 8, 9, 10, 29, 30, 31, 32, 33])
      .ret)
    .skip))
    (.seq (.seq (.region false [
    ⟨some 34, .move (.t 8), none, []⟩,
    ⟨some 35, .un .not (.t 34), none, []⟩] [29, 34])
    (.cond (.t 35)
    (.seq (.region false [
      ⟨some 36, .move (.t 0), none, []⟩,
      ⟨some 37, .move (.t 1), none, []⟩,
      ⟨some 38, .move (.t 2), none, []⟩,
      ⟨some 39, .call false 150 [.t 36, .t 37, .t 38], none, []⟩] [35, 36, 37, 38, 39])
      (.region false [
      ⟨some 40, .move (.t 3), none, []⟩,
      ⟨some 41, .bin .sub (.t 40) (.c (.p (.int .i64 1))), none, []⟩,
      ⟨some 3, .move (.t 41), none, []⟩] [40, 41]))
    .skip))
    (.seq (.region false [
    ⟨some 43, .move (.t 0), none, []⟩,
    ⟨some 44, .move (.t 1), none, []⟩,
    ⟨some 45, .move (.t 2), none, []⟩,
    ⟨some 46, .call false 151 [.t 43, .t 44, .t 45], none, []⟩,
    ⟨some 42, .move (.t 46), none, []⟩,
    ⟨some 47, .extract (.t 42) 0, none, []⟩,
    ⟨some 48, .extract (.t 42) 1, none, []⟩,
    ⟨some 11, .move (.t 47), none, []⟩,
    ⟨some 12, .move (.t 48), none, []⟩] [35, 42, 43, 44, 45, 46, 47, 48])
    (.seq (.seq (.region false [
    ⟨some 49, .move (.t 12), none, []⟩,
    ⟨some 50, .bin .eql (.t 49) (.c (.p (.int .i64 2))), none, []⟩] [49])
    (.cond (.t 50)
    (.seq (.region false [
      ⟨some 51, .move (.t 0), none, []⟩,
      ⟨some 52, .move (.t 1), none, []⟩,
      ⟨some 53, .move (.t 2), none, []⟩,
      ⟨some 54, .call false 152 [.t 51, .t 52, .t 53], none, []⟩] [12, 50, 51, 52, 53, 54])
      (.seq (.region false [
      ⟨some 55, .move (.t 2), none, []⟩,
      ⟨some 56, .bin .sub (.t 55) (.c (.p (.int .i64 1))), none, []⟩,
      ⟨some 57, .move (.t 11), none, []⟩,
      ⟨some 58, .move (.t 1), none, []⟩,
      ⟨some 59, .bin .sub (.t 57) (.t 58), none, []⟩,
      ⟨some 60, .bin .sub (.t 56) (.t 59), none, []⟩,
      ⟨some 11, .move (.t 60), none, []⟩] [55, 56, 57, 58, 59, 60])
      (.region false [
      ⟨some 12, .move (.c (.p (.int .i64 1))), none, []⟩] [])))
    .skip))
    (.seq (.seq (.region false [
    ⟨some 61, .move (.t 8), none, []⟩,
    ⟨some 62, .move (.t 61), none, []⟩,
    ⟨some 63, .move (.t 9), some (62, true), []⟩,
    ⟨some 64, .pick (.t 62) (.t 63) (.c (.p (.bool false))), none, []⟩,
    ⟨some 65, .move (.t 64), none, []⟩,
    ⟨some 66, .move (.t 12), some (65, true), []⟩,
    ⟨some 67, .bin .eql (.t 66) (.c (.p (.int .i64 1))), some (65, true), []⟩,
    ⟨some 68, .pick (.t 65) (.t 67) (.c (.p (.bool false))), none, []⟩] [12, 50, 61, 62, 63, 64, 65, 66, 67])
    (.cond (.t 68)
    (.seq (.region false [
      ⟨some 69, .move (.t 0), none, []⟩,
      ⟨some 70, .move (.t 1), none, []⟩,
      ⟨some 71, .move (.t 2), none, []⟩,
      ⟨some 72, .call false 153 [.t 69, .t 70, .t 71], none, []⟩] [68, 69, 70, 71])
      (.cond (.t 72)
      .ret
      .skip))
    .skip))
    (.seq (.seq (.region true [
    ⟨some 73, .move (.t 1), none, []⟩,
    ⟨some 74, .bin .gtr (.t 73) (.c (.p (.int .i64 0))), none, [0]⟩,
    ⟨some 75, .move (.t 74), none, [0, 1]⟩,
    ⟨some 76, .move (.t 0), some (75, true), [0, 1, 2]⟩,
    ⟨some 77, .move (.t 1), some (75, true), [0, 1, 2]⟩,
    ⟨some 78, .bin .sub (.t 77) (.c (.p (.int .i64 1))), some (75, true), [0, 1, 2, 4]⟩,
    ⟨some 79, .indexAddr 1 (.t 76) (.t 78), some (75, true), [0, 1, 2, 3, 4, 5]⟩,
    ⟨some 80, .load none (.t 79), some (75, true), [0, 1, 2, 3, 4, 5, 6]⟩,
    ⟨some 81, .move (.t 0), some (75, true), [0, 1, 2]⟩,
    ⟨some 82, .move (.t 11), some (75, true), [0, 1, 2]⟩,
    ⟨some 83, .indexAddr 1 (.t 81) (.t 82), some (75, true), [0, 1, 2, 8, 9]⟩,
    ⟨some 84, .load none (.t 83), some (75, true), [0, 1, 2, 8, 9, 10]⟩,
    ⟨some 85, .call false 154 [.t 80, .t 84], some (75, true), [0, 1, 2, 3, 4, 5, 6, 7, 8, 9, 10, 11]⟩,
    ⟨some 86, .un .not (.t 85), some (75, true), [0, 1, 2, 3, 4, 5, 6, 7, 8, 9, 10, 11, 12]⟩,
    ⟨some 87, .pick (.t 75) (.t 86) (.c (.p (.bool false))), none, [0, 1, 2, 3, 4, 5, 6, 7, 8, 9, 10, 11, 12, 13]⟩] [68, 72, 73, 74, 75, 76, 77, 78, 79, 80, 81, 82, 83, 84, 85, 86])
    (.cond (.t 87)
    (.seq (.region false [
      ⟨some 88, .move (.t 0), none, []⟩,
      ⟨some 89, .move (.t 1), none, []⟩,
      ⟨some 90, .move (.t 2), none, []⟩,
      ⟨some 91, .move (.t 11), none, []⟩,
      ⟨some 92, .call false 155 [.t 88, .t 89, .t 90, .t 91], none, []⟩,
      ⟨some 13, .move (.t 92), none, []⟩] [1, 10, 11, 87, 88, 89, 90, 91, 92])
      (.seq (.region false [
      ⟨some 93, .move (.t 13), none, []⟩,
      ⟨some 1, .move (.t 93), none, []⟩] [13, 93])
      (.exit 1)))
    .skip))
    (.seq (.region false [
    ⟨some 95, .move (.t 0), none, []⟩,
    ⟨some 96, .move (.t 1), none, []⟩,
    ⟨some 97, .move (.t 2), none, []⟩,
    ⟨some 98, .move (.t 11), none, []⟩,
    ⟨some 99, .call false 156 [.t 95, .t 96, .t 97, .t 98], none, []⟩,
    ⟨some 94, .move (.t 99), none, []⟩,
    ⟨some 100, .extract (.t 94) 0, none, []⟩,
    ⟨some 101, .extract (.t 94) 1, none, []⟩,
    ⟨some 14, .move (.t 100), none, []⟩,
    ⟨some 15, .move (.t 101), none, []⟩] [8, 9, 11, 87, 94, 95, 96, 97, 98, 99, 100, 101])
    (.seq (.region false [
    ⟨some 102, .move (.t 15), none, []⟩,
    ⟨some 9, .move (.t 102), none, []⟩] [15, 102])
    (.seq (.region false [
    ⟨some 103, .move (.t 14), none, []⟩,
    ⟨some 104, .move (.t 1), none, []⟩,
    ⟨some 105, .bin .sub (.t 103) (.t 104), none, []⟩,
    ⟨some 106, .move (.t 2), none, []⟩,
    ⟨some 107, .move (.t 14), none, []⟩,
    ⟨some 108, .bin .sub (.t 106) (.t 107), none, []⟩,
    ⟨some 16, .move (.t 105), none, []⟩,
    ⟨some 17, .move (.t 108), none, []⟩] [103, 104, 105, 106, 107, 108])
    (.seq (.region false [
    ⟨some 109, .move (.t 10), none, []⟩,
    ⟨some 110, .bin .quo (.t 109) (.c (.p (.int .i64 8))), none, []⟩,
    ⟨some 18, .move (.t 110), none, []⟩] [10, 109, 110])
    (.seq (.region false [
    ⟨some 111, .move (.t 16), none, []⟩,
    ⟨some 112, .move (.t 17), none, []⟩,
    ⟨some 113, .bin .lss (.t 111) (.t 112), none, []⟩] [111, 112])
    (.cond (.t 113)
    (.seq (.region false [
      ⟨some 114, .move (.t 16), none, []⟩,
      ⟨some 115, .move (.t 18), none, []⟩,
      ⟨some 116, .bin .geq (.t 114) (.t 115), none, []⟩,
      ⟨some 8, .move (.t 116), none, []⟩] [16, 17, 18, 113, 114, 115, 116])
      (.seq (.region false [
      ⟨some 117, .move (.t 0), none, []⟩,
      ⟨some 118, .move (.t 1), none, []⟩,
      ⟨some 119, .move (.t 14), none, []⟩,
      ⟨some 120, .move (.t 3), none, []⟩,
      ⟨some 121, .call true 133 [.t 117, .t 118, .t 119, .t 120], none, []⟩] [1, 117, 118, 119, 120, 121])
      (.region false [
      ⟨some 122, .move (.t 14), none, []⟩,
      ⟨some 123, .bin .add (.t 122) (.c (.p (.int .i64 1))), none, []⟩,
      ⟨some 1, .move (.t 123), none, []⟩] [14, 122, 123])))
    (.seq (.region false [
      ⟨some 124, .move (.t 17), none, []⟩,
      ⟨some 125, .move (.t 18), none, []⟩,
      ⟨some 126, .bin .geq (.t 124) (.t 125), none, []⟩,
      ⟨some 8, .move (.t 126), none, []⟩] [16, 17, 18, 113, 124, 125, 126])
      (.seq (.region false [
      ⟨some 127, .move (.t 0), none, []⟩,
      ⟨some 128, .move (.t 14), none, []⟩,
      ⟨some 129, .bin .add (.t 128) (.c (.p (.int .i64 1))), none, []⟩,
      ⟨some 130, .move (.t 2), none, []⟩,
      ⟨some 131, .move (.t 3), none, []⟩,
      ⟨some 132, .call true 133 [.t 127, .t 129, .t 130, .t 131], none, []⟩] [2, 127, 128, 129, 130, 131, 132])
      (.region false [
      ⟨some 133, .move (.t 14), none, []⟩,
      ⟨some 2, .move (.t 133), none, []⟩] [14, 133]))))))))))))))))))

def a133 : AFunc := ⟨134, 4, [],
  (.seq (.region false [
  ⟨some 8, .move (.c (.p (.bool true))), none, []⟩] [])
  (.seq (.region false [
  ⟨some 9, .move (.c (.p (.bool true))), none, []⟩] [])
  (.block 0
  (.loop
    a133_l0))))⟩

/-- math/bits.Len -/
def a134 : AFunc := ⟨8, 1, [.tmp 2],
  (.seq (.region false [
  ⟨some 2, .move (.c (.p (.int .i64 0))), none, []⟩] [2])
  (.seq (.cond (.c (.p (.bool false)))
  (.seq (.region false [
    ⟨some 3, .move (.t 0), none, []⟩,
    ⟨some 4, .conv .u32 (.t 3), none, []⟩,
    ⟨some 5, .call false 157 [.t 4], none, []⟩,
    ⟨some 2, .move (.t 5), none, []⟩] [0, 3, 4, 5])
    .ret)
  .skip)
  (.seq (.region false [
  ⟨some 6, .move (.t 0), none, []⟩,
  ⟨some 7, .call false 158 [.t 6], none, []⟩,
  ⟨some 2, .move (.t 7), none, []⟩] [0, 6, 7])
  .ret)))⟩

/-- clockwork/replicate.stored -/
@[irreducible] def a135_l0 : ACode :=
  (.seq (.region false [
  ⟨some 12, .bin .lss (.t 11) (.t 10), none, []⟩] [])
  (.seq (.cond (.t 12)
  .skip
  (.ghost (.forget [1, 9, 10, 11, 12]) (.ghost .lower (.exit 0))))
  (.seq (.block 1
  (.seq (.region false [
    ⟨some 13, .indexAddr 1 (.t 9) (.t 11), none, []⟩,
    ⟨some 14, .load none (.t 13), none, []⟩,
    ⟨some 7, .move (.t 14), none, []⟩] [12, 13, 14])
    (.seq (.region false [
    ⟨some 15, .move (.t 7), none, []⟩,
    ⟨some 16, .move (.t 1), none, []⟩,
    ⟨some 17, .bin .geq (.t 15) (.t 16), none, []⟩] [7, 15, 16])
    (.cond (.t 17)
    (.region false [
      ⟨some 18, .move (.t 5), none, []⟩,
      ⟨some 19, .bin .add (.t 18) (.c (.p (.int .i64 1))), none, []⟩,
      ⟨some 5, .move (.t 19), none, []⟩] [17, 18, 19])
    .skip))))
  (.region false [
  ⟨some 20, .bin .add (.t 11) (.c (.p (.int .i64 1))), none, []⟩,
  ⟨some 11, .move (.t 20), none, []⟩] [17, 20]))))

def a135 : AFunc := ⟨22, 2, [.tmp 4],
  (.seq (.region false [
  ⟨some 2, .box (.t 0), none, []⟩,
  ⟨some 4, .move (.c (.p (.int .i64 0))), none, []⟩] [0, 4])
  (.seq (.region false [
  ⟨some 5, .move (.c (.p (.int .i64 0))), none, []⟩] [])
  (.seq (.seq (.region false [
  ⟨some 8, .fieldAddr 9 (.t 2), none, []⟩,
  ⟨some 9, .load none (.t 8), none, []⟩,
  ⟨some 10, .len (.t 9), none, []⟩,
  ⟨some 11, .move (.c (.p (.int .i64 0))), none, []⟩] [8])
  (.block 0
  (.loop
    (.ghost (.free [2]) (.ghost .lower a135_l0)))))
  (.seq (.region false [
  ⟨some 21, .move (.t 5), none, []⟩,
  ⟨some 4, .move (.t 21), none, []⟩] [5, 21])
  .ret))))⟩

/-- clockwork/network.within -/
def a145 : AFunc := ⟨15, 3, [.tmp 6],
  (.seq (.region false [
  ⟨some 6, .move (.c (.p (.bool false))), none, []⟩] [6])
  (.seq (.region false [
  ⟨some 7, .move (.t 0), none, []⟩,
  ⟨some 8, .move (.t 1), none, []⟩,
  ⟨some 9, .bin .geq (.t 7) (.t 8), none, []⟩,
  ⟨some 10, .move (.t 9), none, []⟩,
  ⟨some 11, .move (.t 0), some (10, true), []⟩,
  ⟨some 12, .move (.t 2), some (10, true), []⟩,
  ⟨some 13, .bin .leq (.t 11) (.t 12), some (10, true), []⟩,
  ⟨some 14, .pick (.t 10) (.t 13) (.c (.p (.bool false))), none, []⟩,
  ⟨some 6, .move (.t 14), none, []⟩] [0, 1, 2, 7, 8, 9, 10, 11, 12, 13, 14])
  .ret))⟩

/-- clockwork/network.validItems -/
@[irreducible] def a146_l0 : ACode :=
  (.seq (.region false [
  ⟨some 11, .bin .lss (.t 10) (.t 9), none, []⟩] [])
  (.seq (.cond (.t 11)
  .skip
  (.ghost (.forget [8, 9, 10, 11]) (.ghost .lower (.exit 0))))
  (.seq (.block 1
  (.seq (.region false [
    ⟨some 12, .indexAddr 2 (.t 8) (.t 10), none, []⟩,
    ⟨some 13, .load (some 2) (.t 12), none, []⟩,
    ⟨some 4, .alloc [.int .i64 0, .str ⟨#[]⟩], none, []⟩,
    ⟨none, .store 2 (.t 4) (.t 13), none, []⟩] [11, 12, 13])
    (.seq (.region false [
    ⟨some 14, .fieldAddr 0 (.t 4), none, []⟩,
    ⟨some 15, .load none (.t 14), none, []⟩,
    ⟨some 16, .call false 145 [.t 15, .c (.p (.int .i64 1)), .c (.p (.int .i64 1099511627776))], none, []⟩,
    ⟨some 17, .un .not (.t 16), none, []⟩,
    ⟨some 18, .move (.t 17), none, []⟩,
    ⟨some 19, .fieldAddr 1 (.t 4), some (18, false), []⟩,
    ⟨some 20, .load none (.t 19), some (18, false), []⟩,
    ⟨some 21, .lenS (.t 20), some (18, false), []⟩,
    ⟨some 22, .bin .gtr (.t 21) (.c (.p (.int .i64 4096))), some (18, false), []⟩,
    ⟨some 23, .pick (.t 18) (.c (.p (.bool true))) (.t 22), none, []⟩] [14, 15, 16, 17, 18, 19, 20, 21, 22])
    (.cond (.t 23)
    (.seq (.region false [
      ⟨some 2, .move (.c (.p (.bool false))), none, []⟩] [8, 9, 10, 23])
      .ret)
    .skip))))
  (.region false [
  ⟨some 24, .bin .add (.t 10) (.c (.p (.int .i64 1))), none, []⟩,
  ⟨some 10, .move (.t 24), none, []⟩] [23, 24]))))

def a146 : AFunc := ⟨25, 1, [.tmp 2],
  (.seq (.region false [
  ⟨some 2, .move (.c (.p (.bool false))), none, []⟩] [2])
  (.seq (.seq (.region false [
  ⟨some 5, .move (.t 0), none, []⟩,
  ⟨some 6, .len (.t 5), none, []⟩,
  ⟨some 7, .bin .gtr (.t 6) (.c (.p (.int .i64 256))), none, []⟩] [5, 6])
  (.cond (.t 7)
  (.seq (.region false [
    ⟨some 2, .move (.c (.p (.bool false))), none, []⟩] [0, 7])
    .ret)
  .skip))
  (.seq (.seq (.region false [
  ⟨some 8, .move (.t 0), none, []⟩,
  ⟨some 9, .len (.t 8), none, []⟩,
  ⟨some 10, .move (.c (.p (.int .i64 0))), none, []⟩] [0, 7])
  (.block 0
  (.loop
    (.ghost (.free [4]) (.ghost .lower a146_l0)))))
  (.seq (.region false [
  ⟨some 2, .move (.c (.p (.bool true))), none, []⟩] [])
  .ret))))⟩

/-- clockwork/network.plain -/
def a147 : AFunc := ⟨63, 1, [.tmp 2],
  (.seq (.region false [
  ⟨some 1, .box (.t 0), none, []⟩,
  ⟨some 2, .move (.c (.p (.bool false))), none, []⟩] [0, 2])
  (.seq (.seq (.region false [
  ⟨some 3, .fieldAddr 0 (.t 1), none, []⟩,
  ⟨some 4, .load none (.t 3), none, []⟩] [3])
  (.block 0
  (.seq (.region false [
    ⟨some 6, .bin .eql (.t 4) (.c (.p (.int .i64 1))), none, []⟩,
    ⟨some 5, .move (.t 6), none, []⟩] [6])
    (.cond (.t 5)
    (.seq (.region false [
      ⟨some 7, .fieldAddr 6 (.t 1), none, []⟩,
      ⟨some 8, .load none (.t 7), none, []⟩,
      ⟨some 9, .bin .eql (.t 8) (.c (.p (.int .i64 0))), none, []⟩,
      ⟨some 10, .move (.t 9), none, []⟩,
      ⟨some 11, .fieldAddr 7 (.t 1), some (10, true), []⟩,
      ⟨some 12, .load none (.t 11), some (10, true), []⟩,
      ⟨some 13, .un .not (.t 12), some (10, true), []⟩,
      ⟨some 14, .pick (.t 10) (.t 13) (.c (.p (.bool false))), none, []⟩,
      ⟨some 15, .move (.t 14), none, []⟩,
      ⟨some 16, .fieldAddr 8 (.t 1), some (15, true), []⟩,
      ⟨some 17, .load none (.t 16), some (15, true), []⟩,
      ⟨some 18, .len (.t 17), some (15, true), []⟩,
      ⟨some 19, .bin .eql (.t 18) (.c (.p (.int .i64 0))), some (15, true), []⟩,
      ⟨some 20, .pick (.t 15) (.t 19) (.c (.p (.bool false))), none, []⟩,
      ⟨some 2, .move (.t 20), none, []⟩] [4, 5, 7, 8, 9, 10, 11, 12, 13, 14, 15, 16, 17, 18, 19, 20])
      .ret)
    (.seq (.region false [
      ⟨some 22, .bin .eql (.t 4) (.c (.p (.int .i64 2))), none, []⟩,
      ⟨some 21, .move (.t 22), none, []⟩] [5, 22])
      (.cond (.t 21)
      (.seq (.region false [
        ⟨some 23, .fieldAddr 4 (.t 1), none, []⟩,
        ⟨some 24, .load none (.t 23), none, []⟩,
        ⟨some 25, .bin .eql (.t 24) (.c (.p (.int .i64 0))), none, []⟩,
        ⟨some 26, .move (.t 25), none, []⟩,
        ⟨some 27, .fieldAddr 5 (.t 1), some (26, true), []⟩,
        ⟨some 28, .load none (.t 27), some (26, true), []⟩,
        ⟨some 29, .bin .eql (.t 28) (.c (.p (.int .i64 0))), some (26, true), []⟩,
        ⟨some 30, .pick (.t 26) (.t 29) (.c (.p (.bool false))), none, []⟩,
        ⟨some 31, .move (.t 30), none, []⟩,
        ⟨some 32, .fieldAddr 6 (.t 1), some (31, true), []⟩,
        ⟨some 33, .load none (.t 32), some (31, true), []⟩,
        ⟨some 34, .bin .eql (.t 33) (.c (.p (.int .i64 0))), some (31, true), []⟩,
        ⟨some 35, .pick (.t 31) (.t 34) (.c (.p (.bool false))), none, []⟩,
        ⟨some 36, .move (.t 35), none, []⟩,
        ⟨some 37, .fieldAddr 8 (.t 1), some (36, true), []⟩,
        ⟨some 38, .load none (.t 37), some (36, true), []⟩,
        ⟨some 39, .len (.t 38), some (36, true), []⟩,
        ⟨some 40, .bin .eql (.t 39) (.c (.p (.int .i64 0))), some (36, true), []⟩,
        ⟨some 41, .pick (.t 36) (.t 40) (.c (.p (.bool false))), none, []⟩,
        ⟨some 2, .move (.t 41), none, []⟩] [4, 21, 23, 24, 25, 26, 27, 28, 29, 30, 31, 32, 33, 34, 35, 36, 37, 38, 39, 40, 41])
        .ret)
      (.seq (.region false [
        ⟨some 43, .bin .eql (.t 4) (.c (.p (.int .i64 3))), none, []⟩,
        ⟨some 42, .move (.t 43), none, []⟩] [21, 43])
        (.cond (.t 42)
        (.seq (.region false [
          ⟨some 44, .fieldAddr 7 (.t 1), none, []⟩,
          ⟨some 45, .load none (.t 44), none, []⟩,
          ⟨some 46, .un .not (.t 45), none, []⟩,
          ⟨some 2, .move (.t 46), none, []⟩] [4, 42, 44, 45, 46])
          .ret)
        (.seq (.region false [
          ⟨some 48, .bin .eql (.t 4) (.c (.p (.int .i64 4))), none, []⟩,
          ⟨some 47, .move (.t 48), none, []⟩] [4, 42, 48])
          (.cond (.t 47)
          (.seq (.region false [
            ⟨some 49, .fieldAddr 5 (.t 1), none, []⟩,
            ⟨some 50, .load none (.t 49), none, []⟩,
            ⟨some 51, .bin .eql (.t 50) (.c (.p (.int .i64 0))), none, []⟩,
            ⟨some 52, .move (.t 51), none, []⟩,
            ⟨some 53, .fieldAddr 6 (.t 1), some (52, true), []⟩,
            ⟨some 54, .load none (.t 53), some (52, true), []⟩,
            ⟨some 55, .bin .eql (.t 54) (.c (.p (.int .i64 0))), some (52, true), []⟩,
            ⟨some 56, .pick (.t 52) (.t 55) (.c (.p (.bool false))), none, []⟩,
            ⟨some 57, .move (.t 56), none, []⟩,
            ⟨some 58, .fieldAddr 8 (.t 1), some (57, true), []⟩,
            ⟨some 59, .load none (.t 58), some (57, true), []⟩,
            ⟨some 60, .len (.t 59), some (57, true), []⟩,
            ⟨some 61, .bin .eql (.t 60) (.c (.p (.int .i64 0))), some (57, true), []⟩,
            ⟨some 62, .pick (.t 57) (.t 61) (.c (.p (.bool false))), none, []⟩,
            ⟨some 2, .move (.t 62), none, []⟩] [47, 49, 50, 51, 52, 53, 54, 55, 56, 57, 58, 59, 60, 61, 62])
            .ret)
          .skip))))))))))
  (.seq (.region false [
  ⟨some 2, .move (.c (.p (.bool false))), none, []⟩] [47])
  .ret)))⟩

/-- slices.insertionSortOrdered[int] -/
@[irreducible] def a148_l0 : ACode :=
  (.seq (.seq (.region true [
  ⟨some 16, .move (.t 7), none, []⟩,
  ⟨some 17, .move (.t 1), none, []⟩,
  ⟨some 18, .bin .gtr (.t 16) (.t 17), none, [0, 1]⟩,
  ⟨some 19, .move (.t 18), none, [0, 1, 2]⟩,
  ⟨some 20, .move (.t 0), some (19, true), [0, 1, 2, 3]⟩,
  ⟨some 21, .move (.t 7), some (19, true), [0, 1, 2, 3]⟩,
  ⟨some 22, .indexAddr 1 (.t 20) (.t 21), some (19, true), [0, 1, 2, 3, 4, 5]⟩,
  ⟨some 23, .load none (.t 22), some (19, true), [0, 1, 2, 3, 4, 5, 6]⟩,
  ⟨some 24, .move (.t 0), some (19, true), [0, 1, 2, 3]⟩,
  ⟨some 25, .move (.t 7), some (19, true), [0, 1, 2, 3]⟩,
  ⟨some 26, .bin .sub (.t 25) (.c (.p (.int .i64 1))), some (19, true), [0, 1, 2, 3, 9]⟩,
  ⟨some 27, .indexAddr 1 (.t 24) (.t 26), some (19, true), [0, 1, 2, 3, 8, 9, 10]⟩,
  ⟨some 28, .load none (.t 27), some (19, true), [0, 1, 2, 3, 8, 9, 10, 11]⟩,
  ⟨some 29, .call false 154 [.t 23, .t 28], some (19, true), [0, 1, 2, 3, 4, 5, 6, 7, 8, 9, 10, 11, 12]⟩,
  ⟨some 30, .pick (.t 19) (.t 29) (.c (.p (.bool false))), none, [0, 1, 2, 3, 4, 5, 6, 7, 8, 9, 10, 11, 12, 13]⟩] [16, 17, 18, 19, 20, 21, 22, 23, 24, 25, 26, 27, 28, 29])
  (.cond (.t 30)
  .skip
  (.ghost (.forget [7, 30]) (.exit 2))))
  (.seq (.block 3
  (.region true [
    ⟨some 33, .move (.t 0), none, []⟩,
    ⟨some 34, .move (.t 7), none, []⟩,
    ⟨some 35, .move (.t 0), none, []⟩,
    ⟨some 36, .move (.t 7), none, []⟩,
    ⟨some 37, .bin .sub (.t 36) (.c (.p (.int .i64 1))), none, [3]⟩,
    ⟨some 38, .move (.t 0), none, []⟩,
    ⟨some 39, .move (.t 7), none, []⟩,
    ⟨some 40, .bin .sub (.t 39) (.c (.p (.int .i64 1))), none, [6]⟩,
    ⟨some 41, .indexAddr 1 (.t 38) (.t 40), none, [5, 6, 7]⟩,
    ⟨some 42, .load none (.t 41), none, [5, 6, 7, 8]⟩,
    ⟨some 43, .move (.t 0), none, []⟩,
    ⟨some 44, .move (.t 7), none, []⟩,
    ⟨some 45, .indexAddr 1 (.t 43) (.t 44), none, [10, 11]⟩,
    ⟨some 46, .load none (.t 45), none, [10, 11, 12]⟩,
    ⟨some 47, .indexAddr 1 (.t 33) (.t 34), none, [0, 1, 5, 6, 7, 8, 9, 10, 11, 12, 13]⟩,
    ⟨none, .store 1 (.t 47) (.t 42), none, [0, 1, 5, 6, 7, 8, 9, 10, 11, 12, 13, 14]⟩,
    ⟨some 48, .indexAddr 1 (.t 35) (.t 37), none, [0, 1, 2, 3, 4, 5, 6, 7, 8, 9, 10, 11, 12, 13, 14, 15]⟩,
    ⟨none, .store 1 (.t 48) (.t 46), none, [0, 1, 2, 3, 4, 5, 6, 7, 8, 9, 10, 11, 12, 13, 14, 15, 16]⟩] [30, 33, 34, 35, 36, 37, 38, 39, 40, 41, 42, 43, 44, 45, 46, 47, 48]))
  (.region false [
  ⟨some 31, .move (.t 7), none, []⟩,
  ⟨some 32, .bin .sub (.t 31) (.c (.p (.int .i64 1))), none, []⟩,
  ⟨some 7, .move (.t 32), none, []⟩] [31, 32])))

@[irreducible] def a148_l1 : ACode :=
  (.seq (.seq (.region false [
  ⟨some 10, .move (.t 6), none, []⟩,
  ⟨some 11, .move (.t 2), none, []⟩,
  ⟨some 12, .bin .lss (.t 10) (.t 11), none, []⟩] [10, 11])
  (.cond (.t 12)
  .skip
  (.ghost (.forget [0, 1, 2, 6, 12]) (.exit 0))))
  (.seq (.block 1
  (.seq (.region false [
    ⟨some 15, .move (.t 6), none, []⟩,
    ⟨some 7, .move (.t 15), none, []⟩] [12, 15])
    (.block 2
    (.loop
      a148_l0))))
  (.region false [
  ⟨some 13, .move (.t 6), none, []⟩,
  ⟨some 14, .bin .add (.t 13) (.c (.p (.int .i64 1))), none, []⟩,
  ⟨some 6, .move (.t 14), none, []⟩] [13, 14])))

def a148 : AFunc := ⟨49, 3, [],
  (.seq (.region false [
  ⟨some 8, .move (.t 1), none, []⟩,
  ⟨some 9, .bin .add (.t 8) (.c (.p (.int .i64 1))), none, []⟩,
  ⟨some 6, .move (.t 9), none, []⟩] [8, 9])
  (.block 0
  (.loop
    a148_l1)))⟩

/-- cmp.Less[int] -/
def a154 : AFunc := ⟨17, 2, [.tmp 4],
  (.seq (.region false [
  ⟨some 4, .move (.c (.p (.bool false))), none, []⟩] [4])
  (.seq (.region false [
  ⟨some 5, .move (.t 0), none, []⟩,
  ⟨some 6, .call false 164 [.t 5], none, []⟩,
  ⟨some 7, .move (.t 6), none, []⟩,
  ⟨some 8, .move (.t 1), some (7, true), []⟩,
  ⟨some 9, .call false 164 [.t 8], some (7, true), []⟩,
  ⟨some 10, .un .not (.t 9), some (7, true), []⟩,
  ⟨some 11, .pick (.t 7) (.t 10) (.c (.p (.bool false))), none, []⟩,
  ⟨some 12, .move (.t 11), none, []⟩,
  ⟨some 13, .move (.t 0), some (12, false), []⟩,
  ⟨some 14, .move (.t 1), some (12, false), []⟩,
  ⟨some 15, .bin .lss (.t 13) (.t 14), some (12, false), []⟩,
  ⟨some 16, .pick (.t 12) (.c (.p (.bool true))) (.t 15), none, []⟩,
  ⟨some 4, .move (.t 16), none, []⟩] [0, 1, 5, 6, 7, 8, 9, 10, 11, 12, 13, 14, 15, 16])
  .ret))⟩

/-- math/bits.Len64 -/
def a158 : AFunc := ⟨25, 1, [.tmp 2],
  (.seq (.region false [
  ⟨some 2, .move (.c (.p (.int .i64 0))), none, []⟩] [])
  (.seq (.seq (.region false [
  ⟨some 3, .move (.t 0), none, []⟩,
  ⟨some 4, .bin .geq (.t 3) (.c (.p (.int .u64 4294967296))), none, []⟩] [3])
  (.cond (.t 4)
  (.seq (.region false [
    ⟨some 5, .move (.t 0), none, []⟩,
    ⟨some 6, .bin .shr (.t 5) (.c (.p (.int .u64 32))), none, []⟩,
    ⟨some 0, .move (.t 6), none, []⟩] [2, 4, 5, 6])
    (.region false [
    ⟨some 2, .move (.c (.p (.int .i64 32))), none, []⟩] []))
  .skip))
  (.seq (.seq (.region false [
  ⟨some 7, .move (.t 0), none, []⟩,
  ⟨some 8, .bin .geq (.t 7) (.c (.p (.int .u64 65536))), none, []⟩] [4, 7])
  (.cond (.t 8)
  (.seq (.region false [
    ⟨some 9, .move (.t 0), none, []⟩,
    ⟨some 10, .bin .shr (.t 9) (.c (.p (.int .u64 16))), none, []⟩,
    ⟨some 0, .move (.t 10), none, []⟩] [8, 9, 10])
    (.region false [
    ⟨some 11, .move (.t 2), none, []⟩,
    ⟨some 12, .bin .add (.t 11) (.c (.p (.int .i64 16))), none, []⟩,
    ⟨some 2, .move (.t 12), none, []⟩] [11, 12]))
  .skip))
  (.seq (.seq (.region false [
  ⟨some 13, .move (.t 0), none, []⟩,
  ⟨some 14, .bin .geq (.t 13) (.c (.p (.int .u64 256))), none, []⟩] [8, 13])
  (.cond (.t 14)
  (.seq (.region false [
    ⟨some 15, .move (.t 0), none, []⟩,
    ⟨some 16, .bin .shr (.t 15) (.c (.p (.int .u64 8))), none, []⟩,
    ⟨some 0, .move (.t 16), none, []⟩] [14, 15, 16])
    (.region false [
    ⟨some 17, .move (.t 2), none, []⟩,
    ⟨some 18, .bin .add (.t 17) (.c (.p (.int .i64 8))), none, []⟩,
    ⟨some 2, .move (.t 18), none, []⟩] [17, 18]))
  .skip))
  (.seq (.region false [
  ⟨some 19, .move (.t 2), none, []⟩,
  ⟨some 20, .move (.t 0), none, []⟩,
  ⟨some 21, .conv .u8 (.t 20), none, []⟩,
  ⟨some 22, .index (.c (.p (.str ⟨#[0, 1, 2, 2, 3, 3, 3, 3, 4, 4, 4, 4, 4, 4, 4, 4, 5, 5, 5, 5, 5, 5, 5, 5, 5, 5, 5, 5, 5, 5, 5, 5, 6, 6, 6, 6, 6, 6, 6, 6, 6, 6, 6, 6, 6, 6, 6, 6, 6, 6, 6, 6, 6, 6, 6, 6, 6, 6, 6, 6, 6, 6, 6, 6, 7, 7, 7, 7, 7, 7, 7, 7, 7, 7, 7, 7, 7, 7, 7, 7, 7, 7, 7, 7, 7, 7, 7, 7, 7, 7, 7, 7, 7, 7, 7, 7, 7, 7, 7, 7, 7, 7, 7, 7, 7, 7, 7, 7, 7, 7, 7, 7, 7, 7, 7, 7, 7, 7, 7, 7, 7, 7, 7, 7, 7, 7, 7, 7, 8, 8, 8, 8, 8, 8, 8, 8, 8, 8, 8, 8, 8, 8, 8, 8, 8, 8, 8, 8, 8, 8, 8, 8, 8, 8, 8, 8, 8, 8, 8, 8, 8, 8, 8, 8, 8, 8, 8, 8, 8, 8, 8, 8, 8, 8, 8, 8, 8, 8, 8, 8, 8, 8, 8, 8, 8, 8, 8, 8, 8, 8, 8, 8, 8, 8, 8, 8, 8, 8, 8, 8, 8, 8, 8, 8, 8, 8, 8, 8, 8, 8, 8, 8, 8, 8, 8, 8, 8, 8, 8, 8, 8, 8, 8, 8, 8, 8, 8, 8, 8, 8, 8, 8, 8, 8, 8, 8, 8, 8, 8, 8, 8, 8, 8, 8, 8, 8, 8, 8, 8, 8, 8, 8, 8, 8, 8, 8]⟩))) (.t 21), none, []⟩,
  ⟨some 23, .conv .i64 (.t 22), none, []⟩,
  ⟨some 24, .bin .add (.t 19) (.t 23), none, []⟩,
  ⟨some 2, .move (.t 24), none, []⟩] [0, 14, 19, 20, 21, 22, 23, 24])
  .ret)))))⟩

/-- cmp.isNaN[int] -/
def a164 : AFunc := ⟨6, 1, [.tmp 2],
  (.seq (.region false [
  ⟨some 2, .move (.c (.p (.bool false))), none, []⟩] [2])
  (.seq (.region false [
  ⟨some 3, .move (.t 0), none, []⟩,
  ⟨some 4, .move (.t 0), none, []⟩,
  ⟨some 5, .bin .neq (.t 3) (.t 4), none, []⟩,
  ⟨some 2, .move (.t 5), none, []⟩] [0, 3, 4, 5])
  .ret))⟩


end Go.Dv.Try
