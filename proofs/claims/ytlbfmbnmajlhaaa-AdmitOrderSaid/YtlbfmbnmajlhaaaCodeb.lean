/-
  The annotated functions of this seat. Printed by wip/gen.py.
-/
import Derived.Test.YtlbfmbnmajlhaaaCode
set_option linter.unusedVariables false
set_option maxRecDepth 100000
namespace Go.Dv.Try
open Go Go.Dv

/-- clockwork/clockworkref04.Insert -/
@[irreducible] def a80_l0 : ACode :=
  (.seq (.seq (.regionK false [
  (⟨some 7, .move (.t 5), none, []⟩, []),
  (⟨some 8, .move (.t 0), none, []⟩, []),
  (⟨some 9, .len (.t 8), none, []⟩, [8]),
  (⟨some 10, .bin .lss (.t 7) (.t 9), none, []⟩, [7, 9]),
  (⟨some 11, .move (.t 10), none, []⟩, [10]),
  (⟨some 12, .move (.t 0), some (11, true), []⟩, []),
  (⟨some 13, .move (.t 5), some (11, true), []⟩, []),
  (⟨some 14, .indexAddr 1 (.t 12) (.t 13), some (11, true), []⟩, [12, 13]),
  (⟨some 15, .load none (.t 14), some (11, true), []⟩, [14]),
  (⟨some 16, .move (.t 1), some (11, true), []⟩, []),
  (⟨some 17, .bin .lss (.t 15) (.t 16), some (11, true), []⟩, [15, 16]),
  (⟨some 18, .pick (.t 11) (.t 17) (.c (.p (.bool false))), none, []⟩, [11, 17])])
  (.cond (.t 18)
  .skip
  (.ghost (.forget [18]) (.ghost .lower (.exit 0)))))
  (.block 1
  (.regionK false [
    (⟨some 19, .move (.t 5), none, []⟩, [18]),
    (⟨some 20, .bin .add (.t 19) (.c (.p (.int .i64 1))), none, []⟩, [19]),
    (⟨some 5, .move (.t 20), none, []⟩, [20])])))

def a80 : AFunc := ⟨49, 2, [.tmp 4],
  (.seq (.regionK false [
  (⟨some 4, .move (.c (.p (.slice true []))), none, []⟩, [4])])
  (.seq (.regionK false [
  (⟨some 5, .move (.c (.p (.int .i64 0))), none, []⟩, [])])
  (.seq (.block 0
  (.loop
    (.ghost .lower a80_l0)))
  (.seq (.seq (.regionK false [
  (⟨some 21, .move (.t 5), none, []⟩, []),
  (⟨some 22, .move (.t 0), none, []⟩, []),
  (⟨some 23, .len (.t 22), none, []⟩, [22]),
  (⟨some 24, .bin .lss (.t 21) (.t 23), none, []⟩, [21, 23]),
  (⟨some 25, .move (.t 24), none, []⟩, [24]),
  (⟨some 26, .move (.t 0), some (25, true), []⟩, []),
  (⟨some 27, .move (.t 5), some (25, true), []⟩, []),
  (⟨some 28, .indexAddr 1 (.t 26) (.t 27), some (25, true), []⟩, [26, 27]),
  (⟨some 29, .load none (.t 28), some (25, true), []⟩, [28]),
  (⟨some 30, .move (.t 1), some (25, true), []⟩, []),
  (⟨some 31, .bin .eql (.t 29) (.t 30), some (25, true), []⟩, [29, 30]),
  (⟨some 32, .pick (.t 25) (.t 31) (.c (.p (.bool false))), none, []⟩, [25, 31])])
  (.cond (.t 32)
  (.seq (.regionK false [
    (⟨some 33, .move (.t 0), none, []⟩, [0, 1, 5, 32]),
    (⟨some 4, .move (.t 33), none, []⟩, [33])])
    .ret)
  .skip))
  (.seq (.regionK false [
  (⟨some 6, .move (.c (.p (.slice true []))), none, []⟩, [32])])
  (.seq (.regionK false [
  (⟨some 34, .move (.t 6), none, []⟩, []),
  (⟨some 35, .move (.t 0), none, []⟩, []),
  (⟨some 36, .move (.t 5), none, []⟩, []),
  (⟨some 37, .slice 1 (.t 35) none (some (.t 36)) none, none, []⟩, [35, 36]),
  (⟨some 38, .append 16 1 (.t 34) (.t 37), none, []⟩, [34, 37]),
  (⟨some 6, .move (.t 38), none, []⟩, [38])])
  (.seq (.regionK false [
  (⟨some 39, .move (.t 6), none, []⟩, []),
  (⟨some 40, .move (.t 1), none, []⟩, [1]),
  (⟨some 41, .buildSlice [.str ⟨#[]⟩] 1 [(0, .t 40)], none, []⟩, [40]),
  (⟨some 42, .append 16 1 (.t 39) (.t 41), none, []⟩, [39, 41]),
  (⟨some 6, .move (.t 42), none, []⟩, [42])])
  (.seq (.regionK false [
  (⟨some 43, .move (.t 6), none, []⟩, []),
  (⟨some 44, .move (.t 0), none, []⟩, [0]),
  (⟨some 45, .move (.t 5), none, []⟩, [5]),
  (⟨some 46, .slice 1 (.t 44) (some (.t 45)) none none, none, []⟩, [44, 45]),
  (⟨some 47, .append 16 1 (.t 43) (.t 46), none, []⟩, [43, 46]),
  (⟨some 6, .move (.t 47), none, []⟩, [47])])
  (.seq (.regionK false [
  (⟨some 48, .move (.t 6), none, []⟩, [6]),
  (⟨some 4, .move (.t 48), none, []⟩, [48])])
  .ret)))))))))⟩

/-- slices.Contains[[]string,string] -/
def a81 : AFunc := ⟨9, 2, [.tmp 4],
  (.seq (.regionK false [
  (⟨some 4, .move (.c (.p (.bool false))), none, []⟩, [4])])
  (.seq (.regionK false [
  (⟨some 5, .move (.t 0), none, []⟩, [0]),
  (⟨some 6, .move (.t 1), none, []⟩, [1]),
  (⟨some 7, .call false 92 [.t 5, .t 6], none, []⟩, [5, 6]),
  (⟨some 8, .bin .geq (.t 7) (.c (.p (.int .i64 0))), none, []⟩, [7]),
  (⟨some 4, .move (.t 8), none, []⟩, [8])])
  .ret))⟩

/-- slices.BinarySearch[[]string,string] -/
@[irreducible] def a82_l0 : ACode :=
  (.seq (.seq (.regionK false [
  (⟨some 13, .move (.t 7), none, []⟩, []),
  (⟨some 14, .move (.t 8), none, []⟩, []),
  (⟨some 15, .bin .lss (.t 13) (.t 14), none, []⟩, [13, 14])])
  (.cond (.t 15)
  .skip
  (.ghost (.forget [8, 15]) (.ghost .lower (.exit 0)))))
  (.block 1
  (.seq (.regionK false [
    (⟨some 16, .move (.t 7), none, []⟩, [15]),
    (⟨some 17, .move (.t 8), none, []⟩, []),
    (⟨some 18, .bin .add (.t 16) (.t 17), none, []⟩, [16, 17]),
    (⟨some 19, .conv .u64 (.t 18), none, []⟩, [18]),
    (⟨some 20, .bin .shr (.t 19) (.c (.p (.int .u64 1))), none, []⟩, [19]),
    (⟨some 21, .conv .i64 (.t 20), none, []⟩, [20]),
    (⟨some 9, .move (.t 21), none, []⟩, [21])])
    (.seq (.regionK false [
    (⟨some 22, .move (.t 0), none, []⟩, []),
    (⟨some 23, .move (.t 9), none, []⟩, []),
    (⟨some 24, .indexAddr 1 (.t 22) (.t 23), none, []⟩, [22, 23]),
    (⟨some 25, .load none (.t 24), none, []⟩, [24]),
    (⟨some 26, .move (.t 1), none, []⟩, []),
    (⟨some 27, .call false 93 [.t 25, .t 26], none, []⟩, [25, 26])])
    (.cond (.t 27)
    (.regionK false [
      (⟨some 28, .move (.t 9), none, []⟩, [9, 27]),
      (⟨some 29, .bin .add (.t 28) (.c (.p (.int .i64 1))), none, []⟩, [28]),
      (⟨some 7, .move (.t 29), none, []⟩, [29])])
    (.regionK false [
      (⟨some 30, .move (.t 9), none, []⟩, [9, 27]),
      (⟨some 8, .move (.t 30), none, []⟩, [30])]))))))

def a82 : AFunc := ⟨54, 2, [.tmp 4, .tmp 5],
  (.seq (.regionK false [
  (⟨some 4, .move (.c (.p (.int .i64 0))), none, []⟩, [4]),
  (⟨some 5, .move (.c (.p (.bool false))), none, []⟩, [5])])
  (.seq (.regionK false [
  (⟨some 10, .move (.t 0), none, []⟩, []),
  (⟨some 11, .len (.t 10), none, []⟩, [10]),
  (⟨some 6, .move (.t 11), none, []⟩, [11])])
  (.seq (.regionK false [
  (⟨some 12, .move (.t 6), none, []⟩, []),
  (⟨some 7, .move (.c (.p (.int .i64 0))), none, []⟩, []),
  (⟨some 8, .move (.t 12), none, []⟩, [12])])
  (.seq (.block 0
  (.loop
    (.ghost .lower a82_l0)))
  (.seq (.regionK false [
  (⟨some 31, .move (.t 7), none, []⟩, []),
  (⟨some 32, .move (.t 7), none, []⟩, []),
  (⟨some 33, .move (.t 6), none, []⟩, [6]),
  (⟨some 34, .bin .lss (.t 32) (.t 33), none, []⟩, [32, 33]),
  (⟨some 35, .move (.t 34), none, []⟩, [34]),
  (⟨some 36, .move (.t 0), some (35, true), []⟩, []),
  (⟨some 37, .move (.t 7), some (35, true), []⟩, []),
  (⟨some 38, .indexAddr 1 (.t 36) (.t 37), some (35, true), []⟩, [36, 37]),
  (⟨some 39, .load none (.t 38), some (35, true), []⟩, [38]),
  (⟨some 40, .move (.t 1), some (35, true), []⟩, []),
  (⟨some 41, .bin .eql (.t 39) (.t 40), some (35, true), []⟩, [39, 40]),
  (⟨some 42, .move (.t 41), some (35, true), []⟩, [41]),
  (⟨some 43, .move (.t 0), some (42, false), []⟩, [0]),
  (⟨some 44, .move (.t 7), some (42, false), []⟩, [7]),
  (⟨some 45, .indexAddr 1 (.t 43) (.t 44), some (42, false), []⟩, [43, 44]),
  (⟨some 46, .load none (.t 45), some (42, false), []⟩, [45]),
  (⟨some 47, .call false 94 [.t 46], some (42, false), []⟩, [46]),
  (⟨some 48, .move (.t 47), some (42, false), []⟩, [47]),
  (⟨some 49, .move (.t 1), some (48, true), []⟩, [1]),
  (⟨some 50, .call false 94 [.t 49], some (48, true), []⟩, [49]),
  (⟨some 51, .pick (.t 48) (.t 50) (.c (.p (.bool false))), some (42, false), []⟩, [48, 50]),
  (⟨some 52, .pick (.t 42) (.c (.p (.bool true))) (.t 51), some (35, true), []⟩, [42, 51]),
  (⟨some 53, .pick (.t 35) (.t 52) (.c (.p (.bool false))), none, []⟩, [35, 52]),
  (⟨some 4, .move (.t 31), none, []⟩, [31]),
  (⟨some 5, .move (.t 53), none, []⟩, [53])])
  .ret)))))⟩

/-- clockwork/keys.consists -/
@[irreducible] def a84_l0 : ACode :=
  (.seq (.regionK false [
  (⟨some 12, .bin .lss (.t 11) (.t 10), none, []⟩, [])])
  (.seq (.cond (.t 12)
  .skip
  (.ghost (.forget [0, 1, 10, 11, 12]) (.ghost .lower (.exit 0))))
  (.seq (.block 1
  (.seq (.regionK false [
    (⟨some 13, .move (.t 11), none, []⟩, [12]),
    (⟨some 5, .move (.t 13), none, []⟩, [13])])
    (.seq (.regionK false [
    (⟨some 14, .move (.t 1), none, []⟩, []),
    (⟨some 15, .move (.t 0), none, []⟩, []),
    (⟨some 16, .move (.t 5), none, []⟩, [5]),
    (⟨some 17, .index (.t 15) (.t 16), none, []⟩, [15, 16]),
    (⟨some 18, .callv false (.t 14) [.t 17], none, []⟩, [14, 17]),
    (⟨some 19, .un .not (.t 18), none, []⟩, [18])])
    (.cond (.t 19)
    (.seq (.regionK false [
      (⟨some 4, .move (.c (.p (.bool false))), none, []⟩, [0, 1, 10, 11, 19])])
      .ret)
    .skip))))
  (.regionK false [
  (⟨some 20, .bin .add (.t 11) (.c (.p (.int .i64 1))), none, []⟩, [19]),
  (⟨some 11, .move (.t 20), none, []⟩, [20])]))))

def a84 : AFunc := ⟨21, 2, [.tmp 4],
  (.seq (.regionK false [
  (⟨some 4, .move (.c (.p (.bool false))), none, []⟩, [4])])
  (.seq (.seq (.regionK false [
  (⟨some 6, .move (.t 0), none, []⟩, []),
  (⟨some 7, .lenS (.t 6), none, []⟩, [6]),
  (⟨some 8, .bin .gtr (.t 7) (.c (.p (.int .i64 24))), none, []⟩, [7])])
  (.cond (.t 8)
  (.seq (.regionK false [
    (⟨some 4, .move (.c (.p (.bool false))), none, []⟩, [0, 1, 8])])
    .ret)
  .skip))
  (.seq (.seq (.regionK false [
  (⟨some 9, .move (.t 0), none, []⟩, [8]),
  (⟨some 10, .lenS (.t 9), none, []⟩, [9]),
  (⟨some 11, .move (.c (.p (.int .i64 0))), none, []⟩, [])])
  (.block 0
  (.loop
    (.ghost .lower a84_l0))))
  (.seq (.regionK false [
  (⟨some 4, .move (.c (.p (.bool true))), none, []⟩, [])])
  .ret))))⟩

/-- clockwork/keys.Valid$1 -/
def a85 : AFunc := ⟨33, 1, [.tmp 2],
  (.seq (.regionK false [
  (⟨some 2, .move (.c (.p (.bool false))), none, []⟩, [2])])
  (.seq (.regionK false [
  (⟨some 3, .move (.t 0), none, []⟩, []),
  (⟨some 4, .bin .geq (.t 3) (.c (.p (.int .u8 97))), none, []⟩, [3]),
  (⟨some 5, .move (.t 4), none, []⟩, [4]),
  (⟨some 6, .move (.t 0), some (5, true), []⟩, []),
  (⟨some 7, .bin .leq (.t 6) (.c (.p (.int .u8 122))), some (5, true), []⟩, [6]),
  (⟨some 8, .pick (.t 5) (.t 7) (.c (.p (.bool false))), none, []⟩, [5, 7]),
  (⟨some 9, .move (.t 8), none, []⟩, [8]),
  (⟨some 10, .move (.t 0), some (9, false), []⟩, []),
  (⟨some 11, .bin .geq (.t 10) (.c (.p (.int .u8 48))), some (9, false), []⟩, [10]),
  (⟨some 12, .move (.t 11), some (9, false), []⟩, [11]),
  (⟨some 13, .move (.t 0), some (12, true), []⟩, []),
  (⟨some 14, .bin .leq (.t 13) (.c (.p (.int .u8 57))), some (12, true), []⟩, [13]),
  (⟨some 15, .pick (.t 12) (.t 14) (.c (.p (.bool false))), some (9, false), []⟩, [12, 14]),
  (⟨some 16, .pick (.t 9) (.c (.p (.bool true))) (.t 15), none, []⟩, [9, 15]),
  (⟨some 17, .move (.t 16), none, []⟩, [16]),
  (⟨some 18, .move (.t 0), some (17, false), []⟩, []),
  (⟨some 19, .bin .eql (.t 18) (.c (.p (.int .u8 47))), some (17, false), []⟩, [18]),
  (⟨some 20, .pick (.t 17) (.c (.p (.bool true))) (.t 19), none, []⟩, [17, 19]),
  (⟨some 21, .move (.t 20), none, []⟩, [20]),
  (⟨some 22, .move (.t 0), some (21, false), []⟩, []),
  (⟨some 23, .bin .eql (.t 22) (.c (.p (.int .u8 46))), some (21, false), []⟩, [22]),
  (⟨some 24, .pick (.t 21) (.c (.p (.bool true))) (.t 23), none, []⟩, [21, 23]),
  (⟨some 25, .move (.t 24), none, []⟩, [24]),
  (⟨some 26, .move (.t 0), some (25, false), []⟩, []),
  (⟨some 27, .bin .eql (.t 26) (.c (.p (.int .u8 95))), some (25, false), []⟩, [26]),
  (⟨some 28, .pick (.t 25) (.c (.p (.bool true))) (.t 27), none, []⟩, [25, 27]),
  (⟨some 29, .move (.t 28), none, []⟩, [28]),
  (⟨some 30, .move (.t 0), some (29, false), []⟩, [0]),
  (⟨some 31, .bin .eql (.t 30) (.c (.p (.int .u8 45))), some (29, false), []⟩, [30]),
  (⟨some 32, .pick (.t 29) (.c (.p (.bool true))) (.t 31), none, []⟩, [29, 31]),
  (⟨some 2, .move (.t 32), none, []⟩, [32])])
  .ret))⟩

/-- clockwork/clockworkref04.Valid -/
@[irreducible] def a86_l0 : ACode :=
  (.seq (.seq (.regionK false [
  (⟨some 5, .move (.t 3), none, []⟩, []),
  (⟨some 6, .move (.t 0), none, []⟩, []),
  (⟨some 7, .lenS (.t 6), none, []⟩, [6]),
  (⟨some 8, .bin .lss (.t 5) (.t 7), none, []⟩, [5, 7])])
  (.cond (.t 8)
  .skip
  (.ghost (.forget [3, 8]) (.ghost .lower (.exit 0)))))
  (.seq (.block 1
  (.seq (.regionK false [
    (⟨some 11, .move (.t 0), none, []⟩, [8]),
    (⟨some 12, .move (.t 3), none, []⟩, []),
    (⟨some 13, .index (.t 11) (.t 12), none, []⟩, [11, 12]),
    (⟨some 4, .move (.t 13), none, []⟩, [13])])
    (.seq (.regionK false [
    (⟨some 14, .move (.t 4), none, []⟩, []),
    (⟨some 15, .bin .lss (.t 14) (.c (.p (.int .u8 97))), none, []⟩, [14]),
    (⟨some 16, .move (.t 15), none, []⟩, [15]),
    (⟨some 17, .move (.t 4), some (16, false), []⟩, []),
    (⟨some 18, .bin .gtr (.t 17) (.c (.p (.int .u8 122))), some (16, false), []⟩, [17]),
    (⟨some 19, .pick (.t 16) (.c (.p (.bool true))) (.t 18), none, []⟩, [16, 18]),
    (⟨some 20, .move (.t 19), none, []⟩, [19]),
    (⟨some 21, .move (.t 4), some (20, true), []⟩, []),
    (⟨some 22, .bin .lss (.t 21) (.c (.p (.int .u8 48))), some (20, true), []⟩, [21]),
    (⟨some 23, .move (.t 22), some (20, true), []⟩, [22]),
    (⟨some 24, .move (.t 4), some (23, false), []⟩, []),
    (⟨some 25, .bin .gtr (.t 24) (.c (.p (.int .u8 57))), some (23, false), []⟩, [24]),
    (⟨some 26, .pick (.t 23) (.c (.p (.bool true))) (.t 25), some (20, true), []⟩, [23, 25]),
    (⟨some 27, .pick (.t 20) (.t 26) (.c (.p (.bool false))), none, []⟩, [20, 26]),
    (⟨some 28, .move (.t 27), none, []⟩, [27]),
    (⟨some 29, .move (.t 4), some (28, true), []⟩, []),
    (⟨some 30, .bin .neq (.t 29) (.c (.p (.int .u8 47))), some (28, true), []⟩, [29]),
    (⟨some 31, .pick (.t 28) (.t 30) (.c (.p (.bool false))), none, []⟩, [28, 30]),
    (⟨some 32, .move (.t 31), none, []⟩, [31]),
    (⟨some 33, .move (.t 4), some (32, true), []⟩, []),
    (⟨some 34, .bin .neq (.t 33) (.c (.p (.int .u8 46))), some (32, true), []⟩, [33]),
    (⟨some 35, .pick (.t 32) (.t 34) (.c (.p (.bool false))), none, []⟩, [32, 34]),
    (⟨some 36, .move (.t 35), none, []⟩, [35]),
    (⟨some 37, .move (.t 4), some (36, true), []⟩, []),
    (⟨some 38, .bin .neq (.t 37) (.c (.p (.int .u8 95))), some (36, true), []⟩, [37]),
    (⟨some 39, .pick (.t 36) (.t 38) (.c (.p (.bool false))), none, []⟩, [36, 38]),
    (⟨some 40, .move (.t 39), none, []⟩, [39]),
    (⟨some 41, .move (.t 4), some (40, true), []⟩, [4]),
    (⟨some 42, .bin .neq (.t 41) (.c (.p (.int .u8 45))), some (40, true), []⟩, [41]),
    (⟨some 43, .pick (.t 40) (.t 42) (.c (.p (.bool false))), none, []⟩, [40, 42])])
    (.cond (.t 43)
    (.seq (.regionK false [
      (⟨some 2, .move (.c (.p (.bool false))), none, []⟩, [0, 3, 43])])
      .ret)
    .skip))))
  (.regionK false [
  (⟨some 9, .move (.t 3), none, []⟩, [43]),
  (⟨some 10, .bin .add (.t 9) (.c (.p (.int .i64 1))), none, []⟩, [9]),
  (⟨some 3, .move (.t 10), none, []⟩, [10])])))

def a86 : AFunc := ⟨52, 1, [.tmp 2],
  (.seq (.regionK false [
  (⟨some 2, .move (.c (.p (.bool false))), none, []⟩, [2])])
  (.seq (.seq (.regionK false [
  (⟨some 3, .move (.c (.p (.int .i64 0))), none, []⟩, [])])
  (.block 0
  (.loop
    (.ghost .lower a86_l0))))
  (.seq (.regionK false [
  (⟨some 44, .move (.t 0), none, []⟩, []),
  (⟨some 45, .lenS (.t 44), none, []⟩, [44]),
  (⟨some 46, .bin .geq (.t 45) (.c (.p (.int .i64 1))), none, []⟩, [45]),
  (⟨some 47, .move (.t 46), none, []⟩, [46]),
  (⟨some 48, .move (.t 0), some (47, true), []⟩, [0]),
  (⟨some 49, .lenS (.t 48), some (47, true), []⟩, [48]),
  (⟨some 50, .bin .leq (.t 49) (.c (.p (.int .i64 24))), some (47, true), []⟩, [49]),
  (⟨some 51, .pick (.t 47) (.t 50) (.c (.p (.bool false))), none, []⟩, [47, 50]),
  (⟨some 2, .move (.t 51), none, []⟩, [51])])
  .ret)))⟩

/-- clockwork/keys.ValidRange -/
def a87 : AFunc := ⟨23, 1, [.tmp 2],
  (.seq (.regionK false [
  (⟨some 1, .box (.t 0), none, []⟩, [0]),
  (⟨some 2, .move (.c (.p (.bool false))), none, []⟩, [2])])
  (.seq (.regionK false [
  (⟨some 3, .fieldAddr 0 (.t 1), none, []⟩, []),
  (⟨some 4, .load none (.t 3), none, []⟩, [3]),
  (⟨some 5, .call false 95 [.t 4], none, []⟩, [4]),
  (⟨some 6, .move (.t 5), none, []⟩, [5]),
  (⟨some 7, .fieldAddr 1 (.t 1), some (6, true), []⟩, []),
  (⟨some 8, .load none (.t 7), some (6, true), []⟩, [7]),
  (⟨some 9, .call false 95 [.t 8], some (6, true), []⟩, [8]),
  (⟨some 10, .pick (.t 6) (.t 9) (.c (.p (.bool false))), none, []⟩, [6, 9]),
  (⟨some 11, .move (.t 10), none, []⟩, [10]),
  (⟨some 12, .fieldAddr 1 (.t 1), some (11, true), []⟩, []),
  (⟨some 13, .load none (.t 12), some (11, true), []⟩, [12]),
  (⟨some 14, .bin .eql (.t 13) (.c (.p (.str ⟨#[]⟩))), some (11, true), []⟩, [13]),
  (⟨some 15, .move (.t 14), some (11, true), []⟩, [14]),
  (⟨some 16, .fieldAddr 1 (.t 1), some (15, false), []⟩, []),
  (⟨some 17, .load none (.t 16), some (15, false), []⟩, [16]),
  (⟨some 18, .fieldAddr 0 (.t 1), some (15, false), []⟩, []),
  (⟨some 19, .load none (.t 18), some (15, false), []⟩, [18]),
  (⟨some 20, .bin .gtr (.t 17) (.t 19), some (15, false), []⟩, [17, 19]),
  (⟨some 21, .pick (.t 15) (.c (.p (.bool true))) (.t 20), some (11, true), []⟩, [15, 20]),
  (⟨some 22, .pick (.t 11) (.t 21) (.c (.p (.bool false))), none, []⟩, [11, 21]),
  (⟨some 2, .move (.t 22), none, []⟩, [22])])
  .ret))⟩

/-- slices.IndexFunc[[]string,string] -/
@[irreducible] def a88_l0 : ACode :=
  (.seq (.regionK false [
  (⟨some 9, .bin .lss (.t 8) (.t 7), none, []⟩, [])])
  (.seq (.cond (.t 9)
  .skip
  (.ghost (.forget [0, 1, 7, 8, 9]) (.ghost .lower (.exit 0))))
  (.seq (.block 1
  (.seq (.regionK false [
    (⟨some 10, .move (.t 8), none, []⟩, [9]),
    (⟨some 5, .move (.t 10), none, []⟩, [10])])
    (.seq (.regionK false [
    (⟨some 11, .move (.t 1), none, []⟩, []),
    (⟨some 12, .move (.t 0), none, []⟩, []),
    (⟨some 13, .move (.t 5), none, []⟩, []),
    (⟨some 14, .indexAddr 1 (.t 12) (.t 13), none, []⟩, [12, 13]),
    (⟨some 15, .load none (.t 14), none, []⟩, [14]),
    (⟨some 16, .callv false (.t 11) [.t 15], none, []⟩, [11, 15])])
    (.cond (.t 16)
    (.seq (.regionK false [
      (⟨some 17, .move (.t 5), none, []⟩, [0, 1, 5, 7, 8, 16]),
      (⟨some 4, .move (.t 17), none, []⟩, [17])])
      .ret)
    .skip))))
  (.regionK false [
  (⟨some 18, .bin .add (.t 8) (.c (.p (.int .i64 1))), none, []⟩, [5, 16]),
  (⟨some 8, .move (.t 18), none, []⟩, [18])]))))

def a88 : AFunc := ⟨19, 2, [.tmp 4],
  (.seq (.regionK false [
  (⟨some 4, .move (.c (.p (.int .i64 0))), none, []⟩, [4])])
  (.seq (.seq (.regionK false [
  (⟨some 6, .move (.t 0), none, []⟩, []),
  (⟨some 7, .len (.t 6), none, []⟩, [6]),
  (⟨some 8, .move (.c (.p (.int .i64 0))), none, []⟩, [])])
  (.block 0
  (.loop
    (.ghost .lower a88_l0))))
  (.seq (.regionK false [
  (⟨some 4, .move (.c (.p (.int .i64 (-1)))), none, []⟩, [])])
  .ret)))⟩

/-- clockwork/clockworkref04.Contains -/
def a89 : AFunc := ⟨24, 2, [.tmp 4],
  (.seq (.regionK false [
  (⟨some 2, .box (.t 0), none, []⟩, [0]),
  (⟨some 4, .move (.c (.p (.bool false))), none, []⟩, [4])])
  (.seq (.regionK false [
  (⟨some 5, .load (some 2) (.t 2), none, []⟩, []),
  (⟨some 6, .call false 76 [.t 5], none, []⟩, [5]),
  (⟨some 7, .move (.t 6), none, []⟩, [6]),
  (⟨some 8, .move (.t 1), some (7, true), []⟩, []),
  (⟨some 9, .fieldAddr 0 (.t 2), some (7, true), []⟩, []),
  (⟨some 10, .load none (.t 9), some (7, true), []⟩, [9]),
  (⟨some 11, .bin .geq (.t 8) (.t 10), some (7, true), []⟩, [8, 10]),
  (⟨some 12, .pick (.t 7) (.t 11) (.c (.p (.bool false))), none, []⟩, [7, 11]),
  (⟨some 13, .move (.t 12), none, []⟩, [12]),
  (⟨some 14, .fieldAddr 1 (.t 2), some (13, true), []⟩, []),
  (⟨some 15, .load none (.t 14), some (13, true), []⟩, [14]),
  (⟨some 16, .bin .eql (.t 15) (.c (.p (.str ⟨#[]⟩))), some (13, true), []⟩, [15]),
  (⟨some 17, .move (.t 16), some (13, true), []⟩, [16]),
  (⟨some 18, .move (.t 1), some (17, false), []⟩, [1]),
  (⟨some 19, .fieldAddr 1 (.t 2), some (17, false), []⟩, []),
  (⟨some 20, .load none (.t 19), some (17, false), []⟩, [19]),
  (⟨some 21, .bin .lss (.t 18) (.t 20), some (17, false), []⟩, [18, 20]),
  (⟨some 22, .pick (.t 17) (.c (.p (.bool true))) (.t 21), some (13, true), []⟩, [17, 21]),
  (⟨some 23, .pick (.t 13) (.t 22) (.c (.p (.bool false))), none, []⟩, [13, 22]),
  (⟨some 4, .move (.t 23), none, []⟩, [23])])
  .ret))⟩

/-- slices.Index[[]string,string] -/
@[irreducible] def a92_l0 : ACode :=
  (.seq (.regionK false [
  (⟨some 9, .bin .lss (.t 8) (.t 7), none, []⟩, [])])
  (.seq (.cond (.t 9)
  .skip
  (.ghost (.forget [0, 1, 7, 8, 9]) (.ghost .lower (.exit 0))))
  (.seq (.block 1
  (.seq (.regionK false [
    (⟨some 10, .move (.t 8), none, []⟩, [9]),
    (⟨some 5, .move (.t 10), none, []⟩, [10])])
    (.seq (.regionK false [
    (⟨some 11, .move (.t 1), none, []⟩, []),
    (⟨some 12, .move (.t 0), none, []⟩, []),
    (⟨some 13, .move (.t 5), none, []⟩, []),
    (⟨some 14, .indexAddr 1 (.t 12) (.t 13), none, []⟩, [12, 13]),
    (⟨some 15, .load none (.t 14), none, []⟩, [14]),
    (⟨some 16, .bin .eql (.t 11) (.t 15), none, []⟩, [11, 15])])
    (.cond (.t 16)
    (.seq (.regionK false [
      (⟨some 17, .move (.t 5), none, []⟩, [0, 1, 5, 7, 8, 16]),
      (⟨some 4, .move (.t 17), none, []⟩, [17])])
      .ret)
    .skip))))
  (.regionK false [
  (⟨some 18, .bin .add (.t 8) (.c (.p (.int .i64 1))), none, []⟩, [5, 16]),
  (⟨some 8, .move (.t 18), none, []⟩, [18])]))))

def a92 : AFunc := ⟨19, 2, [.tmp 4],
  (.seq (.regionK false [
  (⟨some 4, .move (.c (.p (.int .i64 0))), none, []⟩, [4])])
  (.seq (.seq (.regionK false [
  (⟨some 6, .move (.t 0), none, []⟩, []),
  (⟨some 7, .len (.t 6), none, []⟩, [6]),
  (⟨some 8, .move (.c (.p (.int .i64 0))), none, []⟩, [])])
  (.block 0
  (.loop
    (.ghost .lower a92_l0))))
  (.seq (.regionK false [
  (⟨some 4, .move (.c (.p (.int .i64 (-1)))), none, []⟩, [])])
  .ret)))⟩

/-- cmp.Less[string] -/
def a93 : AFunc := ⟨17, 2, [.tmp 4],
  (.seq (.regionK false [
  (⟨some 4, .move (.c (.p (.bool false))), none, []⟩, [4])])
  (.seq (.regionK false [
  (⟨some 5, .move (.t 0), none, []⟩, []),
  (⟨some 6, .call false 106 [.t 5], none, []⟩, [5]),
  (⟨some 7, .move (.t 6), none, []⟩, [6]),
  (⟨some 8, .move (.t 1), some (7, true), []⟩, []),
  (⟨some 9, .call false 106 [.t 8], some (7, true), []⟩, [8]),
  (⟨some 10, .un .not (.t 9), some (7, true), []⟩, [9]),
  (⟨some 11, .pick (.t 7) (.t 10) (.c (.p (.bool false))), none, []⟩, [7, 10]),
  (⟨some 12, .move (.t 11), none, []⟩, [11]),
  (⟨some 13, .move (.t 0), some (12, false), []⟩, [0]),
  (⟨some 14, .move (.t 1), some (12, false), []⟩, [1]),
  (⟨some 15, .bin .lss (.t 13) (.t 14), some (12, false), []⟩, [13, 14]),
  (⟨some 16, .pick (.t 12) (.c (.p (.bool true))) (.t 15), none, []⟩, [12, 15]),
  (⟨some 4, .move (.t 16), none, []⟩, [16])])
  .ret))⟩

/-- slices.isNaN[string] -/
def a94 : AFunc := ⟨6, 1, [.tmp 2],
  (.seq (.regionK false [
  (⟨some 2, .move (.c (.p (.bool false))), none, []⟩, [2])])
  (.seq (.regionK false [
  (⟨some 3, .move (.t 0), none, []⟩, []),
  (⟨some 4, .move (.t 0), none, []⟩, [0]),
  (⟨some 5, .bin .neq (.t 3) (.t 4), none, []⟩, [3, 4]),
  (⟨some 2, .move (.t 5), none, []⟩, [5])])
  .ret))⟩

/-- clockwork/keys.isBound -/
def a95 : AFunc := ⟨5, 1, [.tmp 2],
  (.seq (.regionK false [
  (⟨some 2, .move (.c (.p (.bool false))), none, []⟩, [2])])
  (.seq (.regionK false [
  (⟨some 3, .move (.t 0), none, []⟩, [0]),
  (⟨some 4, .call false 84 [.t 3, .c (.func 107 [])], none, []⟩, [3]),
  (⟨some 2, .move (.t 4), none, []⟩, [4])])
  .ret))⟩

/-- cmp.isNaN[string] -/
def a106 : AFunc := ⟨6, 1, [.tmp 2],
  (.seq (.regionK false [
  (⟨some 2, .move (.c (.p (.bool false))), none, []⟩, [2])])
  (.seq (.regionK false [
  (⟨some 3, .move (.t 0), none, []⟩, []),
  (⟨some 4, .move (.t 0), none, []⟩, [0]),
  (⟨some 5, .bin .neq (.t 3) (.t 4), none, []⟩, [3, 4]),
  (⟨some 2, .move (.t 5), none, []⟩, [5])])
  .ret))⟩

/-- clockwork/keys.isBound$1 -/
def a107 : AFunc := ⟨9, 1, [.tmp 2],
  (.seq (.regionK false [
  (⟨some 2, .move (.c (.p (.bool false))), none, []⟩, [2])])
  (.seq (.regionK false [
  (⟨some 3, .move (.t 0), none, []⟩, []),
  (⟨some 4, .bin .geq (.t 3) (.c (.p (.int .u8 33))), none, []⟩, [3]),
  (⟨some 5, .move (.t 4), none, []⟩, [4]),
  (⟨some 6, .move (.t 0), some (5, true), []⟩, [0]),
  (⟨some 7, .bin .leq (.t 6) (.c (.p (.int .u8 126))), some (5, true), []⟩, [6]),
  (⟨some 8, .pick (.t 5) (.t 7) (.c (.p (.bool false))), none, []⟩, [5, 7]),
  (⟨some 2, .move (.t 8), none, []⟩, [8])])
  .ret))⟩


end Go.Dv.Try
