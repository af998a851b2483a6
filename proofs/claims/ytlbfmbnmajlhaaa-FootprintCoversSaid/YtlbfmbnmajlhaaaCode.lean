/-
  The annotated functions of this seat. Printed by wip/gen.py.
-/
import Derived.Test.YtlbfmbnmajlhaaaWalk
set_option linter.unusedVariables false
set_option maxRecDepth 100000
namespace Go.Dv.Try
open Go Go.Dv

/-- clockwork/clockworklaw19.FootprintUnions -/
def a3 : AFunc := ⟨38, 2, [.tmp 4],
  (.seq (.regionK false [
  (⟨some 2, .box (.t 0), none, []⟩, [0]),
  (⟨some 3, .box (.t 1), none, []⟩, [1]),
  (⟨some 4, .move (.c (.p (.bool false))), none, []⟩, [4])])
  (.seq (.seq (.regionK false [
  (⟨some 9, .load (some 3) (.t 2), none, []⟩, []),
  (⟨some 10, .load (some 3) (.t 3), none, []⟩, []),
  (⟨some 11, .buildSlice [.bool false, .slice true [], .slice true []] 2 [(0, .t 9), (1, .t 10)], none, []⟩, [9, 10]),
  (⟨some 12, .call false 15 [.t 11], none, []⟩, [11]),
  (⟨some 13, .un .not (.t 12), none, []⟩, [12])])
  (.cond (.t 13)
  (.seq (.regionK false [
    (⟨some 14, .call false 16 [], none, []⟩, [13]),
    (⟨some 4, .move (.t 14), none, []⟩, [14])])
    .ret)
  .skip))
  (.seq (.regionK false [
  (⟨some 16, .load (some 3) (.t 2), none, []⟩, [13]),
  (⟨some 17, .load (some 3) (.t 3), none, []⟩, []),
  (⟨some 18, .call false 17 [.t 16, .t 17], none, []⟩, [16, 17]),
  (⟨some 15, .move (.t 18), none, []⟩, [18]),
  (⟨some 19, .extract (.t 15) 0, none, []⟩, []),
  (⟨some 20, .extract (.t 15) 1, none, []⟩, [15]),
  (⟨some 5, .alloc [.bool false, .slice true [], .slice true []], none, []⟩, []),
  (⟨none, .store 3 (.t 5) (.t 19), none, []⟩, [19]),
  (⟨some 6, .move (.t 20), none, []⟩, [20])])
  (.seq (.regionK false [
  (⟨some 22, .load (some 3) (.t 2), none, []⟩, []),
  (⟨some 23, .load (some 3) (.t 3), none, []⟩, []),
  (⟨some 24, .call false 18 [.t 22, .t 23], none, []⟩, [22, 23]),
  (⟨some 21, .move (.t 24), none, []⟩, [24]),
  (⟨some 25, .extract (.t 21) 0, none, []⟩, []),
  (⟨some 26, .extract (.t 21) 1, none, []⟩, [21]),
  (⟨some 7, .alloc [.bool false, .slice true [], .slice true []], none, []⟩, []),
  (⟨none, .store 3 (.t 7) (.t 25), none, []⟩, [25]),
  (⟨some 8, .move (.t 26), none, []⟩, [26])])
  (.seq (.regionK false [
  (⟨some 27, .load (some 3) (.t 5), none, []⟩, []),
  (⟨some 28, .load (some 3) (.t 7), none, []⟩, []),
  (⟨some 29, .call false 19 [.t 27, .t 28], none, []⟩, [27, 28]),
  (⟨some 30, .move (.t 29), none, []⟩, [29]),
  (⟨some 31, .move (.t 6), some (30, true), []⟩, [6]),
  (⟨some 32, .move (.t 8), some (30, true), []⟩, [8]),
  (⟨some 33, .bin .eql (.t 31) (.t 32), some (30, true), []⟩, [31, 32]),
  (⟨some 34, .pick (.t 30) (.t 33) (.c (.p (.bool false))), none, []⟩, [30, 33]),
  (⟨some 35, .move (.t 34), none, []⟩, [34]),
  (⟨some 36, .call false 16 [], some (35, true), []⟩, []),
  (⟨some 37, .pick (.t 35) (.t 36) (.c (.p (.bool false))), none, []⟩, [35, 36]),
  (⟨some 4, .move (.t 37), none, []⟩, [37])])
  .ret)))))⟩

/-- clockwork/clockworklaw19.FootprintCovers -/
def a9 : AFunc := ⟨42, 3, [.tmp 6],
  (.seq (.regionK false [
  (⟨some 3, .box (.t 0), none, []⟩, [0]),
  (⟨some 4, .box (.t 1), none, []⟩, [1]),
  (⟨some 5, .box (.t 2), none, []⟩, [2]),
  (⟨some 6, .move (.c (.p (.bool false))), none, []⟩, [6])])
  (.seq (.seq (.regionK false [
  (⟨some 7, .load (some 3) (.t 3), none, []⟩, []),
  (⟨some 8, .load (some 3) (.t 4), none, []⟩, []),
  (⟨some 9, .load (some 3) (.t 5), none, []⟩, []),
  (⟨some 10, .buildSlice [.bool false, .slice true [], .slice true []] 3 [(0, .t 7), (1, .t 8), (2, .t 9)], none, []⟩, [7, 8, 9]),
  (⟨some 11, .call false 15 [.t 10], none, []⟩, [10]),
  (⟨some 12, .un .not (.t 11), none, []⟩, [11])])
  (.cond (.t 12)
  (.seq (.regionK false [
    (⟨some 13, .call false 16 [], none, []⟩, [12]),
    (⟨some 6, .move (.t 13), none, []⟩, [13])])
    .ret)
  .skip))
  (.seq (.seq (.regionK false [
  (⟨some 14, .load (some 3) (.t 3), none, []⟩, [12]),
  (⟨some 15, .load (some 3) (.t 4), none, []⟩, []),
  (⟨some 16, .call false 33 [.t 14, .t 15], none, []⟩, [14, 15]),
  (⟨some 17, .un .not (.t 16), none, []⟩, [16])])
  (.cond (.t 17)
  (.seq (.regionK false [
    (⟨some 18, .call false 16 [], none, []⟩, [17]),
    (⟨some 6, .move (.t 18), none, []⟩, [18])])
    .ret)
  .skip))
  (.seq (.regionK false [
  (⟨some 19, .load (some 3) (.t 4), none, []⟩, [17]),
  (⟨some 20, .load (some 3) (.t 5), none, []⟩, []),
  (⟨some 21, .call false 34 [.t 19, .t 20], none, []⟩, [19, 20]),
  (⟨some 22, .un .not (.t 21), none, []⟩, [21]),
  (⟨some 23, .move (.t 22), none, []⟩, [22]),
  (⟨some 24, .load (some 3) (.t 3), some (23, false), []⟩, []),
  (⟨some 25, .load (some 3) (.t 5), some (23, false), []⟩, []),
  (⟨some 26, .call false 34 [.t 24, .t 25], some (23, false), []⟩, [24, 25]),
  (⟨some 27, .pick (.t 23) (.c (.p (.bool true))) (.t 26), none, []⟩, [23, 26]),
  (⟨some 28, .move (.t 27), none, []⟩, [27]),
  (⟨some 29, .load (some 3) (.t 4), some (28, true), []⟩, []),
  (⟨some 30, .load (some 3) (.t 5), some (28, true), []⟩, []),
  (⟨some 31, .call false 33 [.t 29, .t 30], some (28, true), []⟩, [29, 30]),
  (⟨some 32, .un .not (.t 31), some (28, true), []⟩, [31]),
  (⟨some 33, .move (.t 32), some (28, true), []⟩, [32]),
  (⟨some 34, .load (some 3) (.t 3), some (33, false), []⟩, []),
  (⟨some 35, .load (some 3) (.t 5), some (33, false), []⟩, []),
  (⟨some 36, .call false 33 [.t 34, .t 35], some (33, false), []⟩, [34, 35]),
  (⟨some 37, .pick (.t 33) (.c (.p (.bool true))) (.t 36), some (28, true), []⟩, [33, 36]),
  (⟨some 38, .pick (.t 28) (.t 37) (.c (.p (.bool false))), none, []⟩, [28, 37]),
  (⟨some 39, .move (.t 38), none, []⟩, [38]),
  (⟨some 40, .call false 16 [], some (39, true), []⟩, []),
  (⟨some 41, .pick (.t 39) (.t 40) (.c (.p (.bool false))), none, []⟩, [39, 40]),
  (⟨some 6, .move (.t 41), none, []⟩, [41])])
  .ret))))⟩

/-- clockwork/clockworklaw19.FootprintRelates -/
def a10 : AFunc := ⟨39, 2, [.tmp 4],
  (.seq (.regionK false [
  (⟨some 2, .box (.t 0), none, []⟩, [0]),
  (⟨some 3, .box (.t 1), none, []⟩, [1]),
  (⟨some 4, .move (.c (.p (.bool false))), none, []⟩, [4])])
  (.seq (.seq (.regionK false [
  (⟨some 6, .load (some 3) (.t 2), none, []⟩, []),
  (⟨some 7, .load (some 3) (.t 3), none, []⟩, []),
  (⟨some 8, .buildSlice [.bool false, .slice true [], .slice true []] 2 [(0, .t 6), (1, .t 7)], none, []⟩, [6, 7]),
  (⟨some 9, .call false 15 [.t 8], none, []⟩, [8]),
  (⟨some 10, .un .not (.t 9), none, []⟩, [9])])
  (.cond (.t 10)
  (.seq (.regionK false [
    (⟨some 11, .call false 16 [], none, []⟩, [10]),
    (⟨some 4, .move (.t 11), none, []⟩, [11])])
    .ret)
  .skip))
  (.seq (.regionK false [
  (⟨some 12, .load (some 3) (.t 2), none, []⟩, [10]),
  (⟨some 13, .load (some 3) (.t 3), none, []⟩, []),
  (⟨some 14, .call false 34 [.t 12, .t 13], none, []⟩, [12, 13]),
  (⟨some 5, .move (.t 14), none, []⟩, [14])])
  (.seq (.regionK true [
  (⟨some 15, .move (.t 5), none, []⟩, []),
  (⟨some 16, .load (some 3) (.t 2), none, []⟩, []),
  (⟨some 17, .load (some 3) (.t 3), none, []⟩, []),
  (⟨some 18, .call false 35 [.t 16, .t 17], none, [1, 2]⟩, [16, 17]),
  (⟨some 19, .eqb false (.t 15) (.t 18), none, [0, 1, 2, 3]⟩, [15, 18]),
  (⟨some 20, .move (.t 19), none, [0, 1, 2, 3, 4]⟩, [19]),
  (⟨some 21, .move (.t 5), some (20, true), [0, 1, 2, 3, 4, 5]⟩, [5]),
  (⟨some 22, .load (some 3) (.t 3), some (20, true), [0, 1, 2, 3, 4, 5]⟩, []),
  (⟨some 23, .load (some 3) (.t 2), some (20, true), [0, 1, 2, 3, 4, 5]⟩, []),
  (⟨some 24, .call false 34 [.t 22, .t 23], some (20, true), [0, 1, 2, 3, 4, 5, 7, 8]⟩, [22, 23]),
  (⟨some 25, .eqb false (.t 21) (.t 24), some (20, true), [0, 1, 2, 3, 4, 5, 6, 7, 8, 9]⟩, [21, 24]),
  (⟨some 26, .pick (.t 20) (.t 25) (.c (.p (.bool false))), none, [0, 1, 2, 3, 4, 5, 6, 7, 8, 9, 10]⟩, [20, 25]),
  (⟨some 27, .move (.t 26), none, [0, 1, 2, 3, 4, 5, 6, 7, 8, 9, 10, 11]⟩, [26]),
  (⟨some 28, .load (some 3) (.t 2), some (27, true), [0, 1, 2, 3, 4, 5, 6, 7, 8, 9, 10, 11, 12]⟩, []),
  (⟨some 29, .load (some 3) (.t 3), some (27, true), [0, 1, 2, 3, 4, 5, 6, 7, 8, 9, 10, 11, 12]⟩, []),
  (⟨some 30, .call false 33 [.t 28, .t 29], some (27, true), [0, 1, 2, 3, 4, 5, 6, 7, 8, 9, 10, 11, 12, 13, 14]⟩, [28, 29]),
  (⟨some 31, .load (some 3) (.t 2), some (27, true), [0, 1, 2, 3, 4, 5, 6, 7, 8, 9, 10, 11, 12]⟩, []),
  (⟨some 32, .load (some 3) (.t 3), some (27, true), [0, 1, 2, 3, 4, 5, 6, 7, 8, 9, 10, 11, 12]⟩, []),
  (⟨some 33, .call false 36 [.t 31, .t 32], some (27, true), [0, 1, 2, 3, 4, 5, 6, 7, 8, 9, 10, 11, 12, 13, 14, 15, 16, 17]⟩, [31, 32]),
  (⟨some 34, .eqb false (.t 30) (.t 33), some (27, true), [0, 1, 2, 3, 4, 5, 6, 7, 8, 9, 10, 11, 12, 13, 14, 15, 16, 17, 18]⟩, [30, 33]),
  (⟨some 35, .pick (.t 27) (.t 34) (.c (.p (.bool false))), none, [0, 1, 2, 3, 4, 5, 6, 7, 8, 9, 10, 11, 12, 13, 14, 15, 16, 17, 18, 19]⟩, [27, 34]),
  (⟨some 36, .move (.t 35), none, [0, 1, 2, 3, 4, 5, 6, 7, 8, 9, 10, 11, 12, 13, 14, 15, 16, 17, 18, 19, 20]⟩, [35]),
  (⟨some 37, .call false 16 [], some (36, true), [0, 1, 2, 3, 4, 5, 6, 7, 8, 9, 10, 11, 12, 13, 14, 15, 16, 17, 18, 19, 20, 21]⟩, []),
  (⟨some 38, .pick (.t 36) (.t 37) (.c (.p (.bool false))), none, [0, 1, 2, 3, 4, 5, 6, 7, 8, 9, 10, 11, 12, 13, 14, 15, 16, 17, 18, 19, 20, 21, 22]⟩, [36, 37]),
  (⟨some 4, .move (.t 38), none, [0, 1, 2, 3, 4, 5, 6, 7, 8, 9, 10, 11, 12, 13, 14, 15, 16, 17, 18, 19, 20, 21, 22, 23]⟩, [38])])
  .ret))))⟩

/-- clockwork/clockworklaw19.FootprintLeast -/
def a11 : AFunc := ⟨74, 3, [.tmp 6],
  (.seq (.regionK false [
  (⟨some 3, .box (.t 0), none, []⟩, [0]),
  (⟨some 4, .box (.t 1), none, []⟩, [1]),
  (⟨some 5, .box (.t 2), none, []⟩, [2]),
  (⟨some 6, .move (.c (.p (.bool false))), none, []⟩, [6])])
  (.seq (.seq (.regionK false [
  (⟨some 10, .load (some 3) (.t 3), none, []⟩, []),
  (⟨some 11, .load (some 3) (.t 4), none, []⟩, []),
  (⟨some 12, .load (some 3) (.t 5), none, []⟩, []),
  (⟨some 13, .buildSlice [.bool false, .slice true [], .slice true []] 3 [(0, .t 10), (1, .t 11), (2, .t 12)], none, []⟩, [10, 11, 12]),
  (⟨some 14, .call false 15 [.t 13], none, []⟩, [13]),
  (⟨some 15, .un .not (.t 14), none, []⟩, [14])])
  (.cond (.t 15)
  (.seq (.regionK false [
    (⟨some 16, .call false 16 [], none, []⟩, [15]),
    (⟨some 6, .move (.t 16), none, []⟩, [16])])
    .ret)
  .skip))
  (.seq (.regionK false [
  (⟨some 18, .load (some 3) (.t 3), none, []⟩, [15]),
  (⟨some 19, .load (some 3) (.t 4), none, []⟩, []),
  (⟨some 20, .call false 17 [.t 18, .t 19], none, []⟩, [18, 19]),
  (⟨some 17, .move (.t 20), none, []⟩, [20]),
  (⟨some 21, .extract (.t 17) 0, none, []⟩, []),
  (⟨some 22, .extract (.t 17) 1, none, []⟩, [17]),
  (⟨some 7, .alloc [.bool false, .slice true [], .slice true []], none, []⟩, []),
  (⟨none, .store 3 (.t 7) (.t 21), none, []⟩, [21]),
  (⟨some 8, .move (.t 22), none, []⟩, [22])])
  (.seq (.regionK false [
  (⟨some 23, .load (some 3) (.t 5), none, []⟩, []),
  (⟨some 24, .load (some 3) (.t 3), none, []⟩, []),
  (⟨some 25, .call false 33 [.t 23, .t 24], none, []⟩, [23, 24]),
  (⟨some 26, .move (.t 25), none, []⟩, [25]),
  (⟨some 27, .load (some 3) (.t 5), some (26, true), []⟩, []),
  (⟨some 28, .load (some 3) (.t 4), some (26, true), []⟩, []),
  (⟨some 29, .call false 33 [.t 27, .t 28], some (26, true), []⟩, [27, 28]),
  (⟨some 30, .pick (.t 26) (.t 29) (.c (.p (.bool false))), none, []⟩, [26, 29]),
  (⟨some 9, .move (.t 30), none, []⟩, [30])])
  (.seq (.seq (.regionK false [
  (⟨some 31, .move (.t 8), none, []⟩, []),
  (⟨some 32, .bin .neq (.t 31) (.c (.p (.int .i64 0))), none, []⟩, [31])])
  (.cond (.t 32)
  (.seq (.regionK false [
    (⟨some 33, .move (.t 8), none, []⟩, [32]),
    (⟨some 34, .bin .eql (.t 33) (.c (.p (.int .i64 1))), none, []⟩, [33]),
    (⟨some 35, .move (.t 34), none, []⟩, [34]),
    (⟨some 36, .move (.t 8), some (35, false), []⟩, [8]),
    (⟨some 37, .bin .eql (.t 36) (.c (.p (.int .i64 2))), some (35, false), []⟩, [36]),
    (⟨some 38, .pick (.t 35) (.c (.p (.bool true))) (.t 37), none, []⟩, [35, 37]),
    (⟨some 39, .move (.t 38), none, []⟩, [38]),
    (⟨some 40, .move (.t 9), some (39, true), []⟩, [9]),
    (⟨some 41, .un .not (.t 40), some (39, true), []⟩, [40]),
    (⟨some 42, .move (.t 41), some (39, true), []⟩, [41]),
    (⟨some 43, .fieldAddr 0 (.t 5), some (42, false), []⟩, []),
    (⟨some 44, .load none (.t 43), some (42, false), []⟩, [43]),
    (⟨some 45, .pick (.t 42) (.c (.p (.bool true))) (.t 44), some (39, true), []⟩, [42, 44]),
    (⟨some 46, .pick (.t 39) (.t 45) (.c (.p (.bool false))), none, []⟩, [39, 45]),
    (⟨some 47, .move (.t 46), none, []⟩, [46]),
    (⟨some 48, .call false 16 [], some (47, true), []⟩, []),
    (⟨some 49, .pick (.t 47) (.t 48) (.c (.p (.bool false))), none, []⟩, [47, 48]),
    (⟨some 6, .move (.t 49), none, []⟩, [49])])
    .ret)
  .skip))
  (.seq (.regionK false [
  (⟨some 50, .load (some 3) (.t 7), none, []⟩, [8, 32]),
  (⟨some 51, .call false 37 [.t 50], none, []⟩, [50]),
  (⟨some 52, .move (.t 51), none, []⟩, [51]),
  (⟨some 53, .load (some 3) (.t 7), some (52, true), []⟩, []),
  (⟨some 54, .load (some 3) (.t 3), some (52, true), []⟩, []),
  (⟨some 55, .call false 33 [.t 53, .t 54], some (52, true), []⟩, [53, 54]),
  (⟨some 56, .pick (.t 52) (.t 55) (.c (.p (.bool false))), none, []⟩, [52, 55]),
  (⟨some 57, .move (.t 56), none, []⟩, [56]),
  (⟨some 58, .load (some 3) (.t 7), some (57, true), []⟩, []),
  (⟨some 59, .load (some 3) (.t 4), some (57, true), []⟩, []),
  (⟨some 60, .call false 33 [.t 58, .t 59], some (57, true), []⟩, [58, 59]),
  (⟨some 61, .pick (.t 57) (.t 60) (.c (.p (.bool false))), none, []⟩, [57, 60]),
  (⟨some 62, .move (.t 61), none, []⟩, [61]),
  (⟨some 63, .move (.t 9), some (62, true), []⟩, [9]),
  (⟨some 64, .un .not (.t 63), some (62, true), []⟩, [63]),
  (⟨some 65, .move (.t 64), some (62, true), []⟩, [64]),
  (⟨some 66, .load (some 3) (.t 5), some (65, false), []⟩, []),
  (⟨some 67, .load (some 3) (.t 7), some (65, false), []⟩, []),
  (⟨some 68, .call false 33 [.t 66, .t 67], some (65, false), []⟩, [66, 67]),
  (⟨some 69, .pick (.t 65) (.c (.p (.bool true))) (.t 68), some (62, true), []⟩, [65, 68]),
  (⟨some 70, .pick (.t 62) (.t 69) (.c (.p (.bool false))), none, []⟩, [62, 69]),
  (⟨some 71, .move (.t 70), none, []⟩, [70]),
  (⟨some 72, .call false 16 [], some (71, true), []⟩, []),
  (⟨some 73, .pick (.t 71) (.t 72) (.c (.p (.bool false))), none, []⟩, [71, 72]),
  (⟨some 6, .move (.t 73), none, []⟩, [73])])
  .ret))))))⟩

/-- clockwork/clockworklaw19.FootprintForms -/
def a12 : AFunc := ⟨59, 2, [.tmp 4],
  (.seq (.regionK false [
  (⟨some 2, .box (.t 0), none, []⟩, [0]),
  (⟨some 3, .box (.t 1), none, []⟩, [1]),
  (⟨some 4, .move (.c (.p (.bool false))), none, []⟩, [4])])
  (.seq (.seq (.regionK false [
  (⟨some 9, .load (some 3) (.t 2), none, []⟩, []),
  (⟨some 10, .load (some 3) (.t 3), none, []⟩, []),
  (⟨some 11, .buildSlice [.bool false, .slice true [], .slice true []] 2 [(0, .t 9), (1, .t 10)], none, []⟩, [9, 10]),
  (⟨some 12, .call false 15 [.t 11], none, []⟩, [11]),
  (⟨some 13, .un .not (.t 12), none, []⟩, [12])])
  (.cond (.t 13)
  (.seq (.regionK false [
    (⟨some 14, .call false 16 [], none, []⟩, [13]),
    (⟨some 4, .move (.t 14), none, []⟩, [14])])
    .ret)
  .skip))
  (.seq (.regionK false [
  (⟨some 16, .load (some 3) (.t 2), none, []⟩, [13]),
  (⟨some 17, .call false 38 [.t 16], none, []⟩, [16]),
  (⟨some 15, .move (.t 17), none, []⟩, [17]),
  (⟨some 18, .extract (.t 15) 0, none, []⟩, []),
  (⟨some 19, .extract (.t 15) 1, none, []⟩, [15]),
  (⟨some 5, .alloc [.bool false, .slice true [], .slice true []], none, []⟩, []),
  (⟨none, .store 3 (.t 5) (.t 18), none, []⟩, [18]),
  (⟨some 6, .move (.t 19), none, []⟩, [19])])
  (.seq (.regionK false [
  (⟨some 21, .load (some 3) (.t 2), none, []⟩, []),
  (⟨some 22, .call false 39 [.t 21], none, []⟩, [21]),
  (⟨some 20, .move (.t 22), none, []⟩, [22]),
  (⟨some 23, .extract (.t 20) 0, none, []⟩, []),
  (⟨some 24, .extract (.t 20) 1, none, []⟩, [20]),
  (⟨some 7, .alloc [.bool false, .slice true [], .slice true []], none, []⟩, []),
  (⟨none, .store 3 (.t 7) (.t 23), none, []⟩, [23]),
  (⟨some 8, .move (.t 24), none, []⟩, [24])])
  (.seq (.regionK true [
  (⟨some 25, .load (some 3) (.t 2), none, []⟩, []),
  (⟨some 26, .call false 37 [.t 25], none, [0]⟩, [25]),
  (⟨some 27, .load (some 3) (.t 2), none, []⟩, []),
  (⟨some 28, .call false 40 [.t 27], none, [0, 1, 2]⟩, [27]),
  (⟨some 29, .eqb false (.t 26) (.t 28), none, [0, 1, 2, 3]⟩, [26, 28]),
  (⟨some 30, .move (.t 29), none, [0, 1, 2, 3, 4]⟩, [29]),
  (⟨some 31, .load (some 3) (.t 2), some (30, true), [0, 1, 2, 3, 4, 5]⟩, []),
  (⟨some 32, .load (some 3) (.t 3), some (30, true), [0, 1, 2, 3, 4, 5]⟩, []),
  (⟨some 33, .call false 41 [.t 31, .t 32], some (30, true), [0, 1, 2, 3, 4, 5, 6, 7]⟩, [31, 32]),
  (⟨some 34, .load (some 3) (.t 2), some (30, true), [0, 1, 2, 3, 4, 5]⟩, []),
  (⟨some 35, .load (some 3) (.t 3), some (30, true), [0, 1, 2, 3, 4, 5]⟩, []),
  (⟨some 36, .call false 19 [.t 34, .t 35], some (30, true), [0, 1, 2, 3, 4, 5, 6, 7, 8, 9, 10]⟩, [34, 35]),
  (⟨some 37, .eqb false (.t 33) (.t 36), some (30, true), [0, 1, 2, 3, 4, 5, 6, 7, 8, 9, 10, 11]⟩, [33, 36]),
  (⟨some 38, .pick (.t 30) (.t 37) (.c (.p (.bool false))), none, [0, 1, 2, 3, 4, 5, 6, 7, 8, 9, 10, 11, 12]⟩, [30, 37]),
  (⟨some 39, .move (.t 38), none, [0, 1, 2, 3, 4, 5, 6, 7, 8, 9, 10, 11, 12, 13]⟩, [38]),
  (⟨some 40, .load (some 3) (.t 5), some (39, true), [0, 1, 2, 3, 4, 5, 6, 7, 8, 9, 10, 11, 12, 13, 14]⟩, []),
  (⟨some 41, .load (some 3) (.t 7), some (39, true), [0, 1, 2, 3, 4, 5, 6, 7, 8, 9, 10, 11, 12, 13, 14]⟩, []),
  (⟨some 42, .call false 19 [.t 40, .t 41], some (39, true), [0, 1, 2, 3, 4, 5, 6, 7, 8, 9, 10, 11, 12, 13, 14, 15, 16]⟩, [40, 41]),
  (⟨some 43, .pick (.t 39) (.t 42) (.c (.p (.bool false))), none, [0, 1, 2, 3, 4, 5, 6, 7, 8, 9, 10, 11, 12, 13, 14, 15, 16, 17]⟩, [39, 42]),
  (⟨some 44, .move (.t 43), none, [0, 1, 2, 3, 4, 5, 6, 7, 8, 9, 10, 11, 12, 13, 14, 15, 16, 17, 18]⟩, [43]),
  (⟨some 45, .move (.t 6), some (44, true), [0, 1, 2, 3, 4, 5, 6, 7, 8, 9, 10, 11, 12, 13, 14, 15, 16, 17, 18, 19]⟩, [6]),
  (⟨some 46, .move (.t 8), some (44, true), [0, 1, 2, 3, 4, 5, 6, 7, 8, 9, 10, 11, 12, 13, 14, 15, 16, 17, 18, 19]⟩, [8]),
  (⟨some 47, .bin .eql (.t 45) (.t 46), some (44, true), [0, 1, 2, 3, 4, 5, 6, 7, 8, 9, 10, 11, 12, 13, 14, 15, 16, 17, 18, 19, 20, 21]⟩, [45, 46]),
  (⟨some 48, .pick (.t 44) (.t 47) (.c (.p (.bool false))), none, [0, 1, 2, 3, 4, 5, 6, 7, 8, 9, 10, 11, 12, 13, 14, 15, 16, 17, 18, 19, 20, 21, 22]⟩, [44, 47]),
  (⟨some 49, .move (.t 48), none, [0, 1, 2, 3, 4, 5, 6, 7, 8, 9, 10, 11, 12, 13, 14, 15, 16, 17, 18, 19, 20, 21, 22, 23]⟩, [48]),
  (⟨some 50, .load (some 3) (.t 2), some (49, true), [0, 1, 2, 3, 4, 5, 6, 7, 8, 9, 10, 11, 12, 13, 14, 15, 16, 17, 18, 19, 20, 21, 22, 23, 24]⟩, []),
  (⟨some 51, .call false 43 [.t 50], some (49, true), [0, 1, 2, 3, 4, 5, 6, 7, 8, 9, 10, 11, 12, 13, 14, 15, 16, 17, 18, 19, 20, 21, 22, 23, 24, 25]⟩, [50]),
  (⟨some 52, .load (some 3) (.t 2), some (49, true), [0, 1, 2, 3, 4, 5, 6, 7, 8, 9, 10, 11, 12, 13, 14, 15, 16, 17, 18, 19, 20, 21, 22, 23, 24]⟩, []),
  (⟨some 53, .call false 44 [.t 52], some (49, true), [0, 1, 2, 3, 4, 5, 6, 7, 8, 9, 10, 11, 12, 13, 14, 15, 16, 17, 18, 19, 20, 21, 22, 23, 24, 25, 26, 27]⟩, [52]),
  (⟨some 54, .call false 42 [.t 51, .t 53], some (49, true), [0, 1, 2, 3, 4, 5, 6, 7, 8, 9, 10, 11, 12, 13, 14, 15, 16, 17, 18, 19, 20, 21, 22, 23, 24, 25, 26, 27, 28]⟩, [51, 53]),
  (⟨some 55, .pick (.t 49) (.t 54) (.c (.p (.bool false))), none, [0, 1, 2, 3, 4, 5, 6, 7, 8, 9, 10, 11, 12, 13, 14, 15, 16, 17, 18, 19, 20, 21, 22, 23, 24, 25, 26, 27, 28, 29]⟩, [49, 54]),
  (⟨some 56, .move (.t 55), none, [0, 1, 2, 3, 4, 5, 6, 7, 8, 9, 10, 11, 12, 13, 14, 15, 16, 17, 18, 19, 20, 21, 22, 23, 24, 25, 26, 27, 28, 29, 30]⟩, [55]),
  (⟨some 57, .call false 16 [], some (56, true), [0, 1, 2, 3, 4, 5, 6, 7, 8, 9, 10, 11, 12, 13, 14, 15, 16, 17, 18, 19, 20, 21, 22, 23, 24, 25, 26, 27, 28, 29, 30, 31]⟩, []),
  (⟨some 58, .pick (.t 56) (.t 57) (.c (.p (.bool false))), none, [0, 1, 2, 3, 4, 5, 6, 7, 8, 9, 10, 11, 12, 13, 14, 15, 16, 17, 18, 19, 20, 21, 22, 23, 24, 25, 26, 27, 28, 29, 30, 31, 32]⟩, [56, 57]),
  (⟨some 4, .move (.t 58), none, [0, 1, 2, 3, 4, 5, 6, 7, 8, 9, 10, 11, 12, 13, 14, 15, 16, 17, 18, 19, 20, 21, 22, 23, 24, 25, 26, 27, 28, 29, 30, 31, 32, 33]⟩, [58])])
  .ret)))))⟩

/-- clockwork/clockworklaw19.FootprintProjects -/
def a13 : AFunc := ⟨44, 3, [.tmp 6],
  (.seq (.regionK false [
  (⟨some 3, .box (.t 0), none, []⟩, [0]),
  (⟨some 4, .box (.t 1), none, []⟩, [1]),
  (⟨some 5, .box (.t 2), none, []⟩, [2]),
  (⟨some 6, .move (.c (.p (.bool false))), none, []⟩, [6])])
  (.seq (.regionK false [
  (⟨some 8, .load (some 8) (.t 5), none, []⟩, []),
  (⟨some 9, .call false 45 [.t 8], none, []⟩, [8]),
  (⟨some 7, .alloc [.bool false, .slice true [], .slice true []], none, []⟩, []),
  (⟨none, .store 3 (.t 7) (.t 9), none, []⟩, [9])])
  (.seq (.seq (.regionK false [
  (⟨some 10, .load (some 3) (.t 3), none, []⟩, []),
  (⟨some 11, .load (some 3) (.t 7), none, []⟩, []),
  (⟨some 12, .buildSlice [.bool false, .slice true [], .slice true []] 2 [(0, .t 10), (1, .t 11)], none, []⟩, [10, 11]),
  (⟨some 13, .call false 15 [.t 12], none, []⟩, [12]),
  (⟨some 14, .un .not (.t 13), none, []⟩, [13]),
  (⟨some 15, .move (.t 14), none, []⟩, [14]),
  (⟨some 16, .fieldAddr 0 (.t 4), some (15, false), []⟩, []),
  (⟨some 17, .load none (.t 16), some (15, false), []⟩, [16]),
  (⟨some 18, .lenS (.t 17), some (15, false), []⟩, [17]),
  (⟨some 19, .bin .gtr (.t 18) (.c (.p (.int .i64 100))), some (15, false), []⟩, [18]),
  (⟨some 20, .pick (.t 15) (.c (.p (.bool true))) (.t 19), none, []⟩, [15, 19]),
  (⟨some 21, .move (.t 20), none, []⟩, [20]),
  (⟨some 22, .fieldAddr 1 (.t 4), some (21, false), []⟩, []),
  (⟨some 23, .load none (.t 22), some (21, false), []⟩, [22]),
  (⟨some 24, .lenS (.t 23), some (21, false), []⟩, [23]),
  (⟨some 25, .bin .gtr (.t 24) (.c (.p (.int .i64 100))), some (21, false), []⟩, [24]),
  (⟨some 26, .pick (.t 21) (.c (.p (.bool true))) (.t 25), none, []⟩, [21, 25])])
  (.cond (.t 26)
  (.seq (.regionK false [
    (⟨some 27, .call false 16 [], none, []⟩, [26]),
    (⟨some 6, .move (.t 27), none, []⟩, [27])])
    .ret)
  .skip))
  (.seq (.regionK true [
  (⟨some 28, .load (some 3) (.t 3), none, []⟩, [26]),
  (⟨some 29, .load (some 2) (.t 4), none, []⟩, []),
  (⟨some 30, .call false 46 [.t 28, .t 29], none, [0, 1]⟩, [28, 29]),
  (⟨some 31, .load (some 3) (.t 3), none, []⟩, []),
  (⟨some 32, .load (some 2) (.t 4), none, []⟩, []),
  (⟨some 33, .call false 47 [.t 31, .t 32], none, [0, 1, 2, 3, 4]⟩, [31, 32]),
  (⟨some 34, .call false 19 [.t 30, .t 33], none, [0, 1, 2, 3, 4, 5]⟩, [30, 33]),
  (⟨some 35, .move (.t 34), none, [0, 1, 2, 3, 4, 5, 6]⟩, [34]),
  (⟨some 36, .load (some 8) (.t 5), some (35, true), [0, 1, 2, 3, 4, 5, 6, 7]⟩, []),
  (⟨some 37, .call false 48 [.t 36], some (35, true), [0, 1, 2, 3, 4, 5, 6, 7, 8]⟩, [36]),
  (⟨some 38, .load (some 3) (.t 7), some (35, true), [0, 1, 2, 3, 4, 5, 6, 7]⟩, []),
  (⟨some 39, .call false 19 [.t 37, .t 38], some (35, true), [0, 1, 2, 3, 4, 5, 6, 7, 8, 9, 10]⟩, [37, 38]),
  (⟨some 40, .pick (.t 35) (.t 39) (.c (.p (.bool false))), none, [0, 1, 2, 3, 4, 5, 6, 7, 8, 9, 10, 11]⟩, [35, 39]),
  (⟨some 41, .move (.t 40), none, [0, 1, 2, 3, 4, 5, 6, 7, 8, 9, 10, 11, 12]⟩, [40]),
  (⟨some 42, .call false 16 [], some (41, true), [0, 1, 2, 3, 4, 5, 6, 7, 8, 9, 10, 11, 12, 13]⟩, []),
  (⟨some 43, .pick (.t 41) (.t 42) (.c (.p (.bool false))), none, [0, 1, 2, 3, 4, 5, 6, 7, 8, 9, 10, 11, 12, 13, 14]⟩, [41, 42]),
  (⟨some 6, .move (.t 43), none, [0, 1, 2, 3, 4, 5, 6, 7, 8, 9, 10, 11, 12, 13, 14, 15]⟩, [43])])
  .ret))))⟩

/-- clockwork/clockworklaw19.FootprintSplits -/
def a14 : AFunc := ⟨97, 3, [.tmp 6],
  (.seq (.regionK false [
  (⟨some 3, .box (.t 0), none, []⟩, [0]),
  (⟨some 4, .box (.t 1), none, []⟩, [1]),
  (⟨some 6, .move (.c (.p (.bool false))), none, []⟩, [6])])
  (.seq (.seq (.regionK false [
  (⟨some 14, .load (some 3) (.t 3), none, []⟩, []),
  (⟨some 15, .buildSlice [.bool false, .slice true [], .slice true []] 1 [(0, .t 14)], none, []⟩, [14]),
  (⟨some 16, .call false 15 [.t 15], none, []⟩, [15]),
  (⟨some 17, .un .not (.t 16), none, []⟩, [16]),
  (⟨some 18, .move (.t 17), none, []⟩, [17]),
  (⟨some 19, .fieldAddr 0 (.t 4), some (18, false), []⟩, []),
  (⟨some 20, .load none (.t 19), some (18, false), []⟩, [19]),
  (⟨some 21, .lenS (.t 20), some (18, false), []⟩, [20]),
  (⟨some 22, .bin .gtr (.t 21) (.c (.p (.int .i64 100))), some (18, false), []⟩, [21]),
  (⟨some 23, .pick (.t 18) (.c (.p (.bool true))) (.t 22), none, []⟩, [18, 22]),
  (⟨some 24, .move (.t 23), none, []⟩, [23]),
  (⟨some 25, .fieldAddr 1 (.t 4), some (24, false), []⟩, []),
  (⟨some 26, .load none (.t 25), some (24, false), []⟩, [25]),
  (⟨some 27, .lenS (.t 26), some (24, false), []⟩, [26]),
  (⟨some 28, .bin .gtr (.t 27) (.c (.p (.int .i64 100))), some (24, false), []⟩, [27]),
  (⟨some 29, .pick (.t 24) (.c (.p (.bool true))) (.t 28), none, []⟩, [24, 28]),
  (⟨some 30, .move (.t 29), none, []⟩, [29]),
  (⟨some 31, .move (.t 2), some (30, false), []⟩, []),
  (⟨some 32, .lenS (.t 31), some (30, false), []⟩, [31]),
  (⟨some 33, .bin .gtr (.t 32) (.c (.p (.int .i64 100))), some (30, false), []⟩, [32]),
  (⟨some 34, .pick (.t 30) (.c (.p (.bool true))) (.t 33), none, []⟩, [30, 33])])
  (.cond (.t 34)
  (.seq (.regionK false [
    (⟨some 35, .call false 16 [], none, []⟩, [2, 34]),
    (⟨some 6, .move (.t 35), none, []⟩, [35])])
    .ret)
  .skip))
  (.seq (.regionK false [
  (⟨some 37, .load (some 2) (.t 4), none, []⟩, [34]),
  (⟨some 38, .move (.t 2), none, []⟩, [2]),
  (⟨some 39, .call false 49 [.t 37, .t 38], none, []⟩, [37, 38]),
  (⟨some 36, .move (.t 39), none, []⟩, [39]),
  (⟨some 40, .extract (.t 36) 0, none, []⟩, []),
  (⟨some 41, .extract (.t 36) 1, none, []⟩, []),
  (⟨some 42, .extract (.t 36) 2, none, []⟩, [36]),
  (⟨some 7, .alloc [.str ⟨#[]⟩, .str ⟨#[]⟩], none, []⟩, []),
  (⟨some 8, .alloc [.str ⟨#[]⟩, .str ⟨#[]⟩], none, []⟩, []),
  (⟨none, .store 2 (.t 7) (.t 40), none, []⟩, [40]),
  (⟨none, .store 2 (.t 8) (.t 41), none, []⟩, [41]),
  (⟨some 9, .move (.t 42), none, []⟩, [42])])
  (.seq (.seq (.regionK false [
  (⟨some 43, .move (.t 9), none, []⟩, [9]),
  (⟨some 44, .bin .neq (.t 43) (.c (.p (.int .i64 0))), none, []⟩, [43]),
  (⟨some 45, .move (.t 44), none, []⟩, [44]),
  (⟨some 46, .load (some 3) (.t 3), some (45, false), []⟩, []),
  (⟨some 47, .call false 37 [.t 46], some (45, false), []⟩, [46]),
  (⟨some 48, .un .not (.t 47), some (45, false), []⟩, [47]),
  (⟨some 49, .pick (.t 45) (.c (.p (.bool true))) (.t 48), none, []⟩, [45, 48])])
  (.cond (.t 49)
  (.seq (.regionK false [
    (⟨some 50, .call false 16 [], none, []⟩, [49]),
    (⟨some 6, .move (.t 50), none, []⟩, [50])])
    .ret)
  .skip))
  (.seq (.regionK false [
  (⟨some 51, .load (some 3) (.t 3), none, []⟩, [49]),
  (⟨some 52, .load (some 2) (.t 7), none, []⟩, []),
  (⟨some 53, .call false 46 [.t 51, .t 52], none, []⟩, [51, 52]),
  (⟨some 10, .alloc [.bool false, .slice true [], .slice true []], none, []⟩, []),
  (⟨none, .store 3 (.t 10) (.t 53), none, []⟩, [53])])
  (.seq (.regionK false [
  (⟨some 54, .load (some 3) (.t 3), none, []⟩, []),
  (⟨some 55, .load (some 2) (.t 8), none, []⟩, []),
  (⟨some 56, .call false 46 [.t 54, .t 55], none, []⟩, [54, 55]),
  (⟨some 11, .alloc [.bool false, .slice true [], .slice true []], none, []⟩, []),
  (⟨none, .store 3 (.t 11) (.t 56), none, []⟩, [56])])
  (.seq (.regionK false [
  (⟨some 58, .load (some 3) (.t 10), none, []⟩, []),
  (⟨some 59, .load (some 3) (.t 11), none, []⟩, []),
  (⟨some 60, .call false 17 [.t 58, .t 59], none, []⟩, [58, 59]),
  (⟨some 57, .move (.t 60), none, []⟩, [60]),
  (⟨some 61, .extract (.t 57) 0, none, []⟩, []),
  (⟨some 62, .extract (.t 57) 1, none, []⟩, [57]),
  (⟨some 12, .alloc [.bool false, .slice true [], .slice true []], none, []⟩, []),
  (⟨none, .store 3 (.t 12) (.t 61), none, []⟩, [61]),
  (⟨some 13, .move (.t 62), none, []⟩, [62])])
  (.seq (.regionK true [
  (⟨some 63, .move (.t 13), none, []⟩, [13]),
  (⟨some 64, .bin .eql (.t 63) (.c (.p (.int .i64 0))), none, [0]⟩, [63]),
  (⟨some 65, .move (.t 64), none, [0, 1]⟩, [64]),
  (⟨some 66, .load (some 3) (.t 12), some (65, true), [0, 1, 2]⟩, []),
  (⟨some 67, .load (some 3) (.t 3), some (65, true), [0, 1, 2]⟩, []),
  (⟨some 68, .load (some 2) (.t 4), some (65, true), [0, 1, 2]⟩, []),
  (⟨some 69, .call false 46 [.t 67, .t 68], some (65, true), [0, 1, 2, 4, 5]⟩, [67, 68]),
  (⟨some 70, .call false 19 [.t 66, .t 69], some (65, true), [0, 1, 2, 3, 4, 5, 6]⟩, [66, 69]),
  (⟨some 71, .pick (.t 65) (.t 70) (.c (.p (.bool false))), none, [0, 1, 2, 3, 4, 5, 6, 7]⟩, [65, 70]),
  (⟨some 72, .move (.t 71), none, [0, 1, 2, 3, 4, 5, 6, 7, 8]⟩, [71]),
  (⟨some 73, .load (some 3) (.t 3), some (72, true), [0, 1, 2, 3, 4, 5, 6, 7, 8, 9]⟩, []),
  (⟨some 74, .load (some 3) (.t 12), some (72, true), [0, 1, 2, 3, 4, 5, 6, 7, 8, 9]⟩, []),
  (⟨some 75, .call false 33 [.t 73, .t 74], some (72, true), [0, 1, 2, 3, 4, 5, 6, 7, 8, 9, 10, 11]⟩, [73, 74]),
  (⟨some 76, .pick (.t 72) (.t 75) (.c (.p (.bool false))), none, [0, 1, 2, 3, 4, 5, 6, 7, 8, 9, 10, 11, 12]⟩, [72, 75]),
  (⟨some 77, .move (.t 76), none, [0, 1, 2, 3, 4, 5, 6, 7, 8, 9, 10, 11, 12, 13]⟩, [76]),
  (⟨some 78, .fieldAddr 0 (.t 3), some (77, true), [0, 1, 2, 3, 4, 5, 6, 7, 8, 9, 10, 11, 12, 13, 14]⟩, []),
  (⟨some 79, .load none (.t 78), some (77, true), [0, 1, 2, 3, 4, 5, 6, 7, 8, 9, 10, 11, 12, 13, 14, 15]⟩, [78]),
  (⟨some 80, .move (.t 79), some (77, true), [0, 1, 2, 3, 4, 5, 6, 7, 8, 9, 10, 11, 12, 13, 14, 15, 16]⟩, [79]),
  (⟨some 81, .fieldAddr 1 (.t 10), some (80, false), [0, 1, 2, 3, 4, 5, 6, 7, 8, 9, 10, 11, 12, 13, 14, 15, 16, 17]⟩, []),
  (⟨some 82, .load none (.t 81), some (80, false), [0, 1, 2, 3, 4, 5, 6, 7, 8, 9, 10, 11, 12, 13, 14, 15, 16, 17, 18]⟩, [81]),
  (⟨some 83, .len (.t 82), some (80, false), [0, 1, 2, 3, 4, 5, 6, 7, 8, 9, 10, 11, 12, 13, 14, 15, 16, 17, 18, 19]⟩, [82]),
  (⟨some 84, .fieldAddr 1 (.t 11), some (80, false), [0, 1, 2, 3, 4, 5, 6, 7, 8, 9, 10, 11, 12, 13, 14, 15, 16, 17]⟩, []),
  (⟨some 85, .load none (.t 84), some (80, false), [0, 1, 2, 3, 4, 5, 6, 7, 8, 9, 10, 11, 12, 13, 14, 15, 16, 17, 21]⟩, [84]),
  (⟨some 86, .len (.t 85), some (80, false), [0, 1, 2, 3, 4, 5, 6, 7, 8, 9, 10, 11, 12, 13, 14, 15, 16, 17, 21, 22]⟩, [85]),
  (⟨some 87, .bin .add (.t 83) (.t 86), some (80, false), [0, 1, 2, 3, 4, 5, 6, 7, 8, 9, 10, 11, 12, 13, 14, 15, 16, 17, 18, 19, 20, 21, 22, 23]⟩, [83, 86]),
  (⟨some 88, .fieldAddr 1 (.t 12), some (80, false), [0, 1, 2, 3, 4, 5, 6, 7, 8, 9, 10, 11, 12, 13, 14, 15, 16, 17]⟩, []),
  (⟨some 89, .load none (.t 88), some (80, false), [0, 1, 2, 3, 4, 5, 6, 7, 8, 9, 10, 11, 12, 13, 14, 15, 16, 17, 25]⟩, [88]),
  (⟨some 90, .len (.t 89), some (80, false), [0, 1, 2, 3, 4, 5, 6, 7, 8, 9, 10, 11, 12, 13, 14, 15, 16, 17, 25, 26]⟩, [89]),
  (⟨some 91, .bin .eql (.t 87) (.t 90), some (80, false), [0, 1, 2, 3, 4, 5, 6, 7, 8, 9, 10, 11, 12, 13, 14, 15, 16, 17, 18, 19, 20, 21, 22, 23, 24, 25, 26, 27]⟩, [87, 90]),
  (⟨some 92, .pick (.t 80) (.c (.p (.bool true))) (.t 91), some (77, true), [0, 1, 2, 3, 4, 5, 6, 7, 8, 9, 10, 11, 12, 13, 14, 15, 16, 17, 18, 19, 20, 21, 22, 23, 24, 25, 26, 27, 28]⟩, [80, 91]),
  (⟨some 93, .pick (.t 77) (.t 92) (.c (.p (.bool false))), none, [0, 1, 2, 3, 4, 5, 6, 7, 8, 9, 10, 11, 12, 13, 14, 15, 16, 17, 18, 19, 20, 21, 22, 23, 24, 25, 26, 27, 28, 29]⟩, [77, 92]),
  (⟨some 94, .move (.t 93), none, [0, 1, 2, 3, 4, 5, 6, 7, 8, 9, 10, 11, 12, 13, 14, 15, 16, 17, 18, 19, 20, 21, 22, 23, 24, 25, 26, 27, 28, 29, 30]⟩, [93]),
  (⟨some 95, .call false 16 [], some (94, true), [0, 1, 2, 3, 4, 5, 6, 7, 8, 9, 10, 11, 12, 13, 14, 15, 16, 17, 18, 19, 20, 21, 22, 23, 24, 25, 26, 27, 28, 29, 30, 31]⟩, []),
  (⟨some 96, .pick (.t 94) (.t 95) (.c (.p (.bool false))), none, [0, 1, 2, 3, 4, 5, 6, 7, 8, 9, 10, 11, 12, 13, 14, 15, 16, 17, 18, 19, 20, 21, 22, 23, 24, 25, 26, 27, 28, 29, 30, 31, 32]⟩, [94, 95]),
  (⟨some 6, .move (.t 96), none, [0, 1, 2, 3, 4, 5, 6, 7, 8, 9, 10, 11, 12, 13, 14, 15, 16, 17, 18, 19, 20, 21, 22, 23, 24, 25, 26, 27, 28, 29, 30, 31, 32, 33]⟩, [96])])
  .ret))))))))⟩

/-- clockwork/clockworklaw19.few -/
@[irreducible] def a15_l0 : ACode :=
  (.seq (.seq (.regionK false [
  (⟨some 4, .move (.t 3), none, []⟩, []),
  (⟨some 5, .move (.t 0), none, []⟩, []),
  (⟨some 6, .len (.t 5), none, []⟩, [5]),
  (⟨some 7, .bin .lss (.t 4) (.t 6), none, []⟩, [4, 6])])
  (.cond (.t 7)
  .skip
  (.ghost (.forget [0, 3, 7]) (.ghost .lower (.exit 0)))))
  (.seq (.block 1
  (.seq (.regionK false [
    (⟨some 10, .move (.t 0), none, []⟩, [7]),
    (⟨some 11, .move (.t 3), none, []⟩, []),
    (⟨some 12, .indexAddr 3 (.t 10) (.t 11), none, []⟩, [10, 11]),
    (⟨some 13, .load (some 3) (.t 12), none, []⟩, [12]),
    (⟨some 14, .call false 50 [.t 13, .c (.p (.int .i64 80))], none, []⟩, [13]),
    (⟨some 15, .un .not (.t 14), none, []⟩, [14])])
    (.cond (.t 15)
    (.seq (.regionK false [
      (⟨some 2, .move (.c (.p (.bool false))), none, []⟩, [0, 3, 15])])
      .ret)
    .skip)))
  (.regionK false [
  (⟨some 8, .move (.t 3), none, []⟩, [15]),
  (⟨some 9, .bin .add (.t 8) (.c (.p (.int .i64 1))), none, []⟩, [8]),
  (⟨some 3, .move (.t 9), none, []⟩, [9])])))

def a15 : AFunc := ⟨16, 1, [.tmp 2],
  (.seq (.regionK false [
  (⟨some 2, .move (.c (.p (.bool false))), none, []⟩, [2])])
  (.seq (.seq (.regionK false [
  (⟨some 3, .move (.c (.p (.int .i64 0))), none, []⟩, [])])
  (.block 0
  (.loop
    (.ghost .lower a15_l0))))
  (.seq (.regionK false [
  (⟨some 2, .move (.c (.p (.bool true))), none, []⟩, [])])
  .ret)))⟩

/-- clockwork/clockworklaw19.lives -/
def a16 : AFunc := ⟨66, 0, [.tmp 0],
  (.seq (.regionK false [
  (⟨some 0, .move (.c (.p (.bool false))), none, []⟩, [0])])
  (.seq (.regionK false [
  (⟨some 7, .buildSlice [.str ⟨#[]⟩] 3 [(0, .c (.p (.str ⟨#[98]⟩))), (1, .c (.p (.str ⟨#[97]⟩))), (2, .c (.p (.str ⟨#[98]⟩)))], none, []⟩, []),
  (⟨some 8, .build [.bool false, .slice true [], .slice true []] [(1, 1, .t 7)], none, []⟩, [7]),
  (⟨some 9, .call false 38 [.t 8], none, []⟩, [8]),
  (⟨some 6, .move (.t 9), none, []⟩, [9]),
  (⟨some 10, .extract (.t 6) 0, none, []⟩, []),
  (⟨some 11, .extract (.t 6) 1, none, []⟩, [6]),
  (⟨some 1, .alloc [.bool false, .slice true [], .slice true []], none, []⟩, []),
  (⟨none, .store 3 (.t 1) (.t 10), none, []⟩, [10]),
  (⟨some 2, .move (.t 11), none, []⟩, [11])])
  (.seq (.regionK false [
  (⟨some 13, .buildSlice [.str ⟨#[]⟩] 1 [(0, .c (.p (.str ⟨#[97]⟩)))], none, []⟩, []),
  (⟨some 14, .build [.bool false, .slice true [], .slice true []] [(1, 1, .t 13)], none, []⟩, [13]),
  (⟨some 15, .buildSlice [.str ⟨#[]⟩] 1 [(0, .c (.p (.str ⟨#[98]⟩)))], none, []⟩, []),
  (⟨some 16, .buildSlice [.str ⟨#[]⟩] 1 [(0, .c (.p (.str ⟨#[97]⟩)))], none, []⟩, []),
  (⟨some 17, .build [.bool false, .slice true [], .slice true []] [(1, 1, .t 15), (2, 1, .t 16)], none, []⟩, [15, 16]),
  (⟨some 18, .call false 17 [.t 14, .t 17], none, []⟩, [14, 17]),
  (⟨some 12, .move (.t 18), none, []⟩, [18]),
  (⟨some 19, .extract (.t 12) 0, none, []⟩, []),
  (⟨some 20, .extract (.t 12) 1, none, []⟩, [12]),
  (⟨some 3, .alloc [.bool false, .slice true [], .slice true []], none, []⟩, []),
  (⟨none, .store 3 (.t 3) (.t 19), none, []⟩, [19]),
  (⟨some 4, .move (.t 20), none, []⟩, [20])])
  (.seq (.regionK false [
  (⟨some 21, .buildSlice [.str ⟨#[]⟩] 1 [(0, .c (.p (.str ⟨#[120]⟩)))], none, []⟩, []),
  (⟨some 22, .buildSlice [.str ⟨#[]⟩] 1 [(0, .c (.p (.str ⟨#[121]⟩)))], none, []⟩, []),
  (⟨some 23, .build [.bool false, .slice true [], .slice true []] [(1, 1, .t 21), (2, 1, .t 22)], none, []⟩, [21, 22]),
  (⟨some 5, .alloc [.bool false, .slice true [], .slice true []], none, []⟩, []),
  (⟨none, .store 3 (.t 5) (.t 23), none, []⟩, [23])])
  (.seq (.regionK false [
  (⟨some 24, .fieldAddr 1 (.t 1), none, []⟩, []),
  (⟨some 25, .load none (.t 24), none, []⟩, [24]),
  (⟨some 26, .buildSlice [.str ⟨#[]⟩] 2 [(0, .c (.p (.str ⟨#[97]⟩))), (1, .c (.p (.str ⟨#[98]⟩)))], none, []⟩, []),
  (⟨some 27, .call false 42 [.t 25, .t 26], none, []⟩, [25, 26]),
  (⟨some 28, .move (.t 27), none, []⟩, [27]),
  (⟨some 29, .move (.t 2), some (28, true), []⟩, [2]),
  (⟨some 30, .bin .eql (.t 29) (.c (.p (.int .i64 0))), some (28, true), []⟩, [29]),
  (⟨some 31, .pick (.t 28) (.t 30) (.c (.p (.bool false))), none, []⟩, [28, 30]),
  (⟨some 32, .move (.t 31), none, []⟩, [31]),
  (⟨some 33, .fieldAddr 1 (.t 3), some (32, true), []⟩, []),
  (⟨some 34, .load none (.t 33), some (32, true), []⟩, [33]),
  (⟨some 35, .buildSlice [.str ⟨#[]⟩] 2 [(0, .c (.p (.str ⟨#[97]⟩))), (1, .c (.p (.str ⟨#[98]⟩)))], some (32, true), []⟩, []),
  (⟨some 36, .call false 42 [.t 34, .t 35], some (32, true), []⟩, [34, 35]),
  (⟨some 37, .pick (.t 32) (.t 36) (.c (.p (.bool false))), none, []⟩, [32, 36]),
  (⟨some 38, .move (.t 37), none, []⟩, [37]),
  (⟨some 39, .fieldAddr 2 (.t 3), some (38, true), []⟩, []),
  (⟨some 40, .load none (.t 39), some (38, true), []⟩, [39]),
  (⟨some 41, .buildSlice [.str ⟨#[]⟩] 1 [(0, .c (.p (.str ⟨#[97]⟩)))], some (38, true), []⟩, []),
  (⟨some 42, .call false 42 [.t 40, .t 41], some (38, true), []⟩, [40, 41]),
  (⟨some 43, .pick (.t 38) (.t 42) (.c (.p (.bool false))), none, []⟩, [38, 42]),
  (⟨some 44, .move (.t 43), none, []⟩, [43]),
  (⟨some 45, .move (.t 4), some (44, true), []⟩, [4]),
  (⟨some 46, .bin .eql (.t 45) (.c (.p (.int .i64 0))), some (44, true), []⟩, [45]),
  (⟨some 47, .pick (.t 44) (.t 46) (.c (.p (.bool false))), none, []⟩, [44, 46]),
  (⟨some 48, .move (.t 47), none, []⟩, [47]),
  (⟨some 49, .load (some 3) (.t 5), some (48, true), []⟩, []),
  (⟨some 50, .buildSlice [.str ⟨#[]⟩] 1 [(0, .c (.p (.str ⟨#[121]⟩)))], some (48, true), []⟩, []),
  (⟨some 51, .build [.bool false, .slice true [], .slice true []] [(1, 1, .t 50)], some (48, true), []⟩, [50]),
  (⟨some 52, .call false 34 [.t 49, .t 51], some (48, true), []⟩, [49, 51]),
  (⟨some 53, .pick (.t 48) (.t 52) (.c (.p (.bool false))), none, []⟩, [48, 52]),
  (⟨some 54, .move (.t 53), none, []⟩, [53]),
  (⟨some 55, .load (some 3) (.t 5), some (54, true), []⟩, []),
  (⟨some 56, .buildSlice [.str ⟨#[]⟩] 1 [(0, .c (.p (.str ⟨#[120]⟩)))], some (54, true), []⟩, []),
  (⟨some 57, .build [.bool false, .slice true [], .slice true []] [(1, 1, .t 56)], some (54, true), []⟩, [56]),
  (⟨some 58, .call false 34 [.t 55, .t 57], some (54, true), []⟩, [55, 57]),
  (⟨some 59, .un .not (.t 58), some (54, true), []⟩, [58]),
  (⟨some 60, .pick (.t 54) (.t 59) (.c (.p (.bool false))), none, []⟩, [54, 59]),
  (⟨some 61, .move (.t 60), none, []⟩, [60]),
  (⟨some 62, .build [.bool false, .slice true [], .slice true []] [], some (61, true), []⟩, []),
  (⟨some 63, .build [.bool false, .slice true [], .slice true []] [(0, 1, .c (.p (.bool true)))], some (61, true), []⟩, []),
  (⟨some 64, .call false 34 [.t 62, .t 63], some (61, true), []⟩, [62, 63]),
  (⟨some 65, .pick (.t 61) (.t 64) (.c (.p (.bool false))), none, []⟩, [61, 64]),
  (⟨some 0, .move (.t 65), none, []⟩, [65])])
  .ret)))))⟩

/-- clockwork/footprint.Union -/
def a17 : AFunc := ⟨37, 2, [.cell 4 3, .tmp 5],
  (.seq (.regionK false [
  (⟨some 2, .box (.t 0), none, []⟩, [0]),
  (⟨some 3, .box (.t 1), none, []⟩, [1]),
  (⟨some 4, .alloc [.bool false, .slice true [], .slice true []], none, []⟩, []),
  (⟨some 5, .move (.c (.p (.int .i64 0))), none, []⟩, [5])])
  (.seq (.seq (.regionK false [
  (⟨some 6, .load (some 3) (.t 2), none, []⟩, []),
  (⟨some 7, .call false 37 [.t 6], none, []⟩, [6]),
  (⟨some 8, .un .not (.t 7), none, []⟩, [7]),
  (⟨some 9, .move (.t 8), none, []⟩, [8]),
  (⟨some 10, .load (some 3) (.t 3), some (9, false), []⟩, []),
  (⟨some 11, .call false 37 [.t 10], some (9, false), []⟩, [10]),
  (⟨some 12, .un .not (.t 11), some (9, false), []⟩, [11]),
  (⟨some 13, .pick (.t 9) (.c (.p (.bool true))) (.t 12), none, []⟩, [9, 12])])
  (.cond (.t 13)
  (.seq (.regionK false [
    (⟨some 14, .build [.bool false, .slice true [], .slice true []] [], none, []⟩, [13]),
    (⟨none, .store 3 (.t 4) (.t 14), none, []⟩, [14]),
    (⟨some 5, .move (.c (.p (.int .i64 1))), none, []⟩, [])])
    .ret)
  .skip))
  (.seq (.seq (.regionK false [
  (⟨some 15, .fieldAddr 0 (.t 2), none, []⟩, [13]),
  (⟨some 16, .load none (.t 15), none, []⟩, [15]),
  (⟨some 17, .move (.t 16), none, []⟩, [16]),
  (⟨some 18, .fieldAddr 0 (.t 3), some (17, false), []⟩, []),
  (⟨some 19, .load none (.t 18), some (17, false), []⟩, [18]),
  (⟨some 20, .pick (.t 17) (.c (.p (.bool true))) (.t 19), none, []⟩, [17, 19])])
  (.cond (.t 20)
  (.seq (.regionK false [
    (⟨some 21, .build [.bool false, .slice true [], .slice true []] [(0, 1, .c (.p (.bool true)))], none, []⟩, [20]),
    (⟨none, .store 3 (.t 4) (.t 21), none, []⟩, [21]),
    (⟨some 5, .move (.c (.p (.int .i64 0))), none, []⟩, [])])
    .ret)
  .skip))
  (.seq (.regionK true [
  (⟨some 22, .fieldAddr 1 (.t 2), none, []⟩, [20]),
  (⟨some 23, .load none (.t 22), none, [0]⟩, [22]),
  (⟨some 24, .fieldAddr 1 (.t 3), none, []⟩, []),
  (⟨some 25, .load none (.t 24), none, [2]⟩, [24]),
  (⟨some 26, .buildSlice [.slice true []] 2 [(0, .t 23), (1, .t 25)], none, [0, 1, 2, 3]⟩, [23, 25]),
  (⟨some 27, .call false 52 [.t 26], none, [0, 1, 2, 3, 4]⟩, [26]),
  (⟨some 28, .fieldAddr 2 (.t 2), none, []⟩, []),
  (⟨some 29, .load none (.t 28), none, [6]⟩, [28]),
  (⟨some 30, .fieldAddr 2 (.t 3), none, []⟩, []),
  (⟨some 31, .load none (.t 30), none, [8]⟩, [30]),
  (⟨some 32, .buildSlice [.slice true []] 2 [(0, .t 29), (1, .t 31)], none, [6, 7, 8, 9]⟩, [29, 31]),
  (⟨some 33, .call false 52 [.t 32], none, [0, 1, 2, 3, 4, 5, 6, 7, 8, 9, 10]⟩, [32]),
  (⟨some 34, .call false 51 [.t 27, .t 33], none, [0, 1, 2, 3, 4, 5, 6, 7, 8, 9, 10, 11]⟩, [27, 33]),
  (⟨some 35, .extract (.t 34) 0, none, [0, 1, 2, 3, 4, 5, 6, 7, 8, 9, 10, 11, 12]⟩, []),
  (⟨some 36, .extract (.t 34) 1, none, [0, 1, 2, 3, 4, 5, 6, 7, 8, 9, 10, 11, 12]⟩, [34]),
  (⟨none, .store 3 (.t 4) (.t 35), none, [0, 1, 2, 3, 4, 5, 6, 7, 8, 9, 10, 11, 12, 13, 14]⟩, [35]),
  (⟨some 5, .move (.t 36), none, [0, 1, 2, 3, 4, 5, 6, 7, 8, 9, 10, 11, 12, 13, 14, 15]⟩, [36])])
  .ret))))⟩

/-- clockwork/clockworkref19.Union -/
def a18 : AFunc := ⟨35, 2, [.cell 4 3, .tmp 5],
  (.seq (.regionK false [
  (⟨some 2, .box (.t 0), none, []⟩, [0]),
  (⟨some 3, .box (.t 1), none, []⟩, [1]),
  (⟨some 4, .alloc [.bool false, .slice true [], .slice true []], none, []⟩, []),
  (⟨some 5, .move (.c (.p (.int .i64 0))), none, []⟩, [5])])
  (.seq (.seq (.regionK false [
  (⟨some 6, .load (some 3) (.t 2), none, []⟩, []),
  (⟨some 7, .call false 40 [.t 6], none, []⟩, [6]),
  (⟨some 8, .un .not (.t 7), none, []⟩, [7]),
  (⟨some 9, .move (.t 8), none, []⟩, [8]),
  (⟨some 10, .load (some 3) (.t 3), some (9, false), []⟩, []),
  (⟨some 11, .call false 40 [.t 10], some (9, false), []⟩, [10]),
  (⟨some 12, .un .not (.t 11), some (9, false), []⟩, [11]),
  (⟨some 13, .pick (.t 9) (.c (.p (.bool true))) (.t 12), none, []⟩, [9, 12])])
  (.cond (.t 13)
  (.seq (.regionK false [
    (⟨some 14, .build [.bool false, .slice true [], .slice true []] [], none, []⟩, [13]),
    (⟨none, .store 3 (.t 4) (.t 14), none, []⟩, [14]),
    (⟨some 5, .move (.c (.p (.int .i64 1))), none, []⟩, [])])
    .ret)
  .skip))
  (.seq (.seq (.regionK false [
  (⟨some 15, .fieldAddr 0 (.t 2), none, []⟩, [13]),
  (⟨some 16, .load none (.t 15), none, []⟩, [15]),
  (⟨some 17, .move (.t 16), none, []⟩, [16]),
  (⟨some 18, .fieldAddr 0 (.t 3), some (17, false), []⟩, []),
  (⟨some 19, .load none (.t 18), some (17, false), []⟩, [18]),
  (⟨some 20, .pick (.t 17) (.c (.p (.bool true))) (.t 19), none, []⟩, [17, 19])])
  (.cond (.t 20)
  (.seq (.regionK false [
    (⟨some 21, .build [.bool false, .slice true [], .slice true []] [(0, 1, .c (.p (.bool true)))], none, []⟩, [20]),
    (⟨none, .store 3 (.t 4) (.t 21), none, []⟩, [21]),
    (⟨some 5, .move (.c (.p (.int .i64 0))), none, []⟩, [])])
    .ret)
  .skip))
  (.seq (.regionK true [
  (⟨some 22, .fieldAddr 1 (.t 2), none, []⟩, [20]),
  (⟨some 23, .load none (.t 22), none, [0]⟩, [22]),
  (⟨some 24, .fieldAddr 1 (.t 3), none, []⟩, []),
  (⟨some 25, .load none (.t 24), none, [2]⟩, [24]),
  (⟨some 26, .call false 54 [.t 23, .t 25], none, [0, 1, 2, 3]⟩, [23, 25]),
  (⟨some 27, .fieldAddr 2 (.t 2), none, []⟩, []),
  (⟨some 28, .load none (.t 27), none, [5]⟩, [27]),
  (⟨some 29, .fieldAddr 2 (.t 3), none, []⟩, []),
  (⟨some 30, .load none (.t 29), none, [7]⟩, [29]),
  (⟨some 31, .call false 54 [.t 28, .t 30], none, [0, 1, 2, 3, 4, 5, 6, 7, 8]⟩, [28, 30]),
  (⟨some 32, .call false 53 [.t 26, .t 31], none, [0, 1, 2, 3, 4, 5, 6, 7, 8, 9]⟩, [26, 31]),
  (⟨some 33, .extract (.t 32) 0, none, [0, 1, 2, 3, 4, 5, 6, 7, 8, 9, 10]⟩, []),
  (⟨some 34, .extract (.t 32) 1, none, [0, 1, 2, 3, 4, 5, 6, 7, 8, 9, 10]⟩, [32]),
  (⟨none, .store 3 (.t 4) (.t 33), none, [0, 1, 2, 3, 4, 5, 6, 7, 8, 9, 10, 11, 12]⟩, [33]),
  (⟨some 5, .move (.t 34), none, [0, 1, 2, 3, 4, 5, 6, 7, 8, 9, 10, 11, 12, 13]⟩, [34])])
  .ret))))⟩

/-- clockwork/clockworkref19.Same -/
def a19 : AFunc := ⟨24, 2, [.tmp 4],
  (.seq (.regionK false [
  (⟨some 2, .box (.t 0), none, []⟩, [0]),
  (⟨some 3, .box (.t 1), none, []⟩, [1]),
  (⟨some 4, .move (.c (.p (.bool false))), none, []⟩, [4])])
  (.seq (.regionK false [
  (⟨some 5, .fieldAddr 0 (.t 2), none, []⟩, []),
  (⟨some 6, .load none (.t 5), none, []⟩, [5]),
  (⟨some 7, .fieldAddr 0 (.t 3), none, []⟩, []),
  (⟨some 8, .load none (.t 7), none, []⟩, [7]),
  (⟨some 9, .eqb false (.t 6) (.t 8), none, []⟩, [6, 8]),
  (⟨some 10, .move (.t 9), none, []⟩, [9]),
  (⟨some 11, .fieldAddr 1 (.t 2), some (10, true), []⟩, []),
  (⟨some 12, .load none (.t 11), some (10, true), []⟩, [11]),
  (⟨some 13, .fieldAddr 1 (.t 3), some (10, true), []⟩, []),
  (⟨some 14, .load none (.t 13), some (10, true), []⟩, [13]),
  (⟨some 15, .call false 42 [.t 12, .t 14], some (10, true), []⟩, [12, 14]),
  (⟨some 16, .pick (.t 10) (.t 15) (.c (.p (.bool false))), none, []⟩, [10, 15]),
  (⟨some 17, .move (.t 16), none, []⟩, [16]),
  (⟨some 18, .fieldAddr 2 (.t 2), some (17, true), []⟩, []),
  (⟨some 19, .load none (.t 18), some (17, true), []⟩, [18]),
  (⟨some 20, .fieldAddr 2 (.t 3), some (17, true), []⟩, []),
  (⟨some 21, .load none (.t 20), some (17, true), []⟩, [20]),
  (⟨some 22, .call false 42 [.t 19, .t 21], some (17, true), []⟩, [19, 21]),
  (⟨some 23, .pick (.t 17) (.t 22) (.c (.p (.bool false))), none, []⟩, [17, 22]),
  (⟨some 4, .move (.t 23), none, []⟩, [23])])
  .ret))⟩

/-- clockwork/footprint.Covers -/
def a33 : AFunc := ⟨34, 2, [.tmp 4],
  (.seq (.regionK false [
  (⟨some 2, .box (.t 0), none, []⟩, [0]),
  (⟨some 3, .box (.t 1), none, []⟩, [1]),
  (⟨some 4, .move (.c (.p (.bool false))), none, []⟩, [4])])
  (.seq (.seq (.regionK false [
  (⟨some 5, .load (some 3) (.t 2), none, []⟩, []),
  (⟨some 6, .call false 37 [.t 5], none, []⟩, [5]),
  (⟨some 7, .un .not (.t 6), none, []⟩, [6]),
  (⟨some 8, .move (.t 7), none, []⟩, [7]),
  (⟨some 9, .load (some 3) (.t 3), some (8, false), []⟩, []),
  (⟨some 10, .call false 37 [.t 9], some (8, false), []⟩, [9]),
  (⟨some 11, .un .not (.t 10), some (8, false), []⟩, [10]),
  (⟨some 12, .pick (.t 8) (.c (.p (.bool true))) (.t 11), none, []⟩, [8, 11])])
  (.cond (.t 12)
  (.seq (.regionK false [
    (⟨some 4, .move (.c (.p (.bool false))), none, []⟩, [12])])
    .ret)
  .skip))
  (.seq (.regionK false [
  (⟨some 13, .fieldAddr 0 (.t 2), none, []⟩, [12]),
  (⟨some 14, .load none (.t 13), none, []⟩, [13]),
  (⟨some 15, .move (.t 14), none, []⟩, [14]),
  (⟨some 16, .fieldAddr 0 (.t 3), some (15, false), []⟩, []),
  (⟨some 17, .load none (.t 16), some (15, false), []⟩, [16]),
  (⟨some 18, .un .not (.t 17), some (15, false), []⟩, [17]),
  (⟨some 19, .move (.t 18), some (15, false), []⟩, [18]),
  (⟨some 20, .fieldAddr 1 (.t 2), some (19, true), []⟩, []),
  (⟨some 21, .load none (.t 20), some (19, true), []⟩, [20]),
  (⟨some 22, .fieldAddr 1 (.t 3), some (19, true), []⟩, []),
  (⟨some 23, .load none (.t 22), some (19, true), []⟩, [22]),
  (⟨some 24, .call false 60 [.t 21, .t 23], some (19, true), []⟩, [21, 23]),
  (⟨some 25, .pick (.t 19) (.t 24) (.c (.p (.bool false))), some (15, false), []⟩, [19, 24]),
  (⟨some 26, .move (.t 25), some (15, false), []⟩, [25]),
  (⟨some 27, .fieldAddr 2 (.t 2), some (26, true), []⟩, []),
  (⟨some 28, .load none (.t 27), some (26, true), []⟩, [27]),
  (⟨some 29, .fieldAddr 2 (.t 3), some (26, true), []⟩, []),
  (⟨some 30, .load none (.t 29), some (26, true), []⟩, [29]),
  (⟨some 31, .call false 60 [.t 28, .t 30], some (26, true), []⟩, [28, 30]),
  (⟨some 32, .pick (.t 26) (.t 31) (.c (.p (.bool false))), some (15, false), []⟩, [26, 31]),
  (⟨some 33, .pick (.t 15) (.c (.p (.bool true))) (.t 32), none, []⟩, [15, 32]),
  (⟨some 4, .move (.t 33), none, []⟩, [33])])
  .ret)))⟩

/-- clockwork/footprint.Conflicts -/
def a34 : AFunc := ⟨40, 2, [.tmp 4],
  (.seq (.regionK false [
  (⟨some 2, .box (.t 0), none, []⟩, [0]),
  (⟨some 3, .box (.t 1), none, []⟩, [1]),
  (⟨some 4, .move (.c (.p (.bool false))), none, []⟩, [4])])
  (.seq (.seq (.regionK false [
  (⟨some 5, .load (some 3) (.t 2), none, []⟩, []),
  (⟨some 6, .call false 37 [.t 5], none, []⟩, [5]),
  (⟨some 7, .un .not (.t 6), none, []⟩, [6]),
  (⟨some 8, .move (.t 7), none, []⟩, [7]),
  (⟨some 9, .load (some 3) (.t 3), some (8, false), []⟩, []),
  (⟨some 10, .call false 37 [.t 9], some (8, false), []⟩, [9]),
  (⟨some 11, .un .not (.t 10), some (8, false), []⟩, [10]),
  (⟨some 12, .pick (.t 8) (.c (.p (.bool true))) (.t 11), none, []⟩, [8, 11]),
  (⟨some 13, .move (.t 12), none, []⟩, [12]),
  (⟨some 14, .fieldAddr 0 (.t 2), some (13, false), []⟩, []),
  (⟨some 15, .load none (.t 14), some (13, false), []⟩, [14]),
  (⟨some 16, .pick (.t 13) (.c (.p (.bool true))) (.t 15), none, []⟩, [13, 15]),
  (⟨some 17, .move (.t 16), none, []⟩, [16]),
  (⟨some 18, .fieldAddr 0 (.t 3), some (17, false), []⟩, []),
  (⟨some 19, .load none (.t 18), some (17, false), []⟩, [18]),
  (⟨some 20, .pick (.t 17) (.c (.p (.bool true))) (.t 19), none, []⟩, [17, 19])])
  (.cond (.t 20)
  (.seq (.regionK false [
    (⟨some 4, .move (.c (.p (.bool true))), none, []⟩, [20])])
    .ret)
  .skip))
  (.seq (.regionK false [
  (⟨some 21, .fieldAddr 2 (.t 2), none, []⟩, [20]),
  (⟨some 22, .load none (.t 21), none, []⟩, [21]),
  (⟨some 23, .fieldAddr 2 (.t 3), none, []⟩, []),
  (⟨some 24, .load none (.t 23), none, []⟩, [23]),
  (⟨some 25, .call false 61 [.t 22, .t 24], none, []⟩, [22, 24]),
  (⟨some 26, .move (.t 25), none, []⟩, [25]),
  (⟨some 27, .fieldAddr 2 (.t 2), some (26, false), []⟩, []),
  (⟨some 28, .load none (.t 27), some (26, false), []⟩, [27]),
  (⟨some 29, .fieldAddr 1 (.t 3), some (26, false), []⟩, []),
  (⟨some 30, .load none (.t 29), some (26, false), []⟩, [29]),
  (⟨some 31, .call false 61 [.t 28, .t 30], some (26, false), []⟩, [28, 30]),
  (⟨some 32, .pick (.t 26) (.c (.p (.bool true))) (.t 31), none, []⟩, [26, 31]),
  (⟨some 33, .move (.t 32), none, []⟩, [32]),
  (⟨some 34, .fieldAddr 1 (.t 2), some (33, false), []⟩, []),
  (⟨some 35, .load none (.t 34), some (33, false), []⟩, [34]),
  (⟨some 36, .fieldAddr 2 (.t 3), some (33, false), []⟩, []),
  (⟨some 37, .load none (.t 36), some (33, false), []⟩, [36]),
  (⟨some 38, .call false 61 [.t 35, .t 37], some (33, false), []⟩, [35, 37]),
  (⟨some 39, .pick (.t 33) (.c (.p (.bool true))) (.t 38), none, []⟩, [33, 38]),
  (⟨some 4, .move (.t 39), none, []⟩, [39])])
  .ret)))⟩

/-- clockwork/clockworkref19.Conflicts -/
def a35 : AFunc := ⟨40, 2, [.tmp 4],
  (.seq (.regionK false [
  (⟨some 2, .box (.t 0), none, []⟩, [0]),
  (⟨some 3, .box (.t 1), none, []⟩, [1]),
  (⟨some 4, .move (.c (.p (.bool false))), none, []⟩, [4])])
  (.seq (.seq (.regionK false [
  (⟨some 5, .load (some 3) (.t 2), none, []⟩, []),
  (⟨some 6, .call false 40 [.t 5], none, []⟩, [5]),
  (⟨some 7, .un .not (.t 6), none, []⟩, [6]),
  (⟨some 8, .move (.t 7), none, []⟩, [7]),
  (⟨some 9, .load (some 3) (.t 3), some (8, false), []⟩, []),
  (⟨some 10, .call false 40 [.t 9], some (8, false), []⟩, [9]),
  (⟨some 11, .un .not (.t 10), some (8, false), []⟩, [10]),
  (⟨some 12, .pick (.t 8) (.c (.p (.bool true))) (.t 11), none, []⟩, [8, 11]),
  (⟨some 13, .move (.t 12), none, []⟩, [12]),
  (⟨some 14, .fieldAddr 0 (.t 2), some (13, false), []⟩, []),
  (⟨some 15, .load none (.t 14), some (13, false), []⟩, [14]),
  (⟨some 16, .pick (.t 13) (.c (.p (.bool true))) (.t 15), none, []⟩, [13, 15]),
  (⟨some 17, .move (.t 16), none, []⟩, [16]),
  (⟨some 18, .fieldAddr 0 (.t 3), some (17, false), []⟩, []),
  (⟨some 19, .load none (.t 18), some (17, false), []⟩, [18]),
  (⟨some 20, .pick (.t 17) (.c (.p (.bool true))) (.t 19), none, []⟩, [17, 19])])
  (.cond (.t 20)
  (.seq (.regionK false [
    (⟨some 4, .move (.c (.p (.bool true))), none, []⟩, [20])])
    .ret)
  .skip))
  (.seq (.regionK false [
  (⟨some 21, .fieldAddr 2 (.t 2), none, []⟩, [20]),
  (⟨some 22, .load none (.t 21), none, []⟩, [21]),
  (⟨some 23, .fieldAddr 2 (.t 3), none, []⟩, []),
  (⟨some 24, .load none (.t 23), none, []⟩, [23]),
  (⟨some 25, .call false 62 [.t 22, .t 24], none, []⟩, [22, 24]),
  (⟨some 26, .move (.t 25), none, []⟩, [25]),
  (⟨some 27, .fieldAddr 2 (.t 2), some (26, false), []⟩, []),
  (⟨some 28, .load none (.t 27), some (26, false), []⟩, [27]),
  (⟨some 29, .fieldAddr 1 (.t 3), some (26, false), []⟩, []),
  (⟨some 30, .load none (.t 29), some (26, false), []⟩, [29]),
  (⟨some 31, .call false 62 [.t 28, .t 30], some (26, false), []⟩, [28, 30]),
  (⟨some 32, .pick (.t 26) (.c (.p (.bool true))) (.t 31), none, []⟩, [26, 31]),
  (⟨some 33, .move (.t 32), none, []⟩, [32]),
  (⟨some 34, .fieldAddr 1 (.t 2), some (33, false), []⟩, []),
  (⟨some 35, .load none (.t 34), some (33, false), []⟩, [34]),
  (⟨some 36, .fieldAddr 2 (.t 3), some (33, false), []⟩, []),
  (⟨some 37, .load none (.t 36), some (33, false), []⟩, [36]),
  (⟨some 38, .call false 62 [.t 35, .t 37], some (33, false), []⟩, [35, 37]),
  (⟨some 39, .pick (.t 33) (.c (.p (.bool true))) (.t 38), none, []⟩, [33, 38]),
  (⟨some 4, .move (.t 39), none, []⟩, [39])])
  .ret)))⟩

/-- clockwork/clockworkref19.Covers -/
def a36 : AFunc := ⟨34, 2, [.tmp 4],
  (.seq (.regionK false [
  (⟨some 2, .box (.t 0), none, []⟩, [0]),
  (⟨some 3, .box (.t 1), none, []⟩, [1]),
  (⟨some 4, .move (.c (.p (.bool false))), none, []⟩, [4])])
  (.seq (.seq (.regionK false [
  (⟨some 5, .load (some 3) (.t 2), none, []⟩, []),
  (⟨some 6, .call false 40 [.t 5], none, []⟩, [5]),
  (⟨some 7, .un .not (.t 6), none, []⟩, [6]),
  (⟨some 8, .move (.t 7), none, []⟩, [7]),
  (⟨some 9, .load (some 3) (.t 3), some (8, false), []⟩, []),
  (⟨some 10, .call false 40 [.t 9], some (8, false), []⟩, [9]),
  (⟨some 11, .un .not (.t 10), some (8, false), []⟩, [10]),
  (⟨some 12, .pick (.t 8) (.c (.p (.bool true))) (.t 11), none, []⟩, [8, 11])])
  (.cond (.t 12)
  (.seq (.regionK false [
    (⟨some 4, .move (.c (.p (.bool false))), none, []⟩, [12])])
    .ret)
  .skip))
  (.seq (.regionK false [
  (⟨some 13, .fieldAddr 0 (.t 2), none, []⟩, [12]),
  (⟨some 14, .load none (.t 13), none, []⟩, [13]),
  (⟨some 15, .move (.t 14), none, []⟩, [14]),
  (⟨some 16, .fieldAddr 0 (.t 3), some (15, false), []⟩, []),
  (⟨some 17, .load none (.t 16), some (15, false), []⟩, [16]),
  (⟨some 18, .un .not (.t 17), some (15, false), []⟩, [17]),
  (⟨some 19, .move (.t 18), some (15, false), []⟩, [18]),
  (⟨some 20, .fieldAddr 1 (.t 3), some (19, true), []⟩, []),
  (⟨some 21, .load none (.t 20), some (19, true), []⟩, [20]),
  (⟨some 22, .fieldAddr 1 (.t 2), some (19, true), []⟩, []),
  (⟨some 23, .load none (.t 22), some (19, true), []⟩, [22]),
  (⟨some 24, .call false 63 [.t 21, .t 23], some (19, true), []⟩, [21, 23]),
  (⟨some 25, .pick (.t 19) (.t 24) (.c (.p (.bool false))), some (15, false), []⟩, [19, 24]),
  (⟨some 26, .move (.t 25), some (15, false), []⟩, [25]),
  (⟨some 27, .fieldAddr 2 (.t 3), some (26, true), []⟩, []),
  (⟨some 28, .load none (.t 27), some (26, true), []⟩, [27]),
  (⟨some 29, .fieldAddr 2 (.t 2), some (26, true), []⟩, []),
  (⟨some 30, .load none (.t 29), some (26, true), []⟩, [29]),
  (⟨some 31, .call false 63 [.t 28, .t 30], some (26, true), []⟩, [28, 30]),
  (⟨some 32, .pick (.t 26) (.t 31) (.c (.p (.bool false))), some (15, false), []⟩, [26, 31]),
  (⟨some 33, .pick (.t 15) (.c (.p (.bool true))) (.t 32), none, []⟩, [15, 32]),
  (⟨some 4, .move (.t 33), none, []⟩, [33])])
  .ret)))⟩

/-- clockwork/footprint.Valid -/
def a37 : AFunc := ⟨23, 1, [.tmp 2],
  (.seq (.regionK false [
  (⟨some 1, .box (.t 0), none, []⟩, [0]),
  (⟨some 2, .move (.c (.p (.bool false))), none, []⟩, [2])])
  (.seq (.seq (.regionK false [
  (⟨some 3, .fieldAddr 0 (.t 1), none, []⟩, []),
  (⟨some 4, .load none (.t 3), none, []⟩, [3])])
  (.cond (.t 4)
  (.seq (.regionK false [
    (⟨some 5, .fieldAddr 1 (.t 1), none, []⟩, [4]),
    (⟨some 6, .load none (.t 5), none, []⟩, [5]),
    (⟨some 7, .len (.t 6), none, []⟩, [6]),
    (⟨some 8, .bin .eql (.t 7) (.c (.p (.int .i64 0))), none, []⟩, [7]),
    (⟨some 9, .move (.t 8), none, []⟩, [8]),
    (⟨some 10, .fieldAddr 2 (.t 1), some (9, true), []⟩, []),
    (⟨some 11, .load none (.t 10), some (9, true), []⟩, [10]),
    (⟨some 12, .len (.t 11), some (9, true), []⟩, [11]),
    (⟨some 13, .bin .eql (.t 12) (.c (.p (.int .i64 0))), some (9, true), []⟩, [12]),
    (⟨some 14, .pick (.t 9) (.t 13) (.c (.p (.bool false))), none, []⟩, [9, 13]),
    (⟨some 2, .move (.t 14), none, []⟩, [14])])
    .ret)
  .skip))
  (.seq (.regionK false [
  (⟨some 15, .fieldAddr 1 (.t 1), none, []⟩, [4]),
  (⟨some 16, .load none (.t 15), none, []⟩, [15]),
  (⟨some 17, .call false 64 [.t 16], none, []⟩, [16]),
  (⟨some 18, .move (.t 17), none, []⟩, [17]),
  (⟨some 19, .fieldAddr 2 (.t 1), some (18, true), []⟩, []),
  (⟨some 20, .load none (.t 19), some (18, true), []⟩, [19]),
  (⟨some 21, .call false 64 [.t 20], some (18, true), []⟩, [20]),
  (⟨some 22, .pick (.t 18) (.t 21) (.c (.p (.bool false))), none, []⟩, [18, 21]),
  (⟨some 2, .move (.t 22), none, []⟩, [22])])
  .ret)))⟩

/-- clockwork/footprint.Norm -/
@[irreducible] def a38_l0 : ACode :=
  (.seq (.regionK false [
  (⟨some 14, .bin .lss (.t 13) (.t 12), none, []⟩, [])])
  (.seq (.cond (.t 14)
  .skip
  (.ghost (.forget [11, 12, 13, 14]) (.ghost .lower (.exit 0))))
  (.seq (.block 1
  (.seq (.regionK false [
    (⟨some 15, .indexAddr 1 (.t 11) (.t 13), none, []⟩, [14]),
    (⟨some 16, .load none (.t 15), none, []⟩, [15]),
    (⟨some 5, .move (.t 16), none, []⟩, [16])])
    (.seq (.regionK false [
    (⟨some 17, .move (.t 5), none, []⟩, [5]),
    (⟨some 18, .call false 66 [.t 17], none, []⟩, [17]),
    (⟨some 19, .un .not (.t 18), none, []⟩, [18])])
    (.cond (.t 19)
    (.seq (.regionK false [
      (⟨some 20, .build [.bool false, .slice true [], .slice true []] [], none, []⟩, [11, 12, 13, 19]),
      (⟨none, .store 3 (.t 2) (.t 20), none, []⟩, [20]),
      (⟨some 3, .move (.c (.p (.int .i64 1))), none, []⟩, [])])
      .ret)
    .skip))))
  (.regionK false [
  (⟨some 21, .bin .add (.t 13) (.c (.p (.int .i64 1))), none, []⟩, [19]),
  (⟨some 13, .move (.t 21), none, []⟩, [21])]))))

def a38 : AFunc := ⟨36, 1, [.cell 2 3, .tmp 3],
  (.seq (.regionK false [
  (⟨some 1, .box (.t 0), none, []⟩, [0]),
  (⟨some 2, .alloc [.bool false, .slice true [], .slice true []], none, []⟩, []),
  (⟨some 3, .move (.c (.p (.int .i64 0))), none, []⟩, [3])])
  (.seq (.seq (.regionK false [
  (⟨some 6, .fieldAddr 1 (.t 1), none, []⟩, []),
  (⟨some 7, .load none (.t 6), none, []⟩, [6]),
  (⟨some 8, .fieldAddr 2 (.t 1), none, []⟩, []),
  (⟨some 9, .load none (.t 8), none, []⟩, [8]),
  (⟨some 10, .buildSlice [.slice true []] 2 [(0, .t 7), (1, .t 9)], none, []⟩, [7, 9]),
  (⟨some 11, .call true 65 [.t 10], none, []⟩, [10]),
  (⟨some 12, .len (.t 11), none, []⟩, []),
  (⟨some 13, .move (.c (.p (.int .i64 0))), none, []⟩, [])])
  (.block 0
  (.loop
    (.ghost .lower a38_l0))))
  (.seq (.seq (.regionK false [
  (⟨some 22, .fieldAddr 0 (.t 1), none, []⟩, []),
  (⟨some 23, .load none (.t 22), none, []⟩, [22])])
  (.cond (.t 23)
  (.seq (.regionK false [
    (⟨some 24, .build [.bool false, .slice true [], .slice true []] [(0, 1, .c (.p (.bool true)))], none, []⟩, [23]),
    (⟨none, .store 3 (.t 2) (.t 24), none, []⟩, [24]),
    (⟨some 3, .move (.c (.p (.int .i64 0))), none, []⟩, [])])
    .ret)
  .skip))
  (.seq (.regionK true [
  (⟨some 25, .fieldAddr 1 (.t 1), none, []⟩, [23]),
  (⟨some 26, .load none (.t 25), none, [0]⟩, [25]),
  (⟨some 27, .buildSlice [.slice true []] 1 [(0, .t 26)], none, [0, 1]⟩, [26]),
  (⟨some 28, .call false 52 [.t 27], none, [0, 1, 2]⟩, [27]),
  (⟨some 29, .fieldAddr 2 (.t 1), none, []⟩, []),
  (⟨some 30, .load none (.t 29), none, [4]⟩, [29]),
  (⟨some 31, .buildSlice [.slice true []] 1 [(0, .t 30)], none, [4, 5]⟩, [30]),
  (⟨some 32, .call false 52 [.t 31], none, [0, 1, 2, 3, 4, 5, 6]⟩, [31]),
  (⟨some 33, .call false 51 [.t 28, .t 32], none, [0, 1, 2, 3, 4, 5, 6, 7]⟩, [28, 32]),
  (⟨some 34, .extract (.t 33) 0, none, [0, 1, 2, 3, 4, 5, 6, 7, 8]⟩, []),
  (⟨some 35, .extract (.t 33) 1, none, [0, 1, 2, 3, 4, 5, 6, 7, 8]⟩, [33]),
  (⟨none, .store 3 (.t 2) (.t 34), none, [0, 1, 2, 3, 4, 5, 6, 7, 8, 9, 10]⟩, [34]),
  (⟨some 3, .move (.t 35), none, [0, 1, 2, 3, 4, 5, 6, 7, 8, 9, 10, 11]⟩, [35])])
  .ret))))⟩

/-- clockwork/clockworkref19.Norm -/
def a39 : AFunc := ⟨27, 1, [.cell 2 3, .tmp 3],
  (.seq (.regionK false [
  (⟨some 1, .box (.t 0), none, []⟩, [0]),
  (⟨some 2, .alloc [.bool false, .slice true [], .slice true []], none, []⟩, []),
  (⟨some 3, .move (.c (.p (.int .i64 0))), none, []⟩, [3])])
  (.seq (.seq (.regionK false [
  (⟨some 4, .fieldAddr 1 (.t 1), none, []⟩, []),
  (⟨some 5, .load none (.t 4), none, []⟩, [4]),
  (⟨some 6, .call false 67 [.t 5], none, []⟩, [5]),
  (⟨some 7, .un .not (.t 6), none, []⟩, [6]),
  (⟨some 8, .move (.t 7), none, []⟩, [7]),
  (⟨some 9, .fieldAddr 2 (.t 1), some (8, false), []⟩, []),
  (⟨some 10, .load none (.t 9), some (8, false), []⟩, [9]),
  (⟨some 11, .call false 67 [.t 10], some (8, false), []⟩, [10]),
  (⟨some 12, .un .not (.t 11), some (8, false), []⟩, [11]),
  (⟨some 13, .pick (.t 8) (.c (.p (.bool true))) (.t 12), none, []⟩, [8, 12])])
  (.cond (.t 13)
  (.seq (.regionK false [
    (⟨some 14, .build [.bool false, .slice true [], .slice true []] [], none, []⟩, [13]),
    (⟨none, .store 3 (.t 2) (.t 14), none, []⟩, [14]),
    (⟨some 3, .move (.c (.p (.int .i64 1))), none, []⟩, [])])
    .ret)
  .skip))
  (.seq (.seq (.regionK false [
  (⟨some 15, .fieldAddr 0 (.t 1), none, []⟩, [13]),
  (⟨some 16, .load none (.t 15), none, []⟩, [15])])
  (.cond (.t 16)
  (.seq (.regionK false [
    (⟨some 17, .build [.bool false, .slice true [], .slice true []] [(0, 1, .c (.p (.bool true)))], none, []⟩, [16]),
    (⟨none, .store 3 (.t 2) (.t 17), none, []⟩, [17]),
    (⟨some 3, .move (.c (.p (.int .i64 0))), none, []⟩, [])])
    .ret)
  .skip))
  (.seq (.regionK true [
  (⟨some 18, .fieldAddr 1 (.t 1), none, []⟩, [16]),
  (⟨some 19, .load none (.t 18), none, [0]⟩, [18]),
  (⟨some 20, .call false 68 [.t 19], none, [0, 1]⟩, [19]),
  (⟨some 21, .fieldAddr 2 (.t 1), none, []⟩, []),
  (⟨some 22, .load none (.t 21), none, [3]⟩, [21]),
  (⟨some 23, .call false 68 [.t 22], none, [0, 1, 2, 3, 4]⟩, [22]),
  (⟨some 24, .call false 53 [.t 20, .t 23], none, [0, 1, 2, 3, 4, 5]⟩, [20, 23]),
  (⟨some 25, .extract (.t 24) 0, none, [0, 1, 2, 3, 4, 5, 6]⟩, []),
  (⟨some 26, .extract (.t 24) 1, none, [0, 1, 2, 3, 4, 5, 6]⟩, [24]),
  (⟨none, .store 3 (.t 2) (.t 25), none, [0, 1, 2, 3, 4, 5, 6, 7, 8]⟩, [25]),
  (⟨some 3, .move (.t 26), none, [0, 1, 2, 3, 4, 5, 6, 7, 8, 9]⟩, [26])])
  .ret))))⟩

/-- clockwork/clockworkref19.Valid -/
def a40 : AFunc := ⟨35, 1, [.tmp 2],
  (.seq (.regionK false [
  (⟨some 1, .box (.t 0), none, []⟩, [0]),
  (⟨some 2, .move (.c (.p (.bool false))), none, []⟩, [2])])
  (.seq (.seq (.regionK false [
  (⟨some 3, .fieldAddr 0 (.t 1), none, []⟩, []),
  (⟨some 4, .load none (.t 3), none, []⟩, [3])])
  (.cond (.t 4)
  (.seq (.regionK false [
    (⟨some 5, .fieldAddr 1 (.t 1), none, []⟩, [4]),
    (⟨some 6, .load none (.t 5), none, []⟩, [5]),
    (⟨some 7, .len (.t 6), none, []⟩, [6]),
    (⟨some 8, .bin .eql (.t 7) (.c (.p (.int .i64 0))), none, []⟩, [7]),
    (⟨some 9, .move (.t 8), none, []⟩, [8]),
    (⟨some 10, .fieldAddr 2 (.t 1), some (9, true), []⟩, []),
    (⟨some 11, .load none (.t 10), some (9, true), []⟩, [10]),
    (⟨some 12, .len (.t 11), some (9, true), []⟩, [11]),
    (⟨some 13, .bin .eql (.t 12) (.c (.p (.int .i64 0))), some (9, true), []⟩, [12]),
    (⟨some 14, .pick (.t 9) (.t 13) (.c (.p (.bool false))), none, []⟩, [9, 13]),
    (⟨some 2, .move (.t 14), none, []⟩, [14])])
    .ret)
  .skip))
  (.seq (.regionK false [
  (⟨some 15, .fieldAddr 1 (.t 1), none, []⟩, [4]),
  (⟨some 16, .load none (.t 15), none, []⟩, [15]),
  (⟨some 17, .len (.t 16), none, []⟩, [16]),
  (⟨some 18, .bin .leq (.t 17) (.c (.p (.int .i64 64))), none, []⟩, [17]),
  (⟨some 19, .move (.t 18), none, []⟩, [18]),
  (⟨some 20, .fieldAddr 2 (.t 1), some (19, true), []⟩, []),
  (⟨some 21, .load none (.t 20), some (19, true), []⟩, [20]),
  (⟨some 22, .len (.t 21), some (19, true), []⟩, [21]),
  (⟨some 23, .bin .leq (.t 22) (.c (.p (.int .i64 64))), some (19, true), []⟩, [22]),
  (⟨some 24, .pick (.t 19) (.t 23) (.c (.p (.bool false))), none, []⟩, [19, 23]),
  (⟨some 25, .move (.t 24), none, []⟩, [24]),
  (⟨some 26, .fieldAddr 1 (.t 1), some (25, true), []⟩, []),
  (⟨some 27, .load none (.t 26), some (25, true), []⟩, [26]),
  (⟨some 28, .call false 69 [.t 27], some (25, true), []⟩, [27]),
  (⟨some 29, .pick (.t 25) (.t 28) (.c (.p (.bool false))), none, []⟩, [25, 28]),
  (⟨some 30, .move (.t 29), none, []⟩, [29]),
  (⟨some 31, .fieldAddr 2 (.t 1), some (30, true), []⟩, []),
  (⟨some 32, .load none (.t 31), some (30, true), []⟩, [31]),
  (⟨some 33, .call false 69 [.t 32], some (30, true), []⟩, [32]),
  (⟨some 34, .pick (.t 30) (.t 33) (.c (.p (.bool false))), none, []⟩, [30, 33]),
  (⟨some 2, .move (.t 34), none, []⟩, [34])])
  .ret)))⟩

/-- clockwork/footprint.Same -/
def a41 : AFunc := ⟨24, 2, [.tmp 4],
  (.seq (.regionK false [
  (⟨some 2, .box (.t 0), none, []⟩, [0]),
  (⟨some 3, .box (.t 1), none, []⟩, [1]),
  (⟨some 4, .move (.c (.p (.bool false))), none, []⟩, [4])])
  (.seq (.regionK false [
  (⟨some 5, .fieldAddr 0 (.t 2), none, []⟩, []),
  (⟨some 6, .load none (.t 5), none, []⟩, [5]),
  (⟨some 7, .fieldAddr 0 (.t 3), none, []⟩, []),
  (⟨some 8, .load none (.t 7), none, []⟩, [7]),
  (⟨some 9, .eqb false (.t 6) (.t 8), none, []⟩, [6, 8]),
  (⟨some 10, .move (.t 9), none, []⟩, [9]),
  (⟨some 11, .fieldAddr 1 (.t 2), some (10, true), []⟩, []),
  (⟨some 12, .load none (.t 11), some (10, true), []⟩, [11]),
  (⟨some 13, .fieldAddr 1 (.t 3), some (10, true), []⟩, []),
  (⟨some 14, .load none (.t 13), some (10, true), []⟩, [13]),
  (⟨some 15, .call false 70 [.t 12, .t 14], some (10, true), []⟩, [12, 14]),
  (⟨some 16, .pick (.t 10) (.t 15) (.c (.p (.bool false))), none, []⟩, [10, 15]),
  (⟨some 17, .move (.t 16), none, []⟩, [16]),
  (⟨some 18, .fieldAddr 2 (.t 2), some (17, true), []⟩, []),
  (⟨some 19, .load none (.t 18), some (17, true), []⟩, [18]),
  (⟨some 20, .fieldAddr 2 (.t 3), some (17, true), []⟩, []),
  (⟨some 21, .load none (.t 20), some (17, true), []⟩, [20]),
  (⟨some 22, .call false 70 [.t 19, .t 21], some (17, true), []⟩, [19, 21]),
  (⟨some 23, .pick (.t 17) (.t 22) (.c (.p (.bool false))), none, []⟩, [17, 22]),
  (⟨some 4, .move (.t 23), none, []⟩, [23])])
  .ret))⟩

/-- clockwork/clockworkref04.Same -/
@[irreducible] def a42_l0 : ACode :=
  (.seq (.seq (.regionK false [
  (⟨some 11, .move (.t 5), none, []⟩, []),
  (⟨some 12, .move (.t 0), none, []⟩, []),
  (⟨some 13, .len (.t 12), none, []⟩, [12]),
  (⟨some 14, .bin .lss (.t 11) (.t 13), none, []⟩, [11, 13])])
  (.cond (.t 14)
  .skip
  (.ghost (.forget [0, 1, 5, 14]) (.ghost .lower (.exit 0)))))
  (.seq (.block 1
  (.seq (.regionK true [
    (⟨some 17, .move (.t 0), none, []⟩, [14]),
    (⟨some 18, .move (.t 5), none, []⟩, []),
    (⟨some 19, .indexAddr 1 (.t 17) (.t 18), none, [0, 1]⟩, [17, 18]),
    (⟨some 20, .load none (.t 19), none, [0, 1, 2]⟩, [19]),
    (⟨some 21, .move (.t 1), none, []⟩, []),
    (⟨some 22, .move (.t 5), none, []⟩, []),
    (⟨some 23, .indexAddr 1 (.t 21) (.t 22), none, [4, 5]⟩, [21, 22]),
    (⟨some 24, .load none (.t 23), none, [4, 5, 6]⟩, [23]),
    (⟨some 25, .bin .neq (.t 20) (.t 24), none, [0, 1, 2, 3, 4, 5, 6, 7]⟩, [20, 24])])
    (.cond (.t 25)
    (.seq (.regionK false [
      (⟨some 4, .move (.c (.p (.bool false))), none, []⟩, [0, 1, 5, 25])])
      .ret)
    .skip)))
  (.regionK false [
  (⟨some 15, .move (.t 5), none, []⟩, [25]),
  (⟨some 16, .bin .add (.t 15) (.c (.p (.int .i64 1))), none, []⟩, [15]),
  (⟨some 5, .move (.t 16), none, []⟩, [16])])))

def a42 : AFunc := ⟨26, 2, [.tmp 4],
  (.seq (.regionK false [
  (⟨some 4, .move (.c (.p (.bool false))), none, []⟩, [4])])
  (.seq (.seq (.regionK false [
  (⟨some 6, .move (.t 0), none, []⟩, []),
  (⟨some 7, .len (.t 6), none, []⟩, [6]),
  (⟨some 8, .move (.t 1), none, []⟩, []),
  (⟨some 9, .len (.t 8), none, []⟩, [8]),
  (⟨some 10, .bin .neq (.t 7) (.t 9), none, []⟩, [7, 9])])
  (.cond (.t 10)
  (.seq (.regionK false [
    (⟨some 4, .move (.c (.p (.bool false))), none, []⟩, [0, 1, 10])])
    .ret)
  .skip))
  (.seq (.seq (.regionK false [
  (⟨some 5, .move (.c (.p (.int .i64 0))), none, []⟩, [10])])
  (.block 0
  (.loop
    (.ghost .lower a42_l0))))
  (.seq (.regionK false [
  (⟨some 4, .move (.c (.p (.bool true))), none, []⟩, [])])
  .ret))))⟩

/-- clockwork/footprint.Keys -/
def a43 : AFunc := ⟨12, 1, [.tmp 2],
  (.seq (.regionK false [
  (⟨some 1, .box (.t 0), none, []⟩, [0]),
  (⟨some 2, .move (.c (.p (.slice true []))), none, []⟩, [2])])
  (.seq (.seq (.regionK false [
  (⟨some 3, .load (some 3) (.t 1), none, []⟩, []),
  (⟨some 4, .call false 37 [.t 3], none, []⟩, [3]),
  (⟨some 5, .un .not (.t 4), none, []⟩, [4])])
  (.cond (.t 5)
  (.seq (.regionK false [
    (⟨some 2, .move (.c (.p (.slice true []))), none, []⟩, [5])])
    .ret)
  .skip))
  (.seq (.regionK false [
  (⟨some 6, .fieldAddr 1 (.t 1), none, []⟩, [5]),
  (⟨some 7, .load none (.t 6), none, []⟩, [6]),
  (⟨some 8, .fieldAddr 2 (.t 1), none, []⟩, []),
  (⟨some 9, .load none (.t 8), none, []⟩, [8]),
  (⟨some 10, .buildSlice [.slice true []] 2 [(0, .t 7), (1, .t 9)], none, []⟩, [7, 9]),
  (⟨some 11, .call false 52 [.t 10], none, []⟩, [10]),
  (⟨some 2, .move (.t 11), none, []⟩, [11])])
  .ret)))⟩

/-- clockwork/clockworkref19.Keys -/
def a44 : AFunc := ⟨11, 1, [.tmp 2],
  (.seq (.regionK false [
  (⟨some 1, .box (.t 0), none, []⟩, [0]),
  (⟨some 2, .move (.c (.p (.slice true []))), none, []⟩, [2])])
  (.seq (.seq (.regionK false [
  (⟨some 3, .load (some 3) (.t 1), none, []⟩, []),
  (⟨some 4, .call false 40 [.t 3], none, []⟩, [3]),
  (⟨some 5, .un .not (.t 4), none, []⟩, [4])])
  (.cond (.t 5)
  (.seq (.regionK false [
    (⟨some 2, .move (.c (.p (.slice true []))), none, []⟩, [5])])
    .ret)
  .skip))
  (.seq (.regionK false [
  (⟨some 6, .fieldAddr 1 (.t 1), none, []⟩, [5]),
  (⟨some 7, .load none (.t 6), none, []⟩, [6]),
  (⟨some 8, .fieldAddr 2 (.t 1), none, []⟩, []),
  (⟨some 9, .load none (.t 8), none, []⟩, [8]),
  (⟨some 10, .call false 54 [.t 7, .t 9], none, []⟩, [7, 9]),
  (⟨some 2, .move (.t 10), none, []⟩, [10])])
  .ret)))⟩

/-- clockwork/clockworkref19.Of -/
def a45 : AFunc := ⟨8, 1, [.cell 2 3],
  (.seq (.regionK false [
  (⟨some 1, .box (.t 0), none, []⟩, [0]),
  (⟨some 2, .alloc [.bool false, .slice true [], .slice true []], none, []⟩, [])])
  (.seq (.regionK false [
  (⟨some 3, .fieldAddr 3 (.t 1), none, []⟩, []),
  (⟨some 4, .load none (.t 3), none, []⟩, [3]),
  (⟨some 5, .fieldAddr 4 (.t 1), none, []⟩, []),
  (⟨some 6, .load none (.t 5), none, []⟩, [5]),
  (⟨some 7, .build [.bool false, .slice true [], .slice true []] [(1, 1, .t 4), (2, 1, .t 6)], none, []⟩, [4, 6]),
  (⟨none, .store 3 (.t 2) (.t 7), none, []⟩, [7])])
  .ret))⟩

/-- clockwork/footprint.Project -/
def a46 : AFunc := ⟨25, 2, [.cell 4 3],
  (.seq (.regionK false [
  (⟨some 2, .box (.t 0), none, []⟩, [0]),
  (⟨some 3, .box (.t 1), none, []⟩, [1]),
  (⟨some 4, .alloc [.bool false, .slice true [], .slice true []], none, []⟩, [])])
  (.seq (.seq (.regionK false [
  (⟨some 6, .load (some 3) (.t 2), none, []⟩, []),
  (⟨some 7, .call false 37 [.t 6], none, []⟩, [6]),
  (⟨some 8, .un .not (.t 7), none, []⟩, [7])])
  (.cond (.t 8)
  (.seq (.regionK false [
    (⟨some 9, .build [.bool false, .slice true [], .slice true []] [], none, []⟩, [8]),
    (⟨none, .store 3 (.t 4) (.t 9), none, []⟩, [9])])
    .ret)
  .skip))
  (.seq (.seq (.regionK false [
  (⟨some 10, .fieldAddr 0 (.t 2), none, []⟩, [8]),
  (⟨some 11, .load none (.t 10), none, []⟩, [10])])
  (.cond (.t 11)
  (.seq (.regionK false [
    (⟨some 12, .build [.bool false, .slice true [], .slice true []] [(0, 1, .c (.p (.bool true)))], none, []⟩, [11]),
    (⟨none, .store 3 (.t 4) (.t 12), none, []⟩, [12])])
    .ret)
  .skip))
  (.seq (.regionK false [
  (⟨some 13, .mkfunc 71 [.t 3], none, []⟩, [11]),
  (⟨some 5, .move (.t 13), none, []⟩, [13])])
  (.seq (.ghost (.pure [2]) (.regionS [(2, 5), (4, 5), (2, 6), (4, 6)] [
  ⟨some 14, .fieldAddr 1 (.t 2), none, []⟩,
  ⟨some 15, .load none (.t 14), none, [0]⟩,
  ⟨some 16, .call true 74 [.t 15], none, [0, 1]⟩,
  ⟨some 17, .move (.t 5), none, []⟩,
  ⟨some 18, .call true 73 [.t 16, .t 17], none, [0, 1, 2, 3]⟩,
  ⟨some 19, .fieldAddr 2 (.t 2), none, []⟩,
  ⟨some 20, .load none (.t 19), none, [5]⟩,
  ⟨some 21, .call true 74 [.t 20], none, [0, 1, 2, 3, 4, 5, 6]⟩,
  ⟨some 22, .move (.t 5), none, []⟩,
  ⟨some 23, .call true 73 [.t 21, .t 22], none, [0, 1, 2, 3, 4, 5, 6, 7, 8]⟩,
  ⟨some 24, .build [.bool false, .slice true [], .slice true []] [(1, 1, .t 18), (2, 1, .t 23)], none, [0, 1, 2, 3, 4, 5, 6, 7, 8, 9]⟩,
  ⟨none, .store 3 (.t 4) (.t 24), none, [0, 1, 2, 3, 4, 5, 6, 7, 8, 9, 10]⟩] [5, 14, 15, 16, 17, 18, 19, 20, 21, 22, 23, 24]))
  .ret)))))⟩

/-- clockwork/clockworkref19.Project -/
def a47 : AFunc := ⟨28, 2, [.cell 4 3],
  (.seq (.regionK false [
  (⟨some 2, .box (.t 0), none, []⟩, [0]),
  (⟨some 3, .box (.t 1), none, []⟩, [1]),
  (⟨some 4, .alloc [.bool false, .slice true [], .slice true []], none, []⟩, [])])
  (.seq (.seq (.regionK false [
  (⟨some 5, .load (some 3) (.t 2), none, []⟩, []),
  (⟨some 6, .call false 40 [.t 5], none, []⟩, [5]),
  (⟨some 7, .un .not (.t 6), none, []⟩, [6]),
  (⟨some 8, .move (.t 7), none, []⟩, [7]),
  (⟨some 9, .fieldAddr 0 (.t 2), some (8, false), []⟩, []),
  (⟨some 10, .load none (.t 9), some (8, false), []⟩, [9]),
  (⟨some 11, .pick (.t 8) (.c (.p (.bool true))) (.t 10), none, []⟩, [8, 10])])
  (.cond (.t 11)
  (.seq (.regionK false [
    (⟨some 12, .fieldAddr 0 (.t 2), none, []⟩, [11]),
    (⟨some 13, .load none (.t 12), none, []⟩, [12]),
    (⟨some 14, .move (.t 13), none, []⟩, [13]),
    (⟨some 15, .load (some 3) (.t 2), some (14, true), []⟩, []),
    (⟨some 16, .call false 40 [.t 15], some (14, true), []⟩, [15]),
    (⟨some 17, .pick (.t 14) (.t 16) (.c (.p (.bool false))), none, []⟩, [14, 16]),
    (⟨some 18, .build [.bool false, .slice true [], .slice true []] [(0, 1, .t 17)], none, []⟩, [17]),
    (⟨none, .store 3 (.t 4) (.t 18), none, []⟩, [18])])
    .ret)
  .skip))
  (.seq (.regionK true [
  (⟨some 19, .fieldAddr 1 (.t 2), none, []⟩, [11]),
  (⟨some 20, .load none (.t 19), none, [0]⟩, [19]),
  (⟨some 21, .load (some 2) (.t 3), none, []⟩, []),
  (⟨some 22, .call false 75 [.t 20, .t 21], none, [0, 1, 2]⟩, [20, 21]),
  (⟨some 23, .fieldAddr 2 (.t 2), none, []⟩, []),
  (⟨some 24, .load none (.t 23), none, [4]⟩, [23]),
  (⟨some 25, .load (some 2) (.t 3), none, []⟩, []),
  (⟨some 26, .call false 75 [.t 24, .t 25], none, [0, 1, 2, 3, 4, 5, 6]⟩, [24, 25]),
  (⟨some 27, .build [.bool false, .slice true [], .slice true []] [(1, 1, .t 22), (2, 1, .t 26)], none, [0, 1, 2, 3, 4, 5, 6, 7]⟩, [22, 26]),
  (⟨none, .store 3 (.t 4) (.t 27), none, [0, 1, 2, 3, 4, 5, 6, 7, 8]⟩, [27])])
  .ret)))⟩

/-- clockwork/footprint.Of -/
def a48 : AFunc := ⟨10, 1, [.cell 2 3],
  (.seq (.regionK false [
  (⟨some 1, .box (.t 0), none, []⟩, [0]),
  (⟨some 2, .alloc [.bool false, .slice true [], .slice true []], none, []⟩, [])])
  (.seq (.regionK true [
  (⟨some 3, .fieldAddr 3 (.t 1), none, []⟩, []),
  (⟨some 4, .load none (.t 3), none, [0]⟩, [3]),
  (⟨some 5, .call false 74 [.t 4], none, [0, 1]⟩, [4]),
  (⟨some 6, .fieldAddr 4 (.t 1), none, []⟩, []),
  (⟨some 7, .load none (.t 6), none, [3]⟩, [6]),
  (⟨some 8, .call false 74 [.t 7], none, [0, 1, 2, 3, 4]⟩, [7]),
  (⟨some 9, .build [.bool false, .slice true [], .slice true []] [(1, 1, .t 5), (2, 1, .t 8)], none, [0, 1, 2, 3, 4, 5]⟩, [5, 8]),
  (⟨none, .store 3 (.t 2) (.t 9), none, [0, 1, 2, 3, 4, 5, 6]⟩, [9])])
  .ret))⟩

/-- clockwork/clockworkref04.Split -/
def a49 : AFunc := ⟨42, 2, [.cell 4 2, .cell 5 2, .tmp 6],
  (.seq (.regionK false [
  (⟨some 2, .box (.t 0), none, []⟩, [0]),
  (⟨some 4, .alloc [.str ⟨#[]⟩, .str ⟨#[]⟩], none, []⟩, []),
  (⟨some 5, .alloc [.str ⟨#[]⟩, .str ⟨#[]⟩], none, []⟩, []),
  (⟨some 6, .move (.c (.p (.int .i64 0))), none, []⟩, [6])])
  (.seq (.seq (.regionK false [
  (⟨some 7, .load (some 2) (.t 2), none, []⟩, []),
  (⟨some 8, .call false 76 [.t 7], none, []⟩, [7]),
  (⟨some 9, .un .not (.t 8), none, []⟩, [8]),
  (⟨some 10, .move (.t 9), none, []⟩, [9]),
  (⟨some 11, .move (.t 1), some (10, false), []⟩, []),
  (⟨some 12, .call false 77 [.t 11], some (10, false), []⟩, [11]),
  (⟨some 13, .un .not (.t 12), some (10, false), []⟩, [12]),
  (⟨some 14, .pick (.t 10) (.c (.p (.bool true))) (.t 13), none, []⟩, [10, 13]),
  (⟨some 15, .move (.t 14), none, []⟩, [14]),
  (⟨some 16, .move (.t 1), some (15, false), []⟩, []),
  (⟨some 17, .fieldAddr 0 (.t 2), some (15, false), []⟩, []),
  (⟨some 18, .load none (.t 17), some (15, false), []⟩, [17]),
  (⟨some 19, .bin .leq (.t 16) (.t 18), some (15, false), []⟩, [16, 18]),
  (⟨some 20, .pick (.t 15) (.c (.p (.bool true))) (.t 19), none, []⟩, [15, 19]),
  (⟨some 21, .move (.t 20), none, []⟩, [20]),
  (⟨some 22, .fieldAddr 1 (.t 2), some (21, false), []⟩, []),
  (⟨some 23, .load none (.t 22), some (21, false), []⟩, [22]),
  (⟨some 24, .bin .neq (.t 23) (.c (.p (.str ⟨#[]⟩))), some (21, false), []⟩, [23]),
  (⟨some 25, .move (.t 24), some (21, false), []⟩, [24]),
  (⟨some 26, .move (.t 1), some (25, true), []⟩, []),
  (⟨some 27, .fieldAddr 1 (.t 2), some (25, true), []⟩, []),
  (⟨some 28, .load none (.t 27), some (25, true), []⟩, [27]),
  (⟨some 29, .bin .geq (.t 26) (.t 28), some (25, true), []⟩, [26, 28]),
  (⟨some 30, .pick (.t 25) (.t 29) (.c (.p (.bool false))), some (21, false), []⟩, [25, 29]),
  (⟨some 31, .pick (.t 21) (.c (.p (.bool true))) (.t 30), none, []⟩, [21, 30])])
  (.cond (.t 31)
  (.seq (.regionK false [
    (⟨some 32, .build [.str ⟨#[]⟩, .str ⟨#[]⟩] [], none, []⟩, [1, 31]),
    (⟨some 33, .build [.str ⟨#[]⟩, .str ⟨#[]⟩] [], none, []⟩, []),
    (⟨none, .store 2 (.t 4) (.t 32), none, []⟩, [32]),
    (⟨none, .store 2 (.t 5) (.t 33), none, []⟩, [33]),
    (⟨some 6, .move (.c (.p (.int .i64 1))), none, []⟩, [])])
    .ret)
  .skip))
  (.seq (.regionS [(5, 8), (6, 8)] [
  ⟨some 34, .fieldAddr 0 (.t 2), none, []⟩,
  ⟨some 35, .load none (.t 34), none, [0]⟩,
  ⟨some 36, .move (.t 1), none, []⟩,
  ⟨some 37, .build [.str ⟨#[]⟩, .str ⟨#[]⟩] [(0, 1, .t 35), (1, 1, .t 36)], none, [0, 1, 2]⟩,
  ⟨some 38, .move (.t 1), none, []⟩,
  ⟨some 39, .fieldAddr 1 (.t 2), none, []⟩,
  ⟨some 40, .load none (.t 39), none, [5]⟩,
  ⟨some 41, .build [.str ⟨#[]⟩, .str ⟨#[]⟩] [(0, 1, .t 38), (1, 1, .t 40)], none, [4, 5, 6]⟩,
  ⟨none, .store 2 (.t 4) (.t 37), none, [0, 1, 2, 3]⟩,
  ⟨none, .store 2 (.t 5) (.t 41), none, [0, 1, 2, 3, 4, 5, 6, 7, 8]⟩,
  ⟨some 6, .move (.c (.p (.int .i64 0))), none, [0, 1, 2, 3, 4, 5, 6, 7, 8, 9]⟩] [1, 31, 34, 35, 36, 37, 38, 39, 40, 41])
  .ret)))⟩

/-- clockwork/clockworkref19.Few -/
@[irreducible] def a50_l0 : ACode :=
  (.seq (.seq (.regionK false [
  (⟨some 33, .move (.t 6), none, []⟩, []),
  (⟨some 34, .fieldAddr 2 (.t 2), none, []⟩, []),
  (⟨some 35, .load none (.t 34), none, []⟩, [34]),
  (⟨some 36, .len (.t 35), none, []⟩, [35]),
  (⟨some 37, .bin .lss (.t 33) (.t 36), none, []⟩, [33, 36])])
  (.cond (.t 37)
  .skip
  (.ghost (.forget [6, 37]) (.ghost (.free [2]) (.ghost .lower (.exit 2))))))
  (.seq (.block 3
  (.seq (.regionK false [
    (⟨some 40, .fieldAddr 2 (.t 2), none, []⟩, [37]),
    (⟨some 41, .load none (.t 40), none, []⟩, [40]),
    (⟨some 42, .move (.t 6), none, []⟩, []),
    (⟨some 43, .indexAddr 1 (.t 41) (.t 42), none, []⟩, [41, 42]),
    (⟨some 44, .load none (.t 43), none, []⟩, [43]),
    (⟨some 45, .lenS (.t 44), none, []⟩, [44]),
    (⟨some 46, .bin .gtr (.t 45) (.c (.p (.int .i64 100))), none, []⟩, [45])])
    (.cond (.t 46)
    (.seq (.regionK false [
      (⟨some 4, .move (.c (.p (.bool false))), none, []⟩, [6, 46])])
      .ret)
    .skip)))
  (.regionK false [
  (⟨some 38, .move (.t 6), none, []⟩, [46]),
  (⟨some 39, .bin .add (.t 38) (.c (.p (.int .i64 1))), none, []⟩, [38]),
  (⟨some 6, .move (.t 39), none, []⟩, [39])])))

@[irreducible] def a50_l1 : ACode :=
  (.seq (.seq (.regionK false [
  (⟨some 19, .move (.t 5), none, []⟩, []),
  (⟨some 20, .fieldAddr 1 (.t 2), none, []⟩, []),
  (⟨some 21, .load none (.t 20), none, []⟩, [20]),
  (⟨some 22, .len (.t 21), none, []⟩, [21]),
  (⟨some 23, .bin .lss (.t 19) (.t 22), none, []⟩, [19, 22])])
  (.cond (.t 23)
  .skip
  (.ghost (.forget [5, 23]) (.ghost .lower (.exit 0)))))
  (.seq (.block 1
  (.seq (.regionK false [
    (⟨some 26, .fieldAddr 1 (.t 2), none, []⟩, [23]),
    (⟨some 27, .load none (.t 26), none, []⟩, [26]),
    (⟨some 28, .move (.t 5), none, []⟩, []),
    (⟨some 29, .indexAddr 1 (.t 27) (.t 28), none, []⟩, [27, 28]),
    (⟨some 30, .load none (.t 29), none, []⟩, [29]),
    (⟨some 31, .lenS (.t 30), none, []⟩, [30]),
    (⟨some 32, .bin .gtr (.t 31) (.c (.p (.int .i64 100))), none, []⟩, [31])])
    (.cond (.t 32)
    (.seq (.regionK false [
      (⟨some 4, .move (.c (.p (.bool false))), none, []⟩, [5, 32])])
      .ret)
    .skip)))
  (.regionK false [
  (⟨some 24, .move (.t 5), none, []⟩, [32]),
  (⟨some 25, .bin .add (.t 24) (.c (.p (.int .i64 1))), none, []⟩, [24]),
  (⟨some 5, .move (.t 25), none, []⟩, [25])])))

def a50 : AFunc := ⟨47, 2, [.tmp 4],
  (.seq (.regionK false [
  (⟨some 2, .box (.t 0), none, []⟩, [0]),
  (⟨some 4, .move (.c (.p (.bool false))), none, []⟩, [4])])
  (.seq (.seq (.regionK false [
  (⟨some 7, .fieldAddr 1 (.t 2), none, []⟩, []),
  (⟨some 8, .load none (.t 7), none, []⟩, [7]),
  (⟨some 9, .len (.t 8), none, []⟩, [8]),
  (⟨some 10, .move (.t 1), none, []⟩, []),
  (⟨some 11, .bin .gtr (.t 9) (.t 10), none, []⟩, [9, 10]),
  (⟨some 12, .move (.t 11), none, []⟩, [11]),
  (⟨some 13, .fieldAddr 2 (.t 2), some (12, false), []⟩, []),
  (⟨some 14, .load none (.t 13), some (12, false), []⟩, [13]),
  (⟨some 15, .len (.t 14), some (12, false), []⟩, [14]),
  (⟨some 16, .move (.t 1), some (12, false), []⟩, [1]),
  (⟨some 17, .bin .gtr (.t 15) (.t 16), some (12, false), []⟩, [15, 16]),
  (⟨some 18, .pick (.t 12) (.c (.p (.bool true))) (.t 17), none, []⟩, [12, 17])])
  (.cond (.t 18)
  (.seq (.regionK false [
    (⟨some 4, .move (.c (.p (.bool false))), none, []⟩, [18])])
    .ret)
  .skip))
  (.seq (.seq (.regionK false [
  (⟨some 5, .move (.c (.p (.int .i64 0))), none, []⟩, [18])])
  (.block 0
  (.loop
    (.ghost .lower a50_l1))))
  (.seq (.seq (.regionK false [
  (⟨some 6, .move (.c (.p (.int .i64 0))), none, []⟩, [])])
  (.block 2
  (.loop
    (.ghost .lower a50_l0))))
  (.seq (.regionK false [
  (⟨some 4, .move (.c (.p (.bool true))), none, []⟩, [])])
  .ret)))))⟩

/-- clockwork/footprint.limited -/
def a51 : AFunc := ⟨18, 2, [.cell 4 3, .tmp 5],
  (.seq (.regionK false [
  (⟨some 4, .alloc [.bool false, .slice true [], .slice true []], none, []⟩, []),
  (⟨some 5, .move (.c (.p (.int .i64 0))), none, []⟩, [5])])
  (.seq (.seq (.regionK false [
  (⟨some 6, .move (.t 0), none, []⟩, []),
  (⟨some 7, .len (.t 6), none, []⟩, [6]),
  (⟨some 8, .bin .gtr (.t 7) (.c (.p (.int .i64 64))), none, []⟩, [7]),
  (⟨some 9, .move (.t 8), none, []⟩, [8]),
  (⟨some 10, .move (.t 1), some (9, false), []⟩, []),
  (⟨some 11, .len (.t 10), some (9, false), []⟩, [10]),
  (⟨some 12, .bin .gtr (.t 11) (.c (.p (.int .i64 64))), some (9, false), []⟩, [11]),
  (⟨some 13, .pick (.t 9) (.c (.p (.bool true))) (.t 12), none, []⟩, [9, 12])])
  (.cond (.t 13)
  (.seq (.regionK false [
    (⟨some 14, .build [.bool false, .slice true [], .slice true []] [], none, []⟩, [0, 1, 13]),
    (⟨none, .store 3 (.t 4) (.t 14), none, []⟩, [14]),
    (⟨some 5, .move (.c (.p (.int .i64 2))), none, []⟩, [])])
    .ret)
  .skip))
  (.seq (.regionK false [
  (⟨some 15, .move (.t 0), none, []⟩, [0, 13]),
  (⟨some 16, .move (.t 1), none, []⟩, [1]),
  (⟨some 17, .build [.bool false, .slice true [], .slice true []] [(1, 1, .t 15), (2, 1, .t 16)], none, []⟩, [15, 16]),
  (⟨none, .store 3 (.t 4) (.t 17), none, []⟩, [17]),
  (⟨some 5, .move (.c (.p (.int .i64 0))), none, []⟩, [])])
  .ret)))⟩

/-- clockwork/footprint.merged -/
def a52 : AFunc := ⟨10, 1, [.tmp 2],
  (.seq (.regionK false [
  (⟨some 2, .move (.c (.p (.slice true []))), none, []⟩, [2])])
  (.seq (.regionK false [
  (⟨some 4, .move (.t 0), none, []⟩, [0]),
  (⟨some 5, .call true 65 [.t 4], none, []⟩, [4]),
  (⟨some 3, .move (.t 5), none, []⟩, [5])])
  (.seq (.regionK false [
  (⟨some 6, .move (.t 3), none, []⟩, []),
  (⟨some 7, .call true 78 [.t 6], none, []⟩, [6, 7])])
  (.seq (.regionK false [
  (⟨some 8, .move (.t 3), none, []⟩, [3]),
  (⟨some 9, .call true 79 [.t 8], none, []⟩, [8]),
  (⟨some 2, .move (.t 9), none, []⟩, [9])])
  .ret))))⟩

/-- clockwork/clockworkref19.limited -/
def a53 : AFunc := ⟨18, 2, [.cell 4 3, .tmp 5],
  (.seq (.regionK false [
  (⟨some 4, .alloc [.bool false, .slice true [], .slice true []], none, []⟩, []),
  (⟨some 5, .move (.c (.p (.int .i64 0))), none, []⟩, [5])])
  (.seq (.seq (.regionK false [
  (⟨some 6, .move (.t 0), none, []⟩, []),
  (⟨some 7, .len (.t 6), none, []⟩, [6]),
  (⟨some 8, .bin .gtr (.t 7) (.c (.p (.int .i64 64))), none, []⟩, [7]),
  (⟨some 9, .move (.t 8), none, []⟩, [8]),
  (⟨some 10, .move (.t 1), some (9, false), []⟩, []),
  (⟨some 11, .len (.t 10), some (9, false), []⟩, [10]),
  (⟨some 12, .bin .gtr (.t 11) (.c (.p (.int .i64 64))), some (9, false), []⟩, [11]),
  (⟨some 13, .pick (.t 9) (.c (.p (.bool true))) (.t 12), none, []⟩, [9, 12])])
  (.cond (.t 13)
  (.seq (.regionK false [
    (⟨some 14, .build [.bool false, .slice true [], .slice true []] [], none, []⟩, [0, 1, 13]),
    (⟨none, .store 3 (.t 4) (.t 14), none, []⟩, [14]),
    (⟨some 5, .move (.c (.p (.int .i64 2))), none, []⟩, [])])
    .ret)
  .skip))
  (.seq (.regionK false [
  (⟨some 15, .move (.t 0), none, []⟩, [0, 13]),
  (⟨some 16, .move (.t 1), none, []⟩, [1]),
  (⟨some 17, .build [.bool false, .slice true [], .slice true []] [(1, 1, .t 15), (2, 1, .t 16)], none, []⟩, [15, 16]),
  (⟨none, .store 3 (.t 4) (.t 17), none, []⟩, [17]),
  (⟨some 5, .move (.c (.p (.int .i64 0))), none, []⟩, [])])
  .ret)))⟩

/-- clockwork/clockworkref19.both -/
@[irreducible] def a54_l0 : ACode :=
  (.seq (.seq (.regionK false [
  (⟨some 9, .move (.t 6), none, []⟩, []),
  (⟨some 10, .move (.t 1), none, []⟩, []),
  (⟨some 11, .len (.t 10), none, []⟩, [10]),
  (⟨some 12, .bin .lss (.t 9) (.t 11), none, []⟩, [9, 11])])
  (.cond (.t 12)
  .skip
  (.ghost (.forget [1, 6, 12]) (.ghost .lower (.exit 0)))))
  (.seq (.block 1
  (.regionK false [
    (⟨some 15, .move (.t 5), none, []⟩, [12]),
    (⟨some 16, .move (.t 1), none, []⟩, []),
    (⟨some 17, .move (.t 6), none, []⟩, []),
    (⟨some 18, .indexAddr 1 (.t 16) (.t 17), none, []⟩, [16, 17]),
    (⟨some 19, .load none (.t 18), none, []⟩, [18]),
    (⟨some 20, .call false 80 [.t 15, .t 19], none, []⟩, [15, 19]),
    (⟨some 5, .move (.t 20), none, []⟩, [20])]))
  (.regionK false [
  (⟨some 13, .move (.t 6), none, []⟩, []),
  (⟨some 14, .bin .add (.t 13) (.c (.p (.int .i64 1))), none, []⟩, [13]),
  (⟨some 6, .move (.t 14), none, []⟩, [14])])))

def a54 : AFunc := ⟨22, 2, [.tmp 4],
  (.seq (.regionK false [
  (⟨some 4, .move (.c (.p (.slice true []))), none, []⟩, [4])])
  (.seq (.regionK false [
  (⟨some 7, .move (.t 0), none, []⟩, [0]),
  (⟨some 8, .call false 68 [.t 7], none, []⟩, [7]),
  (⟨some 5, .move (.t 8), none, []⟩, [8])])
  (.seq (.seq (.regionK false [
  (⟨some 6, .move (.c (.p (.int .i64 0))), none, []⟩, [])])
  (.block 0
  (.loop
    (.ghost .lower a54_l0))))
  (.seq (.regionK false [
  (⟨some 21, .move (.t 5), none, []⟩, [5]),
  (⟨some 4, .move (.t 21), none, []⟩, [21])])
  .ret))))⟩

/-- clockwork/clockworkref04.Has -/
@[irreducible] def a58_l0 : ACode :=
  (.seq (.seq (.regionK false [
  (⟨some 6, .move (.t 5), none, []⟩, []),
  (⟨some 7, .move (.t 0), none, []⟩, []),
  (⟨some 8, .len (.t 7), none, []⟩, [7]),
  (⟨some 9, .bin .lss (.t 6) (.t 8), none, []⟩, [6, 8])])
  (.cond (.t 9)
  .skip
  (.ghost (.forget [0, 1, 5, 9]) (.ghost .lower (.exit 0)))))
  (.seq (.block 1
  (.seq (.regionK false [
    (⟨some 12, .move (.t 0), none, []⟩, [9]),
    (⟨some 13, .move (.t 5), none, []⟩, []),
    (⟨some 14, .indexAddr 1 (.t 12) (.t 13), none, []⟩, [12, 13]),
    (⟨some 15, .load none (.t 14), none, []⟩, [14]),
    (⟨some 16, .move (.t 1), none, []⟩, []),
    (⟨some 17, .bin .eql (.t 15) (.t 16), none, []⟩, [15, 16])])
    (.cond (.t 17)
    (.seq (.regionK false [
      (⟨some 4, .move (.c (.p (.bool true))), none, []⟩, [0, 1, 5, 17])])
      .ret)
    .skip)))
  (.regionK false [
  (⟨some 10, .move (.t 5), none, []⟩, [17]),
  (⟨some 11, .bin .add (.t 10) (.c (.p (.int .i64 1))), none, []⟩, [10]),
  (⟨some 5, .move (.t 11), none, []⟩, [11])])))

def a58 : AFunc := ⟨18, 2, [.tmp 4],
  (.seq (.regionK false [
  (⟨some 4, .move (.c (.p (.bool false))), none, []⟩, [4])])
  (.seq (.seq (.regionK false [
  (⟨some 5, .move (.c (.p (.int .i64 0))), none, []⟩, [])])
  (.block 0
  (.loop
    (.ghost .lower a58_l0))))
  (.seq (.regionK false [
  (⟨some 4, .move (.c (.p (.bool false))), none, []⟩, [])])
  .ret)))⟩

/-- clockwork/footprint.within -/
@[irreducible] def a60_l0 : ACode :=
  (.seq (.regionK false [
  (⟨some 12, .bin .lss (.t 11) (.t 10), none, []⟩, [])])
  (.seq (.cond (.t 12)
  .skip
  (.ghost (.forget [0, 9, 10, 11, 12]) (.ghost .lower (.exit 0))))
  (.seq (.block 1
  (.seq (.regionK false [
    (⟨some 13, .indexAddr 1 (.t 9) (.t 11), none, []⟩, [12]),
    (⟨some 14, .load none (.t 13), none, []⟩, [13]),
    (⟨some 6, .move (.t 14), none, []⟩, [14])])
    (.seq (.regionK false [
    (⟨some 16, .move (.t 0), none, []⟩, []),
    (⟨some 17, .move (.t 6), none, []⟩, [6]),
    (⟨some 18, .call false 82 [.t 16, .t 17], none, []⟩, [16, 17]),
    (⟨some 15, .move (.t 18), none, []⟩, [18]),
    (⟨some 19, .extract (.t 15) 0, none, []⟩, []),
    (⟨some 20, .extract (.t 15) 1, none, []⟩, [15]),
    (⟨some 7, .move (.t 19), none, []⟩, [7, 19]),
    (⟨some 8, .move (.t 20), none, []⟩, [20])])
    (.seq (.regionK false [
    (⟨some 21, .move (.t 8), none, []⟩, [8]),
    (⟨some 22, .un .not (.t 21), none, []⟩, [21])])
    (.cond (.t 22)
    (.seq (.regionK false [
      (⟨some 4, .move (.c (.p (.bool false))), none, []⟩, [0, 9, 10, 11, 22])])
      .ret)
    .skip)))))
  (.regionK false [
  (⟨some 23, .bin .add (.t 11) (.c (.p (.int .i64 1))), none, []⟩, [22]),
  (⟨some 11, .move (.t 23), none, []⟩, [23])]))))

def a60 : AFunc := ⟨24, 2, [.tmp 4],
  (.seq (.regionK false [
  (⟨some 4, .move (.c (.p (.bool false))), none, []⟩, [4])])
  (.seq (.seq (.regionK false [
  (⟨some 9, .move (.t 1), none, []⟩, [1]),
  (⟨some 10, .len (.t 9), none, []⟩, []),
  (⟨some 11, .move (.c (.p (.int .i64 0))), none, []⟩, [])])
  (.block 0
  (.loop
    (.ghost .lower a60_l0))))
  (.seq (.regionK false [
  (⟨some 4, .move (.c (.p (.bool true))), none, []⟩, [])])
  .ret)))⟩

/-- clockwork/footprint.meet -/
@[irreducible] def a61_l0 : ACode :=
  (.seq (.regionK false [
  (⟨some 12, .bin .lss (.t 11) (.t 10), none, []⟩, [])])
  (.seq (.cond (.t 12)
  .skip
  (.ghost (.forget [1, 9, 10, 11, 12]) (.ghost .lower (.exit 0))))
  (.seq (.block 1
  (.seq (.regionK false [
    (⟨some 13, .indexAddr 1 (.t 9) (.t 11), none, []⟩, [12]),
    (⟨some 14, .load none (.t 13), none, []⟩, [13]),
    (⟨some 6, .move (.t 14), none, []⟩, [14])])
    (.seq (.regionK false [
    (⟨some 16, .move (.t 1), none, []⟩, []),
    (⟨some 17, .move (.t 6), none, []⟩, [6]),
    (⟨some 18, .call false 82 [.t 16, .t 17], none, []⟩, [16, 17]),
    (⟨some 15, .move (.t 18), none, []⟩, [18]),
    (⟨some 19, .extract (.t 15) 0, none, []⟩, []),
    (⟨some 20, .extract (.t 15) 1, none, []⟩, [15]),
    (⟨some 7, .move (.t 19), none, []⟩, [7, 19]),
    (⟨some 8, .move (.t 20), none, []⟩, [20])])
    (.seq (.regionK false [
    (⟨some 21, .move (.t 8), none, []⟩, [8])])
    (.cond (.t 21)
    (.seq (.regionK false [
      (⟨some 4, .move (.c (.p (.bool true))), none, []⟩, [1, 9, 10, 11, 21])])
      .ret)
    .skip)))))
  (.regionK false [
  (⟨some 22, .bin .add (.t 11) (.c (.p (.int .i64 1))), none, []⟩, [21]),
  (⟨some 11, .move (.t 22), none, []⟩, [22])]))))

def a61 : AFunc := ⟨23, 2, [.tmp 4],
  (.seq (.regionK false [
  (⟨some 4, .move (.c (.p (.bool false))), none, []⟩, [4])])
  (.seq (.seq (.regionK false [
  (⟨some 9, .move (.t 0), none, []⟩, [0]),
  (⟨some 10, .len (.t 9), none, []⟩, []),
  (⟨some 11, .move (.c (.p (.int .i64 0))), none, []⟩, [])])
  (.block 0
  (.loop
    (.ghost .lower a61_l0))))
  (.seq (.regionK false [
  (⟨some 4, .move (.c (.p (.bool false))), none, []⟩, [])])
  .ret)))⟩

/-- clockwork/clockworkref19.meet -/
@[irreducible] def a62_l0 : ACode :=
  (.seq (.seq (.regionK false [
  (⟨some 6, .move (.t 5), none, []⟩, []),
  (⟨some 7, .move (.t 0), none, []⟩, []),
  (⟨some 8, .len (.t 7), none, []⟩, [7]),
  (⟨some 9, .bin .lss (.t 6) (.t 8), none, []⟩, [6, 8])])
  (.cond (.t 9)
  .skip
  (.ghost (.forget [0, 1, 5, 9]) (.ghost .lower (.exit 0)))))
  (.seq (.block 1
  (.seq (.regionK false [
    (⟨some 12, .move (.t 1), none, []⟩, [9]),
    (⟨some 13, .move (.t 0), none, []⟩, []),
    (⟨some 14, .move (.t 5), none, []⟩, []),
    (⟨some 15, .indexAddr 1 (.t 13) (.t 14), none, []⟩, [13, 14]),
    (⟨some 16, .load none (.t 15), none, []⟩, [15]),
    (⟨some 17, .call false 58 [.t 12, .t 16], none, []⟩, [12, 16])])
    (.cond (.t 17)
    (.seq (.regionK false [
      (⟨some 4, .move (.c (.p (.bool true))), none, []⟩, [0, 1, 5, 17])])
      .ret)
    .skip)))
  (.regionK false [
  (⟨some 10, .move (.t 5), none, []⟩, [17]),
  (⟨some 11, .bin .add (.t 10) (.c (.p (.int .i64 1))), none, []⟩, [10]),
  (⟨some 5, .move (.t 11), none, []⟩, [11])])))

def a62 : AFunc := ⟨18, 2, [.tmp 4],
  (.seq (.regionK false [
  (⟨some 4, .move (.c (.p (.bool false))), none, []⟩, [4])])
  (.seq (.seq (.regionK false [
  (⟨some 5, .move (.c (.p (.int .i64 0))), none, []⟩, [])])
  (.block 0
  (.loop
    (.ghost .lower a62_l0))))
  (.seq (.regionK false [
  (⟨some 4, .move (.c (.p (.bool false))), none, []⟩, [])])
  .ret)))⟩

/-- clockwork/clockworkref19.within -/
@[irreducible] def a63_l0 : ACode :=
  (.seq (.seq (.regionK false [
  (⟨some 6, .move (.t 5), none, []⟩, []),
  (⟨some 7, .move (.t 0), none, []⟩, []),
  (⟨some 8, .len (.t 7), none, []⟩, [7]),
  (⟨some 9, .bin .lss (.t 6) (.t 8), none, []⟩, [6, 8])])
  (.cond (.t 9)
  .skip
  (.ghost (.forget [0, 1, 5, 9]) (.ghost .lower (.exit 0)))))
  (.seq (.block 1
  (.seq (.regionK false [
    (⟨some 12, .move (.t 1), none, []⟩, [9]),
    (⟨some 13, .move (.t 0), none, []⟩, []),
    (⟨some 14, .move (.t 5), none, []⟩, []),
    (⟨some 15, .indexAddr 1 (.t 13) (.t 14), none, []⟩, [13, 14]),
    (⟨some 16, .load none (.t 15), none, []⟩, [15]),
    (⟨some 17, .call false 58 [.t 12, .t 16], none, []⟩, [12, 16]),
    (⟨some 18, .un .not (.t 17), none, []⟩, [17])])
    (.cond (.t 18)
    (.seq (.regionK false [
      (⟨some 4, .move (.c (.p (.bool false))), none, []⟩, [0, 1, 5, 18])])
      .ret)
    .skip)))
  (.regionK false [
  (⟨some 10, .move (.t 5), none, []⟩, [18]),
  (⟨some 11, .bin .add (.t 10) (.c (.p (.int .i64 1))), none, []⟩, [10]),
  (⟨some 5, .move (.t 11), none, []⟩, [11])])))

def a63 : AFunc := ⟨19, 2, [.tmp 4],
  (.seq (.regionK false [
  (⟨some 4, .move (.c (.p (.bool false))), none, []⟩, [4])])
  (.seq (.seq (.regionK false [
  (⟨some 5, .move (.c (.p (.int .i64 0))), none, []⟩, [])])
  (.block 0
  (.loop
    (.ghost .lower a63_l0))))
  (.seq (.regionK false [
  (⟨some 4, .move (.c (.p (.bool true))), none, []⟩, [])])
  .ret)))⟩

/-- clockwork/footprint.ascending -/
@[irreducible] def a64_l0 : ACode :=
  (.seq (.regionK false [
  (⟨some 8, .bin .lss (.t 7) (.t 6), none, []⟩, [])])
  (.seq (.cond (.t 8)
  .skip
  (.ghost (.forget [5, 6, 7, 8]) (.ghost .lower (.exit 0))))
  (.seq (.block 1
  (.seq (.regionK false [
    (⟨some 9, .move (.t 7), none, []⟩, [8]),
    (⟨some 10, .indexAddr 1 (.t 5) (.t 7), none, []⟩, []),
    (⟨some 11, .load none (.t 10), none, []⟩, [10]),
    (⟨some 3, .move (.t 9), none, []⟩, [9]),
    (⟨some 4, .move (.t 11), none, []⟩, [11])])
    (.seq (.regionK false [
    (⟨some 12, .move (.t 4), none, []⟩, []),
    (⟨some 13, .call false 66 [.t 12], none, []⟩, [12]),
    (⟨some 14, .un .not (.t 13), none, []⟩, [13]),
    (⟨some 15, .move (.t 14), none, []⟩, [14]),
    (⟨some 16, .move (.t 3), some (15, false), []⟩, []),
    (⟨some 17, .bin .gtr (.t 16) (.c (.p (.int .i64 0))), some (15, false), []⟩, [16]),
    (⟨some 18, .move (.t 17), some (15, false), []⟩, [17]),
    (⟨some 19, .move (.t 4), some (18, true), []⟩, [4]),
    (⟨some 20, .move (.t 0), some (18, true), []⟩, []),
    (⟨some 21, .move (.t 3), some (18, true), []⟩, [3]),
    (⟨some 22, .bin .sub (.t 21) (.c (.p (.int .i64 1))), some (18, true), []⟩, [21]),
    (⟨some 23, .indexAddr 1 (.t 20) (.t 22), some (18, true), []⟩, [20, 22]),
    (⟨some 24, .load none (.t 23), some (18, true), []⟩, [23]),
    (⟨some 25, .bin .leq (.t 19) (.t 24), some (18, true), []⟩, [19, 24]),
    (⟨some 26, .pick (.t 18) (.t 25) (.c (.p (.bool false))), some (15, false), []⟩, [18, 25]),
    (⟨some 27, .pick (.t 15) (.c (.p (.bool true))) (.t 26), none, []⟩, [15, 26])])
    (.cond (.t 27)
    (.seq (.regionK false [
      (⟨some 2, .move (.c (.p (.bool false))), none, []⟩, [0, 5, 6, 7, 27])])
      .ret)
    .skip))))
  (.regionK false [
  (⟨some 28, .bin .add (.t 7) (.c (.p (.int .i64 1))), none, []⟩, [27]),
  (⟨some 7, .move (.t 28), none, []⟩, [28])]))))

def a64 : AFunc := ⟨32, 1, [.tmp 2],
  (.seq (.regionK false [
  (⟨some 2, .move (.c (.p (.bool false))), none, []⟩, [2])])
  (.seq (.seq (.regionK false [
  (⟨some 5, .move (.t 0), none, []⟩, []),
  (⟨some 6, .len (.t 5), none, []⟩, []),
  (⟨some 7, .move (.c (.p (.int .i64 0))), none, []⟩, [])])
  (.block 0
  (.loop
    (.ghost .lower a64_l0))))
  (.seq (.regionK false [
  (⟨some 29, .move (.t 0), none, []⟩, [0]),
  (⟨some 30, .len (.t 29), none, []⟩, [29]),
  (⟨some 31, .bin .leq (.t 30) (.c (.p (.int .i64 64))), none, []⟩, [30]),
  (⟨some 2, .move (.t 31), none, []⟩, [31])])
  .ret)))⟩

/-- slices.Concat[[]string,string] -/
@[irreducible] def a65_l0 : ACode :=
  (.seq (.regionK false [
  (⟨some 28, .bin .lss (.t 27) (.t 26), none, []⟩, [])])
  (.seq (.cond (.t 28)
  .skip
  (.ghost (.forget [25, 26, 27, 28]) (.exit 2)))
  (.seq (.block 3
  (.seq (.regionK false [
    (⟨some 29, .indexAddr 1 (.t 25) (.t 27), none, []⟩, [28]),
    (⟨some 30, .load none (.t 29), none, []⟩, [29]),
    (⟨some 8, .move (.t 30), none, []⟩, [30])])
    (.regionK false [
    (⟨some 31, .move (.t 6), none, []⟩, []),
    (⟨some 32, .move (.t 8), none, []⟩, [8]),
    (⟨some 33, .append 16 1 (.t 31) (.t 32), none, []⟩, [31, 32]),
    (⟨some 6, .move (.t 33), none, []⟩, [33])])))
  (.regionK false [
  (⟨some 34, .bin .add (.t 27) (.c (.p (.int .i64 1))), none, []⟩, []),
  (⟨some 27, .move (.t 34), none, []⟩, [34])]))))

@[irreducible] def a65_l1 : ACode :=
  (.seq (.regionK false [
  (⟨some 12, .bin .lss (.t 11) (.t 10), none, []⟩, [])])
  (.seq (.cond (.t 12)
  .skip
  (.ghost (.forget [9, 10, 11, 12]) (.exit 0)))
  (.seq (.block 1
  (.seq (.regionK false [
    (⟨some 13, .indexAddr 1 (.t 9) (.t 11), none, []⟩, [12]),
    (⟨some 14, .load none (.t 13), none, []⟩, [13]),
    (⟨some 5, .move (.t 14), none, []⟩, [14])])
    (.seq (.regionK false [
    (⟨some 15, .move (.t 3), none, []⟩, []),
    (⟨some 16, .move (.t 5), none, []⟩, [5]),
    (⟨some 17, .len (.t 16), none, []⟩, [16]),
    (⟨some 18, .bin .add (.t 15) (.t 17), none, []⟩, [15, 17]),
    (⟨some 3, .move (.t 18), none, []⟩, [18])])
    (.seq (.regionK false [
    (⟨some 19, .move (.t 3), none, []⟩, []),
    (⟨some 20, .bin .lss (.t 19) (.c (.p (.int .i64 0))), none, []⟩, [19])])
    (.cond (.t 20)
    .dead
    .skip)))))
  (.regionK false [
  (⟨some 22, .bin .add (.t 11) (.c (.p (.int .i64 1))), none, []⟩, [20]),
  (⟨some 11, .move (.t 22), none, []⟩, [22])]))))

def a65 : AFunc := ⟨36, 1, [.tmp 2],
  (.seq (.regionK false [
  (⟨some 2, .move (.c (.p (.slice true []))), none, []⟩, [2])])
  (.seq (.regionK false [
  (⟨some 3, .move (.c (.p (.int .i64 0))), none, []⟩, [])])
  (.seq (.seq (.regionK false [
  (⟨some 9, .move (.t 0), none, []⟩, []),
  (⟨some 10, .len (.t 9), none, []⟩, []),
  (⟨some 11, .move (.c (.p (.int .i64 0))), none, []⟩, [])])
  (.block 0
  (.loop
    a65_l1)))
  (.seq (.regionK false [
  (⟨some 23, .move (.t 3), none, []⟩, [3]),
  (⟨some 24, .call true 83 [.c (.p (.slice true [])), .t 23], none, []⟩, [23]),
  (⟨some 6, .move (.t 24), none, []⟩, [24])])
  (.seq (.seq (.regionK false [
  (⟨some 25, .move (.t 0), none, []⟩, [0]),
  (⟨some 26, .len (.t 25), none, []⟩, []),
  (⟨some 27, .move (.c (.p (.int .i64 0))), none, []⟩, [])])
  (.block 2
  (.loop
    a65_l0)))
  (.seq (.regionK false [
  (⟨some 35, .move (.t 6), none, []⟩, [6]),
  (⟨some 2, .move (.t 35), none, []⟩, [35])])
  .ret))))))⟩

/-- clockwork/keys.Valid -/
def a66 : AFunc := ⟨9, 1, [.tmp 2],
  (.seq (.regionK false [
  (⟨some 2, .move (.c (.p (.bool false))), none, []⟩, [2])])
  (.seq (.regionK false [
  (⟨some 3, .move (.t 0), none, []⟩, []),
  (⟨some 4, .bin .neq (.t 3) (.c (.p (.str ⟨#[]⟩))), none, []⟩, [3]),
  (⟨some 5, .move (.t 4), none, []⟩, [4]),
  (⟨some 6, .move (.t 0), some (5, true), []⟩, [0]),
  (⟨some 7, .call false 84 [.t 6, .c (.func 85 [])], some (5, true), []⟩, [6]),
  (⟨some 8, .pick (.t 5) (.t 7) (.c (.p (.bool false))), none, []⟩, [5, 7]),
  (⟨some 2, .move (.t 8), none, []⟩, [8])])
  .ret))⟩

/-- clockwork/clockworkref19.keys -/
@[irreducible] def a67_l0 : ACode :=
  (.seq (.seq (.regionK false [
  (⟨some 4, .move (.t 3), none, []⟩, []),
  (⟨some 5, .move (.t 0), none, []⟩, []),
  (⟨some 6, .len (.t 5), none, []⟩, [5]),
  (⟨some 7, .bin .lss (.t 4) (.t 6), none, []⟩, [4, 6])])
  (.cond (.t 7)
  .skip
  (.ghost (.forget [0, 3, 7]) (.ghost .lower (.exit 0)))))
  (.seq (.block 1
  (.seq (.regionK false [
    (⟨some 10, .move (.t 0), none, []⟩, [7]),
    (⟨some 11, .move (.t 3), none, []⟩, []),
    (⟨some 12, .indexAddr 1 (.t 10) (.t 11), none, []⟩, [10, 11]),
    (⟨some 13, .load none (.t 12), none, []⟩, [12]),
    (⟨some 14, .call false 86 [.t 13], none, []⟩, [13]),
    (⟨some 15, .un .not (.t 14), none, []⟩, [14])])
    (.cond (.t 15)
    (.seq (.regionK false [
      (⟨some 2, .move (.c (.p (.bool false))), none, []⟩, [0, 3, 15])])
      .ret)
    .skip)))
  (.regionK false [
  (⟨some 8, .move (.t 3), none, []⟩, [15]),
  (⟨some 9, .bin .add (.t 8) (.c (.p (.int .i64 1))), none, []⟩, [8]),
  (⟨some 3, .move (.t 9), none, []⟩, [9])])))

def a67 : AFunc := ⟨16, 1, [.tmp 2],
  (.seq (.regionK false [
  (⟨some 2, .move (.c (.p (.bool false))), none, []⟩, [2])])
  (.seq (.seq (.regionK false [
  (⟨some 3, .move (.c (.p (.int .i64 0))), none, []⟩, [])])
  (.block 0
  (.loop
    (.ghost .lower a67_l0))))
  (.seq (.regionK false [
  (⟨some 2, .move (.c (.p (.bool true))), none, []⟩, [])])
  .ret)))⟩

/-- clockwork/clockworkref19.sorted -/
@[irreducible] def a68_l0 : ACode :=
  (.seq (.seq (.regionK false [
  (⟨some 5, .move (.t 4), none, []⟩, []),
  (⟨some 6, .move (.t 0), none, []⟩, []),
  (⟨some 7, .len (.t 6), none, []⟩, [6]),
  (⟨some 8, .bin .lss (.t 5) (.t 7), none, []⟩, [5, 7])])
  (.cond (.t 8)
  .skip
  (.ghost (.forget [0, 4, 8]) (.ghost .lower (.exit 0)))))
  (.seq (.block 1
  (.regionK false [
    (⟨some 11, .move (.t 3), none, []⟩, [8]),
    (⟨some 12, .move (.t 0), none, []⟩, []),
    (⟨some 13, .move (.t 4), none, []⟩, []),
    (⟨some 14, .indexAddr 1 (.t 12) (.t 13), none, []⟩, [12, 13]),
    (⟨some 15, .load none (.t 14), none, []⟩, [14]),
    (⟨some 16, .call false 80 [.t 11, .t 15], none, []⟩, [11, 15]),
    (⟨some 3, .move (.t 16), none, []⟩, [16])]))
  (.regionK false [
  (⟨some 9, .move (.t 4), none, []⟩, []),
  (⟨some 10, .bin .add (.t 9) (.c (.p (.int .i64 1))), none, []⟩, [9]),
  (⟨some 4, .move (.t 10), none, []⟩, [10])])))

def a68 : AFunc := ⟨18, 1, [.tmp 2],
  (.seq (.regionK false [
  (⟨some 2, .move (.c (.p (.slice true []))), none, []⟩, [2])])
  (.seq (.regionK false [
  (⟨some 3, .move (.c (.p (.slice true []))), none, []⟩, [])])
  (.seq (.seq (.regionK false [
  (⟨some 4, .move (.c (.p (.int .i64 0))), none, []⟩, [])])
  (.block 0
  (.loop
    (.ghost .lower a68_l0))))
  (.seq (.regionK false [
  (⟨some 17, .move (.t 3), none, []⟩, [3]),
  (⟨some 2, .move (.t 17), none, []⟩, [17])])
  .ret))))⟩

/-- clockwork/clockworkref04.Ascending -/
@[irreducible] def a69_l0 : ACode :=
  (.seq (.seq (.regionK false [
  (⟨some 4, .move (.t 3), none, []⟩, []),
  (⟨some 5, .move (.t 0), none, []⟩, []),
  (⟨some 6, .len (.t 5), none, []⟩, [5]),
  (⟨some 7, .bin .lss (.t 4) (.t 6), none, []⟩, [4, 6])])
  (.cond (.t 7)
  .skip
  (.ghost (.forget [0, 3, 7]) (.ghost .lower (.exit 0)))))
  (.seq (.block 1
  (.seq (.regionK true [
    (⟨some 10, .move (.t 0), none, []⟩, [7]),
    (⟨some 11, .move (.t 3), none, []⟩, []),
    (⟨some 12, .indexAddr 1 (.t 10) (.t 11), none, [0, 1]⟩, [10, 11]),
    (⟨some 13, .load none (.t 12), none, [0, 1, 2]⟩, [12]),
    (⟨some 14, .call false 86 [.t 13], none, [0, 1, 2, 3]⟩, [13]),
    (⟨some 15, .un .not (.t 14), none, [0, 1, 2, 3, 4]⟩, [14]),
    (⟨some 16, .move (.t 15), none, [0, 1, 2, 3, 4, 5]⟩, [15]),
    (⟨some 17, .move (.t 3), some (16, false), [0, 1, 2, 3, 4, 5, 6]⟩, []),
    (⟨some 18, .bin .gtr (.t 17) (.c (.p (.int .i64 0))), some (16, false), [0, 1, 2, 3, 4, 5, 6, 7]⟩, [17]),
    (⟨some 19, .move (.t 18), some (16, false), [0, 1, 2, 3, 4, 5, 6, 7, 8]⟩, [18]),
    (⟨some 20, .move (.t 0), some (19, true), [0, 1, 2, 3, 4, 5, 6, 7, 8, 9]⟩, []),
    (⟨some 21, .move (.t 3), some (19, true), [0, 1, 2, 3, 4, 5, 6, 7, 8, 9]⟩, []),
    (⟨some 22, .bin .sub (.t 21) (.c (.p (.int .i64 1))), some (19, true), [0, 1, 2, 3, 4, 5, 6, 7, 8, 9, 11]⟩, [21]),
    (⟨some 23, .indexAddr 1 (.t 20) (.t 22), some (19, true), [0, 1, 2, 3, 4, 5, 6, 7, 8, 9, 10, 11, 12]⟩, [20, 22]),
    (⟨some 24, .load none (.t 23), some (19, true), [0, 1, 2, 3, 4, 5, 6, 7, 8, 9, 10, 11, 12, 13]⟩, [23]),
    (⟨some 25, .move (.t 0), some (19, true), [0, 1, 2, 3, 4, 5, 6, 7, 8, 9]⟩, []),
    (⟨some 26, .move (.t 3), some (19, true), [0, 1, 2, 3, 4, 5, 6, 7, 8, 9]⟩, []),
    (⟨some 27, .indexAddr 1 (.t 25) (.t 26), some (19, true), [0, 1, 2, 3, 4, 5, 6, 7, 8, 9, 15, 16]⟩, [25, 26]),
    (⟨some 28, .load none (.t 27), some (19, true), [0, 1, 2, 3, 4, 5, 6, 7, 8, 9, 15, 16, 17]⟩, [27]),
    (⟨some 29, .bin .geq (.t 24) (.t 28), some (19, true), [0, 1, 2, 3, 4, 5, 6, 7, 8, 9, 10, 11, 12, 13, 14, 15, 16, 17, 18]⟩, [24, 28]),
    (⟨some 30, .pick (.t 19) (.t 29) (.c (.p (.bool false))), some (16, false), [0, 1, 2, 3, 4, 5, 6, 7, 8, 9, 10, 11, 12, 13, 14, 15, 16, 17, 18, 19]⟩, [19, 29]),
    (⟨some 31, .pick (.t 16) (.c (.p (.bool true))) (.t 30), none, [0, 1, 2, 3, 4, 5, 6, 7, 8, 9, 10, 11, 12, 13, 14, 15, 16, 17, 18, 19, 20]⟩, [16, 30])])
    (.cond (.t 31)
    (.seq (.regionK false [
      (⟨some 2, .move (.c (.p (.bool false))), none, []⟩, [0, 3, 31])])
      .ret)
    .skip)))
  (.regionK false [
  (⟨some 8, .move (.t 3), none, []⟩, [31]),
  (⟨some 9, .bin .add (.t 8) (.c (.p (.int .i64 1))), none, []⟩, [8]),
  (⟨some 3, .move (.t 9), none, []⟩, [9])])))

def a69 : AFunc := ⟨32, 1, [.tmp 2],
  (.seq (.regionK false [
  (⟨some 2, .move (.c (.p (.bool false))), none, []⟩, [2])])
  (.seq (.seq (.regionK false [
  (⟨some 3, .move (.c (.p (.int .i64 0))), none, []⟩, [])])
  (.block 0
  (.loop
    (.ghost .lower a69_l0))))
  (.seq (.regionK false [
  (⟨some 2, .move (.c (.p (.bool true))), none, []⟩, [])])
  .ret)))⟩

/-- slices.Equal[[]string,string] -/
@[irreducible] def a70_l0 : ACode :=
  (.seq (.regionK false [
  (⟨some 14, .bin .lss (.t 13) (.t 12), none, []⟩, [])])
  (.seq (.cond (.t 14)
  .skip
  (.ghost (.forget [0, 1, 12, 13, 14]) (.ghost .lower (.exit 0))))
  (.seq (.block 1
  (.seq (.regionK false [
    (⟨some 15, .move (.t 13), none, []⟩, [14]),
    (⟨some 5, .move (.t 15), none, []⟩, [15])])
    (.seq (.regionK true [
    (⟨some 16, .move (.t 0), none, []⟩, []),
    (⟨some 17, .move (.t 5), none, []⟩, []),
    (⟨some 18, .indexAddr 1 (.t 16) (.t 17), none, [0, 1]⟩, [16, 17]),
    (⟨some 19, .load none (.t 18), none, [0, 1, 2]⟩, [18]),
    (⟨some 20, .move (.t 1), none, []⟩, []),
    (⟨some 21, .move (.t 5), none, []⟩, [5]),
    (⟨some 22, .indexAddr 1 (.t 20) (.t 21), none, [4, 5]⟩, [20, 21]),
    (⟨some 23, .load none (.t 22), none, [4, 5, 6]⟩, [22]),
    (⟨some 24, .bin .neq (.t 19) (.t 23), none, [0, 1, 2, 3, 4, 5, 6, 7]⟩, [19, 23])])
    (.cond (.t 24)
    (.seq (.regionK false [
      (⟨some 4, .move (.c (.p (.bool false))), none, []⟩, [0, 1, 12, 13, 24])])
      .ret)
    .skip))))
  (.regionK false [
  (⟨some 25, .bin .add (.t 13) (.c (.p (.int .i64 1))), none, []⟩, [24]),
  (⟨some 13, .move (.t 25), none, []⟩, [25])]))))

def a70 : AFunc := ⟨26, 2, [.tmp 4],
  (.seq (.regionK false [
  (⟨some 4, .move (.c (.p (.bool false))), none, []⟩, [4])])
  (.seq (.seq (.regionK false [
  (⟨some 6, .move (.t 0), none, []⟩, []),
  (⟨some 7, .len (.t 6), none, []⟩, [6]),
  (⟨some 8, .move (.t 1), none, []⟩, []),
  (⟨some 9, .len (.t 8), none, []⟩, [8]),
  (⟨some 10, .bin .neq (.t 7) (.t 9), none, []⟩, [7, 9])])
  (.cond (.t 10)
  (.seq (.regionK false [
    (⟨some 4, .move (.c (.p (.bool false))), none, []⟩, [0, 1, 10])])
    .ret)
  .skip))
  (.seq (.seq (.regionK false [
  (⟨some 11, .move (.t 0), none, []⟩, [10]),
  (⟨some 12, .len (.t 11), none, []⟩, [11]),
  (⟨some 13, .move (.c (.p (.int .i64 0))), none, []⟩, [])])
  (.block 0
  (.loop
    (.ghost .lower a70_l0))))
  (.seq (.regionK false [
  (⟨some 4, .move (.c (.p (.bool true))), none, []⟩, [])])
  .ret))))⟩

/-- clockwork/footprint.Project$1 -/
def a71 : AFunc := ⟨8, 2, [.tmp 3],
  (.seq (.regionK false [
  (⟨some 3, .move (.c (.p (.bool false))), none, []⟩, [3])])
  (.seq (.regionK false [
  (⟨some 4, .load (some 2) (.t 1), none, []⟩, [1]),
  (⟨some 5, .move (.t 0), none, []⟩, [0]),
  (⟨some 6, .call false 72 [.t 4, .t 5], none, []⟩, [4, 5]),
  (⟨some 7, .un .not (.t 6), none, []⟩, [6]),
  (⟨some 3, .move (.t 7), none, []⟩, [7])])
  .ret))⟩

/-- clockwork/keys.Contains -/
def a72 : AFunc := ⟨24, 2, [.tmp 4],
  (.seq (.regionK false [
  (⟨some 2, .box (.t 0), none, []⟩, [0]),
  (⟨some 4, .move (.c (.p (.bool false))), none, []⟩, [4])])
  (.seq (.regionK false [
  (⟨some 5, .load (some 2) (.t 2), none, []⟩, []),
  (⟨some 6, .call false 87 [.t 5], none, []⟩, [5]),
  (⟨some 7, .move (.t 6), none, []⟩, [6]),
  (⟨some 8, .fieldAddr 0 (.t 2), some (7, true), []⟩, []),
  (⟨some 9, .load none (.t 8), some (7, true), []⟩, [8]),
  (⟨some 10, .move (.t 1), some (7, true), []⟩, []),
  (⟨some 11, .bin .leq (.t 9) (.t 10), some (7, true), []⟩, [9, 10]),
  (⟨some 12, .pick (.t 7) (.t 11) (.c (.p (.bool false))), none, []⟩, [7, 11]),
  (⟨some 13, .move (.t 12), none, []⟩, [12]),
  (⟨some 14, .fieldAddr 1 (.t 2), some (13, true), []⟩, []),
  (⟨some 15, .load none (.t 14), some (13, true), []⟩, [14]),
  (⟨some 16, .bin .eql (.t 15) (.c (.p (.str ⟨#[]⟩))), some (13, true), []⟩, [15]),
  (⟨some 17, .move (.t 16), some (13, true), []⟩, [16]),
  (⟨some 18, .move (.t 1), some (17, false), []⟩, [1]),
  (⟨some 19, .fieldAddr 1 (.t 2), some (17, false), []⟩, []),
  (⟨some 20, .load none (.t 19), some (17, false), []⟩, [19]),
  (⟨some 21, .bin .lss (.t 18) (.t 20), some (17, false), []⟩, [18, 20]),
  (⟨some 22, .pick (.t 17) (.c (.p (.bool true))) (.t 21), some (13, true), []⟩, [17, 21]),
  (⟨some 23, .pick (.t 13) (.t 22) (.c (.p (.bool false))), none, []⟩, [13, 22]),
  (⟨some 4, .move (.t 23), none, []⟩, [23])])
  .ret))⟩

/-- slices.DeleteFunc[[]string,string] -/
@[irreducible] def a73_l0 : ACode :=
  (.seq (.seq (.regionK false [
  (⟨some 16, .move (.t 6), none, []⟩, []),
  (⟨some 17, .move (.t 0), none, []⟩, []),
  (⟨some 18, .len (.t 17), none, []⟩, [17]),
  (⟨some 19, .bin .lss (.t 16) (.t 18), none, []⟩, [16, 18])])
  (.cond (.t 19)
  .skip
  (.ghost (.forget [1, 6, 19]) (.exit 0))))
  (.seq (.block 1
  (.seq (.regionK false [
    (⟨some 22, .move (.t 0), none, []⟩, [19]),
    (⟨some 23, .move (.t 6), none, []⟩, []),
    (⟨some 24, .indexAddr 1 (.t 22) (.t 23), none, []⟩, [22, 23]),
    (⟨some 25, .load none (.t 24), none, []⟩, [24]),
    (⟨some 7, .move (.t 25), none, []⟩, [25])])
    (.seq (.regionK false [
    (⟨some 26, .move (.t 1), none, []⟩, []),
    (⟨some 27, .move (.t 7), none, []⟩, []),
    (⟨some 28, .callv false (.t 26) [.t 27], none, []⟩, [26, 27]),
    (⟨some 29, .un .not (.t 28), none, []⟩, [28])])
    (.cond (.t 29)
    (.seq (.regionK false [
      (⟨some 30, .move (.t 0), none, []⟩, [29]),
      (⟨some 31, .move (.t 5), none, []⟩, []),
      (⟨some 32, .move (.t 7), none, []⟩, [7]),
      (⟨some 33, .indexAddr 1 (.t 30) (.t 31), none, []⟩, [30, 31]),
      (⟨none, .store 1 (.t 33) (.t 32), none, []⟩, [32, 33])])
      (.regionK false [
      (⟨some 34, .move (.t 5), none, []⟩, []),
      (⟨some 35, .bin .add (.t 34) (.c (.p (.int .i64 1))), none, []⟩, [34]),
      (⟨some 5, .move (.t 35), none, []⟩, [35])]))
    .skip))))
  (.regionK false [
  (⟨some 20, .move (.t 6), none, []⟩, [7, 29]),
  (⟨some 21, .bin .add (.t 20) (.c (.p (.int .i64 1))), none, []⟩, [20]),
  (⟨some 6, .move (.t 21), none, []⟩, [21])])))

def a73 : AFunc := ⟨42, 2, [.tmp 4],
  (.seq (.regionK false [
  (⟨some 4, .move (.c (.p (.slice true []))), none, []⟩, [4])])
  (.seq (.regionK false [
  (⟨some 8, .move (.t 0), none, []⟩, []),
  (⟨some 9, .move (.t 1), none, []⟩, []),
  (⟨some 10, .call false 88 [.t 8, .t 9], none, []⟩, [8, 9]),
  (⟨some 5, .move (.t 10), none, []⟩, [10])])
  (.seq (.seq (.regionK false [
  (⟨some 11, .move (.t 5), none, []⟩, []),
  (⟨some 12, .bin .eql (.t 11) (.c (.p (.int .i64 (-1)))), none, []⟩, [11])])
  (.cond (.t 12)
  (.seq (.regionK false [
    (⟨some 13, .move (.t 0), none, []⟩, [0, 1, 5, 12]),
    (⟨some 4, .move (.t 13), none, []⟩, [13])])
    .ret)
  .skip))
  (.seq (.seq (.regionK false [
  (⟨some 14, .move (.t 5), none, []⟩, [12]),
  (⟨some 15, .bin .add (.t 14) (.c (.p (.int .i64 1))), none, []⟩, [14]),
  (⟨some 6, .move (.t 15), none, []⟩, [15])])
  (.block 0
  (.loop
    a73_l0)))
  (.seq (.regionK false [
  (⟨some 36, .move (.t 0), none, []⟩, []),
  (⟨some 37, .move (.t 5), none, []⟩, []),
  (⟨some 38, .slice 1 (.t 36) (some (.t 37)) none none, none, []⟩, [36, 37]),
  (⟨none, .clear [.str ⟨#[]⟩] (.t 38), none, []⟩, [38])])
  (.seq (.regionK false [
  (⟨some 39, .move (.t 0), none, []⟩, [0]),
  (⟨some 40, .move (.t 5), none, []⟩, [5]),
  (⟨some 41, .slice 1 (.t 39) none (some (.t 40)) none, none, []⟩, [39, 40]),
  (⟨some 4, .move (.t 41), none, []⟩, [41])])
  .ret))))))⟩

/-- clockwork/clockworkref19.inside -/
@[irreducible] def a75_l0 : ACode :=
  (.seq (.seq (.regionK false [
  (⟨some 7, .move (.t 6), none, []⟩, []),
  (⟨some 8, .move (.t 0), none, []⟩, []),
  (⟨some 9, .len (.t 8), none, []⟩, [8]),
  (⟨some 10, .bin .lss (.t 7) (.t 9), none, []⟩, [7, 9])])
  (.cond (.t 10)
  .skip
  (.ghost (.forget [0, 6, 10]) (.ghost (.free [3]) (.ghost .lower (.exit 0))))))
  (.seq (.block 1
  (.seq (.regionK true [
    (⟨some 13, .load (some 2) (.t 3), none, []⟩, [10]),
    (⟨some 14, .move (.t 0), none, []⟩, []),
    (⟨some 15, .move (.t 6), none, []⟩, []),
    (⟨some 16, .indexAddr 1 (.t 14) (.t 15), none, [1, 2]⟩, [14, 15]),
    (⟨some 17, .load none (.t 16), none, [1, 2, 3]⟩, [16]),
    (⟨some 18, .call false 89 [.t 13, .t 17], none, [0, 1, 2, 3, 4]⟩, [13, 17])])
    (.cond (.t 18)
    (.regionK false [
      (⟨some 19, .move (.t 5), none, []⟩, [18]),
      (⟨some 20, .move (.t 0), none, []⟩, []),
      (⟨some 21, .move (.t 6), none, []⟩, []),
      (⟨some 22, .indexAddr 1 (.t 20) (.t 21), none, []⟩, [20, 21]),
      (⟨some 23, .load none (.t 22), none, []⟩, [22]),
      (⟨some 24, .buildSlice [.str ⟨#[]⟩] 1 [(0, .t 23)], none, []⟩, [23]),
      (⟨some 25, .append 16 1 (.t 19) (.t 24), none, []⟩, [19, 24]),
      (⟨some 5, .move (.t 25), none, []⟩, [25])])
    .skip)))
  (.regionK false [
  (⟨some 11, .move (.t 6), none, []⟩, [18]),
  (⟨some 12, .bin .add (.t 11) (.c (.p (.int .i64 1))), none, []⟩, [11]),
  (⟨some 6, .move (.t 12), none, []⟩, [12])])))

def a75 : AFunc := ⟨27, 2, [.tmp 4],
  (.seq (.regionK false [
  (⟨some 3, .box (.t 1), none, []⟩, [1]),
  (⟨some 4, .move (.c (.p (.slice true []))), none, []⟩, [4])])
  (.seq (.regionK false [
  (⟨some 5, .move (.c (.p (.slice true []))), none, []⟩, [])])
  (.ghost (.own 1 5) (.seq (.seq (.regionK false [
  (⟨some 6, .move (.c (.p (.int .i64 0))), none, []⟩, [])])
  (.block 0
  (.loop
    (.ghost .lower a75_l0))))
  (.seq (.regionK false [
  (⟨some 26, .move (.t 5), none, []⟩, [5]),
  (⟨some 4, .move (.t 26), none, []⟩, [26])])
  .ret)))))⟩

/-- clockwork/clockworkref04.ValidRange -/
def a76 : AFunc := ⟨23, 1, [.tmp 2],
  (.seq (.regionK false [
  (⟨some 1, .box (.t 0), none, []⟩, [0]),
  (⟨some 2, .move (.c (.p (.bool false))), none, []⟩, [2])])
  (.seq (.regionK false [
  (⟨some 3, .fieldAddr 0 (.t 1), none, []⟩, []),
  (⟨some 4, .load none (.t 3), none, []⟩, [3]),
  (⟨some 5, .call false 77 [.t 4], none, []⟩, [4]),
  (⟨some 6, .move (.t 5), none, []⟩, [5]),
  (⟨some 7, .fieldAddr 1 (.t 1), some (6, true), []⟩, []),
  (⟨some 8, .load none (.t 7), some (6, true), []⟩, [7]),
  (⟨some 9, .call false 77 [.t 8], some (6, true), []⟩, [8]),
  (⟨some 10, .pick (.t 6) (.t 9) (.c (.p (.bool false))), none, []⟩, [6, 9]),
  (⟨some 11, .move (.t 10), none, []⟩, [10]),
  (⟨some 12, .fieldAddr 1 (.t 1), some (11, true), []⟩, []),
  (⟨some 13, .load none (.t 12), some (11, true), []⟩, [12]),
  (⟨some 14, .bin .eql (.t 13) (.c (.p (.str ⟨#[]⟩))), some (11, true), []⟩, [13]),
  (⟨some 15, .move (.t 14), some (11, true), []⟩, [14]),
  (⟨some 16, .fieldAddr 1 (.t 1), some (15, false), []⟩, []),
  (⟨some 17, .load none (.t 16), some (15, false), []⟩, [16]),
  (⟨some 18, .fieldAddr 0 (.t 1), some (15, false), []⟩, []),
  (⟨some 19, .load none (.t 18), some (15, false), []⟩, [18]),
  (⟨some 20, .bin .gtr (.t 17) (.t 19), some (15, false), []⟩, [17, 19]),
  (⟨some 21, .pick (.t 15) (.c (.p (.bool true))) (.t 20), some (11, true), []⟩, [15, 20]),
  (⟨some 22, .pick (.t 11) (.t 21) (.c (.p (.bool false))), none, []⟩, [11, 21]),
  (⟨some 2, .move (.t 22), none, []⟩, [22])])
  .ret))⟩

/-- clockwork/clockworkref04.Bound -/
@[irreducible] def a77_l0 : ACode :=
  (.seq (.seq (.regionK false [
  (⟨some 4, .move (.t 3), none, []⟩, []),
  (⟨some 5, .move (.t 0), none, []⟩, []),
  (⟨some 6, .lenS (.t 5), none, []⟩, [5]),
  (⟨some 7, .bin .lss (.t 4) (.t 6), none, []⟩, [4, 6])])
  (.cond (.t 7)
  .skip
  (.ghost (.forget [3, 7]) (.ghost .lower (.exit 0)))))
  (.seq (.block 1
  (.seq (.regionK false [
    (⟨some 10, .move (.t 0), none, []⟩, [7]),
    (⟨some 11, .move (.t 3), none, []⟩, []),
    (⟨some 12, .index (.t 10) (.t 11), none, []⟩, [10, 11]),
    (⟨some 13, .bin .lss (.t 12) (.c (.p (.int .u8 33))), none, []⟩, [12]),
    (⟨some 14, .move (.t 13), none, []⟩, [13]),
    (⟨some 15, .move (.t 0), some (14, false), []⟩, []),
    (⟨some 16, .move (.t 3), some (14, false), []⟩, []),
    (⟨some 17, .index (.t 15) (.t 16), some (14, false), []⟩, [15, 16]),
    (⟨some 18, .bin .gtr (.t 17) (.c (.p (.int .u8 126))), some (14, false), []⟩, [17]),
    (⟨some 19, .pick (.t 14) (.c (.p (.bool true))) (.t 18), none, []⟩, [14, 18])])
    (.cond (.t 19)
    (.seq (.regionK false [
      (⟨some 2, .move (.c (.p (.bool false))), none, []⟩, [0, 3, 19])])
      .ret)
    .skip)))
  (.regionK false [
  (⟨some 8, .move (.t 3), none, []⟩, [19]),
  (⟨some 9, .bin .add (.t 8) (.c (.p (.int .i64 1))), none, []⟩, [8]),
  (⟨some 3, .move (.t 9), none, []⟩, [9])])))

def a77 : AFunc := ⟨23, 1, [.tmp 2],
  (.seq (.regionK false [
  (⟨some 2, .move (.c (.p (.bool false))), none, []⟩, [2])])
  (.seq (.seq (.regionK false [
  (⟨some 3, .move (.c (.p (.int .i64 0))), none, []⟩, [])])
  (.block 0
  (.loop
    (.ghost .lower a77_l0))))
  (.seq (.regionK false [
  (⟨some 20, .move (.t 0), none, []⟩, [0]),
  (⟨some 21, .lenS (.t 20), none, []⟩, [20]),
  (⟨some 22, .bin .leq (.t 21) (.c (.p (.int .i64 24))), none, []⟩, [21]),
  (⟨some 2, .move (.t 22), none, []⟩, [22])])
  .ret)))⟩

/-- slices.Compact[[]string,string] -/
@[irreducible] def a79_l0 : ACode :=
  (.seq (.seq (.regionK false [
  (⟨some 29, .move (.t 5), none, []⟩, []),
  (⟨some 30, .move (.t 4), none, []⟩, []),
  (⟨some 31, .len (.t 30), none, []⟩, [30]),
  (⟨some 32, .bin .lss (.t 29) (.t 31), none, []⟩, [29, 31])])
  (.cond (.t 32)
  .skip
  (.ghost (.forget [4, 5, 32]) (.exit 2))))
  (.seq (.block 3
  (.seq (.regionK true [
    (⟨some 35, .move (.t 4), none, []⟩, [32]),
    (⟨some 36, .move (.t 5), none, []⟩, []),
    (⟨some 37, .indexAddr 1 (.t 35) (.t 36), none, [0, 1]⟩, [35, 36]),
    (⟨some 38, .load none (.t 37), none, [0, 1, 2]⟩, [37]),
    (⟨some 39, .move (.t 4), none, []⟩, []),
    (⟨some 40, .move (.t 5), none, []⟩, []),
    (⟨some 41, .bin .sub (.t 40) (.c (.p (.int .i64 1))), none, [5]⟩, [40]),
    (⟨some 42, .indexAddr 1 (.t 39) (.t 41), none, [4, 5, 6]⟩, [39, 41]),
    (⟨some 43, .load none (.t 42), none, [4, 5, 6, 7]⟩, [42]),
    (⟨some 44, .bin .neq (.t 38) (.t 43), none, [0, 1, 2, 3, 4, 5, 6, 7, 8]⟩, [38, 43])])
    (.cond (.t 44)
    (.seq (.regionK false [
      (⟨some 45, .move (.t 0), none, []⟩, [44]),
      (⟨some 46, .move (.t 3), none, []⟩, []),
      (⟨some 47, .move (.t 4), none, []⟩, []),
      (⟨some 48, .move (.t 5), none, []⟩, []),
      (⟨some 49, .indexAddr 1 (.t 47) (.t 48), none, []⟩, [47, 48]),
      (⟨some 50, .load none (.t 49), none, []⟩, [49]),
      (⟨some 51, .indexAddr 1 (.t 45) (.t 46), none, []⟩, [45, 46]),
      (⟨none, .store 1 (.t 51) (.t 50), none, []⟩, [50, 51])])
      (.regionK false [
      (⟨some 52, .move (.t 3), none, []⟩, []),
      (⟨some 53, .bin .add (.t 52) (.c (.p (.int .i64 1))), none, []⟩, [52]),
      (⟨some 3, .move (.t 53), none, []⟩, [53])]))
    .skip)))
  (.regionK false [
  (⟨some 33, .move (.t 5), none, []⟩, [44]),
  (⟨some 34, .bin .add (.t 33) (.c (.p (.int .i64 1))), none, []⟩, [33]),
  (⟨some 5, .move (.t 34), none, []⟩, [34])])))

@[irreducible] def a79_l1 : ACode :=
  (.seq (.seq (.regionK false [
  (⟨some 10, .move (.t 3), none, []⟩, []),
  (⟨some 11, .move (.t 0), none, []⟩, []),
  (⟨some 12, .len (.t 11), none, []⟩, [11]),
  (⟨some 13, .bin .lss (.t 10) (.t 12), none, []⟩, [10, 12])])
  (.cond (.t 13)
  .skip
  (.ghost (.forget [3, 13]) (.exit 0))))
  (.seq (.block 1
  (.seq (.regionK true [
    (⟨some 16, .move (.t 0), none, []⟩, [13]),
    (⟨some 17, .move (.t 3), none, []⟩, []),
    (⟨some 18, .indexAddr 1 (.t 16) (.t 17), none, [0, 1]⟩, [16, 17]),
    (⟨some 19, .load none (.t 18), none, [0, 1, 2]⟩, [18]),
    (⟨some 20, .move (.t 0), none, []⟩, []),
    (⟨some 21, .move (.t 3), none, []⟩, []),
    (⟨some 22, .bin .sub (.t 21) (.c (.p (.int .i64 1))), none, [5]⟩, [21]),
    (⟨some 23, .indexAddr 1 (.t 20) (.t 22), none, [4, 5, 6]⟩, [20, 22]),
    (⟨some 24, .load none (.t 23), none, [4, 5, 6, 7]⟩, [23]),
    (⟨some 25, .bin .eql (.t 19) (.t 24), none, [0, 1, 2, 3, 4, 5, 6, 7, 8]⟩, [19, 24])])
    (.cond (.t 25)
    (.seq (.regionK false [
      (⟨some 26, .move (.t 0), none, []⟩, [25]),
      (⟨some 27, .move (.t 3), none, []⟩, []),
      (⟨some 28, .slice 1 (.t 26) (some (.t 27)) none none, none, []⟩, [26, 27]),
      (⟨some 4, .move (.t 28), none, []⟩, [28])])
      (.seq (.seq (.regionK false [
      (⟨some 5, .move (.c (.p (.int .i64 1))), none, []⟩, [])])
      (.block 2
      (.loop
        a79_l0)))
      (.seq (.regionK false [
      (⟨some 54, .move (.t 0), none, []⟩, []),
      (⟨some 55, .move (.t 3), none, []⟩, []),
      (⟨some 56, .slice 1 (.t 54) (some (.t 55)) none none, none, []⟩, [54, 55]),
      (⟨none, .clear [.str ⟨#[]⟩] (.t 56), none, []⟩, [56])])
      (.seq (.regionK false [
      (⟨some 57, .move (.t 0), none, []⟩, [0]),
      (⟨some 58, .move (.t 3), none, []⟩, [3]),
      (⟨some 59, .slice 1 (.t 57) none (some (.t 58)) none, none, []⟩, [57, 58]),
      (⟨some 2, .move (.t 59), none, []⟩, [59])])
      .ret))))
    .skip)))
  (.regionK false [
  (⟨some 14, .move (.t 3), none, []⟩, [25]),
  (⟨some 15, .bin .add (.t 14) (.c (.p (.int .i64 1))), none, []⟩, [14]),
  (⟨some 3, .move (.t 15), none, []⟩, [15])])))

def a79 : AFunc := ⟨61, 1, [.tmp 2],
  (.seq (.regionK false [
  (⟨some 2, .move (.c (.p (.slice true []))), none, []⟩, [2])])
  (.seq (.seq (.regionK false [
  (⟨some 6, .move (.t 0), none, []⟩, []),
  (⟨some 7, .len (.t 6), none, []⟩, [6]),
  (⟨some 8, .bin .lss (.t 7) (.c (.p (.int .i64 2))), none, []⟩, [7])])
  (.cond (.t 8)
  (.seq (.regionK false [
    (⟨some 9, .move (.t 0), none, []⟩, [0, 8]),
    (⟨some 2, .move (.t 9), none, []⟩, [9])])
    .ret)
  .skip))
  (.seq (.seq (.regionK false [
  (⟨some 3, .move (.c (.p (.int .i64 1))), none, []⟩, [8])])
  (.block 0
  (.loop
    a79_l1)))
  (.seq (.regionK false [
  (⟨some 60, .move (.t 0), none, []⟩, [0]),
  (⟨some 2, .move (.t 60), none, []⟩, [60])])
  .ret))))⟩

/-- clockwork/clockworkref04.Insert -/
@[irreducible] def a80_l0 : ACode :=
  (.seq (.seq (.regionK false [
  (⟨some 7, .move (.t 5), none, []⟩, []),
  (⟨some 8, .move (.t 0), none, []⟩, []),
  (⟨some 9, .len (.t 8), none, []⟩, [8]),
  (⟨some 10, .bin .lss (.t 7) (.t 9), none, []⟩, [7, 9]),
  (⟨some 11, .move (.t 10), none, []⟩, [10]),
  (⟨some 12, .move (.t 0), some (11, true), []⟩, []),
  (⟨some 13, .move (.t 5), some (11, true), []⟩, []),
  (⟨some 14, .indexAddr 1 (.t 12) (.t 13), some (11, true), []⟩, [12, 13]),
  (⟨some 15, .load none (.t 14), some (11, true), []⟩, [14]),
  (⟨some 16, .move (.t 1), some (11, true), []⟩, []),
  (⟨some 17, .bin .lss (.t 15) (.t 16), some (11, true), []⟩, [15, 16]),
  (⟨some 18, .pick (.t 11) (.t 17) (.c (.p (.bool false))), none, []⟩, [11, 17])])
  (.cond (.t 18)
  .skip
  (.ghost (.forget [18]) (.ghost .lower (.exit 0)))))
  (.block 1
  (.regionK false [
    (⟨some 19, .move (.t 5), none, []⟩, [18]),
    (⟨some 20, .bin .add (.t 19) (.c (.p (.int .i64 1))), none, []⟩, [19]),
    (⟨some 5, .move (.t 20), none, []⟩, [20])])))

def a80 : AFunc := ⟨49, 2, [.tmp 4],
  (.seq (.regionK false [
  (⟨some 4, .move (.c (.p (.slice true []))), none, []⟩, [4])])
  (.seq (.regionK false [
  (⟨some 5, .move (.c (.p (.int .i64 0))), none, []⟩, [])])
  (.seq (.block 0
  (.loop
    (.ghost .lower a80_l0)))
  (.seq (.seq (.regionK false [
  (⟨some 21, .move (.t 5), none, []⟩, []),
  (⟨some 22, .move (.t 0), none, []⟩, []),
  (⟨some 23, .len (.t 22), none, []⟩, [22]),
  (⟨some 24, .bin .lss (.t 21) (.t 23), none, []⟩, [21, 23]),
  (⟨some 25, .move (.t 24), none, []⟩, [24]),
  (⟨some 26, .move (.t 0), some (25, true), []⟩, []),
  (⟨some 27, .move (.t 5), some (25, true), []⟩, []),
  (⟨some 28, .indexAddr 1 (.t 26) (.t 27), some (25, true), []⟩, [26, 27]),
  (⟨some 29, .load none (.t 28), some (25, true), []⟩, [28]),
  (⟨some 30, .move (.t 1), some (25, true), []⟩, []),
  (⟨some 31, .bin .eql (.t 29) (.t 30), some (25, true), []⟩, [29, 30]),
  (⟨some 32, .pick (.t 25) (.t 31) (.c (.p (.bool false))), none, []⟩, [25, 31])])
  (.cond (.t 32)
  (.seq (.regionK false [
    (⟨some 33, .move (.t 0), none, []⟩, [0, 1, 5, 32]),
    (⟨some 4, .move (.t 33), none, []⟩, [33])])
    .ret)
  .skip))
  (.seq (.regionK false [
  (⟨some 6, .move (.c (.p (.slice true []))), none, []⟩, [32])])
  (.seq (.regionK false [
  (⟨some 34, .move (.t 6), none, []⟩, []),
  (⟨some 35, .move (.t 0), none, []⟩, []),
  (⟨some 36, .move (.t 5), none, []⟩, []),
  (⟨some 37, .slice 1 (.t 35) none (some (.t 36)) none, none, []⟩, [35, 36]),
  (⟨some 38, .append 16 1 (.t 34) (.t 37), none, []⟩, [34, 37]),
  (⟨some 6, .move (.t 38), none, []⟩, [38])])
  (.seq (.regionK false [
  (⟨some 39, .move (.t 6), none, []⟩, []),
  (⟨some 40, .move (.t 1), none, []⟩, [1]),
  (⟨some 41, .buildSlice [.str ⟨#[]⟩] 1 [(0, .t 40)], none, []⟩, [40]),
  (⟨some 42, .append 16 1 (.t 39) (.t 41), none, []⟩, [39, 41]),
  (⟨some 6, .move (.t 42), none, []⟩, [42])])
  (.seq (.regionK false [
  (⟨some 43, .move (.t 6), none, []⟩, []),
  (⟨some 44, .move (.t 0), none, []⟩, [0]),
  (⟨some 45, .move (.t 5), none, []⟩, [5]),
  (⟨some 46, .slice 1 (.t 44) (some (.t 45)) none none, none, []⟩, [44, 45]),
  (⟨some 47, .append 16 1 (.t 43) (.t 46), none, []⟩, [43, 46]),
  (⟨some 6, .move (.t 47), none, []⟩, [47])])
  (.seq (.regionK false [
  (⟨some 48, .move (.t 6), none, []⟩, [6]),
  (⟨some 4, .move (.t 48), none, []⟩, [48])])
  .ret)))))))))⟩

/-- slices.BinarySearch[[]string,string] -/
@[irreducible] def a82_l0 : ACode :=
  (.seq (.seq (.regionK false [
  (⟨some 13, .move (.t 7), none, []⟩, []),
  (⟨some 14, .move (.t 8), none, []⟩, []),
  (⟨some 15, .bin .lss (.t 13) (.t 14), none, []⟩, [13, 14])])
  (.cond (.t 15)
  .skip
  (.ghost (.forget [8, 15]) (.ghost .lower (.exit 0)))))
  (.block 1
  (.seq (.regionK false [
    (⟨some 16, .move (.t 7), none, []⟩, [15]),
    (⟨some 17, .move (.t 8), none, []⟩, []),
    (⟨some 18, .bin .add (.t 16) (.t 17), none, []⟩, [16, 17]),
    (⟨some 19, .conv .u64 (.t 18), none, []⟩, [18]),
    (⟨some 20, .bin .shr (.t 19) (.c (.p (.int .u64 1))), none, []⟩, [19]),
    (⟨some 21, .conv .i64 (.t 20), none, []⟩, [20]),
    (⟨some 9, .move (.t 21), none, []⟩, [21])])
    (.seq (.regionK false [
    (⟨some 22, .move (.t 0), none, []⟩, []),
    (⟨some 23, .move (.t 9), none, []⟩, []),
    (⟨some 24, .indexAddr 1 (.t 22) (.t 23), none, []⟩, [22, 23]),
    (⟨some 25, .load none (.t 24), none, []⟩, [24]),
    (⟨some 26, .move (.t 1), none, []⟩, []),
    (⟨some 27, .call false 93 [.t 25, .t 26], none, []⟩, [25, 26])])
    (.cond (.t 27)
    (.regionK false [
      (⟨some 28, .move (.t 9), none, []⟩, [9, 27]),
      (⟨some 29, .bin .add (.t 28) (.c (.p (.int .i64 1))), none, []⟩, [28]),
      (⟨some 7, .move (.t 29), none, []⟩, [29])])
    (.regionK false [
      (⟨some 30, .move (.t 9), none, []⟩, [9, 27]),
      (⟨some 8, .move (.t 30), none, []⟩, [30])]))))))

def a82 : AFunc := ⟨54, 2, [.tmp 4, .tmp 5],
  (.seq (.regionK false [
  (⟨some 4, .move (.c (.p (.int .i64 0))), none, []⟩, [4]),
  (⟨some 5, .move (.c (.p (.bool false))), none, []⟩, [5])])
  (.seq (.regionK false [
  (⟨some 10, .move (.t 0), none, []⟩, []),
  (⟨some 11, .len (.t 10), none, []⟩, [10]),
  (⟨some 6, .move (.t 11), none, []⟩, [11])])
  (.seq (.regionK false [
  (⟨some 12, .move (.t 6), none, []⟩, []),
  (⟨some 7, .move (.c (.p (.int .i64 0))), none, []⟩, []),
  (⟨some 8, .move (.t 12), none, []⟩, [12])])
  (.seq (.block 0
  (.loop
    (.ghost .lower a82_l0)))
  (.seq (.regionK false [
  (⟨some 31, .move (.t 7), none, []⟩, []),
  (⟨some 32, .move (.t 7), none, []⟩, []),
  (⟨some 33, .move (.t 6), none, []⟩, [6]),
  (⟨some 34, .bin .lss (.t 32) (.t 33), none, []⟩, [32, 33]),
  (⟨some 35, .move (.t 34), none, []⟩, [34]),
  (⟨some 36, .move (.t 0), some (35, true), []⟩, []),
  (⟨some 37, .move (.t 7), some (35, true), []⟩, []),
  (⟨some 38, .indexAddr 1 (.t 36) (.t 37), some (35, true), []⟩, [36, 37]),
  (⟨some 39, .load none (.t 38), some (35, true), []⟩, [38]),
  (⟨some 40, .move (.t 1), some (35, true), []⟩, []),
  (⟨some 41, .bin .eql (.t 39) (.t 40), some (35, true), []⟩, [39, 40]),
  (⟨some 42, .move (.t 41), some (35, true), []⟩, [41]),
  (⟨some 43, .move (.t 0), some (42, false), []⟩, [0]),
  (⟨some 44, .move (.t 7), some (42, false), []⟩, [7]),
  (⟨some 45, .indexAddr 1 (.t 43) (.t 44), some (42, false), []⟩, [43, 44]),
  (⟨some 46, .load none (.t 45), some (42, false), []⟩, [45]),
  (⟨some 47, .call false 94 [.t 46], some (42, false), []⟩, [46]),
  (⟨some 48, .move (.t 47), some (42, false), []⟩, [47]),
  (⟨some 49, .move (.t 1), some (48, true), []⟩, [1]),
  (⟨some 50, .call false 94 [.t 49], some (48, true), []⟩, [49]),
  (⟨some 51, .pick (.t 48) (.t 50) (.c (.p (.bool false))), some (42, false), []⟩, [48, 50]),
  (⟨some 52, .pick (.t 42) (.c (.p (.bool true))) (.t 51), some (35, true), []⟩, [42, 51]),
  (⟨some 53, .pick (.t 35) (.t 52) (.c (.p (.bool false))), none, []⟩, [35, 52]),
  (⟨some 4, .move (.t 31), none, []⟩, [31]),
  (⟨some 5, .move (.t 53), none, []⟩, [53])])
  .ret)))))⟩

/-- clockwork/keys.consists -/
@[irreducible] def a84_l0 : ACode :=
  (.seq (.regionK false [
  (⟨some 12, .bin .lss (.t 11) (.t 10), none, []⟩, [])])
  (.seq (.cond (.t 12)
  .skip
  (.ghost (.forget [0, 1, 10, 11, 12]) (.ghost .lower (.exit 0))))
  (.seq (.block 1
  (.seq (.regionK false [
    (⟨some 13, .move (.t 11), none, []⟩, [12]),
    (⟨some 5, .move (.t 13), none, []⟩, [13])])
    (.seq (.regionK false [
    (⟨some 14, .move (.t 1), none, []⟩, []),
    (⟨some 15, .move (.t 0), none, []⟩, []),
    (⟨some 16, .move (.t 5), none, []⟩, [5]),
    (⟨some 17, .index (.t 15) (.t 16), none, []⟩, [15, 16]),
    (⟨some 18, .callv false (.t 14) [.t 17], none, []⟩, [14, 17]),
    (⟨some 19, .un .not (.t 18), none, []⟩, [18])])
    (.cond (.t 19)
    (.seq (.regionK false [
      (⟨some 4, .move (.c (.p (.bool false))), none, []⟩, [0, 1, 10, 11, 19])])
      .ret)
    .skip))))
  (.regionK false [
  (⟨some 20, .bin .add (.t 11) (.c (.p (.int .i64 1))), none, []⟩, [19]),
  (⟨some 11, .move (.t 20), none, []⟩, [20])]))))

def a84 : AFunc := ⟨21, 2, [.tmp 4],
  (.seq (.regionK false [
  (⟨some 4, .move (.c (.p (.bool false))), none, []⟩, [4])])
  (.seq (.seq (.regionK false [
  (⟨some 6, .move (.t 0), none, []⟩, []),
  (⟨some 7, .lenS (.t 6), none, []⟩, [6]),
  (⟨some 8, .bin .gtr (.t 7) (.c (.p (.int .i64 24))), none, []⟩, [7])])
  (.cond (.t 8)
  (.seq (.regionK false [
    (⟨some 4, .move (.c (.p (.bool false))), none, []⟩, [0, 1, 8])])
    .ret)
  .skip))
  (.seq (.seq (.regionK false [
  (⟨some 9, .move (.t 0), none, []⟩, [8]),
  (⟨some 10, .lenS (.t 9), none, []⟩, [9]),
  (⟨some 11, .move (.c (.p (.int .i64 0))), none, []⟩, [])])
  (.block 0
  (.loop
    (.ghost .lower a84_l0))))
  (.seq (.regionK false [
  (⟨some 4, .move (.c (.p (.bool true))), none, []⟩, [])])
  .ret))))⟩

/-- clockwork/keys.Valid$1 -/
def a85 : AFunc := ⟨33, 1, [.tmp 2],
  (.seq (.regionK false [
  (⟨some 2, .move (.c (.p (.bool false))), none, []⟩, [2])])
  (.seq (.regionK false [
  (⟨some 3, .move (.t 0), none, []⟩, []),
  (⟨some 4, .bin .geq (.t 3) (.c (.p (.int .u8 97))), none, []⟩, [3]),
  (⟨some 5, .move (.t 4), none, []⟩, [4]),
  (⟨some 6, .move (.t 0), some (5, true), []⟩, []),
  (⟨some 7, .bin .leq (.t 6) (.c (.p (.int .u8 122))), some (5, true), []⟩, [6]),
  (⟨some 8, .pick (.t 5) (.t 7) (.c (.p (.bool false))), none, []⟩, [5, 7]),
  (⟨some 9, .move (.t 8), none, []⟩, [8]),
  (⟨some 10, .move (.t 0), some (9, false), []⟩, []),
  (⟨some 11, .bin .geq (.t 10) (.c (.p (.int .u8 48))), some (9, false), []⟩, [10]),
  (⟨some 12, .move (.t 11), some (9, false), []⟩, [11]),
  (⟨some 13, .move (.t 0), some (12, true), []⟩, []),
  (⟨some 14, .bin .leq (.t 13) (.c (.p (.int .u8 57))), some (12, true), []⟩, [13]),
  (⟨some 15, .pick (.t 12) (.t 14) (.c (.p (.bool false))), some (9, false), []⟩, [12, 14]),
  (⟨some 16, .pick (.t 9) (.c (.p (.bool true))) (.t 15), none, []⟩, [9, 15]),
  (⟨some 17, .move (.t 16), none, []⟩, [16]),
  (⟨some 18, .move (.t 0), some (17, false), []⟩, []),
  (⟨some 19, .bin .eql (.t 18) (.c (.p (.int .u8 47))), some (17, false), []⟩, [18]),
  (⟨some 20, .pick (.t 17) (.c (.p (.bool true))) (.t 19), none, []⟩, [17, 19]),
  (⟨some 21, .move (.t 20), none, []⟩, [20]),
  (⟨some 22, .move (.t 0), some (21, false), []⟩, []),
  (⟨some 23, .bin .eql (.t 22) (.c (.p (.int .u8 46))), some (21, false), []⟩, [22]),
  (⟨some 24, .pick (.t 21) (.c (.p (.bool true))) (.t 23), none, []⟩, [21, 23]),
  (⟨some 25, .move (.t 24), none, []⟩, [24]),
  (⟨some 26, .move (.t 0), some (25, false), []⟩, []),
  (⟨some 27, .bin .eql (.t 26) (.c (.p (.int .u8 95))), some (25, false), []⟩, [26]),
  (⟨some 28, .pick (.t 25) (.c (.p (.bool true))) (.t 27), none, []⟩, [25, 27]),
  (⟨some 29, .move (.t 28), none, []⟩, [28]),
  (⟨some 30, .move (.t 0), some (29, false), []⟩, [0]),
  (⟨some 31, .bin .eql (.t 30) (.c (.p (.int .u8 45))), some (29, false), []⟩, [30]),
  (⟨some 32, .pick (.t 29) (.c (.p (.bool true))) (.t 31), none, []⟩, [29, 31]),
  (⟨some 2, .move (.t 32), none, []⟩, [32])])
  .ret))⟩

/-- clockwork/clockworkref04.Valid -/
@[irreducible] def a86_l0 : ACode :=
  (.seq (.seq (.regionK false [
  (⟨some 5, .move (.t 3), none, []⟩, []),
  (⟨some 6, .move (.t 0), none, []⟩, []),
  (⟨some 7, .lenS (.t 6), none, []⟩, [6]),
  (⟨some 8, .bin .lss (.t 5) (.t 7), none, []⟩, [5, 7])])
  (.cond (.t 8)
  .skip
  (.ghost (.forget [3, 8]) (.ghost .lower (.exit 0)))))
  (.seq (.block 1
  (.seq (.regionK false [
    (⟨some 11, .move (.t 0), none, []⟩, [8]),
    (⟨some 12, .move (.t 3), none, []⟩, []),
    (⟨some 13, .index (.t 11) (.t 12), none, []⟩, [11, 12]),
    (⟨some 4, .move (.t 13), none, []⟩, [13])])
    (.seq (.regionK false [
    (⟨some 14, .move (.t 4), none, []⟩, []),
    (⟨some 15, .bin .lss (.t 14) (.c (.p (.int .u8 97))), none, []⟩, [14]),
    (⟨some 16, .move (.t 15), none, []⟩, [15]),
    (⟨some 17, .move (.t 4), some (16, false), []⟩, []),
    (⟨some 18, .bin .gtr (.t 17) (.c (.p (.int .u8 122))), some (16, false), []⟩, [17]),
    (⟨some 19, .pick (.t 16) (.c (.p (.bool true))) (.t 18), none, []⟩, [16, 18]),
    (⟨some 20, .move (.t 19), none, []⟩, [19]),
    (⟨some 21, .move (.t 4), some (20, true), []⟩, []),
    (⟨some 22, .bin .lss (.t 21) (.c (.p (.int .u8 48))), some (20, true), []⟩, [21]),
    (⟨some 23, .move (.t 22), some (20, true), []⟩, [22]),
    (⟨some 24, .move (.t 4), some (23, false), []⟩, []),
    (⟨some 25, .bin .gtr (.t 24) (.c (.p (.int .u8 57))), some (23, false), []⟩, [24]),
    (⟨some 26, .pick (.t 23) (.c (.p (.bool true))) (.t 25), some (20, true), []⟩, [23, 25]),
    (⟨some 27, .pick (.t 20) (.t 26) (.c (.p (.bool false))), none, []⟩, [20, 26]),
    (⟨some 28, .move (.t 27), none, []⟩, [27]),
    (⟨some 29, .move (.t 4), some (28, true), []⟩, []),
    (⟨some 30, .bin .neq (.t 29) (.c (.p (.int .u8 47))), some (28, true), []⟩, [29]),
    (⟨some 31, .pick (.t 28) (.t 30) (.c (.p (.bool false))), none, []⟩, [28, 30]),
    (⟨some 32, .move (.t 31), none, []⟩, [31]),
    (⟨some 33, .move (.t 4), some (32, true), []⟩, []),
    (⟨some 34, .bin .neq (.t 33) (.c (.p (.int .u8 46))), some (32, true), []⟩, [33]),
    (⟨some 35, .pick (.t 32) (.t 34) (.c (.p (.bool false))), none, []⟩, [32, 34]),
    (⟨some 36, .move (.t 35), none, []⟩, [35]),
    (⟨some 37, .move (.t 4), some (36, true), []⟩, []),
    (⟨some 38, .bin .neq (.t 37) (.c (.p (.int .u8 95))), some (36, true), []⟩, [37]),
    (⟨some 39, .pick (.t 36) (.t 38) (.c (.p (.bool false))), none, []⟩, [36, 38]),
    (⟨some 40, .move (.t 39), none, []⟩, [39]),
    (⟨some 41, .move (.t 4), some (40, true), []⟩, [4]),
    (⟨some 42, .bin .neq (.t 41) (.c (.p (.int .u8 45))), some (40, true), []⟩, [41]),
    (⟨some 43, .pick (.t 40) (.t 42) (.c (.p (.bool false))), none, []⟩, [40, 42])])
    (.cond (.t 43)
    (.seq (.regionK false [
      (⟨some 2, .move (.c (.p (.bool false))), none, []⟩, [0, 3, 43])])
      .ret)
    .skip))))
  (.regionK false [
  (⟨some 9, .move (.t 3), none, []⟩, [43]),
  (⟨some 10, .bin .add (.t 9) (.c (.p (.int .i64 1))), none, []⟩, [9]),
  (⟨some 3, .move (.t 10), none, []⟩, [10])])))

def a86 : AFunc := ⟨52, 1, [.tmp 2],
  (.seq (.regionK false [
  (⟨some 2, .move (.c (.p (.bool false))), none, []⟩, [2])])
  (.seq (.seq (.regionK false [
  (⟨some 3, .move (.c (.p (.int .i64 0))), none, []⟩, [])])
  (.block 0
  (.loop
    (.ghost .lower a86_l0))))
  (.seq (.regionK false [
  (⟨some 44, .move (.t 0), none, []⟩, []),
  (⟨some 45, .lenS (.t 44), none, []⟩, [44]),
  (⟨some 46, .bin .geq (.t 45) (.c (.p (.int .i64 1))), none, []⟩, [45]),
  (⟨some 47, .move (.t 46), none, []⟩, [46]),
  (⟨some 48, .move (.t 0), some (47, true), []⟩, [0]),
  (⟨some 49, .lenS (.t 48), some (47, true), []⟩, [48]),
  (⟨some 50, .bin .leq (.t 49) (.c (.p (.int .i64 24))), some (47, true), []⟩, [49]),
  (⟨some 51, .pick (.t 47) (.t 50) (.c (.p (.bool false))), none, []⟩, [47, 50]),
  (⟨some 2, .move (.t 51), none, []⟩, [51])])
  .ret)))⟩

/-- clockwork/keys.ValidRange -/
def a87 : AFunc := ⟨23, 1, [.tmp 2],
  (.seq (.regionK false [
  (⟨some 1, .box (.t 0), none, []⟩, [0]),
  (⟨some 2, .move (.c (.p (.bool false))), none, []⟩, [2])])
  (.seq (.regionK false [
  (⟨some 3, .fieldAddr 0 (.t 1), none, []⟩, []),
  (⟨some 4, .load none (.t 3), none, []⟩, [3]),
  (⟨some 5, .call false 95 [.t 4], none, []⟩, [4]),
  (⟨some 6, .move (.t 5), none, []⟩, [5]),
  (⟨some 7, .fieldAddr 1 (.t 1), some (6, true), []⟩, []),
  (⟨some 8, .load none (.t 7), some (6, true), []⟩, [7]),
  (⟨some 9, .call false 95 [.t 8], some (6, true), []⟩, [8]),
  (⟨some 10, .pick (.t 6) (.t 9) (.c (.p (.bool false))), none, []⟩, [6, 9]),
  (⟨some 11, .move (.t 10), none, []⟩, [10]),
  (⟨some 12, .fieldAddr 1 (.t 1), some (11, true), []⟩, []),
  (⟨some 13, .load none (.t 12), some (11, true), []⟩, [12]),
  (⟨some 14, .bin .eql (.t 13) (.c (.p (.str ⟨#[]⟩))), some (11, true), []⟩, [13]),
  (⟨some 15, .move (.t 14), some (11, true), []⟩, [14]),
  (⟨some 16, .fieldAddr 1 (.t 1), some (15, false), []⟩, []),
  (⟨some 17, .load none (.t 16), some (15, false), []⟩, [16]),
  (⟨some 18, .fieldAddr 0 (.t 1), some (15, false), []⟩, []),
  (⟨some 19, .load none (.t 18), some (15, false), []⟩, [18]),
  (⟨some 20, .bin .gtr (.t 17) (.t 19), some (15, false), []⟩, [17, 19]),
  (⟨some 21, .pick (.t 15) (.c (.p (.bool true))) (.t 20), some (11, true), []⟩, [15, 20]),
  (⟨some 22, .pick (.t 11) (.t 21) (.c (.p (.bool false))), none, []⟩, [11, 21]),
  (⟨some 2, .move (.t 22), none, []⟩, [22])])
  .ret))⟩

/-- slices.IndexFunc[[]string,string] -/
@[irreducible] def a88_l0 : ACode :=
  (.seq (.regionK false [
  (⟨some 9, .bin .lss (.t 8) (.t 7), none, []⟩, [])])
  (.seq (.cond (.t 9)
  .skip
  (.ghost (.forget [0, 1, 7, 8, 9]) (.ghost .lower (.exit 0))))
  (.seq (.block 1
  (.seq (.regionK false [
    (⟨some 10, .move (.t 8), none, []⟩, [9]),
    (⟨some 5, .move (.t 10), none, []⟩, [10])])
    (.seq (.regionK false [
    (⟨some 11, .move (.t 1), none, []⟩, []),
    (⟨some 12, .move (.t 0), none, []⟩, []),
    (⟨some 13, .move (.t 5), none, []⟩, []),
    (⟨some 14, .indexAddr 1 (.t 12) (.t 13), none, []⟩, [12, 13]),
    (⟨some 15, .load none (.t 14), none, []⟩, [14]),
    (⟨some 16, .callv false (.t 11) [.t 15], none, []⟩, [11, 15])])
    (.cond (.t 16)
    (.seq (.regionK false [
      (⟨some 17, .move (.t 5), none, []⟩, [0, 1, 5, 7, 8, 16]),
      (⟨some 4, .move (.t 17), none, []⟩, [17])])
      .ret)
    .skip))))
  (.regionK false [
  (⟨some 18, .bin .add (.t 8) (.c (.p (.int .i64 1))), none, []⟩, [5, 16]),
  (⟨some 8, .move (.t 18), none, []⟩, [18])]))))

def a88 : AFunc := ⟨19, 2, [.tmp 4],
  (.seq (.regionK false [
  (⟨some 4, .move (.c (.p (.int .i64 0))), none, []⟩, [4])])
  (.seq (.seq (.regionK false [
  (⟨some 6, .move (.t 0), none, []⟩, []),
  (⟨some 7, .len (.t 6), none, []⟩, [6]),
  (⟨some 8, .move (.c (.p (.int .i64 0))), none, []⟩, [])])
  (.block 0
  (.loop
    (.ghost .lower a88_l0))))
  (.seq (.regionK false [
  (⟨some 4, .move (.c (.p (.int .i64 (-1)))), none, []⟩, [])])
  .ret)))⟩

/-- clockwork/clockworkref04.Contains -/
def a89 : AFunc := ⟨24, 2, [.tmp 4],
  (.seq (.regionK false [
  (⟨some 2, .box (.t 0), none, []⟩, [0]),
  (⟨some 4, .move (.c (.p (.bool false))), none, []⟩, [4])])
  (.seq (.regionK false [
  (⟨some 5, .load (some 2) (.t 2), none, []⟩, []),
  (⟨some 6, .call false 76 [.t 5], none, []⟩, [5]),
  (⟨some 7, .move (.t 6), none, []⟩, [6]),
  (⟨some 8, .move (.t 1), some (7, true), []⟩, []),
  (⟨some 9, .fieldAddr 0 (.t 2), some (7, true), []⟩, []),
  (⟨some 10, .load none (.t 9), some (7, true), []⟩, [9]),
  (⟨some 11, .bin .geq (.t 8) (.t 10), some (7, true), []⟩, [8, 10]),
  (⟨some 12, .pick (.t 7) (.t 11) (.c (.p (.bool false))), none, []⟩, [7, 11]),
  (⟨some 13, .move (.t 12), none, []⟩, [12]),
  (⟨some 14, .fieldAddr 1 (.t 2), some (13, true), []⟩, []),
  (⟨some 15, .load none (.t 14), some (13, true), []⟩, [14]),
  (⟨some 16, .bin .eql (.t 15) (.c (.p (.str ⟨#[]⟩))), some (13, true), []⟩, [15]),
  (⟨some 17, .move (.t 16), some (13, true), []⟩, [16]),
  (⟨some 18, .move (.t 1), some (17, false), []⟩, [1]),
  (⟨some 19, .fieldAddr 1 (.t 2), some (17, false), []⟩, []),
  (⟨some 20, .load none (.t 19), some (17, false), []⟩, [19]),
  (⟨some 21, .bin .lss (.t 18) (.t 20), some (17, false), []⟩, [18, 20]),
  (⟨some 22, .pick (.t 17) (.c (.p (.bool true))) (.t 21), some (13, true), []⟩, [17, 21]),
  (⟨some 23, .pick (.t 13) (.t 22) (.c (.p (.bool false))), none, []⟩, [13, 22]),
  (⟨some 4, .move (.t 23), none, []⟩, [23])])
  .ret))⟩

/-- cmp.Less[string] -/
def a93 : AFunc := ⟨17, 2, [.tmp 4],
  (.seq (.regionK false [
  (⟨some 4, .move (.c (.p (.bool false))), none, []⟩, [4])])
  (.seq (.regionK false [
  (⟨some 5, .move (.t 0), none, []⟩, []),
  (⟨some 6, .call false 106 [.t 5], none, []⟩, [5]),
  (⟨some 7, .move (.t 6), none, []⟩, [6]),
  (⟨some 8, .move (.t 1), some (7, true), []⟩, []),
  (⟨some 9, .call false 106 [.t 8], some (7, true), []⟩, [8]),
  (⟨some 10, .un .not (.t 9), some (7, true), []⟩, [9]),
  (⟨some 11, .pick (.t 7) (.t 10) (.c (.p (.bool false))), none, []⟩, [7, 10]),
  (⟨some 12, .move (.t 11), none, []⟩, [11]),
  (⟨some 13, .move (.t 0), some (12, false), []⟩, [0]),
  (⟨some 14, .move (.t 1), some (12, false), []⟩, [1]),
  (⟨some 15, .bin .lss (.t 13) (.t 14), some (12, false), []⟩, [13, 14]),
  (⟨some 16, .pick (.t 12) (.c (.p (.bool true))) (.t 15), none, []⟩, [12, 15]),
  (⟨some 4, .move (.t 16), none, []⟩, [16])])
  .ret))⟩

/-- slices.isNaN[string] -/
def a94 : AFunc := ⟨6, 1, [.tmp 2],
  (.seq (.regionK false [
  (⟨some 2, .move (.c (.p (.bool false))), none, []⟩, [2])])
  (.seq (.regionK false [
  (⟨some 3, .move (.t 0), none, []⟩, []),
  (⟨some 4, .move (.t 0), none, []⟩, [0]),
  (⟨some 5, .bin .neq (.t 3) (.t 4), none, []⟩, [3, 4]),
  (⟨some 2, .move (.t 5), none, []⟩, [5])])
  .ret))⟩

/-- clockwork/keys.isBound -/
def a95 : AFunc := ⟨5, 1, [.tmp 2],
  (.seq (.regionK false [
  (⟨some 2, .move (.c (.p (.bool false))), none, []⟩, [2])])
  (.seq (.regionK false [
  (⟨some 3, .move (.t 0), none, []⟩, [0]),
  (⟨some 4, .call false 84 [.t 3, .c (.func 107 [])], none, []⟩, [3]),
  (⟨some 2, .move (.t 4), none, []⟩, [4])])
  .ret))⟩

/-- cmp.isNaN[string] -/
def a106 : AFunc := ⟨6, 1, [.tmp 2],
  (.seq (.regionK false [
  (⟨some 2, .move (.c (.p (.bool false))), none, []⟩, [2])])
  (.seq (.regionK false [
  (⟨some 3, .move (.t 0), none, []⟩, []),
  (⟨some 4, .move (.t 0), none, []⟩, [0]),
  (⟨some 5, .bin .neq (.t 3) (.t 4), none, []⟩, [3, 4]),
  (⟨some 2, .move (.t 5), none, []⟩, [5])])
  .ret))⟩

/-- clockwork/keys.isBound$1 -/
def a107 : AFunc := ⟨9, 1, [.tmp 2],
  (.seq (.regionK false [
  (⟨some 2, .move (.c (.p (.bool false))), none, []⟩, [2])])
  (.seq (.regionK false [
  (⟨some 3, .move (.t 0), none, []⟩, []),
  (⟨some 4, .bin .geq (.t 3) (.c (.p (.int .u8 33))), none, []⟩, [3]),
  (⟨some 5, .move (.t 4), none, []⟩, [4]),
  (⟨some 6, .move (.t 0), some (5, true), []⟩, [0]),
  (⟨some 7, .bin .leq (.t 6) (.c (.p (.int .u8 126))), some (5, true), []⟩, [6]),
  (⟨some 8, .pick (.t 5) (.t 7) (.c (.p (.bool false))), none, []⟩, [5, 7]),
  (⟨some 2, .move (.t 8), none, []⟩, [8])])
  .ret))⟩


end Go.Dv.Try
