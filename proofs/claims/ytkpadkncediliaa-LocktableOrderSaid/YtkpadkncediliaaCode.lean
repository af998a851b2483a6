/-
  The annotated functions of this seat. Printed by wip/gen.py.
-/
import Derived.Test.YtkpadkncediliaaWalk
set_option linter.unusedVariables false
set_option maxRecDepth 100000
namespace Go.Dv.Try
open Go Go.Dv


/-- clockwork/clockworklaw23.LocktableRequests -/
def a3 : AFunc := ⟨56, 3, [.tmp 6],
  (.seq (.regionK false [
 (.o 3 (.box (.t 0)), [0]),
 (.o 5 (.box (.t 2)), [2]),
 (.o 6 (.move (.b false)), [6])])
 (.seq (.seq (.regionK false [
 (.o 11 (.load (some 2) (.t 3)), []),
 (.o 12 (.call false 11 [.t 11]), [11]),
 (.o 13 (.un .not (.t 12)), [12]),
 (.o 14 (.move (.t 13)), [13]),
 (⟨some 15, .load (some 3) (.t 5), some (14, false), []⟩, []),
 (⟨some 16, .call false 12 [.t 15, .i 40], some (14, false), []⟩, [15]),
 (⟨some 17, .un .not (.t 16), some (14, false), []⟩, [16]),
 (.o 18 (.pick (.t 14) (.b true) (.t 17)), [14, 17])])
 (.cond (.t 18)
 (.seq (.regionK false [
 (.o 19 (.call false 13 []), [1, 18]),
 (.o 6 (.move (.t 19)), [19])])
 .ret)
 .skip))
 (.seq (.regionK false [
 (.o 21 (.load (some 2) (.t 3)), [18]),
 (.o 22 (.move (.t 1)), []),
 (.o 23 (.load (some 3) (.t 5)), []),
 (.o 24 (.call false 14 [.t 21, .t 22, .t 23]), [21, 22, 23]),
 (.o 20 (.move (.t 24)), [24]),
 (.o 25 (.extract (.t 20) 0), []),
 (.o 26 (.extract (.t 20) 1), [20]),
 (.o 7 (.alloc [.slice true [], .slice true []]), []),
 (.u (.store 2 (.t 7) (.t 25)), [25]),
 (.o 8 (.move (.t 26)), [26])])
 (.seq (.regionK false [
 (.o 28 (.load (some 2) (.t 3)), []),
 (.o 29 (.move (.t 1)), [1]),
 (.o 30 (.load (some 3) (.t 5)), []),
 (.o 31 (.call false 15 [.t 28, .t 29, .t 30]), [28, 29, 30]),
 (.o 27 (.move (.t 31)), [31]),
 (.o 32 (.extract (.t 27) 0), []),
 (.o 33 (.extract (.t 27) 1), [27]),
 (.o 9 (.alloc [.slice true [], .slice true []]), []),
 (.u (.store 2 (.t 9) (.t 32)), [32]),
 (.o 10 (.move (.t 33)), [33])])
 (.seq (.regionK true [
 (.o 34 (.load (some 2) (.t 3)), []),
 (⟨some 35, .call false 16 [.t 34], none, [0]⟩, [34]),
 (.o 36 (.load (some 2) (.t 3)), []),
 (⟨some 37, .call false 17 [.t 36], none, [0, 1, 2]⟩, [36]),
 (⟨some 38, .eqb false (.t 35) (.t 37), none, [0, 1, 2, 3]⟩, [35, 37]),
 (⟨some 39, .move (.t 38), none, [0, 1, 2, 3, 4]⟩, [38]),
 (⟨some 40, .load (some 2) (.t 7), some (39, true), [0, 1, 2, 3, 4, 5]⟩, []),
 (⟨some 41, .load (some 2) (.t 9), some (39, true), [0, 1, 2, 3, 4, 5]⟩, []),
 (⟨some 42, .call false 18 [.t 40, .t 41], some (39, true), [0, 1, 2, 3, 4, 5, 6, 7]⟩, [40, 41]),
 (⟨some 43, .pick (.t 39) (.t 42) (.b false), none, [0, 1, 2, 3, 4, 5, 6, 7, 8]⟩, [39, 42]),
 (⟨some 44, .move (.t 43), none, [0, 1, 2, 3, 4, 5, 6, 7, 8, 9]⟩, [43]),
 (⟨some 45, .move (.t 8), some (44, true), [0, 1, 2, 3, 4, 5, 6, 7, 8, 9, 10]⟩, [8]),
 (⟨some 46, .move (.t 10), some (44, true), [0, 1, 2, 3, 4, 5, 6, 7, 8, 9, 10]⟩, [10]),
 (⟨some 47, .bin .eql (.t 45) (.t 46), some (44, true), [0, 1, 2, 3, 4, 5, 6, 7, 8, 9, 10, 11, 12]⟩, [45, 46]),
 (⟨some 48, .pick (.t 44) (.t 47) (.b false), none, [0, 1, 2, 3, 4, 5, 6, 7, 8, 9, 10, 11, 12, 13]⟩, [44, 47]),
 (⟨some 49, .move (.t 48), none, [0, 1, 2, 3, 4, 5, 6, 7, 8, 9, 10, 11, 12, 13, 14]⟩, [48]),
 (⟨some 50, .load (some 2) (.t 7), some (49, true), [0, 1, 2, 3, 4, 5, 6, 7, 8, 9, 10, 11, 12, 13, 14, 15]⟩, []),
 (⟨some 51, .call false 16 [.t 50], some (49, true), [0, 1, 2, 3, 4, 5, 6, 7, 8, 9, 10, 11, 12, 13, 14, 15, 16]⟩, [50]),
 (⟨some 52, .pick (.t 49) (.t 51) (.b false), none, [0, 1, 2, 3, 4, 5, 6, 7, 8, 9, 10, 11, 12, 13, 14, 15, 16, 17]⟩, [49, 51]),
 (⟨some 53, .move (.t 52), none, [0, 1, 2, 3, 4, 5, 6, 7, 8, 9, 10, 11, 12, 13, 14, 15, 16, 17, 18]⟩, [52]),
 (⟨some 54, .call false 13 [], some (53, true), [0, 1, 2, 3, 4, 5, 6, 7, 8, 9, 10, 11, 12, 13, 14, 15, 16, 17, 18, 19]⟩, []),
 (⟨some 55, .pick (.t 53) (.t 54) (.b false), none, [0, 1, 2, 3, 4, 5, 6, 7, 8, 9, 10, 11, 12, 13, 14, 15, 16, 17, 18, 19, 20]⟩, [53, 54]),
 (⟨some 6, .move (.t 55), none, [0, 1, 2, 3, 4, 5, 6, 7, 8, 9, 10, 11, 12, 13, 14, 15, 16, 17, 18, 19, 20, 21]⟩, [55])])
 .ret)))))⟩

/-- clockwork/clockworklaw23.LocktableReads -/
def a4 : AFunc := ⟨35, 2, [.tmp 4],
  (.seq (.regionK false [
 (.o 2 (.box (.t 0)), [0]),
 (.o 4 (.move (.b false)), [4])])
 (.seq (.seq (.regionK false [
 (.o 5 (.load (some 2) (.t 2)), []),
 (.o 6 (.call false 11 [.t 5]), [5]),
 (.o 7 (.un .not (.t 6)), [6])])
 (.cond (.t 7)
 (.seq (.regionK false [
 (.o 8 (.call false 13 []), [1, 7]),
 (.o 4 (.move (.t 8)), [8])])
 .ret)
 .skip))
 (.seq (.regionK true [
 (.o 9 (.load (some 2) (.t 2)), [7]),
 (.o 10 (.move (.t 1)), []),
 (⟨some 11, .call false 19 [.t 9, .t 10], none, [0, 1]⟩, [9, 10]),
 (.o 12 (.load (some 2) (.t 2)), []),
 (.o 13 (.move (.t 1)), []),
 (⟨some 14, .call false 20 [.t 12, .t 13], none, [0, 1, 2, 3, 4]⟩, [12, 13]),
 (⟨some 15, .eqb false (.t 11) (.t 14), none, [0, 1, 2, 3, 4, 5]⟩, [11, 14]),
 (⟨some 16, .move (.t 15), none, [0, 1, 2, 3, 4, 5, 6]⟩, [15]),
 (⟨some 17, .load (some 2) (.t 2), some (16, true), [0, 1, 2, 3, 4, 5, 6, 7]⟩, []),
 (⟨some 18, .call false 22 [.t 17], some (16, true), [0, 1, 2, 3, 4, 5, 6, 7, 8]⟩, [17]),
 (⟨some 19, .load (some 2) (.t 2), some (16, true), [0, 1, 2, 3, 4, 5, 6, 7]⟩, []),
 (⟨some 20, .call false 23 [.t 19], some (16, true), [0, 1, 2, 3, 4, 5, 6, 7, 8, 9, 10]⟩, [19]),
 (⟨some 21, .call false 21 [.t 18, .t 20], some (16, true), [0, 1, 2, 3, 4, 5, 6, 7, 8, 9, 10, 11]⟩, [18, 20]),
 (⟨some 22, .pick (.t 16) (.t 21) (.b false), none, [0, 1, 2, 3, 4, 5, 6, 7, 8, 9, 10, 11, 12]⟩, [16, 21]),
 (⟨some 23, .move (.t 22), none, [0, 1, 2, 3, 4, 5, 6, 7, 8, 9, 10, 11, 12, 13]⟩, [22]),
 (⟨some 24, .load (some 2) (.t 2), some (23, true), [0, 1, 2, 3, 4, 5, 6, 7, 8, 9, 10, 11, 12, 13, 14]⟩, []),
 (⟨some 25, .move (.t 1), some (23, true), [0, 1, 2, 3, 4, 5, 6, 7, 8, 9, 10, 11, 12, 13, 14]⟩, []),
 (⟨some 26, .call false 24 [.t 24, .t 25], some (23, true), [0, 1, 2, 3, 4, 5, 6, 7, 8, 9, 10, 11, 12, 13, 14, 15, 16]⟩, [24, 25]),
 (⟨some 27, .load (some 2) (.t 2), some (23, true), [0, 1, 2, 3, 4, 5, 6, 7, 8, 9, 10, 11, 12, 13, 14]⟩, []),
 (⟨some 28, .move (.t 1), some (23, true), [0, 1, 2, 3, 4, 5, 6, 7, 8, 9, 10, 11, 12, 13, 14]⟩, [1]),
 (⟨some 29, .call false 25 [.t 27, .t 28], some (23, true), [0, 1, 2, 3, 4, 5, 6, 7, 8, 9, 10, 11, 12, 13, 14, 15, 16, 17, 18, 19]⟩, [27, 28]),
 (⟨some 30, .call false 21 [.t 26, .t 29], some (23, true), [0, 1, 2, 3, 4, 5, 6, 7, 8, 9, 10, 11, 12, 13, 14, 15, 16, 17, 18, 19, 20]⟩, [26, 29]),
 (⟨some 31, .pick (.t 23) (.t 30) (.b false), none, [0, 1, 2, 3, 4, 5, 6, 7, 8, 9, 10, 11, 12, 13, 14, 15, 16, 17, 18, 19, 20, 21]⟩, [23, 30]),
 (⟨some 32, .move (.t 31), none, [0, 1, 2, 3, 4, 5, 6, 7, 8, 9, 10, 11, 12, 13, 14, 15, 16, 17, 18, 19, 20, 21, 22]⟩, [31]),
 (⟨some 33, .call false 13 [], some (32, true), [0, 1, 2, 3, 4, 5, 6, 7, 8, 9, 10, 11, 12, 13, 14, 15, 16, 17, 18, 19, 20, 21, 22, 23]⟩, []),
 (⟨some 34, .pick (.t 32) (.t 33) (.b false), none, [0, 1, 2, 3, 4, 5, 6, 7, 8, 9, 10, 11, 12, 13, 14, 15, 16, 17, 18, 19, 20, 21, 22, 23, 24]⟩, [32, 33]),
 (⟨some 4, .move (.t 34), none, [0, 1, 2, 3, 4, 5, 6, 7, 8, 9, 10, 11, 12, 13, 14, 15, 16, 17, 18, 19, 20, 21, 22, 23, 24, 25]⟩, [34])])
 .ret)))⟩

/-- clockwork/clockworklaw23.LocktableReleases -/
def a5 : AFunc := ⟨40, 2, [.tmp 4],
  (.seq (.regionK false [
 (.o 2 (.box (.t 0)), [0]),
 (.o 4 (.move (.b false)), [4])])
 (.seq (.seq (.regionK false [
 (.o 9 (.load (some 2) (.t 2)), []),
 (.o 10 (.call false 11 [.t 9]), [9]),
 (.o 11 (.un .not (.t 10)), [10])])
 (.cond (.t 11)
 (.seq (.regionK false [
 (.o 12 (.call false 13 []), [1, 11]),
 (.o 4 (.move (.t 12)), [12])])
 .ret)
 .skip))
 (.seq (.regionK false [
 (.o 14 (.load (some 2) (.t 2)), [11]),
 (.o 15 (.move (.t 1)), []),
 (.o 16 (.call false 26 [.t 14, .t 15]), [14, 15]),
 (.o 13 (.move (.t 16)), [16]),
 (.o 17 (.extract (.t 13) 0), []),
 (.o 18 (.extract (.t 13) 1), [13]),
 (.o 5 (.alloc [.slice true [], .slice true []]), []),
 (.u (.store 2 (.t 5) (.t 17)), [17]),
 (.o 6 (.move (.t 18)), [18])])
 (.seq (.regionK false [
 (.o 20 (.load (some 2) (.t 2)), []),
 (.o 21 (.move (.t 1)), [1]),
 (.o 22 (.call false 27 [.t 20, .t 21]), [20, 21]),
 (.o 19 (.move (.t 22)), [22]),
 (.o 23 (.extract (.t 19) 0), []),
 (.o 24 (.extract (.t 19) 1), [19]),
 (.o 7 (.alloc [.slice true [], .slice true []]), []),
 (.u (.store 2 (.t 7) (.t 23)), [23]),
 (.o 8 (.move (.t 24)), [24])])
 (.seq (.regionK false [
 (.o 25 (.load (some 2) (.t 5)), []),
 (.o 26 (.load (some 2) (.t 7)), []),
 (.o 27 (.call false 18 [.t 25, .t 26]), [25, 26]),
 (.o 28 (.move (.t 27)), [27]),
 (⟨some 29, .move (.t 6), some (28, true), []⟩, [6]),
 (⟨some 30, .move (.t 8), some (28, true), []⟩, [8]),
 (⟨some 31, .bin .eql (.t 29) (.t 30), some (28, true), []⟩, [29, 30]),
 (.o 32 (.pick (.t 28) (.t 31) (.b false)), [28, 31]),
 (.o 33 (.move (.t 32)), [32]),
 (⟨some 34, .load (some 2) (.t 5), some (33, true), []⟩, []),
 (⟨some 35, .call false 16 [.t 34], some (33, true), []⟩, [34]),
 (.o 36 (.pick (.t 33) (.t 35) (.b false)), [33, 35]),
 (.o 37 (.move (.t 36)), [36]),
 (⟨some 38, .call false 13 [], some (37, true), []⟩, []),
 (.o 39 (.pick (.t 37) (.t 38) (.b false)), [37, 38]),
 (.o 4 (.move (.t 39)), [39])])
 .ret)))))⟩

/-- clockwork/clockworklaw23.LocktableSafe -/
@[irreducible] def a6_l0 : ACode :=
  (.seq (.seq (.regionK false [
 (.o 41 (.move (.t 10)), []),
 (.o 42 (.move (.t 9)), []),
 (.o 43 (.bin .lss (.t 41) (.t 42)), [41, 42])])
 (.cond (.t 43)
 .skip
 (.ghost (.forget [10, 43]) (.ghost .lower (.exit 4)))))
 (.seq (.block 5
 (.seq (.regionK true [
 (.o 46 (.move (.t 8)), [43]),
 (.o 47 (.move (.t 9)), []),
 (⟨some 48, .indexAddr 1 (.t 46) (.t 47), none, [0, 1]⟩, [46, 47]),
 (⟨some 49, .load none (.t 48), none, [0, 1, 2]⟩, [48]),
 (⟨some 50, .bin .lss (.t 49) (.i 0), none, [0, 1, 2, 3]⟩, [49]),
 (⟨some 51, .move (.t 50), none, [0, 1, 2, 3, 4]⟩, [50]),
 (⟨some 52, .move (.t 8), some (51, false), [0, 1, 2, 3, 4, 5]⟩, []),
 (⟨some 53, .move (.t 9), some (51, false), [0, 1, 2, 3, 4, 5]⟩, []),
 (⟨some 54, .indexAddr 1 (.t 52) (.t 53), some (51, false), [0, 1, 2, 3, 4, 5, 6, 7]⟩, [52, 53]),
 (⟨some 55, .load none (.t 54), some (51, false), [0, 1, 2, 3, 4, 5, 6, 7, 8]⟩, [54]),
 (⟨some 56, .move (.t 0), some (51, false), [0, 1, 2, 3, 4, 5]⟩, []),
 (⟨some 57, .len (.t 56), some (51, false), [0, 1, 2, 3, 4, 5, 10]⟩, [56]),
 (⟨some 58, .bin .geq (.t 55) (.t 57), some (51, false), [0, 1, 2, 3, 4, 5, 6, 7, 8, 9, 10, 11]⟩, [55, 57]),
 (⟨some 59, .pick (.t 51) (.b true) (.t 58), none, [0, 1, 2, 3, 4, 5, 6, 7, 8, 9, 10, 11, 12]⟩, [51, 58]),
 (⟨some 60, .move (.t 59), none, [0, 1, 2, 3, 4, 5, 6, 7, 8, 9, 10, 11, 12, 13]⟩, [59]),
 (⟨some 61, .move (.t 8), some (60, false), [0, 1, 2, 3, 4, 5, 6, 7, 8, 9, 10, 11, 12, 13, 14]⟩, []),
 (⟨some 62, .move (.t 10), some (60, false), [0, 1, 2, 3, 4, 5, 6, 7, 8, 9, 10, 11, 12, 13, 14]⟩, []),
 (⟨some 63, .indexAddr 1 (.t 61) (.t 62), some (60, false), [0, 1, 2, 3, 4, 5, 6, 7, 8, 9, 10, 11, 12, 13, 14, 15, 16]⟩, [61, 62]),
 (⟨some 64, .load none (.t 63), some (60, false), [0, 1, 2, 3, 4, 5, 6, 7, 8, 9, 10, 11, 12, 13, 14, 15, 16, 17]⟩, [63]),
 (⟨some 65, .bin .lss (.t 64) (.i 0), some (60, false), [0, 1, 2, 3, 4, 5, 6, 7, 8, 9, 10, 11, 12, 13, 14, 15, 16, 17, 18]⟩, [64]),
 (⟨some 66, .pick (.t 60) (.b true) (.t 65), none, [0, 1, 2, 3, 4, 5, 6, 7, 8, 9, 10, 11, 12, 13, 14, 15, 16, 17, 18, 19]⟩, [60, 65]),
 (⟨some 67, .move (.t 66), none, [0, 1, 2, 3, 4, 5, 6, 7, 8, 9, 10, 11, 12, 13, 14, 15, 16, 17, 18, 19, 20]⟩, [66]),
 (⟨some 68, .move (.t 8), some (67, false), [0, 1, 2, 3, 4, 5, 6, 7, 8, 9, 10, 11, 12, 13, 14, 15, 16, 17, 18, 19, 20, 21]⟩, []),
 (⟨some 69, .move (.t 10), some (67, false), [0, 1, 2, 3, 4, 5, 6, 7, 8, 9, 10, 11, 12, 13, 14, 15, 16, 17, 18, 19, 20, 21]⟩, []),
 (⟨some 70, .indexAddr 1 (.t 68) (.t 69), some (67, false), [0, 1, 2, 3, 4, 5, 6, 7, 8, 9, 10, 11, 12, 13, 14, 15, 16, 17, 18, 19, 20, 21, 22, 23]⟩, [68, 69]),
 (⟨some 71, .load none (.t 70), some (67, false), [0, 1, 2, 3, 4, 5, 6, 7, 8, 9, 10, 11, 12, 13, 14, 15, 16, 17, 18, 19, 20, 21, 22, 23, 24]⟩, [70]),
 (⟨some 72, .move (.t 8), some (67, false), [0, 1, 2, 3, 4, 5, 6, 7, 8, 9, 10, 11, 12, 13, 14, 15, 16, 17, 18, 19, 20, 21]⟩, []),
 (⟨some 73, .move (.t 9), some (67, false), [0, 1, 2, 3, 4, 5, 6, 7, 8, 9, 10, 11, 12, 13, 14, 15, 16, 17, 18, 19, 20, 21]⟩, []),
 (⟨some 74, .indexAddr 1 (.t 72) (.t 73), some (67, false), [0, 1, 2, 3, 4, 5, 6, 7, 8, 9, 10, 11, 12, 13, 14, 15, 16, 17, 18, 19, 20, 21, 26, 27]⟩, [72, 73]),
 (⟨some 75, .load none (.t 74), some (67, false), [0, 1, 2, 3, 4, 5, 6, 7, 8, 9, 10, 11, 12, 13, 14, 15, 16, 17, 18, 19, 20, 21, 26, 27, 28]⟩, [74]),
 (⟨some 76, .bin .geq (.t 71) (.t 75), some (67, false), [0, 1, 2, 3, 4, 5, 6, 7, 8, 9, 10, 11, 12, 13, 14, 15, 16, 17, 18, 19, 20, 21, 22, 23, 24, 25, 26, 27, 28, 29]⟩, [71, 75]),
 (⟨some 77, .pick (.t 67) (.b true) (.t 76), none, [0, 1, 2, 3, 4, 5, 6, 7, 8, 9, 10, 11, 12, 13, 14, 15, 16, 17, 18, 19, 20, 21, 22, 23, 24, 25, 26, 27, 28, 29, 30]⟩, [67, 76]),
 (⟨some 78, .move (.t 77), none, [0, 1, 2, 3, 4, 5, 6, 7, 8, 9, 10, 11, 12, 13, 14, 15, 16, 17, 18, 19, 20, 21, 22, 23, 24, 25, 26, 27, 28, 29, 30, 31]⟩, [77]),
 (⟨some 79, .move (.t 0), some (78, false), [0, 1, 2, 3, 4, 5, 6, 7, 8, 9, 10, 11, 12, 13, 14, 15, 16, 17, 18, 19, 20, 21, 22, 23, 24, 25, 26, 27, 28, 29, 30, 31, 32]⟩, []),
 (⟨some 80, .move (.t 8), some (78, false), [0, 1, 2, 3, 4, 5, 6, 7, 8, 9, 10, 11, 12, 13, 14, 15, 16, 17, 18, 19, 20, 21, 22, 23, 24, 25, 26, 27, 28, 29, 30, 31, 32]⟩, []),
 (⟨some 81, .move (.t 9), some (78, false), [0, 1, 2, 3, 4, 5, 6, 7, 8, 9, 10, 11, 12, 13, 14, 15, 16, 17, 18, 19, 20, 21, 22, 23, 24, 25, 26, 27, 28, 29, 30, 31, 32]⟩, []),
 (⟨some 82, .indexAddr 1 (.t 80) (.t 81), some (78, false), [0, 1, 2, 3, 4, 5, 6, 7, 8, 9, 10, 11, 12, 13, 14, 15, 16, 17, 18, 19, 20, 21, 22, 23, 24, 25, 26, 27, 28, 29, 30, 31, 32, 34, 35]⟩, [80, 81]),
 (⟨some 83, .load none (.t 82), some (78, false), [0, 1, 2, 3, 4, 5, 6, 7, 8, 9, 10, 11, 12, 13, 14, 15, 16, 17, 18, 19, 20, 21, 22, 23, 24, 25, 26, 27, 28, 29, 30, 31, 32, 34, 35, 36]⟩, [82]),
 (⟨some 84, .indexAddr 3 (.t 79) (.t 83), some (78, false), [0, 1, 2, 3, 4, 5, 6, 7, 8, 9, 10, 11, 12, 13, 14, 15, 16, 17, 18, 19, 20, 21, 22, 23, 24, 25, 26, 27, 28, 29, 30, 31, 32, 33, 34, 35, 36, 37]⟩, [79, 83]),
 (⟨some 85, .load (some 3) (.t 84), some (78, false), [0, 1, 2, 3, 4, 5, 6, 7, 8, 9, 10, 11, 12, 13, 14, 15, 16, 17, 18, 19, 20, 21, 22, 23, 24, 25, 26, 27, 28, 29, 30, 31, 32, 33, 34, 35, 36, 37, 38]⟩, [84]),
 (⟨some 86, .move (.t 0), some (78, false), [0, 1, 2, 3, 4, 5, 6, 7, 8, 9, 10, 11, 12, 13, 14, 15, 16, 17, 18, 19, 20, 21, 22, 23, 24, 25, 26, 27, 28, 29, 30, 31, 32]⟩, []),
 (⟨some 87, .move (.t 8), some (78, false), [0, 1, 2, 3, 4, 5, 6, 7, 8, 9, 10, 11, 12, 13, 14, 15, 16, 17, 18, 19, 20, 21, 22, 23, 24, 25, 26, 27, 28, 29, 30, 31, 32]⟩, []),
 (⟨some 88, .move (.t 10), some (78, false), [0, 1, 2, 3, 4, 5, 6, 7, 8, 9, 10, 11, 12, 13, 14, 15, 16, 17, 18, 19, 20, 21, 22, 23, 24, 25, 26, 27, 28, 29, 30, 31, 32]⟩, []),
 (⟨some 89, .indexAddr 1 (.t 87) (.t 88), some (78, false), [0, 1, 2, 3, 4, 5, 6, 7, 8, 9, 10, 11, 12, 13, 14, 15, 16, 17, 18, 19, 20, 21, 22, 23, 24, 25, 26, 27, 28, 29, 30, 31, 32, 41, 42]⟩, [87, 88]),
 (⟨some 90, .load none (.t 89), some (78, false), [0, 1, 2, 3, 4, 5, 6, 7, 8, 9, 10, 11, 12, 13, 14, 15, 16, 17, 18, 19, 20, 21, 22, 23, 24, 25, 26, 27, 28, 29, 30, 31, 32, 41, 42, 43]⟩, [89]),
 (⟨some 91, .indexAddr 3 (.t 86) (.t 90), some (78, false), [0, 1, 2, 3, 4, 5, 6, 7, 8, 9, 10, 11, 12, 13, 14, 15, 16, 17, 18, 19, 20, 21, 22, 23, 24, 25, 26, 27, 28, 29, 30, 31, 32, 40, 41, 42, 43, 44]⟩, [86, 90]),
 (⟨some 92, .load (some 3) (.t 91), some (78, false), [0, 1, 2, 3, 4, 5, 6, 7, 8, 9, 10, 11, 12, 13, 14, 15, 16, 17, 18, 19, 20, 21, 22, 23, 24, 25, 26, 27, 28, 29, 30, 31, 32, 40, 41, 42, 43, 44, 45]⟩, [91]),
 (⟨some 93, .call false 30 [.t 85, .t 92], some (78, false), [0, 1, 2, 3, 4, 5, 6, 7, 8, 9, 10, 11, 12, 13, 14, 15, 16, 17, 18, 19, 20, 21, 22, 23, 24, 25, 26, 27, 28, 29, 30, 31, 32, 33, 34, 35, 36, 37, 38, 39, 40, 41, 42, 43, 44, 45, 46]⟩, [85, 92]),
 (⟨some 94, .pick (.t 78) (.b true) (.t 93), none, [0, 1, 2, 3, 4, 5, 6, 7, 8, 9, 10, 11, 12, 13, 14, 15, 16, 17, 18, 19, 20, 21, 22, 23, 24, 25, 26, 27, 28, 29, 30, 31, 32, 33, 34, 35, 36, 37, 38, 39, 40, 41, 42, 43, 44, 45, 46, 47]⟩, [78, 93])])
 (.cond (.t 94)
 (.seq (.regionK false [
 (.o 4 (.move (.b false)), [0, 1, 7, 8, 9, 10, 94])])
 .ret)
 .skip)))
 (.regionK false [
 (.o 44 (.move (.t 10)), [94]),
 (.o 45 (.bin .add (.t 44) (.i 1)), [44]),
 (.o 10 (.move (.t 45)), [45])])))

@[irreducible] def a6_l1 : ACode :=
  (.seq (.seq (.regionK false [
 (.o 35 (.move (.t 9)), []),
 (.o 36 (.move (.t 8)), []),
 (.o 37 (.len (.t 36)), [36]),
 (.o 38 (.bin .lss (.t 35) (.t 37)), [35, 37])])
 (.cond (.t 38)
 .skip
 (.ghost (.forget [9, 38]) (.ghost .lower (.exit 2)))))
 (.seq (.block 3
 (.seq (.regionK false [
 (.o 10 (.move (.i 0)), [38])])
 (.block 4
 (.loop
 (.ghost .lower a6_l0)))))
 (.regionK false [
 (.o 39 (.move (.t 9)), []),
 (.o 40 (.bin .add (.t 39) (.i 1)), [39]),
 (.o 9 (.move (.t 40)), [40])])))

@[irreducible] def a6_l2 : ACode :=
  (.seq (.seq (.regionK false [
 (.o 24 (.move (.t 7)), []),
 (.o 25 (.move (.t 0)), []),
 (.o 26 (.len (.t 25)), [25]),
 (.o 27 (.bin .lss (.t 24) (.t 26)), [24, 26])])
 (.cond (.t 27)
 .skip
 (.ghost (.forget [0, 1, 7, 27]) (.ghost .lower (.exit 0)))))
 (.seq (.block 1
 (.seq (.regionK false [
 (.o 30 (.load (some 2) (.t 5)), [27]),
 (.o 31 (.call false 22 [.t 30]), [30]),
 (.o 8 (.move (.t 31)), [31])])
 (.seq (.seq (.regionK false [
 (.o 32 (.move (.t 8)), []),
 (.o 33 (.len (.t 32)), [32]),
 (.o 34 (.bin .eql (.t 33) (.i 0)), [33])])
 (.cond (.t 34)
 (.seq (.regionK false [
 (.o 4 (.move (.b false)), [0, 1, 7, 8, 34])])
 .ret)
 .skip))
 (.seq (.seq (.regionK false [
 (.o 9 (.move (.i 0)), [34])])
 (.block 2
 (.loop
 (.ghost .lower a6_l1))))
 (.seq (.regionK true [
 (.o 96 (.load (some 2) (.t 5)), []),
 (.o 97 (.move (.t 8)), [8]),
 (.o 98 (.move (.t 1)), []),
 (.o 99 (.move (.t 7)), []),
 (⟨some 100, .call false 31 [.t 97, .t 98, .t 99], none, [1, 2, 3]⟩, [97, 98, 99]),
 (⟨some 101, .call false 26 [.t 96, .t 100], none, [0, 1, 2, 3, 4]⟩, [96, 100]),
 (⟨some 95, .move (.t 101), none, [0, 1, 2, 3, 4, 5]⟩, [101]),
 (⟨some 102, .extract (.t 95) 0, none, [0, 1, 2, 3, 4, 5, 6]⟩, []),
 (⟨some 103, .extract (.t 95) 1, none, [0, 1, 2, 3, 4, 5, 6]⟩, [95]),
 (.o 11 (.alloc [.slice true [], .slice true []]), []),
 (⟨none, .store 2 (.t 11) (.t 102), none, [0, 1, 2, 3, 4, 5, 6, 7, 9]⟩, [102]),
 (⟨some 12, .move (.t 103), none, [0, 1, 2, 3, 4, 5, 6, 7, 8, 9, 10]⟩, [103])])
 (.seq (.seq (.regionK false [
 (.o 104 (.move (.t 12)), [12]),
 (.o 105 (.bin .neq (.t 104) (.i 0)), [104])])
 (.cond (.t 105)
 (.seq (.regionK false [
 (.o 4 (.move (.b false)), [0, 1, 7, 105])])
 .ret)
 .skip))
 (.regionK false [
 (.o 106 (.load (some 2) (.t 11)), [105]),
 (.u (.store 2 (.t 5) (.t 106)), [106])])))))))
 (.regionK false [
 (.o 28 (.move (.t 7)), []),
 (.o 29 (.bin .add (.t 28) (.i 1)), [28]),
 (.o 7 (.move (.t 29)), [29])])))

def a6 : AFunc := ⟨114, 2, [.tmp 4],
  (.seq (.regionK false [
 (.o 4 (.move (.b false)), [4])])
 (.seq (.seq (.regionK false [
 (.o 13 (.move (.t 0)), []),
 (.o 14 (.call false 28 [.t 13]), [13]),
 (.o 15 (.un .not (.t 14)), [14])])
 (.cond (.t 15)
 (.seq (.regionK false [
 (.o 16 (.call false 13 []), [0, 1, 15]),
 (.o 4 (.move (.t 16)), [16])])
 .ret)
 .skip))
 (.seq (.regionK false [
 (.o 18 (.move (.t 0)), [15]),
 (.o 19 (.call false 29 [.t 18]), [18]),
 (.o 17 (.move (.t 19)), [19]),
 (.o 20 (.extract (.t 17) 0), []),
 (.o 21 (.extract (.t 17) 1), [17]),
 (.o 5 (.alloc [.slice true [], .slice true []]), []),
 (.u (.store 2 (.t 5) (.t 20)), [20]),
 (.o 6 (.move (.t 21)), [21])])
 (.seq (.seq (.regionK false [
 (.o 22 (.move (.t 6)), [6]),
 (.o 23 (.un .not (.t 22)), [22])])
 (.cond (.t 23)
 (.seq (.regionK false [
 (.o 4 (.move (.b false)), [0, 1, 23])])
 .ret)
 .skip))
 (.seq (.seq (.regionK false [
 (.o 7 (.move (.i 0)), [23])])
 (.block 0
 (.loop
 (.ghost (.free [11]) (.ghost .lower a6_l2)))))
 (.seq (.regionK false [
 (.o 107 (.load (some 2) (.t 5)), []),
 (.o 108 (.call false 22 [.t 107]), [107]),
 (.o 109 (.len (.t 108)), [108]),
 (.o 110 (.bin .eql (.t 109) (.i 0)), [109]),
 (.o 111 (.move (.t 110)), [110]),
 (⟨some 112, .call false 13 [], some (111, true), []⟩, []),
 (.o 113 (.pick (.t 111) (.t 112) (.b false)), [111, 112]),
 (.o 4 (.move (.t 113)), [113])])
 .ret))))))⟩

/-- clockwork/clockworklaw23.LocktableOrder -/
@[irreducible] def a7_l0 : ACode :=
  (.seq (.seq (.regionK false [
 (.o 70 (.move (.t 14)), []),
 (.o 71 (.move (.t 13)), []),
 (.o 72 (.bin .lss (.t 70) (.t 71)), [70, 71])])
 (.cond (.t 72)
 .skip
 (.ghost (.forget [14, 72]) (.ghost .lower (.exit 4)))))
 (.seq (.block 5
 (.seq (.regionK true [
 (.o 75 (.move (.t 7)), [72]),
 (.o 76 (.move (.t 14)), []),
 (⟨some 77, .indexAddr 1 (.t 75) (.t 76), none, [0, 1]⟩, [75, 76]),
 (⟨some 78, .load none (.t 77), none, [0, 1, 2]⟩, [77]),
 (.o 79 (.move (.t 7)), []),
 (.o 80 (.move (.t 13)), []),
 (⟨some 81, .indexAddr 1 (.t 79) (.t 80), none, [4, 5]⟩, [79, 80]),
 (⟨some 82, .load none (.t 81), none, [4, 5, 6]⟩, [81]),
 (⟨some 83, .bin .eql (.t 78) (.t 82), none, [0, 1, 2, 3, 4, 5, 6, 7]⟩, [78, 82]),
 (⟨some 84, .move (.t 83), none, [0, 1, 2, 3, 4, 5, 6, 7, 8]⟩, [83]),
 (⟨some 85, .move (.t 7), some (84, false), [0, 1, 2, 3, 4, 5, 6, 7, 8, 9]⟩, []),
 (⟨some 86, .move (.t 14), some (84, false), [0, 1, 2, 3, 4, 5, 6, 7, 8, 9]⟩, []),
 (⟨some 87, .indexAddr 1 (.t 85) (.t 86), some (84, false), [0, 1, 2, 3, 4, 5, 6, 7, 8, 9, 10, 11]⟩, [85, 86]),
 (⟨some 88, .load none (.t 87), some (84, false), [0, 1, 2, 3, 4, 5, 6, 7, 8, 9, 10, 11, 12]⟩, [87]),
 (⟨some 89, .move (.t 7), some (84, false), [0, 1, 2, 3, 4, 5, 6, 7, 8, 9]⟩, []),
 (⟨some 90, .move (.t 13), some (84, false), [0, 1, 2, 3, 4, 5, 6, 7, 8, 9]⟩, []),
 (⟨some 91, .indexAddr 1 (.t 89) (.t 90), some (84, false), [0, 1, 2, 3, 4, 5, 6, 7, 8, 9, 14, 15]⟩, [89, 90]),
 (⟨some 92, .load none (.t 91), some (84, false), [0, 1, 2, 3, 4, 5, 6, 7, 8, 9, 14, 15, 16]⟩, [91]),
 (⟨some 93, .bin .gtr (.t 88) (.t 92), some (84, false), [0, 1, 2, 3, 4, 5, 6, 7, 8, 9, 10, 11, 12, 13, 14, 15, 16, 17]⟩, [88, 92]),
 (⟨some 94, .move (.t 93), some (84, false), [0, 1, 2, 3, 4, 5, 6, 7, 8, 9, 10, 11, 12, 13, 14, 15, 16, 17, 18]⟩, [93]),
 (⟨some 95, .move (.t 0), some (94, true), [0, 1, 2, 3, 4, 5, 6, 7, 8, 9, 10, 11, 12, 13, 14, 15, 16, 17, 18, 19]⟩, []),
 (⟨some 96, .move (.t 7), some (94, true), [0, 1, 2, 3, 4, 5, 6, 7, 8, 9, 10, 11, 12, 13, 14, 15, 16, 17, 18, 19]⟩, []),
 (⟨some 97, .move (.t 13), some (94, true), [0, 1, 2, 3, 4, 5, 6, 7, 8, 9, 10, 11, 12, 13, 14, 15, 16, 17, 18, 19]⟩, []),
 (⟨some 98, .indexAddr 1 (.t 96) (.t 97), some (94, true), [0, 1, 2, 3, 4, 5, 6, 7, 8, 9, 10, 11, 12, 13, 14, 15, 16, 17, 18, 19, 21, 22]⟩, [96, 97]),
 (⟨some 99, .load none (.t 98), some (94, true), [0, 1, 2, 3, 4, 5, 6, 7, 8, 9, 10, 11, 12, 13, 14, 15, 16, 17, 18, 19, 21, 22, 23]⟩, [98]),
 (⟨some 100, .indexAddr 3 (.t 95) (.t 99), some (94, true), [0, 1, 2, 3, 4, 5, 6, 7, 8, 9, 10, 11, 12, 13, 14, 15, 16, 17, 18, 19, 20, 21, 22, 23, 24]⟩, [95, 99]),
 (⟨some 101, .load (some 3) (.t 100), some (94, true), [0, 1, 2, 3, 4, 5, 6, 7, 8, 9, 10, 11, 12, 13, 14, 15, 16, 17, 18, 19, 20, 21, 22, 23, 24, 25]⟩, [100]),
 (⟨some 102, .move (.t 0), some (94, true), [0, 1, 2, 3, 4, 5, 6, 7, 8, 9, 10, 11, 12, 13, 14, 15, 16, 17, 18, 19]⟩, []),
 (⟨some 103, .move (.t 7), some (94, true), [0, 1, 2, 3, 4, 5, 6, 7, 8, 9, 10, 11, 12, 13, 14, 15, 16, 17, 18, 19]⟩, []),
 (⟨some 104, .move (.t 14), some (94, true), [0, 1, 2, 3, 4, 5, 6, 7, 8, 9, 10, 11, 12, 13, 14, 15, 16, 17, 18, 19]⟩, []),
 (⟨some 105, .indexAddr 1 (.t 103) (.t 104), some (94, true), [0, 1, 2, 3, 4, 5, 6, 7, 8, 9, 10, 11, 12, 13, 14, 15, 16, 17, 18, 19, 28, 29]⟩, [103, 104]),
 (⟨some 106, .load none (.t 105), some (94, true), [0, 1, 2, 3, 4, 5, 6, 7, 8, 9, 10, 11, 12, 13, 14, 15, 16, 17, 18, 19, 28, 29, 30]⟩, [105]),
 (⟨some 107, .indexAddr 3 (.t 102) (.t 106), some (94, true), [0, 1, 2, 3, 4, 5, 6, 7, 8, 9, 10, 11, 12, 13, 14, 15, 16, 17, 18, 19, 27, 28, 29, 30, 31]⟩, [102, 106]),
 (⟨some 108, .load (some 3) (.t 107), some (94, true), [0, 1, 2, 3, 4, 5, 6, 7, 8, 9, 10, 11, 12, 13, 14, 15, 16, 17, 18, 19, 27, 28, 29, 30, 31, 32]⟩, [107]),
 (⟨some 109, .call false 30 [.t 101, .t 108], some (94, true), [0, 1, 2, 3, 4, 5, 6, 7, 8, 9, 10, 11, 12, 13, 14, 15, 16, 17, 18, 19, 20, 21, 22, 23, 24, 25, 26, 27, 28, 29, 30, 31, 32, 33]⟩, [101, 108]),
 (⟨some 110, .pick (.t 94) (.t 109) (.b false), some (84, false), [0, 1, 2, 3, 4, 5, 6, 7, 8, 9, 10, 11, 12, 13, 14, 15, 16, 17, 18, 19, 20, 21, 22, 23, 24, 25, 26, 27, 28, 29, 30, 31, 32, 33, 34]⟩, [94, 109]),
 (⟨some 111, .pick (.t 84) (.b true) (.t 110), none, [0, 1, 2, 3, 4, 5, 6, 7, 8, 9, 10, 11, 12, 13, 14, 15, 16, 17, 18, 19, 20, 21, 22, 23, 24, 25, 26, 27, 28, 29, 30, 31, 32, 33, 34, 35]⟩, [84, 110])])
 (.cond (.t 111)
 (.seq (.regionK false [
 (.o 4 (.move (.b false)), [0, 7, 13, 14, 111])])
 .ret)
 .skip)))
 (.regionK false [
 (.o 73 (.move (.t 14)), [111]),
 (.o 74 (.bin .add (.t 73) (.i 1)), [73]),
 (.o 14 (.move (.t 74)), [74])])))

@[irreducible] def a7_l1 : ACode :=
  (.seq (.seq (.regionK false [
 (.o 64 (.move (.t 13)), []),
 (.o 65 (.move (.t 7)), []),
 (.o 66 (.len (.t 65)), [65]),
 (.o 67 (.bin .lss (.t 64) (.t 66)), [64, 66])])
 (.cond (.t 67)
 .skip
 (.ghost (.forget [0, 7, 13, 67]) (.ghost .lower (.exit 2)))))
 (.seq (.block 3
 (.seq (.regionK false [
 (.o 14 (.move (.i 0)), [67])])
 (.block 4
 (.loop
 (.ghost .lower a7_l0)))))
 (.regionK false [
 (.o 68 (.move (.t 13)), []),
 (.o 69 (.bin .add (.t 68) (.i 1)), [68]),
 (.o 13 (.move (.t 69)), [69])])))

@[irreducible] def a7_l2 : ACode :=
  (.seq (.seq (.regionK false [
 (.o 26 (.move (.t 8)), []),
 (.o 27 (.move (.t 0)), []),
 (.o 28 (.len (.t 27)), [27]),
 (.o 29 (.bin .lss (.t 26) (.t 28)), [26, 28])])
 (.cond (.t 29)
 .skip
 (.ghost (.forget [1, 8, 29]) (.ghost .lower (.exit 0)))))
 (.seq (.block 1
 (.seq (.regionK false [
 (.o 32 (.load (some 2) (.t 5)), [29]),
 (.o 33 (.call false 22 [.t 32]), [32]),
 (.o 9 (.move (.t 33)), [33])])
 (.seq (.seq (.regionK false [
 (.o 34 (.move (.t 9)), []),
 (.o 35 (.len (.t 34)), [34]),
 (.o 36 (.bin .eql (.t 35) (.i 0)), [35])])
 (.cond (.t 36)
 (.seq (.regionK false [
 (.o 4 (.move (.b false)), [0, 1, 7, 8, 9, 36])])
 .ret)
 .skip))
 (.seq (.regionK false [
 (.o 37 (.move (.t 9)), [9, 36]),
 (.o 38 (.move (.t 1)), []),
 (.o 39 (.move (.t 8)), []),
 (.o 40 (.call false 31 [.t 37, .t 38, .t 39]), [37, 38, 39]),
 (.o 10 (.move (.t 40)), [40])])
 (.seq (.regionK false [
 (.o 42 (.load (some 2) (.t 5)), []),
 (.o 43 (.move (.t 10)), []),
 (.o 44 (.call false 26 [.t 42, .t 43]), [42, 43]),
 (.o 41 (.move (.t 44)), [44]),
 (.o 45 (.extract (.t 41) 0), []),
 (.o 46 (.extract (.t 41) 1), [41]),
 (.o 11 (.alloc [.slice true [], .slice true []]), []),
 (.u (.store 2 (.t 11) (.t 45)), [45]),
 (.o 12 (.move (.t 46)), [46])])
 (.seq (.seq (.regionK false [
 (.o 47 (.move (.t 12)), [12]),
 (.o 48 (.bin .neq (.t 47) (.i 0)), [47]),
 (.o 49 (.move (.t 48)), [48]),
 (⟨some 50, .move (.t 10), some (49, false), []⟩, []),
 (⟨some 51, .bin .lss (.t 50) (.i 0), some (49, false), []⟩, [50]),
 (.o 52 (.pick (.t 49) (.b true) (.t 51)), [49, 51]),
 (.o 53 (.move (.t 52)), [52]),
 (⟨some 54, .move (.t 10), some (53, false), []⟩, []),
 (⟨some 55, .move (.t 0), some (53, false), []⟩, []),
 (⟨some 56, .len (.t 55), some (53, false), []⟩, [55]),
 (⟨some 57, .bin .geq (.t 54) (.t 56), some (53, false), []⟩, [54, 56]),
 (.o 58 (.pick (.t 53) (.b true) (.t 57)), [53, 57])])
 (.cond (.t 58)
 (.seq (.regionK false [
 (.o 4 (.move (.b false)), [0, 1, 7, 8, 10, 58])])
 .ret)
 .skip))
 (.seq (.regionK false [
 (.o 59 (.load (some 2) (.t 11)), [58]),
 (.u (.store 2 (.t 5) (.t 59)), [59])])
 (.regionK false [
 (.o 60 (.move (.t 7)), []),
 (.o 61 (.move (.t 10)), [10]),
 (.o 62 (.buildSlice [.int .i64 0] 1 [(0, .t 61)]), [61]),
 (.o 63 (.append 8 1 (.t 60) (.t 62)), [60, 62]),
 (.o 7 (.move (.t 63)), [63])]))))))))
 (.regionK false [
 (.o 30 (.move (.t 8)), []),
 (.o 31 (.bin .add (.t 30) (.i 1)), [30]),
 (.o 8 (.move (.t 31)), [31])])))

def a7 : AFunc := ⟨118, 2, [.tmp 4],
  (.seq (.regionK false [
 (.o 4 (.move (.b false)), [4])])
 (.seq (.seq (.regionK false [
 (.o 15 (.move (.t 0)), []),
 (.o 16 (.call false 28 [.t 15]), [15]),
 (.o 17 (.un .not (.t 16)), [16])])
 (.cond (.t 17)
 (.seq (.regionK false [
 (.o 18 (.call false 13 []), [0, 1, 17]),
 (.o 4 (.move (.t 18)), [18])])
 .ret)
 .skip))
 (.seq (.regionK false [
 (.o 20 (.move (.t 0)), [17]),
 (.o 21 (.call false 29 [.t 20]), [20]),
 (.o 19 (.move (.t 21)), [21]),
 (.o 22 (.extract (.t 19) 0), []),
 (.o 23 (.extract (.t 19) 1), [19]),
 (.o 5 (.alloc [.slice true [], .slice true []]), []),
 (.u (.store 2 (.t 5) (.t 22)), [22]),
 (.o 6 (.move (.t 23)), [23])])
 (.seq (.seq (.regionK false [
 (.o 24 (.move (.t 6)), [6]),
 (.o 25 (.un .not (.t 24)), [24])])
 (.cond (.t 25)
 (.seq (.regionK false [
 (.o 4 (.move (.b false)), [0, 1, 25])])
 .ret)
 .skip))
 (.seq (.regionK false [
 (.o 7 (.move (.c (.p (.slice true [])))), [25])])
 (.ghost (.own 1 7) (.seq (.seq (.regionK false [
 (.o 8 (.move (.i 0)), [])])
 (.block 0
 (.loop
 (.ghost (.free [11]) (.ghost .lower a7_l2)))))
 (.seq (.seq (.regionK false [
 (.o 13 (.move (.i 0)), [])])
 (.block 2
 (.loop
 (.ghost .lower a7_l1))))
 (.seq (.regionK false [
 (.o 112 (.load (some 2) (.t 5)), []),
 (.o 113 (.build [.slice true [], .slice true []] []), []),
 (.o 114 (.call false 18 [.t 112, .t 113]), [112, 113]),
 (.o 115 (.move (.t 114)), [114]),
 (⟨some 116, .call false 13 [], some (115, true), []⟩, []),
 (.o 117 (.pick (.t 115) (.t 116) (.b false)), [115, 116]),
 (.o 4 (.move (.t 117)), [117])])
 .ret)))))))))⟩

/-- clockwork/clockworklaw23.LocktableProgress -/
@[irreducible] def a8_l0 : ACode :=
  (.seq (.seq (.regionK false [
 (.o 30 (.move (.t 5)), []),
 (.o 31 (.fieldAddr 0 (.t 1)), []),
 (.o 32 (.load none (.t 31)), [31]),
 (.o 33 (.len (.t 32)), [32]),
 (.o 34 (.bin .lss (.t 30) (.t 33)), [30, 33])])
 (.cond (.t 34)
 .skip
 (.ghost (.forget [5, 34]) (.ghost (.free [1]) (.ghost .lower (.exit 0))))))
 (.seq (.block 1
 (.seq (.regionK false [
 (.o 37 (.fieldAddr 0 (.t 1)), [34]),
 (.o 38 (.load none (.t 37)), [37]),
 (.o 39 (.move (.t 5)), []),
 (.o 40 (.indexAddr 2 (.t 38) (.t 39)), [38, 39]),
 (.o 41 (.fieldAddr 0 (.t 40)), [40]),
 (.o 42 (.load none (.t 41)), [41]),
 (.o 6 (.move (.t 42)), [42])])
 (.seq (.regionK false [
 (.o 43 (.move (.t 4)), []),
 (.o 44 (.move (.t 3)), []),
 (.o 45 (.len (.t 44)), [44]),
 (.o 46 (.bin .lss (.t 43) (.t 45)), [43, 45]),
 (.o 47 (.move (.t 46)), [46]),
 (⟨some 48, .move (.t 3), some (47, true), []⟩, []),
 (⟨some 49, .move (.t 4), some (47, true), []⟩, []),
 (⟨some 50, .indexAddr 1 (.t 48) (.t 49), some (47, true), []⟩, [48, 49]),
 (⟨some 51, .load none (.t 50), some (47, true), []⟩, [50]),
 (⟨some 52, .move (.t 6), some (47, true), []⟩, []),
 (⟨some 53, .bin .eql (.t 51) (.t 52), some (47, true), []⟩, [51, 52]),
 (.o 54 (.pick (.t 47) (.t 53) (.b false)), [47, 53]),
 (.o 7 (.move (.t 54)), [54])])
 (.seq (.seq (.regionK false [
 (.o 55 (.move (.t 7)), [])])
 (.cond (.t 55)
 (.regionK false [
 (.o 56 (.move (.t 4)), [55]),
 (.o 57 (.bin .add (.t 56) (.i 1)), [56]),
 (.o 4 (.move (.t 57)), [57])])
 .skip))
 (.seq (.regionK false [
 (.o 58 (.move (.t 7)), [55]),
 (.o 59 (.load (some 2) (.t 1)), []),
 (.o 60 (.move (.t 6)), []),
 (.o 61 (.call false 19 [.t 59, .t 60]), [59, 60]),
 (.o 62 (.eqb true (.t 58) (.t 61)), [58, 61]),
 (.o 63 (.move (.t 62)), [62]),
 (⟨some 64, .move (.t 7), some (63, false), []⟩, []),
 (⟨some 65, .load (some 2) (.t 1), some (63, false), []⟩, []),
 (⟨some 66, .move (.t 6), some (63, false), []⟩, [6]),
 (⟨some 67, .call false 24 [.t 65, .t 66], some (63, false), []⟩, [65, 66]),
 (⟨some 68, .len (.t 67), some (63, false), []⟩, [67]),
 (⟨some 69, .bin .eql (.t 68) (.i 0), some (63, false), []⟩, [68]),
 (⟨some 70, .eqb true (.t 64) (.t 69), some (63, false), []⟩, [64, 69]),
 (.o 71 (.pick (.t 63) (.b true) (.t 70)), [63, 70]),
 (.o 72 (.move (.t 71)), [71]),
 (⟨some 73, .move (.t 5), some (72, false), []⟩, []),
 (⟨some 74, .bin .eql (.t 73) (.i 0), some (72, false), []⟩, [73]),
 (⟨some 75, .move (.t 74), some (72, false), []⟩, [74]),
 (⟨some 76, .move (.t 7), some (75, true), []⟩, [7]),
 (⟨some 77, .un .not (.t 76), some (75, true), []⟩, [76]),
 (⟨some 78, .pick (.t 75) (.t 77) (.b false), some (72, false), []⟩, [75, 77]),
 (.o 79 (.pick (.t 72) (.b true) (.t 78)), [72, 78])])
 (.cond (.t 79)
 (.seq (.regionK false [
 (.o 2 (.move (.b false)), [3, 4, 5, 79])])
 .ret)
 .skip))))))
 (.regionK false [
 (.o 35 (.move (.t 5)), [79]),
 (.o 36 (.bin .add (.t 35) (.i 1)), [35]),
 (.o 5 (.move (.t 36)), [36])])))

def a8 : AFunc := ⟨87, 1, [.tmp 2],
  (.seq (.regionK false [
 (.o 1 (.box (.t 0)), [0]),
 (.o 2 (.move (.b false)), [2])])
 (.seq (.seq (.regionK false [
 (.o 8 (.load (some 2) (.t 1)), []),
 (.o 9 (.call false 11 [.t 8]), [8]),
 (.o 10 (.un .not (.t 9)), [9]),
 (.o 11 (.move (.t 10)), [10]),
 (⟨some 12, .load (some 2) (.t 1), some (11, false), []⟩, []),
 (⟨some 13, .call false 17 [.t 12], some (11, false), []⟩, [12]),
 (⟨some 14, .un .not (.t 13), some (11, false), []⟩, [13]),
 (.o 15 (.pick (.t 11) (.b true) (.t 14)), [11, 14])])
 (.cond (.t 15)
 (.seq (.regionK false [
 (.o 16 (.load (some 2) (.t 1)), [15]),
 (.o 17 (.call false 11 [.t 16]), [16]),
 (.o 18 (.un .not (.t 17)), [17]),
 (.o 19 (.move (.t 18)), [18]),
 (⟨some 20, .load (some 2) (.t 1), some (19, false), []⟩, []),
 (⟨some 21, .call false 22 [.t 20], some (19, false), []⟩, [20]),
 (⟨some 22, .len (.t 21), some (19, false), []⟩, [21]),
 (⟨some 23, .bin .eql (.t 22) (.i 0), some (19, false), []⟩, [22]),
 (.o 24 (.pick (.t 19) (.b true) (.t 23)), [19, 23]),
 (.o 25 (.move (.t 24)), [24]),
 (⟨some 26, .call false 13 [], some (25, true), []⟩, []),
 (.o 27 (.pick (.t 25) (.t 26) (.b false)), [25, 26]),
 (.o 2 (.move (.t 27)), [27])])
 .ret)
 .skip))
 (.seq (.regionK false [
 (.o 28 (.load (some 2) (.t 1)), [15]),
 (.o 29 (.call false 22 [.t 28]), [28]),
 (.o 3 (.move (.t 29)), [29])])
 (.seq (.regionK false [
 (.o 4 (.move (.i 0)), [])])
 (.seq (.seq (.regionK false [
 (.o 5 (.move (.i 0)), [])])
 (.block 0
 (.loop
 (.ghost .lower a8_l0))))
 (.seq (.regionK false [
 (.o 80 (.move (.t 4)), [4]),
 (.o 81 (.move (.t 3)), [3]),
 (.o 82 (.len (.t 81)), [81]),
 (.o 83 (.bin .eql (.t 80) (.t 82)), [80, 82]),
 (.o 84 (.move (.t 83)), [83]),
 (⟨some 85, .call false 13 [], some (84, true), []⟩, []),
 (.o 86 (.pick (.t 84) (.t 85) (.b false)), [84, 85]),
 (.o 2 (.move (.t 86)), [86])])
 .ret))))))⟩

/-- clockwork/clockworklaw23.LocktableStays -/
@[irreducible] def a9_l0 : ACode :=
  (.seq (.seq (.regionK false [
 (.o 37 (.move (.t 12)), []),
 (.o 38 (.move (.t 7)), []),
 (.o 39 (.len (.t 38)), [38]),
 (.o 40 (.bin .lss (.t 37) (.t 39)), [37, 39])])
 (.cond (.t 40)
 .skip
 (.ghost (.forget [7, 9, 12, 40]) (.ghost (.free [8]) (.ghost .lower (.exit 0))))))
 (.seq (.block 1
 (.seq (.regionK true [
 (.o 43 (.move (.t 9)), [40]),
 (⟨some 44, .bin .eql (.t 43) (.i 0), none, [0]⟩, [43]),
 (⟨some 45, .move (.t 44), none, [0, 1]⟩, [44]),
 (⟨some 46, .load (some 2) (.t 8), some (45, true), [0, 1, 2]⟩, []),
 (⟨some 47, .move (.t 7), some (45, true), [0, 1, 2]⟩, []),
 (⟨some 48, .move (.t 12), some (45, true), [0, 1, 2]⟩, []),
 (⟨some 49, .indexAddr 1 (.t 47) (.t 48), some (45, true), [0, 1, 2, 4, 5]⟩, [47, 48]),
 (⟨some 50, .load none (.t 49), some (45, true), [0, 1, 2, 4, 5, 6]⟩, [49]),
 (⟨some 51, .call false 19 [.t 46, .t 50], some (45, true), [0, 1, 2, 3, 4, 5, 6, 7]⟩, [46, 50]),
 (⟨some 52, .un .not (.t 51), some (45, true), [0, 1, 2, 3, 4, 5, 6, 7, 8]⟩, [51]),
 (⟨some 53, .pick (.t 45) (.t 52) (.b false), none, [0, 1, 2, 3, 4, 5, 6, 7, 8, 9]⟩, [45, 52]),
 (⟨some 54, .move (.t 53), none, [0, 1, 2, 3, 4, 5, 6, 7, 8, 9, 10]⟩, [53]),
 (⟨some 55, .move (.t 11), some (54, false), [0, 1, 2, 3, 4, 5, 6, 7, 8, 9, 10, 11]⟩, []),
 (⟨some 56, .bin .eql (.t 55) (.i 0), some (54, false), [0, 1, 2, 3, 4, 5, 6, 7, 8, 9, 10, 11, 12]⟩, [55]),
 (⟨some 57, .move (.t 56), some (54, false), [0, 1, 2, 3, 4, 5, 6, 7, 8, 9, 10, 11, 12, 13]⟩, [56]),
 (⟨some 58, .move (.t 7), some (57, true), [0, 1, 2, 3, 4, 5, 6, 7, 8, 9, 10, 11, 12, 13, 14]⟩, []),
 (⟨some 59, .move (.t 12), some (57, true), [0, 1, 2, 3, 4, 5, 6, 7, 8, 9, 10, 11, 12, 13, 14]⟩, []),
 (⟨some 60, .indexAddr 1 (.t 58) (.t 59), some (57, true), [0, 1, 2, 3, 4, 5, 6, 7, 8, 9, 10, 11, 12, 13, 14, 15, 16]⟩, [58, 59]),
 (⟨some 61, .load none (.t 60), some (57, true), [0, 1, 2, 3, 4, 5, 6, 7, 8, 9, 10, 11, 12, 13, 14, 15, 16, 17]⟩, [60]),
 (⟨some 62, .move (.t 1), some (57, true), [0, 1, 2, 3, 4, 5, 6, 7, 8, 9, 10, 11, 12, 13, 14]⟩, []),
 (⟨some 63, .bin .neq (.t 61) (.t 62), some (57, true), [0, 1, 2, 3, 4, 5, 6, 7, 8, 9, 10, 11, 12, 13, 14, 15, 16, 17, 18, 19]⟩, [61, 62]),
 (⟨some 64, .pick (.t 57) (.t 63) (.b false), some (54, false), [0, 1, 2, 3, 4, 5, 6, 7, 8, 9, 10, 11, 12, 13, 14, 15, 16, 17, 18, 19, 20]⟩, [57, 63]),
 (⟨some 65, .move (.t 64), some (54, false), [0, 1, 2, 3, 4, 5, 6, 7, 8, 9, 10, 11, 12, 13, 14, 15, 16, 17, 18, 19, 20, 21]⟩, [64]),
 (⟨some 66, .load (some 2) (.t 10), some (65, true), [0, 1, 2, 3, 4, 5, 6, 7, 8, 9, 10, 11, 12, 13, 14, 15, 16, 17, 18, 19, 20, 21, 22]⟩, []),
 (⟨some 67, .move (.t 7), some (65, true), [0, 1, 2, 3, 4, 5, 6, 7, 8, 9, 10, 11, 12, 13, 14, 15, 16, 17, 18, 19, 20, 21, 22]⟩, []),
 (⟨some 68, .move (.t 12), some (65, true), [0, 1, 2, 3, 4, 5, 6, 7, 8, 9, 10, 11, 12, 13, 14, 15, 16, 17, 18, 19, 20, 21, 22]⟩, []),
 (⟨some 69, .indexAddr 1 (.t 67) (.t 68), some (65, true), [0, 1, 2, 3, 4, 5, 6, 7, 8, 9, 10, 11, 12, 13, 14, 15, 16, 17, 18, 19, 20, 21, 22, 24, 25]⟩, [67, 68]),
 (⟨some 70, .load none (.t 69), some (65, true), [0, 1, 2, 3, 4, 5, 6, 7, 8, 9, 10, 11, 12, 13, 14, 15, 16, 17, 18, 19, 20, 21, 22, 24, 25, 26]⟩, [69]),
 (⟨some 71, .call false 19 [.t 66, .t 70], some (65, true), [0, 1, 2, 3, 4, 5, 6, 7, 8, 9, 10, 11, 12, 13, 14, 15, 16, 17, 18, 19, 20, 21, 22, 23, 24, 25, 26, 27]⟩, [66, 70]),
 (⟨some 72, .un .not (.t 71), some (65, true), [0, 1, 2, 3, 4, 5, 6, 7, 8, 9, 10, 11, 12, 13, 14, 15, 16, 17, 18, 19, 20, 21, 22, 23, 24, 25, 26, 27, 28]⟩, [71]),
 (⟨some 73, .pick (.t 65) (.t 72) (.b false), some (54, false), [0, 1, 2, 3, 4, 5, 6, 7, 8, 9, 10, 11, 12, 13, 14, 15, 16, 17, 18, 19, 20, 21, 22, 23, 24, 25, 26, 27, 28, 29]⟩, [65, 72]),
 (⟨some 74, .pick (.t 54) (.b true) (.t 73), none, [0, 1, 2, 3, 4, 5, 6, 7, 8, 9, 10, 11, 12, 13, 14, 15, 16, 17, 18, 19, 20, 21, 22, 23, 24, 25, 26, 27, 28, 29, 30]⟩, [54, 73])])
 (.cond (.t 74)
 (.seq (.regionK false [
 (.o 6 (.move (.b false)), [1, 7, 9, 11, 12, 74])])
 .ret)
 .skip)))
 (.regionK false [
 (.o 41 (.move (.t 12)), [74]),
 (.o 42 (.bin .add (.t 41) (.i 1)), [41]),
 (.o 12 (.move (.t 42)), [42])])))

def a9 : AFunc := ⟨86, 3, [.tmp 6],
  (.seq (.regionK false [
 (.o 3 (.box (.t 0)), [0]),
 (.o 5 (.box (.t 2)), [2]),
 (.o 6 (.move (.b false)), [6])])
 (.seq (.seq (.regionK false [
 (.o 13 (.load (some 2) (.t 3)), []),
 (.o 14 (.call false 11 [.t 13]), [13]),
 (.o 15 (.un .not (.t 14)), [14]),
 (.o 16 (.move (.t 15)), [15]),
 (⟨some 17, .load (some 3) (.t 5), some (16, false), []⟩, []),
 (⟨some 18, .call false 12 [.t 17, .i 40], some (16, false), []⟩, [17]),
 (⟨some 19, .un .not (.t 18), some (16, false), []⟩, [18]),
 (.o 20 (.pick (.t 16) (.b true) (.t 19)), [16, 19])])
 (.cond (.t 20)
 (.seq (.regionK false [
 (.o 21 (.call false 13 []), [1, 20]),
 (.o 6 (.move (.t 21)), [21])])
 .ret)
 .skip))
 (.seq (.regionK false [
 (.o 22 (.load (some 2) (.t 3)), [20]),
 (.o 23 (.call false 22 [.t 22]), [22]),
 (.o 7 (.move (.t 23)), [23])])
 (.seq (.regionK false [
 (.o 25 (.load (some 2) (.t 3)), []),
 (.o 26 (.move (.t 1)), []),
 (.o 27 (.load (some 3) (.t 5)), []),
 (.o 28 (.call false 14 [.t 25, .t 26, .t 27]), [25, 26, 27]),
 (.o 24 (.move (.t 28)), [28]),
 (.o 29 (.extract (.t 24) 0), []),
 (.o 30 (.extract (.t 24) 1), [24]),
 (.o 8 (.alloc [.slice true [], .slice true []]), []),
 (.u (.store 2 (.t 8) (.t 29)), [29]),
 (.o 9 (.move (.t 30)), [30])])
 (.seq (.regionK false [
 (.o 32 (.load (some 2) (.t 3)), []),
 (.o 33 (.move (.t 1)), []),
 (.o 34 (.call false 26 [.t 32, .t 33]), [32, 33]),
 (.o 31 (.move (.t 34)), [34]),
 (.o 35 (.extract (.t 31) 0), []),
 (.o 36 (.extract (.t 31) 1), [31]),
 (.o 10 (.alloc [.slice true [], .slice true []]), []),
 (.u (.store 2 (.t 10) (.t 35)), [35]),
 (.o 11 (.move (.t 36)), [36])])
 (.seq (.seq (.regionK false [
 (.o 12 (.move (.i 0)), [])])
 (.block 0
 (.loop
 (.ghost (.free [3, 5]) (.ghost .lower a9_l0)))))
 (.seq (.regionK false [
 (.o 75 (.move (.t 11)), [11]),
 (.o 76 (.bin .neq (.t 75) (.i 0)), [75]),
 (.o 77 (.move (.t 76)), [76]),
 (⟨some 78, .load (some 2) (.t 10), some (77, false), []⟩, []),
 (⟨some 79, .move (.t 1), some (77, false), []⟩, [1]),
 (⟨some 80, .call false 19 [.t 78, .t 79], some (77, false), []⟩, [78, 79]),
 (⟨some 81, .un .not (.t 80), some (77, false), []⟩, [80]),
 (.o 82 (.pick (.t 77) (.b true) (.t 81)), [77, 81]),
 (.o 83 (.move (.t 82)), [82]),
 (⟨some 84, .call false 13 [], some (83, true), []⟩, []),
 (.o 85 (.pick (.t 83) (.t 84) (.b false)), [83, 84]),
 (.o 6 (.move (.t 85)), [85])])
 .ret)))))))⟩

/-- clockwork/clockworklaw23.LocktableUndoes -/
def a10 : AFunc := ⟨52, 3, [.tmp 6],
  (.seq (.regionK false [
 (.o 3 (.box (.t 0)), [0]),
 (.o 5 (.box (.t 2)), [2]),
 (.o 6 (.move (.b false)), [6])])
 (.seq (.seq (.regionK false [
 (.o 11 (.load (some 2) (.t 3)), []),
 (.o 12 (.call false 11 [.t 11]), [11]),
 (.o 13 (.un .not (.t 12)), [12]),
 (.o 14 (.move (.t 13)), [13]),
 (⟨some 15, .load (some 3) (.t 5), some (14, false), []⟩, []),
 (⟨some 16, .call false 12 [.t 15, .i 40], some (14, false), []⟩, [15]),
 (⟨some 17, .un .not (.t 16), some (14, false), []⟩, [16]),
 (.o 18 (.pick (.t 14) (.b true) (.t 17)), [14, 17])])
 (.cond (.t 18)
 (.seq (.regionK false [
 (.o 19 (.call false 13 []), [1, 18]),
 (.o 6 (.move (.t 19)), [19])])
 .ret)
 .skip))
 (.seq (.regionK false [
 (.o 21 (.load (some 2) (.t 3)), [18]),
 (.o 22 (.move (.t 1)), []),
 (.o 23 (.load (some 3) (.t 5)), []),
 (.o 24 (.call false 14 [.t 21, .t 22, .t 23]), [21, 22, 23]),
 (.o 20 (.move (.t 24)), [24]),
 (.o 25 (.extract (.t 20) 0), []),
 (.o 26 (.extract (.t 20) 1), [20]),
 (.o 7 (.alloc [.slice true [], .slice true []]), []),
 (.u (.store 2 (.t 7) (.t 25)), [25]),
 (.o 8 (.move (.t 26)), [26])])
 (.seq (.seq (.regionK false [
 (.o 27 (.move (.t 8)), [8]),
 (.o 28 (.bin .neq (.t 27) (.i 0)), [27])])
 (.cond (.t 28)
 (.seq (.regionK false [
 (.o 29 (.call false 13 []), [1, 28]),
 (.o 6 (.move (.t 29)), [29])])
 .ret)
 .skip))
 (.seq (.regionK false [
 (.o 31 (.load (some 2) (.t 7)), [28]),
 (.o 32 (.move (.t 1)), [1]),
 (.o 33 (.call false 26 [.t 31, .t 32]), [31, 32]),
 (.o 30 (.move (.t 33)), [33]),
 (.o 34 (.extract (.t 30) 0), []),
 (.o 35 (.extract (.t 30) 1), [30]),
 (.o 9 (.alloc [.slice true [], .slice true []]), []),
 (.u (.store 2 (.t 9) (.t 34)), [34]),
 (.o 10 (.move (.t 35)), [35])])
 (.seq (.regionK false [
 (.o 36 (.move (.t 10)), [10]),
 (.o 37 (.bin .eql (.t 36) (.i 0)), [36]),
 (.o 38 (.move (.t 37)), [37]),
 (⟨some 39, .load (some 2) (.t 9), some (38, true), []⟩, []),
 (⟨some 40, .load (some 2) (.t 3), some (38, true), []⟩, []),
 (⟨some 41, .call false 18 [.t 39, .t 40], some (38, true), []⟩, [39, 40]),
 (.o 42 (.pick (.t 38) (.t 41) (.b false)), [38, 41]),
 (.o 43 (.move (.t 42)), [42]),
 (⟨some 44, .load (some 2) (.t 7), some (43, true), []⟩, []),
 (⟨some 45, .load (some 2) (.t 3), some (43, true), []⟩, []),
 (⟨some 46, .call false 18 [.t 44, .t 45], some (43, true), []⟩, [44, 45]),
 (⟨some 47, .un .not (.t 46), some (43, true), []⟩, [46]),
 (.o 48 (.pick (.t 43) (.t 47) (.b false)), [43, 47]),
 (.o 49 (.move (.t 48)), [48]),
 (⟨some 50, .call false 13 [], some (49, true), []⟩, []),
 (.o 51 (.pick (.t 49) (.t 50) (.b false)), [49, 50]),
 (.o 6 (.move (.t 51)), [51])])
 .ret))))))⟩

/-- clockwork/clockworklaw23.few -/
@[irreducible] def a11_l0 : ACode :=
  (.seq (.seq (.regionK false [
 (.o 14 (.move (.t 3)), []),
 (.o 15 (.fieldAddr 1 (.t 1)), []),
 (.o 16 (.load none (.t 15)), [15]),
 (.o 17 (.len (.t 16)), [16]),
 (.o 18 (.bin .lss (.t 14) (.t 17)), [14, 17])])
 (.cond (.t 18)
 .skip
 (.ghost (.forget [3, 18]) (.ghost (.free [1]) (.ghost .lower (.exit 0))))))
 (.seq (.block 1
 (.seq (.regionK false [
 (.o 21 (.fieldAddr 1 (.t 1)), [18]),
 (.o 22 (.load none (.t 21)), [21]),
 (.o 23 (.move (.t 3)), []),
 (.o 24 (.indexAddr 2 (.t 22) (.t 23)), [22, 23]),
 (.o 25 (.fieldAddr 1 (.t 24)), [24]),
 (.o 26 (.load none (.t 25)), [25]),
 (.o 27 (.len (.t 26)), [26]),
 (.o 28 (.bin .gtr (.t 27) (.i 40)), [27]),
 (.o 29 (.move (.t 28)), [28]),
 (⟨some 30, .fieldAddr 1 (.t 1), some (29, false), []⟩, []),
 (⟨some 31, .load none (.t 30), some (29, false), []⟩, [30]),
 (⟨some 32, .move (.t 3), some (29, false), []⟩, []),
 (⟨some 33, .indexAddr 2 (.t 31) (.t 32), some (29, false), []⟩, [31, 32]),
 (⟨some 34, .fieldAddr 0 (.t 33), some (29, false), []⟩, [33]),
 (⟨some 35, .load none (.t 34), some (29, false), []⟩, [34]),
 (⟨some 36, .lenS (.t 35), some (29, false), []⟩, [35]),
 (⟨some 37, .bin .gtr (.t 36) (.i 100), some (29, false), []⟩, [36]),
 (.o 38 (.pick (.t 29) (.b true) (.t 37)), [29, 37])])
 (.cond (.t 38)
 (.seq (.regionK false [
 (.o 2 (.move (.b false)), [3, 38])])
 .ret)
 .skip)))
 (.regionK false [
 (.o 19 (.move (.t 3)), [38]),
 (.o 20 (.bin .add (.t 19) (.i 1)), [19]),
 (.o 3 (.move (.t 20)), [20])])))

def a11 : AFunc := ⟨39, 1, [.tmp 2],
  (.seq (.regionK false [
 (.o 1 (.box (.t 0)), [0]),
 (.o 2 (.move (.b false)), [2])])
 (.seq (.seq (.regionK false [
 (.o 4 (.fieldAddr 0 (.t 1)), []),
 (.o 5 (.load none (.t 4)), [4]),
 (.o 6 (.len (.t 5)), [5]),
 (.o 7 (.bin .gtr (.t 6) (.i 40)), [6]),
 (.o 8 (.move (.t 7)), [7]),
 (⟨some 9, .fieldAddr 1 (.t 1), some (8, false), []⟩, []),
 (⟨some 10, .load none (.t 9), some (8, false), []⟩, [9]),
 (⟨some 11, .len (.t 10), some (8, false), []⟩, [10]),
 (⟨some 12, .bin .gtr (.t 11) (.i 40), some (8, false), []⟩, [11]),
 (.o 13 (.pick (.t 8) (.b true) (.t 12)), [8, 12])])
 (.cond (.t 13)
 (.seq (.regionK false [
 (.o 2 (.move (.b false)), [13])])
 .ret)
 .skip))
 (.seq (.seq (.regionK false [
 (.o 3 (.move (.i 0)), [13])])
 (.block 0
 (.loop
 (.ghost .lower a11_l0))))
 (.seq (.regionK false [
 (.o 2 (.move (.b true)), [])])
 .ret))))⟩

/-- clockwork/clockworkref19.Few -/
@[irreducible] def a12_l0 : ACode :=
  (.seq (.seq (.regionK false [
 (.o 33 (.move (.t 6)), []),
 (.o 34 (.fieldAddr 2 (.t 2)), []),
 (.o 35 (.load none (.t 34)), [34]),
 (.o 36 (.len (.t 35)), [35]),
 (.o 37 (.bin .lss (.t 33) (.t 36)), [33, 36])])
 (.cond (.t 37)
 .skip
 (.ghost (.forget [6, 37]) (.ghost (.free [2]) (.ghost .lower (.exit 2))))))
 (.seq (.block 3
 (.seq (.regionK false [
 (.o 40 (.fieldAddr 2 (.t 2)), [37]),
 (.o 41 (.load none (.t 40)), [40]),
 (.o 42 (.move (.t 6)), []),
 (.o 43 (.indexAddr 1 (.t 41) (.t 42)), [41, 42]),
 (.o 44 (.load none (.t 43)), [43]),
 (.o 45 (.lenS (.t 44)), [44]),
 (.o 46 (.bin .gtr (.t 45) (.i 100)), [45])])
 (.cond (.t 46)
 (.seq (.regionK false [
 (.o 4 (.move (.b false)), [6, 46])])
 .ret)
 .skip)))
 (.regionK false [
 (.o 38 (.move (.t 6)), [46]),
 (.o 39 (.bin .add (.t 38) (.i 1)), [38]),
 (.o 6 (.move (.t 39)), [39])])))

@[irreducible] def a12_l1 : ACode :=
  (.seq (.seq (.regionK false [
 (.o 19 (.move (.t 5)), []),
 (.o 20 (.fieldAddr 1 (.t 2)), []),
 (.o 21 (.load none (.t 20)), [20]),
 (.o 22 (.len (.t 21)), [21]),
 (.o 23 (.bin .lss (.t 19) (.t 22)), [19, 22])])
 (.cond (.t 23)
 .skip
 (.ghost (.forget [5, 23]) (.ghost .lower (.exit 0)))))
 (.seq (.block 1
 (.seq (.regionK false [
 (.o 26 (.fieldAddr 1 (.t 2)), [23]),
 (.o 27 (.load none (.t 26)), [26]),
 (.o 28 (.move (.t 5)), []),
 (.o 29 (.indexAddr 1 (.t 27) (.t 28)), [27, 28]),
 (.o 30 (.load none (.t 29)), [29]),
 (.o 31 (.lenS (.t 30)), [30]),
 (.o 32 (.bin .gtr (.t 31) (.i 100)), [31])])
 (.cond (.t 32)
 (.seq (.regionK false [
 (.o 4 (.move (.b false)), [5, 32])])
 .ret)
 .skip)))
 (.regionK false [
 (.o 24 (.move (.t 5)), [32]),
 (.o 25 (.bin .add (.t 24) (.i 1)), [24]),
 (.o 5 (.move (.t 25)), [25])])))

def a12 : AFunc := ⟨47, 2, [.tmp 4],
  (.seq (.regionK false [
 (.o 2 (.box (.t 0)), [0]),
 (.o 4 (.move (.b false)), [4])])
 (.seq (.seq (.regionK false [
 (.o 7 (.fieldAddr 1 (.t 2)), []),
 (.o 8 (.load none (.t 7)), [7]),
 (.o 9 (.len (.t 8)), [8]),
 (.o 10 (.move (.t 1)), []),
 (.o 11 (.bin .gtr (.t 9) (.t 10)), [9, 10]),
 (.o 12 (.move (.t 11)), [11]),
 (⟨some 13, .fieldAddr 2 (.t 2), some (12, false), []⟩, []),
 (⟨some 14, .load none (.t 13), some (12, false), []⟩, [13]),
 (⟨some 15, .len (.t 14), some (12, false), []⟩, [14]),
 (⟨some 16, .move (.t 1), some (12, false), []⟩, [1]),
 (⟨some 17, .bin .gtr (.t 15) (.t 16), some (12, false), []⟩, [15, 16]),
 (.o 18 (.pick (.t 12) (.b true) (.t 17)), [12, 17])])
 (.cond (.t 18)
 (.seq (.regionK false [
 (.o 4 (.move (.b false)), [18])])
 .ret)
 .skip))
 (.seq (.seq (.regionK false [
 (.o 5 (.move (.i 0)), [18])])
 (.block 0
 (.loop
 (.ghost .lower a12_l1))))
 (.seq (.seq (.regionK false [
 (.o 6 (.move (.i 0)), [])])
 (.block 2
 (.loop
 (.ghost .lower a12_l0))))
 (.seq (.regionK false [
 (.o 4 (.move (.b true)), [])])
 .ret)))))⟩

/-- clockwork/clockworklaw23.works -/
def a13 : AFunc := ⟨123, 0, [.tmp 0],
  (.seq (.regionK false [
 (.o 0 (.move (.b false)), [0])])
 (.seq (.regionK false [
 (.o 16 (.build [.slice true [], .slice true []] []), []),
 (.o 17 (.call false 32 [.c (.p (.str ⟨#[97]⟩)), .c (.p (.str ⟨#[]⟩))]), []),
 (.o 18 (.call false 14 [.t 16, .i 0, .t 17]), [16, 17]),
 (.o 15 (.move (.t 18)), [18]),
 (.o 19 (.extract (.t 15) 0), []),
 (.o 20 (.extract (.t 15) 1), [15]),
 (.o 1 (.alloc [.slice true [], .slice true []]), []),
 (.u (.store 2 (.t 1) (.t 19)), [19]),
 (.o 2 (.move (.t 20)), [20])])
 (.seq (.regionK true [
 (.o 22 (.load (some 2) (.t 1)), []),
 (.o 23 (.call false 32 [.c (.p (.str ⟨#[97]⟩)), .c (.p (.str ⟨#[98]⟩))]), []),
 (⟨some 24, .call false 14 [.t 22, .i 1, .t 23], none, [0, 1]⟩, [22, 23]),
 (⟨some 21, .move (.t 24), none, [0, 1, 2]⟩, [24]),
 (⟨some 25, .extract (.t 21) 0, none, [0, 1, 2, 3]⟩, []),
 (⟨some 26, .extract (.t 21) 1, none, [0, 1, 2, 3]⟩, [21]),
 (.o 3 (.alloc [.slice true [], .slice true []]), []),
 (⟨none, .store 2 (.t 3) (.t 25), none, [0, 1, 2, 3, 4, 6]⟩, [25]),
 (⟨some 4, .move (.t 26), none, [0, 1, 2, 3, 4, 5, 6, 7]⟩, [26])])
 (.seq (.regionK true [
 (.o 28 (.load (some 2) (.t 3)), []),
 (.o 29 (.call false 32 [.c (.p (.str ⟨#[]⟩)), .c (.p (.str ⟨#[97]⟩))]), []),
 (⟨some 30, .call false 14 [.t 28, .i 2, .t 29], none, [0, 1]⟩, [28, 29]),
 (⟨some 27, .move (.t 30), none, [0, 1, 2]⟩, [30]),
 (⟨some 31, .extract (.t 27) 0, none, [0, 1, 2, 3]⟩, []),
 (⟨some 32, .extract (.t 27) 1, none, [0, 1, 2, 3]⟩, [27]),
 (.o 5 (.alloc [.slice true [], .slice true []]), []),
 (⟨none, .store 2 (.t 5) (.t 31), none, [0, 1, 2, 3, 4, 6]⟩, [31]),
 (⟨some 6, .move (.t 32), none, [0, 1, 2, 3, 4, 5, 6, 7]⟩, [32])])
 (.seq (.regionK false [
 (.o 34 (.load (some 2) (.t 5)), []),
 (.o 35 (.call false 26 [.t 34, .i 0]), [34]),
 (.o 33 (.move (.t 35)), [35]),
 (.o 36 (.extract (.t 33) 0), []),
 (.o 37 (.extract (.t 33) 1), [33]),
 (.o 7 (.alloc [.slice true [], .slice true []]), []),
 (.u (.store 2 (.t 7) (.t 36)), [36]),
 (.o 8 (.move (.t 37)), [37])])
 (.seq (.regionK false [
 (.o 39 (.load (some 2) (.t 1)), []),
 (.o 40 (.build [.bool false, .slice true [], .slice true []] [(0, 1, .b true)]), []),
 (.o 41 (.call false 14 [.t 39, .i 1, .t 40]), [39, 40]),
 (.o 38 (.move (.t 41)), [41]),
 (.o 42 (.extract (.t 38) 0), []),
 (.o 43 (.extract (.t 38) 1), [38]),
 (.o 9 (.alloc [.slice true [], .slice true []]), []),
 (.u (.store 2 (.t 9) (.t 42)), [42]),
 (.o 10 (.move (.t 43)), [43])])
 (.seq (.regionK false [
 (.o 45 (.load (some 2) (.t 9)), []),
 (.o 46 (.build [.bool false, .slice true [], .slice true []] []), []),
 (.o 47 (.call false 14 [.t 45, .i 2, .t 46]), [45, 46]),
 (.o 44 (.move (.t 47)), [47]),
 (.o 48 (.extract (.t 44) 0), []),
 (.o 49 (.extract (.t 44) 1), [44]),
 (.o 11 (.alloc [.slice true [], .slice true []]), []),
 (.u (.store 2 (.t 11) (.t 48)), [48]),
 (.o 12 (.move (.t 49)), [49])])
 (.seq (.regionK false [
 (.o 51 (.load (some 2) (.t 11)), []),
 (.o 52 (.build [.bool false, .slice true [], .slice true []] []), []),
 (.o 53 (.call false 14 [.t 51, .i 1, .t 52]), [51, 52]),
 (.o 50 (.move (.t 53)), [53]),
 (.o 54 (.extract (.t 50) 0), []),
 (.o 55 (.extract (.t 50) 1), [50]),
 (.o 13 (.alloc [.slice true [], .slice true []]), []),
 (.u (.store 2 (.t 13) (.t 54)), [54]),
 (.o 14 (.move (.t 55)), [55])])
 (.seq (.seq (.regionK false [
 (.o 56 (.move (.t 2)), [2]),
 (.o 57 (.bin .neq (.t 56) (.i 0)), [56]),
 (.o 58 (.move (.t 57)), [57]),
 (⟨some 59, .move (.t 4), some (58, false), []⟩, [4]),
 (⟨some 60, .bin .neq (.t 59) (.i 0), some (58, false), []⟩, [59]),
 (.o 61 (.pick (.t 58) (.b true) (.t 60)), [58, 60]),
 (.o 62 (.move (.t 61)), [61]),
 (⟨some 63, .move (.t 6), some (62, false), []⟩, [6]),
 (⟨some 64, .bin .neq (.t 63) (.i 0), some (62, false), []⟩, [63]),
 (.o 65 (.pick (.t 62) (.b true) (.t 64)), [62, 64]),
 (.o 66 (.move (.t 65)), [65]),
 (⟨some 67, .move (.t 8), some (66, false), []⟩, [8]),
 (⟨some 68, .bin .neq (.t 67) (.i 0), some (66, false), []⟩, [67]),
 (.o 69 (.pick (.t 66) (.b true) (.t 68)), [66, 68]),
 (.o 70 (.move (.t 69)), [69]),
 (⟨some 71, .move (.t 10), some (70, false), []⟩, [10]),
 (⟨some 72, .bin .neq (.t 71) (.i 0), some (70, false), []⟩, [71]),
 (.o 73 (.pick (.t 70) (.b true) (.t 72)), [70, 72]),
 (.o 74 (.move (.t 73)), [73]),
 (⟨some 75, .move (.t 12), some (74, false), []⟩, [12]),
 (⟨some 76, .bin .neq (.t 75) (.i 0), some (74, false), []⟩, [75]),
 (.o 77 (.pick (.t 74) (.b true) (.t 76)), [74, 76]),
 (.o 78 (.move (.t 77)), [77]),
 (⟨some 79, .move (.t 14), some (78, false), []⟩, [14]),
 (⟨some 80, .bin .neq (.t 79) (.i 8), some (78, false), []⟩, [79]),
 (.o 81 (.pick (.t 78) (.b true) (.t 80)), [78, 80])])
 (.cond (.t 81)
 (.seq (.regionK false [
 (.o 0 (.move (.b false)), [81])])
 .ret)
 .skip))
 (.seq (.regionK false [
 (.o 82 (.load (some 2) (.t 11)), [81]),
 (.o 83 (.call false 16 [.t 82]), [82]),
 (.o 84 (.move (.t 83)), [83]),
 (⟨some 85, .load (some 2) (.t 5), some (84, true), []⟩, []),
 (⟨some 86, .call false 22 [.t 85], some (84, true), []⟩, [85]),
 (⟨some 87, .buildSlice [.int .i64 0] 2 [(0, .i 0), (1, .i 1)], some (84, true), []⟩, []),
 (⟨some 88, .call false 21 [.t 86, .t 87], some (84, true), []⟩, [86, 87]),
 (.o 89 (.pick (.t 84) (.t 88) (.b false)), [84, 88]),
 (.o 90 (.move (.t 89)), [89]),
 (⟨some 91, .load (some 2) (.t 5), some (90, true), []⟩, []),
 (⟨some 92, .call false 24 [.t 91, .i 2], some (90, true), []⟩, [91]),
 (⟨some 93, .buildSlice [.int .i64 0] 2 [(0, .i 0), (1, .i 1)], some (90, true), []⟩, []),
 (⟨some 94, .call false 21 [.t 92, .t 93], some (90, true), []⟩, [92, 93]),
 (.o 95 (.pick (.t 90) (.t 94) (.b false)), [90, 94]),
 (.o 96 (.move (.t 95)), [95]),
 (⟨some 97, .load (some 2) (.t 7), some (96, true), []⟩, []),
 (⟨some 98, .call false 24 [.t 97, .i 2], some (96, true), []⟩, [97]),
 (⟨some 99, .buildSlice [.int .i64 0] 1 [(0, .i 1)], some (96, true), []⟩, []),
 (⟨some 100, .call false 21 [.t 98, .t 99], some (96, true), []⟩, [98, 99]),
 (.o 101 (.pick (.t 96) (.t 100) (.b false)), [96, 100]),
 (.o 102 (.move (.t 101)), [101]),
 (⟨some 103, .load (some 2) (.t 9), some (102, true), []⟩, []),
 (⟨some 104, .call false 24 [.t 103, .i 1], some (102, true), []⟩, [103]),
 (⟨some 105, .buildSlice [.int .i64 0] 1 [(0, .i 0)], some (102, true), []⟩, []),
 (⟨some 106, .call false 21 [.t 104, .t 105], some (102, true), []⟩, [104, 105]),
 (.o 107 (.pick (.t 102) (.t 106) (.b false)), [102, 106]),
 (.o 108 (.move (.t 107)), [107]),
 (⟨some 109, .load (some 2) (.t 11), some (108, true), []⟩, []),
 (⟨some 110, .call false 24 [.t 109, .i 2], some (108, true), []⟩, [109]),
 (⟨some 111, .buildSlice [.int .i64 0] 1 [(0, .i 1)], some (108, true), []⟩, []),
 (⟨some 112, .call false 21 [.t 110, .t 111], some (108, true), []⟩, [110, 111]),
 (.o 113 (.pick (.t 108) (.t 112) (.b false)), [108, 112]),
 (.o 114 (.move (.t 113)), [113]),
 (⟨some 115, .load (some 2) (.t 5), some (114, true), []⟩, []),
 (⟨some 116, .call false 19 [.t 115, .i 1], some (114, true), []⟩, [115]),
 (.o 117 (.pick (.t 114) (.t 116) (.b false)), [114, 116]),
 (.o 118 (.move (.t 117)), [117]),
 (⟨some 119, .load (some 2) (.t 5), some (118, true), []⟩, []),
 (⟨some 120, .call false 19 [.t 119, .i 2], some (118, true), []⟩, [119]),
 (⟨some 121, .un .not (.t 120), some (118, true), []⟩, [120]),
 (.o 122 (.pick (.t 118) (.t 121) (.b false)), [118, 121]),
 (.o 0 (.move (.t 122)), [122])])
 .ret))))))))))⟩

/-- clockwork/locktable.Request -/
@[irreducible] def a14_l0 : ACode :=
  (.seq (.regionK false [
 (.o 80 (.bin .lss (.t 79) (.t 78)), [])])
 (.seq (.cond (.t 80)
 .skip
 (.ghost (.forget [1, 77, 78, 79, 80]) (.ghost (.free [5]) (.exit 3))))
 (.seq (.block 4
 (.seq (.regionK false [
 (.o 81 (.indexAddr 1 (.t 77) (.t 79)), [80]),
 (.o 82 (.load none (.t 81)), [81]),
 (.o 12 (.move (.t 82)), [82])])
 (.seq (.regionK false [
 (.o 83 (.fieldAddr 2 (.t 5)), []),
 (.o 84 (.load none (.t 83)), [83]),
 (.o 85 (.move (.t 12)), []),
 (.o 86 (.call false 37 [.t 84, .t 85]), [84, 85]),
 (.o 87 (.un .not (.t 86)), [86])])
 (.cond (.t 87)
 (.regionK false [
 (.o 88 (.move (.t 12)), [12, 87]),
 (.o 89 (.move (.t 1)), []),
 (.o 90 (.build [.int .i64 0, .bool false] [(0, 1, .t 89)]), [89]),
 (.o 91 (.call true 36 [.t 8, .t 88, .t 90]), [88, 90, 91])])
 .skip))))
 (.regionK false [
 (.o 92 (.bin .add (.t 79) (.i 1)), [12, 87]),
 (.o 79 (.move (.t 92)), [92])]))))

@[irreducible] def a14_l1 : ACode :=
  (.seq (.regionK false [
 (.o 68 (.bin .lss (.t 67) (.t 66)), [])])
 (.seq (.cond (.t 68)
 .skip
 (.ghost (.forget [65, 66, 67, 68]) (.exit 1)))
 (.seq (.block 2
 (.seq (.regionK false [
 (.o 69 (.indexAddr 1 (.t 65) (.t 67)), [68]),
 (.o 70 (.load none (.t 69)), [69]),
 (.o 10 (.move (.t 70)), [70])])
 (.regionK false [
 (.o 71 (.move (.t 10)), [10]),
 (.o 72 (.move (.t 1)), []),
 (.o 73 (.build [.int .i64 0, .bool false] [(0, 1, .t 72), (1, 1, .b true)]), [72]),
 (.o 74 (.call true 36 [.t 8, .t 71, .t 73]), [71, 73, 74])])))
 (.regionK false [
 (.o 75 (.bin .add (.t 67) (.i 1)), []),
 (.o 67 (.move (.t 75)), [75])]))))

def a14 : AFunc := ⟨94, 3, [.cell 6 2, .tmp 7],
  (.seq (.regionK false [
 (.o 3 (.box (.t 0)), [0]),
 (.o 5 (.box (.t 2)), [2]),
 (.o 6 (.alloc [.slice true [], .slice true []]), []),
 (.o 7 (.move (.i 0)), [7])])
 (.seq (.block 0
 (.seq (.regionK false [
 (.o 14 (.load (some 2) (.t 3)), []),
 (.o 15 (.call false 16 [.t 14]), [14]),
 (.o 16 (.un .not (.t 15)), [15]),
 (.o 17 (.move (.t 16)), [16]),
 (⟨some 18, .load (some 3) (.t 5), some (17, false), []⟩, []),
 (⟨some 19, .call false 33 [.t 18], some (17, false), []⟩, [18]),
 (⟨some 20, .un .not (.t 19), some (17, false), []⟩, [19]),
 (.o 21 (.pick (.t 17) (.b true) (.t 20)), [17, 20]),
 (.o 22 (.move (.t 21)), [21]),
 (⟨some 23, .move (.t 1), some (22, false), []⟩, []),
 (⟨some 24, .bin .lss (.t 23) (.i 0), some (22, false), []⟩, [23]),
 (.o 25 (.pick (.t 22) (.b true) (.t 24)), [22, 24]),
 (.o 13 (.move (.t 25)), [25])])
 (.cond (.t 13)
 (.seq (.regionK false [
 (.o 26 (.build [.slice true [], .slice true []] []), [1, 13]),
 (.u (.store 2 (.t 6) (.t 26)), [26]),
 (.o 7 (.move (.i 1)), [])])
 .ret)
 (.seq (.regionK false [
 (.o 28 (.fieldAddr 0 (.t 3)), [13]),
 (.o 29 (.load none (.t 28)), [28]),
 (.o 30 (.move (.t 1)), []),
 (.o 31 (.call false 34 [.t 29, .t 30]), [29, 30]),
 (.o 32 (.bin .geq (.t 31) (.i 0)), [31]),
 (.o 27 (.move (.t 32)), [32])])
 (.cond (.t 27)
 (.seq (.regionK false [
 (.o 33 (.build [.slice true [], .slice true []] []), [1, 27]),
 (.u (.store 2 (.t 6) (.t 33)), [33]),
 (.o 7 (.move (.i 8)), [])])
 .ret)
 (.seq (.regionK false [
 (.o 35 (.fieldAddr 0 (.t 3)), [27]),
 (.o 36 (.load none (.t 35)), [35]),
 (.o 37 (.len (.t 36)), [36]),
 (.o 38 (.bin .gtr (.t 37) (.i 0)), [37]),
 (.o 39 (.move (.t 38)), [38]),
 (⟨some 40, .fieldAddr 0 (.t 3), some (39, true), []⟩, []),
 (⟨some 41, .load none (.t 40), some (39, true), []⟩, [40]),
 (⟨some 42, .fieldAddr 0 (.t 3), some (39, true), []⟩, []),
 (⟨some 43, .load none (.t 42), some (39, true), []⟩, [42]),
 (⟨some 44, .len (.t 43), some (39, true), []⟩, [43]),
 (⟨some 45, .bin .sub (.t 44) (.i 1), some (39, true), []⟩, [44]),
 (⟨some 46, .indexAddr 2 (.t 41) (.t 45), some (39, true), []⟩, [41, 45]),
 (⟨some 47, .fieldAddr 0 (.t 46), some (39, true), []⟩, [46]),
 (⟨some 48, .load none (.t 47), some (39, true), []⟩, [47]),
 (⟨some 49, .move (.t 1), some (39, true), []⟩, []),
 (⟨some 50, .bin .gtr (.t 48) (.t 49), some (39, true), []⟩, [48, 49]),
 (.o 51 (.pick (.t 39) (.t 50) (.b false)), [39, 50]),
 (.o 34 (.move (.t 51)), [51])])
 (.cond (.t 34)
 (.seq (.regionK false [
 (.o 52 (.build [.slice true [], .slice true []] []), [1, 34]),
 (.u (.store 2 (.t 6) (.t 52)), [52]),
 (.o 7 (.move (.i 16)), [])])
 .ret)
 .skip)))))))
 (.seq (.regionK false [
 (.o 53 (.load (some 2) (.t 3)), [34]),
 (.o 54 (.call true 35 [.t 53]), [53]),
 (.o 8 (.alloc [.slice true [], .slice true []]), []),
 (.u (.store 2 (.t 8) (.t 54)), [54])])
 (.seq (.regionK false [
 (.o 55 (.fieldAddr 0 (.t 8)), []),
 (.o 56 (.load none (.t 55)), [55]),
 (.o 57 (.move (.t 1)), []),
 (.o 58 (.fieldAddr 0 (.t 5)), []),
 (.o 59 (.load none (.t 58)), [58]),
 (.o 60 (.build [.int .i64 0, .bool false] [(0, 1, .t 57), (1, 1, .t 59)]), [57, 59]),
 (.o 61 (.buildSlice [.int .i64 0, .bool false] 1 [(0, .t 60)]), [60]),
 (.o 62 (.append 16 2 (.t 56) (.t 61)), [56, 61]),
 (.o 63 (.fieldAddr 0 (.t 8)), []),
 (.u (.store 1 (.t 63) (.t 62)), [62, 63])])
 (.seq (.seq (.regionK false [
 (.o 64 (.fieldAddr 2 (.t 5)), []),
 (.o 65 (.load none (.t 64)), [64]),
 (.o 66 (.len (.t 65)), []),
 (.o 67 (.move (.i 0)), [])])
 (.block 1
 (.loop
 (.ghost (.free [3]) a14_l1))))
 (.seq (.seq (.regionK false [
 (.o 76 (.fieldAddr 1 (.t 5)), []),
 (.o 77 (.load none (.t 76)), [76]),
 (.o 78 (.len (.t 77)), []),
 (.o 79 (.move (.i 0)), [])])
 (.block 3
 (.loop
 a14_l0)))
 (.seq (.regionK false [
 (.o 93 (.load (some 2) (.t 8)), []),
 (.u (.store 2 (.t 6) (.t 93)), [93]),
 (.o 7 (.move (.i 0)), [])])
 .ret)))))))⟩

/-- clockwork/clockworkref23.Request -/
@[irreducible] def a15_l0 : ACode :=
  (.seq (.seq (.regionK false [
 (.o 59 (.move (.t 10)), []),
 (.o 60 (.move (.t 9)), []),
 (.o 61 (.len (.t 60)), [60]),
 (.o 62 (.bin .lss (.t 59) (.t 61)), [59, 61])])
 (.cond (.t 62)
 .skip
 (.ghost (.forget [1, 9, 10, 62]) (.ghost (.free [5]) (.ghost .lower (.exit 0))))))
 (.seq (.block 1
 (.regionK true [
 (.o 65 (.fieldAddr 1 (.t 8)), [62]),
 (⟨some 66, .load none (.t 65), none, [0]⟩, [65]),
 (.o 67 (.move (.t 9)), []),
 (.o 68 (.move (.t 10)), []),
 (⟨some 69, .indexAddr 1 (.t 67) (.t 68), none, [2, 3]⟩, [67, 68]),
 (⟨some 70, .load none (.t 69), none, [2, 3, 4]⟩, [69]),
 (.o 71 (.move (.t 1)), []),
 (.o 72 (.fieldAddr 2 (.t 5)), []),
 (⟨some 73, .load none (.t 72), none, [7]⟩, [72]),
 (.o 74 (.move (.t 9)), []),
 (.o 75 (.move (.t 10)), []),
 (⟨some 76, .indexAddr 1 (.t 74) (.t 75), none, [9, 10]⟩, [74, 75]),
 (⟨some 77, .load none (.t 76), none, [9, 10, 11]⟩, [76]),
 (⟨some 78, .call false 43 [.t 73, .t 77], none, [7, 8, 9, 10, 11, 12]⟩, [73, 77]),
 (⟨some 79, .call false 42 [.t 66, .t 70, .t 71, .t 78], none, [0, 1, 2, 3, 4, 5, 6, 7, 8, 9, 10, 11, 12, 13]⟩, [66, 70, 71, 78]),
 (⟨some 80, .fieldAddr 1 (.t 8), none, [0, 1, 2, 3, 4, 5, 6, 7, 8, 9, 10, 11, 12, 13, 14]⟩, []),
 (⟨none, .store 1 (.t 80) (.t 79), none, [0, 1, 2, 3, 4, 5, 6, 7, 8, 9, 10, 11, 12, 13, 14, 15]⟩, [79, 80])]))
 (.regionK false [
 (.o 63 (.move (.t 10)), []),
 (.o 64 (.bin .add (.t 63) (.i 1)), [63]),
 (.o 10 (.move (.t 64)), [64])])))

def a15 : AFunc := ⟨82, 3, [.cell 6 2, .tmp 7],
  (.seq (.regionK false [
 (.o 3 (.box (.t 0)), [0]),
 (.o 5 (.box (.t 2)), [2]),
 (.o 6 (.alloc [.slice true [], .slice true []]), []),
 (.o 7 (.move (.i 0)), [7])])
 (.seq (.seq (.regionK false [
 (.o 11 (.load (some 2) (.t 3)), []),
 (.o 12 (.call false 17 [.t 11]), [11]),
 (.o 13 (.un .not (.t 12)), [12]),
 (.o 14 (.move (.t 13)), [13]),
 (⟨some 15, .load (some 3) (.t 5), some (14, false), []⟩, []),
 (⟨some 16, .call false 38 [.t 15], some (14, false), []⟩, [15]),
 (⟨some 17, .un .not (.t 16), some (14, false), []⟩, [16]),
 (.o 18 (.pick (.t 14) (.b true) (.t 17)), [14, 17]),
 (.o 19 (.move (.t 18)), [18]),
 (⟨some 20, .move (.t 1), some (19, false), []⟩, []),
 (⟨some 21, .bin .lss (.t 20) (.i 0), some (19, false), []⟩, [20]),
 (.o 22 (.pick (.t 19) (.b true) (.t 21)), [19, 21])])
 (.cond (.t 22)
 (.seq (.regionK false [
 (.o 23 (.build [.slice true [], .slice true []] []), [1, 22]),
 (.u (.store 2 (.t 6) (.t 23)), [23]),
 (.o 7 (.move (.i 1)), [])])
 .ret)
 .skip))
 (.seq (.seq (.regionK false [
 (.o 24 (.fieldAddr 0 (.t 3)), [22]),
 (.o 25 (.load none (.t 24)), [24]),
 (.o 26 (.move (.t 1)), []),
 (.o 27 (.call false 39 [.t 25, .t 26]), [25, 26]),
 (.o 28 (.bin .geq (.t 27) (.i 0)), [27])])
 (.cond (.t 28)
 (.seq (.regionK false [
 (.o 29 (.build [.slice true [], .slice true []] []), [1, 28]),
 (.u (.store 2 (.t 6) (.t 29)), [29]),
 (.o 7 (.move (.i 8)), [])])
 .ret)
 .skip))
 (.seq (.seq (.regionK false [
 (.o 30 (.fieldAddr 0 (.t 3)), [28]),
 (.o 31 (.load none (.t 30)), [30]),
 (.o 32 (.len (.t 31)), [31]),
 (.o 33 (.bin .gtr (.t 32) (.i 0)), [32]),
 (.o 34 (.move (.t 33)), [33]),
 (⟨some 35, .fieldAddr 0 (.t 3), some (34, true), []⟩, []),
 (⟨some 36, .load none (.t 35), some (34, true), []⟩, [35]),
 (⟨some 37, .fieldAddr 0 (.t 3), some (34, true), []⟩, []),
 (⟨some 38, .load none (.t 37), some (34, true), []⟩, [37]),
 (⟨some 39, .len (.t 38), some (34, true), []⟩, [38]),
 (⟨some 40, .bin .sub (.t 39) (.i 1), some (34, true), []⟩, [39]),
 (⟨some 41, .indexAddr 2 (.t 36) (.t 40), some (34, true), []⟩, [36, 40]),
 (⟨some 42, .fieldAddr 0 (.t 41), some (34, true), []⟩, [41]),
 (⟨some 43, .load none (.t 42), some (34, true), []⟩, [42]),
 (⟨some 44, .move (.t 1), some (34, true), []⟩, []),
 (⟨some 45, .bin .gtr (.t 43) (.t 44), some (34, true), []⟩, [43, 44]),
 (.o 46 (.pick (.t 34) (.t 45) (.b false)), [34, 45])])
 (.cond (.t 46)
 (.seq (.regionK false [
 (.o 47 (.build [.slice true [], .slice true []] []), [1, 46]),
 (.u (.store 2 (.t 6) (.t 47)), [47]),
 (.o 7 (.move (.i 16)), [])])
 .ret)
 .skip))
 (.seq (.regionK true [
 (.o 48 (.fieldAddr 0 (.t 3)), [46]),
 (⟨some 49, .load none (.t 48), none, [0]⟩, [48]),
 (.o 50 (.move (.t 1)), []),
 (.o 51 (.fieldAddr 0 (.t 5)), []),
 (⟨some 52, .load none (.t 51), none, [3]⟩, [51]),
 (⟨some 53, .call false 40 [.t 49, .t 50, .t 52], none, [0, 1, 2, 3, 4]⟩, [49, 50, 52]),
 (.o 54 (.fieldAddr 1 (.t 3)), []),
 (⟨some 55, .load none (.t 54), none, [6]⟩, [54]),
 (⟨some 56, .build [.slice true [], .slice true []] [(0, 1, .t 53), (1, 1, .t 55)], none, [0, 1, 2, 3, 4, 5, 6, 7]⟩, [53, 55]),
 (.o 8 (.alloc [.slice true [], .slice true []]), []),
 (⟨none, .store 2 (.t 8) (.t 56), none, [0, 1, 2, 3, 4, 5, 6, 7, 8, 9]⟩, [56])])
 (.seq (.regionK false [
 (.o 57 (.load (some 3) (.t 5)), []),
 (.o 58 (.call false 41 [.t 57]), [57]),
 (.o 9 (.move (.t 58)), [58])])
 (.seq (.seq (.regionK false [
 (.o 10 (.move (.i 0)), [])])
 (.block 0
 (.loop
 (.ghost (.free [3]) (.ghost .lower a15_l0)))))
 (.seq (.regionK false [
 (.o 81 (.load (some 2) (.t 8)), []),
 (.u (.store 2 (.t 6) (.t 81)), [81]),
 (.o 7 (.move (.i 0)), [])])
 .ret))))))))⟩

/-- clockwork/locktable.Valid -/
@[irreducible] def a16_l0 : ACode :=
  (.seq (.regionK false [
 (.o 56 (.bin .lss (.t 55) (.t 54)), [])])
 (.seq (.cond (.t 56)
 .skip
 (.ghost (.forget [53, 54, 55, 56]) (.ghost .lower (.exit 2))))
 (.seq (.block 3
 (.seq (.regionK false [
 (.o 57 (.indexAddr 2 (.t 53) (.t 55)), [56]),
 (.o 58 (.load (some 2) (.t 57)), [57]),
 (.o 6 (.alloc [.int .i64 0, .bool false]), []),
 (.u (.store 2 (.t 6) (.t 58)), [58])])
 (.seq (.regionK false [
 (.o 59 (.fieldAddr 0 (.t 1)), []),
 (.o 60 (.load none (.t 59)), [59]),
 (.o 61 (.fieldAddr 0 (.t 6)), []),
 (.o 62 (.load none (.t 61)), [61]),
 (.o 63 (.call false 34 [.t 60, .t 62]), [60, 62]),
 (.o 7 (.move (.t 63)), [63])])
 (.seq (.regionK false [
 (.o 64 (.move (.t 7)), []),
 (.o 65 (.bin .lss (.t 64) (.i 0)), [64]),
 (.o 66 (.move (.t 65)), [65]),
 (⟨some 67, .fieldAddr 0 (.t 1), some (66, false), []⟩, []),
 (⟨some 68, .load none (.t 67), some (66, false), []⟩, [67]),
 (⟨some 69, .move (.t 7), some (66, false), []⟩, [7]),
 (⟨some 70, .indexAddr 2 (.t 68) (.t 69), some (66, false), []⟩, [68, 69]),
 (⟨some 71, .fieldAddr 1 (.t 70), some (66, false), []⟩, [70]),
 (⟨some 72, .load none (.t 71), some (66, false), []⟩, [71]),
 (.o 73 (.pick (.t 66) (.b true) (.t 72)), [66, 72])])
 (.cond (.t 73)
 (.seq (.regionK false [
 (.o 2 (.move (.b false)), [13, 14, 15, 53, 54, 55, 73])])
 .ret)
 .skip)))))
 (.regionK false [
 (.o 74 (.bin .add (.t 55) (.i 1)), [73]),
 (.o 55 (.move (.t 74)), [74])]))))

@[irreducible] def a16_l1 : ACode :=
  (.seq (.regionK false [
 (.o 16 (.bin .lss (.t 15) (.t 14)), [])])
 (.seq (.cond (.t 16)
 .skip
 (.ghost (.forget [13, 14, 15, 16]) (.ghost (.free [1]) (.ghost .lower (.exit 0)))))
 (.seq (.block 1
 (.seq (.regionK false [
 (.o 17 (.move (.t 15)), [16]),
 (.o 18 (.indexAddr 2 (.t 13) (.t 15)), []),
 (.o 19 (.load (some 2) (.t 18)), [18]),
 (.o 4 (.alloc [.str ⟨#[]⟩, .slice true []]), []),
 (.o 3 (.move (.t 17)), [17]),
 (.u (.store 2 (.t 4) (.t 19)), [19])])
 (.seq (.seq (.regionK true [
 (.o 20 (.fieldAddr 0 (.t 4)), []),
 (⟨some 21, .load none (.t 20), none, [0]⟩, [20]),
 (⟨some 22, .call false 45 [.t 21], none, [0, 1]⟩, [21]),
 (⟨some 23, .un .not (.t 22), none, [0, 1, 2]⟩, [22]),
 (⟨some 24, .move (.t 23), none, [0, 1, 2, 3]⟩, [23]),
 (⟨some 25, .move (.t 3), some (24, false), [0, 1, 2, 3, 4]⟩, []),
 (⟨some 26, .bin .gtr (.t 25) (.i 0), some (24, false), [0, 1, 2, 3, 4, 5]⟩, [25]),
 (⟨some 27, .move (.t 26), some (24, false), [0, 1, 2, 3, 4, 5, 6]⟩, [26]),
 (⟨some 28, .fieldAddr 0 (.t 4), some (27, true), [0, 1, 2, 3, 4, 5, 6, 7]⟩, []),
 (⟨some 29, .load none (.t 28), some (27, true), [0, 1, 2, 3, 4, 5, 6, 7, 8]⟩, [28]),
 (⟨some 30, .fieldAddr 1 (.t 1), some (27, true), [0, 1, 2, 3, 4, 5, 6, 7]⟩, []),
 (⟨some 31, .load none (.t 30), some (27, true), [0, 1, 2, 3, 4, 5, 6, 7, 10]⟩, [30]),
 (⟨some 32, .move (.t 3), some (27, true), [0, 1, 2, 3, 4, 5, 6, 7]⟩, [3]),
 (⟨some 33, .bin .sub (.t 32) (.i 1), some (27, true), [0, 1, 2, 3, 4, 5, 6, 7, 12]⟩, [32]),
 (⟨some 34, .indexAddr 2 (.t 31) (.t 33), some (27, true), [0, 1, 2, 3, 4, 5, 6, 7, 10, 11, 12, 13]⟩, [31, 33]),
 (⟨some 35, .fieldAddr 0 (.t 34), some (27, true), [0, 1, 2, 3, 4, 5, 6, 7, 10, 11, 12, 13, 14]⟩, [34]),
 (⟨some 36, .load none (.t 35), some (27, true), [0, 1, 2, 3, 4, 5, 6, 7, 10, 11, 12, 13, 14, 15]⟩, [35]),
 (⟨some 37, .bin .leq (.t 29) (.t 36), some (27, true), [0, 1, 2, 3, 4, 5, 6, 7, 8, 9, 10, 11, 12, 13, 14, 15, 16]⟩, [29, 36]),
 (⟨some 38, .pick (.t 27) (.t 37) (.b false), some (24, false), [0, 1, 2, 3, 4, 5, 6, 7, 8, 9, 10, 11, 12, 13, 14, 15, 16, 17]⟩, [27, 37]),
 (⟨some 39, .pick (.t 24) (.b true) (.t 38), none, [0, 1, 2, 3, 4, 5, 6, 7, 8, 9, 10, 11, 12, 13, 14, 15, 16, 17, 18]⟩, [24, 38]),
 (⟨some 40, .move (.t 39), none, [0, 1, 2, 3, 4, 5, 6, 7, 8, 9, 10, 11, 12, 13, 14, 15, 16, 17, 18, 19]⟩, [39]),
 (⟨some 41, .fieldAddr 1 (.t 4), some (40, false), [0, 1, 2, 3, 4, 5, 6, 7, 8, 9, 10, 11, 12, 13, 14, 15, 16, 17, 18, 19, 20]⟩, []),
 (⟨some 42, .load none (.t 41), some (40, false), [0, 1, 2, 3, 4, 5, 6, 7, 8, 9, 10, 11, 12, 13, 14, 15, 16, 17, 18, 19, 20, 21]⟩, [41]),
 (⟨some 43, .len (.t 42), some (40, false), [0, 1, 2, 3, 4, 5, 6, 7, 8, 9, 10, 11, 12, 13, 14, 15, 16, 17, 18, 19, 20, 21, 22]⟩, [42]),
 (⟨some 44, .bin .eql (.t 43) (.i 0), some (40, false), [0, 1, 2, 3, 4, 5, 6, 7, 8, 9, 10, 11, 12, 13, 14, 15, 16, 17, 18, 19, 20, 21, 22, 23]⟩, [43]),
 (⟨some 45, .pick (.t 40) (.b true) (.t 44), none, [0, 1, 2, 3, 4, 5, 6, 7, 8, 9, 10, 11, 12, 13, 14, 15, 16, 17, 18, 19, 20, 21, 22, 23, 24]⟩, [40, 44]),
 (⟨some 46, .move (.t 45), none, [0, 1, 2, 3, 4, 5, 6, 7, 8, 9, 10, 11, 12, 13, 14, 15, 16, 17, 18, 19, 20, 21, 22, 23, 24, 25]⟩, [45]),
 (⟨some 47, .fieldAddr 1 (.t 4), some (46, false), [0, 1, 2, 3, 4, 5, 6, 7, 8, 9, 10, 11, 12, 13, 14, 15, 16, 17, 18, 19, 20, 21, 22, 23, 24, 25, 26]⟩, []),
 (⟨some 48, .load none (.t 47), some (46, false), [0, 1, 2, 3, 4, 5, 6, 7, 8, 9, 10, 11, 12, 13, 14, 15, 16, 17, 18, 19, 20, 21, 22, 23, 24, 25, 26, 27]⟩, [47]),
 (⟨some 49, .call false 44 [.t 48], some (46, false), [0, 1, 2, 3, 4, 5, 6, 7, 8, 9, 10, 11, 12, 13, 14, 15, 16, 17, 18, 19, 20, 21, 22, 23, 24, 25, 26, 27, 28]⟩, [48]),
 (⟨some 50, .un .not (.t 49), some (46, false), [0, 1, 2, 3, 4, 5, 6, 7, 8, 9, 10, 11, 12, 13, 14, 15, 16, 17, 18, 19, 20, 21, 22, 23, 24, 25, 26, 27, 28, 29]⟩, [49]),
 (⟨some 51, .pick (.t 46) (.b true) (.t 50), none, [0, 1, 2, 3, 4, 5, 6, 7, 8, 9, 10, 11, 12, 13, 14, 15, 16, 17, 18, 19, 20, 21, 22, 23, 24, 25, 26, 27, 28, 29, 30]⟩, [46, 50])])
 (.cond (.t 51)
 (.seq (.regionK false [
 (.o 2 (.move (.b false)), [13, 14, 15, 51])])
 .ret)
 .skip))
 (.seq (.regionK false [
 (.o 52 (.fieldAddr 1 (.t 4)), [51]),
 (.o 53 (.load none (.t 52)), [52]),
 (.o 54 (.len (.t 53)), []),
 (.o 55 (.move (.i 0)), [])])
 (.block 2
 (.loop
 (.ghost (.free [4, 6]) (.ghost .lower a16_l0))))))))
 (.regionK false [
 (.o 75 (.bin .add (.t 15) (.i 1)), []),
 (.o 15 (.move (.t 75)), [75])]))))

def a16 : AFunc := ⟨76, 1, [.tmp 2],
  (.seq (.regionK false [
 (.o 1 (.box (.t 0)), [0]),
 (.o 2 (.move (.b false)), [2])])
 (.seq (.seq (.regionK false [
 (.o 8 (.fieldAddr 0 (.t 1)), []),
 (.o 9 (.load none (.t 8)), [8]),
 (.o 10 (.call false 44 [.t 9]), [9]),
 (.o 11 (.un .not (.t 10)), [10])])
 (.cond (.t 11)
 (.seq (.regionK false [
 (.o 2 (.move (.b false)), [11])])
 .ret)
 .skip))
 (.seq (.seq (.regionK false [
 (.o 12 (.fieldAddr 1 (.t 1)), [11]),
 (.o 13 (.load none (.t 12)), [12]),
 (.o 14 (.len (.t 13)), []),
 (.o 15 (.move (.i 0)), [])])
 (.block 0
 (.loop
 (.ghost .lower a16_l1))))
 (.seq (.regionK false [
 (.o 2 (.move (.b true)), [])])
 .ret))))⟩

/-- clockwork/clockworkref23.Valid -/
@[irreducible] def a17_l0 : ACode :=
  (.seq (.seq (.regionK false [
 (.o 55 (.move (.t 5)), []),
 (.o 56 (.fieldAddr 1 (.t 4)), []),
 (.o 57 (.load none (.t 56)), [56]),
 (.o 58 (.len (.t 57)), [57]),
 (.o 59 (.bin .lss (.t 55) (.t 58)), [55, 58])])
 (.cond (.t 59)
 .skip
 (.ghost (.forget [5, 59]) (.ghost (.free [4]) (.ghost .lower (.exit 2))))))
 (.seq (.block 3
 (.seq (.regionK true [
 (.o 62 (.fieldAddr 0 (.t 1)), [59]),
 (⟨some 63, .load none (.t 62), none, [0]⟩, [62]),
 (.o 64 (.fieldAddr 1 (.t 4)), []),
 (⟨some 65, .load none (.t 64), none, [2]⟩, [64]),
 (.o 66 (.move (.t 5)), []),
 (⟨some 67, .indexAddr 2 (.t 65) (.t 66), none, [2, 3, 4]⟩, [65, 66]),
 (⟨some 68, .fieldAddr 0 (.t 67), none, [2, 3, 4, 5]⟩, [67]),
 (⟨some 69, .load none (.t 68), none, [2, 3, 4, 5, 6]⟩, [68]),
 (⟨some 70, .call false 39 [.t 63, .t 69], none, [0, 1, 2, 3, 4, 5, 6, 7]⟩, [63, 69]),
 (⟨some 6, .move (.t 70), none, [0, 1, 2, 3, 4, 5, 6, 7, 8]⟩, [70])])
 (.seq (.regionK false [
 (.o 71 (.move (.t 6)), []),
 (.o 72 (.bin .lss (.t 71) (.i 0)), [71]),
 (.o 73 (.move (.t 72)), [72]),
 (⟨some 74, .fieldAddr 0 (.t 1), some (73, false), []⟩, []),
 (⟨some 75, .load none (.t 74), some (73, false), []⟩, [74]),
 (⟨some 76, .move (.t 6), some (73, false), []⟩, [6]),
 (⟨some 77, .indexAddr 2 (.t 75) (.t 76), some (73, false), []⟩, [75, 76]),
 (⟨some 78, .fieldAddr 1 (.t 77), some (73, false), []⟩, [77]),
 (⟨some 79, .load none (.t 78), some (73, false), []⟩, [78]),
 (.o 80 (.pick (.t 73) (.b true) (.t 79)), [73, 79])])
 (.cond (.t 80)
 (.seq (.regionK false [
 (.o 2 (.move (.b false)), [3, 5, 80])])
 .ret)
 .skip))))
 (.regionK false [
 (.o 60 (.move (.t 5)), [80]),
 (.o 61 (.bin .add (.t 60) (.i 1)), [60]),
 (.o 5 (.move (.t 61)), [61])])))

@[irreducible] def a17_l1 : ACode :=
  (.seq (.seq (.regionK false [
 (.o 11 (.move (.t 3)), []),
 (.o 12 (.fieldAddr 1 (.t 1)), []),
 (.o 13 (.load none (.t 12)), [12]),
 (.o 14 (.len (.t 13)), [13]),
 (.o 15 (.bin .lss (.t 11) (.t 14)), [11, 14])])
 (.cond (.t 15)
 .skip
 (.ghost (.forget [3, 15]) (.ghost (.free [1]) (.ghost .lower (.exit 0))))))
 (.seq (.block 1
 (.seq (.regionK false [
 (.o 18 (.fieldAddr 1 (.t 1)), [15]),
 (.o 19 (.load none (.t 18)), [18]),
 (.o 20 (.move (.t 3)), []),
 (.o 21 (.indexAddr 2 (.t 19) (.t 20)), [19, 20]),
 (.o 22 (.load (some 2) (.t 21)), [21]),
 (.o 4 (.alloc [.str ⟨#[]⟩, .slice true []]), []),
 (.u (.store 2 (.t 4) (.t 22)), [22])])
 (.seq (.seq (.regionK true [
 (.o 23 (.fieldAddr 0 (.t 4)), []),
 (⟨some 24, .load none (.t 23), none, [0]⟩, [23]),
 (⟨some 25, .call false 47 [.t 24], none, [0, 1]⟩, [24]),
 (⟨some 26, .un .not (.t 25), none, [0, 1, 2]⟩, [25]),
 (⟨some 27, .move (.t 26), none, [0, 1, 2, 3]⟩, [26]),
 (⟨some 28, .move (.t 3), some (27, false), [0, 1, 2, 3, 4]⟩, []),
 (⟨some 29, .bin .gtr (.t 28) (.i 0), some (27, false), [0, 1, 2, 3, 4, 5]⟩, [28]),
 (⟨some 30, .move (.t 29), some (27, false), [0, 1, 2, 3, 4, 5, 6]⟩, [29]),
 (⟨some 31, .fieldAddr 0 (.t 4), some (30, true), [0, 1, 2, 3, 4, 5, 6, 7]⟩, []),
 (⟨some 32, .load none (.t 31), some (30, true), [0, 1, 2, 3, 4, 5, 6, 7, 8]⟩, [31]),
 (⟨some 33, .fieldAddr 1 (.t 1), some (30, true), [0, 1, 2, 3, 4, 5, 6, 7]⟩, []),
 (⟨some 34, .load none (.t 33), some (30, true), [0, 1, 2, 3, 4, 5, 6, 7, 10]⟩, [33]),
 (⟨some 35, .move (.t 3), some (30, true), [0, 1, 2, 3, 4, 5, 6, 7]⟩, []),
 (⟨some 36, .bin .sub (.t 35) (.i 1), some (30, true), [0, 1, 2, 3, 4, 5, 6, 7, 12]⟩, [35]),
 (⟨some 37, .indexAddr 2 (.t 34) (.t 36), some (30, true), [0, 1, 2, 3, 4, 5, 6, 7, 10, 11, 12, 13]⟩, [34, 36]),
 (⟨some 38, .fieldAddr 0 (.t 37), some (30, true), [0, 1, 2, 3, 4, 5, 6, 7, 10, 11, 12, 13, 14]⟩, [37]),
 (⟨some 39, .load none (.t 38), some (30, true), [0, 1, 2, 3, 4, 5, 6, 7, 10, 11, 12, 13, 14, 15]⟩, [38]),
 (⟨some 40, .bin .leq (.t 32) (.t 39), some (30, true), [0, 1, 2, 3, 4, 5, 6, 7, 8, 9, 10, 11, 12, 13, 14, 15, 16]⟩, [32, 39]),
 (⟨some 41, .pick (.t 30) (.t 40) (.b false), some (27, false), [0, 1, 2, 3, 4, 5, 6, 7, 8, 9, 10, 11, 12, 13, 14, 15, 16, 17]⟩, [30, 40]),
 (⟨some 42, .pick (.t 27) (.b true) (.t 41), none, [0, 1, 2, 3, 4, 5, 6, 7, 8, 9, 10, 11, 12, 13, 14, 15, 16, 17, 18]⟩, [27, 41]),
 (⟨some 43, .move (.t 42), none, [0, 1, 2, 3, 4, 5, 6, 7, 8, 9, 10, 11, 12, 13, 14, 15, 16, 17, 18, 19]⟩, [42]),
 (⟨some 44, .fieldAddr 1 (.t 4), some (43, false), [0, 1, 2, 3, 4, 5, 6, 7, 8, 9, 10, 11, 12, 13, 14, 15, 16, 17, 18, 19, 20]⟩, []),
 (⟨some 45, .load none (.t 44), some (43, false), [0, 1, 2, 3, 4, 5, 6, 7, 8, 9, 10, 11, 12, 13, 14, 15, 16, 17, 18, 19, 20, 21]⟩, [44]),
 (⟨some 46, .len (.t 45), some (43, false), [0, 1, 2, 3, 4, 5, 6, 7, 8, 9, 10, 11, 12, 13, 14, 15, 16, 17, 18, 19, 20, 21, 22]⟩, [45]),
 (⟨some 47, .bin .eql (.t 46) (.i 0), some (43, false), [0, 1, 2, 3, 4, 5, 6, 7, 8, 9, 10, 11, 12, 13, 14, 15, 16, 17, 18, 19, 20, 21, 22, 23]⟩, [46]),
 (⟨some 48, .pick (.t 43) (.b true) (.t 47), none, [0, 1, 2, 3, 4, 5, 6, 7, 8, 9, 10, 11, 12, 13, 14, 15, 16, 17, 18, 19, 20, 21, 22, 23, 24]⟩, [43, 47]),
 (⟨some 49, .move (.t 48), none, [0, 1, 2, 3, 4, 5, 6, 7, 8, 9, 10, 11, 12, 13, 14, 15, 16, 17, 18, 19, 20, 21, 22, 23, 24, 25]⟩, [48]),
 (⟨some 50, .fieldAddr 1 (.t 4), some (49, false), [0, 1, 2, 3, 4, 5, 6, 7, 8, 9, 10, 11, 12, 13, 14, 15, 16, 17, 18, 19, 20, 21, 22, 23, 24, 25, 26]⟩, []),
 (⟨some 51, .load none (.t 50), some (49, false), [0, 1, 2, 3, 4, 5, 6, 7, 8, 9, 10, 11, 12, 13, 14, 15, 16, 17, 18, 19, 20, 21, 22, 23, 24, 25, 26, 27]⟩, [50]),
 (⟨some 52, .call false 46 [.t 51], some (49, false), [0, 1, 2, 3, 4, 5, 6, 7, 8, 9, 10, 11, 12, 13, 14, 15, 16, 17, 18, 19, 20, 21, 22, 23, 24, 25, 26, 27, 28]⟩, [51]),
 (⟨some 53, .un .not (.t 52), some (49, false), [0, 1, 2, 3, 4, 5, 6, 7, 8, 9, 10, 11, 12, 13, 14, 15, 16, 17, 18, 19, 20, 21, 22, 23, 24, 25, 26, 27, 28, 29]⟩, [52]),
 (⟨some 54, .pick (.t 49) (.b true) (.t 53), none, [0, 1, 2, 3, 4, 5, 6, 7, 8, 9, 10, 11, 12, 13, 14, 15, 16, 17, 18, 19, 20, 21, 22, 23, 24, 25, 26, 27, 28, 29, 30]⟩, [49, 53])])
 (.cond (.t 54)
 (.seq (.regionK false [
 (.o 2 (.move (.b false)), [3, 54])])
 .ret)
 .skip))
 (.seq (.regionK false [
 (.o 5 (.move (.i 0)), [54])])
 (.block 2
 (.loop
 (.ghost .lower a17_l0)))))))
 (.regionK false [
 (.o 16 (.move (.t 3)), []),
 (.o 17 (.bin .add (.t 16) (.i 1)), [16]),
 (.o 3 (.move (.t 17)), [17])])))

def a17 : AFunc := ⟨81, 1, [.tmp 2],
  (.seq (.regionK false [
 (.o 1 (.box (.t 0)), [0]),
 (.o 2 (.move (.b false)), [2])])
 (.seq (.seq (.regionK false [
 (.o 7 (.fieldAddr 0 (.t 1)), []),
 (.o 8 (.load none (.t 7)), [7]),
 (.o 9 (.call false 46 [.t 8]), [8]),
 (.o 10 (.un .not (.t 9)), [9])])
 (.cond (.t 10)
 (.seq (.regionK false [
 (.o 2 (.move (.b false)), [10])])
 .ret)
 .skip))
 (.seq (.seq (.regionK false [
 (.o 3 (.move (.i 0)), [10])])
 (.block 0
 (.loop
 (.ghost .lower a17_l1))))
 (.seq (.regionK false [
 (.o 2 (.move (.b true)), [])])
 .ret))))⟩

/-- clockwork/clockworkref23.Same -/
@[irreducible] def a18_l0 : ACode :=
  (.seq (.seq (.regionK false [
 (.o 21 (.move (.t 5)), []),
 (.o 22 (.fieldAddr 1 (.t 2)), []),
 (.o 23 (.load none (.t 22)), [22]),
 (.o 24 (.len (.t 23)), [23]),
 (.o 25 (.bin .lss (.t 21) (.t 24)), [21, 24])])
 (.cond (.t 25)
 .skip
 (.ghost (.forget [5, 25]) (.ghost (.free [2, 3]) (.ghost .lower (.exit 0))))))
 (.seq (.block 1
 (.seq (.regionK true [
 (.o 28 (.fieldAddr 1 (.t 2)), [25]),
 (⟨some 29, .load none (.t 28), none, [0]⟩, [28]),
 (.o 30 (.move (.t 5)), []),
 (⟨some 31, .indexAddr 2 (.t 29) (.t 30), none, [0, 1, 2]⟩, [29, 30]),
 (⟨some 32, .fieldAddr 0 (.t 31), none, [0, 1, 2, 3]⟩, [31]),
 (⟨some 33, .load none (.t 32), none, [0, 1, 2, 3, 4]⟩, [32]),
 (.o 34 (.fieldAddr 1 (.t 3)), []),
 (⟨some 35, .load none (.t 34), none, [6]⟩, [34]),
 (.o 36 (.move (.t 5)), []),
 (⟨some 37, .indexAddr 2 (.t 35) (.t 36), none, [6, 7, 8]⟩, [35, 36]),
 (⟨some 38, .fieldAddr 0 (.t 37), none, [6, 7, 8, 9]⟩, [37]),
 (⟨some 39, .load none (.t 38), none, [6, 7, 8, 9, 10]⟩, [38]),
 (⟨some 40, .bin .neq (.t 33) (.t 39), none, [0, 1, 2, 3, 4, 5, 6, 7, 8, 9, 10, 11]⟩, [33, 39]),
 (⟨some 41, .move (.t 40), none, [0, 1, 2, 3, 4, 5, 6, 7, 8, 9, 10, 11, 12]⟩, [40]),
 (⟨some 42, .fieldAddr 1 (.t 2), some (41, false), [0, 1, 2, 3, 4, 5, 6, 7, 8, 9, 10, 11, 12, 13]⟩, []),
 (⟨some 43, .load none (.t 42), some (41, false), [0, 1, 2, 3, 4, 5, 6, 7, 8, 9, 10, 11, 12, 13, 14]⟩, [42]),
 (⟨some 44, .move (.t 5), some (41, false), [0, 1, 2, 3, 4, 5, 6, 7, 8, 9, 10, 11, 12, 13]⟩, []),
 (⟨some 45, .indexAddr 2 (.t 43) (.t 44), some (41, false), [0, 1, 2, 3, 4, 5, 6, 7, 8, 9, 10, 11, 12, 13, 14, 15, 16]⟩, [43, 44]),
 (⟨some 46, .fieldAddr 1 (.t 45), some (41, false), [0, 1, 2, 3, 4, 5, 6, 7, 8, 9, 10, 11, 12, 13, 14, 15, 16, 17]⟩, [45]),
 (⟨some 47, .load none (.t 46), some (41, false), [0, 1, 2, 3, 4, 5, 6, 7, 8, 9, 10, 11, 12, 13, 14, 15, 16, 17, 18]⟩, [46]),
 (⟨some 48, .fieldAddr 1 (.t 3), some (41, false), [0, 1, 2, 3, 4, 5, 6, 7, 8, 9, 10, 11, 12, 13]⟩, []),
 (⟨some 49, .load none (.t 48), some (41, false), [0, 1, 2, 3, 4, 5, 6, 7, 8, 9, 10, 11, 12, 13, 20]⟩, [48]),
 (⟨some 50, .move (.t 5), some (41, false), [0, 1, 2, 3, 4, 5, 6, 7, 8, 9, 10, 11, 12, 13]⟩, []),
 (⟨some 51, .indexAddr 2 (.t 49) (.t 50), some (41, false), [0, 1, 2, 3, 4, 5, 6, 7, 8, 9, 10, 11, 12, 13, 20, 21, 22]⟩, [49, 50]),
 (⟨some 52, .fieldAddr 1 (.t 51), some (41, false), [0, 1, 2, 3, 4, 5, 6, 7, 8, 9, 10, 11, 12, 13, 20, 21, 22, 23]⟩, [51]),
 (⟨some 53, .load none (.t 52), some (41, false), [0, 1, 2, 3, 4, 5, 6, 7, 8, 9, 10, 11, 12, 13, 20, 21, 22, 23, 24]⟩, [52]),
 (⟨some 54, .call false 48 [.t 47, .t 53], some (41, false), [0, 1, 2, 3, 4, 5, 6, 7, 8, 9, 10, 11, 12, 13, 14, 15, 16, 17, 18, 19, 20, 21, 22, 23, 24, 25]⟩, [47, 53]),
 (⟨some 55, .un .not (.t 54), some (41, false), [0, 1, 2, 3, 4, 5, 6, 7, 8, 9, 10, 11, 12, 13, 14, 15, 16, 17, 18, 19, 20, 21, 22, 23, 24, 25, 26]⟩, [54]),
 (⟨some 56, .pick (.t 41) (.b true) (.t 55), none, [0, 1, 2, 3, 4, 5, 6, 7, 8, 9, 10, 11, 12, 13, 14, 15, 16, 17, 18, 19, 20, 21, 22, 23, 24, 25, 26, 27]⟩, [41, 55])])
 (.cond (.t 56)
 (.seq (.regionK false [
 (.o 4 (.move (.b false)), [5, 56])])
 .ret)
 .skip)))
 (.regionK false [
 (.o 26 (.move (.t 5)), [56]),
 (.o 27 (.bin .add (.t 26) (.i 1)), [26]),
 (.o 5 (.move (.t 27)), [27])])))

def a18 : AFunc := ⟨57, 2, [.tmp 4],
  (.seq (.regionK false [
 (.o 2 (.box (.t 0)), [0]),
 (.o 3 (.box (.t 1)), [1]),
 (.o 4 (.move (.b false)), [4])])
 (.seq (.seq (.regionK false [
 (.o 6 (.fieldAddr 0 (.t 2)), []),
 (.o 7 (.load none (.t 6)), [6]),
 (.o 8 (.fieldAddr 0 (.t 3)), []),
 (.o 9 (.load none (.t 8)), [8]),
 (.o 10 (.call false 48 [.t 7, .t 9]), [7, 9]),
 (.o 11 (.un .not (.t 10)), [10]),
 (.o 12 (.move (.t 11)), [11]),
 (⟨some 13, .fieldAddr 1 (.t 2), some (12, false), []⟩, []),
 (⟨some 14, .load none (.t 13), some (12, false), []⟩, [13]),
 (⟨some 15, .len (.t 14), some (12, false), []⟩, [14]),
 (⟨some 16, .fieldAddr 1 (.t 3), some (12, false), []⟩, []),
 (⟨some 17, .load none (.t 16), some (12, false), []⟩, [16]),
 (⟨some 18, .len (.t 17), some (12, false), []⟩, [17]),
 (⟨some 19, .bin .neq (.t 15) (.t 18), some (12, false), []⟩, [15, 18]),
 (.o 20 (.pick (.t 12) (.b true) (.t 19)), [12, 19])])
 (.cond (.t 20)
 (.seq (.regionK false [
 (.o 4 (.move (.b false)), [20])])
 .ret)
 .skip))
 (.seq (.seq (.regionK false [
 (.o 5 (.move (.i 0)), [20])])
 (.block 0
 (.loop
 (.ghost .lower a18_l0))))
 (.seq (.regionK false [
 (.o 4 (.move (.b true)), [])])
 .ret))))⟩

/-- clockwork/locktable.Granted -/
def a19 : AFunc := ⟨21, 2, [.tmp 4],
  (.seq (.regionK false [
 (.o 2 (.box (.t 0)), [0]),
 (.o 4 (.move (.b false)), [4])])
 (.seq (.regionK false [
 (.o 5 (.load (some 2) (.t 2)), []),
 (.o 6 (.call false 16 [.t 5]), [5]),
 (.o 7 (.move (.t 6)), [6]),
 (⟨some 8, .fieldAddr 0 (.t 2), some (7, true), []⟩, []),
 (⟨some 9, .load none (.t 8), some (7, true), []⟩, [8]),
 (⟨some 10, .move (.t 1), some (7, true), []⟩, []),
 (⟨some 11, .call false 34 [.t 9, .t 10], some (7, true), []⟩, [9, 10]),
 (⟨some 12, .bin .geq (.t 11) (.i 0), some (7, true), []⟩, [11]),
 (.o 13 (.pick (.t 7) (.t 12) (.b false)), [7, 12]),
 (.o 14 (.move (.t 13)), [13]),
 (⟨some 15, .load (some 2) (.t 2), some (14, true), []⟩, []),
 (⟨some 16, .move (.t 1), some (14, true), []⟩, [1]),
 (⟨some 17, .call false 49 [.t 15, .t 16], some (14, true), []⟩, [15, 16]),
 (⟨some 18, .len (.t 17), some (14, true), []⟩, [17]),
 (⟨some 19, .bin .eql (.t 18) (.i 0), some (14, true), []⟩, [18]),
 (.o 20 (.pick (.t 14) (.t 19) (.b false)), [14, 19]),
 (.o 4 (.move (.t 20)), [20])])
 .ret))⟩

/-- clockwork/clockworkref23.Granted -/
def a20 : AFunc := ⟨21, 2, [.tmp 4],
  (.seq (.regionK false [
 (.o 2 (.box (.t 0)), [0]),
 (.o 4 (.move (.b false)), [4])])
 (.seq (.regionK false [
 (.o 5 (.load (some 2) (.t 2)), []),
 (.o 6 (.call false 17 [.t 5]), [5]),
 (.o 7 (.move (.t 6)), [6]),
 (⟨some 8, .fieldAddr 0 (.t 2), some (7, true), []⟩, []),
 (⟨some 9, .load none (.t 8), some (7, true), []⟩, [8]),
 (⟨some 10, .move (.t 1), some (7, true), []⟩, []),
 (⟨some 11, .call false 39 [.t 9, .t 10], some (7, true), []⟩, [9, 10]),
 (⟨some 12, .bin .geq (.t 11) (.i 0), some (7, true), []⟩, [11]),
 (.o 13 (.pick (.t 7) (.t 12) (.b false)), [7, 12]),
 (.o 14 (.move (.t 13)), [13]),
 (⟨some 15, .load (some 2) (.t 2), some (14, true), []⟩, []),
 (⟨some 16, .move (.t 1), some (14, true), []⟩, [1]),
 (⟨some 17, .call false 25 [.t 15, .t 16], some (14, true), []⟩, [15, 16]),
 (⟨some 18, .len (.t 17), some (14, true), []⟩, [17]),
 (⟨some 19, .bin .eql (.t 18) (.i 0), some (14, true), []⟩, [18]),
 (.o 20 (.pick (.t 14) (.t 19) (.b false)), [14, 19]),
 (.o 4 (.move (.t 20)), [20])])
 .ret))⟩

/-- clockwork/clockworkref23.Ints -/
@[irreducible] def a21_l0 : ACode :=
  (.seq (.seq (.regionK false [
 (.o 11 (.move (.t 5)), []),
 (.o 12 (.move (.t 0)), []),
 (.o 13 (.len (.t 12)), [12]),
 (.o 14 (.bin .lss (.t 11) (.t 13)), [11, 13])])
 (.cond (.t 14)
 .skip
 (.ghost (.forget [0, 1, 5, 14]) (.ghost .lower (.exit 0)))))
 (.seq (.block 1
 (.seq (.regionK true [
 (.o 17 (.move (.t 0)), [14]),
 (.o 18 (.move (.t 5)), []),
 (⟨some 19, .indexAddr 1 (.t 17) (.t 18), none, [0, 1]⟩, [17, 18]),
 (⟨some 20, .load none (.t 19), none, [0, 1, 2]⟩, [19]),
 (.o 21 (.move (.t 1)), []),
 (.o 22 (.move (.t 5)), []),
 (⟨some 23, .indexAddr 1 (.t 21) (.t 22), none, [4, 5]⟩, [21, 22]),
 (⟨some 24, .load none (.t 23), none, [4, 5, 6]⟩, [23]),
 (⟨some 25, .bin .neq (.t 20) (.t 24), none, [0, 1, 2, 3, 4, 5, 6, 7]⟩, [20, 24])])
 (.cond (.t 25)
 (.seq (.regionK false [
 (.o 4 (.move (.b false)), [0, 1, 5, 25])])
 .ret)
 .skip)))
 (.regionK false [
 (.o 15 (.move (.t 5)), [25]),
 (.o 16 (.bin .add (.t 15) (.i 1)), [15]),
 (.o 5 (.move (.t 16)), [16])])))

def a21 : AFunc := ⟨26, 2, [.tmp 4],
  (.seq (.regionK false [
 (.o 4 (.move (.b false)), [4])])
 (.seq (.seq (.regionK false [
 (.o 6 (.move (.t 0)), []),
 (.o 7 (.len (.t 6)), [6]),
 (.o 8 (.move (.t 1)), []),
 (.o 9 (.len (.t 8)), [8]),
 (.o 10 (.bin .neq (.t 7) (.t 9)), [7, 9])])
 (.cond (.t 10)
 (.seq (.regionK false [
 (.o 4 (.move (.b false)), [0, 1, 10])])
 .ret)
 .skip))
 (.seq (.seq (.regionK false [
 (.o 5 (.move (.i 0)), [10])])
 (.block 0
 (.loop
 (.ghost .lower a21_l0))))
 (.seq (.regionK false [
 (.o 4 (.move (.b true)), [])])
 .ret))))⟩

/-- clockwork/locktable.Ready -/
@[irreducible] def a22_l0 : ACode :=
  (.seq (.regionK false [
 (.o 13 (.bin .lss (.t 12) (.t 11)), [])])
 (.seq (.cond (.t 13)
 .skip
 (.ghost (.forget [10, 11, 12, 13]) (.ghost (.free [1]) (.ghost .lower (.exit 0)))))
 (.seq (.block 1
 (.seq (.regionK false [
 (.o 14 (.indexAddr 2 (.t 10) (.t 12)), [13]),
 (.o 15 (.load (some 2) (.t 14)), [14]),
 (.o 5 (.alloc [.int .i64 0, .bool false]), []),
 (.u (.store 2 (.t 5) (.t 15)), [15])])
 (.seq (.regionK false [
 (.o 16 (.load (some 2) (.t 1)), []),
 (.o 17 (.fieldAddr 0 (.t 5)), []),
 (.o 18 (.load none (.t 17)), [17]),
 (.o 19 (.call false 49 [.t 16, .t 18]), [16, 18]),
 (.o 20 (.len (.t 19)), [19]),
 (.o 21 (.bin .eql (.t 20) (.i 0)), [20])])
 (.cond (.t 21)
 (.regionK false [
 (.o 22 (.move (.t 3)), [21]),
 (.o 23 (.fieldAddr 0 (.t 5)), []),
 (.o 24 (.load none (.t 23)), [23]),
 (.o 25 (.buildSlice [.int .i64 0] 1 [(0, .t 24)]), [24]),
 (.o 26 (.append 8 1 (.t 22) (.t 25)), [22, 25]),
 (.o 3 (.move (.t 26)), [26])])
 .skip))))
 (.regionK false [
 (.o 27 (.bin .add (.t 12) (.i 1)), [21]),
 (.o 12 (.move (.t 27)), [27])]))))

def a22 : AFunc := ⟨29, 1, [.tmp 2],
  (.seq (.regionK false [
 (.o 1 (.box (.t 0)), [0]),
 (.o 2 (.move (.c (.p (.slice true [])))), [2])])
 (.seq (.seq (.regionK false [
 (.o 6 (.load (some 2) (.t 1)), []),
 (.o 7 (.call false 16 [.t 6]), [6]),
 (.o 8 (.un .not (.t 7)), [7])])
 (.cond (.t 8)
 (.seq (.regionK false [
 (.o 2 (.move (.c (.p (.slice true [])))), [8])])
 .ret)
 .skip))
 (.seq (.regionK false [
 (.o 3 (.move (.c (.p (.slice true [])))), [8])])
 (.ghost (.own 1 3) (.seq (.seq (.regionK false [
 (.o 9 (.fieldAddr 0 (.t 1)), []),
 (.o 10 (.load none (.t 9)), [9]),
 (.o 11 (.len (.t 10)), []),
 (.o 12 (.move (.i 0)), [])])
 (.block 0
 (.loop
 (.ghost (.free [5]) (.ghost .lower a22_l0)))))
 (.seq (.regionK false [
 (.o 28 (.move (.t 3)), [3]),
 (.o 2 (.move (.t 28)), [28])])
 .ret))))))⟩

/-- clockwork/clockworkref23.Ready -/
@[irreducible] def a23_l0 : ACode :=
  (.seq (.seq (.regionK false [
 (.o 5 (.move (.t 4)), []),
 (.o 6 (.fieldAddr 0 (.t 1)), []),
 (.o 7 (.load none (.t 6)), [6]),
 (.o 8 (.len (.t 7)), [7]),
 (.o 9 (.bin .lss (.t 5) (.t 8)), [5, 8])])
 (.cond (.t 9)
 .skip
 (.ghost (.forget [4, 9]) (.ghost (.free [1]) (.ghost .lower (.exit 0))))))
 (.seq (.block 1
 (.seq (.regionK true [
 (.o 12 (.load (some 2) (.t 1)), [9]),
 (.o 13 (.fieldAddr 0 (.t 1)), []),
 (⟨some 14, .load none (.t 13), none, [1]⟩, [13]),
 (.o 15 (.move (.t 4)), []),
 (⟨some 16, .indexAddr 2 (.t 14) (.t 15), none, [1, 2, 3]⟩, [14, 15]),
 (⟨some 17, .fieldAddr 0 (.t 16), none, [1, 2, 3, 4]⟩, [16]),
 (⟨some 18, .load none (.t 17), none, [1, 2, 3, 4, 5]⟩, [17]),
 (⟨some 19, .call false 20 [.t 12, .t 18], none, [0, 1, 2, 3, 4, 5, 6]⟩, [12, 18])])
 (.cond (.t 19)
 (.regionK false [
 (.o 20 (.move (.t 3)), [19]),
 (.o 21 (.fieldAddr 0 (.t 1)), []),
 (.o 22 (.load none (.t 21)), [21]),
 (.o 23 (.move (.t 4)), []),
 (.o 24 (.indexAddr 2 (.t 22) (.t 23)), [22, 23]),
 (.o 25 (.fieldAddr 0 (.t 24)), [24]),
 (.o 26 (.load none (.t 25)), [25]),
 (.o 27 (.buildSlice [.int .i64 0] 1 [(0, .t 26)]), [26]),
 (.o 28 (.append 8 1 (.t 20) (.t 27)), [20, 27]),
 (.o 3 (.move (.t 28)), [28])])
 .skip)))
 (.regionK false [
 (.o 10 (.move (.t 4)), [19]),
 (.o 11 (.bin .add (.t 10) (.i 1)), [10]),
 (.o 4 (.move (.t 11)), [11])])))

def a23 : AFunc := ⟨30, 1, [.tmp 2],
  (.seq (.regionK false [
 (.o 1 (.box (.t 0)), [0]),
 (.o 2 (.move (.c (.p (.slice true [])))), [2])])
 (.seq (.regionK false [
 (.o 3 (.move (.c (.p (.slice true [])))), [])])
 (.ghost (.own 1 3) (.seq (.seq (.regionK false [
 (.o 4 (.move (.i 0)), [])])
 (.block 0
 (.loop
 (.ghost .lower a23_l0))))
 (.seq (.regionK false [
 (.o 29 (.move (.t 3)), [3]),
 (.o 2 (.move (.t 29)), [29])])
 .ret)))))⟩

/-- clockwork/locktable.Waits -/
def a24 : AFunc := ⟨11, 2, [.tmp 4],
  (.seq (.regionK false [
 (.o 2 (.box (.t 0)), [0]),
 (.o 4 (.move (.c (.p (.slice true [])))), [4])])
 (.seq (.seq (.regionK false [
 (.o 5 (.load (some 2) (.t 2)), []),
 (.o 6 (.call false 16 [.t 5]), [5]),
 (.o 7 (.un .not (.t 6)), [6])])
 (.cond (.t 7)
 (.seq (.regionK false [
 (.o 4 (.move (.c (.p (.slice true [])))), [1, 7])])
 .ret)
 .skip))
 (.seq (.regionK false [
 (.o 8 (.load (some 2) (.t 2)), [7]),
 (.o 9 (.move (.t 1)), [1]),
 (.o 10 (.call false 49 [.t 8, .t 9]), [8, 9]),
 (.o 4 (.move (.t 10)), [10])])
 .ret)))⟩

/-- clockwork/clockworkref23.Waits -/
@[irreducible] def a25_l0 : ACode :=
  (.seq (.seq (.regionK false [
 (.o 33 (.move (.t 8)), []),
 (.o 34 (.fieldAddr 0 (.t 2)), []),
 (.o 35 (.load none (.t 34)), [34]),
 (.o 36 (.len (.t 35)), [35]),
 (.o 37 (.bin .lss (.t 33) (.t 36)), [33, 36])])
 (.cond (.t 37)
 .skip
 (.ghost (.forget [5, 8, 37]) (.ghost (.free [2]) (.ghost .lower (.exit 2))))))
 (.seq (.block 3
 (.seq (.regionK false [
 (.o 40 (.move (.t 5)), [37]),
 (.o 41 (.fieldAddr 0 (.t 2)), []),
 (.o 42 (.load none (.t 41)), [41]),
 (.o 43 (.move (.t 8)), []),
 (.o 44 (.indexAddr 2 (.t 42) (.t 43)), [42, 43]),
 (.o 45 (.fieldAddr 0 (.t 44)), [44]),
 (.o 46 (.load none (.t 45)), [45]),
 (.o 47 (.call false 51 [.t 40, .t 46]), [40, 46])])
 (.cond (.t 47)
 (.regionK false [
 (.o 48 (.move (.t 7)), [47]),
 (.o 49 (.fieldAddr 0 (.t 2)), []),
 (.o 50 (.load none (.t 49)), [49]),
 (.o 51 (.move (.t 8)), []),
 (.o 52 (.indexAddr 2 (.t 50) (.t 51)), [50, 51]),
 (.o 53 (.fieldAddr 0 (.t 52)), [52]),
 (.o 54 (.load none (.t 53)), [53]),
 (.o 55 (.buildSlice [.int .i64 0] 1 [(0, .t 54)]), [54]),
 (.o 56 (.append 8 1 (.t 48) (.t 55)), [48, 55]),
 (.o 7 (.move (.t 56)), [56])])
 .skip)))
 (.regionK false [
 (.o 38 (.move (.t 8)), [47]),
 (.o 39 (.bin .add (.t 38) (.i 1)), [38]),
 (.o 8 (.move (.t 39)), [39])])))

@[irreducible] def a25_l1 : ACode :=
  (.seq (.seq (.regionK false [
 (.o 16 (.move (.t 6)), []),
 (.o 17 (.fieldAddr 1 (.t 2)), []),
 (.o 18 (.load none (.t 17)), [17]),
 (.o 19 (.len (.t 18)), [18]),
 (.o 20 (.bin .lss (.t 16) (.t 19)), [16, 19])])
 (.cond (.t 20)
 .skip
 (.ghost (.forget [1, 6, 20]) (.ghost .lower (.exit 0)))))
 (.seq (.block 1
 (.regionK false [
 (.o 23 (.move (.t 5)), [20]),
 (.o 24 (.fieldAddr 1 (.t 2)), []),
 (.o 25 (.load none (.t 24)), [24]),
 (.o 26 (.move (.t 6)), []),
 (.o 27 (.indexAddr 2 (.t 25) (.t 26)), [25, 26]),
 (.o 28 (.fieldAddr 1 (.t 27)), [27]),
 (.o 29 (.load none (.t 28)), [28]),
 (.o 30 (.move (.t 1)), []),
 (.o 31 (.call false 50 [.t 29, .t 30]), [29, 30]),
 (.o 32 (.append 8 1 (.t 23) (.t 31)), [23, 31]),
 (.o 5 (.move (.t 32)), [32])]))
 (.regionK false [
 (.o 21 (.move (.t 6)), []),
 (.o 22 (.bin .add (.t 21) (.i 1)), [21]),
 (.o 6 (.move (.t 22)), [22])])))

def a25 : AFunc := ⟨58, 2, [.tmp 4],
  (.seq (.regionK false [
 (.o 2 (.box (.t 0)), [0]),
 (.o 4 (.move (.c (.p (.slice true [])))), [4])])
 (.seq (.seq (.regionK false [
 (.o 9 (.load (some 2) (.t 2)), []),
 (.o 10 (.call false 17 [.t 9]), [9]),
 (.o 11 (.un .not (.t 10)), [10])])
 (.cond (.t 11)
 (.seq (.regionK false [
 (.o 4 (.move (.c (.p (.slice true [])))), [1, 11])])
 .ret)
 .skip))
 (.seq (.regionK false [
 (.o 12 (.fieldAddr 0 (.t 2)), [11]),
 (.o 13 (.load none (.t 12)), [12]),
 (.o 14 (.move (.t 1)), []),
 (.o 15 (.call true 50 [.t 13, .t 14]), [13, 14]),
 (.o 5 (.move (.t 15)), [15])])
 (.seq (.seq (.regionK false [
 (.o 6 (.move (.i 0)), [])])
 (.block 0
 (.loop
 (.ghost .lower a25_l1))))
 (.seq (.regionK false [
 (.o 7 (.move (.c (.p (.slice true [])))), [])])
 (.ghost (.own 1 7) (.seq (.seq (.regionK false [
 (.o 8 (.move (.i 0)), [])])
 (.block 2
 (.loop
 (.ghost .lower a25_l0))))
 (.seq (.regionK false [
 (.o 57 (.move (.t 7)), [7]),
 (.o 4 (.move (.t 57)), [57])])
 .ret))))))))⟩

/-- clockwork/locktable.Release -/
@[irreducible] def a26_l0 : ACode :=
  (.seq (.regionK false [
 (.o 31 (.bin .lss (.t 30) (.t 29)), [])])
 (.seq (.cond (.t 31)
 .skip
 (.ghost (.forget [1, 28, 29, 30, 31]) (.ghost .lower (.exit 1))))
 (.seq (.block 2
 (.seq (.regionK false [
 (.o 32 (.indexAddr 2 (.t 28) (.t 30)), [31]),
 (.o 33 (.load (some 2) (.t 32)), [32]),
 (.o 8 (.alloc [.str ⟨#[]⟩, .slice true []]), []),
 (.u (.store 2 (.t 8) (.t 33)), [33])])
 (.seq (.regionK false [
 (.o 34 (.fieldAddr 1 (.t 8)), []),
 (.o 35 (.load none (.t 34)), [34]),
 (.o 36 (.move (.t 1)), []),
 (.o 37 (.call false 52 [.t 35, .t 36]), [35, 36]),
 (.o 9 (.move (.t 37)), [37])])
 (.seq (.regionK false [
 (.o 38 (.move (.t 9)), []),
 (.o 39 (.len (.t 38)), [38]),
 (.o 40 (.bin .gtr (.t 39) (.i 0)), [39])])
 (.cond (.t 40)
 (.regionK false [
 (.o 41 (.fieldAddr 1 (.t 6)), [40]),
 (.o 42 (.load none (.t 41)), [41]),
 (.o 43 (.fieldAddr 0 (.t 8)), []),
 (.o 44 (.load none (.t 43)), [43]),
 (.o 45 (.move (.t 9)), [9]),
 (.o 46 (.build [.str ⟨#[]⟩, .slice true []] [(0, 1, .t 44), (1, 1, .t 45)]), [44, 45]),
 (.o 47 (.buildSlice [.str ⟨#[]⟩, .slice true []] 1 [(0, .t 46)]), [46]),
 (.o 48 (.append 40 2 (.t 42) (.t 47)), [42, 47]),
 (.o 49 (.fieldAddr 1 (.t 6)), []),
 (.u (.store 1 (.t 49) (.t 48)), [48, 49])])
 .skip)))))
 (.regionK false [
 (.o 50 (.bin .add (.t 30) (.i 1)), [9, 40]),
 (.o 30 (.move (.t 50)), [50])]))))

def a26 : AFunc := ⟨52, 2, [.cell 4 2, .tmp 5],
  (.seq (.regionK false [
 (.o 2 (.box (.t 0)), [0]),
 (.o 4 (.alloc [.slice true [], .slice true []]), []),
 (.o 5 (.move (.i 0)), [5])])
 (.seq (.block 0
 (.seq (.regionK false [
 (.o 11 (.load (some 2) (.t 2)), []),
 (.o 12 (.call false 16 [.t 11]), [11]),
 (.o 13 (.un .not (.t 12)), [12]),
 (.o 10 (.move (.t 13)), [13])])
 (.cond (.t 10)
 (.seq (.regionK false [
 (.o 14 (.build [.slice true [], .slice true []] []), [1, 10]),
 (.u (.store 2 (.t 4) (.t 14)), [14]),
 (.o 5 (.move (.i 1)), [])])
 .ret)
 (.seq (.regionK false [
 (.o 16 (.fieldAddr 0 (.t 2)), [10]),
 (.o 17 (.load none (.t 16)), [16]),
 (.o 18 (.move (.t 1)), []),
 (.o 19 (.call false 34 [.t 17, .t 18]), [17, 18]),
 (.o 20 (.bin .lss (.t 19) (.i 0)), [19]),
 (.o 15 (.move (.t 20)), [20])])
 (.cond (.t 15)
 (.seq (.regionK false [
 (.o 21 (.build [.slice true [], .slice true []] []), [1, 15]),
 (.u (.store 2 (.t 4) (.t 21)), [21]),
 (.o 5 (.move (.i 9)), [])])
 .ret)
 .skip)))))
 (.seq (.regionK false [
 (.o 22 (.fieldAddr 0 (.t 2)), [15]),
 (.o 23 (.load none (.t 22)), [22]),
 (.o 24 (.move (.t 1)), []),
 (.o 25 (.call false 52 [.t 23, .t 24]), [23, 24]),
 (.o 26 (.build [.slice true [], .slice true []] [(0, 1, .t 25)]), [25]),
 (.o 6 (.alloc [.slice true [], .slice true []]), []),
 (.u (.store 2 (.t 6) (.t 26)), [26])])
 (.seq (.seq (.regionK false [
 (.o 27 (.fieldAddr 1 (.t 2)), []),
 (.o 28 (.load none (.t 27)), [27]),
 (.o 29 (.len (.t 28)), []),
 (.o 30 (.move (.i 0)), [])])
 (.block 1
 (.loop
 (.ghost (.free [2, 8]) (.ghost .lower a26_l0)))))
 (.seq (.regionK false [
 (.o 51 (.load (some 2) (.t 6)), []),
 (.u (.store 2 (.t 4) (.t 51)), [51]),
 (.o 5 (.move (.i 0)), [])])
 .ret)))))⟩

/-- clockwork/clockworkref23.Release -/
@[irreducible] def a27_l0 : ACode :=
  (.seq (.seq (.regionK false [
 (.o 24 (.move (.t 7)), []),
 (.o 25 (.fieldAddr 1 (.t 2)), []),
 (.o 26 (.load none (.t 25)), [25]),
 (.o 27 (.len (.t 26)), [26]),
 (.o 28 (.bin .lss (.t 24) (.t 27)), [24, 27])])
 (.cond (.t 28)
 .skip
 (.ghost (.forget [1, 7, 28]) (.ghost (.free [2]) (.ghost .lower (.exit 0))))))
 (.seq (.block 1
 (.seq (.regionK true [
 (.o 31 (.fieldAddr 1 (.t 2)), [28]),
 (⟨some 32, .load none (.t 31), none, [0]⟩, [31]),
 (.o 33 (.move (.t 7)), []),
 (⟨some 34, .indexAddr 2 (.t 32) (.t 33), none, [0, 1, 2]⟩, [32, 33]),
 (⟨some 35, .fieldAddr 0 (.t 34), none, [0, 1, 2, 3]⟩, [34]),
 (⟨some 36, .load none (.t 35), none, [0, 1, 2, 3, 4]⟩, [35]),
 (.o 37 (.fieldAddr 1 (.t 2)), []),
 (⟨some 38, .load none (.t 37), none, [6]⟩, [37]),
 (.o 39 (.move (.t 7)), []),
 (⟨some 40, .indexAddr 2 (.t 38) (.t 39), none, [6, 7, 8]⟩, [38, 39]),
 (⟨some 41, .fieldAddr 1 (.t 40), none, [6, 7, 8, 9]⟩, [40]),
 (⟨some 42, .load none (.t 41), none, [6, 7, 8, 9, 10]⟩, [41]),
 (.o 43 (.move (.t 1)), []),
 (⟨some 44, .call false 53 [.t 42, .t 43], none, [6, 7, 8, 9, 10, 11, 12]⟩, [42, 43]),
 (⟨some 45, .build [.str ⟨#[]⟩, .slice true []] [(0, 1, .t 36), (1, 1, .t 44)], none, [0, 1, 2, 3, 4, 5, 6, 7, 8, 9, 10, 11, 12, 13]⟩, [36, 44]),
 (.o 8 (.alloc [.str ⟨#[]⟩, .slice true []]), []),
 (⟨none, .store 2 (.t 8) (.t 45), none, [0, 1, 2, 3, 4, 5, 6, 7, 8, 9, 10, 11, 12, 13, 14, 15]⟩, [45])])
 (.seq (.regionK false [
 (.o 46 (.fieldAddr 1 (.t 8)), []),
 (.o 47 (.load none (.t 46)), [46]),
 (.o 48 (.len (.t 47)), [47]),
 (.o 49 (.bin .gtr (.t 48) (.i 0)), [48])])
 (.cond (.t 49)
 (.regionK false [
 (.o 50 (.fieldAddr 1 (.t 6)), [49]),
 (.o 51 (.load none (.t 50)), [50]),
 (.o 52 (.load (some 2) (.t 8)), []),
 (.o 53 (.buildSlice [.str ⟨#[]⟩, .slice true []] 1 [(0, .t 52)]), [52]),
 (.o 54 (.append 40 2 (.t 51) (.t 53)), [51, 53]),
 (.o 55 (.fieldAddr 1 (.t 6)), []),
 (.u (.store 1 (.t 55) (.t 54)), [54, 55])])
 .skip))))
 (.regionK false [
 (.o 29 (.move (.t 7)), [49]),
 (.o 30 (.bin .add (.t 29) (.i 1)), [29]),
 (.o 7 (.move (.t 30)), [30])])))

def a27 : AFunc := ⟨57, 2, [.cell 4 2, .tmp 5],
  (.seq (.regionK false [
 (.o 2 (.box (.t 0)), [0]),
 (.o 4 (.alloc [.slice true [], .slice true []]), []),
 (.o 5 (.move (.i 0)), [5])])
 (.seq (.seq (.regionK false [
 (.o 9 (.load (some 2) (.t 2)), []),
 (.o 10 (.call false 17 [.t 9]), [9]),
 (.o 11 (.un .not (.t 10)), [10])])
 (.cond (.t 11)
 (.seq (.regionK false [
 (.o 12 (.build [.slice true [], .slice true []] []), [1, 11]),
 (.u (.store 2 (.t 4) (.t 12)), [12]),
 (.o 5 (.move (.i 1)), [])])
 .ret)
 .skip))
 (.seq (.seq (.regionK false [
 (.o 13 (.fieldAddr 0 (.t 2)), [11]),
 (.o 14 (.load none (.t 13)), [13]),
 (.o 15 (.move (.t 1)), []),
 (.o 16 (.call false 39 [.t 14, .t 15]), [14, 15]),
 (.o 17 (.bin .lss (.t 16) (.i 0)), [16])])
 (.cond (.t 17)
 (.seq (.regionK false [
 (.o 18 (.build [.slice true [], .slice true []] []), [1, 17]),
 (.u (.store 2 (.t 4) (.t 18)), [18]),
 (.o 5 (.move (.i 9)), [])])
 .ret)
 .skip))
 (.seq (.regionK false [
 (.o 19 (.fieldAddr 0 (.t 2)), [17]),
 (.o 20 (.load none (.t 19)), [19]),
 (.o 21 (.move (.t 1)), []),
 (.o 22 (.call false 53 [.t 20, .t 21]), [20, 21]),
 (.o 23 (.build [.slice true [], .slice true []] [(0, 1, .t 22)]), [22]),
 (.o 6 (.alloc [.slice true [], .slice true []]), []),
 (.u (.store 2 (.t 6) (.t 23)), [23])])
 (.seq (.seq (.regionK false [
 (.o 7 (.move (.i 0)), [])])
 (.block 0
 (.loop
 (.ghost (.free [8]) (.ghost .lower a27_l0)))))
 (.seq (.regionK false [
 (.o 56 (.load (some 2) (.t 6)), []),
 (.u (.store 2 (.t 4) (.t 56)), [56]),
 (.o 5 (.move (.i 0)), [])])
 .ret))))))⟩

/-- clockwork/clockworklaw23.valid -/
@[irreducible] def a28_l0 : ACode :=
  (.seq (.seq (.regionK false [
 (.o 7 (.move (.t 3)), []),
 (.o 8 (.move (.t 0)), []),
 (.o 9 (.len (.t 8)), [8]),
 (.o 10 (.bin .lss (.t 7) (.t 9)), [7, 9])])
 (.cond (.t 10)
 .skip
 (.ghost (.forget [0, 3, 10]) (.ghost .lower (.exit 0)))))
 (.seq (.block 1
 (.seq (.regionK false [
 (.o 13 (.move (.t 0)), [10]),
 (.o 14 (.move (.t 3)), []),
 (.o 15 (.indexAddr 3 (.t 13) (.t 14)), [13, 14]),
 (.o 16 (.load (some 3) (.t 15)), [15]),
 (.o 17 (.call false 12 [.t 16, .i 40]), [16]),
 (.o 18 (.un .not (.t 17)), [17]),
 (.o 19 (.move (.t 18)), [18]),
 (⟨some 20, .move (.t 0), some (19, false), []⟩, []),
 (⟨some 21, .move (.t 3), some (19, false), []⟩, []),
 (⟨some 22, .indexAddr 3 (.t 20) (.t 21), some (19, false), []⟩, [20, 21]),
 (⟨some 23, .load (some 3) (.t 22), some (19, false), []⟩, [22]),
 (⟨some 24, .call false 38 [.t 23], some (19, false), []⟩, [23]),
 (⟨some 25, .un .not (.t 24), some (19, false), []⟩, [24]),
 (.o 26 (.pick (.t 19) (.b true) (.t 25)), [19, 25])])
 (.cond (.t 26)
 (.seq (.regionK false [
 (.o 2 (.move (.b false)), [0, 3, 26])])
 .ret)
 .skip)))
 (.regionK false [
 (.o 11 (.move (.t 3)), [26]),
 (.o 12 (.bin .add (.t 11) (.i 1)), [11]),
 (.o 3 (.move (.t 12)), [12])])))

def a28 : AFunc := ⟨27, 1, [.tmp 2],
  (.seq (.regionK false [
 (.o 2 (.move (.b false)), [2])])
 (.seq (.seq (.regionK false [
 (.o 4 (.move (.t 0)), []),
 (.o 5 (.len (.t 4)), [4]),
 (.o 6 (.bin .gtr (.t 5) (.i 20)), [5])])
 (.cond (.t 6)
 (.seq (.regionK false [
 (.o 2 (.move (.b false)), [0, 6])])
 .ret)
 .skip))
 (.seq (.seq (.regionK false [
 (.o 3 (.move (.i 0)), [6])])
 (.block 0
 (.loop
 (.ghost .lower a28_l0))))
 (.seq (.regionK false [
 (.o 2 (.move (.b true)), [])])
 .ret))))⟩

/-- clockwork/clockworklaw23.filled -/
@[irreducible] def a29_l0 : ACode :=
  (.seq (.seq (.regionK false [
 (.o 9 (.move (.t 5)), []),
 (.o 10 (.move (.t 0)), []),
 (.o 11 (.len (.t 10)), [10]),
 (.o 12 (.bin .lss (.t 9) (.t 11)), [9, 11])])
 (.cond (.t 12)
 .skip
 (.ghost (.forget [0, 5, 12]) (.ghost .lower (.exit 0)))))
 (.seq (.block 1
 (.seq (.regionK true [
 (.o 16 (.load (some 2) (.t 4)), [12]),
 (.o 17 (.move (.t 5)), []),
 (.o 18 (.move (.t 0)), []),
 (.o 19 (.move (.t 5)), []),
 (⟨some 20, .indexAddr 3 (.t 18) (.t 19), none, [2, 3]⟩, [18, 19]),
 (⟨some 21, .load (some 3) (.t 20), none, [2, 3, 4]⟩, [20]),
 (⟨some 22, .call false 14 [.t 16, .t 17, .t 21], none, [0, 1, 2, 3, 4, 5]⟩, [16, 17, 21]),
 (⟨some 15, .move (.t 22), none, [0, 1, 2, 3, 4, 5, 6]⟩, [22]),
 (⟨some 23, .extract (.t 15) 0, none, [0, 1, 2, 3, 4, 5, 6, 7]⟩, []),
 (⟨some 24, .extract (.t 15) 1, none, [0, 1, 2, 3, 4, 5, 6, 7]⟩, [15]),
 (.o 6 (.alloc [.slice true [], .slice true []]), []),
 (⟨none, .store 2 (.t 6) (.t 23), none, [0, 1, 2, 3, 4, 5, 6, 7, 8, 10]⟩, [23]),
 (⟨some 7, .move (.t 24), none, [0, 1, 2, 3, 4, 5, 6, 7, 8, 9, 10, 11]⟩, [24])])
 (.seq (.seq (.regionK false [
 (.o 25 (.move (.t 7)), [7]),
 (.o 26 (.bin .neq (.t 25) (.i 0)), [25])])
 (.cond (.t 26)
 (.seq (.regionK false [
 (.o 27 (.load (some 2) (.t 4)), [0, 5, 26]),
 (.u (.store 2 (.t 2) (.t 27)), [27]),
 (.o 3 (.move (.b false)), [])])
 .ret)
 .skip))
 (.regionK false [
 (.o 28 (.load (some 2) (.t 6)), [26]),
 (.u (.store 2 (.t 4) (.t 28)), [28])]))))
 (.regionK false [
 (.o 13 (.move (.t 5)), []),
 (.o 14 (.bin .add (.t 13) (.i 1)), [13]),
 (.o 5 (.move (.t 14)), [14])])))

def a29 : AFunc := ⟨30, 1, [.cell 2 2, .tmp 3],
  (.seq (.regionK false [
 (.o 2 (.alloc [.slice true [], .slice true []]), []),
 (.o 3 (.move (.b false)), [3])])
 (.seq (.regionK false [
 (.o 8 (.build [.slice true [], .slice true []] []), []),
 (.o 4 (.alloc [.slice true [], .slice true []]), []),
 (.u (.store 2 (.t 4) (.t 8)), [8])])
 (.seq (.seq (.regionK false [
 (.o 5 (.move (.i 0)), [])])
 (.block 0
 (.loop
 (.ghost (.free [6]) (.ghost .lower a29_l0)))))
 (.seq (.regionK false [
 (.o 29 (.load (some 2) (.t 4)), []),
 (.u (.store 2 (.t 2) (.t 29)), [29]),
 (.o 3 (.move (.b true)), [])])
 .ret))))⟩

/-- clockwork/clockworkref19.Conflicts -/
def a30 : AFunc := ⟨40, 2, [.tmp 4],
  (.seq (.regionK false [
 (.o 2 (.box (.t 0)), [0]),
 (.o 3 (.box (.t 1)), [1]),
 (.o 4 (.move (.b false)), [4])])
 (.seq (.seq (.regionK false [
 (.o 5 (.load (some 3) (.t 2)), []),
 (.o 6 (.call false 38 [.t 5]), [5]),
 (.o 7 (.un .not (.t 6)), [6]),
 (.o 8 (.move (.t 7)), [7]),
 (⟨some 9, .load (some 3) (.t 3), some (8, false), []⟩, []),
 (⟨some 10, .call false 38 [.t 9], some (8, false), []⟩, [9]),
 (⟨some 11, .un .not (.t 10), some (8, false), []⟩, [10]),
 (.o 12 (.pick (.t 8) (.b true) (.t 11)), [8, 11]),
 (.o 13 (.move (.t 12)), [12]),
 (⟨some 14, .fieldAddr 0 (.t 2), some (13, false), []⟩, []),
 (⟨some 15, .load none (.t 14), some (13, false), []⟩, [14]),
 (.o 16 (.pick (.t 13) (.b true) (.t 15)), [13, 15]),
 (.o 17 (.move (.t 16)), [16]),
 (⟨some 18, .fieldAddr 0 (.t 3), some (17, false), []⟩, []),
 (⟨some 19, .load none (.t 18), some (17, false), []⟩, [18]),
 (.o 20 (.pick (.t 17) (.b true) (.t 19)), [17, 19])])
 (.cond (.t 20)
 (.seq (.regionK false [
 (.o 4 (.move (.b true)), [20])])
 .ret)
 .skip))
 (.seq (.regionK false [
 (.o 21 (.fieldAddr 2 (.t 2)), [20]),
 (.o 22 (.load none (.t 21)), [21]),
 (.o 23 (.fieldAddr 2 (.t 3)), []),
 (.o 24 (.load none (.t 23)), [23]),
 (.o 25 (.call false 54 [.t 22, .t 24]), [22, 24]),
 (.o 26 (.move (.t 25)), [25]),
 (⟨some 27, .fieldAddr 2 (.t 2), some (26, false), []⟩, []),
 (⟨some 28, .load none (.t 27), some (26, false), []⟩, [27]),
 (⟨some 29, .fieldAddr 1 (.t 3), some (26, false), []⟩, []),
 (⟨some 30, .load none (.t 29), some (26, false), []⟩, [29]),
 (⟨some 31, .call false 54 [.t 28, .t 30], some (26, false), []⟩, [28, 30]),
 (.o 32 (.pick (.t 26) (.b true) (.t 31)), [26, 31]),
 (.o 33 (.move (.t 32)), [32]),
 (⟨some 34, .fieldAddr 1 (.t 2), some (33, false), []⟩, []),
 (⟨some 35, .load none (.t 34), some (33, false), []⟩, [34]),
 (⟨some 36, .fieldAddr 2 (.t 3), some (33, false), []⟩, []),
 (⟨some 37, .load none (.t 36), some (33, false), []⟩, [36]),
 (⟨some 38, .call false 54 [.t 35, .t 37], some (33, false), []⟩, [35, 37]),
 (.o 39 (.pick (.t 33) (.b true) (.t 38)), [33, 38]),
 (.o 4 (.move (.t 39)), [39])])
 .ret)))⟩

/-- clockwork/clockworklaw23.pick -/
def a31 : AFunc := ⟨31, 3, [.tmp 6],
  (.seq (.regionK false [
 (.o 6 (.move (.i 0)), [6])])
 (.seq (.seq (.regionK false [
 (.o 7 (.move (.t 2)), []),
 (.o 8 (.move (.t 1)), []),
 (.o 9 (.len (.t 8)), [8]),
 (.o 10 (.bin .lss (.t 7) (.t 9)), [7, 9]),
 (.o 11 (.move (.t 10)), [10]),
 (⟨some 12, .move (.t 1), some (11, true), []⟩, []),
 (⟨some 13, .move (.t 2), some (11, true), []⟩, []),
 (⟨some 14, .indexAddr 1 (.t 12) (.t 13), some (11, true), []⟩, [12, 13]),
 (⟨some 15, .load none (.t 14), some (11, true), []⟩, [14]),
 (⟨some 16, .bin .gtr (.t 15) (.i 0), some (11, true), []⟩, [15]),
 (.o 17 (.pick (.t 11) (.t 16) (.b false)), [11, 16])])
 (.cond (.t 17)
 (.seq (.regionK false [
 (.o 18 (.move (.t 0)), [17]),
 (.o 19 (.move (.t 1)), [1]),
 (.o 20 (.move (.t 2)), [2]),
 (.o 21 (.indexAddr 1 (.t 19) (.t 20)), [19, 20]),
 (.o 22 (.load none (.t 21)), [21]),
 (.o 23 (.move (.t 0)), [0]),
 (.o 24 (.len (.t 23)), [23]),
 (.o 25 (.bin .rem (.t 22) (.t 24)), [22, 24]),
 (.o 26 (.indexAddr 1 (.t 18) (.t 25)), [18, 25]),
 (.o 27 (.load none (.t 26)), [26]),
 (.o 6 (.move (.t 27)), [27])])
 .ret)
 .skip))
 (.seq (.regionK false [
 (.o 28 (.move (.t 0)), [0, 1, 2, 17]),
 (.o 29 (.indexAddr 1 (.t 28) (.i 0)), [28]),
 (.o 30 (.load none (.t 29)), [29]),
 (.o 6 (.move (.t 30)), [30])])
 .ret)))⟩

/-- clockwork/clockworklaw23.foot -/
def a32 : AFunc := ⟨17, 2, [.cell 4 3],
  (.seq (.regionK false [
 (.o 4 (.alloc [.bool false, .slice true [], .slice true []]), [])])
 (.seq (.regionK false [
 (.o 5 (.alloc [.bool false, .slice true [], .slice true []]), [])])
 (.seq (.seq (.regionK false [
 (.o 6 (.move (.t 0)), []),
 (.o 7 (.bin .neq (.t 6) (.c (.p (.str ⟨#[]⟩)))), [6])])
 (.cond (.t 7)
 (.regionK false [
 (.o 8 (.move (.t 0)), [0, 7]),
 (.o 9 (.buildSlice [.str ⟨#[]⟩] 1 [(0, .t 8)]), [8]),
 (.o 10 (.fieldAddr 1 (.t 5)), []),
 (.u (.store 1 (.t 10) (.t 9)), [9, 10])])
 .skip))
 (.seq (.seq (.regionK false [
 (.o 11 (.move (.t 1)), [0, 7]),
 (.o 12 (.bin .neq (.t 11) (.c (.p (.str ⟨#[]⟩)))), [11])])
 (.cond (.t 12)
 (.regionK false [
 (.o 13 (.move (.t 1)), [1, 12]),
 (.o 14 (.buildSlice [.str ⟨#[]⟩] 1 [(0, .t 13)]), [13]),
 (.o 15 (.fieldAddr 2 (.t 5)), []),
 (.u (.store 1 (.t 15) (.t 14)), [14, 15])])
 .skip))
 (.seq (.regionK false [
 (.o 16 (.load (some 3) (.t 5)), [1, 12]),
 (.u (.store 3 (.t 4) (.t 16)), [16])])
 .ret)))))⟩

/-- clockwork/footprint.Valid -/
def a33 : AFunc := ⟨23, 1, [.tmp 2],
  (.seq (.regionK false [
 (.o 1 (.box (.t 0)), [0]),
 (.o 2 (.move (.b false)), [2])])
 (.seq (.seq (.regionK false [
 (.o 3 (.fieldAddr 0 (.t 1)), []),
 (.o 4 (.load none (.t 3)), [3])])
 (.cond (.t 4)
 (.seq (.regionK false [
 (.o 5 (.fieldAddr 1 (.t 1)), [4]),
 (.o 6 (.load none (.t 5)), [5]),
 (.o 7 (.len (.t 6)), [6]),
 (.o 8 (.bin .eql (.t 7) (.i 0)), [7]),
 (.o 9 (.move (.t 8)), [8]),
 (⟨some 10, .fieldAddr 2 (.t 1), some (9, true), []⟩, []),
 (⟨some 11, .load none (.t 10), some (9, true), []⟩, [10]),
 (⟨some 12, .len (.t 11), some (9, true), []⟩, [11]),
 (⟨some 13, .bin .eql (.t 12) (.i 0), some (9, true), []⟩, [12]),
 (.o 14 (.pick (.t 9) (.t 13) (.b false)), [9, 13]),
 (.o 2 (.move (.t 14)), [14])])
 .ret)
 .skip))
 (.seq (.regionK false [
 (.o 15 (.fieldAddr 1 (.t 1)), [4]),
 (.o 16 (.load none (.t 15)), [15]),
 (.o 17 (.call false 55 [.t 16]), [16]),
 (.o 18 (.move (.t 17)), [17]),
 (⟨some 19, .fieldAddr 2 (.t 1), some (18, true), []⟩, []),
 (⟨some 20, .load none (.t 19), some (18, true), []⟩, [19]),
 (⟨some 21, .call false 55 [.t 20], some (18, true), []⟩, [20]),
 (.o 22 (.pick (.t 18) (.t 21) (.b false)), [18, 21]),
 (.o 2 (.move (.t 22)), [22])])
 .ret)))⟩

/-- clockwork/locktable.index -/
def a34 : AFunc := ⟨8, 2, [.tmp 4],
  (.seq (.regionK false [
 (.o 3 (.box (.t 1)), [1]),
 (.o 4 (.move (.i 0)), [4])])
 (.seq (.regionK false [
 (.o 5 (.move (.t 0)), [0]),
 (.o 6 (.mkfunc 57 [.t 3]), []),
 (.o 7 (.call false 56 [.t 5, .t 6]), [5, 6]),
 (.o 4 (.move (.t 7)), [7])])
 .ret))⟩

/-- clockwork/locktable.clone -/
@[irreducible] def a35_l0 : ACode :=
  (.seq (.regionK false [
 (.o 14 (.bin .lss (.t 13) (.t 12)), [])])
 (.seq (.cond (.t 14)
 .skip
 (.ghost (.forget [11, 12, 13, 14]) (.exit 0)))
 (.seq (.block 1
 (.seq (.regionK false [
 (.o 15 (.indexAddr 2 (.t 11) (.t 13)), [14]),
 (.o 16 (.load (some 2) (.t 15)), [15]),
 (.o 5 (.alloc [.str ⟨#[]⟩, .slice true []]), []),
 (.u (.store 2 (.t 5) (.t 16)), [16])])
 (.regionS [(0, 6), (1, 6), (2, 6), (3, 6), (0, 8), (1, 8)] [
 .o 17 (.fieldAddr 1 (.t 3)),
 ⟨some 18, .load none (.t 17), none, [0]⟩,
 .o 19 (.fieldAddr 0 (.t 5)),
 ⟨some 20, .load none (.t 19), none, [2]⟩,
 .o 21 (.fieldAddr 1 (.t 5)),
 ⟨some 22, .load none (.t 21), none, [4]⟩,
 ⟨some 23, .callNew 58 [.t 22], none, [4, 5]⟩,
 ⟨some 24, .build [.str ⟨#[]⟩, .slice true []] [(0, 1, .t 20), (1, 1, .t 23)], none, [2, 3, 4, 5, 6]⟩,
 ⟨some 25, .buildSliceD [.str ⟨#[]⟩, .slice true []] (.t 24), none, [2, 3, 4, 5, 6, 7]⟩,
 ⟨some 26, .appendD 40 2 (.t 18) (.t 25), none, [0, 1, 2, 3, 4, 5, 6, 7, 8]⟩,
 ⟨some 27, .fieldAddr 1 (.t 3), none, [0, 1, 2, 3, 4, 5, 6, 7, 8, 9]⟩,
 ⟨none, .store 1 (.t 27) (.t 26), none, [0, 1, 2, 3, 4, 5, 6, 7, 8, 9, 10]⟩] [17, 18, 19, 20, 21, 22, 23, 24, 25, 26, 27])))
 (.regionK false [
 (.o 28 (.bin .add (.t 13) (.i 1)), []),
 (.o 13 (.move (.t 28)), [28])]))))

def a35 : AFunc := ⟨30, 1, [.cell 2 2],
  (.seq (.regionK false [
 (.o 1 (.box (.t 0)), [0]),
 (.o 2 (.alloc [.slice true [], .slice true []]), [])])
 (.seq (.regionK false [
 (.o 6 (.fieldAddr 0 (.t 1)), []),
 (.o 7 (.load none (.t 6)), [6]),
 (.o 8 (.call true 58 [.t 7]), [7]),
 (.o 9 (.build [.slice true [], .slice true []] [(0, 1, .t 8)]), [8]),
 (.o 3 (.alloc [.slice true [], .slice true []]), []),
 (.u (.store 2 (.t 3) (.t 9)), [9])])
 (.ghost (.ownInD 2 3 1) (.seq (.seq (.regionK false [
 (.o 10 (.fieldAddr 1 (.t 1)), []),
 (.o 11 (.load none (.t 10)), [10]),
 (.o 12 (.len (.t 11)), []),
 (.o 13 (.move (.i 0)), [])])
 (.block 0
 (.loop
 (.ghost (.free [1, 5]) a35_l0))))
 (.seq (.regionK false [
 (.o 29 (.load (some 2) (.t 3)), []),
 (.u (.store 2 (.t 2) (.t 29)), [29])])
 (.ghost (.free [1, 3, 5]) .ret))))))⟩

/-- clockwork/locktable.add -/
def a36 : AFunc := ⟨49, 3, [],
  (.seq (.regionK false [
 (.o 5 (.box (.t 2)), [2])])
 (.seq (.regionK false [
 (.o 9 (.move (.t 0)), []),
 (.o 10 (.nilCheck (.t 9)), [9]),
 (.o 11 (.fieldAddr 1 (.t 10)), [10]),
 (.o 12 (.load none (.t 11)), [11]),
 (.o 13 (.move (.t 1)), []),
 (.o 14 (.call false 59 [.t 12, .t 13, .c (.func 60 [])]), [12, 13]),
 (.o 8 (.move (.t 14)), [14]),
 (.o 15 (.extract (.t 8) 0), []),
 (.o 16 (.extract (.t 8) 1), [8]),
 (.o 6 (.move (.t 15)), [15]),
 (.o 7 (.move (.t 16)), [16])])
 (.seq (.seq (.regionK false [
 (.o 17 (.move (.t 7)), [7]),
 (.o 18 (.un .not (.t 17)), [17])])
 (.cond (.t 18)
 (.regionK false [
 (.o 19 (.move (.t 0)), [18]),
 (.o 20 (.move (.t 0)), []),
 (.o 21 (.nilCheck (.t 20)), [20]),
 (.o 22 (.fieldAddr 1 (.t 21)), [21]),
 (.o 23 (.load none (.t 22)), [22]),
 (.o 24 (.move (.t 6)), []),
 (.o 25 (.move (.t 1)), [1]),
 (.o 26 (.build [.str ⟨#[]⟩, .slice true []] [(0, 1, .t 25)]), [25]),
 (.o 27 (.buildSlice [.str ⟨#[]⟩, .slice true []] 1 [(0, .t 26)]), [26]),
 (.o 28 (.call true 61 [.t 23, .t 24, .t 27]), [23, 24, 27]),
 (.o 29 (.nilCheck (.t 19)), [19]),
 (.o 30 (.fieldAddr 1 (.t 29)), [29]),
 (.u (.store 1 (.t 30) (.t 28)), [28, 30])])
 .skip))
 (.regionS [(1, 15), (2, 15), (3, 15)] [
 .o 31 (.move (.t 0)),
 ⟨some 32, .nilCheck (.t 31), none, [0]⟩,
 ⟨some 33, .fieldAddr 1 (.t 32), none, [0, 1]⟩,
 ⟨some 34, .load none (.t 33), none, [0, 1, 2]⟩,
 .o 35 (.move (.t 6)),
 .o 36 (.move (.t 0)),
 ⟨some 37, .nilCheck (.t 36), none, [5]⟩,
 ⟨some 38, .fieldAddr 1 (.t 37), none, [5, 6]⟩,
 ⟨some 39, .load none (.t 38), none, [5, 6, 7]⟩,
 .o 40 (.move (.t 6)),
 ⟨some 41, .indexAddr 2 (.t 39) (.t 40), none, [5, 6, 7, 8, 9]⟩,
 ⟨some 42, .fieldAddr 1 (.t 41), none, [5, 6, 7, 8, 9, 10]⟩,
 ⟨some 43, .load none (.t 42), none, [5, 6, 7, 8, 9, 10, 11]⟩,
 .o 44 (.load (some 2) (.t 5)),
 ⟨some 45, .buildSlice [.int .i64 0, .bool false] 1 [(0, .t 44)], none, [13]⟩,
 ⟨some 46, .append 16 2 (.t 43) (.t 45), none, [5, 6, 7, 8, 9, 10, 11, 12, 13, 14]⟩,
 ⟨some 47, .indexAddr 2 (.t 34) (.t 35), none, [0, 1, 2, 3, 4, 5, 6, 7, 8, 9, 10, 11, 12, 13, 14, 15]⟩,
 ⟨some 48, .fieldAddr 1 (.t 47), none, [0, 1, 2, 3, 4, 5, 6, 7, 8, 9, 10, 11, 12, 13, 14, 15, 16]⟩,
 ⟨none, .store 1 (.t 48) (.t 46), none, [0, 1, 2, 3, 4, 5, 6, 7, 8, 9, 10, 11, 12, 13, 14, 15, 16, 17]⟩] [0, 1, 6, 18, 31, 32, 33, 34, 35, 36, 37, 38, 39, 40, 41, 42, 43, 44, 45, 46, 47, 48]))))⟩

/-- slices.Contains[[]string,string] -/
def a37 : AFunc := ⟨9, 2, [.tmp 4],
  (.seq (.regionK false [
 (.o 4 (.move (.b false)), [4])])
 (.seq (.regionK false [
 (.o 5 (.move (.t 0)), [0]),
 (.o 6 (.move (.t 1)), [1]),
 (.o 7 (.call false 62 [.t 5, .t 6]), [5, 6]),
 (.o 8 (.bin .geq (.t 7) (.i 0)), [7]),
 (.o 4 (.move (.t 8)), [8])])
 .ret))⟩

/-- clockwork/clockworkref19.Valid -/
def a38 : AFunc := ⟨35, 1, [.tmp 2],
  (.seq (.regionK false [
 (.o 1 (.box (.t 0)), [0]),
 (.o 2 (.move (.b false)), [2])])
 (.seq (.seq (.regionK false [
 (.o 3 (.fieldAddr 0 (.t 1)), []),
 (.o 4 (.load none (.t 3)), [3])])
 (.cond (.t 4)
 (.seq (.regionK false [
 (.o 5 (.fieldAddr 1 (.t 1)), [4]),
 (.o 6 (.load none (.t 5)), [5]),
 (.o 7 (.len (.t 6)), [6]),
 (.o 8 (.bin .eql (.t 7) (.i 0)), [7]),
 (.o 9 (.move (.t 8)), [8]),
 (⟨some 10, .fieldAddr 2 (.t 1), some (9, true), []⟩, []),
 (⟨some 11, .load none (.t 10), some (9, true), []⟩, [10]),
 (⟨some 12, .len (.t 11), some (9, true), []⟩, [11]),
 (⟨some 13, .bin .eql (.t 12) (.i 0), some (9, true), []⟩, [12]),
 (.o 14 (.pick (.t 9) (.t 13) (.b false)), [9, 13]),
 (.o 2 (.move (.t 14)), [14])])
 .ret)
 .skip))
 (.seq (.regionK false [
 (.o 15 (.fieldAddr 1 (.t 1)), [4]),
 (.o 16 (.load none (.t 15)), [15]),
 (.o 17 (.len (.t 16)), [16]),
 (.o 18 (.bin .leq (.t 17) (.i 64)), [17]),
 (.o 19 (.move (.t 18)), [18]),
 (⟨some 20, .fieldAddr 2 (.t 1), some (19, true), []⟩, []),
 (⟨some 21, .load none (.t 20), some (19, true), []⟩, [20]),
 (⟨some 22, .len (.t 21), some (19, true), []⟩, [21]),
 (⟨some 23, .bin .leq (.t 22) (.i 64), some (19, true), []⟩, [22]),
 (.o 24 (.pick (.t 19) (.t 23) (.b false)), [19, 23]),
 (.o 25 (.move (.t 24)), [24]),
 (⟨some 26, .fieldAddr 1 (.t 1), some (25, true), []⟩, []),
 (⟨some 27, .load none (.t 26), some (25, true), []⟩, [26]),
 (⟨some 28, .call false 63 [.t 27], some (25, true), []⟩, [27]),
 (.o 29 (.pick (.t 25) (.t 28) (.b false)), [25, 28]),
 (.o 30 (.move (.t 29)), [29]),
 (⟨some 31, .fieldAddr 2 (.t 1), some (30, true), []⟩, []),
 (⟨some 32, .load none (.t 31), some (30, true), []⟩, [31]),
 (⟨some 33, .call false 63 [.t 32], some (30, true), []⟩, [32]),
 (.o 34 (.pick (.t 30) (.t 33) (.b false)), [30, 33]),
 (.o 2 (.move (.t 34)), [34])])
 .ret)))⟩

/-- clockwork/clockworkref23.find -/
@[irreducible] def a39_l0 : ACode :=
  (.seq (.seq (.regionK false [
 (.o 6 (.move (.t 5)), []),
 (.o 7 (.move (.t 0)), []),
 (.o 8 (.len (.t 7)), [7]),
 (.o 9 (.bin .lss (.t 6) (.t 8)), [6, 8])])
 (.cond (.t 9)
 .skip
 (.ghost (.forget [0, 1, 5, 9]) (.ghost .lower (.exit 0)))))
 (.seq (.block 1
 (.seq (.regionK false [
 (.o 12 (.move (.t 0)), [9]),
 (.o 13 (.move (.t 5)), []),
 (.o 14 (.indexAddr 2 (.t 12) (.t 13)), [12, 13]),
 (.o 15 (.fieldAddr 0 (.t 14)), [14]),
 (.o 16 (.load none (.t 15)), [15]),
 (.o 17 (.move (.t 1)), []),
 (.o 18 (.bin .eql (.t 16) (.t 17)), [16, 17])])
 (.cond (.t 18)
 (.seq (.regionK false [
 (.o 19 (.move (.t 5)), [0, 1, 5, 18]),
 (.o 4 (.move (.t 19)), [19])])
 .ret)
 .skip)))
 (.regionK false [
 (.o 10 (.move (.t 5)), [18]),
 (.o 11 (.bin .add (.t 10) (.i 1)), [10]),
 (.o 5 (.move (.t 11)), [11])])))

def a39 : AFunc := ⟨20, 2, [.tmp 4],
  (.seq (.regionK false [
 (.o 4 (.move (.i 0)), [4])])
 (.seq (.seq (.regionK false [
 (.o 5 (.move (.i 0)), [])])
 (.block 0
 (.loop
 (.ghost .lower a39_l0))))
 (.seq (.regionK false [
 (.o 4 (.move (.i (-1))), [])])
 .ret)))⟩

/-- clockwork/clockworkref23.push -/
def a40 : AFunc := ⟨17, 3, [.tmp 6],
  (.seq (.regionK false [
 (.o 6 (.move (.c (.p (.slice true [])))), [6])])
 (.seq (.regionK false [
 (.o 7 (.move (.c (.p (.slice true [])))), [])])
 (.seq (.regionK false [
 (.o 8 (.move (.t 7)), []),
 (.o 9 (.move (.t 0)), [0]),
 (.o 10 (.append 16 2 (.t 8) (.t 9)), [8, 9]),
 (.o 7 (.move (.t 10)), [10])])
 (.seq (.regionK false [
 (.o 11 (.move (.t 7)), [7]),
 (.o 12 (.move (.t 1)), [1]),
 (.o 13 (.move (.t 2)), [2]),
 (.o 14 (.build [.int .i64 0, .bool false] [(0, 1, .t 12), (1, 1, .t 13)]), [12, 13]),
 (.o 15 (.buildSlice [.int .i64 0, .bool false] 1 [(0, .t 14)]), [14]),
 (.o 16 (.append 16 2 (.t 11) (.t 15)), [11, 15]),
 (.o 6 (.move (.t 16)), [16])])
 .ret))))⟩

/-- clockwork/clockworkref19.Keys -/
def a41 : AFunc := ⟨11, 1, [.tmp 2],
  (.seq (.regionK false [
 (.o 1 (.box (.t 0)), [0]),
 (.o 2 (.move (.c (.p (.slice true [])))), [2])])
 (.seq (.seq (.regionK false [
 (.o 3 (.load (some 3) (.t 1)), []),
 (.o 4 (.call false 38 [.t 3]), [3]),
 (.o 5 (.un .not (.t 4)), [4])])
 (.cond (.t 5)
 (.seq (.regionK false [
 (.o 2 (.move (.c (.p (.slice true [])))), [5])])
 .ret)
 .skip))
 (.seq (.regionK false [
 (.o 6 (.fieldAddr 1 (.t 1)), [5]),
 (.o 7 (.load none (.t 6)), [6]),
 (.o 8 (.fieldAddr 2 (.t 1)), []),
 (.o 9 (.load none (.t 8)), [8]),
 (.o 10 (.call false 64 [.t 7, .t 9]), [7, 9]),
 (.o 2 (.move (.t 10)), [10])])
 .ret)))⟩

/-- clockwork/clockworkref23.enqueue -/
@[irreducible] def a42_l0 : ACode :=
  (.seq (.seq (.regionK false [
 (.o 12 (.move (.t 11)), []),
 (.o 13 (.move (.t 0)), []),
 (.o 14 (.len (.t 13)), [13]),
 (.o 15 (.bin .lss (.t 12) (.t 14)), [12, 14])])
 (.cond (.t 15)
 .skip
 (.ghost (.forget [0, 11, 15]) (.ghost .lower (.exit 0)))))
 (.seq (.block 1
 (.seq (.seq (.regionK false [
 (.o 18 (.move (.t 10)), [15]),
 (.o 19 (.un .not (.t 18)), [18]),
 (.o 20 (.move (.t 19)), [19]),
 (⟨some 21, .move (.t 0), some (20, true), []⟩, []),
 (⟨some 22, .move (.t 11), some (20, true), []⟩, []),
 (⟨some 23, .indexAddr 2 (.t 21) (.t 22), some (20, true), []⟩, [21, 22]),
 (⟨some 24, .fieldAddr 0 (.t 23), some (20, true), []⟩, [23]),
 (⟨some 25, .load none (.t 24), some (20, true), []⟩, [24]),
 (⟨some 26, .move (.t 1), some (20, true), []⟩, []),
 (⟨some 27, .bin .gtr (.t 25) (.t 26), some (20, true), []⟩, [25, 26]),
 (.o 28 (.pick (.t 20) (.t 27) (.b false)), [20, 27])])
 (.cond (.t 28)
 (.seq (.regionK false [
 (.o 29 (.move (.t 9)), [10, 28]),
 (.o 30 (.move (.t 1)), []),
 (.o 31 (.move (.t 2)), []),
 (.o 32 (.move (.t 3)), []),
 (.o 33 (.call false 40 [.c (.p (.slice true [])), .t 31, .t 32]), [31, 32]),
 (.o 34 (.build [.str ⟨#[]⟩, .slice true []] [(0, 1, .t 30), (1, 1, .t 33)]), [30, 33]),
 (.o 35 (.buildSlice [.str ⟨#[]⟩, .slice true []] 1 [(0, .t 34)]), [34]),
 (.o 36 (.append 40 2 (.t 29) (.t 35)), [29, 35]),
 (.o 9 (.move (.t 36)), [36])])
 (.regionK false [
 (.o 10 (.move (.b true)), [])]))
 .skip))
 (.seq (.regionK false [
 (.o 37 (.move (.t 0)), [28]),
 (.o 38 (.move (.t 11)), []),
 (.o 39 (.indexAddr 2 (.t 37) (.t 38)), [37, 38]),
 (.o 40 (.fieldAddr 0 (.t 39)), [39]),
 (.o 41 (.load none (.t 40)), [40]),
 (.o 42 (.move (.t 1)), []),
 (.o 43 (.bin .eql (.t 41) (.t 42)), [41, 42])])
 (.cond (.t 43)
 (.seq (.regionK false [
 (.o 44 (.move (.t 9)), [10, 43]),
 (.o 45 (.move (.t 1)), []),
 (.o 46 (.move (.t 0)), []),
 (.o 47 (.move (.t 11)), []),
 (.o 48 (.indexAddr 2 (.t 46) (.t 47)), [46, 47]),
 (.o 49 (.fieldAddr 1 (.t 48)), [48]),
 (.o 50 (.load none (.t 49)), [49]),
 (.o 51 (.move (.t 2)), []),
 (.o 52 (.move (.t 3)), []),
 (.o 53 (.call false 40 [.t 50, .t 51, .t 52]), [50, 51, 52]),
 (.o 54 (.build [.str ⟨#[]⟩, .slice true []] [(0, 1, .t 45), (1, 1, .t 53)]), [45, 53]),
 (.o 55 (.buildSlice [.str ⟨#[]⟩, .slice true []] 1 [(0, .t 54)]), [54]),
 (.o 56 (.append 40 2 (.t 44) (.t 55)), [44, 55]),
 (.o 9 (.move (.t 56)), [56])])
 (.regionK false [
 (.o 10 (.move (.b true)), [])]))
 (.regionK false [
 (.o 57 (.move (.t 9)), [43]),
 (.o 58 (.move (.t 0)), []),
 (.o 59 (.move (.t 11)), []),
 (.o 60 (.indexAddr 2 (.t 58) (.t 59)), [58, 59]),
 (.o 61 (.load (some 2) (.t 60)), [60]),
 (.o 62 (.buildSlice [.str ⟨#[]⟩, .slice true []] 1 [(0, .t 61)]), [61]),
 (.o 63 (.append 40 2 (.t 57) (.t 62)), [57, 62]),
 (.o 9 (.move (.t 63)), [63])])))))
 (.regionK false [
 (.o 16 (.move (.t 11)), []),
 (.o 17 (.bin .add (.t 16) (.i 1)), [16]),
 (.o 11 (.move (.t 17)), [17])])))

def a42 : AFunc := ⟨75, 4, [.tmp 8],
  (.seq (.regionK false [
 (.o 8 (.move (.c (.p (.slice true [])))), [8])])
 (.seq (.regionK false [
 (.o 9 (.move (.c (.p (.slice true [])))), [])])
 (.ghost (.own 2 9) (.seq (.regionK false [
 (.o 10 (.move (.b false)), [])])
 (.seq (.seq (.regionK false [
 (.o 11 (.move (.i 0)), [])])
 (.block 0
 (.loop
 (.ghost .lower a42_l0))))
 (.seq (.seq (.regionK false [
 (.o 64 (.move (.t 10)), [10]),
 (.o 65 (.un .not (.t 64)), [64])])
 (.cond (.t 65)
 (.regionK false [
 (.o 66 (.move (.t 9)), [65]),
 (.o 67 (.move (.t 1)), [1]),
 (.o 68 (.move (.t 2)), [2]),
 (.o 69 (.move (.t 3)), [3]),
 (.o 70 (.call false 40 [.c (.p (.slice true [])), .t 68, .t 69]), [68, 69]),
 (.o 71 (.build [.str ⟨#[]⟩, .slice true []] [(0, 1, .t 67), (1, 1, .t 70)]), [67, 70]),
 (.o 72 (.buildSlice [.str ⟨#[]⟩, .slice true []] 1 [(0, .t 71)]), [71]),
 (.o 73 (.append 40 2 (.t 66) (.t 72)), [66, 72]),
 (.o 9 (.move (.t 73)), [73])])
 .skip))
 (.seq (.regionK false [
 (.o 74 (.move (.t 9)), [1, 2, 3, 9, 65]),
 (.o 8 (.move (.t 74)), [74])])
 .ret)))))))⟩

/-- clockwork/clockworkref04.Has -/
@[irreducible] def a43_l0 : ACode :=
  (.seq (.seq (.regionK false [
 (.o 6 (.move (.t 5)), []),
 (.o 7 (.move (.t 0)), []),
 (.o 8 (.len (.t 7)), [7]),
 (.o 9 (.bin .lss (.t 6) (.t 8)), [6, 8])])
 (.cond (.t 9)
 .skip
 (.ghost (.forget [0, 1, 5, 9]) (.ghost .lower (.exit 0)))))
 (.seq (.block 1
 (.seq (.regionK false [
 (.o 12 (.move (.t 0)), [9]),
 (.o 13 (.move (.t 5)), []),
 (.o 14 (.indexAddr 1 (.t 12) (.t 13)), [12, 13]),
 (.o 15 (.load none (.t 14)), [14]),
 (.o 16 (.move (.t 1)), []),
 (.o 17 (.bin .eql (.t 15) (.t 16)), [15, 16])])
 (.cond (.t 17)
 (.seq (.regionK false [
 (.o 4 (.move (.b true)), [0, 1, 5, 17])])
 .ret)
 .skip)))
 (.regionK false [
 (.o 10 (.move (.t 5)), [17]),
 (.o 11 (.bin .add (.t 10) (.i 1)), [10]),
 (.o 5 (.move (.t 11)), [11])])))

def a43 : AFunc := ⟨18, 2, [.tmp 4],
  (.seq (.regionK false [
 (.o 4 (.move (.b false)), [4])])
 (.seq (.seq (.regionK false [
 (.o 5 (.move (.i 0)), [])])
 (.block 0
 (.loop
 (.ghost .lower a43_l0))))
 (.seq (.regionK false [
 (.o 4 (.move (.b false)), [])])
 .ret)))⟩

/-- clockwork/locktable.ascending -/
@[irreducible] def a44_l0 : ACode :=
  (.seq (.regionK false [
 (.o 8 (.bin .lss (.t 7) (.t 6)), [])])
 (.seq (.cond (.t 8)
 .skip
 (.ghost (.forget [0, 5, 6, 7, 8]) (.ghost .lower (.exit 0))))
 (.seq (.block 1
 (.seq (.regionK false [
 (.o 9 (.move (.t 7)), [8]),
 (.o 10 (.indexAddr 2 (.t 5) (.t 7)), []),
 (.o 11 (.load (some 2) (.t 10)), [10]),
 (.o 4 (.alloc [.int .i64 0, .bool false]), []),
 (.o 3 (.move (.t 9)), [9]),
 (.u (.store 2 (.t 4) (.t 11)), [11])])
 (.seq (.regionK true [
 (.o 12 (.fieldAddr 0 (.t 4)), []),
 (⟨some 13, .load none (.t 12), none, [0]⟩, [12]),
 (⟨some 14, .bin .lss (.t 13) (.i 0), none, [0, 1]⟩, [13]),
 (⟨some 15, .move (.t 14), none, [0, 1, 2]⟩, [14]),
 (⟨some 16, .move (.t 3), some (15, false), [0, 1, 2, 3]⟩, []),
 (⟨some 17, .bin .gtr (.t 16) (.i 0), some (15, false), [0, 1, 2, 3, 4]⟩, [16]),
 (⟨some 18, .move (.t 17), some (15, false), [0, 1, 2, 3, 4, 5]⟩, [17]),
 (⟨some 19, .fieldAddr 0 (.t 4), some (18, true), [0, 1, 2, 3, 4, 5, 6]⟩, []),
 (⟨some 20, .load none (.t 19), some (18, true), [0, 1, 2, 3, 4, 5, 6, 7]⟩, [19]),
 (⟨some 21, .move (.t 0), some (18, true), [0, 1, 2, 3, 4, 5, 6]⟩, []),
 (⟨some 22, .move (.t 3), some (18, true), [0, 1, 2, 3, 4, 5, 6]⟩, [3]),
 (⟨some 23, .bin .sub (.t 22) (.i 1), some (18, true), [0, 1, 2, 3, 4, 5, 6, 10]⟩, [22]),
 (⟨some 24, .indexAddr 2 (.t 21) (.t 23), some (18, true), [0, 1, 2, 3, 4, 5, 6, 9, 10, 11]⟩, [21, 23]),
 (⟨some 25, .fieldAddr 0 (.t 24), some (18, true), [0, 1, 2, 3, 4, 5, 6, 9, 10, 11, 12]⟩, [24]),
 (⟨some 26, .load none (.t 25), some (18, true), [0, 1, 2, 3, 4, 5, 6, 9, 10, 11, 12, 13]⟩, [25]),
 (⟨some 27, .bin .leq (.t 20) (.t 26), some (18, true), [0, 1, 2, 3, 4, 5, 6, 7, 8, 9, 10, 11, 12, 13, 14]⟩, [20, 26]),
 (⟨some 28, .pick (.t 18) (.t 27) (.b false), some (15, false), [0, 1, 2, 3, 4, 5, 6, 7, 8, 9, 10, 11, 12, 13, 14, 15]⟩, [18, 27]),
 (⟨some 29, .pick (.t 15) (.b true) (.t 28), none, [0, 1, 2, 3, 4, 5, 6, 7, 8, 9, 10, 11, 12, 13, 14, 15, 16]⟩, [15, 28])])
 (.cond (.t 29)
 (.seq (.regionK false [
 (.o 2 (.move (.b false)), [0, 5, 6, 7, 29])])
 .ret)
 .skip))))
 (.regionK false [
 (.o 30 (.bin .add (.t 7) (.i 1)), [29]),
 (.o 7 (.move (.t 30)), [30])]))))

def a44 : AFunc := ⟨31, 1, [.tmp 2],
  (.seq (.regionK false [
 (.o 2 (.move (.b false)), [2])])
 (.seq (.seq (.regionK false [
 (.o 5 (.move (.t 0)), []),
 (.o 6 (.len (.t 5)), []),
 (.o 7 (.move (.i 0)), [])])
 (.block 0
 (.loop
 (.ghost (.free [4]) (.ghost .lower a44_l0)))))
 (.seq (.regionK false [
 (.o 2 (.move (.b true)), [])])
 .ret)))⟩

/-- clockwork/keys.Valid -/
def a45 : AFunc := ⟨9, 1, [.tmp 2],
  (.seq (.regionK false [
 (.o 2 (.move (.b false)), [2])])
 (.seq (.regionK false [
 (.o 3 (.move (.t 0)), []),
 (.o 4 (.bin .neq (.t 3) (.c (.p (.str ⟨#[]⟩)))), [3]),
 (.o 5 (.move (.t 4)), [4]),
 (⟨some 6, .move (.t 0), some (5, true), []⟩, [0]),
 (⟨some 7, .call false 65 [.t 6, .c (.func 66 [])], some (5, true), []⟩, [6]),
 (.o 8 (.pick (.t 5) (.t 7) (.b false)), [5, 7]),
 (.o 2 (.move (.t 8)), [8])])
 .ret))⟩

/-- clockwork/clockworkref23.ascending -/
@[irreducible] def a46_l0 : ACode :=
  (.seq (.seq (.regionK false [
 (.o 4 (.move (.t 3)), []),
 (.o 5 (.move (.t 0)), []),
 (.o 6 (.len (.t 5)), [5]),
 (.o 7 (.bin .lss (.t 4) (.t 6)), [4, 6])])
 (.cond (.t 7)
 .skip
 (.ghost (.forget [0, 3, 7]) (.ghost .lower (.exit 0)))))
 (.seq (.block 1
 (.seq (.regionK true [
 (.o 10 (.move (.t 0)), [7]),
 (.o 11 (.move (.t 3)), []),
 (⟨some 12, .indexAddr 2 (.t 10) (.t 11), none, [0, 1]⟩, [10, 11]),
 (⟨some 13, .fieldAddr 0 (.t 12), none, [0, 1, 2]⟩, [12]),
 (⟨some 14, .load none (.t 13), none, [0, 1, 2, 3]⟩, [13]),
 (⟨some 15, .bin .lss (.t 14) (.i 0), none, [0, 1, 2, 3, 4]⟩, [14]),
 (⟨some 16, .move (.t 15), none, [0, 1, 2, 3, 4, 5]⟩, [15]),
 (⟨some 17, .move (.t 3), some (16, false), [0, 1, 2, 3, 4, 5, 6]⟩, []),
 (⟨some 18, .bin .gtr (.t 17) (.i 0), some (16, false), [0, 1, 2, 3, 4, 5, 6, 7]⟩, [17]),
 (⟨some 19, .move (.t 18), some (16, false), [0, 1, 2, 3, 4, 5, 6, 7, 8]⟩, [18]),
 (⟨some 20, .move (.t 0), some (19, true), [0, 1, 2, 3, 4, 5, 6, 7, 8, 9]⟩, []),
 (⟨some 21, .move (.t 3), some (19, true), [0, 1, 2, 3, 4, 5, 6, 7, 8, 9]⟩, []),
 (⟨some 22, .indexAddr 2 (.t 20) (.t 21), some (19, true), [0, 1, 2, 3, 4, 5, 6, 7, 8, 9, 10, 11]⟩, [20, 21]),
 (⟨some 23, .fieldAddr 0 (.t 22), some (19, true), [0, 1, 2, 3, 4, 5, 6, 7, 8, 9, 10, 11, 12]⟩, [22]),
 (⟨some 24, .load none (.t 23), some (19, true), [0, 1, 2, 3, 4, 5, 6, 7, 8, 9, 10, 11, 12, 13]⟩, [23]),
 (⟨some 25, .move (.t 0), some (19, true), [0, 1, 2, 3, 4, 5, 6, 7, 8, 9]⟩, []),
 (⟨some 26, .move (.t 3), some (19, true), [0, 1, 2, 3, 4, 5, 6, 7, 8, 9]⟩, []),
 (⟨some 27, .bin .sub (.t 26) (.i 1), some (19, true), [0, 1, 2, 3, 4, 5, 6, 7, 8, 9, 16]⟩, [26]),
 (⟨some 28, .indexAddr 2 (.t 25) (.t 27), some (19, true), [0, 1, 2, 3, 4, 5, 6, 7, 8, 9, 15, 16, 17]⟩, [25, 27]),
 (⟨some 29, .fieldAddr 0 (.t 28), some (19, true), [0, 1, 2, 3, 4, 5, 6, 7, 8, 9, 15, 16, 17, 18]⟩, [28]),
 (⟨some 30, .load none (.t 29), some (19, true), [0, 1, 2, 3, 4, 5, 6, 7, 8, 9, 15, 16, 17, 18, 19]⟩, [29]),
 (⟨some 31, .bin .leq (.t 24) (.t 30), some (19, true), [0, 1, 2, 3, 4, 5, 6, 7, 8, 9, 10, 11, 12, 13, 14, 15, 16, 17, 18, 19, 20]⟩, [24, 30]),
 (⟨some 32, .pick (.t 19) (.t 31) (.b false), some (16, false), [0, 1, 2, 3, 4, 5, 6, 7, 8, 9, 10, 11, 12, 13, 14, 15, 16, 17, 18, 19, 20, 21]⟩, [19, 31]),
 (⟨some 33, .pick (.t 16) (.b true) (.t 32), none, [0, 1, 2, 3, 4, 5, 6, 7, 8, 9, 10, 11, 12, 13, 14, 15, 16, 17, 18, 19, 20, 21, 22]⟩, [16, 32])])
 (.cond (.t 33)
 (.seq (.regionK false [
 (.o 2 (.move (.b false)), [0, 3, 33])])
 .ret)
 .skip)))
 (.regionK false [
 (.o 8 (.move (.t 3)), [33]),
 (.o 9 (.bin .add (.t 8) (.i 1)), [8]),
 (.o 3 (.move (.t 9)), [9])])))

def a46 : AFunc := ⟨34, 1, [.tmp 2],
  (.seq (.regionK false [
 (.o 2 (.move (.b false)), [2])])
 (.seq (.seq (.regionK false [
 (.o 3 (.move (.i 0)), [])])
 (.block 0
 (.loop
 (.ghost .lower a46_l0))))
 (.seq (.regionK false [
 (.o 2 (.move (.b true)), [])])
 .ret)))⟩

/-- clockwork/clockworkref04.Valid -/
@[irreducible] def a47_l0 : ACode :=
  (.seq (.seq (.regionK false [
 (.o 5 (.move (.t 3)), []),
 (.o 6 (.move (.t 0)), []),
 (.o 7 (.lenS (.t 6)), [6]),
 (.o 8 (.bin .lss (.t 5) (.t 7)), [5, 7])])
 (.cond (.t 8)
 .skip
 (.ghost (.forget [3, 8]) (.ghost .lower (.exit 0)))))
 (.seq (.block 1
 (.seq (.regionK false [
 (.o 11 (.move (.t 0)), [8]),
 (.o 12 (.move (.t 3)), []),
 (.o 13 (.index (.t 11) (.t 12)), [11, 12]),
 (.o 4 (.move (.t 13)), [13])])
 (.seq (.regionK false [
 (.o 14 (.move (.t 4)), []),
 (.o 15 (.bin .lss (.t 14) (.c (.p (.int .u8 97)))), [14]),
 (.o 16 (.move (.t 15)), [15]),
 (⟨some 17, .move (.t 4), some (16, false), []⟩, []),
 (⟨some 18, .bin .gtr (.t 17) (.c (.p (.int .u8 122))), some (16, false), []⟩, [17]),
 (.o 19 (.pick (.t 16) (.b true) (.t 18)), [16, 18]),
 (.o 20 (.move (.t 19)), [19]),
 (⟨some 21, .move (.t 4), some (20, true), []⟩, []),
 (⟨some 22, .bin .lss (.t 21) (.c (.p (.int .u8 48))), some (20, true), []⟩, [21]),
 (⟨some 23, .move (.t 22), some (20, true), []⟩, [22]),
 (⟨some 24, .move (.t 4), some (23, false), []⟩, []),
 (⟨some 25, .bin .gtr (.t 24) (.c (.p (.int .u8 57))), some (23, false), []⟩, [24]),
 (⟨some 26, .pick (.t 23) (.b true) (.t 25), some (20, true), []⟩, [23, 25]),
 (.o 27 (.pick (.t 20) (.t 26) (.b false)), [20, 26]),
 (.o 28 (.move (.t 27)), [27]),
 (⟨some 29, .move (.t 4), some (28, true), []⟩, []),
 (⟨some 30, .bin .neq (.t 29) (.c (.p (.int .u8 47))), some (28, true), []⟩, [29]),
 (.o 31 (.pick (.t 28) (.t 30) (.b false)), [28, 30]),
 (.o 32 (.move (.t 31)), [31]),
 (⟨some 33, .move (.t 4), some (32, true), []⟩, []),
 (⟨some 34, .bin .neq (.t 33) (.c (.p (.int .u8 46))), some (32, true), []⟩, [33]),
 (.o 35 (.pick (.t 32) (.t 34) (.b false)), [32, 34]),
 (.o 36 (.move (.t 35)), [35]),
 (⟨some 37, .move (.t 4), some (36, true), []⟩, []),
 (⟨some 38, .bin .neq (.t 37) (.c (.p (.int .u8 95))), some (36, true), []⟩, [37]),
 (.o 39 (.pick (.t 36) (.t 38) (.b false)), [36, 38]),
 (.o 40 (.move (.t 39)), [39]),
 (⟨some 41, .move (.t 4), some (40, true), []⟩, [4]),
 (⟨some 42, .bin .neq (.t 41) (.c (.p (.int .u8 45))), some (40, true), []⟩, [41]),
 (.o 43 (.pick (.t 40) (.t 42) (.b false)), [40, 42])])
 (.cond (.t 43)
 (.seq (.regionK false [
 (.o 2 (.move (.b false)), [0, 3, 43])])
 .ret)
 .skip))))
 (.regionK false [
 (.o 9 (.move (.t 3)), [43]),
 (.o 10 (.bin .add (.t 9) (.i 1)), [9]),
 (.o 3 (.move (.t 10)), [10])])))

def a47 : AFunc := ⟨52, 1, [.tmp 2],
  (.seq (.regionK false [
 (.o 2 (.move (.b false)), [2])])
 (.seq (.seq (.regionK false [
 (.o 3 (.move (.i 0)), [])])
 (.block 0
 (.loop
 (.ghost .lower a47_l0))))
 (.seq (.regionK false [
 (.o 44 (.move (.t 0)), []),
 (.o 45 (.lenS (.t 44)), [44]),
 (.o 46 (.bin .geq (.t 45) (.i 1)), [45]),
 (.o 47 (.move (.t 46)), [46]),
 (⟨some 48, .move (.t 0), some (47, true), []⟩, [0]),
 (⟨some 49, .lenS (.t 48), some (47, true), []⟩, [48]),
 (⟨some 50, .bin .leq (.t 49) (.i 24), some (47, true), []⟩, [49]),
 (.o 51 (.pick (.t 47) (.t 50) (.b false)), [47, 50]),
 (.o 2 (.move (.t 51)), [51])])
 .ret)))⟩

/-- clockwork/clockworkref23.sameReqs -/
@[irreducible] def a48_l0 : ACode :=
  (.seq (.seq (.regionK false [
 (.o 11 (.move (.t 5)), []),
 (.o 12 (.move (.t 0)), []),
 (.o 13 (.len (.t 12)), [12]),
 (.o 14 (.bin .lss (.t 11) (.t 13)), [11, 13])])
 (.cond (.t 14)
 .skip
 (.ghost (.forget [0, 1, 5, 14]) (.ghost .lower (.exit 0)))))
 (.seq (.block 1
 (.seq (.regionK true [
 (.o 17 (.move (.t 0)), [14]),
 (.o 18 (.move (.t 5)), []),
 (⟨some 19, .indexAddr 2 (.t 17) (.t 18), none, [0, 1]⟩, [17, 18]),
 (⟨some 20, .load (some 2) (.t 19), none, [0, 1, 2]⟩, [19]),
 (.o 21 (.move (.t 1)), []),
 (.o 22 (.move (.t 5)), []),
 (⟨some 23, .indexAddr 2 (.t 21) (.t 22), none, [4, 5]⟩, [21, 22]),
 (⟨some 24, .load (some 2) (.t 23), none, [4, 5, 6]⟩, [23]),
 (⟨some 25, .eqagg true [(0, 0), (1, 1)] (.t 20) (.t 24), none, [0, 1, 2, 3, 4, 5, 6, 7]⟩, [20, 24])])
 (.cond (.t 25)
 (.seq (.regionK false [
 (.o 4 (.move (.b false)), [0, 1, 5, 25])])
 .ret)
 .skip)))
 (.regionK false [
 (.o 15 (.move (.t 5)), [25]),
 (.o 16 (.bin .add (.t 15) (.i 1)), [15]),
 (.o 5 (.move (.t 16)), [16])])))

def a48 : AFunc := ⟨26, 2, [.tmp 4],
  (.seq (.regionK false [
 (.o 4 (.move (.b false)), [4])])
 (.seq (.seq (.regionK false [
 (.o 6 (.move (.t 0)), []),
 (.o 7 (.len (.t 6)), [6]),
 (.o 8 (.move (.t 1)), []),
 (.o 9 (.len (.t 8)), [8]),
 (.o 10 (.bin .neq (.t 7) (.t 9)), [7, 9])])
 (.cond (.t 10)
 (.seq (.regionK false [
 (.o 4 (.move (.b false)), [0, 1, 10])])
 .ret)
 .skip))
 (.seq (.seq (.regionK false [
 (.o 5 (.move (.i 0)), [10])])
 (.block 0
 (.loop
 (.ghost .lower a48_l0))))
 (.seq (.regionK false [
 (.o 4 (.move (.b true)), [])])
 .ret))))⟩

/-- clockwork/locktable.waits -/
@[irreducible] def a49_l0 : ACode :=
  (.seq (.regionK false [
 (.o 16 (.bin .lss (.t 15) (.t 14)), [])])
 (.seq (.cond (.t 16)
 .skip
 (.ghost (.forget [1, 13, 14, 15, 16]) (.ghost .lower (.exit 0))))
 (.seq (.block 1
 (.seq (.regionK false [
 (.o 17 (.indexAddr 2 (.t 13) (.t 15)), [16]),
 (.o 18 (.load (some 2) (.t 17)), [17]),
 (.o 7 (.alloc [.str ⟨#[]⟩, .slice true []]), []),
 (.u (.store 2 (.t 7) (.t 18)), [18])])
 (.regionK false [
 (.o 19 (.move (.t 5)), []),
 (.o 20 (.fieldAddr 1 (.t 7)), []),
 (.o 21 (.load none (.t 20)), [20]),
 (.o 22 (.move (.t 1)), []),
 (.o 23 (.call true 67 [.t 19, .t 21, .t 22]), [19, 21, 22]),
 (.o 5 (.move (.t 23)), [23])])))
 (.regionK false [
 (.o 24 (.bin .add (.t 15) (.i 1)), []),
 (.o 15 (.move (.t 24)), [24])]))))

def a49 : AFunc := ⟨29, 2, [.tmp 4],
  (.seq (.regionK false [
 (.o 2 (.box (.t 0)), [0]),
 (.o 4 (.move (.c (.p (.slice true [])))), [4])])
 (.seq (.regionK false [
 (.o 8 (.fieldAddr 0 (.t 2)), []),
 (.o 9 (.load none (.t 8)), [8]),
 (.o 10 (.move (.t 1)), []),
 (.o 11 (.call true 67 [.c (.p (.slice true [])), .t 9, .t 10]), [9, 10]),
 (.o 5 (.move (.t 11)), [11])])
 (.seq (.seq (.regionK false [
 (.o 12 (.fieldAddr 1 (.t 2)), []),
 (.o 13 (.load none (.t 12)), [12]),
 (.o 14 (.len (.t 13)), []),
 (.o 15 (.move (.i 0)), [])])
 (.block 0
 (.loop
 (.ghost (.free [2, 7]) (.ghost .lower a49_l0)))))
 (.seq (.regionK false [
 (.o 25 (.move (.t 5)), []),
 (.o 26 (.call true 68 [.t 25]), [25, 26])])
 (.seq (.regionK false [
 (.o 27 (.move (.t 5)), [5]),
 (.o 28 (.call true 69 [.t 27]), [27]),
 (.o 4 (.move (.t 28)), [28])])
 .ret)))))⟩

/-- clockwork/clockworkref23.blockers -/
@[irreducible] def a50_l0 : ACode :=
  (.seq (.seq (.regionK false [
 (.o 11 (.move (.t 7)), []),
 (.o 12 (.move (.t 5)), []),
 (.o 13 (.bin .lss (.t 11) (.t 12)), [11, 12])])
 (.cond (.t 13)
 .skip
 (.ghost (.forget [0, 5, 7, 13]) (.exit 0))))
 (.seq (.block 1
 (.seq (.regionK false [
 (.o 16 (.move (.t 0)), [13]),
 (.o 17 (.move (.t 7)), []),
 (.o 18 (.indexAddr 2 (.t 16) (.t 17)), [16, 17]),
 (.o 19 (.fieldAddr 1 (.t 18)), [18]),
 (.o 20 (.load none (.t 19)), [19]),
 (.o 21 (.move (.t 20)), [20]),
 (⟨some 22, .move (.t 0), some (21, false), []⟩, []),
 (⟨some 23, .move (.t 5), some (21, false), []⟩, []),
 (⟨some 24, .indexAddr 2 (.t 22) (.t 23), some (21, false), []⟩, [22, 23]),
 (⟨some 25, .fieldAddr 1 (.t 24), some (21, false), []⟩, [24]),
 (⟨some 26, .load none (.t 25), some (21, false), []⟩, [25]),
 (.o 27 (.pick (.t 21) (.b true) (.t 26)), [21, 26])])
 (.cond (.t 27)
 (.regionK false [
 (.o 28 (.move (.t 6)), [27]),
 (.o 29 (.move (.t 0)), []),
 (.o 30 (.move (.t 7)), []),
 (.o 31 (.indexAddr 2 (.t 29) (.t 30)), [29, 30]),
 (.o 32 (.fieldAddr 0 (.t 31)), [31]),
 (.o 33 (.load none (.t 32)), [32]),
 (.o 34 (.buildSlice [.int .i64 0] 1 [(0, .t 33)]), [33]),
 (.o 35 (.append 8 1 (.t 28) (.t 34)), [28, 34]),
 (.o 6 (.move (.t 35)), [35])])
 .skip)))
 (.regionK false [
 (.o 14 (.move (.t 7)), [27]),
 (.o 15 (.bin .add (.t 14) (.i 1)), [14]),
 (.o 7 (.move (.t 15)), [15])])))

def a50 : AFunc := ⟨37, 2, [.tmp 4],
  (.seq (.regionK false [
 (.o 4 (.move (.c (.p (.slice true [])))), [4])])
 (.seq (.regionK false [
 (.o 8 (.move (.t 0)), []),
 (.o 9 (.move (.t 1)), [1]),
 (.o 10 (.call false 39 [.t 8, .t 9]), [8, 9]),
 (.o 5 (.move (.t 10)), [10])])
 (.seq (.regionK false [
 (.o 6 (.move (.c (.p (.slice true [])))), [])])
 (.ghost (.own 1 6) (.seq (.seq (.regionK false [
 (.o 7 (.move (.i 0)), [])])
 (.block 0
 (.loop
 a50_l0)))
 (.seq (.regionK false [
 (.o 36 (.move (.t 6)), [6]),
 (.o 4 (.move (.t 36)), [36])])
 .ret))))))⟩

/-- clockwork/clockworkref23.has -/
@[irreducible] def a51_l0 : ACode :=
  (.seq (.seq (.regionK false [
 (.o 6 (.move (.t 5)), []),
 (.o 7 (.move (.t 0)), []),
 (.o 8 (.len (.t 7)), [7]),
 (.o 9 (.bin .lss (.t 6) (.t 8)), [6, 8])])
 (.cond (.t 9)
 .skip
 (.ghost (.forget [0, 1, 5, 9]) (.ghost .lower (.exit 0)))))
 (.seq (.block 1
 (.seq (.regionK false [
 (.o 12 (.move (.t 0)), [9]),
 (.o 13 (.move (.t 5)), []),
 (.o 14 (.indexAddr 1 (.t 12) (.t 13)), [12, 13]),
 (.o 15 (.load none (.t 14)), [14]),
 (.o 16 (.move (.t 1)), []),
 (.o 17 (.bin .eql (.t 15) (.t 16)), [15, 16])])
 (.cond (.t 17)
 (.seq (.regionK false [
 (.o 4 (.move (.b true)), [0, 1, 5, 17])])
 .ret)
 .skip)))
 (.regionK false [
 (.o 10 (.move (.t 5)), [17]),
 (.o 11 (.bin .add (.t 10) (.i 1)), [10]),
 (.o 5 (.move (.t 11)), [11])])))

def a51 : AFunc := ⟨18, 2, [.tmp 4],
  (.seq (.regionK false [
 (.o 4 (.move (.b false)), [4])])
 (.seq (.seq (.regionK false [
 (.o 5 (.move (.i 0)), [])])
 (.block 0
 (.loop
 (.ghost .lower a51_l0))))
 (.seq (.regionK false [
 (.o 4 (.move (.b false)), [])])
 .ret)))⟩

/-- clockwork/locktable.without -/
def a52 : AFunc := ⟨9, 2, [.tmp 4],
  (.seq (.regionK false [
 (.o 3 (.box (.t 1)), [1]),
 (.o 4 (.move (.c (.p (.slice true [])))), [4])])
 (.seq (.regionK false [
 (.o 5 (.move (.t 0)), [0]),
 (.o 6 (.call true 58 [.t 5]), [5]),
 (.o 7 (.mkfunc 71 [.t 3]), []),
 (.o 8 (.call true 70 [.t 6, .t 7]), [6, 7]),
 (.o 4 (.move (.t 8)), [8])])
 .ret))⟩

/-- clockwork/clockworkref23.without -/
@[irreducible] def a53_l0 : ACode :=
  (.seq (.seq (.regionK false [
 (.o 7 (.move (.t 6)), []),
 (.o 8 (.move (.t 0)), []),
 (.o 9 (.len (.t 8)), [8]),
 (.o 10 (.bin .lss (.t 7) (.t 9)), [7, 9])])
 (.cond (.t 10)
 .skip
 (.ghost (.forget [0, 1, 6, 10]) (.ghost .lower (.exit 0)))))
 (.seq (.block 1
 (.seq (.regionK false [
 (.o 13 (.move (.t 0)), [10]),
 (.o 14 (.move (.t 6)), []),
 (.o 15 (.indexAddr 2 (.t 13) (.t 14)), [13, 14]),
 (.o 16 (.fieldAddr 0 (.t 15)), [15]),
 (.o 17 (.load none (.t 16)), [16]),
 (.o 18 (.move (.t 1)), []),
 (.o 19 (.bin .neq (.t 17) (.t 18)), [17, 18])])
 (.cond (.t 19)
 (.regionK false [
 (.o 20 (.move (.t 5)), [19]),
 (.o 21 (.move (.t 0)), []),
 (.o 22 (.move (.t 6)), []),
 (.o 23 (.indexAddr 2 (.t 21) (.t 22)), [21, 22]),
 (.o 24 (.load (some 2) (.t 23)), [23]),
 (.o 25 (.buildSlice [.int .i64 0, .bool false] 1 [(0, .t 24)]), [24]),
 (.o 26 (.append 16 2 (.t 20) (.t 25)), [20, 25]),
 (.o 5 (.move (.t 26)), [26])])
 .skip)))
 (.regionK false [
 (.o 11 (.move (.t 6)), [19]),
 (.o 12 (.bin .add (.t 11) (.i 1)), [11]),
 (.o 6 (.move (.t 12)), [12])])))

def a53 : AFunc := ⟨28, 2, [.tmp 4],
  (.seq (.regionK false [
 (.o 4 (.move (.c (.p (.slice true [])))), [4])])
 (.seq (.regionK false [
 (.o 5 (.move (.c (.p (.slice true [])))), [])])
 (.ghost (.own 2 5) (.seq (.seq (.regionK false [
 (.o 6 (.move (.i 0)), [])])
 (.block 0
 (.loop
 (.ghost .lower a53_l0))))
 (.seq (.regionK false [
 (.o 27 (.move (.t 5)), [5]),
 (.o 4 (.move (.t 27)), [27])])
 .ret)))))⟩

/-- clockwork/clockworkref19.meet -/
@[irreducible] def a54_l0 : ACode :=
  (.seq (.seq (.regionK false [
 (.o 6 (.move (.t 5)), []),
 (.o 7 (.move (.t 0)), []),
 (.o 8 (.len (.t 7)), [7]),
 (.o 9 (.bin .lss (.t 6) (.t 8)), [6, 8])])
 (.cond (.t 9)
 .skip
 (.ghost (.forget [0, 1, 5, 9]) (.ghost .lower (.exit 0)))))
 (.seq (.block 1
 (.seq (.regionK false [
 (.o 12 (.move (.t 1)), [9]),
 (.o 13 (.move (.t 0)), []),
 (.o 14 (.move (.t 5)), []),
 (.o 15 (.indexAddr 1 (.t 13) (.t 14)), [13, 14]),
 (.o 16 (.load none (.t 15)), [15]),
 (.o 17 (.call false 43 [.t 12, .t 16]), [12, 16])])
 (.cond (.t 17)
 (.seq (.regionK false [
 (.o 4 (.move (.b true)), [0, 1, 5, 17])])
 .ret)
 .skip)))
 (.regionK false [
 (.o 10 (.move (.t 5)), [17]),
 (.o 11 (.bin .add (.t 10) (.i 1)), [10]),
 (.o 5 (.move (.t 11)), [11])])))

def a54 : AFunc := ⟨18, 2, [.tmp 4],
  (.seq (.regionK false [
 (.o 4 (.move (.b false)), [4])])
 (.seq (.seq (.regionK false [
 (.o 5 (.move (.i 0)), [])])
 (.block 0
 (.loop
 (.ghost .lower a54_l0))))
 (.seq (.regionK false [
 (.o 4 (.move (.b false)), [])])
 .ret)))⟩

/-- clockwork/footprint.ascending -/
@[irreducible] def a55_l0 : ACode :=
  (.seq (.regionK false [
 (.o 8 (.bin .lss (.t 7) (.t 6)), [])])
 (.seq (.cond (.t 8)
 .skip
 (.ghost (.forget [5, 6, 7, 8]) (.ghost .lower (.exit 0))))
 (.seq (.block 1
 (.seq (.regionK false [
 (.o 9 (.move (.t 7)), [8]),
 (.o 10 (.indexAddr 1 (.t 5) (.t 7)), []),
 (.o 11 (.load none (.t 10)), [10]),
 (.o 3 (.move (.t 9)), [9]),
 (.o 4 (.move (.t 11)), [11])])
 (.seq (.regionK false [
 (.o 12 (.move (.t 4)), []),
 (.o 13 (.call false 45 [.t 12]), [12]),
 (.o 14 (.un .not (.t 13)), [13]),
 (.o 15 (.move (.t 14)), [14]),
 (⟨some 16, .move (.t 3), some (15, false), []⟩, []),
 (⟨some 17, .bin .gtr (.t 16) (.i 0), some (15, false), []⟩, [16]),
 (⟨some 18, .move (.t 17), some (15, false), []⟩, [17]),
 (⟨some 19, .move (.t 4), some (18, true), []⟩, [4]),
 (⟨some 20, .move (.t 0), some (18, true), []⟩, []),
 (⟨some 21, .move (.t 3), some (18, true), []⟩, [3]),
 (⟨some 22, .bin .sub (.t 21) (.i 1), some (18, true), []⟩, [21]),
 (⟨some 23, .indexAddr 1 (.t 20) (.t 22), some (18, true), []⟩, [20, 22]),
 (⟨some 24, .load none (.t 23), some (18, true), []⟩, [23]),
 (⟨some 25, .bin .leq (.t 19) (.t 24), some (18, true), []⟩, [19, 24]),
 (⟨some 26, .pick (.t 18) (.t 25) (.b false), some (15, false), []⟩, [18, 25]),
 (.o 27 (.pick (.t 15) (.b true) (.t 26)), [15, 26])])
 (.cond (.t 27)
 (.seq (.regionK false [
 (.o 2 (.move (.b false)), [0, 5, 6, 7, 27])])
 .ret)
 .skip))))
 (.regionK false [
 (.o 28 (.bin .add (.t 7) (.i 1)), [27]),
 (.o 7 (.move (.t 28)), [28])]))))

def a55 : AFunc := ⟨32, 1, [.tmp 2],
  (.seq (.regionK false [
 (.o 2 (.move (.b false)), [2])])
 (.seq (.seq (.regionK false [
 (.o 5 (.move (.t 0)), []),
 (.o 6 (.len (.t 5)), []),
 (.o 7 (.move (.i 0)), [])])
 (.block 0
 (.loop
 (.ghost .lower a55_l0))))
 (.seq (.regionK false [
 (.o 29 (.move (.t 0)), [0]),
 (.o 30 (.len (.t 29)), [29]),
 (.o 31 (.bin .leq (.t 30) (.i 64)), [30]),
 (.o 2 (.move (.t 31)), [31])])
 .ret)))⟩

/-- slices.IndexFunc[[]clockwork/api.LockReq,clockwork/api.LockReq] -/
@[irreducible] def a56_l0 : ACode :=
  (.seq (.regionK false [
 (.o 9 (.bin .lss (.t 8) (.t 7)), [])])
 (.seq (.cond (.t 9)
 .skip
 (.ghost (.forget [0, 1, 7, 8, 9]) (.ghost .lower (.exit 0))))
 (.seq (.block 1
 (.seq (.regionK false [
 (.o 10 (.move (.t 8)), [9]),
 (.o 5 (.move (.t 10)), [10])])
 (.seq (.regionK false [
 (.o 11 (.move (.t 1)), []),
 (.o 12 (.move (.t 0)), []),
 (.o 13 (.move (.t 5)), []),
 (.o 14 (.indexAddr 2 (.t 12) (.t 13)), [12, 13]),
 (.o 15 (.load (some 2) (.t 14)), [14]),
 (.o 16 (.callv false (.t 11) [.t 15]), [11, 15])])
 (.cond (.t 16)
 (.seq (.regionK false [
 (.o 17 (.move (.t 5)), [0, 1, 5, 7, 8, 16]),
 (.o 4 (.move (.t 17)), [17])])
 .ret)
 .skip))))
 (.regionK false [
 (.o 18 (.bin .add (.t 8) (.i 1)), [5, 16]),
 (.o 8 (.move (.t 18)), [18])]))))

def a56 : AFunc := ⟨19, 2, [.tmp 4],
  (.seq (.regionK false [
 (.o 4 (.move (.i 0)), [4])])
 (.seq (.seq (.regionK false [
 (.o 6 (.move (.t 0)), []),
 (.o 7 (.len (.t 6)), [6]),
 (.o 8 (.move (.i 0)), [])])
 (.block 0
 (.loop
 (.ghost .lower a56_l0))))
 (.seq (.regionK false [
 (.o 4 (.move (.i (-1))), [])])
 .ret)))⟩

/-- clockwork/locktable.index$1 -/
def a57 : AFunc := ⟨8, 2, [.tmp 3],
  (.seq (.regionK false [
 (.o 2 (.box (.t 0)), [0]),
 (.o 3 (.move (.b false)), [3])])
 (.seq (.regionK false [
 (.o 4 (.fieldAddr 0 (.t 2)), []),
 (.o 5 (.load none (.t 4)), [4]),
 (.o 6 (.load none (.t 1)), [1]),
 (.o 7 (.bin .eql (.t 5) (.t 6)), [5, 6]),
 (.o 3 (.move (.t 7)), [7])])
 .ret))⟩

/-- clockwork/locktable.copied -/
def a58 : AFunc := ⟨14, 1, [.tmp 2],
  (.seq (.regionK false [
 (.o 2 (.move (.c (.p (.slice true [])))), [2])])
 (.seq (.regionK false [
 (.o 4 (.move (.t 0)), []),
 (.o 5 (.len (.t 4)), [4]),
 (.o 6 (.move (.t 0)), []),
 (.o 7 (.len (.t 6)), [6]),
 (.o 8 (.bin .add (.t 7) (.i 1)), [7]),
 (.o 9 (.makeSlice [.int .i64 0, .bool false] 16 (.t 5) (.t 8)), [5, 8]),
 (.o 3 (.move (.t 9)), [9])])
 (.seq (.regionK false [
 (.o 10 (.move (.t 3)), []),
 (.o 11 (.move (.t 0)), [0]),
 (.o 12 (.copy 2 (.t 10) (.t 11)), [10, 11, 12])])
 (.seq (.regionK false [
 (.o 13 (.move (.t 3)), [3]),
 (.o 2 (.move (.t 13)), [13])])
 .ret))))⟩

/-- slices.BinarySearchFunc[[]clockwork/api.LockQueue,clockwork/api.LockQueue,string] -/
@[irreducible] def a59_l0 : ACode :=
  (.seq (.seq (.regionK false [
 (.o 15 (.move (.t 9)), []),
 (.o 16 (.move (.t 10)), []),
 (.o 17 (.bin .lss (.t 15) (.t 16)), [15, 16])])
 (.cond (.t 17)
 .skip
 (.ghost (.forget [10, 17]) (.ghost .lower (.exit 0)))))
 (.block 1
 (.seq (.regionK false [
 (.o 18 (.move (.t 9)), [17]),
 (.o 19 (.move (.t 10)), []),
 (.o 20 (.bin .add (.t 18) (.t 19)), [18, 19]),
 (.o 21 (.conv .u64 (.t 20)), [20]),
 (.o 22 (.bin .shr (.t 21) (.c (.p (.int .u64 1)))), [21]),
 (.o 23 (.conv .i64 (.t 22)), [22]),
 (.o 11 (.move (.t 23)), [23])])
 (.seq (.regionK false [
 (.o 24 (.move (.t 2)), []),
 (.o 25 (.move (.t 0)), []),
 (.o 26 (.move (.t 11)), []),
 (.o 27 (.indexAddr 2 (.t 25) (.t 26)), [25, 26]),
 (.o 28 (.load (some 2) (.t 27)), [27]),
 (.o 29 (.move (.t 1)), []),
 (.o 30 (.callv false (.t 24) [.t 28, .t 29]), [24, 28, 29]),
 (.o 31 (.bin .lss (.t 30) (.i 0)), [30])])
 (.cond (.t 31)
 (.regionK false [
 (.o 32 (.move (.t 11)), [11, 31]),
 (.o 33 (.bin .add (.t 32) (.i 1)), [32]),
 (.o 9 (.move (.t 33)), [33])])
 (.regionK false [
 (.o 34 (.move (.t 11)), [11, 31]),
 (.o 10 (.move (.t 34)), [34])]))))))

def a59 : AFunc := ⟨49, 3, [.tmp 6, .tmp 7],
  (.seq (.regionK false [
 (.o 6 (.move (.i 0)), [6]),
 (.o 7 (.move (.b false)), [7])])
 (.seq (.regionK false [
 (.o 12 (.move (.t 0)), []),
 (.o 13 (.len (.t 12)), [12]),
 (.o 8 (.move (.t 13)), [13])])
 (.seq (.regionK false [
 (.o 14 (.move (.t 8)), []),
 (.o 9 (.move (.i 0)), []),
 (.o 10 (.move (.t 14)), [14])])
 (.seq (.block 0
 (.loop
 (.ghost .lower a59_l0)))
 (.seq (.regionK false [
 (.o 35 (.move (.t 9)), []),
 (.o 36 (.move (.t 9)), []),
 (.o 37 (.move (.t 8)), [8]),
 (.o 38 (.bin .lss (.t 36) (.t 37)), [36, 37]),
 (.o 39 (.move (.t 38)), [38]),
 (⟨some 40, .move (.t 2), some (39, true), []⟩, [2]),
 (⟨some 41, .move (.t 0), some (39, true), []⟩, [0]),
 (⟨some 42, .move (.t 9), some (39, true), []⟩, [9]),
 (⟨some 43, .indexAddr 2 (.t 41) (.t 42), some (39, true), []⟩, [41, 42]),
 (⟨some 44, .load (some 2) (.t 43), some (39, true), []⟩, [43]),
 (⟨some 45, .move (.t 1), some (39, true), []⟩, [1]),
 (⟨some 46, .callv false (.t 40) [.t 44, .t 45], some (39, true), []⟩, [40, 44, 45]),
 (⟨some 47, .bin .eql (.t 46) (.i 0), some (39, true), []⟩, [46]),
 (.o 48 (.pick (.t 39) (.t 47) (.b false)), [39, 47]),
 (.o 6 (.move (.t 35)), [35]),
 (.o 7 (.move (.t 48)), [48])])
 .ret)))))⟩

/-- clockwork/locktable.add$1 -/
def a60 : AFunc := ⟨15, 2, [.tmp 4],
  (.seq (.regionK false [
 (.o 2 (.box (.t 0)), [0]),
 (.o 4 (.move (.i 0)), [4])])
 (.seq (.block 0
 (.seq (.regionK false [
 (.o 6 (.fieldAddr 0 (.t 2)), []),
 (.o 7 (.load none (.t 6)), [6]),
 (.o 8 (.move (.t 1)), []),
 (.o 9 (.bin .lss (.t 7) (.t 8)), [7, 8]),
 (.o 5 (.move (.t 9)), [9])])
 (.cond (.t 5)
 (.seq (.regionK false [
 (.o 4 (.move (.i (-1))), [1, 5])])
 .ret)
 (.seq (.regionK false [
 (.o 11 (.fieldAddr 0 (.t 2)), [5]),
 (.o 12 (.load none (.t 11)), [11]),
 (.o 13 (.move (.t 1)), [1]),
 (.o 14 (.bin .gtr (.t 12) (.t 13)), [12, 13]),
 (.o 10 (.move (.t 14)), [14])])
 (.cond (.t 10)
 (.seq (.regionK false [
 (.o 4 (.move (.i 1)), [10])])
 .ret)
 .skip)))))
 (.seq (.regionK false [
 (.o 4 (.move (.i 0)), [10])])
 .ret)))⟩

/-- slices.Index[[]string,string] -/
@[irreducible] def a62_l0 : ACode :=
  (.seq (.regionK false [
 (.o 9 (.bin .lss (.t 8) (.t 7)), [])])
 (.seq (.cond (.t 9)
 .skip
 (.ghost (.forget [0, 1, 7, 8, 9]) (.ghost .lower (.exit 0))))
 (.seq (.block 1
 (.seq (.regionK false [
 (.o 10 (.move (.t 8)), [9]),
 (.o 5 (.move (.t 10)), [10])])
 (.seq (.regionK false [
 (.o 11 (.move (.t 1)), []),
 (.o 12 (.move (.t 0)), []),
 (.o 13 (.move (.t 5)), []),
 (.o 14 (.indexAddr 1 (.t 12) (.t 13)), [12, 13]),
 (.o 15 (.load none (.t 14)), [14]),
 (.o 16 (.bin .eql (.t 11) (.t 15)), [11, 15])])
 (.cond (.t 16)
 (.seq (.regionK false [
 (.o 17 (.move (.t 5)), [0, 1, 5, 7, 8, 16]),
 (.o 4 (.move (.t 17)), [17])])
 .ret)
 .skip))))
 (.regionK false [
 (.o 18 (.bin .add (.t 8) (.i 1)), [5, 16]),
 (.o 8 (.move (.t 18)), [18])]))))

def a62 : AFunc := ⟨19, 2, [.tmp 4],
  (.seq (.regionK false [
 (.o 4 (.move (.i 0)), [4])])
 (.seq (.seq (.regionK false [
 (.o 6 (.move (.t 0)), []),
 (.o 7 (.len (.t 6)), [6]),
 (.o 8 (.move (.i 0)), [])])
 (.block 0
 (.loop
 (.ghost .lower a62_l0))))
 (.seq (.regionK false [
 (.o 4 (.move (.i (-1))), [])])
 .ret)))⟩

/-- clockwork/clockworkref04.Ascending -/
@[irreducible] def a63_l0 : ACode :=
  (.seq (.seq (.regionK false [
 (.o 4 (.move (.t 3)), []),
 (.o 5 (.move (.t 0)), []),
 (.o 6 (.len (.t 5)), [5]),
 (.o 7 (.bin .lss (.t 4) (.t 6)), [4, 6])])
 (.cond (.t 7)
 .skip
 (.ghost (.forget [0, 3, 7]) (.ghost .lower (.exit 0)))))
 (.seq (.block 1
 (.seq (.regionK true [
 (.o 10 (.move (.t 0)), [7]),
 (.o 11 (.move (.t 3)), []),
 (⟨some 12, .indexAddr 1 (.t 10) (.t 11), none, [0, 1]⟩, [10, 11]),
 (⟨some 13, .load none (.t 12), none, [0, 1, 2]⟩, [12]),
 (⟨some 14, .call false 47 [.t 13], none, [0, 1, 2, 3]⟩, [13]),
 (⟨some 15, .un .not (.t 14), none, [0, 1, 2, 3, 4]⟩, [14]),
 (⟨some 16, .move (.t 15), none, [0, 1, 2, 3, 4, 5]⟩, [15]),
 (⟨some 17, .move (.t 3), some (16, false), [0, 1, 2, 3, 4, 5, 6]⟩, []),
 (⟨some 18, .bin .gtr (.t 17) (.i 0), some (16, false), [0, 1, 2, 3, 4, 5, 6, 7]⟩, [17]),
 (⟨some 19, .move (.t 18), some (16, false), [0, 1, 2, 3, 4, 5, 6, 7, 8]⟩, [18]),
 (⟨some 20, .move (.t 0), some (19, true), [0, 1, 2, 3, 4, 5, 6, 7, 8, 9]⟩, []),
 (⟨some 21, .move (.t 3), some (19, true), [0, 1, 2, 3, 4, 5, 6, 7, 8, 9]⟩, []),
 (⟨some 22, .bin .sub (.t 21) (.i 1), some (19, true), [0, 1, 2, 3, 4, 5, 6, 7, 8, 9, 11]⟩, [21]),
 (⟨some 23, .indexAddr 1 (.t 20) (.t 22), some (19, true), [0, 1, 2, 3, 4, 5, 6, 7, 8, 9, 10, 11, 12]⟩, [20, 22]),
 (⟨some 24, .load none (.t 23), some (19, true), [0, 1, 2, 3, 4, 5, 6, 7, 8, 9, 10, 11, 12, 13]⟩, [23]),
 (⟨some 25, .move (.t 0), some (19, true), [0, 1, 2, 3, 4, 5, 6, 7, 8, 9]⟩, []),
 (⟨some 26, .move (.t 3), some (19, true), [0, 1, 2, 3, 4, 5, 6, 7, 8, 9]⟩, []),
 (⟨some 27, .indexAddr 1 (.t 25) (.t 26), some (19, true), [0, 1, 2, 3, 4, 5, 6, 7, 8, 9, 15, 16]⟩, [25, 26]),
 (⟨some 28, .load none (.t 27), some (19, true), [0, 1, 2, 3, 4, 5, 6, 7, 8, 9, 15, 16, 17]⟩, [27]),
 (⟨some 29, .bin .geq (.t 24) (.t 28), some (19, true), [0, 1, 2, 3, 4, 5, 6, 7, 8, 9, 10, 11, 12, 13, 14, 15, 16, 17, 18]⟩, [24, 28]),
 (⟨some 30, .pick (.t 19) (.t 29) (.b false), some (16, false), [0, 1, 2, 3, 4, 5, 6, 7, 8, 9, 10, 11, 12, 13, 14, 15, 16, 17, 18, 19]⟩, [19, 29]),
 (⟨some 31, .pick (.t 16) (.b true) (.t 30), none, [0, 1, 2, 3, 4, 5, 6, 7, 8, 9, 10, 11, 12, 13, 14, 15, 16, 17, 18, 19, 20]⟩, [16, 30])])
 (.cond (.t 31)
 (.seq (.regionK false [
 (.o 2 (.move (.b false)), [0, 3, 31])])
 .ret)
 .skip)))
 (.regionK false [
 (.o 8 (.move (.t 3)), [31]),
 (.o 9 (.bin .add (.t 8) (.i 1)), [8]),
 (.o 3 (.move (.t 9)), [9])])))

def a63 : AFunc := ⟨32, 1, [.tmp 2],
  (.seq (.regionK false [
 (.o 2 (.move (.b false)), [2])])
 (.seq (.seq (.regionK false [
 (.o 3 (.move (.i 0)), [])])
 (.block 0
 (.loop
 (.ghost .lower a63_l0))))
 (.seq (.regionK false [
 (.o 2 (.move (.b true)), [])])
 .ret)))⟩

/-- clockwork/clockworkref19.both -/
@[irreducible] def a64_l0 : ACode :=
  (.seq (.seq (.regionK false [
 (.o 9 (.move (.t 6)), []),
 (.o 10 (.move (.t 1)), []),
 (.o 11 (.len (.t 10)), [10]),
 (.o 12 (.bin .lss (.t 9) (.t 11)), [9, 11])])
 (.cond (.t 12)
 .skip
 (.ghost (.forget [1, 6, 12]) (.ghost .lower (.exit 0)))))
 (.seq (.block 1
 (.regionK false [
 (.o 15 (.move (.t 5)), [12]),
 (.o 16 (.move (.t 1)), []),
 (.o 17 (.move (.t 6)), []),
 (.o 18 (.indexAddr 1 (.t 16) (.t 17)), [16, 17]),
 (.o 19 (.load none (.t 18)), [18]),
 (.o 20 (.call false 75 [.t 15, .t 19]), [15, 19]),
 (.o 5 (.move (.t 20)), [20])]))
 (.regionK false [
 (.o 13 (.move (.t 6)), []),
 (.o 14 (.bin .add (.t 13) (.i 1)), [13]),
 (.o 6 (.move (.t 14)), [14])])))

def a64 : AFunc := ⟨22, 2, [.tmp 4],
  (.seq (.regionK false [
 (.o 4 (.move (.c (.p (.slice true [])))), [4])])
 (.seq (.regionK false [
 (.o 7 (.move (.t 0)), [0]),
 (.o 8 (.call false 74 [.t 7]), [7]),
 (.o 5 (.move (.t 8)), [8])])
 (.seq (.seq (.regionK false [
 (.o 6 (.move (.i 0)), [])])
 (.block 0
 (.loop
 (.ghost .lower a64_l0))))
 (.seq (.regionK false [
 (.o 21 (.move (.t 5)), [5]),
 (.o 4 (.move (.t 21)), [21])])
 .ret))))⟩

/-- clockwork/keys.consists -/
@[irreducible] def a65_l0 : ACode :=
  (.seq (.regionK false [
 (.o 12 (.bin .lss (.t 11) (.t 10)), [])])
 (.seq (.cond (.t 12)
 .skip
 (.ghost (.forget [0, 1, 10, 11, 12]) (.ghost .lower (.exit 0))))
 (.seq (.block 1
 (.seq (.regionK false [
 (.o 13 (.move (.t 11)), [12]),
 (.o 5 (.move (.t 13)), [13])])
 (.seq (.regionK false [
 (.o 14 (.move (.t 1)), []),
 (.o 15 (.move (.t 0)), []),
 (.o 16 (.move (.t 5)), [5]),
 (.o 17 (.index (.t 15) (.t 16)), [15, 16]),
 (.o 18 (.callv false (.t 14) [.t 17]), [14, 17]),
 (.o 19 (.un .not (.t 18)), [18])])
 (.cond (.t 19)
 (.seq (.regionK false [
 (.o 4 (.move (.b false)), [0, 1, 10, 11, 19])])
 .ret)
 .skip))))
 (.regionK false [
 (.o 20 (.bin .add (.t 11) (.i 1)), [19]),
 (.o 11 (.move (.t 20)), [20])]))))

def a65 : AFunc := ⟨21, 2, [.tmp 4],
  (.seq (.regionK false [
 (.o 4 (.move (.b false)), [4])])
 (.seq (.seq (.regionK false [
 (.o 6 (.move (.t 0)), []),
 (.o 7 (.lenS (.t 6)), [6]),
 (.o 8 (.bin .gtr (.t 7) (.i 24)), [7])])
 (.cond (.t 8)
 (.seq (.regionK false [
 (.o 4 (.move (.b false)), [0, 1, 8])])
 .ret)
 .skip))
 (.seq (.seq (.regionK false [
 (.o 9 (.move (.t 0)), [8]),
 (.o 10 (.lenS (.t 9)), [9]),
 (.o 11 (.move (.i 0)), [])])
 (.block 0
 (.loop
 (.ghost .lower a65_l0))))
 (.seq (.regionK false [
 (.o 4 (.move (.b true)), [])])
 .ret))))⟩

/-- clockwork/keys.Valid$1 -/
def a66 : AFunc := ⟨33, 1, [.tmp 2],
  (.seq (.regionK false [
 (.o 2 (.move (.b false)), [2])])
 (.seq (.regionK false [
 (.o 3 (.move (.t 0)), []),
 (.o 4 (.bin .geq (.t 3) (.c (.p (.int .u8 97)))), [3]),
 (.o 5 (.move (.t 4)), [4]),
 (⟨some 6, .move (.t 0), some (5, true), []⟩, []),
 (⟨some 7, .bin .leq (.t 6) (.c (.p (.int .u8 122))), some (5, true), []⟩, [6]),
 (.o 8 (.pick (.t 5) (.t 7) (.b false)), [5, 7]),
 (.o 9 (.move (.t 8)), [8]),
 (⟨some 10, .move (.t 0), some (9, false), []⟩, []),
 (⟨some 11, .bin .geq (.t 10) (.c (.p (.int .u8 48))), some (9, false), []⟩, [10]),
 (⟨some 12, .move (.t 11), some (9, false), []⟩, [11]),
 (⟨some 13, .move (.t 0), some (12, true), []⟩, []),
 (⟨some 14, .bin .leq (.t 13) (.c (.p (.int .u8 57))), some (12, true), []⟩, [13]),
 (⟨some 15, .pick (.t 12) (.t 14) (.b false), some (9, false), []⟩, [12, 14]),
 (.o 16 (.pick (.t 9) (.b true) (.t 15)), [9, 15]),
 (.o 17 (.move (.t 16)), [16]),
 (⟨some 18, .move (.t 0), some (17, false), []⟩, []),
 (⟨some 19, .bin .eql (.t 18) (.c (.p (.int .u8 47))), some (17, false), []⟩, [18]),
 (.o 20 (.pick (.t 17) (.b true) (.t 19)), [17, 19]),
 (.o 21 (.move (.t 20)), [20]),
 (⟨some 22, .move (.t 0), some (21, false), []⟩, []),
 (⟨some 23, .bin .eql (.t 22) (.c (.p (.int .u8 46))), some (21, false), []⟩, [22]),
 (.o 24 (.pick (.t 21) (.b true) (.t 23)), [21, 23]),
 (.o 25 (.move (.t 24)), [24]),
 (⟨some 26, .move (.t 0), some (25, false), []⟩, []),
 (⟨some 27, .bin .eql (.t 26) (.c (.p (.int .u8 95))), some (25, false), []⟩, [26]),
 (.o 28 (.pick (.t 25) (.b true) (.t 27)), [25, 27]),
 (.o 29 (.move (.t 28)), [28]),
 (⟨some 30, .move (.t 0), some (29, false), []⟩, [0]),
 (⟨some 31, .bin .eql (.t 30) (.c (.p (.int .u8 45))), some (29, false), []⟩, [30]),
 (.o 32 (.pick (.t 29) (.b true) (.t 31)), [29, 31]),
 (.o 2 (.move (.t 32)), [32])])
 .ret))⟩

/-- clockwork/locktable.before -/
@[irreducible] def a67_l0 : ACode :=
  (.seq (.regionK false [
 (.o 15 (.bin .lss (.t 14) (.t 13)), [])])
 (.seq (.cond (.t 15)
 .skip
 (.ghost (.forget [1, 7, 13, 14, 15]) (.exit 0)))
 (.seq (.block 1
 (.seq (.regionK false [
 (.o 16 (.move (.t 14)), [15]),
 (.o 8 (.move (.t 16)), [16])])
 (.seq (.regionK false [
 (.o 17 (.move (.t 1)), []),
 (.o 18 (.move (.t 8)), []),
 (.o 19 (.indexAddr 2 (.t 17) (.t 18)), [17, 18]),
 (.o 20 (.fieldAddr 1 (.t 19)), [19]),
 (.o 21 (.load none (.t 20)), [20]),
 (.o 22 (.move (.t 21)), [21]),
 (⟨some 23, .move (.t 1), some (22, false), []⟩, []),
 (⟨some 24, .move (.t 7), some (22, false), []⟩, []),
 (⟨some 25, .indexAddr 2 (.t 23) (.t 24), some (22, false), []⟩, [23, 24]),
 (⟨some 26, .fieldAddr 1 (.t 25), some (22, false), []⟩, [25]),
 (⟨some 27, .load none (.t 26), some (22, false), []⟩, [26]),
 (.o 28 (.pick (.t 22) (.b true) (.t 27)), [22, 27])])
 (.cond (.t 28)
 (.regionK false [
 (.o 29 (.move (.t 0)), [28]),
 (.o 30 (.move (.t 1)), []),
 (.o 31 (.move (.t 8)), [8]),
 (.o 32 (.indexAddr 2 (.t 30) (.t 31)), [30, 31]),
 (.o 33 (.fieldAddr 0 (.t 32)), [32]),
 (.o 34 (.load none (.t 33)), [33]),
 (.o 35 (.buildSlice [.int .i64 0] 1 [(0, .t 34)]), [34]),
 (.o 36 (.append 8 1 (.t 29) (.t 35)), [29, 35]),
 (.o 0 (.move (.t 36)), [36])])
 .skip))))
 (.regionK false [
 (.o 37 (.bin .add (.t 14) (.i 1)), [8, 28]),
 (.o 14 (.move (.t 37)), [37])]))))

def a67 : AFunc := ⟨39, 3, [.tmp 6],
  (.ghost (.own 1 0) (.seq (.regionK false [
 (.o 6 (.move (.c (.p (.slice true [])))), [6])])
 (.seq (.regionK false [
 (.o 9 (.move (.t 1)), []),
 (.o 10 (.move (.t 2)), [2]),
 (.o 11 (.call false 34 [.t 9, .t 10]), [9, 10]),
 (.o 7 (.move (.t 11)), [11])])
 (.seq (.seq (.regionK false [
 (.o 12 (.move (.t 7)), []),
 (.o 13 (.minmax true (.i 0) [.t 12]), [12]),
 (.o 14 (.move (.i 0)), [])])
 (.block 0
 (.loop
 a67_l0)))
 (.seq (.regionK false [
 (.o 38 (.move (.t 0)), [0]),
 (.o 6 (.move (.t 38)), [38])])
 .ret)))))⟩

/-- slices.Compact[[]int,int] -/
@[irreducible] def a69_l0 : ACode :=
  (.seq (.seq (.regionK false [
 (.o 29 (.move (.t 5)), []),
 (.o 30 (.move (.t 4)), []),
 (.o 31 (.len (.t 30)), [30]),
 (.o 32 (.bin .lss (.t 29) (.t 31)), [29, 31])])
 (.cond (.t 32)
 .skip
 (.ghost (.forget [4, 5, 32]) (.exit 2))))
 (.seq (.block 3
 (.seq (.regionK true [
 (.o 35 (.move (.t 4)), [32]),
 (.o 36 (.move (.t 5)), []),
 (⟨some 37, .indexAddr 1 (.t 35) (.t 36), none, [0, 1]⟩, [35, 36]),
 (⟨some 38, .load none (.t 37), none, [0, 1, 2]⟩, [37]),
 (.o 39 (.move (.t 4)), []),
 (.o 40 (.move (.t 5)), []),
 (⟨some 41, .bin .sub (.t 40) (.i 1), none, [5]⟩, [40]),
 (⟨some 42, .indexAddr 1 (.t 39) (.t 41), none, [4, 5, 6]⟩, [39, 41]),
 (⟨some 43, .load none (.t 42), none, [4, 5, 6, 7]⟩, [42]),
 (⟨some 44, .bin .neq (.t 38) (.t 43), none, [0, 1, 2, 3, 4, 5, 6, 7, 8]⟩, [38, 43])])
 (.cond (.t 44)
 (.seq (.regionK false [
 (.o 45 (.move (.t 0)), [44]),
 (.o 46 (.move (.t 3)), []),
 (.o 47 (.move (.t 4)), []),
 (.o 48 (.move (.t 5)), []),
 (.o 49 (.indexAddr 1 (.t 47) (.t 48)), [47, 48]),
 (.o 50 (.load none (.t 49)), [49]),
 (.o 51 (.indexAddr 1 (.t 45) (.t 46)), [45, 46]),
 (.u (.store 1 (.t 51) (.t 50)), [50, 51])])
 (.regionK false [
 (.o 52 (.move (.t 3)), []),
 (.o 53 (.bin .add (.t 52) (.i 1)), [52]),
 (.o 3 (.move (.t 53)), [53])]))
 .skip)))
 (.regionK false [
 (.o 33 (.move (.t 5)), [44]),
 (.o 34 (.bin .add (.t 33) (.i 1)), [33]),
 (.o 5 (.move (.t 34)), [34])])))

@[irreducible] def a69_l1 : ACode :=
  (.seq (.seq (.regionK false [
 (.o 10 (.move (.t 3)), []),
 (.o 11 (.move (.t 0)), []),
 (.o 12 (.len (.t 11)), [11]),
 (.o 13 (.bin .lss (.t 10) (.t 12)), [10, 12])])
 (.cond (.t 13)
 .skip
 (.ghost (.forget [3, 13]) (.exit 0))))
 (.seq (.block 1
 (.seq (.regionK true [
 (.o 16 (.move (.t 0)), [13]),
 (.o 17 (.move (.t 3)), []),
 (⟨some 18, .indexAddr 1 (.t 16) (.t 17), none, [0, 1]⟩, [16, 17]),
 (⟨some 19, .load none (.t 18), none, [0, 1, 2]⟩, [18]),
 (.o 20 (.move (.t 0)), []),
 (.o 21 (.move (.t 3)), []),
 (⟨some 22, .bin .sub (.t 21) (.i 1), none, [5]⟩, [21]),
 (⟨some 23, .indexAddr 1 (.t 20) (.t 22), none, [4, 5, 6]⟩, [20, 22]),
 (⟨some 24, .load none (.t 23), none, [4, 5, 6, 7]⟩, [23]),
 (⟨some 25, .bin .eql (.t 19) (.t 24), none, [0, 1, 2, 3, 4, 5, 6, 7, 8]⟩, [19, 24])])
 (.cond (.t 25)
 (.seq (.regionK false [
 (.o 26 (.move (.t 0)), [25]),
 (.o 27 (.move (.t 3)), []),
 (.o 28 (.slice 1 (.t 26) (some (.t 27)) none none), [26, 27]),
 (.o 4 (.move (.t 28)), [28])])
 (.seq (.seq (.regionK false [
 (.o 5 (.move (.i 1)), [])])
 (.block 2
 (.loop
 a69_l0)))
 (.seq (.regionK false [
 (.o 54 (.move (.t 0)), []),
 (.o 55 (.move (.t 3)), []),
 (.o 56 (.slice 1 (.t 54) (some (.t 55)) none none), [54, 55]),
 (.u (.clear [.int .i64 0] (.t 56)), [56])])
 (.seq (.regionK false [
 (.o 57 (.move (.t 0)), [0]),
 (.o 58 (.move (.t 3)), [3]),
 (.o 59 (.slice 1 (.t 57) none (some (.t 58)) none), [57, 58]),
 (.o 2 (.move (.t 59)), [59])])
 .ret))))
 .skip)))
 (.regionK false [
 (.o 14 (.move (.t 3)), [25]),
 (.o 15 (.bin .add (.t 14) (.i 1)), [14]),
 (.o 3 (.move (.t 15)), [15])])))

def a69 : AFunc := ⟨61, 1, [.tmp 2],
  (.seq (.regionK false [
 (.o 2 (.move (.c (.p (.slice true [])))), [2])])
 (.seq (.seq (.regionK false [
 (.o 6 (.move (.t 0)), []),
 (.o 7 (.len (.t 6)), [6]),
 (.o 8 (.bin .lss (.t 7) (.i 2)), [7])])
 (.cond (.t 8)
 (.seq (.regionK false [
 (.o 9 (.move (.t 0)), [0, 8]),
 (.o 2 (.move (.t 9)), [9])])
 .ret)
 .skip))
 (.seq (.seq (.regionK false [
 (.o 3 (.move (.i 1)), [8])])
 (.block 0
 (.loop
 a69_l1)))
 (.seq (.regionK false [
 (.o 60 (.move (.t 0)), [0]),
 (.o 2 (.move (.t 60)), [60])])
 .ret))))⟩

/-- slices.DeleteFunc[[]clockwork/api.LockReq,clockwork/api.LockReq] -/
@[irreducible] def a70_l0 : ACode :=
  (.seq (.seq (.regionK false [
 (.o 16 (.move (.t 6)), []),
 (.o 17 (.move (.t 0)), []),
 (.o 18 (.len (.t 17)), [17]),
 (.o 19 (.bin .lss (.t 16) (.t 18)), [16, 18])])
 (.cond (.t 19)
 .skip
 (.ghost (.forget [1, 6, 19]) (.exit 0))))
 (.seq (.block 1
 (.seq (.regionK false [
 (.o 22 (.move (.t 0)), [19]),
 (.o 23 (.move (.t 6)), []),
 (.o 24 (.indexAddr 2 (.t 22) (.t 23)), [22, 23]),
 (.o 25 (.load (some 2) (.t 24)), [24]),
 (.o 7 (.alloc [.int .i64 0, .bool false]), []),
 (.u (.store 2 (.t 7) (.t 25)), [25])])
 (.seq (.regionK false [
 (.o 26 (.move (.t 1)), []),
 (.o 27 (.load (some 2) (.t 7)), []),
 (.o 28 (.callv false (.t 26) [.t 27]), [26, 27]),
 (.o 29 (.un .not (.t 28)), [28])])
 (.cond (.t 29)
 (.seq (.regionK false [
 (.o 30 (.move (.t 0)), [29]),
 (.o 31 (.move (.t 5)), []),
 (.o 32 (.load (some 2) (.t 7)), []),
 (.o 33 (.indexAddr 2 (.t 30) (.t 31)), [30, 31]),
 (.u (.store 2 (.t 33) (.t 32)), [32, 33])])
 (.regionK false [
 (.o 34 (.move (.t 5)), []),
 (.o 35 (.bin .add (.t 34) (.i 1)), [34]),
 (.o 5 (.move (.t 35)), [35])]))
 .skip))))
 (.regionK false [
 (.o 20 (.move (.t 6)), [29]),
 (.o 21 (.bin .add (.t 20) (.i 1)), [20]),
 (.o 6 (.move (.t 21)), [21])])))

def a70 : AFunc := ⟨42, 2, [.tmp 4],
  (.seq (.regionK false [
 (.o 4 (.move (.c (.p (.slice true [])))), [4])])
 (.seq (.regionK false [
 (.o 8 (.move (.t 0)), []),
 (.o 9 (.move (.t 1)), []),
 (.o 10 (.call false 56 [.t 8, .t 9]), [8, 9]),
 (.o 5 (.move (.t 10)), [10])])
 (.seq (.seq (.regionK false [
 (.o 11 (.move (.t 5)), []),
 (.o 12 (.bin .eql (.t 11) (.i (-1))), [11])])
 (.cond (.t 12)
 (.seq (.regionK false [
 (.o 13 (.move (.t 0)), [0, 1, 5, 12]),
 (.o 4 (.move (.t 13)), [13])])
 .ret)
 .skip))
 (.seq (.seq (.regionK false [
 (.o 14 (.move (.t 5)), [12]),
 (.o 15 (.bin .add (.t 14) (.i 1)), [14]),
 (.o 6 (.move (.t 15)), [15])])
 (.block 0
 (.loop
 (.ghost (.free [7]) a70_l0))))
 (.seq (.regionK false [
 (.o 36 (.move (.t 0)), []),
 (.o 37 (.move (.t 5)), []),
 (.o 38 (.slice 2 (.t 36) (some (.t 37)) none none), [36, 37]),
 (.u (.clear [.int .i64 0, .bool false] (.t 38)), [38])])
 (.seq (.regionK false [
 (.o 39 (.move (.t 0)), [0]),
 (.o 40 (.move (.t 5)), [5]),
 (.o 41 (.slice 2 (.t 39) none (some (.t 40)) none), [39, 40]),
 (.o 4 (.move (.t 41)), [41])])
 .ret))))))⟩

/-- clockwork/locktable.without$1 -/
def a71 : AFunc := ⟨8, 2, [.tmp 3],
  (.seq (.regionK false [
 (.o 2 (.box (.t 0)), [0]),
 (.o 3 (.move (.b false)), [3])])
 (.seq (.regionK false [
 (.o 4 (.fieldAddr 0 (.t 2)), []),
 (.o 5 (.load none (.t 4)), [4]),
 (.o 6 (.load none (.t 1)), [1]),
 (.o 7 (.bin .eql (.t 5) (.t 6)), [5, 6]),
 (.o 3 (.move (.t 7)), [7])])
 .ret))⟩

/-- clockwork/clockworkref19.sorted -/
@[irreducible] def a74_l0 : ACode :=
  (.seq (.seq (.regionK false [
 (.o 5 (.move (.t 4)), []),
 (.o 6 (.move (.t 0)), []),
 (.o 7 (.len (.t 6)), [6]),
 (.o 8 (.bin .lss (.t 5) (.t 7)), [5, 7])])
 (.cond (.t 8)
 .skip
 (.ghost (.forget [0, 4, 8]) (.ghost .lower (.exit 0)))))
 (.seq (.block 1
 (.regionK false [
 (.o 11 (.move (.t 3)), [8]),
 (.o 12 (.move (.t 0)), []),
 (.o 13 (.move (.t 4)), []),
 (.o 14 (.indexAddr 1 (.t 12) (.t 13)), [12, 13]),
 (.o 15 (.load none (.t 14)), [14]),
 (.o 16 (.call false 75 [.t 11, .t 15]), [11, 15]),
 (.o 3 (.move (.t 16)), [16])]))
 (.regionK false [
 (.o 9 (.move (.t 4)), []),
 (.o 10 (.bin .add (.t 9) (.i 1)), [9]),
 (.o 4 (.move (.t 10)), [10])])))

def a74 : AFunc := ⟨18, 1, [.tmp 2],
  (.seq (.regionK false [
 (.o 2 (.move (.c (.p (.slice true [])))), [2])])
 (.seq (.regionK false [
 (.o 3 (.move (.c (.p (.slice true [])))), [])])
 (.seq (.seq (.regionK false [
 (.o 4 (.move (.i 0)), [])])
 (.block 0
 (.loop
 (.ghost .lower a74_l0))))
 (.seq (.regionK false [
 (.o 17 (.move (.t 3)), [3]),
 (.o 2 (.move (.t 17)), [17])])
 .ret))))⟩

/-- clockwork/clockworkref04.Insert -/
@[irreducible] def a75_l0 : ACode :=
  (.seq (.seq (.regionK false [
 (.o 7 (.move (.t 5)), []),
 (.o 8 (.move (.t 0)), []),
 (.o 9 (.len (.t 8)), [8]),
 (.o 10 (.bin .lss (.t 7) (.t 9)), [7, 9]),
 (.o 11 (.move (.t 10)), [10]),
 (⟨some 12, .move (.t 0), some (11, true), []⟩, []),
 (⟨some 13, .move (.t 5), some (11, true), []⟩, []),
 (⟨some 14, .indexAddr 1 (.t 12) (.t 13), some (11, true), []⟩, [12, 13]),
 (⟨some 15, .load none (.t 14), some (11, true), []⟩, [14]),
 (⟨some 16, .move (.t 1), some (11, true), []⟩, []),
 (⟨some 17, .bin .lss (.t 15) (.t 16), some (11, true), []⟩, [15, 16]),
 (.o 18 (.pick (.t 11) (.t 17) (.b false)), [11, 17])])
 (.cond (.t 18)
 .skip
 (.ghost (.forget [18]) (.ghost .lower (.exit 0)))))
 (.block 1
 (.regionK false [
 (.o 19 (.move (.t 5)), [18]),
 (.o 20 (.bin .add (.t 19) (.i 1)), [19]),
 (.o 5 (.move (.t 20)), [20])])))

def a75 : AFunc := ⟨49, 2, [.tmp 4],
  (.seq (.regionK false [
 (.o 4 (.move (.c (.p (.slice true [])))), [4])])
 (.seq (.regionK false [
 (.o 5 (.move (.i 0)), [])])
 (.seq (.block 0
 (.loop
 (.ghost .lower a75_l0)))
 (.seq (.seq (.regionK false [
 (.o 21 (.move (.t 5)), []),
 (.o 22 (.move (.t 0)), []),
 (.o 23 (.len (.t 22)), [22]),
 (.o 24 (.bin .lss (.t 21) (.t 23)), [21, 23]),
 (.o 25 (.move (.t 24)), [24]),
 (⟨some 26, .move (.t 0), some (25, true), []⟩, []),
 (⟨some 27, .move (.t 5), some (25, true), []⟩, []),
 (⟨some 28, .indexAddr 1 (.t 26) (.t 27), some (25, true), []⟩, [26, 27]),
 (⟨some 29, .load none (.t 28), some (25, true), []⟩, [28]),
 (⟨some 30, .move (.t 1), some (25, true), []⟩, []),
 (⟨some 31, .bin .eql (.t 29) (.t 30), some (25, true), []⟩, [29, 30]),
 (.o 32 (.pick (.t 25) (.t 31) (.b false)), [25, 31])])
 (.cond (.t 32)
 (.seq (.regionK false [
 (.o 33 (.move (.t 0)), [0, 1, 5, 32]),
 (.o 4 (.move (.t 33)), [33])])
 .ret)
 .skip))
 (.seq (.regionK false [
 (.o 6 (.move (.c (.p (.slice true [])))), [32])])
 (.seq (.regionK false [
 (.o 34 (.move (.t 6)), []),
 (.o 35 (.move (.t 0)), []),
 (.o 36 (.move (.t 5)), []),
 (.o 37 (.slice 1 (.t 35) none (some (.t 36)) none), [35, 36]),
 (.o 38 (.append 16 1 (.t 34) (.t 37)), [34, 37]),
 (.o 6 (.move (.t 38)), [38])])
 (.seq (.regionK false [
 (.o 39 (.move (.t 6)), []),
 (.o 40 (.move (.t 1)), [1]),
 (.o 41 (.buildSlice [.str ⟨#[]⟩] 1 [(0, .t 40)]), [40]),
 (.o 42 (.append 16 1 (.t 39) (.t 41)), [39, 41]),
 (.o 6 (.move (.t 42)), [42])])
 (.seq (.regionK false [
 (.o 43 (.move (.t 6)), []),
 (.o 44 (.move (.t 0)), [0]),
 (.o 45 (.move (.t 5)), [5]),
 (.o 46 (.slice 1 (.t 44) (some (.t 45)) none none), [44, 45]),
 (.o 47 (.append 16 1 (.t 43) (.t 46)), [43, 46]),
 (.o 6 (.move (.t 47)), [47])])
 (.seq (.regionK false [
 (.o 48 (.move (.t 6)), [6]),
 (.o 4 (.move (.t 48)), [48])])
 .ret)))))))))⟩


end Go.Dv.Try
