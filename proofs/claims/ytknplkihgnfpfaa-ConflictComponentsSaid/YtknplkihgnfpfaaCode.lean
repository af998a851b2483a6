/-
  The annotated functions of this seat. Printed by wip/gen.py.
-/
import Derived.Test.YtknplkihgnfpfaaWalk
set_option linter.unusedVariables false
set_option maxRecDepth 100000
namespace Go.Dv.Try
open Go Go.Dv


/-- clockwork/clockworklaw25.ConflictOrders -/
@[irreducible] def a8_l0 : ACode :=
  (.seq (.seq (.regionK false [
 (.o 88 (.move (.t 10)), []),
 (.o 89 (.move (.t 0)), []),
 (.o 90 (.len (.t 89)), [89]),
 (.o 91 (.bin .lss (.t 88) (.t 90)), [88, 90])])
 (.cond (.t 91)
 .skip
 (.ghost (.forget [10, 91]) (.ghost .lower (.exit 4)))))
 (.seq (.block 5
 (.regionK true [
 (.o 94 (.move (.t 7)), [91]),
 (⟨some 95, .move (.t 94), none, [0]⟩, [94]),
 (⟨some 96, .move (.t 0), some (95, true), [0, 1]⟩, []),
 (⟨some 97, .move (.t 9), some (95, true), [0, 1]⟩, []),
 (⟨some 98, .indexAddr 3 (.t 96) (.t 97), some (95, true), [0, 1, 2, 3]⟩, [96, 97]),
 (⟨some 99, .load (some 3) (.t 98), some (95, true), [0, 1, 2, 3, 4]⟩, [98]),
 (⟨some 100, .move (.t 0), some (95, true), [0, 1]⟩, []),
 (⟨some 101, .move (.t 10), some (95, true), [0, 1]⟩, []),
 (⟨some 102, .indexAddr 3 (.t 100) (.t 101), some (95, true), [0, 1, 6, 7]⟩, [100, 101]),
 (⟨some 103, .load (some 3) (.t 102), some (95, true), [0, 1, 6, 7, 8]⟩, [102]),
 (⟨some 104, .call false 35 [.t 99, .t 103], some (95, true), [0, 1, 2, 3, 4, 5, 6, 7, 8, 9]⟩, [99, 103]),
 (⟨some 105, .un .not (.t 104), some (95, true), [0, 1, 2, 3, 4, 5, 6, 7, 8, 9, 10]⟩, [104]),
 (⟨some 106, .move (.t 105), some (95, true), [0, 1, 2, 3, 4, 5, 6, 7, 8, 9, 10, 11]⟩, [105]),
 (⟨some 107, .move (.t 1), some (106, false), [0, 1, 2, 3, 4, 5, 6, 7, 8, 9, 10, 11, 12]⟩, []),
 (⟨some 108, .move (.t 9), some (106, false), [0, 1, 2, 3, 4, 5, 6, 7, 8, 9, 10, 11, 12]⟩, []),
 (⟨some 109, .call false 34 [.t 107, .t 108], some (106, false), [0, 1, 2, 3, 4, 5, 6, 7, 8, 9, 10, 11, 12, 13, 14]⟩, [107, 108]),
 (⟨some 110, .move (.t 1), some (106, false), [0, 1, 2, 3, 4, 5, 6, 7, 8, 9, 10, 11, 12]⟩, []),
 (⟨some 111, .move (.t 10), some (106, false), [0, 1, 2, 3, 4, 5, 6, 7, 8, 9, 10, 11, 12]⟩, []),
 (⟨some 112, .call false 34 [.t 110, .t 111], some (106, false), [0, 1, 2, 3, 4, 5, 6, 7, 8, 9, 10, 11, 12, 13, 14, 15, 16, 17]⟩, [110, 111]),
 (⟨some 113, .bin .lss (.t 109) (.t 112), some (106, false), [0, 1, 2, 3, 4, 5, 6, 7, 8, 9, 10, 11, 12, 13, 14, 15, 16, 17, 18]⟩, [109, 112]),
 (⟨some 114, .pick (.t 106) (.b true) (.t 113), some (95, true), [0, 1, 2, 3, 4, 5, 6, 7, 8, 9, 10, 11, 12, 13, 14, 15, 16, 17, 18, 19]⟩, [106, 113]),
 (⟨some 115, .pick (.t 95) (.t 114) (.b false), none, [0, 1, 2, 3, 4, 5, 6, 7, 8, 9, 10, 11, 12, 13, 14, 15, 16, 17, 18, 19, 20]⟩, [95, 114]),
 (⟨some 7, .move (.t 115), none, [0, 1, 2, 3, 4, 5, 6, 7, 8, 9, 10, 11, 12, 13, 14, 15, 16, 17, 18, 19, 20, 21]⟩, [115])]))
 (.regionK false [
 (.o 92 (.move (.t 10)), []),
 (.o 93 (.bin .add (.t 92) (.i 1)), [92]),
 (.o 10 (.move (.t 93)), [93])])))

@[irreducible] def a8_l1 : ACode :=
  (.seq (.seq (.regionK false [
 (.o 80 (.move (.t 9)), []),
 (.o 81 (.move (.t 0)), []),
 (.o 82 (.len (.t 81)), [81]),
 (.o 83 (.bin .lss (.t 80) (.t 82)), [80, 82])])
 (.cond (.t 83)
 .skip
 (.ghost (.forget [9, 83]) (.ghost .lower (.exit 2)))))
 (.seq (.block 3
 (.seq (.regionK false [
 (.o 86 (.move (.t 9)), [83]),
 (.o 87 (.bin .add (.t 86) (.i 1)), [86]),
 (.o 10 (.move (.t 87)), [87])])
 (.block 4
 (.loop
 (.ghost .lower a8_l0)))))
 (.regionK false [
 (.o 84 (.move (.t 9)), []),
 (.o 85 (.bin .add (.t 84) (.i 1)), [84]),
 (.o 9 (.move (.t 85)), [85])])))

@[irreducible] def a8_l2 : ACode :=
  (.seq (.seq (.regionK false [
 (.o 27 (.move (.t 8)), []),
 (.o 28 (.move (.t 5)), []),
 (.o 29 (.len (.t 28)), [28]),
 (.o 30 (.bin .lss (.t 27) (.t 29)), [27, 29])])
 (.cond (.t 30)
 .skip
 (.ghost (.forget [5, 8, 30]) (.ghost .lower (.exit 0)))))
 (.seq (.block 1
 (.seq (.seq (.regionK true [
 (.o 33 (.move (.t 5)), [30]),
 (.o 34 (.move (.t 8)), []),
 (⟨some 35, .indexAddr 3 (.t 33) (.t 34), none, [0, 1]⟩, [33, 34]),
 (⟨some 36, .fieldAddr 0 (.t 35), none, [0, 1, 2]⟩, [35]),
 (⟨some 37, .load none (.t 36), none, [0, 1, 2, 3]⟩, [36]),
 (⟨some 38, .bin .lss (.t 37) (.i 0), none, [0, 1, 2, 3, 4]⟩, [37]),
 (⟨some 39, .move (.t 38), none, [0, 1, 2, 3, 4, 5]⟩, [38]),
 (⟨some 40, .move (.t 5), some (39, false), [0, 1, 2, 3, 4, 5, 6]⟩, []),
 (⟨some 41, .move (.t 8), some (39, false), [0, 1, 2, 3, 4, 5, 6]⟩, []),
 (⟨some 42, .indexAddr 3 (.t 40) (.t 41), some (39, false), [0, 1, 2, 3, 4, 5, 6, 7, 8]⟩, [40, 41]),
 (⟨some 43, .fieldAddr 0 (.t 42), some (39, false), [0, 1, 2, 3, 4, 5, 6, 7, 8, 9]⟩, [42]),
 (⟨some 44, .load none (.t 43), some (39, false), [0, 1, 2, 3, 4, 5, 6, 7, 8, 9, 10]⟩, [43]),
 (⟨some 45, .move (.t 5), some (39, false), [0, 1, 2, 3, 4, 5, 6]⟩, []),
 (⟨some 46, .move (.t 8), some (39, false), [0, 1, 2, 3, 4, 5, 6]⟩, []),
 (⟨some 47, .indexAddr 3 (.t 45) (.t 46), some (39, false), [0, 1, 2, 3, 4, 5, 6, 12, 13]⟩, [45, 46]),
 (⟨some 48, .fieldAddr 1 (.t 47), some (39, false), [0, 1, 2, 3, 4, 5, 6, 12, 13, 14]⟩, [47]),
 (⟨some 49, .load none (.t 48), some (39, false), [0, 1, 2, 3, 4, 5, 6, 12, 13, 14, 15]⟩, [48]),
 (⟨some 50, .bin .geq (.t 44) (.t 49), some (39, false), [0, 1, 2, 3, 4, 5, 6, 7, 8, 9, 10, 11, 12, 13, 14, 15, 16]⟩, [44, 49]),
 (⟨some 51, .pick (.t 39) (.b true) (.t 50), none, [0, 1, 2, 3, 4, 5, 6, 7, 8, 9, 10, 11, 12, 13, 14, 15, 16, 17]⟩, [39, 50]),
 (⟨some 52, .move (.t 51), none, [0, 1, 2, 3, 4, 5, 6, 7, 8, 9, 10, 11, 12, 13, 14, 15, 16, 17, 18]⟩, [51]),
 (⟨some 53, .move (.t 5), some (52, false), [0, 1, 2, 3, 4, 5, 6, 7, 8, 9, 10, 11, 12, 13, 14, 15, 16, 17, 18, 19]⟩, []),
 (⟨some 54, .move (.t 8), some (52, false), [0, 1, 2, 3, 4, 5, 6, 7, 8, 9, 10, 11, 12, 13, 14, 15, 16, 17, 18, 19]⟩, []),
 (⟨some 55, .indexAddr 3 (.t 53) (.t 54), some (52, false), [0, 1, 2, 3, 4, 5, 6, 7, 8, 9, 10, 11, 12, 13, 14, 15, 16, 17, 18, 19, 20, 21]⟩, [53, 54]),
 (⟨some 56, .fieldAddr 1 (.t 55), some (52, false), [0, 1, 2, 3, 4, 5, 6, 7, 8, 9, 10, 11, 12, 13, 14, 15, 16, 17, 18, 19, 20, 21, 22]⟩, [55]),
 (⟨some 57, .load none (.t 56), some (52, false), [0, 1, 2, 3, 4, 5, 6, 7, 8, 9, 10, 11, 12, 13, 14, 15, 16, 17, 18, 19, 20, 21, 22, 23]⟩, [56]),
 (⟨some 58, .move (.t 0), some (52, false), [0, 1, 2, 3, 4, 5, 6, 7, 8, 9, 10, 11, 12, 13, 14, 15, 16, 17, 18, 19]⟩, []),
 (⟨some 59, .len (.t 58), some (52, false), [0, 1, 2, 3, 4, 5, 6, 7, 8, 9, 10, 11, 12, 13, 14, 15, 16, 17, 18, 19, 25]⟩, [58]),
 (⟨some 60, .bin .geq (.t 57) (.t 59), some (52, false), [0, 1, 2, 3, 4, 5, 6, 7, 8, 9, 10, 11, 12, 13, 14, 15, 16, 17, 18, 19, 20, 21, 22, 23, 24, 25, 26]⟩, [57, 59]),
 (⟨some 61, .pick (.t 52) (.b true) (.t 60), none, [0, 1, 2, 3, 4, 5, 6, 7, 8, 9, 10, 11, 12, 13, 14, 15, 16, 17, 18, 19, 20, 21, 22, 23, 24, 25, 26, 27]⟩, [52, 60])])
 (.cond (.t 61)
 (.seq (.regionK false [
 (.o 4 (.move (.b false)), [0, 1, 5, 6, 7, 8, 61])])
 .ret)
 .skip))
 (.regionK true [
 (.o 62 (.move (.t 6)), [61]),
 (⟨some 63, .move (.t 62), none, [0]⟩, [62]),
 (⟨some 64, .move (.t 1), some (63, true), [0, 1]⟩, []),
 (⟨some 65, .move (.t 5), some (63, true), [0, 1]⟩, []),
 (⟨some 66, .move (.t 8), some (63, true), [0, 1]⟩, []),
 (⟨some 67, .indexAddr 3 (.t 65) (.t 66), some (63, true), [0, 1, 3, 4]⟩, [65, 66]),
 (⟨some 68, .fieldAddr 0 (.t 67), some (63, true), [0, 1, 3, 4, 5]⟩, [67]),
 (⟨some 69, .load none (.t 68), some (63, true), [0, 1, 3, 4, 5, 6]⟩, [68]),
 (⟨some 70, .call false 34 [.t 64, .t 69], some (63, true), [0, 1, 2, 3, 4, 5, 6, 7]⟩, [64, 69]),
 (⟨some 71, .move (.t 1), some (63, true), [0, 1]⟩, []),
 (⟨some 72, .move (.t 5), some (63, true), [0, 1]⟩, []),
 (⟨some 73, .move (.t 8), some (63, true), [0, 1]⟩, []),
 (⟨some 74, .indexAddr 3 (.t 72) (.t 73), some (63, true), [0, 1, 10, 11]⟩, [72, 73]),
 (⟨some 75, .fieldAddr 1 (.t 74), some (63, true), [0, 1, 10, 11, 12]⟩, [74]),
 (⟨some 76, .load none (.t 75), some (63, true), [0, 1, 10, 11, 12, 13]⟩, [75]),
 (⟨some 77, .call false 34 [.t 71, .t 76], some (63, true), [0, 1, 2, 3, 4, 5, 6, 7, 8, 9, 10, 11, 12, 13, 14]⟩, [71, 76]),
 (⟨some 78, .bin .lss (.t 70) (.t 77), some (63, true), [0, 1, 2, 3, 4, 5, 6, 7, 8, 9, 10, 11, 12, 13, 14, 15]⟩, [70, 77]),
 (⟨some 79, .pick (.t 63) (.t 78) (.b false), none, [0, 1, 2, 3, 4, 5, 6, 7, 8, 9, 10, 11, 12, 13, 14, 15, 16]⟩, [63, 78]),
 (⟨some 6, .move (.t 79), none, [0, 1, 2, 3, 4, 5, 6, 7, 8, 9, 10, 11, 12, 13, 14, 15, 16, 17]⟩, [79])])))
 (.regionK false [
 (.o 31 (.move (.t 8)), []),
 (.o 32 (.bin .add (.t 31) (.i 1)), [31]),
 (.o 8 (.move (.t 32)), [32])])))

def a8 : AFunc := ⟨129, 2, [.tmp 4],
  (.seq (.regionK false [
 (.o 4 (.move (.b false)), [4])])
 (.seq (.seq (.regionK false [
 (.o 11 (.move (.t 0)), []),
 (.o 12 (.call false 30 [.t 11, .i 10]), [11]),
 (.o 13 (.un .not (.t 12)), [12]),
 (.o 14 (.move (.t 13)), [13]),
 (⟨some 15, .move (.t 1), some (14, false), []⟩, []),
 (⟨some 16, .len (.t 15), some (14, false), []⟩, [15]),
 (⟨some 17, .bin .gtr (.t 16) (.i 20), some (14, false), []⟩, [16]),
 (.o 18 (.pick (.t 14) (.b true) (.t 17)), [14, 17])])
 (.cond (.t 18)
 (.seq (.regionK false [
 (.o 19 (.call false 31 []), [0, 1, 18]),
 (.o 4 (.move (.t 19)), [19])])
 .ret)
 .skip))
 (.seq (.regionK false [
 (.o 20 (.move (.t 0)), [18]),
 (.o 21 (.call false 32 [.t 20]), [20]),
 (.o 5 (.move (.t 21)), [21])])
 (.seq (.regionK false [
 (.o 22 (.move (.t 1)), []),
 (.o 23 (.move (.t 0)), []),
 (.o 24 (.len (.t 23)), [23]),
 (.o 25 (.call false 33 [.t 22, .t 24]), [22, 24]),
 (.o 6 (.move (.t 25)), [25])])
 (.seq (.regionK false [
 (.o 26 (.move (.t 6)), []),
 (.o 7 (.move (.t 26)), [26])])
 (.seq (.seq (.regionK false [
 (.o 8 (.move (.i 0)), [])])
 (.block 0
 (.loop
 (.ghost .lower a8_l2))))
 (.seq (.seq (.regionK false [
 (.o 9 (.move (.i 0)), [])])
 (.block 2
 (.loop
 (.ghost .lower a8_l1))))
 (.seq (.regionK false [
 (.o 116 (.move (.t 6)), []),
 (.o 117 (.move (.t 7)), [7]),
 (.o 118 (.eqb false (.t 116) (.t 117)), [116, 117]),
 (.o 119 (.move (.t 118)), [118]),
 (⟨some 120, .move (.t 0), some (119, true), []⟩, [0]),
 (⟨some 121, .move (.t 1), some (119, true), []⟩, [1]),
 (⟨some 122, .call false 36 [.t 120, .t 121], some (119, true), []⟩, [120, 121]),
 (⟨some 123, .move (.t 6), some (119, true), []⟩, [6]),
 (⟨some 124, .eqb false (.t 122) (.t 123), some (119, true), []⟩, [122, 123]),
 (.o 125 (.pick (.t 119) (.t 124) (.b false)), [119, 124]),
 (.o 126 (.move (.t 125)), [125]),
 (⟨some 127, .call false 31 [], some (126, true), []⟩, []),
 (.o 128 (.pick (.t 126) (.t 127) (.b false)), [126, 127]),
 (.o 4 (.move (.t 128)), [128])])
 .ret))))))))⟩

/-- clockwork/clockworklaw25.ConflictEdges -/
@[irreducible] def a9_l0 : ACode :=
  (.seq (.seq (.regionK false [
 (.o 19 (.move (.t 5)), []),
 (.o 20 (.move (.t 3)), []),
 (.o 21 (.len (.t 20)), [20]),
 (.o 22 (.bin .lss (.t 19) (.t 21)), [19, 21])])
 (.cond (.t 22)
 .skip
 (.ghost (.forget [3, 4, 5, 22]) (.ghost .lower (.exit 0)))))
 (.seq (.block 1
 (.seq (.regionK true [
 (.o 25 (.move (.t 3)), [22]),
 (.o 26 (.move (.t 5)), []),
 (⟨some 27, .indexAddr 3 (.t 25) (.t 26), none, [0, 1]⟩, [25, 26]),
 (⟨some 28, .load (some 3) (.t 27), none, [0, 1, 2]⟩, [27]),
 (.o 29 (.move (.t 4)), []),
 (.o 30 (.move (.t 5)), []),
 (⟨some 31, .indexAddr 3 (.t 29) (.t 30), none, [4, 5]⟩, [29, 30]),
 (⟨some 32, .load (some 3) (.t 31), none, [4, 5, 6]⟩, [31]),
 (⟨some 33, .eqagg true [(0, 0), (1, 0), (2, 0)] (.t 28) (.t 32), none, [0, 1, 2, 3, 4, 5, 6, 7]⟩, [28, 32])])
 (.cond (.t 33)
 (.seq (.regionK false [
 (.o 2 (.move (.b false)), [3, 4, 5, 33])])
 .ret)
 .skip)))
 (.regionK false [
 (.o 23 (.move (.t 5)), [33]),
 (.o 24 (.bin .add (.t 23) (.i 1)), [23]),
 (.o 5 (.move (.t 24)), [24])])))

def a9 : AFunc := ⟨35, 1, [.tmp 2],
  (.seq (.regionK false [
 (.o 2 (.move (.b false)), [2])])
 (.seq (.seq (.regionK false [
 (.o 6 (.move (.t 0)), []),
 (.o 7 (.call false 30 [.t 6, .i 10]), [6]),
 (.o 8 (.un .not (.t 7)), [7])])
 (.cond (.t 8)
 (.seq (.regionK false [
 (.o 9 (.call false 31 []), [0, 8]),
 (.o 2 (.move (.t 9)), [9])])
 .ret)
 .skip))
 (.seq (.regionK false [
 (.o 10 (.move (.t 0)), [8]),
 (.o 11 (.call false 32 [.t 10]), [10]),
 (.o 3 (.move (.t 11)), [11])])
 (.seq (.regionK false [
 (.o 12 (.move (.t 0)), [0]),
 (.o 13 (.call false 37 [.t 12]), [12]),
 (.o 4 (.move (.t 13)), [13])])
 (.seq (.seq (.regionK false [
 (.o 14 (.move (.t 3)), []),
 (.o 15 (.len (.t 14)), [14]),
 (.o 16 (.move (.t 4)), []),
 (.o 17 (.len (.t 16)), [16]),
 (.o 18 (.bin .neq (.t 15) (.t 17)), [15, 17])])
 (.cond (.t 18)
 (.seq (.regionK false [
 (.o 2 (.move (.b false)), [3, 4, 18])])
 .ret)
 .skip))
 (.seq (.seq (.regionK false [
 (.o 5 (.move (.i 0)), [18])])
 (.block 0
 (.loop
 (.ghost .lower a9_l0))))
 (.seq (.regionK false [
 (.o 34 (.call false 31 []), []),
 (.o 2 (.move (.t 34)), [34])])
 .ret)))))))⟩

/-- clockwork/clockworklaw25.ConflictLevels -/
def a10 : AFunc := ⟨22, 1, [.tmp 2],
  (.seq (.regionK false [
 (.o 2 (.move (.b false)), [2])])
 (.seq (.seq (.regionK false [
 (.o 3 (.move (.t 0)), []),
 (.o 4 (.call false 30 [.t 3, .i 10]), [3]),
 (.o 5 (.un .not (.t 4)), [4])])
 (.cond (.t 5)
 (.seq (.regionK false [
 (.o 6 (.call false 31 []), [0, 5]),
 (.o 2 (.move (.t 6)), [6])])
 .ret)
 .skip))
 (.seq (.regionK false [
 (.o 7 (.move (.t 0)), [5]),
 (.o 8 (.call false 39 [.t 7]), [7]),
 (.o 9 (.move (.t 0)), []),
 (.o 10 (.call false 40 [.t 9]), [9]),
 (.o 11 (.call false 38 [.t 8, .t 10]), [8, 10]),
 (.o 12 (.move (.t 11)), [11]),
 (⟨some 13, .move (.t 0), some (12, true), []⟩, []),
 (⟨some 14, .call false 41 [.t 13], some (12, true), []⟩, [13]),
 (⟨some 15, .move (.t 0), some (12, true), []⟩, [0]),
 (⟨some 16, .call false 42 [.t 15], some (12, true), []⟩, [15]),
 (⟨some 17, .bin .eql (.t 14) (.t 16), some (12, true), []⟩, [14, 16]),
 (.o 18 (.pick (.t 12) (.t 17) (.b false)), [12, 17]),
 (.o 19 (.move (.t 18)), [18]),
 (⟨some 20, .call false 31 [], some (19, true), []⟩, []),
 (.o 21 (.pick (.t 19) (.t 20) (.b false)), [19, 20]),
 (.o 2 (.move (.t 21)), [21])])
 .ret)))⟩

/-- clockwork/clockworklaw25.ConflictComponents -/
@[irreducible] def a11_l0 : ACode :=
  (.seq (.seq (.regionK false [
 (.o 19 (.move (.t 5)), []),
 (.o 20 (.move (.t 3)), []),
 (.o 21 (.len (.t 20)), [20]),
 (.o 22 (.bin .lss (.t 19) (.t 21)), [19, 21])])
 (.cond (.t 22)
 .skip
 (.ghost (.forget [3, 4, 5, 22]) (.ghost .lower (.exit 0)))))
 (.seq (.block 1
 (.seq (.regionK true [
 (.o 25 (.move (.t 3)), [22]),
 (.o 26 (.move (.t 5)), []),
 (⟨some 27, .indexAddr 1 (.t 25) (.t 26), none, [0, 1]⟩, [25, 26]),
 (⟨some 28, .load none (.t 27), none, [0, 1, 2]⟩, [27]),
 (.o 29 (.move (.t 4)), []),
 (.o 30 (.move (.t 5)), []),
 (⟨some 31, .indexAddr 1 (.t 29) (.t 30), none, [4, 5]⟩, [29, 30]),
 (⟨some 32, .load none (.t 31), none, [4, 5, 6]⟩, [31]),
 (⟨some 33, .call false 38 [.t 28, .t 32], none, [0, 1, 2, 3, 4, 5, 6, 7]⟩, [28, 32]),
 (⟨some 34, .un .not (.t 33), none, [0, 1, 2, 3, 4, 5, 6, 7, 8]⟩, [33])])
 (.cond (.t 34)
 (.seq (.regionK false [
 (.o 2 (.move (.b false)), [3, 4, 5, 34])])
 .ret)
 .skip)))
 (.regionK false [
 (.o 23 (.move (.t 5)), [34]),
 (.o 24 (.bin .add (.t 23) (.i 1)), [23]),
 (.o 5 (.move (.t 24)), [24])])))

def a11 : AFunc := ⟨36, 1, [.tmp 2],
  (.seq (.regionK false [
 (.o 2 (.move (.b false)), [2])])
 (.seq (.seq (.regionK false [
 (.o 6 (.move (.t 0)), []),
 (.o 7 (.call false 30 [.t 6, .i 10]), [6]),
 (.o 8 (.un .not (.t 7)), [7])])
 (.cond (.t 8)
 (.seq (.regionK false [
 (.o 9 (.call false 31 []), [0, 8]),
 (.o 2 (.move (.t 9)), [9])])
 .ret)
 .skip))
 (.seq (.regionK false [
 (.o 10 (.move (.t 0)), [8]),
 (.o 11 (.call false 43 [.t 10]), [10]),
 (.o 3 (.move (.t 11)), [11])])
 (.seq (.regionK false [
 (.o 12 (.move (.t 0)), [0]),
 (.o 13 (.call false 44 [.t 12]), [12]),
 (.o 4 (.move (.t 13)), [13])])
 (.seq (.seq (.regionK false [
 (.o 14 (.move (.t 3)), []),
 (.o 15 (.len (.t 14)), [14]),
 (.o 16 (.move (.t 4)), []),
 (.o 17 (.len (.t 16)), [16]),
 (.o 18 (.bin .neq (.t 15) (.t 17)), [15, 17])])
 (.cond (.t 18)
 (.seq (.regionK false [
 (.o 2 (.move (.b false)), [3, 4, 18])])
 .ret)
 .skip))
 (.seq (.seq (.regionK false [
 (.o 5 (.move (.i 0)), [18])])
 (.block 0
 (.loop
 (.ghost .lower a11_l0))))
 (.seq (.regionK false [
 (.o 35 (.call false 31 []), []),
 (.o 2 (.move (.t 35)), [35])])
 .ret)))))))⟩

/-- clockwork/clockworklaw25.ConflictBefore -/
def a12 : AFunc := ⟨24, 2, [.tmp 4],
  (.seq (.regionK false [
 (.o 4 (.move (.b false)), [4])])
 (.seq (.seq (.regionK false [
 (.o 5 (.move (.t 0)), []),
 (.o 6 (.call false 30 [.t 5, .i 10]), [5]),
 (.o 7 (.un .not (.t 6)), [6]),
 (.o 8 (.move (.t 7)), [7]),
 (⟨some 9, .move (.t 1), some (8, false), []⟩, []),
 (⟨some 10, .len (.t 9), some (8, false), []⟩, [9]),
 (⟨some 11, .bin .gtr (.t 10) (.i 20), some (8, false), []⟩, [10]),
 (.o 12 (.pick (.t 8) (.b true) (.t 11)), [8, 11])])
 (.cond (.t 12)
 (.seq (.regionK false [
 (.o 13 (.call false 31 []), [0, 1, 12]),
 (.o 4 (.move (.t 13)), [13])])
 .ret)
 .skip))
 (.seq (.regionK false [
 (.o 14 (.move (.t 0)), [12]),
 (.o 15 (.move (.t 1)), []),
 (.o 16 (.call false 36 [.t 14, .t 15]), [14, 15]),
 (.o 17 (.move (.t 0)), [0]),
 (.o 18 (.move (.t 1)), [1]),
 (.o 19 (.call false 45 [.t 17, .t 18]), [17, 18]),
 (.o 20 (.eqb false (.t 16) (.t 19)), [16, 19]),
 (.o 21 (.move (.t 20)), [20]),
 (⟨some 22, .call false 31 [], some (21, true), []⟩, []),
 (.o 23 (.pick (.t 21) (.t 22) (.b false)), [21, 22]),
 (.o 4 (.move (.t 23)), [23])])
 .ret)))⟩

/-- clockwork/clockworklaw25.ConflictSorted -/
@[irreducible] def a13_l0 : ACode :=
  (.seq (.seq (.regionK false [
 (.o 47 (.move (.t 7)), []),
 (.o 48 (.move (.t 6)), []),
 (.o 49 (.bin .lss (.t 47) (.t 48)), [47, 48])])
 (.cond (.t 49)
 .skip
 (.ghost (.forget [7, 49]) (.ghost .lower (.exit 4)))))
 (.seq (.block 5
 (.seq (.regionK true [
 (.o 52 (.move (.t 3)), [49]),
 (.o 53 (.move (.t 7)), []),
 (⟨some 54, .indexAddr 1 (.t 52) (.t 53), none, [0, 1]⟩, [52, 53]),
 (⟨some 55, .load none (.t 54), none, [0, 1, 2]⟩, [54]),
 (.o 56 (.move (.t 5)), []),
 (⟨some 57, .bin .eql (.t 55) (.t 56), none, [0, 1, 2, 3, 4]⟩, [55, 56]),
 (⟨some 58, .move (.t 57), none, [0, 1, 2, 3, 4, 5]⟩, [57]),
 (⟨some 59, .move (.t 0), some (58, true), [0, 1, 2, 3, 4, 5, 6]⟩, []),
 (⟨some 60, .move (.t 7), some (58, true), [0, 1, 2, 3, 4, 5, 6]⟩, []),
 (⟨some 61, .indexAddr 3 (.t 59) (.t 60), some (58, true), [0, 1, 2, 3, 4, 5, 6, 7, 8]⟩, [59, 60]),
 (⟨some 62, .load (some 3) (.t 61), some (58, true), [0, 1, 2, 3, 4, 5, 6, 7, 8, 9]⟩, [61]),
 (⟨some 63, .move (.t 0), some (58, true), [0, 1, 2, 3, 4, 5, 6]⟩, []),
 (⟨some 64, .move (.t 6), some (58, true), [0, 1, 2, 3, 4, 5, 6]⟩, []),
 (⟨some 65, .indexAddr 3 (.t 63) (.t 64), some (58, true), [0, 1, 2, 3, 4, 5, 6, 11, 12]⟩, [63, 64]),
 (⟨some 66, .load (some 3) (.t 65), some (58, true), [0, 1, 2, 3, 4, 5, 6, 11, 12, 13]⟩, [65]),
 (⟨some 67, .call false 35 [.t 62, .t 66], some (58, true), [0, 1, 2, 3, 4, 5, 6, 7, 8, 9, 10, 11, 12, 13, 14]⟩, [62, 66]),
 (⟨some 68, .pick (.t 58) (.t 67) (.b false), none, [0, 1, 2, 3, 4, 5, 6, 7, 8, 9, 10, 11, 12, 13, 14, 15]⟩, [58, 67])])
 (.cond (.t 68)
 (.seq (.regionK false [
 (.o 2 (.move (.b false)), [0, 3, 4, 5, 6, 7, 68])])
 .ret)
 .skip)))
 (.regionK false [
 (.o 50 (.move (.t 7)), [68]),
 (.o 51 (.bin .add (.t 50) (.i 1)), [50]),
 (.o 7 (.move (.t 51)), [51])])))

@[irreducible] def a13_l1 : ACode :=
  (.seq (.seq (.regionK false [
 (.o 31 (.move (.t 6)), []),
 (.o 32 (.move (.t 0)), []),
 (.o 33 (.len (.t 32)), [32]),
 (.o 34 (.bin .lss (.t 31) (.t 33)), [31, 33])])
 (.cond (.t 34)
 .skip
 (.ghost (.forget [6, 34]) (.ghost .lower (.exit 2)))))
 (.seq (.block 3
 (.seq (.seq (.regionK false [
 (.o 37 (.move (.t 3)), [34]),
 (.o 38 (.move (.t 6)), []),
 (.o 39 (.indexAddr 1 (.t 37) (.t 38)), [37, 38]),
 (.o 40 (.load none (.t 39)), [39]),
 (.o 41 (.move (.t 5)), []),
 (.o 42 (.bin .neq (.t 40) (.t 41)), [40, 41])])
 (.cond (.t 42)
 (.ghost (.forget [42]) (.ghost .lower (.exit 3)))
 .skip))
 (.seq (.regionK false [
 (.o 43 (.move (.t 4)), [42]),
 (.o 44 (.move (.t 6)), []),
 (.o 45 (.buildSlice [.int .i64 0] 1 [(0, .t 44)]), [44]),
 (.o 46 (.append 8 1 (.t 43) (.t 45)), [43, 45]),
 (.o 4 (.move (.t 46)), [46])])
 (.seq (.regionK false [
 (.o 7 (.move (.i 0)), [])])
 (.block 4
 (.loop
 (.ghost .lower a13_l0)))))))
 (.regionK false [
 (.o 35 (.move (.t 6)), []),
 (.o 36 (.bin .add (.t 35) (.i 1)), [35]),
 (.o 6 (.move (.t 36)), [36])])))

@[irreducible] def a13_l2 : ACode :=
  (.seq (.seq (.regionK false [
 (.o 19 (.move (.t 5)), []),
 (.o 20 (.move (.t 0)), []),
 (.o 21 (.call false 41 [.t 20]), [20]),
 (.o 22 (.bin .lss (.t 19) (.t 21)), [19, 21]),
 (.o 23 (.move (.t 22)), [22]),
 (⟨some 24, .move (.t 5), some (23, true), []⟩, []),
 (⟨some 25, .move (.t 0), some (23, true), []⟩, []),
 (⟨some 26, .len (.t 25), some (23, true), []⟩, [25]),
 (⟨some 27, .bin .leq (.t 24) (.t 26), some (23, true), []⟩, [24, 26]),
 (.o 28 (.pick (.t 23) (.t 27) (.b false)), [23, 27])])
 (.cond (.t 28)
 .skip
 (.ghost (.forget [3, 5, 28]) (.ghost .lower (.exit 0)))))
 (.seq (.block 1
 (.seq (.regionK false [
 (.o 6 (.move (.i 0)), [28])])
 (.block 2
 (.loop
 (.ghost .lower a13_l1)))))
 (.regionK false [
 (.o 29 (.move (.t 5)), []),
 (.o 30 (.bin .add (.t 29) (.i 1)), [29]),
 (.o 5 (.move (.t 30)), [30])])))

def a13 : AFunc := ⟨75, 1, [.tmp 2],
  (.seq (.regionK false [
 (.o 2 (.move (.b false)), [2])])
 (.seq (.seq (.regionK false [
 (.o 8 (.move (.t 0)), []),
 (.o 9 (.call false 30 [.t 8, .i 10]), [8]),
 (.o 10 (.un .not (.t 9)), [9])])
 (.cond (.t 10)
 (.seq (.regionK false [
 (.o 11 (.call false 31 []), [0, 10]),
 (.o 2 (.move (.t 11)), [11])])
 .ret)
 .skip))
 (.seq (.regionK false [
 (.o 12 (.move (.t 0)), [10]),
 (.o 13 (.call false 39 [.t 12]), [12]),
 (.o 3 (.move (.t 13)), [13])])
 (.seq (.seq (.regionK false [
 (.o 14 (.move (.t 3)), []),
 (.o 15 (.len (.t 14)), [14]),
 (.o 16 (.move (.t 0)), []),
 (.o 17 (.len (.t 16)), [16]),
 (.o 18 (.bin .neq (.t 15) (.t 17)), [15, 17])])
 (.cond (.t 18)
 (.seq (.regionK false [
 (.o 2 (.move (.b false)), [0, 3, 18])])
 .ret)
 .skip))
 (.seq (.regionK false [
 (.o 4 (.move (.c (.p (.slice true [])))), [18])])
 (.ghost (.own 1 4) (.seq (.seq (.regionK false [
 (.o 5 (.move (.i 0)), [])])
 (.block 0
 (.loop
 (.ghost .lower a13_l2))))
 (.seq (.regionK false [
 (.o 69 (.move (.t 0)), [0]),
 (.o 70 (.move (.t 4)), [4]),
 (.o 71 (.call false 36 [.t 69, .t 70]), [69, 70]),
 (.o 72 (.move (.t 71)), [71]),
 (⟨some 73, .call false 31 [], some (72, true), []⟩, []),
 (.o 74 (.pick (.t 72) (.t 73) (.b false)), [72, 73]),
 (.o 2 (.move (.t 74)), [74])])
 .ret))))))))⟩

/-- clockwork/clockworklaw25.ConflictApart -/
@[irreducible] def a14_l0 : ACode :=
  (.seq (.seq (.regionK false [
 (.o 53 (.move (.t 9)), []),
 (.o 54 (.move (.t 3)), []),
 (.o 55 (.move (.t 7)), []),
 (.o 56 (.indexAddr 1 (.t 54) (.t 55)), [54, 55]),
 (.o 57 (.load none (.t 56)), [56]),
 (.o 58 (.len (.t 57)), [57]),
 (.o 59 (.bin .lss (.t 53) (.t 58)), [53, 58])])
 (.cond (.t 59)
 .skip
 (.ghost (.forget [9, 59]) (.ghost .lower (.exit 8)))))
 (.seq (.block 9
 (.seq (.regionK true [
 (.o 62 (.move (.t 0)), [59]),
 (.o 63 (.move (.t 3)), []),
 (.o 64 (.move (.t 6)), []),
 (⟨some 65, .indexAddr 1 (.t 63) (.t 64), none, [1, 2]⟩, [63, 64]),
 (⟨some 66, .load none (.t 65), none, [1, 2, 3]⟩, [65]),
 (.o 67 (.move (.t 8)), []),
 (⟨some 68, .indexAddr 1 (.t 66) (.t 67), none, [1, 2, 3, 4, 5]⟩, [66, 67]),
 (⟨some 69, .load none (.t 68), none, [1, 2, 3, 4, 5, 6]⟩, [68]),
 (⟨some 70, .indexAddr 3 (.t 62) (.t 69), none, [0, 1, 2, 3, 4, 5, 6, 7]⟩, [62, 69]),
 (⟨some 71, .load (some 3) (.t 70), none, [0, 1, 2, 3, 4, 5, 6, 7, 8]⟩, [70]),
 (.o 72 (.move (.t 0)), []),
 (.o 73 (.move (.t 3)), []),
 (.o 74 (.move (.t 7)), []),
 (⟨some 75, .indexAddr 1 (.t 73) (.t 74), none, [11, 12]⟩, [73, 74]),
 (⟨some 76, .load none (.t 75), none, [11, 12, 13]⟩, [75]),
 (.o 77 (.move (.t 9)), []),
 (⟨some 78, .indexAddr 1 (.t 76) (.t 77), none, [11, 12, 13, 14, 15]⟩, [76, 77]),
 (⟨some 79, .load none (.t 78), none, [11, 12, 13, 14, 15, 16]⟩, [78]),
 (⟨some 80, .indexAddr 3 (.t 72) (.t 79), none, [10, 11, 12, 13, 14, 15, 16, 17]⟩, [72, 79]),
 (⟨some 81, .load (some 3) (.t 80), none, [10, 11, 12, 13, 14, 15, 16, 17, 18]⟩, [80]),
 (⟨some 82, .call false 35 [.t 71, .t 81], none, [0, 1, 2, 3, 4, 5, 6, 7, 8, 9, 10, 11, 12, 13, 14, 15, 16, 17, 18, 19]⟩, [71, 81])])
 (.cond (.t 82)
 (.seq (.regionK false [
 (.o 2 (.move (.b false)), [0, 3, 6, 7, 8, 9, 82])])
 .ret)
 .skip)))
 (.regionK false [
 (.o 60 (.move (.t 9)), [82]),
 (.o 61 (.bin .add (.t 60) (.i 1)), [60]),
 (.o 9 (.move (.t 61)), [61])])))

@[irreducible] def a14_l1 : ACode :=
  (.seq (.seq (.regionK false [
 (.o 44 (.move (.t 8)), []),
 (.o 45 (.move (.t 3)), []),
 (.o 46 (.move (.t 6)), []),
 (.o 47 (.indexAddr 1 (.t 45) (.t 46)), [45, 46]),
 (.o 48 (.load none (.t 47)), [47]),
 (.o 49 (.len (.t 48)), [48]),
 (.o 50 (.bin .lss (.t 44) (.t 49)), [44, 49])])
 (.cond (.t 50)
 .skip
 (.ghost (.forget [8, 50]) (.ghost .lower (.exit 6)))))
 (.seq (.block 7
 (.seq (.regionK false [
 (.o 9 (.move (.i 0)), [50])])
 (.block 8
 (.loop
 (.ghost .lower a14_l0)))))
 (.regionK false [
 (.o 51 (.move (.t 8)), []),
 (.o 52 (.bin .add (.t 51) (.i 1)), [51]),
 (.o 8 (.move (.t 52)), [52])])))

@[irreducible] def a14_l2 : ACode :=
  (.seq (.seq (.regionK false [
 (.o 39 (.move (.t 7)), []),
 (.o 40 (.move (.t 6)), []),
 (.o 41 (.bin .lss (.t 39) (.t 40)), [39, 40])])
 (.cond (.t 41)
 .skip
 (.ghost (.forget [7, 41]) (.ghost .lower (.exit 4)))))
 (.seq (.block 5
 (.seq (.regionK false [
 (.o 8 (.move (.i 0)), [41])])
 (.block 6
 (.loop
 (.ghost .lower a14_l1)))))
 (.regionK false [
 (.o 42 (.move (.t 7)), []),
 (.o 43 (.bin .add (.t 42) (.i 1)), [42]),
 (.o 7 (.move (.t 43)), [43])])))

@[irreducible] def a14_l3 : ACode :=
  (.seq (.seq (.regionK false [
 (.o 33 (.move (.t 6)), []),
 (.o 34 (.move (.t 3)), []),
 (.o 35 (.len (.t 34)), [34]),
 (.o 36 (.bin .lss (.t 33) (.t 35)), [33, 35])])
 (.cond (.t 36)
 .skip
 (.ghost (.forget [0, 3, 6, 36]) (.ghost .lower (.exit 2)))))
 (.seq (.block 3
 (.seq (.regionK false [
 (.o 7 (.move (.i 0)), [36])])
 (.block 4
 (.loop
 (.ghost .lower a14_l2)))))
 (.regionK false [
 (.o 37 (.move (.t 6)), []),
 (.o 38 (.bin .add (.t 37) (.i 1)), [37]),
 (.o 6 (.move (.t 38)), [38])])))

@[irreducible] def a14_l4 : ACode :=
  (.seq (.seq (.regionK false [
 (.o 16 (.move (.t 5)), []),
 (.o 17 (.move (.t 3)), []),
 (.o 18 (.len (.t 17)), [17]),
 (.o 19 (.bin .lss (.t 16) (.t 18)), [16, 18])])
 (.cond (.t 19)
 .skip
 (.ghost (.forget [5, 19]) (.ghost .lower (.exit 0)))))
 (.seq (.block 1
 (.regionK false [
 (.o 22 (.move (.t 4)), [19]),
 (.o 23 (.move (.t 3)), []),
 (.o 24 (.move (.t 5)), []),
 (.o 25 (.indexAddr 1 (.t 23) (.t 24)), [23, 24]),
 (.o 26 (.load none (.t 25)), [25]),
 (.o 27 (.append 8 1 (.t 22) (.t 26)), [22, 26]),
 (.o 4 (.move (.t 27)), [27])]))
 (.regionK false [
 (.o 20 (.move (.t 5)), []),
 (.o 21 (.bin .add (.t 20) (.i 1)), [20]),
 (.o 5 (.move (.t 21)), [21])])))

def a14 : AFunc := ⟨84, 1, [.tmp 2],
  (.seq (.regionK false [
 (.o 2 (.move (.b false)), [2])])
 (.seq (.seq (.regionK false [
 (.o 10 (.move (.t 0)), []),
 (.o 11 (.call false 30 [.t 10, .i 10]), [10]),
 (.o 12 (.un .not (.t 11)), [11])])
 (.cond (.t 12)
 (.seq (.regionK false [
 (.o 13 (.call false 31 []), [0, 12]),
 (.o 2 (.move (.t 13)), [13])])
 .ret)
 .skip))
 (.seq (.regionK false [
 (.o 14 (.move (.t 0)), [12]),
 (.o 15 (.call false 43 [.t 14]), [14]),
 (.o 3 (.move (.t 15)), [15])])
 (.seq (.regionK false [
 (.o 4 (.move (.c (.p (.slice true [])))), [])])
 (.ghost (.own 1 4) (.seq (.seq (.regionK false [
 (.o 5 (.move (.i 0)), [])])
 (.block 0
 (.loop
 (.ghost .lower a14_l4))))
 (.seq (.seq (.regionK false [
 (.o 28 (.move (.t 4)), [4]),
 (.o 29 (.move (.t 0)), []),
 (.o 30 (.len (.t 29)), [29]),
 (.o 31 (.call false 33 [.t 28, .t 30]), [28, 30]),
 (.o 32 (.un .not (.t 31)), [31])])
 (.cond (.t 32)
 (.seq (.regionK false [
 (.o 2 (.move (.b false)), [0, 3, 32])])
 .ret)
 .skip))
 (.seq (.seq (.regionK false [
 (.o 6 (.move (.i 0)), [32])])
 (.block 2
 (.loop
 (.ghost .lower a14_l3))))
 (.seq (.regionK false [
 (.o 83 (.call false 31 []), []),
 (.o 2 (.move (.t 83)), [83])])
 .ret)))))))))⟩

/-- clockwork/keys.Valid -/
def a25 : AFunc := ⟨9, 1, [.tmp 2],
  (.seq (.regionK false [
 (.o 2 (.move (.b false)), [2])])
 (.seq (.regionK false [
 (.o 3 (.move (.t 0)), []),
 (.o 4 (.bin .neq (.t 3) (.c (.p (.str ⟨#[]⟩)))), [3]),
 (.o 5 (.move (.t 4)), [4]),
 (⟨some 6, .move (.t 0), some (5, true), []⟩, [0]),
 (⟨some 7, .call false 60 [.t 6, .c (.func 61 [])], some (5, true), []⟩, [6]),
 (.o 8 (.pick (.t 5) (.t 7) (.b false)), [5, 7]),
 (.o 2 (.move (.t 8)), [8])])
 .ret))⟩

/-- clockwork/clockworkref25.Few -/
@[irreducible] def a30_l0 : ACode :=
  (.seq (.seq (.regionK false [
 (.o 10 (.move (.t 5)), []),
 (.o 11 (.move (.t 0)), []),
 (.o 12 (.len (.t 11)), [11]),
 (.o 13 (.bin .lss (.t 10) (.t 12)), [10, 12])])
 (.cond (.t 13)
 .skip
 (.ghost (.forget [0, 5, 13]) (.ghost .lower (.exit 0)))))
 (.seq (.block 1
 (.seq (.regionK false [
 (.o 16 (.move (.t 0)), [13]),
 (.o 17 (.move (.t 5)), []),
 (.o 18 (.indexAddr 3 (.t 16) (.t 17)), [16, 17]),
 (.o 19 (.load (some 3) (.t 18)), [18]),
 (.o 20 (.call false 67 [.t 19, .i 8]), [19]),
 (.o 21 (.un .not (.t 20)), [20])])
 (.cond (.t 21)
 (.seq (.regionK false [
 (.o 4 (.move (.b false)), [0, 5, 21])])
 .ret)
 .skip)))
 (.regionK false [
 (.o 14 (.move (.t 5)), [21]),
 (.o 15 (.bin .add (.t 14) (.i 1)), [14]),
 (.o 5 (.move (.t 15)), [15])])))

def a30 : AFunc := ⟨22, 2, [.tmp 4],
  (.seq (.regionK false [
 (.o 4 (.move (.b false)), [4])])
 (.seq (.seq (.regionK false [
 (.o 6 (.move (.t 0)), []),
 (.o 7 (.len (.t 6)), [6]),
 (.o 8 (.move (.t 1)), [1]),
 (.o 9 (.bin .gtr (.t 7) (.t 8)), [7, 8])])
 (.cond (.t 9)
 (.seq (.regionK false [
 (.o 4 (.move (.b false)), [0, 9])])
 .ret)
 .skip))
 (.seq (.seq (.regionK false [
 (.o 5 (.move (.i 0)), [9])])
 (.block 0
 (.loop
 (.ghost .lower a30_l0))))
 (.seq (.regionK false [
 (.o 4 (.move (.b true)), [])])
 .ret))))⟩

/-- clockwork/clockworklaw25.lives -/
def a31 : AFunc := ⟨79, 0, [.tmp 0],
  (.seq (.regionK false [
 (.o 0 (.move (.b false)), [0])])
 (.seq (.regionK false [
 (.o 5 (.buildSlice [.str ⟨#[]⟩] 1 [(0, .c (.p (.str ⟨#[120]⟩)))]), []),
 (.o 6 (.build [.bool false, .slice true [], .slice true []] [(2, 1, .t 5)]), [5]),
 (.o 7 (.buildSlice [.str ⟨#[]⟩] 1 [(0, .c (.p (.str ⟨#[120]⟩)))]), []),
 (.o 8 (.build [.bool false, .slice true [], .slice true []] [(1, 1, .t 7)]), [7]),
 (.o 9 (.buildSlice [.str ⟨#[]⟩] 1 [(0, .c (.p (.str ⟨#[121]⟩)))]), []),
 (.o 10 (.build [.bool false, .slice true [], .slice true []] [(2, 1, .t 9)]), [9]),
 (.o 11 (.buildSlice [.bool false, .slice true [], .slice true []] 3 [(0, .t 6), (1, .t 8), (2, .t 10)]), [6, 8, 10]),
 (.o 1 (.move (.t 11)), [11])])
 (.seq (.regionK false [
 (.o 12 (.move (.t 1)), []),
 (.o 13 (.call false 32 [.t 12]), [12]),
 (.o 2 (.move (.t 13)), [13])])
 (.seq (.regionK false [
 (.o 14 (.move (.t 1)), []),
 (.o 15 (.call false 39 [.t 14]), [14]),
 (.o 3 (.move (.t 15)), [15])])
 (.seq (.regionK false [
 (.o 16 (.move (.t 1)), []),
 (.o 17 (.call false 43 [.t 16]), [16]),
 (.o 4 (.move (.t 17)), [17])])
 (.seq (.regionK false [
 (.o 18 (.move (.t 2)), []),
 (.o 19 (.len (.t 18)), [18]),
 (.o 20 (.bin .eql (.t 19) (.i 1)), [19]),
 (.o 21 (.move (.t 20)), [20]),
 (⟨some 22, .move (.t 2), some (21, true), []⟩, [2]),
 (⟨some 23, .indexAddr 3 (.t 22) (.i 0), some (21, true), []⟩, [22]),
 (⟨some 24, .load (some 3) (.t 23), some (21, true), []⟩, [23]),
 (⟨some 25, .build [.int .i64 0, .int .i64 0, .int .i64 0] [(0, 1, .i 0), (1, 1, .i 1), (2, 1, .i 1)], some (21, true), []⟩, []),
 (⟨some 26, .eqagg false [(0, 0), (1, 0), (2, 0)] (.t 24) (.t 25), some (21, true), []⟩, [24, 25]),
 (.o 27 (.pick (.t 21) (.t 26) (.b false)), [21, 26]),
 (.o 28 (.move (.t 27)), [27]),
 (⟨some 29, .move (.t 3), some (28, true), []⟩, []),
 (⟨some 30, .len (.t 29), some (28, true), []⟩, [29]),
 (⟨some 31, .bin .eql (.t 30) (.i 3), some (28, true), []⟩, [30]),
 (.o 32 (.pick (.t 28) (.t 31) (.b false)), [28, 31]),
 (.o 33 (.move (.t 32)), [32]),
 (⟨some 34, .move (.t 3), some (33, true), []⟩, []),
 (⟨some 35, .indexAddr 1 (.t 34) (.i 0), some (33, true), []⟩, [34]),
 (⟨some 36, .load none (.t 35), some (33, true), []⟩, [35]),
 (⟨some 37, .bin .eql (.t 36) (.i 0), some (33, true), []⟩, [36]),
 (.o 38 (.pick (.t 33) (.t 37) (.b false)), [33, 37]),
 (.o 39 (.move (.t 38)), [38]),
 (⟨some 40, .move (.t 3), some (39, true), []⟩, []),
 (⟨some 41, .indexAddr 1 (.t 40) (.i 1), some (39, true), []⟩, [40]),
 (⟨some 42, .load none (.t 41), some (39, true), []⟩, [41]),
 (⟨some 43, .bin .eql (.t 42) (.i 1), some (39, true), []⟩, [42]),
 (.o 44 (.pick (.t 39) (.t 43) (.b false)), [39, 43]),
 (.o 45 (.move (.t 44)), [44]),
 (⟨some 46, .move (.t 3), some (45, true), []⟩, [3]),
 (⟨some 47, .indexAddr 1 (.t 46) (.i 2), some (45, true), []⟩, [46]),
 (⟨some 48, .load none (.t 47), some (45, true), []⟩, [47]),
 (⟨some 49, .bin .eql (.t 48) (.i 0), some (45, true), []⟩, [48]),
 (.o 50 (.pick (.t 45) (.t 49) (.b false)), [45, 49]),
 (.o 51 (.move (.t 50)), [50]),
 (⟨some 52, .move (.t 1), some (51, true), []⟩, []),
 (⟨some 53, .call false 41 [.t 52], some (51, true), []⟩, [52]),
 (⟨some 54, .bin .eql (.t 53) (.i 2), some (51, true), []⟩, [53]),
 (.o 55 (.pick (.t 51) (.t 54) (.b false)), [51, 54]),
 (.o 56 (.move (.t 55)), [55]),
 (⟨some 57, .move (.t 4), some (56, true), []⟩, []),
 (⟨some 58, .len (.t 57), some (56, true), []⟩, [57]),
 (⟨some 59, .bin .eql (.t 58) (.i 2), some (56, true), []⟩, [58]),
 (.o 60 (.pick (.t 56) (.t 59) (.b false)), [56, 59]),
 (.o 61 (.move (.t 60)), [60]),
 (⟨some 62, .move (.t 4), some (61, true), []⟩, [4]),
 (⟨some 63, .indexAddr 1 (.t 62) (.i 0), some (61, true), []⟩, [62]),
 (⟨some 64, .load none (.t 63), some (61, true), []⟩, [63]),
 (⟨some 65, .len (.t 64), some (61, true), []⟩, [64]),
 (⟨some 66, .bin .eql (.t 65) (.i 2), some (61, true), []⟩, [65]),
 (.o 67 (.pick (.t 61) (.t 66) (.b false)), [61, 66]),
 (.o 68 (.move (.t 67)), [67]),
 (⟨some 69, .move (.t 1), some (68, true), []⟩, []),
 (⟨some 70, .buildSlice [.int .i64 0] 3 [(0, .i 2), (1, .i 0), (2, .i 1)], some (68, true), []⟩, []),
 (⟨some 71, .call false 36 [.t 69, .t 70], some (68, true), []⟩, [69, 70]),
 (.o 72 (.pick (.t 68) (.t 71) (.b false)), [68, 71]),
 (.o 73 (.move (.t 72)), [72]),
 (⟨some 74, .move (.t 1), some (73, true), []⟩, [1]),
 (⟨some 75, .buildSlice [.int .i64 0] 3 [(0, .i 1), (1, .i 0), (2, .i 2)], some (73, true), []⟩, []),
 (⟨some 76, .call false 36 [.t 74, .t 75], some (73, true), []⟩, [74, 75]),
 (⟨some 77, .un .not (.t 76), some (73, true), []⟩, [76]),
 (.o 78 (.pick (.t 73) (.t 77) (.b false)), [73, 77]),
 (.o 0 (.move (.t 78)), [78])])
 .ret))))))⟩

/-- clockwork/conflict.Edges -/
@[irreducible] def a32_l0 : ACode :=
  (.seq (.regionK false [
 (.o 35 (.bin .lss (.t 34) (.t 33)), [])])
 (.seq (.cond (.t 35)
 .skip
 (.ghost (.forget [32, 33, 34, 35]) (.ghost .lower (.exit 4))))
 (.seq (.block 5
 (.seq (.regionK false [
 (.o 36 (.indexAddr 1 (.t 32) (.t 34)), [35]),
 (.o 37 (.load none (.t 36)), [36]),
 (.o 8 (.move (.t 37)), [37])])
 (.regionK false [
 (.o 38 (.move (.t 4)), []),
 (.o 39 (.move (.t 5)), []),
 (.o 40 (.move (.t 6)), []),
 (.o 41 (.move (.t 8)), [8]),
 (.o 42 (.build [.int .i64 0, .int .i64 0, .int .i64 0] [(0, 1, .t 39), (1, 1, .t 40), (2, 1, .t 41)]), [39, 40, 41]),
 (.o 43 (.buildSlice [.int .i64 0, .int .i64 0, .int .i64 0] 1 [(0, .t 42)]), [42]),
 (.o 44 (.append 24 3 (.t 38) (.t 43)), [38, 43]),
 (.o 4 (.move (.t 44)), [44])])))
 (.regionK false [
 (.o 45 (.bin .add (.t 34) (.i 1)), []),
 (.o 34 (.move (.t 45)), [45])]))))

@[irreducible] def a32_l1 : ACode :=
  (.seq (.seq (.regionK false [
 (.o 18 (.move (.t 6)), []),
 (.o 19 (.move (.t 3)), []),
 (.o 20 (.len (.t 19)), [19]),
 (.o 21 (.bin .lss (.t 18) (.t 20)), [18, 20])])
 (.cond (.t 21)
 .skip
 (.ghost (.forget [5, 6, 21]) (.ghost .lower (.exit 2)))))
 (.seq (.block 3
 (.seq (.regionK true [
 (.o 24 (.move (.t 3)), [21]),
 (.o 25 (.move (.t 5)), []),
 (⟨some 26, .indexAddr 3 (.t 24) (.t 25), none, [0, 1]⟩, [24, 25]),
 (⟨some 27, .load (some 3) (.t 26), none, [0, 1, 2]⟩, [26]),
 (.o 28 (.move (.t 3)), []),
 (.o 29 (.move (.t 6)), []),
 (⟨some 30, .indexAddr 3 (.t 28) (.t 29), none, [4, 5]⟩, [28, 29]),
 (⟨some 31, .load (some 3) (.t 30), none, [4, 5, 6]⟩, [30]),
 (⟨some 32, .call false 69 [.t 27, .t 31], none, [0, 1, 2, 3, 4, 5, 6, 7]⟩, [27, 31]),
 (⟨some 33, .len (.t 32), none, [0, 1, 2, 3, 4, 5, 6, 7, 8]⟩, []),
 (.o 34 (.move (.i 0)), [])])
 (.block 4
 (.loop
 (.ghost .lower a32_l0)))))
 (.regionK false [
 (.o 22 (.move (.t 6)), []),
 (.o 23 (.bin .add (.t 22) (.i 1)), [22]),
 (.o 6 (.move (.t 23)), [23])])))

@[irreducible] def a32_l2 : ACode :=
  (.seq (.regionK false [
 (.o 14 (.bin .lss (.t 13) (.t 12)), [])])
 (.seq (.cond (.t 14)
 .skip
 (.ghost (.forget [3, 12, 13, 14]) (.ghost .lower (.exit 0))))
 (.seq (.block 1
 (.seq (.regionK false [
 (.o 15 (.move (.t 13)), [14]),
 (.o 5 (.move (.t 15)), [15])])
 (.seq (.regionK false [
 (.o 16 (.move (.t 5)), []),
 (.o 17 (.bin .add (.t 16) (.i 1)), [16]),
 (.o 6 (.move (.t 17)), [17])])
 (.block 2
 (.loop
 (.ghost .lower a32_l1))))))
 (.regionK false [
 (.o 46 (.bin .add (.t 13) (.i 1)), []),
 (.o 13 (.move (.t 46)), [46])]))))

def a32 : AFunc := ⟨48, 1, [.tmp 2],
  (.seq (.regionK false [
 (.o 2 (.move (.c (.p (.slice true [])))), [2])])
 (.seq (.regionK false [
 (.o 9 (.move (.t 0)), [0]),
 (.o 10 (.call false 68 [.t 9]), [9]),
 (.o 3 (.move (.t 10)), [10])])
 (.seq (.regionK false [
 (.o 4 (.move (.c (.p (.slice true [])))), [])])
 (.ghost (.own 3 4) (.seq (.seq (.regionK false [
 (.o 11 (.move (.t 3)), []),
 (.o 12 (.len (.t 11)), [11]),
 (.o 13 (.move (.i 0)), [])])
 (.block 0
 (.loop
 (.ghost .lower a32_l2))))
 (.seq (.regionK false [
 (.o 47 (.move (.t 4)), [4]),
 (.o 2 (.move (.t 47)), [47])])
 .ret))))))⟩

/-- clockwork/clockworkref25.Permutes -/
@[irreducible] def a33_l0 : ACode :=
  (.seq (.seq (.regionK false [
 (.o 6 (.move (.t 5)), []),
 (.o 7 (.move (.t 1)), []),
 (.o 8 (.bin .lss (.t 6) (.t 7)), [6, 7])])
 (.cond (.t 8)
 .skip
 (.ghost (.forget [5, 8]) (.ghost .lower (.exit 0)))))
 (.seq (.block 1
 (.seq (.regionK false [
 (.o 11 (.move (.t 0)), [8]),
 (.o 12 (.move (.t 5)), []),
 (.o 13 (.call false 34 [.t 11, .t 12]), [11, 12]),
 (.o 14 (.bin .lss (.t 13) (.i 0)), [13])])
 (.cond (.t 14)
 (.seq (.regionK false [
 (.o 4 (.move (.b false)), [0, 1, 5, 14])])
 .ret)
 .skip)))
 (.regionK false [
 (.o 9 (.move (.t 5)), [14]),
 (.o 10 (.bin .add (.t 9) (.i 1)), [9]),
 (.o 5 (.move (.t 10)), [10])])))

def a33 : AFunc := ⟨19, 2, [.tmp 4],
  (.seq (.regionK false [
 (.o 4 (.move (.b false)), [4])])
 (.seq (.seq (.regionK false [
 (.o 5 (.move (.i 0)), [])])
 (.block 0
 (.loop
 (.ghost .lower a33_l0))))
 (.seq (.regionK false [
 (.o 15 (.move (.t 0)), [0]),
 (.o 16 (.len (.t 15)), [15]),
 (.o 17 (.move (.t 1)), [1]),
 (.o 18 (.bin .eql (.t 16) (.t 17)), [16, 17]),
 (.o 4 (.move (.t 18)), [18])])
 .ret)))⟩

/-- clockwork/clockworkref25.Place -/
@[irreducible] def a34_l0 : ACode :=
  (.seq (.seq (.regionK false [
 (.o 6 (.move (.t 5)), []),
 (.o 7 (.move (.t 0)), []),
 (.o 8 (.len (.t 7)), [7]),
 (.o 9 (.bin .lss (.t 6) (.t 8)), [6, 8])])
 (.cond (.t 9)
 .skip
 (.ghost (.forget [0, 1, 5, 9]) (.ghost .lower (.exit 0)))))
 (.seq (.block 1
 (.seq (.regionK false [
 (.o 12 (.move (.t 0)), [9]),
 (.o 13 (.move (.t 5)), []),
 (.o 14 (.indexAddr 1 (.t 12) (.t 13)), [12, 13]),
 (.o 15 (.load none (.t 14)), [14]),
 (.o 16 (.move (.t 1)), []),
 (.o 17 (.bin .eql (.t 15) (.t 16)), [15, 16])])
 (.cond (.t 17)
 (.seq (.regionK false [
 (.o 18 (.move (.t 5)), [0, 1, 5, 17]),
 (.o 4 (.move (.t 18)), [18])])
 .ret)
 .skip)))
 (.regionK false [
 (.o 10 (.move (.t 5)), [17]),
 (.o 11 (.bin .add (.t 10) (.i 1)), [10]),
 (.o 5 (.move (.t 11)), [11])])))

def a34 : AFunc := ⟨19, 2, [.tmp 4],
  (.seq (.regionK false [
 (.o 4 (.move (.i 0)), [4])])
 (.seq (.seq (.regionK false [
 (.o 5 (.move (.i 0)), [])])
 (.block 0
 (.loop
 (.ghost .lower a34_l0))))
 (.seq (.regionK false [
 (.o 4 (.move (.i (-1))), [])])
 .ret)))⟩

/-- clockwork/footprint.Conflicts -/
def a35 : AFunc := ⟨40, 2, [.tmp 4],
  (.seq (.regionK false [
 (.o 2 (.box (.t 0)), [0]),
 (.o 3 (.box (.t 1)), [1]),
 (.o 4 (.move (.b false)), [4])])
 (.seq (.seq (.regionK false [
 (.o 5 (.load (some 3) (.t 2)), []),
 (.o 6 (.call false 70 [.t 5]), [5]),
 (.o 7 (.un .not (.t 6)), [6]),
 (.o 8 (.move (.t 7)), [7]),
 (⟨some 9, .load (some 3) (.t 3), some (8, false), []⟩, []),
 (⟨some 10, .call false 70 [.t 9], some (8, false), []⟩, [9]),
 (⟨some 11, .un .not (.t 10), some (8, false), []⟩, [10]),
 (.o 12 (.pick (.t 8) (.b true) (.t 11)), [8, 11]),
 (.o 13 (.move (.t 12)), [12]),
 (⟨some 14, .fieldAddr 0 (.t 2), some (13, false), []⟩, []),
 (⟨some 15, .load none (.t 14), some (13, false), []⟩, [14]),
 (.o 16 (.pick (.t 13) (.b true) (.t 15)), [13, 15]),
 (.o 17 (.move (.t 16)), [16]),
 (⟨some 18, .fieldAddr 0 (.t 3), some (17, false), []⟩, []),
 (⟨some 19, .load none (.t 18), some (17, false), []⟩, [18]),
 (.o 20 (.pick (.t 17) (.b true) (.t 19)), [17, 19])])
 (.cond (.t 20)
 (.seq (.regionK false [
 (.o 4 (.move (.b true)), [20])])
 .ret)
 .skip))
 (.seq (.regionK false [
 (.o 21 (.fieldAddr 2 (.t 2)), [20]),
 (.o 22 (.load none (.t 21)), [21]),
 (.o 23 (.fieldAddr 2 (.t 3)), []),
 (.o 24 (.load none (.t 23)), [23]),
 (.o 25 (.call false 71 [.t 22, .t 24]), [22, 24]),
 (.o 26 (.move (.t 25)), [25]),
 (⟨some 27, .fieldAddr 2 (.t 2), some (26, false), []⟩, []),
 (⟨some 28, .load none (.t 27), some (26, false), []⟩, [27]),
 (⟨some 29, .fieldAddr 1 (.t 3), some (26, false), []⟩, []),
 (⟨some 30, .load none (.t 29), some (26, false), []⟩, [29]),
 (⟨some 31, .call false 71 [.t 28, .t 30], some (26, false), []⟩, [28, 30]),
 (.o 32 (.pick (.t 26) (.b true) (.t 31)), [26, 31]),
 (.o 33 (.move (.t 32)), [32]),
 (⟨some 34, .fieldAddr 1 (.t 2), some (33, false), []⟩, []),
 (⟨some 35, .load none (.t 34), some (33, false), []⟩, [34]),
 (⟨some 36, .fieldAddr 2 (.t 3), some (33, false), []⟩, []),
 (⟨some 37, .load none (.t 36), some (33, false), []⟩, [36]),
 (⟨some 38, .call false 71 [.t 35, .t 37], some (33, false), []⟩, [35, 37]),
 (.o 39 (.pick (.t 33) (.b true) (.t 38)), [33, 38]),
 (.o 4 (.move (.t 39)), [39])])
 .ret)))⟩

/-- clockwork/conflict.Before -/
@[irreducible] def a36_l0 : ACode :=
  (.seq (.regionK false [
 (.o 59 (.bin .lss (.t 58) (.t 57)), [])])
 (.seq (.cond (.t 59)
 .skip
 (.ghost (.forget [5, 56, 57, 58, 59]) (.ghost .lower (.exit 4))))
 (.seq (.block 5
 (.seq (.regionK false [
 (.o 60 (.indexAddr 3 (.t 56) (.t 58)), [59]),
 (.o 61 (.load (some 3) (.t 60)), [60]),
 (.o 10 (.alloc [.int .i64 0, .int .i64 0, .int .i64 0]), []),
 (.u (.store 3 (.t 10) (.t 61)), [61])])
 (.seq (.regionK true [
 (.o 62 (.move (.t 5)), []),
 (.o 63 (.fieldAddr 0 (.t 10)), []),
 (⟨some 64, .load none (.t 63), none, [1]⟩, [63]),
 (⟨some 65, .indexAddr 1 (.t 62) (.t 64), none, [0, 1, 2]⟩, [62, 64]),
 (⟨some 66, .load none (.t 65), none, [0, 1, 2, 3]⟩, [65]),
 (.o 67 (.move (.t 5)), []),
 (.o 68 (.fieldAddr 1 (.t 10)), []),
 (⟨some 69, .load none (.t 68), none, [6]⟩, [68]),
 (⟨some 70, .indexAddr 1 (.t 67) (.t 69), none, [5, 6, 7]⟩, [67, 69]),
 (⟨some 71, .load none (.t 70), none, [5, 6, 7, 8]⟩, [70]),
 (⟨some 72, .bin .gtr (.t 66) (.t 71), none, [0, 1, 2, 3, 4, 5, 6, 7, 8, 9]⟩, [66, 71])])
 (.cond (.t 72)
 (.seq (.regionK false [
 (.o 4 (.move (.b false)), [5, 56, 57, 58, 72])])
 .ret)
 .skip))))
 (.regionK false [
 (.o 73 (.bin .add (.t 58) (.i 1)), [72]),
 (.o 58 (.move (.t 73)), [73])]))))

@[irreducible] def a36_l1 : ACode :=
  (.seq (.regionK false [
 (.o 31 (.bin .lss (.t 30) (.t 29)), [])])
 (.seq (.cond (.t 31)
 .skip
 (.ghost (.forget [28, 29, 30, 31]) (.ghost .lower (.exit 2))))
 (.seq (.block 3
 (.seq (.regionK false [
 (.o 32 (.move (.t 30)), [31]),
 (.o 33 (.indexAddr 1 (.t 28) (.t 30)), []),
 (.o 34 (.load none (.t 33)), [33]),
 (.o 7 (.move (.t 32)), [32]),
 (.o 8 (.move (.t 34)), [34])])
 (.seq (.seq (.regionK false [
 (.o 35 (.move (.t 8)), []),
 (.o 36 (.bin .lss (.t 35) (.i 0)), [35]),
 (.o 37 (.move (.t 36)), [36]),
 (⟨some 38, .move (.t 8), some (37, false), []⟩, []),
 (⟨some 39, .move (.t 0), some (37, false), []⟩, []),
 (⟨some 40, .len (.t 39), some (37, false), []⟩, [39]),
 (⟨some 41, .bin .geq (.t 38) (.t 40), some (37, false), []⟩, [38, 40]),
 (.o 42 (.pick (.t 37) (.b true) (.t 41)), [37, 41]),
 (.o 43 (.move (.t 42)), [42]),
 (⟨some 44, .move (.t 5), some (43, false), []⟩, []),
 (⟨some 45, .move (.t 8), some (43, false), []⟩, []),
 (⟨some 46, .indexAddr 1 (.t 44) (.t 45), some (43, false), []⟩, [44, 45]),
 (⟨some 47, .load none (.t 46), some (43, false), []⟩, [46]),
 (⟨some 48, .bin .geq (.t 47) (.i 0), some (43, false), []⟩, [47]),
 (.o 49 (.pick (.t 43) (.b true) (.t 48)), [43, 48])])
 (.cond (.t 49)
 (.seq (.regionK false [
 (.o 4 (.move (.b false)), [0, 5, 7, 8, 28, 29, 30, 49])])
 .ret)
 .skip))
 (.regionK false [
 (.o 50 (.move (.t 5)), [49]),
 (.o 51 (.move (.t 8)), [8]),
 (.o 52 (.move (.t 7)), [7]),
 (.o 53 (.indexAddr 1 (.t 50) (.t 51)), [50, 51]),
 (.u (.store 1 (.t 53) (.t 52)), [52, 53])]))))
 (.regionK false [
 (.o 54 (.bin .add (.t 30) (.i 1)), []),
 (.o 30 (.move (.t 54)), [54])]))))

@[irreducible] def a36_l2 : ACode :=
  (.seq (.regionK false [
 (.o 22 (.bin .lss (.t 21) (.t 20)), [])])
 (.seq (.cond (.t 22)
 .skip
 (.ghost (.forget [20, 21, 22]) (.ghost .lower (.exit 0))))
 (.seq (.block 1
 (.seq (.regionK false [
 (.o 23 (.move (.t 21)), [22]),
 (.o 6 (.move (.t 23)), [23])])
 (.regionK false [
 (.o 24 (.move (.t 5)), []),
 (.o 25 (.move (.t 6)), [6]),
 (.o 26 (.indexAddr 1 (.t 24) (.t 25)), [24, 25]),
 (.u (.store 1 (.t 26) (.i (-1))), [26])])))
 (.regionK false [
 (.o 27 (.bin .add (.t 21) (.i 1)), []),
 (.o 21 (.move (.t 27)), [27])]))))

def a36 : AFunc := ⟨74, 2, [.tmp 4],
  (.seq (.regionK false [
 (.o 4 (.move (.b false)), [4])])
 (.seq (.seq (.regionK false [
 (.o 11 (.move (.t 1)), []),
 (.o 12 (.len (.t 11)), [11]),
 (.o 13 (.move (.t 0)), []),
 (.o 14 (.len (.t 13)), [13]),
 (.o 15 (.bin .neq (.t 12) (.t 14)), [12, 14])])
 (.cond (.t 15)
 (.seq (.regionK false [
 (.o 4 (.move (.b false)), [0, 1, 15])])
 .ret)
 .skip))
 (.seq (.regionK false [
 (.o 16 (.move (.t 0)), [15]),
 (.o 17 (.len (.t 16)), [16]),
 (.o 18 (.makeSlice [.int .i64 0] 8 (.t 17) (.t 17)), [17]),
 (.o 5 (.move (.t 18)), [18])])
 (.seq (.seq (.regionK false [
 (.o 19 (.move (.t 5)), []),
 (.o 20 (.len (.t 19)), [19]),
 (.o 21 (.move (.i 0)), [])])
 (.block 0
 (.loop
 (.ghost .lower a36_l2))))
 (.seq (.seq (.regionK false [
 (.o 28 (.move (.t 1)), [1]),
 (.o 29 (.len (.t 28)), []),
 (.o 30 (.move (.i 0)), [])])
 (.block 2
 (.loop
 (.ghost .lower a36_l1))))
 (.seq (.seq (.regionK false [
 (.o 55 (.move (.t 0)), [0]),
 (.o 56 (.call false 32 [.t 55]), [55]),
 (.o 57 (.len (.t 56)), []),
 (.o 58 (.move (.i 0)), [])])
 (.block 4
 (.loop
 (.ghost (.free [10]) (.ghost .lower a36_l0)))))
 (.seq (.regionK false [
 (.o 4 (.move (.b true)), [])])
 .ret)))))))⟩

/-- clockwork/clockworkref25.Edges -/
@[irreducible] def a37_l0 : ACode :=
  (.seq (.seq (.regionK false [
 (.o 21 (.move (.t 6)), []),
 (.o 22 (.bin .leq (.t 21) (.i 3)), [21])])
 (.cond (.t 22)
 .skip
 (.ghost (.forget [6, 22]) (.ghost .lower (.exit 4)))))
 (.seq (.block 5
 (.seq (.regionK true [
 (.o 25 (.move (.t 0)), [22]),
 (.o 26 (.move (.t 4)), []),
 (⟨some 27, .indexAddr 3 (.t 25) (.t 26), none, [0, 1]⟩, [25, 26]),
 (⟨some 28, .load (some 3) (.t 27), none, [0, 1, 2]⟩, [27]),
 (.o 29 (.move (.t 0)), []),
 (.o 30 (.move (.t 5)), []),
 (⟨some 31, .indexAddr 3 (.t 29) (.t 30), none, [4, 5]⟩, [29, 30]),
 (⟨some 32, .load (some 3) (.t 31), none, [4, 5, 6]⟩, [31]),
 (.o 33 (.move (.t 6)), []),
 (⟨some 34, .call false 72 [.t 28, .t 32, .t 33], none, [0, 1, 2, 3, 4, 5, 6, 7, 8]⟩, [28, 32, 33])])
 (.cond (.t 34)
 (.regionK false [
 (.o 35 (.move (.t 3)), [34]),
 (.o 36 (.move (.t 4)), []),
 (.o 37 (.move (.t 5)), []),
 (.o 38 (.move (.t 6)), []),
 (.o 39 (.build [.int .i64 0, .int .i64 0, .int .i64 0] [(0, 1, .t 36), (1, 1, .t 37), (2, 1, .t 38)]), [36, 37, 38]),
 (.o 40 (.buildSlice [.int .i64 0, .int .i64 0, .int .i64 0] 1 [(0, .t 39)]), [39]),
 (.o 41 (.append 24 3 (.t 35) (.t 40)), [35, 40]),
 (.o 3 (.move (.t 41)), [41])])
 .skip)))
 (.regionK false [
 (.o 23 (.move (.t 6)), [34]),
 (.o 24 (.bin .add (.t 23) (.i 1)), [23]),
 (.o 6 (.move (.t 24)), [24])])))

@[irreducible] def a37_l1 : ACode :=
  (.seq (.seq (.regionK false [
 (.o 15 (.move (.t 5)), []),
 (.o 16 (.move (.t 0)), []),
 (.o 17 (.len (.t 16)), [16]),
 (.o 18 (.bin .lss (.t 15) (.t 17)), [15, 17])])
 (.cond (.t 18)
 .skip
 (.ghost (.forget [5, 18]) (.ghost .lower (.exit 2)))))
 (.seq (.block 3
 (.seq (.regionK false [
 (.o 6 (.move (.i 1)), [18])])
 (.block 4
 (.loop
 (.ghost .lower a37_l0)))))
 (.regionK false [
 (.o 19 (.move (.t 5)), []),
 (.o 20 (.bin .add (.t 19) (.i 1)), [19]),
 (.o 5 (.move (.t 20)), [20])])))

@[irreducible] def a37_l2 : ACode :=
  (.seq (.seq (.regionK false [
 (.o 7 (.move (.t 4)), []),
 (.o 8 (.move (.t 0)), []),
 (.o 9 (.len (.t 8)), [8]),
 (.o 10 (.bin .lss (.t 7) (.t 9)), [7, 9])])
 (.cond (.t 10)
 .skip
 (.ghost (.forget [0, 4, 10]) (.ghost .lower (.exit 0)))))
 (.seq (.block 1
 (.seq (.regionK false [
 (.o 13 (.move (.t 4)), [10]),
 (.o 14 (.bin .add (.t 13) (.i 1)), [13]),
 (.o 5 (.move (.t 14)), [14])])
 (.block 2
 (.loop
 (.ghost .lower a37_l1)))))
 (.regionK false [
 (.o 11 (.move (.t 4)), []),
 (.o 12 (.bin .add (.t 11) (.i 1)), [11]),
 (.o 4 (.move (.t 12)), [12])])))

def a37 : AFunc := ⟨43, 1, [.tmp 2],
  (.seq (.regionK false [
 (.o 2 (.move (.c (.p (.slice true [])))), [2])])
 (.seq (.regionK false [
 (.o 3 (.move (.c (.p (.slice true [])))), [])])
 (.ghost (.own 3 3) (.seq (.seq (.regionK false [
 (.o 4 (.move (.i 0)), [])])
 (.block 0
 (.loop
 (.ghost .lower a37_l2))))
 (.seq (.regionK false [
 (.o 42 (.move (.t 3)), [3]),
 (.o 2 (.move (.t 42)), [42])])
 .ret)))))⟩

/-- clockwork/clockworklaw25.same -/
@[irreducible] def a38_l0 : ACode :=
  (.seq (.seq (.regionK false [
 (.o 11 (.move (.t 5)), []),
 (.o 12 (.move (.t 0)), []),
 (.o 13 (.len (.t 12)), [12]),
 (.o 14 (.bin .lss (.t 11) (.t 13)), [11, 13])])
 (.cond (.t 14)
 .skip
 (.ghost (.forget [0, 1, 5, 14]) (.ghost .lower (.exit 0)))))
 (.seq (.block 1
 (.seq (.regionK true [
 (.o 17 (.move (.t 0)), [14]),
 (.o 18 (.move (.t 5)), []),
 (⟨some 19, .indexAddr 1 (.t 17) (.t 18), none, [0, 1]⟩, [17, 18]),
 (⟨some 20, .load none (.t 19), none, [0, 1, 2]⟩, [19]),
 (.o 21 (.move (.t 1)), []),
 (.o 22 (.move (.t 5)), []),
 (⟨some 23, .indexAddr 1 (.t 21) (.t 22), none, [4, 5]⟩, [21, 22]),
 (⟨some 24, .load none (.t 23), none, [4, 5, 6]⟩, [23]),
 (⟨some 25, .bin .neq (.t 20) (.t 24), none, [0, 1, 2, 3, 4, 5, 6, 7]⟩, [20, 24])])
 (.cond (.t 25)
 (.seq (.regionK false [
 (.o 4 (.move (.b false)), [0, 1, 5, 25])])
 .ret)
 .skip)))
 (.regionK false [
 (.o 15 (.move (.t 5)), [25]),
 (.o 16 (.bin .add (.t 15) (.i 1)), [15]),
 (.o 5 (.move (.t 16)), [16])])))

def a38 : AFunc := ⟨26, 2, [.tmp 4],
  (.seq (.regionK false [
 (.o 4 (.move (.b false)), [4])])
 (.seq (.seq (.regionK false [
 (.o 6 (.move (.t 0)), []),
 (.o 7 (.len (.t 6)), [6]),
 (.o 8 (.move (.t 1)), []),
 (.o 9 (.len (.t 8)), [8]),
 (.o 10 (.bin .neq (.t 7) (.t 9)), [7, 9])])
 (.cond (.t 10)
 (.seq (.regionK false [
 (.o 4 (.move (.b false)), [0, 1, 10])])
 .ret)
 .skip))
 (.seq (.seq (.regionK false [
 (.o 5 (.move (.i 0)), [10])])
 (.block 0
 (.loop
 (.ghost .lower a38_l0))))
 (.seq (.regionK false [
 (.o 4 (.move (.b true)), [])])
 .ret))))⟩

/-- clockwork/conflict.Levels -/
@[irreducible] def a39_l0 : ACode :=
  (.seq (.regionK false [
 (.o 16 (.bin .lss (.t 15) (.t 14)), [])])
 (.seq (.cond (.t 16)
 .skip
 (.ghost (.forget [4, 14, 15, 16]) (.ghost .lower (.exit 2))))
 (.seq (.block 3
 (.seq (.regionK false [
 (.o 17 (.move (.t 15)), [16]),
 (.o 5 (.move (.t 17)), [17])])
 (.seq (.regionK true [
 (.o 18 (.move (.t 0)), []),
 (.o 19 (.move (.t 5)), []),
 (⟨some 20, .indexAddr 3 (.t 18) (.t 19), none, [0, 1]⟩, [18, 19]),
 (⟨some 21, .load (some 3) (.t 20), none, [0, 1, 2]⟩, [20]),
 (.o 22 (.move (.t 0)), []),
 (.o 23 (.move (.t 4)), []),
 (⟨some 24, .indexAddr 3 (.t 22) (.t 23), none, [4, 5]⟩, [22, 23]),
 (⟨some 25, .load (some 3) (.t 24), none, [4, 5, 6]⟩, [24]),
 (⟨some 26, .call false 35 [.t 21, .t 25], none, [0, 1, 2, 3, 4, 5, 6, 7]⟩, [21, 25])])
 (.cond (.t 26)
 (.regionK true [
 (.o 27 (.move (.t 3)), [26]),
 (.o 28 (.move (.t 4)), []),
 (.o 29 (.move (.t 3)), []),
 (.o 30 (.move (.t 4)), []),
 (⟨some 31, .indexAddr 1 (.t 29) (.t 30), none, [2, 3]⟩, [29, 30]),
 (⟨some 32, .load none (.t 31), none, [2, 3, 4]⟩, [31]),
 (.o 33 (.move (.t 3)), []),
 (.o 34 (.move (.t 5)), [5]),
 (⟨some 35, .indexAddr 1 (.t 33) (.t 34), none, [6, 7]⟩, [33, 34]),
 (⟨some 36, .load none (.t 35), none, [6, 7, 8]⟩, [35]),
 (⟨some 37, .bin .add (.t 36) (.i 1), none, [6, 7, 8, 9]⟩, [36]),
 (⟨some 38, .minmax true (.t 32) [.t 37], none, [2, 3, 4, 5, 6, 7, 8, 9, 10]⟩, [32, 37]),
 (⟨some 39, .indexAddr 1 (.t 27) (.t 28), none, [0, 1, 2, 3, 4, 5, 6, 7, 8, 9, 10, 11]⟩, [27, 28]),
 (⟨none, .store 1 (.t 39) (.t 38), none, [0, 1, 2, 3, 4, 5, 6, 7, 8, 9, 10, 11, 12]⟩, [38, 39])])
 .skip))))
 (.regionK false [
 (.o 40 (.bin .add (.t 15) (.i 1)), [5, 26]),
 (.o 15 (.move (.t 40)), [40])]))))

@[irreducible] def a39_l1 : ACode :=
  (.seq (.regionK false [
 (.o 12 (.bin .lss (.t 11) (.t 10)), [])])
 (.seq (.cond (.t 12)
 .skip
 (.ghost (.forget [0, 10, 11, 12]) (.ghost .lower (.exit 0))))
 (.seq (.block 1
 (.seq (.regionK false [
 (.o 13 (.move (.t 11)), [12]),
 (.o 4 (.move (.t 13)), [13])])
 (.seq (.regionK false [
 (.o 14 (.move (.t 4)), []),
 (.o 15 (.move (.i 0)), [])])
 (.block 2
 (.loop
 (.ghost .lower a39_l0))))))
 (.regionK false [
 (.o 41 (.bin .add (.t 11) (.i 1)), []),
 (.o 11 (.move (.t 41)), [41])]))))

def a39 : AFunc := ⟨43, 1, [.tmp 2],
  (.seq (.regionK false [
 (.o 2 (.move (.c (.p (.slice true [])))), [2])])
 (.seq (.regionK false [
 (.o 6 (.move (.t 0)), []),
 (.o 7 (.len (.t 6)), [6]),
 (.o 8 (.makeSlice [.int .i64 0] 8 (.t 7) (.t 7)), [7]),
 (.o 3 (.move (.t 8)), [8])])
 (.seq (.seq (.regionK false [
 (.o 9 (.move (.t 0)), []),
 (.o 10 (.len (.t 9)), [9]),
 (.o 11 (.move (.i 0)), [])])
 (.block 0
 (.loop
 (.ghost .lower a39_l1))))
 (.seq (.regionK false [
 (.o 42 (.move (.t 3)), [3]),
 (.o 2 (.move (.t 42)), [42])])
 .ret))))⟩

/-- clockwork/clockworkref25.Levels -/
@[irreducible] def a40_l0 : ACode :=
  (.seq (.seq (.regionK false [
 (.o 13 (.move (.t 6)), []),
 (.o 14 (.move (.t 4)), []),
 (.o 15 (.bin .lss (.t 13) (.t 14)), [13, 14])])
 (.cond (.t 15)
 .skip
 (.ghost (.forget [6, 15]) (.ghost .lower (.exit 2)))))
 (.seq (.block 3
 (.seq (.regionK true [
 (.o 18 (.move (.t 0)), [15]),
 (.o 19 (.move (.t 6)), []),
 (⟨some 20, .indexAddr 3 (.t 18) (.t 19), none, [0, 1]⟩, [18, 19]),
 (⟨some 21, .load (some 3) (.t 20), none, [0, 1, 2]⟩, [20]),
 (.o 22 (.move (.t 0)), []),
 (.o 23 (.move (.t 4)), []),
 (⟨some 24, .indexAddr 3 (.t 22) (.t 23), none, [4, 5]⟩, [22, 23]),
 (⟨some 25, .load (some 3) (.t 24), none, [4, 5, 6]⟩, [24]),
 (⟨some 26, .call false 73 [.t 21, .t 25], none, [0, 1, 2, 3, 4, 5, 6, 7]⟩, [21, 25])])
 (.cond (.t 26)
 (.regionK false [
 (.o 27 (.move (.t 5)), [26]),
 (.o 28 (.move (.t 3)), []),
 (.o 29 (.move (.t 6)), []),
 (.o 30 (.indexAddr 1 (.t 28) (.t 29)), [28, 29]),
 (.o 31 (.load none (.t 30)), [30]),
 (.o 32 (.bin .add (.t 31) (.i 1)), [31]),
 (.o 33 (.minmax true (.t 27) [.t 32]), [27, 32]),
 (.o 5 (.move (.t 33)), [33])])
 .skip)))
 (.regionK false [
 (.o 16 (.move (.t 6)), [26]),
 (.o 17 (.bin .add (.t 16) (.i 1)), [16]),
 (.o 6 (.move (.t 17)), [17])])))

@[irreducible] def a40_l1 : ACode :=
  (.seq (.seq (.regionK false [
 (.o 7 (.move (.t 4)), []),
 (.o 8 (.move (.t 0)), []),
 (.o 9 (.len (.t 8)), [8]),
 (.o 10 (.bin .lss (.t 7) (.t 9)), [7, 9])])
 (.cond (.t 10)
 .skip
 (.ghost (.forget [0, 4, 10]) (.ghost .lower (.exit 0)))))
 (.seq (.block 1
 (.seq (.regionK false [
 (.o 5 (.move (.i 0)), [10])])
 (.seq (.seq (.regionK false [
 (.o 6 (.move (.i 0)), [])])
 (.block 2
 (.loop
 (.ghost .lower a40_l0))))
 (.regionK false [
 (.o 34 (.move (.t 3)), []),
 (.o 35 (.move (.t 5)), [5]),
 (.o 36 (.buildSlice [.int .i64 0] 1 [(0, .t 35)]), [35]),
 (.o 37 (.append 8 1 (.t 34) (.t 36)), [34, 36]),
 (.o 3 (.move (.t 37)), [37])]))))
 (.regionK false [
 (.o 11 (.move (.t 4)), []),
 (.o 12 (.bin .add (.t 11) (.i 1)), [11]),
 (.o 4 (.move (.t 12)), [12])])))

def a40 : AFunc := ⟨39, 1, [.tmp 2],
  (.seq (.regionK false [
 (.o 2 (.move (.c (.p (.slice true [])))), [2])])
 (.seq (.regionK false [
 (.o 3 (.move (.c (.p (.slice true [])))), [])])
 (.ghost (.own 1 3) (.seq (.seq (.regionK false [
 (.o 4 (.move (.i 0)), [])])
 (.block 0
 (.loop
 (.ghost .lower a40_l1))))
 (.seq (.regionK false [
 (.o 38 (.move (.t 3)), [3]),
 (.o 2 (.move (.t 38)), [38])])
 .ret)))))⟩

/-- clockwork/conflict.Height -/
@[irreducible] def a41_l0 : ACode :=
  (.seq (.regionK false [
 (.o 10 (.bin .lss (.t 9) (.t 8)), [])])
 (.seq (.cond (.t 10)
 .skip
 (.ghost (.forget [7, 8, 9, 10]) (.ghost .lower (.exit 0))))
 (.seq (.block 1
 (.seq (.regionK false [
 (.o 11 (.indexAddr 1 (.t 7) (.t 9)), [10]),
 (.o 12 (.load none (.t 11)), [11]),
 (.o 5 (.move (.t 12)), [12])])
 (.regionK false [
 (.o 13 (.move (.t 3)), []),
 (.o 14 (.move (.t 5)), [5]),
 (.o 15 (.bin .add (.t 14) (.i 1)), [14]),
 (.o 16 (.minmax true (.t 13) [.t 15]), [13, 15]),
 (.o 3 (.move (.t 16)), [16])])))
 (.regionK false [
 (.o 17 (.bin .add (.t 9) (.i 1)), []),
 (.o 9 (.move (.t 17)), [17])]))))

def a41 : AFunc := ⟨19, 1, [.tmp 2],
  (.seq (.regionK false [
 (.o 2 (.move (.i 0)), [2])])
 (.seq (.regionK false [
 (.o 3 (.move (.i 0)), [])])
 (.seq (.seq (.regionK false [
 (.o 6 (.move (.t 0)), [0]),
 (.o 7 (.call false 39 [.t 6]), [6]),
 (.o 8 (.len (.t 7)), []),
 (.o 9 (.move (.i 0)), [])])
 (.block 0
 (.loop
 (.ghost .lower a41_l0))))
 (.seq (.regionK false [
 (.o 18 (.move (.t 3)), [3]),
 (.o 2 (.move (.t 18)), [18])])
 .ret))))⟩

/-- clockwork/clockworkref25.Height -/
@[irreducible] def a42_l0 : ACode :=
  (.seq (.seq (.regionK false [
 (.o 8 (.move (.t 5)), []),
 (.o 9 (.move (.t 4)), []),
 (.o 10 (.len (.t 9)), [9]),
 (.o 11 (.bin .lss (.t 8) (.t 10)), [8, 10])])
 (.cond (.t 11)
 .skip
 (.ghost (.forget [4, 5, 11]) (.ghost .lower (.exit 0)))))
 (.seq (.block 1
 (.regionK false [
 (.o 14 (.move (.t 3)), [11]),
 (.o 15 (.move (.t 4)), []),
 (.o 16 (.move (.t 5)), []),
 (.o 17 (.indexAddr 1 (.t 15) (.t 16)), [15, 16]),
 (.o 18 (.load none (.t 17)), [17]),
 (.o 19 (.bin .add (.t 18) (.i 1)), [18]),
 (.o 20 (.minmax true (.t 14) [.t 19]), [14, 19]),
 (.o 3 (.move (.t 20)), [20])]))
 (.regionK false [
 (.o 12 (.move (.t 5)), []),
 (.o 13 (.bin .add (.t 12) (.i 1)), [12]),
 (.o 5 (.move (.t 13)), [13])])))

def a42 : AFunc := ⟨22, 1, [.tmp 2],
  (.seq (.regionK false [
 (.o 2 (.move (.i 0)), [2])])
 (.seq (.regionK false [
 (.o 3 (.move (.i 0)), [])])
 (.seq (.regionK false [
 (.o 6 (.move (.t 0)), [0]),
 (.o 7 (.call false 40 [.t 6]), [6]),
 (.o 4 (.move (.t 7)), [7])])
 (.seq (.seq (.regionK false [
 (.o 5 (.move (.i 0)), [])])
 (.block 0
 (.loop
 (.ghost .lower a42_l0))))
 (.seq (.regionK false [
 (.o 21 (.move (.t 3)), [3]),
 (.o 2 (.move (.t 21)), [21])])
 .ret)))))⟩

/-- clockwork/conflict.Components -/
@[irreducible] def a43_l0 : ACode :=
  (.seq (.regionK false [
 (.o 104 (.bin .lss (.t 103) (.t 102)), [])])
 (.seq (.cond (.t 104)
 .skip
 (.ghost (.forget [11, 101, 102, 103, 104]) (.exit 10)))
 (.seq (.block 11
 (.seq (.regionK false [
 (.o 105 (.indexAddr 1 (.t 101) (.t 103)), [104]),
 (.o 106 (.load none (.t 105)), [105]),
 (.o 18 (.move (.t 106)), [106])])
 (.regionK false [
 (.o 107 (.move (.t 16)), []),
 (.o 108 (.move (.t 11)), []),
 (.o 109 (.move (.t 18)), [18]),
 (.o 110 (.lookup (.slice true []) (.t 108) (.t 109)), [108, 109]),
 (.o 111 (.buildSlice [.slice true []] 1 [(0, .t 110)]), [110]),
 (.o 112 (.append 24 1 (.t 107) (.t 111)), [107, 111]),
 (.o 16 (.move (.t 112)), [112])])))
 (.regionK false [
 (.o 113 (.bin .add (.t 103) (.i 1)), []),
 (.o 103 (.move (.t 113)), [113])]))))

@[irreducible] def a43_l1 : ACode :=
  (.seq (.regionK false [
 (.o 76 (.bin .lss (.t 75) (.t 74)), [])])
 (.seq (.cond (.t 76)
 .skip
 (.ghost (.forget [73, 74, 75, 76]) (.exit 6)))
 (.seq (.block 7
 (.seq (.regionK false [
 (.o 77 (.move (.t 75)), [76]),
 (.o 78 (.indexAddr 1 (.t 73) (.t 75)), []),
 (.o 79 (.load none (.t 78)), [78]),
 (.o 12 (.move (.t 77)), [77]),
 (.o 13 (.move (.t 79)), [79])])
 (.regionK false [
 (.o 80 (.move (.t 11)), []),
 (.o 81 (.move (.t 13)), []),
 (.o 82 (.move (.t 11)), []),
 (.o 83 (.move (.t 13)), [13]),
 (.o 84 (.lookup (.slice true []) (.t 82) (.t 83)), [82, 83]),
 (.o 85 (.move (.t 12)), [12]),
 (.o 86 (.buildSlice [.int .i64 0] 1 [(0, .t 85)]), [85]),
 (.o 87 (.append 8 1 (.t 84) (.t 86)), [84, 86]),
 (.u (.mapSet (.t 80) (.t 81) (.t 87)), [80, 81, 87])])))
 (.regionK false [
 (.o 88 (.bin .add (.t 75) (.i 1)), []),
 (.o 75 (.move (.t 88)), [88])]))))

@[irreducible] def a43_l2 : ACode :=
  (.seq (.regionK false [
 (.o 52 (.bin .lss (.t 51) (.t 50)), [])])
 (.seq (.cond (.t 52)
 .skip
 (.ghost (.forget [7, 8, 49, 50, 51, 52]) (.ghost .lower (.exit 4))))
 (.seq (.block 5
 (.seq (.regionK false [
 (.o 53 (.move (.t 51)), [52]),
 (.o 54 (.indexAddr 1 (.t 49) (.t 51)), []),
 (.o 55 (.load none (.t 54)), [54]),
 (.o 9 (.move (.t 53)), [53]),
 (.o 10 (.move (.t 55)), [55])])
 (.seq (.regionK false [
 (.o 56 (.move (.t 10)), []),
 (.o 57 (.move (.t 7)), []),
 (.o 58 (.bin .eql (.t 56) (.t 57)), [56, 57]),
 (.o 59 (.move (.t 58)), [58]),
 (⟨some 60, .move (.t 10), some (59, false), []⟩, [10]),
 (⟨some 61, .move (.t 8), some (59, false), []⟩, []),
 (⟨some 62, .bin .eql (.t 60) (.t 61), some (59, false), []⟩, [60, 61]),
 (.o 63 (.pick (.t 59) (.b true) (.t 62)), [59, 62])])
 (.cond (.t 63)
 (.regionK false [
 (.o 64 (.move (.t 3)), [63]),
 (.o 65 (.move (.t 9)), [9]),
 (.o 66 (.move (.t 7)), []),
 (.o 67 (.move (.t 8)), []),
 (.o 68 (.minmax false (.t 66) [.t 67]), [66, 67]),
 (.o 69 (.indexAddr 1 (.t 64) (.t 65)), [64, 65]),
 (.u (.store 1 (.t 69) (.t 68)), [68, 69])])
 .skip))))
 (.regionK false [
 (.o 70 (.bin .add (.t 51) (.i 1)), [9, 63]),
 (.o 51 (.move (.t 70)), [70])]))))

@[irreducible] def a43_l3 : ACode :=
  (.seq (.regionK false [
 (.o 36 (.bin .lss (.t 35) (.t 34)), [])])
 (.seq (.cond (.t 36)
 .skip
 (.ghost (.forget [33, 34, 35, 36]) (.ghost .lower (.exit 2))))
 (.seq (.block 3
 (.seq (.regionK false [
 (.o 37 (.indexAddr 3 (.t 33) (.t 35)), [36]),
 (.o 38 (.load (some 3) (.t 37)), [37]),
 (.o 6 (.alloc [.int .i64 0, .int .i64 0, .int .i64 0]), []),
 (.u (.store 3 (.t 6) (.t 38)), [38])])
 (.seq (.regionK true [
 (.o 39 (.move (.t 3)), []),
 (.o 40 (.fieldAddr 0 (.t 6)), []),
 (⟨some 41, .load none (.t 40), none, [1]⟩, [40]),
 (⟨some 42, .indexAddr 1 (.t 39) (.t 41), none, [0, 1, 2]⟩, [39, 41]),
 (⟨some 43, .load none (.t 42), none, [0, 1, 2, 3]⟩, [42]),
 (.o 44 (.move (.t 3)), []),
 (.o 45 (.fieldAddr 1 (.t 6)), []),
 (⟨some 46, .load none (.t 45), none, [6]⟩, [45]),
 (⟨some 47, .indexAddr 1 (.t 44) (.t 46), none, [5, 6, 7]⟩, [44, 46]),
 (⟨some 48, .load none (.t 47), none, [5, 6, 7, 8]⟩, [47]),
 (⟨some 7, .move (.t 43), none, [0, 1, 2, 3, 4]⟩, [43]),
 (⟨some 8, .move (.t 48), none, [0, 1, 2, 3, 4, 5, 6, 7, 8, 9, 10]⟩, [48])])
 (.seq (.regionK false [
 (.o 49 (.move (.t 3)), []),
 (.o 50 (.len (.t 49)), []),
 (.o 51 (.move (.i 0)), [])])
 (.block 4
 (.loop
 (.ghost (.free [6]) (.ghost .lower a43_l2))))))))
 (.regionK false [
 (.o 71 (.bin .add (.t 35) (.i 1)), []),
 (.o 35 (.move (.t 71)), [71])]))))

@[irreducible] def a43_l4 : ACode :=
  (.seq (.regionK false [
 (.o 25 (.bin .lss (.t 24) (.t 23)), [])])
 (.seq (.cond (.t 25)
 .skip
 (.ghost (.forget [23, 24, 25]) (.ghost .lower (.exit 0))))
 (.seq (.block 1
 (.seq (.regionK false [
 (.o 26 (.move (.t 24)), [25]),
 (.o 4 (.move (.t 26)), [26])])
 (.regionK false [
 (.o 27 (.move (.t 3)), []),
 (.o 28 (.move (.t 4)), []),
 (.o 29 (.move (.t 4)), [4]),
 (.o 30 (.indexAddr 1 (.t 27) (.t 28)), [27, 28]),
 (.u (.store 1 (.t 30) (.t 29)), [29, 30])])))
 (.regionK false [
 (.o 31 (.bin .add (.t 24) (.i 1)), []),
 (.o 24 (.move (.t 31)), [31])]))))

def a43 : AFunc := ⟨115, 1, [.tmp 2],
  (.seq (.regionK false [
 (.o 2 (.move (.c (.p (.slice true [])))), [2])])
 (.seq (.regionK false [
 (.o 19 (.move (.t 0)), []),
 (.o 20 (.len (.t 19)), [19]),
 (.o 21 (.makeSlice [.int .i64 0] 8 (.t 20) (.t 20)), [20]),
 (.o 3 (.move (.t 21)), [21])])
 (.seq (.seq (.regionK false [
 (.o 22 (.move (.t 3)), []),
 (.o 23 (.len (.t 22)), [22]),
 (.o 24 (.move (.i 0)), [])])
 (.block 0
 (.loop
 (.ghost .lower a43_l4))))
 (.seq (.seq (.regionK false [
 (.o 32 (.move (.t 0)), [0]),
 (.o 33 (.call false 32 [.t 32]), [32]),
 (.o 34 (.len (.t 33)), []),
 (.o 35 (.move (.i 0)), [])])
 (.block 2
 (.loop
 (.ghost .lower a43_l3))))
 (.seq (.regionK false [
 (.o 72 (.makeMap), []),
 (.o 11 (.move (.t 72)), [72])])
 (.seq (.seq (.regionK false [
 (.o 73 (.move (.t 3)), [3]),
 (.o 74 (.len (.t 73)), []),
 (.o 75 (.move (.i 0)), [])])
 (.block 6
 (.loop
 a43_l1)))
 (.seq (.regionK false [
 (.o 14 (.move (.c (.p (.slice true [])))), [])])
 (.ghost (.own 1 14) (.keysThen 11 14 [89, 90, 91, 92, 93, 94, 15, 95, 96, 97, 98] (.regionK false [
 (.o 99 (.move (.t 14)), []),
 (.o 100 (.call true 74 [.t 99]), [99, 100])])
 (.ghost (.pureMap 11) (.seq (.regionK false [
 (.o 16 (.move (.c (.p (.slice true [])))), [])])
 (.ghost (.own 1 16) (.seq (.seq (.regionK false [
 (.o 101 (.move (.t 14)), [14]),
 (.o 102 (.len (.t 101)), []),
 (.o 103 (.move (.i 0)), [])])
 (.block 10
 (.loop
 a43_l0)))
 (.seq (.regionK false [
 (.o 114 (.move (.t 16)), [16]),
 (.o 2 (.move (.t 114)), [114])])
 .ret))))))))))))))⟩

/-- clockwork/clockworkref25.Components -/
@[irreducible] def a44_l0 : ACode :=
  (.seq (.seq (.regionK false [
 (.o 73 (.move (.t 11)), []),
 (.o 74 (.move (.t 0)), []),
 (.o 75 (.len (.t 74)), [74]),
 (.o 76 (.bin .lss (.t 73) (.t 75)), [73, 75]),
 (.o 77 (.move (.t 76)), [76]),
 (⟨some 78, .move (.t 3), some (77, true), []⟩, []),
 (⟨some 79, .move (.t 9), some (77, true), []⟩, []),
 (⟨some 80, .indexAddr 1 (.t 78) (.t 79), some (77, true), []⟩, [78, 79]),
 (⟨some 81, .load none (.t 80), some (77, true), []⟩, [80]),
 (⟨some 82, .move (.t 9), some (77, true), []⟩, []),
 (⟨some 83, .bin .eql (.t 81) (.t 82), some (77, true), []⟩, [81, 82]),
 (.o 84 (.pick (.t 77) (.t 83) (.b false)), [77, 83])])
 (.cond (.t 84)
 .skip
 (.ghost (.forget [11, 84]) (.exit 10))))
 (.seq (.block 11
 (.seq (.regionK false [
 (.o 87 (.move (.t 3)), [84]),
 (.o 88 (.move (.t 11)), []),
 (.o 89 (.indexAddr 1 (.t 87) (.t 88)), [87, 88]),
 (.o 90 (.load none (.t 89)), [89]),
 (.o 91 (.move (.t 9)), []),
 (.o 92 (.bin .eql (.t 90) (.t 91)), [90, 91])])
 (.cond (.t 92)
 (.regionK false [
 (.o 93 (.move (.t 10)), [92]),
 (.o 94 (.move (.t 11)), []),
 (.o 95 (.buildSlice [.int .i64 0] 1 [(0, .t 94)]), [94]),
 (.o 96 (.append 8 1 (.t 93) (.t 95)), [93, 95]),
 (.o 10 (.move (.t 96)), [96])])
 .skip)))
 (.regionK false [
 (.o 85 (.move (.t 11)), [92]),
 (.o 86 (.bin .add (.t 85) (.i 1)), [85]),
 (.o 11 (.move (.t 86)), [86])])))

@[irreducible] def a44_l1 : ACode :=
  (.seq (.seq (.regionK false [
 (.o 66 (.move (.t 9)), []),
 (.o 67 (.move (.t 0)), []),
 (.o 68 (.len (.t 67)), [67]),
 (.o 69 (.bin .lss (.t 66) (.t 68)), [66, 68])])
 (.cond (.t 69)
 .skip
 (.ghost (.forget [0, 3, 9, 69]) (.exit 8))))
 (.seq (.block 9
 (.seq (.regionK false [
 (.o 10 (.move (.c (.p (.slice true [])))), [69])])
 (.ghost (.own 1 10) (.seq (.seq (.regionK false [
 (.o 72 (.move (.t 9)), []),
 (.o 11 (.move (.t 72)), [72])])
 (.block 10
 (.loop
 a44_l0)))
 (.seq (.regionK false [
 (.o 97 (.move (.t 10)), []),
 (.o 98 (.len (.t 97)), [97]),
 (.o 99 (.bin .gtr (.t 98) (.i 0)), [98])])
 (.cond (.t 99)
 (.ghost (.pure [10]) (.regionK false [
 (.o 100 (.move (.t 8)), [99]),
 (.o 101 (.move (.t 10)), [10]),
 (.o 102 (.buildSlice [.slice true []] 1 [(0, .t 101)]), [101]),
 (.o 103 (.append 24 1 (.t 100) (.t 102)), [100, 102]),
 (.o 8 (.move (.t 103)), [103])]))
 .skip))))))
 (.regionK false [
 (.o 70 (.move (.t 9)), [10, 99]),
 (.o 71 (.bin .add (.t 70) (.i 1)), [70]),
 (.o 9 (.move (.t 71)), [71])])))

@[irreducible] def a44_l2 : ACode :=
  (.seq (.seq (.regionK false [
 (.o 34 (.move (.t 7)), []),
 (.o 35 (.move (.t 0)), []),
 (.o 36 (.len (.t 35)), [35]),
 (.o 37 (.bin .lss (.t 34) (.t 36)), [34, 36])])
 (.cond (.t 37)
 .skip
 (.ghost (.forget [7, 37]) (.ghost .lower (.exit 6)))))
 (.seq (.block 7
 (.seq (.regionK true [
 (.o 40 (.move (.t 6)), [37]),
 (.o 41 (.move (.t 7)), []),
 (⟨some 42, .bin .neq (.t 40) (.t 41), none, [0, 1]⟩, [40, 41]),
 (⟨some 43, .move (.t 42), none, [0, 1, 2]⟩, [42]),
 (⟨some 44, .move (.t 0), some (43, true), [0, 1, 2, 3]⟩, []),
 (⟨some 45, .move (.t 6), some (43, true), [0, 1, 2, 3]⟩, []),
 (⟨some 46, .indexAddr 3 (.t 44) (.t 45), some (43, true), [0, 1, 2, 3, 4, 5]⟩, [44, 45]),
 (⟨some 47, .load (some 3) (.t 46), some (43, true), [0, 1, 2, 3, 4, 5, 6]⟩, [46]),
 (⟨some 48, .move (.t 0), some (43, true), [0, 1, 2, 3]⟩, []),
 (⟨some 49, .move (.t 7), some (43, true), [0, 1, 2, 3]⟩, []),
 (⟨some 50, .indexAddr 3 (.t 48) (.t 49), some (43, true), [0, 1, 2, 3, 8, 9]⟩, [48, 49]),
 (⟨some 51, .load (some 3) (.t 50), some (43, true), [0, 1, 2, 3, 8, 9, 10]⟩, [50]),
 (⟨some 52, .call false 73 [.t 47, .t 51], some (43, true), [0, 1, 2, 3, 4, 5, 6, 7, 8, 9, 10, 11]⟩, [47, 51]),
 (⟨some 53, .pick (.t 43) (.t 52) (.b false), none, [0, 1, 2, 3, 4, 5, 6, 7, 8, 9, 10, 11, 12]⟩, [43, 52])])
 (.cond (.t 53)
 (.regionK true [
 (.o 54 (.move (.t 3)), [53]),
 (.o 55 (.move (.t 7)), []),
 (.o 56 (.move (.t 3)), []),
 (.o 57 (.move (.t 6)), []),
 (⟨some 58, .indexAddr 1 (.t 56) (.t 57), none, [2, 3]⟩, [56, 57]),
 (⟨some 59, .load none (.t 58), none, [2, 3, 4]⟩, [58]),
 (.o 60 (.move (.t 3)), []),
 (.o 61 (.move (.t 7)), []),
 (⟨some 62, .indexAddr 1 (.t 60) (.t 61), none, [6, 7]⟩, [60, 61]),
 (⟨some 63, .load none (.t 62), none, [6, 7, 8]⟩, [62]),
 (⟨some 64, .minmax false (.t 59) [.t 63], none, [2, 3, 4, 5, 6, 7, 8, 9]⟩, [59, 63]),
 (⟨some 65, .indexAddr 1 (.t 54) (.t 55), none, [0, 1, 2, 3, 4, 5, 6, 7, 8, 9, 10]⟩, [54, 55]),
 (⟨none, .store 1 (.t 65) (.t 64), none, [0, 1, 2, 3, 4, 5, 6, 7, 8, 9, 10, 11]⟩, [64, 65])])
 .skip)))
 (.regionK false [
 (.o 38 (.move (.t 7)), [53]),
 (.o 39 (.bin .add (.t 38) (.i 1)), [38]),
 (.o 7 (.move (.t 39)), [39])])))

@[irreducible] def a44_l3 : ACode :=
  (.seq (.seq (.regionK false [
 (.o 28 (.move (.t 6)), []),
 (.o 29 (.move (.t 0)), []),
 (.o 30 (.len (.t 29)), [29]),
 (.o 31 (.bin .lss (.t 28) (.t 30)), [28, 30])])
 (.cond (.t 31)
 .skip
 (.ghost (.forget [6, 31]) (.ghost .lower (.exit 4)))))
 (.seq (.block 5
 (.seq (.regionK false [
 (.o 7 (.move (.i 0)), [31])])
 (.block 6
 (.loop
 (.ghost .lower a44_l2)))))
 (.regionK false [
 (.o 32 (.move (.t 6)), []),
 (.o 33 (.bin .add (.t 32) (.i 1)), [32]),
 (.o 6 (.move (.t 33)), [33])])))

@[irreducible] def a44_l4 : ACode :=
  (.seq (.seq (.regionK false [
 (.o 22 (.move (.t 5)), []),
 (.o 23 (.move (.t 0)), []),
 (.o 24 (.len (.t 23)), [23]),
 (.o 25 (.bin .lss (.t 22) (.t 24)), [22, 24])])
 (.cond (.t 25)
 .skip
 (.ghost (.forget [5, 25]) (.ghost .lower (.exit 2)))))
 (.seq (.block 3
 (.seq (.regionK false [
 (.o 6 (.move (.i 0)), [25])])
 (.block 4
 (.loop
 (.ghost .lower a44_l3)))))
 (.regionK false [
 (.o 26 (.move (.t 5)), []),
 (.o 27 (.bin .add (.t 26) (.i 1)), [26]),
 (.o 5 (.move (.t 27)), [27])])))

@[irreducible] def a44_l5 : ACode :=
  (.seq (.seq (.regionK false [
 (.o 12 (.move (.t 4)), []),
 (.o 13 (.move (.t 0)), []),
 (.o 14 (.len (.t 13)), [13]),
 (.o 15 (.bin .lss (.t 12) (.t 14)), [12, 14])])
 (.cond (.t 15)
 .skip
 (.ghost (.forget [4, 15]) (.ghost .lower (.exit 0)))))
 (.seq (.block 1
 (.regionK false [
 (.o 18 (.move (.t 3)), [15]),
 (.o 19 (.move (.t 4)), []),
 (.o 20 (.buildSlice [.int .i64 0] 1 [(0, .t 19)]), [19]),
 (.o 21 (.append 8 1 (.t 18) (.t 20)), [18, 20]),
 (.o 3 (.move (.t 21)), [21])]))
 (.regionK false [
 (.o 16 (.move (.t 4)), []),
 (.o 17 (.bin .add (.t 16) (.i 1)), [16]),
 (.o 4 (.move (.t 17)), [17])])))

def a44 : AFunc := ⟨105, 1, [.tmp 2],
  (.seq (.regionK false [
 (.o 2 (.move (.c (.p (.slice true [])))), [2])])
 (.seq (.regionK false [
 (.o 3 (.move (.c (.p (.slice true [])))), [])])
 (.ghost (.own 1 3) (.seq (.seq (.regionK false [
 (.o 4 (.move (.i 0)), [])])
 (.block 0
 (.loop
 (.ghost .lower a44_l5))))
 (.seq (.seq (.regionK false [
 (.o 5 (.move (.i 0)), [])])
 (.block 2
 (.loop
 (.ghost .lower a44_l4))))
 (.seq (.regionK false [
 (.o 8 (.move (.c (.p (.slice true [])))), [])])
 (.ghost (.own 1 8) (.seq (.seq (.regionK false [
 (.o 9 (.move (.i 0)), [])])
 (.block 8
 (.loop
 a44_l1)))
 (.seq (.regionK false [
 (.o 104 (.move (.t 8)), [8]),
 (.o 2 (.move (.t 104)), [104])])
 .ret)))))))))⟩

/-- clockwork/clockworkref25.Before -/
@[irreducible] def a45_l0 : ACode :=
  (.seq (.seq (.regionK false [
 (.o 14 (.move (.t 6)), []),
 (.o 15 (.move (.t 5)), []),
 (.o 16 (.len (.t 15)), [15]),
 (.o 17 (.bin .lss (.t 14) (.t 16)), [14, 16])])
 (.cond (.t 17)
 .skip
 (.ghost (.forget [1, 5, 6, 17]) (.ghost .lower (.exit 0)))))
 (.seq (.block 1
 (.seq (.regionK true [
 (.o 20 (.move (.t 1)), [17]),
 (.o 21 (.move (.t 5)), []),
 (.o 22 (.move (.t 6)), []),
 (⟨some 23, .indexAddr 3 (.t 21) (.t 22), none, [1, 2]⟩, [21, 22]),
 (⟨some 24, .fieldAddr 0 (.t 23), none, [1, 2, 3]⟩, [23]),
 (⟨some 25, .load none (.t 24), none, [1, 2, 3, 4]⟩, [24]),
 (⟨some 26, .call false 34 [.t 20, .t 25], none, [0, 1, 2, 3, 4, 5]⟩, [20, 25]),
 (.o 27 (.move (.t 1)), []),
 (.o 28 (.move (.t 5)), []),
 (.o 29 (.move (.t 6)), []),
 (⟨some 30, .indexAddr 3 (.t 28) (.t 29), none, [8, 9]⟩, [28, 29]),
 (⟨some 31, .fieldAddr 1 (.t 30), none, [8, 9, 10]⟩, [30]),
 (⟨some 32, .load none (.t 31), none, [8, 9, 10, 11]⟩, [31]),
 (⟨some 33, .call false 34 [.t 27, .t 32], none, [0, 1, 2, 3, 4, 5, 6, 7, 8, 9, 10, 11, 12]⟩, [27, 32]),
 (⟨some 34, .bin .gtr (.t 26) (.t 33), none, [0, 1, 2, 3, 4, 5, 6, 7, 8, 9, 10, 11, 12, 13]⟩, [26, 33])])
 (.cond (.t 34)
 (.seq (.regionK false [
 (.o 4 (.move (.b false)), [1, 5, 6, 34])])
 .ret)
 .skip)))
 (.regionK false [
 (.o 18 (.move (.t 6)), [34]),
 (.o 19 (.bin .add (.t 18) (.i 1)), [18]),
 (.o 6 (.move (.t 19)), [19])])))

def a45 : AFunc := ⟨35, 2, [.tmp 4],
  (.seq (.regionK false [
 (.o 4 (.move (.b false)), [4])])
 (.seq (.seq (.regionK false [
 (.o 7 (.move (.t 1)), []),
 (.o 8 (.move (.t 0)), []),
 (.o 9 (.len (.t 8)), [8]),
 (.o 10 (.call false 33 [.t 7, .t 9]), [7, 9]),
 (.o 11 (.un .not (.t 10)), [10])])
 (.cond (.t 11)
 (.seq (.regionK false [
 (.o 4 (.move (.b false)), [0, 1, 11])])
 .ret)
 .skip))
 (.seq (.regionK false [
 (.o 12 (.move (.t 0)), [0, 11]),
 (.o 13 (.call false 37 [.t 12]), [12]),
 (.o 5 (.move (.t 13)), [13])])
 (.seq (.seq (.regionK false [
 (.o 6 (.move (.i 0)), [])])
 (.block 0
 (.loop
 (.ghost .lower a45_l0))))
 (.seq (.regionK false [
 (.o 4 (.move (.b true)), [])])
 .ret)))))⟩

/-- clockwork/keys.consists -/
@[irreducible] def a60_l0 : ACode :=
  (.seq (.regionK false [
 (.o 12 (.bin .lss (.t 11) (.t 10)), [])])
 (.seq (.cond (.t 12)
 .skip
 (.ghost (.forget [0, 1, 10, 11, 12]) (.ghost .lower (.exit 0))))
 (.seq (.block 1
 (.seq (.regionK false [
 (.o 13 (.move (.t 11)), [12]),
 (.o 5 (.move (.t 13)), [13])])
 (.seq (.regionK false [
 (.o 14 (.move (.t 1)), []),
 (.o 15 (.move (.t 0)), []),
 (.o 16 (.move (.t 5)), [5]),
 (.o 17 (.index (.t 15) (.t 16)), [15, 16]),
 (.o 18 (.callv false (.t 14) [.t 17]), [14, 17]),
 (.o 19 (.un .not (.t 18)), [18])])
 (.cond (.t 19)
 (.seq (.regionK false [
 (.o 4 (.move (.b false)), [0, 1, 10, 11, 19])])
 .ret)
 .skip))))
 (.regionK false [
 (.o 20 (.bin .add (.t 11) (.i 1)), [19]),
 (.o 11 (.move (.t 20)), [20])]))))

def a60 : AFunc := ⟨21, 2, [.tmp 4],
  (.seq (.regionK false [
 (.o 4 (.move (.b false)), [4])])
 (.seq (.seq (.regionK false [
 (.o 6 (.move (.t 0)), []),
 (.o 7 (.lenS (.t 6)), [6]),
 (.o 8 (.bin .gtr (.t 7) (.i 24)), [7])])
 (.cond (.t 8)
 (.seq (.regionK false [
 (.o 4 (.move (.b false)), [0, 1, 8])])
 .ret)
 .skip))
 (.seq (.seq (.regionK false [
 (.o 9 (.move (.t 0)), [8]),
 (.o 10 (.lenS (.t 9)), [9]),
 (.o 11 (.move (.i 0)), [])])
 (.block 0
 (.loop
 (.ghost .lower a60_l0))))
 (.seq (.regionK false [
 (.o 4 (.move (.b true)), [])])
 .ret))))⟩

/-- clockwork/keys.Valid$1 -/
def a61 : AFunc := ⟨33, 1, [.tmp 2],
  (.seq (.regionK false [
 (.o 2 (.move (.b false)), [2])])
 (.seq (.regionK false [
 (.o 3 (.move (.t 0)), []),
 (.o 4 (.bin .geq (.t 3) (.c (.p (.int .u8 97)))), [3]),
 (.o 5 (.move (.t 4)), [4]),
 (⟨some 6, .move (.t 0), some (5, true), []⟩, []),
 (⟨some 7, .bin .leq (.t 6) (.c (.p (.int .u8 122))), some (5, true), []⟩, [6]),
 (.o 8 (.pick (.t 5) (.t 7) (.b false)), [5, 7]),
 (.o 9 (.move (.t 8)), [8]),
 (⟨some 10, .move (.t 0), some (9, false), []⟩, []),
 (⟨some 11, .bin .geq (.t 10) (.c (.p (.int .u8 48))), some (9, false), []⟩, [10]),
 (⟨some 12, .move (.t 11), some (9, false), []⟩, [11]),
 (⟨some 13, .move (.t 0), some (12, true), []⟩, []),
 (⟨some 14, .bin .leq (.t 13) (.c (.p (.int .u8 57))), some (12, true), []⟩, [13]),
 (⟨some 15, .pick (.t 12) (.t 14) (.b false), some (9, false), []⟩, [12, 14]),
 (.o 16 (.pick (.t 9) (.b true) (.t 15)), [9, 15]),
 (.o 17 (.move (.t 16)), [16]),
 (⟨some 18, .move (.t 0), some (17, false), []⟩, []),
 (⟨some 19, .bin .eql (.t 18) (.c (.p (.int .u8 47))), some (17, false), []⟩, [18]),
 (.o 20 (.pick (.t 17) (.b true) (.t 19)), [17, 19]),
 (.o 21 (.move (.t 20)), [20]),
 (⟨some 22, .move (.t 0), some (21, false), []⟩, []),
 (⟨some 23, .bin .eql (.t 22) (.c (.p (.int .u8 46))), some (21, false), []⟩, [22]),
 (.o 24 (.pick (.t 21) (.b true) (.t 23)), [21, 23]),
 (.o 25 (.move (.t 24)), [24]),
 (⟨some 26, .move (.t 0), some (25, false), []⟩, []),
 (⟨some 27, .bin .eql (.t 26) (.c (.p (.int .u8 95))), some (25, false), []⟩, [26]),
 (.o 28 (.pick (.t 25) (.b true) (.t 27)), [25, 27]),
 (.o 29 (.move (.t 28)), [28]),
 (⟨some 30, .move (.t 0), some (29, false), []⟩, [0]),
 (⟨some 31, .bin .eql (.t 30) (.c (.p (.int .u8 45))), some (29, false), []⟩, [30]),
 (.o 32 (.pick (.t 29) (.b true) (.t 31)), [29, 31]),
 (.o 2 (.move (.t 32)), [32])])
 .ret))⟩

/-- clockwork/clockworkref04.Valid -/
@[irreducible] def a62_l0 : ACode :=
  (.seq (.seq (.regionK false [
 (.o 5 (.move (.t 3)), []),
 (.o 6 (.move (.t 0)), []),
 (.o 7 (.lenS (.t 6)), [6]),
 (.o 8 (.bin .lss (.t 5) (.t 7)), [5, 7])])
 (.cond (.t 8)
 .skip
 (.ghost (.forget [3, 8]) (.ghost .lower (.exit 0)))))
 (.seq (.block 1
 (.seq (.regionK false [
 (.o 11 (.move (.t 0)), [8]),
 (.o 12 (.move (.t 3)), []),
 (.o 13 (.index (.t 11) (.t 12)), [11, 12]),
 (.o 4 (.move (.t 13)), [13])])
 (.seq (.regionK false [
 (.o 14 (.move (.t 4)), []),
 (.o 15 (.bin .lss (.t 14) (.c (.p (.int .u8 97)))), [14]),
 (.o 16 (.move (.t 15)), [15]),
 (⟨some 17, .move (.t 4), some (16, false), []⟩, []),
 (⟨some 18, .bin .gtr (.t 17) (.c (.p (.int .u8 122))), some (16, false), []⟩, [17]),
 (.o 19 (.pick (.t 16) (.b true) (.t 18)), [16, 18]),
 (.o 20 (.move (.t 19)), [19]),
 (⟨some 21, .move (.t 4), some (20, true), []⟩, []),
 (⟨some 22, .bin .lss (.t 21) (.c (.p (.int .u8 48))), some (20, true), []⟩, [21]),
 (⟨some 23, .move (.t 22), some (20, true), []⟩, [22]),
 (⟨some 24, .move (.t 4), some (23, false), []⟩, []),
 (⟨some 25, .bin .gtr (.t 24) (.c (.p (.int .u8 57))), some (23, false), []⟩, [24]),
 (⟨some 26, .pick (.t 23) (.b true) (.t 25), some (20, true), []⟩, [23, 25]),
 (.o 27 (.pick (.t 20) (.t 26) (.b false)), [20, 26]),
 (.o 28 (.move (.t 27)), [27]),
 (⟨some 29, .move (.t 4), some (28, true), []⟩, []),
 (⟨some 30, .bin .neq (.t 29) (.c (.p (.int .u8 47))), some (28, true), []⟩, [29]),
 (.o 31 (.pick (.t 28) (.t 30) (.b false)), [28, 30]),
 (.o 32 (.move (.t 31)), [31]),
 (⟨some 33, .move (.t 4), some (32, true), []⟩, []),
 (⟨some 34, .bin .neq (.t 33) (.c (.p (.int .u8 46))), some (32, true), []⟩, [33]),
 (.o 35 (.pick (.t 32) (.t 34) (.b false)), [32, 34]),
 (.o 36 (.move (.t 35)), [35]),
 (⟨some 37, .move (.t 4), some (36, true), []⟩, []),
 (⟨some 38, .bin .neq (.t 37) (.c (.p (.int .u8 95))), some (36, true), []⟩, [37]),
 (.o 39 (.pick (.t 36) (.t 38) (.b false)), [36, 38]),
 (.o 40 (.move (.t 39)), [39]),
 (⟨some 41, .move (.t 4), some (40, true), []⟩, [4]),
 (⟨some 42, .bin .neq (.t 41) (.c (.p (.int .u8 45))), some (40, true), []⟩, [41]),
 (.o 43 (.pick (.t 40) (.t 42) (.b false)), [40, 42])])
 (.cond (.t 43)
 (.seq (.regionK false [
 (.o 2 (.move (.b false)), [0, 3, 43])])
 .ret)
 .skip))))
 (.regionK false [
 (.o 9 (.move (.t 3)), [43]),
 (.o 10 (.bin .add (.t 9) (.i 1)), [9]),
 (.o 3 (.move (.t 10)), [10])])))

def a62 : AFunc := ⟨52, 1, [.tmp 2],
  (.seq (.regionK false [
 (.o 2 (.move (.b false)), [2])])
 (.seq (.seq (.regionK false [
 (.o 3 (.move (.i 0)), [])])
 (.block 0
 (.loop
 (.ghost .lower a62_l0))))
 (.seq (.regionK false [
 (.o 44 (.move (.t 0)), []),
 (.o 45 (.lenS (.t 44)), [44]),
 (.o 46 (.bin .geq (.t 45) (.i 1)), [45]),
 (.o 47 (.move (.t 46)), [46]),
 (⟨some 48, .move (.t 0), some (47, true), []⟩, [0]),
 (⟨some 49, .lenS (.t 48), some (47, true), []⟩, [48]),
 (⟨some 50, .bin .leq (.t 49) (.i 24), some (47, true), []⟩, [49]),
 (.o 51 (.pick (.t 47) (.t 50) (.b false)), [47, 50]),
 (.o 2 (.move (.t 51)), [51])])
 .ret)))⟩

/-- clockwork/clockworkref19.Valid -/
def a65 : AFunc := ⟨35, 1, [.tmp 2],
  (.seq (.regionK false [
 (.o 1 (.box (.t 0)), [0]),
 (.o 2 (.move (.b false)), [2])])
 (.seq (.seq (.regionK false [
 (.o 3 (.fieldAddr 0 (.t 1)), []),
 (.o 4 (.load none (.t 3)), [3])])
 (.cond (.t 4)
 (.seq (.regionK false [
 (.o 5 (.fieldAddr 1 (.t 1)), [4]),
 (.o 6 (.load none (.t 5)), [5]),
 (.o 7 (.len (.t 6)), [6]),
 (.o 8 (.bin .eql (.t 7) (.i 0)), [7]),
 (.o 9 (.move (.t 8)), [8]),
 (⟨some 10, .fieldAddr 2 (.t 1), some (9, true), []⟩, []),
 (⟨some 11, .load none (.t 10), some (9, true), []⟩, [10]),
 (⟨some 12, .len (.t 11), some (9, true), []⟩, [11]),
 (⟨some 13, .bin .eql (.t 12) (.i 0), some (9, true), []⟩, [12]),
 (.o 14 (.pick (.t 9) (.t 13) (.b false)), [9, 13]),
 (.o 2 (.move (.t 14)), [14])])
 .ret)
 .skip))
 (.seq (.regionK false [
 (.o 15 (.fieldAddr 1 (.t 1)), [4]),
 (.o 16 (.load none (.t 15)), [15]),
 (.o 17 (.len (.t 16)), [16]),
 (.o 18 (.bin .leq (.t 17) (.i 64)), [17]),
 (.o 19 (.move (.t 18)), [18]),
 (⟨some 20, .fieldAddr 2 (.t 1), some (19, true), []⟩, []),
 (⟨some 21, .load none (.t 20), some (19, true), []⟩, [20]),
 (⟨some 22, .len (.t 21), some (19, true), []⟩, [21]),
 (⟨some 23, .bin .leq (.t 22) (.i 64), some (19, true), []⟩, [22]),
 (.o 24 (.pick (.t 19) (.t 23) (.b false)), [19, 23]),
 (.o 25 (.move (.t 24)), [24]),
 (⟨some 26, .fieldAddr 1 (.t 1), some (25, true), []⟩, []),
 (⟨some 27, .load none (.t 26), some (25, true), []⟩, [26]),
 (⟨some 28, .call false 83 [.t 27], some (25, true), []⟩, [27]),
 (.o 29 (.pick (.t 25) (.t 28) (.b false)), [25, 28]),
 (.o 30 (.move (.t 29)), [29]),
 (⟨some 31, .fieldAddr 2 (.t 1), some (30, true), []⟩, []),
 (⟨some 32, .load none (.t 31), some (30, true), []⟩, [31]),
 (⟨some 33, .call false 83 [.t 32], some (30, true), []⟩, [32]),
 (.o 34 (.pick (.t 30) (.t 33) (.b false)), [30, 33]),
 (.o 2 (.move (.t 34)), [34])])
 .ret)))⟩

/-- clockwork/clockworkref19.Few -/
@[irreducible] def a67_l0 : ACode :=
  (.seq (.seq (.regionK false [
 (.o 33 (.move (.t 6)), []),
 (.o 34 (.fieldAddr 2 (.t 2)), []),
 (.o 35 (.load none (.t 34)), [34]),
 (.o 36 (.len (.t 35)), [35]),
 (.o 37 (.bin .lss (.t 33) (.t 36)), [33, 36])])
 (.cond (.t 37)
 .skip
 (.ghost (.forget [6, 37]) (.ghost (.free [2]) (.ghost .lower (.exit 2))))))
 (.seq (.block 3
 (.seq (.regionK false [
 (.o 40 (.fieldAddr 2 (.t 2)), [37]),
 (.o 41 (.load none (.t 40)), [40]),
 (.o 42 (.move (.t 6)), []),
 (.o 43 (.indexAddr 1 (.t 41) (.t 42)), [41, 42]),
 (.o 44 (.load none (.t 43)), [43]),
 (.o 45 (.lenS (.t 44)), [44]),
 (.o 46 (.bin .gtr (.t 45) (.i 100)), [45])])
 (.cond (.t 46)
 (.seq (.regionK false [
 (.o 4 (.move (.b false)), [6, 46])])
 .ret)
 .skip)))
 (.regionK false [
 (.o 38 (.move (.t 6)), [46]),
 (.o 39 (.bin .add (.t 38) (.i 1)), [38]),
 (.o 6 (.move (.t 39)), [39])])))

@[irreducible] def a67_l1 : ACode :=
  (.seq (.seq (.regionK false [
 (.o 19 (.move (.t 5)), []),
 (.o 20 (.fieldAddr 1 (.t 2)), []),
 (.o 21 (.load none (.t 20)), [20]),
 (.o 22 (.len (.t 21)), [21]),
 (.o 23 (.bin .lss (.t 19) (.t 22)), [19, 22])])
 (.cond (.t 23)
 .skip
 (.ghost (.forget [5, 23]) (.ghost .lower (.exit 0)))))
 (.seq (.block 1
 (.seq (.regionK false [
 (.o 26 (.fieldAddr 1 (.t 2)), [23]),
 (.o 27 (.load none (.t 26)), [26]),
 (.o 28 (.move (.t 5)), []),
 (.o 29 (.indexAddr 1 (.t 27) (.t 28)), [27, 28]),
 (.o 30 (.load none (.t 29)), [29]),
 (.o 31 (.lenS (.t 30)), [30]),
 (.o 32 (.bin .gtr (.t 31) (.i 100)), [31])])
 (.cond (.t 32)
 (.seq (.regionK false [
 (.o 4 (.move (.b false)), [5, 32])])
 .ret)
 .skip)))
 (.regionK false [
 (.o 24 (.move (.t 5)), [32]),
 (.o 25 (.bin .add (.t 24) (.i 1)), [24]),
 (.o 5 (.move (.t 25)), [25])])))

def a67 : AFunc := ⟨47, 2, [.tmp 4],
  (.seq (.regionK false [
 (.o 2 (.box (.t 0)), [0]),
 (.o 4 (.move (.b false)), [4])])
 (.seq (.seq (.regionK false [
 (.o 7 (.fieldAddr 1 (.t 2)), []),
 (.o 8 (.load none (.t 7)), [7]),
 (.o 9 (.len (.t 8)), [8]),
 (.o 10 (.move (.t 1)), []),
 (.o 11 (.bin .gtr (.t 9) (.t 10)), [9, 10]),
 (.o 12 (.move (.t 11)), [11]),
 (⟨some 13, .fieldAddr 2 (.t 2), some (12, false), []⟩, []),
 (⟨some 14, .load none (.t 13), some (12, false), []⟩, [13]),
 (⟨some 15, .len (.t 14), some (12, false), []⟩, [14]),
 (⟨some 16, .move (.t 1), some (12, false), []⟩, [1]),
 (⟨some 17, .bin .gtr (.t 15) (.t 16), some (12, false), []⟩, [15, 16]),
 (.o 18 (.pick (.t 12) (.b true) (.t 17)), [12, 17])])
 (.cond (.t 18)
 (.seq (.regionK false [
 (.o 4 (.move (.b false)), [18])])
 .ret)
 .skip))
 (.seq (.seq (.regionK false [
 (.o 5 (.move (.i 0)), [18])])
 (.block 0
 (.loop
 (.ghost .lower a67_l1))))
 (.seq (.seq (.regionK false [
 (.o 6 (.move (.i 0)), [])])
 (.block 2
 (.loop
 (.ghost .lower a67_l0))))
 (.seq (.regionK false [
 (.o 4 (.move (.b true)), [])])
 .ret)))))⟩

/-- clockwork/conflict.whole -/
@[irreducible] def a68_l0 : ACode :=
  (.seq (.regionK false [
 (.o 11 (.bin .lss (.t 10) (.t 9)), [])])
 (.seq (.cond (.t 11)
 .skip
 (.ghost (.forget [8, 9, 10, 11]) (.ghost .lower (.exit 0))))
 (.seq (.block 1
 (.seq (.regionK false [
 (.o 12 (.move (.t 10)), [11]),
 (.o 13 (.indexAddr 3 (.t 8) (.t 10)), []),
 (.o 14 (.load (some 3) (.t 13)), [13]),
 (.o 5 (.alloc [.bool false, .slice true [], .slice true []]), []),
 (.o 4 (.move (.t 12)), [12]),
 (.u (.store 3 (.t 5) (.t 14)), [14])])
 (.seq (.regionK false [
 (.o 15 (.load (some 3) (.t 5)), []),
 (.o 16 (.call false 70 [.t 15]), [15]),
 (.o 17 (.un .not (.t 16)), [16])])
 (.cond (.t 17)
 (.regionK false [
 (.o 18 (.move (.t 3)), [17]),
 (.o 19 (.move (.t 4)), [4]),
 (.o 20 (.build [.bool false, .slice true [], .slice true []] [(0, 1, .b true)]), []),
 (.o 21 (.indexAddr 3 (.t 18) (.t 19)), [18, 19]),
 (.u (.store 3 (.t 21) (.t 20)), [20, 21])])
 .skip))))
 (.regionK false [
 (.o 22 (.bin .add (.t 10) (.i 1)), [4, 17]),
 (.o 10 (.move (.t 22)), [22])]))))

def a68 : AFunc := ⟨24, 1, [.tmp 2],
  (.seq (.regionK false [
 (.o 2 (.move (.c (.p (.slice true [])))), [2])])
 (.seq (.regionK false [
 (.o 6 (.move (.t 0)), [0]),
 (.o 7 (.call true 85 [.t 6]), [6]),
 (.o 3 (.move (.t 7)), [7])])
 (.seq (.seq (.regionK false [
 (.o 8 (.move (.t 3)), []),
 (.o 9 (.len (.t 8)), []),
 (.o 10 (.move (.i 0)), [])])
 (.block 0
 (.loop
 (.ghost (.free [5]) (.ghost .lower a68_l0)))))
 (.seq (.regionK false [
 (.o 23 (.move (.t 3)), [3]),
 (.o 2 (.move (.t 23)), [23])])
 .ret))))⟩

/-- clockwork/conflict.kinds -/
def a69 : AFunc := ⟨38, 2, [.tmp 4],
  (.seq (.regionK false [
 (.o 2 (.box (.t 0)), [0]),
 (.o 3 (.box (.t 1)), [1]),
 (.o 4 (.move (.c (.p (.slice true [])))), [4])])
 (.seq (.seq (.regionK false [
 (.o 6 (.fieldAddr 0 (.t 2)), []),
 (.o 7 (.load none (.t 6)), [6]),
 (.o 8 (.move (.t 7)), [7]),
 (⟨some 9, .fieldAddr 0 (.t 3), some (8, false), []⟩, []),
 (⟨some 10, .load none (.t 9), some (8, false), []⟩, [9]),
 (.o 11 (.pick (.t 8) (.b true) (.t 10)), [8, 10])])
 (.cond (.t 11)
 (.seq (.regionK false [
 (.o 12 (.buildSlice [.int .i64 0] 3 [(0, .i 1), (1, .i 2), (2, .i 3)]), [11]),
 (.o 4 (.move (.t 12)), [12])])
 .ret)
 .skip))
 (.seq (.regionK false [
 (.o 5 (.move (.c (.p (.slice true [])))), [11])])
 (.seq (.seq (.regionK false [
 (.o 13 (.fieldAddr 2 (.t 2)), []),
 (.o 14 (.load none (.t 13)), [13]),
 (.o 15 (.fieldAddr 1 (.t 3)), []),
 (.o 16 (.load none (.t 15)), [15]),
 (.o 17 (.call false 86 [.t 14, .t 16]), [14, 16])])
 (.cond (.t 17)
 (.regionK false [
 (.o 18 (.move (.t 5)), [17]),
 (.o 19 (.buildSlice [.int .i64 0] 1 [(0, .i 1)]), []),
 (.o 20 (.append 8 1 (.t 18) (.t 19)), [18, 19]),
 (.o 5 (.move (.t 20)), [20])])
 .skip))
 (.seq (.seq (.regionK false [
 (.o 21 (.fieldAddr 1 (.t 2)), [17]),
 (.o 22 (.load none (.t 21)), [21]),
 (.o 23 (.fieldAddr 2 (.t 3)), []),
 (.o 24 (.load none (.t 23)), [23]),
 (.o 25 (.call false 86 [.t 22, .t 24]), [22, 24])])
 (.cond (.t 25)
 (.regionK false [
 (.o 26 (.move (.t 5)), [25]),
 (.o 27 (.buildSlice [.int .i64 0] 1 [(0, .i 2)]), []),
 (.o 28 (.append 8 1 (.t 26) (.t 27)), [26, 27]),
 (.o 5 (.move (.t 28)), [28])])
 .skip))
 (.seq (.seq (.regionK false [
 (.o 29 (.fieldAddr 2 (.t 2)), [25]),
 (.o 30 (.load none (.t 29)), [29]),
 (.o 31 (.fieldAddr 2 (.t 3)), []),
 (.o 32 (.load none (.t 31)), [31]),
 (.o 33 (.call false 86 [.t 30, .t 32]), [30, 32])])
 (.cond (.t 33)
 (.regionK false [
 (.o 34 (.move (.t 5)), [33]),
 (.o 35 (.buildSlice [.int .i64 0] 1 [(0, .i 3)]), []),
 (.o 36 (.append 8 1 (.t 34) (.t 35)), [34, 35]),
 (.o 5 (.move (.t 36)), [36])])
 .skip))
 (.seq (.regionK false [
 (.o 37 (.move (.t 5)), [5, 33]),
 (.o 4 (.move (.t 37)), [37])])
 .ret)))))))⟩

/-- clockwork/footprint.Valid -/
def a70 : AFunc := ⟨23, 1, [.tmp 2],
  (.seq (.regionK false [
 (.o 1 (.box (.t 0)), [0]),
 (.o 2 (.move (.b false)), [2])])
 (.seq (.seq (.regionK false [
 (.o 3 (.fieldAddr 0 (.t 1)), []),
 (.o 4 (.load none (.t 3)), [3])])
 (.cond (.t 4)
 (.seq (.regionK false [
 (.o 5 (.fieldAddr 1 (.t 1)), [4]),
 (.o 6 (.load none (.t 5)), [5]),
 (.o 7 (.len (.t 6)), [6]),
 (.o 8 (.bin .eql (.t 7) (.i 0)), [7]),
 (.o 9 (.move (.t 8)), [8]),
 (⟨some 10, .fieldAddr 2 (.t 1), some (9, true), []⟩, []),
 (⟨some 11, .load none (.t 10), some (9, true), []⟩, [10]),
 (⟨some 12, .len (.t 11), some (9, true), []⟩, [11]),
 (⟨some 13, .bin .eql (.t 12) (.i 0), some (9, true), []⟩, [12]),
 (.o 14 (.pick (.t 9) (.t 13) (.b false)), [9, 13]),
 (.o 2 (.move (.t 14)), [14])])
 .ret)
 .skip))
 (.seq (.regionK false [
 (.o 15 (.fieldAddr 1 (.t 1)), [4]),
 (.o 16 (.load none (.t 15)), [15]),
 (.o 17 (.call false 87 [.t 16]), [16]),
 (.o 18 (.move (.t 17)), [17]),
 (⟨some 19, .fieldAddr 2 (.t 1), some (18, true), []⟩, []),
 (⟨some 20, .load none (.t 19), some (18, true), []⟩, [19]),
 (⟨some 21, .call false 87 [.t 20], some (18, true), []⟩, [20]),
 (.o 22 (.pick (.t 18) (.t 21) (.b false)), [18, 21]),
 (.o 2 (.move (.t 22)), [22])])
 .ret)))⟩

/-- clockwork/footprint.meet -/
@[irreducible] def a71_l0 : ACode :=
  (.seq (.regionK false [
 (.o 12 (.bin .lss (.t 11) (.t 10)), [])])
 (.seq (.cond (.t 12)
 .skip
 (.ghost (.forget [1, 9, 10, 11, 12]) (.ghost .lower (.exit 0))))
 (.seq (.block 1
 (.seq (.regionK false [
 (.o 13 (.indexAddr 1 (.t 9) (.t 11)), [12]),
 (.o 14 (.load none (.t 13)), [13]),
 (.o 6 (.move (.t 14)), [14])])
 (.seq (.regionK false [
 (.o 16 (.move (.t 1)), []),
 (.o 17 (.move (.t 6)), [6]),
 (.o 18 (.call false 88 [.t 16, .t 17]), [16, 17]),
 (.o 15 (.move (.t 18)), [18]),
 (.o 19 (.extract (.t 15) 0), []),
 (.o 20 (.extract (.t 15) 1), [15]),
 (.o 7 (.move (.t 19)), [7, 19]),
 (.o 8 (.move (.t 20)), [20])])
 (.seq (.regionK false [
 (.o 21 (.move (.t 8)), [8])])
 (.cond (.t 21)
 (.seq (.regionK false [
 (.o 4 (.move (.b true)), [1, 9, 10, 11, 21])])
 .ret)
 .skip)))))
 (.regionK false [
 (.o 22 (.bin .add (.t 11) (.i 1)), [21]),
 (.o 11 (.move (.t 22)), [22])]))))

def a71 : AFunc := ⟨23, 2, [.tmp 4],
  (.seq (.regionK false [
 (.o 4 (.move (.b false)), [4])])
 (.seq (.seq (.regionK false [
 (.o 9 (.move (.t 0)), [0]),
 (.o 10 (.len (.t 9)), []),
 (.o 11 (.move (.i 0)), [])])
 (.block 0
 (.loop
 (.ghost .lower a71_l0))))
 (.seq (.regionK false [
 (.o 4 (.move (.b false)), [])])
 .ret)))⟩

/-- clockwork/clockworkref25.is -/
def a72 : AFunc := ⟨33, 3, [.tmp 6],
  (.seq (.regionK false [
 (.o 3 (.box (.t 0)), [0]),
 (.o 4 (.box (.t 1)), [1]),
 (.o 6 (.move (.b false)), [6])])
 (.seq (.seq (.regionK false [
 (.o 7 (.load (some 3) (.t 3)), []),
 (.o 8 (.call false 89 [.t 7]), [7]),
 (.o 9 (.move (.t 8)), [8]),
 (⟨some 10, .load (some 3) (.t 4), some (9, false), []⟩, []),
 (⟨some 11, .call false 89 [.t 10], some (9, false), []⟩, [10]),
 (.o 12 (.pick (.t 9) (.b true) (.t 11)), [9, 11])])
 (.cond (.t 12)
 (.seq (.regionK false [
 (.o 6 (.move (.b true)), [2, 12])])
 .ret)
 .skip))
 (.seq (.seq (.regionK false [
 (.o 13 (.move (.t 2)), [2, 12])])
 (.block 0
 (.seq (.regionK false [
 (.o 15 (.bin .eql (.t 13) (.i 1)), []),
 (.o 14 (.move (.t 15)), [15])])
 (.cond (.t 14)
 (.seq (.regionK false [
 (.o 16 (.fieldAddr 2 (.t 3)), [13, 14]),
 (.o 17 (.load none (.t 16)), [16]),
 (.o 18 (.fieldAddr 1 (.t 4)), []),
 (.o 19 (.load none (.t 18)), [18]),
 (.o 20 (.call false 90 [.t 17, .t 19]), [17, 19]),
 (.o 6 (.move (.t 20)), [20])])
 .ret)
 (.seq (.regionK false [
 (.o 22 (.bin .eql (.t 13) (.i 2)), [13, 14]),
 (.o 21 (.move (.t 22)), [22])])
 (.cond (.t 21)
 (.seq (.regionK false [
 (.o 23 (.fieldAddr 1 (.t 3)), [21]),
 (.o 24 (.load none (.t 23)), [23]),
 (.o 25 (.fieldAddr 2 (.t 4)), []),
 (.o 26 (.load none (.t 25)), [25]),
 (.o 27 (.call false 90 [.t 24, .t 26]), [24, 26]),
 (.o 6 (.move (.t 27)), [27])])
 .ret)
 .skip))))))
 (.seq (.regionK false [
 (.o 28 (.fieldAddr 2 (.t 3)), [21]),
 (.o 29 (.load none (.t 28)), [28]),
 (.o 30 (.fieldAddr 2 (.t 4)), []),
 (.o 31 (.load none (.t 30)), [30]),
 (.o 32 (.call false 90 [.t 29, .t 31]), [29, 31]),
 (.o 6 (.move (.t 32)), [32])])
 .ret))))⟩

/-- clockwork/clockworkref19.Conflicts -/
def a73 : AFunc := ⟨40, 2, [.tmp 4],
  (.seq (.regionK false [
 (.o 2 (.box (.t 0)), [0]),
 (.o 3 (.box (.t 1)), [1]),
 (.o 4 (.move (.b false)), [4])])
 (.seq (.seq (.regionK false [
 (.o 5 (.load (some 3) (.t 2)), []),
 (.o 6 (.call false 65 [.t 5]), [5]),
 (.o 7 (.un .not (.t 6)), [6]),
 (.o 8 (.move (.t 7)), [7]),
 (⟨some 9, .load (some 3) (.t 3), some (8, false), []⟩, []),
 (⟨some 10, .call false 65 [.t 9], some (8, false), []⟩, [9]),
 (⟨some 11, .un .not (.t 10), some (8, false), []⟩, [10]),
 (.o 12 (.pick (.t 8) (.b true) (.t 11)), [8, 11]),
 (.o 13 (.move (.t 12)), [12]),
 (⟨some 14, .fieldAddr 0 (.t 2), some (13, false), []⟩, []),
 (⟨some 15, .load none (.t 14), some (13, false), []⟩, [14]),
 (.o 16 (.pick (.t 13) (.b true) (.t 15)), [13, 15]),
 (.o 17 (.move (.t 16)), [16]),
 (⟨some 18, .fieldAddr 0 (.t 3), some (17, false), []⟩, []),
 (⟨some 19, .load none (.t 18), some (17, false), []⟩, [18]),
 (.o 20 (.pick (.t 17) (.b true) (.t 19)), [17, 19])])
 (.cond (.t 20)
 (.seq (.regionK false [
 (.o 4 (.move (.b true)), [20])])
 .ret)
 .skip))
 (.seq (.regionK false [
 (.o 21 (.fieldAddr 2 (.t 2)), [20]),
 (.o 22 (.load none (.t 21)), [21]),
 (.o 23 (.fieldAddr 2 (.t 3)), []),
 (.o 24 (.load none (.t 23)), [23]),
 (.o 25 (.call false 91 [.t 22, .t 24]), [22, 24]),
 (.o 26 (.move (.t 25)), [25]),
 (⟨some 27, .fieldAddr 2 (.t 2), some (26, false), []⟩, []),
 (⟨some 28, .load none (.t 27), some (26, false), []⟩, [27]),
 (⟨some 29, .fieldAddr 1 (.t 3), some (26, false), []⟩, []),
 (⟨some 30, .load none (.t 29), some (26, false), []⟩, [29]),
 (⟨some 31, .call false 91 [.t 28, .t 30], some (26, false), []⟩, [28, 30]),
 (.o 32 (.pick (.t 26) (.b true) (.t 31)), [26, 31]),
 (.o 33 (.move (.t 32)), [32]),
 (⟨some 34, .fieldAddr 1 (.t 2), some (33, false), []⟩, []),
 (⟨some 35, .load none (.t 34), some (33, false), []⟩, [34]),
 (⟨some 36, .fieldAddr 2 (.t 3), some (33, false), []⟩, []),
 (⟨some 37, .load none (.t 36), some (33, false), []⟩, [36]),
 (⟨some 38, .call false 91 [.t 35, .t 37], some (33, false), []⟩, [35, 37]),
 (.o 39 (.pick (.t 33) (.b true) (.t 38)), [33, 38]),
 (.o 4 (.move (.t 39)), [39])])
 .ret)))⟩

/-- clockwork/clockworkref04.Ascending -/
@[irreducible] def a83_l0 : ACode :=
  (.seq (.seq (.regionK false [
 (.o 4 (.move (.t 3)), []),
 (.o 5 (.move (.t 0)), []),
 (.o 6 (.len (.t 5)), [5]),
 (.o 7 (.bin .lss (.t 4) (.t 6)), [4, 6])])
 (.cond (.t 7)
 .skip
 (.ghost (.forget [0, 3, 7]) (.ghost .lower (.exit 0)))))
 (.seq (.block 1
 (.seq (.regionK true [
 (.o 10 (.move (.t 0)), [7]),
 (.o 11 (.move (.t 3)), []),
 (⟨some 12, .indexAddr 1 (.t 10) (.t 11), none, [0, 1]⟩, [10, 11]),
 (⟨some 13, .load none (.t 12), none, [0, 1, 2]⟩, [12]),
 (⟨some 14, .call false 62 [.t 13], none, [0, 1, 2, 3]⟩, [13]),
 (⟨some 15, .un .not (.t 14), none, [0, 1, 2, 3, 4]⟩, [14]),
 (⟨some 16, .move (.t 15), none, [0, 1, 2, 3, 4, 5]⟩, [15]),
 (⟨some 17, .move (.t 3), some (16, false), [0, 1, 2, 3, 4, 5, 6]⟩, []),
 (⟨some 18, .bin .gtr (.t 17) (.i 0), some (16, false), [0, 1, 2, 3, 4, 5, 6, 7]⟩, [17]),
 (⟨some 19, .move (.t 18), some (16, false), [0, 1, 2, 3, 4, 5, 6, 7, 8]⟩, [18]),
 (⟨some 20, .move (.t 0), some (19, true), [0, 1, 2, 3, 4, 5, 6, 7, 8, 9]⟩, []),
 (⟨some 21, .move (.t 3), some (19, true), [0, 1, 2, 3, 4, 5, 6, 7, 8, 9]⟩, []),
 (⟨some 22, .bin .sub (.t 21) (.i 1), some (19, true), [0, 1, 2, 3, 4, 5, 6, 7, 8, 9, 11]⟩, [21]),
 (⟨some 23, .indexAddr 1 (.t 20) (.t 22), some (19, true), [0, 1, 2, 3, 4, 5, 6, 7, 8, 9, 10, 11, 12]⟩, [20, 22]),
 (⟨some 24, .load none (.t 23), some (19, true), [0, 1, 2, 3, 4, 5, 6, 7, 8, 9, 10, 11, 12, 13]⟩, [23]),
 (⟨some 25, .move (.t 0), some (19, true), [0, 1, 2, 3, 4, 5, 6, 7, 8, 9]⟩, []),
 (⟨some 26, .move (.t 3), some (19, true), [0, 1, 2, 3, 4, 5, 6, 7, 8, 9]⟩, []),
 (⟨some 27, .indexAddr 1 (.t 25) (.t 26), some (19, true), [0, 1, 2, 3, 4, 5, 6, 7, 8, 9, 15, 16]⟩, [25, 26]),
 (⟨some 28, .load none (.t 27), some (19, true), [0, 1, 2, 3, 4, 5, 6, 7, 8, 9, 15, 16, 17]⟩, [27]),
 (⟨some 29, .bin .geq (.t 24) (.t 28), some (19, true), [0, 1, 2, 3, 4, 5, 6, 7, 8, 9, 10, 11, 12, 13, 14, 15, 16, 17, 18]⟩, [24, 28]),
 (⟨some 30, .pick (.t 19) (.t 29) (.b false), some (16, false), [0, 1, 2, 3, 4, 5, 6, 7, 8, 9, 10, 11, 12, 13, 14, 15, 16, 17, 18, 19]⟩, [19, 29]),
 (⟨some 31, .pick (.t 16) (.b true) (.t 30), none, [0, 1, 2, 3, 4, 5, 6, 7, 8, 9, 10, 11, 12, 13, 14, 15, 16, 17, 18, 19, 20]⟩, [16, 30])])
 (.cond (.t 31)
 (.seq (.regionK false [
 (.o 2 (.move (.b false)), [0, 3, 31])])
 .ret)
 .skip)))
 (.regionK false [
 (.o 8 (.move (.t 3)), [31]),
 (.o 9 (.bin .add (.t 8) (.i 1)), [8]),
 (.o 3 (.move (.t 9)), [9])])))

def a83 : AFunc := ⟨32, 1, [.tmp 2],
  (.seq (.regionK false [
 (.o 2 (.move (.b false)), [2])])
 (.seq (.seq (.regionK false [
 (.o 3 (.move (.i 0)), [])])
 (.block 0
 (.loop
 (.ghost .lower a83_l0))))
 (.seq (.regionK false [
 (.o 2 (.move (.b true)), [])])
 .ret)))⟩

/-- clockwork/conflict.meet -/
def a86 : AFunc := ⟨8, 2, [.tmp 4],
  (.seq (.regionK false [
 (.o 3 (.box (.t 1)), [1]),
 (.o 4 (.move (.b false)), [4])])
 (.seq (.regionK false [
 (.o 5 (.move (.t 0)), [0]),
 (.o 6 (.mkfunc 112 [.t 3]), []),
 (.o 7 (.call false 111 [.t 5, .t 6]), [5, 6]),
 (.o 4 (.move (.t 7)), [7])])
 .ret))⟩

/-- clockwork/footprint.ascending -/
@[irreducible] def a87_l0 : ACode :=
  (.seq (.regionK false [
 (.o 8 (.bin .lss (.t 7) (.t 6)), [])])
 (.seq (.cond (.t 8)
 .skip
 (.ghost (.forget [5, 6, 7, 8]) (.ghost .lower (.exit 0))))
 (.seq (.block 1
 (.seq (.regionK false [
 (.o 9 (.move (.t 7)), [8]),
 (.o 10 (.indexAddr 1 (.t 5) (.t 7)), []),
 (.o 11 (.load none (.t 10)), [10]),
 (.o 3 (.move (.t 9)), [9]),
 (.o 4 (.move (.t 11)), [11])])
 (.seq (.regionK false [
 (.o 12 (.move (.t 4)), []),
 (.o 13 (.call false 25 [.t 12]), [12]),
 (.o 14 (.un .not (.t 13)), [13]),
 (.o 15 (.move (.t 14)), [14]),
 (⟨some 16, .move (.t 3), some (15, false), []⟩, []),
 (⟨some 17, .bin .gtr (.t 16) (.i 0), some (15, false), []⟩, [16]),
 (⟨some 18, .move (.t 17), some (15, false), []⟩, [17]),
 (⟨some 19, .move (.t 4), some (18, true), []⟩, [4]),
 (⟨some 20, .move (.t 0), some (18, true), []⟩, []),
 (⟨some 21, .move (.t 3), some (18, true), []⟩, [3]),
 (⟨some 22, .bin .sub (.t 21) (.i 1), some (18, true), []⟩, [21]),
 (⟨some 23, .indexAddr 1 (.t 20) (.t 22), some (18, true), []⟩, [20, 22]),
 (⟨some 24, .load none (.t 23), some (18, true), []⟩, [23]),
 (⟨some 25, .bin .leq (.t 19) (.t 24), some (18, true), []⟩, [19, 24]),
 (⟨some 26, .pick (.t 18) (.t 25) (.b false), some (15, false), []⟩, [18, 25]),
 (.o 27 (.pick (.t 15) (.b true) (.t 26)), [15, 26])])
 (.cond (.t 27)
 (.seq (.regionK false [
 (.o 2 (.move (.b false)), [0, 5, 6, 7, 27])])
 .ret)
 .skip))))
 (.regionK false [
 (.o 28 (.bin .add (.t 7) (.i 1)), [27]),
 (.o 7 (.move (.t 28)), [28])]))))

def a87 : AFunc := ⟨32, 1, [.tmp 2],
  (.seq (.regionK false [
 (.o 2 (.move (.b false)), [2])])
 (.seq (.seq (.regionK false [
 (.o 5 (.move (.t 0)), []),
 (.o 6 (.len (.t 5)), []),
 (.o 7 (.move (.i 0)), [])])
 (.block 0
 (.loop
 (.ghost .lower a87_l0))))
 (.seq (.regionK false [
 (.o 29 (.move (.t 0)), [0]),
 (.o 30 (.len (.t 29)), [29]),
 (.o 31 (.bin .leq (.t 30) (.i 64)), [30]),
 (.o 2 (.move (.t 31)), [31])])
 .ret)))⟩

/-- slices.BinarySearch[[]string,string] -/
@[irreducible] def a88_l0 : ACode :=
  (.seq (.seq (.regionK false [
 (.o 13 (.move (.t 7)), []),
 (.o 14 (.move (.t 8)), []),
 (.o 15 (.bin .lss (.t 13) (.t 14)), [13, 14])])
 (.cond (.t 15)
 .skip
 (.ghost (.forget [8, 15]) (.ghost .lower (.exit 0)))))
 (.block 1
 (.seq (.regionK false [
 (.o 16 (.move (.t 7)), [15]),
 (.o 17 (.move (.t 8)), []),
 (.o 18 (.bin .add (.t 16) (.t 17)), [16, 17]),
 (.o 19 (.conv .u64 (.t 18)), [18]),
 (.o 20 (.bin .shr (.t 19) (.c (.p (.int .u64 1)))), [19]),
 (.o 21 (.conv .i64 (.t 20)), [20]),
 (.o 9 (.move (.t 21)), [21])])
 (.seq (.regionK false [
 (.o 22 (.move (.t 0)), []),
 (.o 23 (.move (.t 9)), []),
 (.o 24 (.indexAddr 1 (.t 22) (.t 23)), [22, 23]),
 (.o 25 (.load none (.t 24)), [24]),
 (.o 26 (.move (.t 1)), []),
 (.o 27 (.call false 114 [.t 25, .t 26]), [25, 26])])
 (.cond (.t 27)
 (.regionK false [
 (.o 28 (.move (.t 9)), [9, 27]),
 (.o 29 (.bin .add (.t 28) (.i 1)), [28]),
 (.o 7 (.move (.t 29)), [29])])
 (.regionK false [
 (.o 30 (.move (.t 9)), [9, 27]),
 (.o 8 (.move (.t 30)), [30])]))))))

def a88 : AFunc := ⟨54, 2, [.tmp 4, .tmp 5],
  (.seq (.regionK false [
 (.o 4 (.move (.i 0)), [4]),
 (.o 5 (.move (.b false)), [5])])
 (.seq (.regionK false [
 (.o 10 (.move (.t 0)), []),
 (.o 11 (.len (.t 10)), [10]),
 (.o 6 (.move (.t 11)), [11])])
 (.seq (.regionK false [
 (.o 12 (.move (.t 6)), []),
 (.o 7 (.move (.i 0)), []),
 (.o 8 (.move (.t 12)), [12])])
 (.seq (.block 0
 (.loop
 (.ghost .lower a88_l0)))
 (.seq (.regionK false [
 (.o 31 (.move (.t 7)), []),
 (.o 32 (.move (.t 7)), []),
 (.o 33 (.move (.t 6)), [6]),
 (.o 34 (.bin .lss (.t 32) (.t 33)), [32, 33]),
 (.o 35 (.move (.t 34)), [34]),
 (⟨some 36, .move (.t 0), some (35, true), []⟩, []),
 (⟨some 37, .move (.t 7), some (35, true), []⟩, []),
 (⟨some 38, .indexAddr 1 (.t 36) (.t 37), some (35, true), []⟩, [36, 37]),
 (⟨some 39, .load none (.t 38), some (35, true), []⟩, [38]),
 (⟨some 40, .move (.t 1), some (35, true), []⟩, []),
 (⟨some 41, .bin .eql (.t 39) (.t 40), some (35, true), []⟩, [39, 40]),
 (⟨some 42, .move (.t 41), some (35, true), []⟩, [41]),
 (⟨some 43, .move (.t 0), some (42, false), []⟩, [0]),
 (⟨some 44, .move (.t 7), some (42, false), []⟩, [7]),
 (⟨some 45, .indexAddr 1 (.t 43) (.t 44), some (42, false), []⟩, [43, 44]),
 (⟨some 46, .load none (.t 45), some (42, false), []⟩, [45]),
 (⟨some 47, .call false 115 [.t 46], some (42, false), []⟩, [46]),
 (⟨some 48, .move (.t 47), some (42, false), []⟩, [47]),
 (⟨some 49, .move (.t 1), some (48, true), []⟩, [1]),
 (⟨some 50, .call false 115 [.t 49], some (48, true), []⟩, [49]),
 (⟨some 51, .pick (.t 48) (.t 50) (.b false), some (42, false), []⟩, [48, 50]),
 (⟨some 52, .pick (.t 42) (.b true) (.t 51), some (35, true), []⟩, [42, 51]),
 (.o 53 (.pick (.t 35) (.t 52) (.b false)), [35, 52]),
 (.o 4 (.move (.t 31)), [31]),
 (.o 5 (.move (.t 53)), [53])])
 .ret)))))⟩

/-- clockwork/clockworkref25.all -/
def a89 : AFunc := ⟨10, 1, [.tmp 2],
  (.seq (.regionK false [
 (.o 1 (.box (.t 0)), [0]),
 (.o 2 (.move (.b false)), [2])])
 (.seq (.regionK false [
 (.o 3 (.fieldAddr 0 (.t 1)), []),
 (.o 4 (.load none (.t 3)), [3]),
 (.o 5 (.move (.t 4)), [4]),
 (⟨some 6, .load (some 3) (.t 1), some (5, false), []⟩, []),
 (⟨some 7, .call false 65 [.t 6], some (5, false), []⟩, [6]),
 (⟨some 8, .un .not (.t 7), some (5, false), []⟩, [7]),
 (.o 9 (.pick (.t 5) (.b true) (.t 8)), [5, 8]),
 (.o 2 (.move (.t 9)), [9])])
 .ret))⟩

/-- clockwork/clockworkref25.meet -/
@[irreducible] def a90_l0 : ACode :=
  (.seq (.seq (.regionK false [
 (.o 6 (.move (.t 5)), []),
 (.o 7 (.move (.t 0)), []),
 (.o 8 (.len (.t 7)), [7]),
 (.o 9 (.bin .lss (.t 6) (.t 8)), [6, 8])])
 (.cond (.t 9)
 .skip
 (.ghost (.forget [0, 1, 5, 9]) (.ghost .lower (.exit 0)))))
 (.seq (.block 1
 (.seq (.regionK false [
 (.o 12 (.move (.t 1)), [9]),
 (.o 13 (.move (.t 0)), []),
 (.o 14 (.move (.t 5)), []),
 (.o 15 (.indexAddr 1 (.t 13) (.t 14)), [13, 14]),
 (.o 16 (.load none (.t 15)), [15]),
 (.o 17 (.call false 116 [.t 12, .t 16]), [12, 16])])
 (.cond (.t 17)
 (.seq (.regionK false [
 (.o 4 (.move (.b true)), [0, 1, 5, 17])])
 .ret)
 .skip)))
 (.regionK false [
 (.o 10 (.move (.t 5)), [17]),
 (.o 11 (.bin .add (.t 10) (.i 1)), [10]),
 (.o 5 (.move (.t 11)), [11])])))

def a90 : AFunc := ⟨18, 2, [.tmp 4],
  (.seq (.regionK false [
 (.o 4 (.move (.b false)), [4])])
 (.seq (.seq (.regionK false [
 (.o 5 (.move (.i 0)), [])])
 (.block 0
 (.loop
 (.ghost .lower a90_l0))))
 (.seq (.regionK false [
 (.o 4 (.move (.b false)), [])])
 .ret)))⟩

/-- clockwork/clockworkref19.meet -/
@[irreducible] def a91_l0 : ACode :=
  (.seq (.seq (.regionK false [
 (.o 6 (.move (.t 5)), []),
 (.o 7 (.move (.t 0)), []),
 (.o 8 (.len (.t 7)), [7]),
 (.o 9 (.bin .lss (.t 6) (.t 8)), [6, 8])])
 (.cond (.t 9)
 .skip
 (.ghost (.forget [0, 1, 5, 9]) (.ghost .lower (.exit 0)))))
 (.seq (.block 1
 (.seq (.regionK false [
 (.o 12 (.move (.t 1)), [9]),
 (.o 13 (.move (.t 0)), []),
 (.o 14 (.move (.t 5)), []),
 (.o 15 (.indexAddr 1 (.t 13) (.t 14)), [13, 14]),
 (.o 16 (.load none (.t 15)), [15]),
 (.o 17 (.call false 116 [.t 12, .t 16]), [12, 16])])
 (.cond (.t 17)
 (.seq (.regionK false [
 (.o 4 (.move (.b true)), [0, 1, 5, 17])])
 .ret)
 .skip)))
 (.regionK false [
 (.o 10 (.move (.t 5)), [17]),
 (.o 11 (.bin .add (.t 10) (.i 1)), [10]),
 (.o 5 (.move (.t 11)), [11])])))

def a91 : AFunc := ⟨18, 2, [.tmp 4],
  (.seq (.regionK false [
 (.o 4 (.move (.b false)), [4])])
 (.seq (.seq (.regionK false [
 (.o 5 (.move (.i 0)), [])])
 (.block 0
 (.loop
 (.ghost .lower a91_l0))))
 (.seq (.regionK false [
 (.o 4 (.move (.b false)), [])])
 .ret)))⟩

/-- slices.ContainsFunc[[]string,string] -/
def a111 : AFunc := ⟨9, 2, [.tmp 4],
  (.seq (.regionK false [
 (.o 4 (.move (.b false)), [4])])
 (.seq (.regionK false [
 (.o 5 (.move (.t 0)), [0]),
 (.o 6 (.move (.t 1)), [1]),
 (.o 7 (.call false 134 [.t 5, .t 6]), [5, 6]),
 (.o 8 (.bin .geq (.t 7) (.i 0)), [7]),
 (.o 4 (.move (.t 8)), [8])])
 .ret))⟩

/-- clockwork/conflict.meet$1 -/
def a112 : AFunc := ⟨7, 2, [.tmp 3],
  (.seq (.regionK false [
 (.o 3 (.move (.b false)), [3])])
 (.seq (.regionK false [
 (.o 4 (.load none (.t 1)), [1]),
 (.o 5 (.move (.t 0)), [0]),
 (.o 6 (.call false 113 [.t 4, .t 5]), [4, 5]),
 (.o 3 (.move (.t 6)), [6])])
 .ret))⟩

/-- slices.Contains[[]string,string] -/
def a113 : AFunc := ⟨9, 2, [.tmp 4],
  (.seq (.regionK false [
 (.o 4 (.move (.b false)), [4])])
 (.seq (.regionK false [
 (.o 5 (.move (.t 0)), [0]),
 (.o 6 (.move (.t 1)), [1]),
 (.o 7 (.call false 135 [.t 5, .t 6]), [5, 6]),
 (.o 8 (.bin .geq (.t 7) (.i 0)), [7]),
 (.o 4 (.move (.t 8)), [8])])
 .ret))⟩

/-- cmp.Less[string] -/
def a114 : AFunc := ⟨17, 2, [.tmp 4],
  (.seq (.regionK false [
 (.o 4 (.move (.b false)), [4])])
 (.seq (.regionK false [
 (.o 5 (.move (.t 0)), []),
 (.o 6 (.call false 136 [.t 5]), [5]),
 (.o 7 (.move (.t 6)), [6]),
 (⟨some 8, .move (.t 1), some (7, true), []⟩, []),
 (⟨some 9, .call false 136 [.t 8], some (7, true), []⟩, [8]),
 (⟨some 10, .un .not (.t 9), some (7, true), []⟩, [9]),
 (.o 11 (.pick (.t 7) (.t 10) (.b false)), [7, 10]),
 (.o 12 (.move (.t 11)), [11]),
 (⟨some 13, .move (.t 0), some (12, false), []⟩, [0]),
 (⟨some 14, .move (.t 1), some (12, false), []⟩, [1]),
 (⟨some 15, .bin .lss (.t 13) (.t 14), some (12, false), []⟩, [13, 14]),
 (.o 16 (.pick (.t 12) (.b true) (.t 15)), [12, 15]),
 (.o 4 (.move (.t 16)), [16])])
 .ret))⟩

/-- slices.isNaN[string] -/
def a115 : AFunc := ⟨6, 1, [.tmp 2],
  (.seq (.regionK false [
 (.o 2 (.move (.b false)), [2])])
 (.seq (.regionK false [
 (.o 3 (.move (.t 0)), []),
 (.o 4 (.move (.t 0)), [0]),
 (.o 5 (.bin .neq (.t 3) (.t 4)), [3, 4]),
 (.o 2 (.move (.t 5)), [5])])
 .ret))⟩

/-- clockwork/clockworkref04.Has -/
@[irreducible] def a116_l0 : ACode :=
  (.seq (.seq (.regionK false [
 (.o 6 (.move (.t 5)), []),
 (.o 7 (.move (.t 0)), []),
 (.o 8 (.len (.t 7)), [7]),
 (.o 9 (.bin .lss (.t 6) (.t 8)), [6, 8])])
 (.cond (.t 9)
 .skip
 (.ghost (.forget [0, 1, 5, 9]) (.ghost .lower (.exit 0)))))
 (.seq (.block 1
 (.seq (.regionK false [
 (.o 12 (.move (.t 0)), [9]),
 (.o 13 (.move (.t 5)), []),
 (.o 14 (.indexAddr 1 (.t 12) (.t 13)), [12, 13]),
 (.o 15 (.load none (.t 14)), [14]),
 (.o 16 (.move (.t 1)), []),
 (.o 17 (.bin .eql (.t 15) (.t 16)), [15, 16])])
 (.cond (.t 17)
 (.seq (.regionK false [
 (.o 4 (.move (.b true)), [0, 1, 5, 17])])
 .ret)
 .skip)))
 (.regionK false [
 (.o 10 (.move (.t 5)), [17]),
 (.o 11 (.bin .add (.t 10) (.i 1)), [10]),
 (.o 5 (.move (.t 11)), [11])])))

def a116 : AFunc := ⟨18, 2, [.tmp 4],
  (.seq (.regionK false [
 (.o 4 (.move (.b false)), [4])])
 (.seq (.seq (.regionK false [
 (.o 5 (.move (.i 0)), [])])
 (.block 0
 (.loop
 (.ghost .lower a116_l0))))
 (.seq (.regionK false [
 (.o 4 (.move (.b false)), [])])
 .ret)))⟩

/-- slices.IndexFunc[[]string,string] -/
@[irreducible] def a134_l0 : ACode :=
  (.seq (.regionK false [
 (.o 9 (.bin .lss (.t 8) (.t 7)), [])])
 (.seq (.cond (.t 9)
 .skip
 (.ghost (.forget [0, 1, 7, 8, 9]) (.ghost .lower (.exit 0))))
 (.seq (.block 1
 (.seq (.regionK false [
 (.o 10 (.move (.t 8)), [9]),
 (.o 5 (.move (.t 10)), [10])])
 (.seq (.regionK false [
 (.o 11 (.move (.t 1)), []),
 (.o 12 (.move (.t 0)), []),
 (.o 13 (.move (.t 5)), []),
 (.o 14 (.indexAddr 1 (.t 12) (.t 13)), [12, 13]),
 (.o 15 (.load none (.t 14)), [14]),
 (.o 16 (.callv false (.t 11) [.t 15]), [11, 15])])
 (.cond (.t 16)
 (.seq (.regionK false [
 (.o 17 (.move (.t 5)), [0, 1, 5, 7, 8, 16]),
 (.o 4 (.move (.t 17)), [17])])
 .ret)
 .skip))))
 (.regionK false [
 (.o 18 (.bin .add (.t 8) (.i 1)), [5, 16]),
 (.o 8 (.move (.t 18)), [18])]))))

def a134 : AFunc := ⟨19, 2, [.tmp 4],
  (.seq (.regionK false [
 (.o 4 (.move (.i 0)), [4])])
 (.seq (.seq (.regionK false [
 (.o 6 (.move (.t 0)), []),
 (.o 7 (.len (.t 6)), [6]),
 (.o 8 (.move (.i 0)), [])])
 (.block 0
 (.loop
 (.ghost .lower a134_l0))))
 (.seq (.regionK false [
 (.o 4 (.move (.i (-1))), [])])
 .ret)))⟩

/-- slices.Index[[]string,string] -/
@[irreducible] def a135_l0 : ACode :=
  (.seq (.regionK false [
 (.o 9 (.bin .lss (.t 8) (.t 7)), [])])
 (.seq (.cond (.t 9)
 .skip
 (.ghost (.forget [0, 1, 7, 8, 9]) (.ghost .lower (.exit 0))))
 (.seq (.block 1
 (.seq (.regionK false [
 (.o 10 (.move (.t 8)), [9]),
 (.o 5 (.move (.t 10)), [10])])
 (.seq (.regionK false [
 (.o 11 (.move (.t 1)), []),
 (.o 12 (.move (.t 0)), []),
 (.o 13 (.move (.t 5)), []),
 (.o 14 (.indexAddr 1 (.t 12) (.t 13)), [12, 13]),
 (.o 15 (.load none (.t 14)), [14]),
 (.o 16 (.bin .eql (.t 11) (.t 15)), [11, 15])])
 (.cond (.t 16)
 (.seq (.regionK false [
 (.o 17 (.move (.t 5)), [0, 1, 5, 7, 8, 16]),
 (.o 4 (.move (.t 17)), [17])])
 .ret)
 .skip))))
 (.regionK false [
 (.o 18 (.bin .add (.t 8) (.i 1)), [5, 16]),
 (.o 8 (.move (.t 18)), [18])]))))

def a135 : AFunc := ⟨19, 2, [.tmp 4],
  (.seq (.regionK false [
 (.o 4 (.move (.i 0)), [4])])
 (.seq (.seq (.regionK false [
 (.o 6 (.move (.t 0)), []),
 (.o 7 (.len (.t 6)), [6]),
 (.o 8 (.move (.i 0)), [])])
 (.block 0
 (.loop
 (.ghost .lower a135_l0))))
 (.seq (.regionK false [
 (.o 4 (.move (.i (-1))), [])])
 .ret)))⟩

/-- cmp.isNaN[string] -/
def a136 : AFunc := ⟨6, 1, [.tmp 2],
  (.seq (.regionK false [
 (.o 2 (.move (.b false)), [2])])
 (.seq (.regionK false [
 (.o 3 (.move (.t 0)), []),
 (.o 4 (.move (.t 0)), [0]),
 (.o 5 (.bin .neq (.t 3) (.t 4)), [3, 4]),
 (.o 2 (.move (.t 5)), [5])])
 .ret))⟩


end Go.Dv.Try
