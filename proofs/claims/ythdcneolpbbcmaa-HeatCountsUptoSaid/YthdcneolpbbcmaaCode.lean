/-
  The annotated functions of this seat. Printed by wip/gen.py.
-/
import Derived.Test.YthdcneolpbbcmaaWalk
set_option linter.unusedVariables false
set_option maxRecDepth 100000
namespace Go.Dv.Try
open Go Go.Dv


/-- clockwork/clockworklaw34.HeatOrder -/
@[irreducible] def a3_l0 : ACode :=
  (.seq (.seq (.regionK false [
 (.o 40 (.move (.t 10)), []),
 (.o 41 (.bin .geq (.t 40) (.i 0)), [40])])
 (.cond (.t 41)
 .skip
 (.ghost (.forget [10, 41]) (.ghost .lower (.exit 0)))))
 (.seq (.block 1
 (.regionK false [
 (.o 44 (.move (.t 9)), [41]),
 (.o 45 (.move (.t 1)), []),
 (.o 46 (.move (.t 10)), []),
 (.o 47 (.indexAddr 1 (.t 45) (.t 46)), [45, 46]),
 (.o 48 (.load none (.t 47)), [47]),
 (.o 49 (.buildSlice [.str ⟨#[]⟩] 1 [(0, .t 48)]), [48]),
 (.o 50 (.append 16 1 (.t 44) (.t 49)), [44, 49]),
 (.o 9 (.move (.t 50)), [50])]))
 (.regionK false [
 (.o 42 (.move (.t 10)), []),
 (.o 43 (.bin .sub (.t 42) (.i 1)), [42]),
 (.o 10 (.move (.t 43)), [43])])))

def a3 : AFunc := ⟨75, 3, [.tmp 6],
  (.seq (.regionK false [
 (.o 6 (.move (.b false)), [6])])
 (.seq (.regionK false [
 (.o 12 (.move (.t 0)), []),
 (.o 13 (.move (.t 1)), []),
 (.o 14 (.append 16 1 (.c (.p (.slice true []))) (.t 13)), [13]),
 (.o 15 (.move (.t 2)), []),
 (.o 16 (.append 16 1 (.t 14) (.t 15)), [14, 15]),
 (.o 17 (.call false 6 [.t 12, .t 16]), [12, 16]),
 (.o 18 (.move (.t 0)), []),
 (.o 19 (.move (.t 2)), []),
 (.o 20 (.append 16 1 (.c (.p (.slice true []))) (.t 19)), [19]),
 (.o 21 (.move (.t 1)), []),
 (.o 22 (.append 16 1 (.t 20) (.t 21)), [20, 21]),
 (.o 23 (.call false 6 [.t 18, .t 22]), [18, 22]),
 (.o 7 (.move (.t 17)), [17]),
 (.o 8 (.move (.t 23)), [23])])
 (.seq (.seq (.regionK false [
 (.o 24 (.move (.t 7)), []),
 (.o 25 (.move (.t 8)), [8]),
 (.o 26 (.call false 7 [.t 24, .t 25]), [24, 25]),
 (.o 27 (.un .not (.t 26)), [26])])
 (.cond (.t 27)
 (.seq (.regionK false [
 (.o 6 (.move (.b false)), [0, 1, 2, 7, 27])])
 .ret)
 .skip))
 (.seq (.seq (.regionK false [
 (.o 28 (.move (.t 0)), [27]),
 (.o 29 (.call false 8 [.t 28]), [28]),
 (.o 30 (.un .not (.t 29)), [29])])
 (.cond (.t 30)
 (.seq (.regionK false [
 (.o 31 (.move (.t 7)), [0, 1, 2, 7, 30]),
 (.o 32 (.len (.t 31)), [31]),
 (.o 33 (.bin .eql (.t 32) (.i 0)), [32]),
 (.o 34 (.move (.t 33)), [33]),
 (⟨some 35, .call false 9 [], some (34, true), []⟩, []),
 (.o 36 (.pick (.t 34) (.t 35) (.b false)), [34, 35]),
 (.o 6 (.move (.t 36)), [36])])
 .ret)
 .skip))
 (.seq (.regionK false [
 (.o 9 (.move (.c (.p (.slice true [])))), [30])])
 (.ghost (.own 1 9) (.seq (.seq (.regionK false [
 (.o 37 (.move (.t 1)), []),
 (.o 38 (.len (.t 37)), [37]),
 (.o 39 (.bin .sub (.t 38) (.i 1)), [38]),
 (.o 10 (.move (.t 39)), [39])])
 (.block 0
 (.loop
 (.ghost .lower a3_l0))))
 (.seq (.seq (.regionK false [
 (.o 51 (.move (.t 0)), []),
 (.o 52 (.move (.t 1)), []),
 (.o 53 (.call false 6 [.t 51, .t 52]), [51, 52]),
 (.o 54 (.move (.t 0)), []),
 (.o 55 (.move (.t 9)), [9]),
 (.o 56 (.call false 6 [.t 54, .t 55]), [54, 55]),
 (.o 57 (.call false 7 [.t 53, .t 56]), [53, 56]),
 (.o 58 (.un .not (.t 57)), [57])])
 (.cond (.t 58)
 (.seq (.regionK false [
 (.o 6 (.move (.b false)), [0, 1, 2, 7, 58])])
 .ret)
 .skip))
 (.seq (.regionK false [
 (.o 59 (.move (.t 0)), [0, 58]),
 (.o 60 (.move (.t 1)), [1]),
 (.o 61 (.call false 6 [.t 59, .t 60]), [59, 60]),
 (.o 11 (.move (.t 61)), [61])])
 (.seq (.regionK false [
 (.o 62 (.move (.t 7)), []),
 (.o 63 (.len (.t 62)), [62]),
 (.o 64 (.bin .eql (.t 63) (.i 32)), [63]),
 (.o 65 (.move (.t 64)), [64]),
 (⟨some 66, .move (.t 11), some (65, false), []⟩, [11]),
 (⟨some 67, .move (.t 2), some (65, false), []⟩, [2]),
 (⟨some 68, .call false 6 [.t 66, .t 67], some (65, false), []⟩, [66, 67]),
 (⟨some 69, .move (.t 7), some (65, false), []⟩, [7]),
 (⟨some 70, .call false 7 [.t 68, .t 69], some (65, false), []⟩, [68, 69]),
 (.o 71 (.pick (.t 65) (.b true) (.t 70)), [65, 70]),
 (.o 72 (.move (.t 71)), [71]),
 (⟨some 73, .call false 9 [], some (72, true), []⟩, []),
 (.o 74 (.pick (.t 72) (.t 73) (.b false)), [72, 73]),
 (.o 6 (.move (.t 74)), [74])])
 .ret))))))))))⟩

/-- clockwork/clockworklaw34.HeatBounds -/
@[irreducible] def a4_l0 : ACode :=
  (.seq (.seq (.regionK false [
 (.o 80 (.move (.t 13)), []),
 (.o 81 (.move (.t 7)), []),
 (.o 82 (.len (.t 81)), [81]),
 (.o 83 (.bin .lss (.t 80) (.t 82)), [80, 82])])
 (.cond (.t 83)
 .skip
 (.ghost (.forget [13, 83]) (.ghost .lower (.exit 2)))))
 (.seq (.block 3
 (.regionK false [
 (.o 86 (.move (.t 11)), [83]),
 (.o 87 (.move (.t 86)), [86]),
 (⟨some 88, .move (.t 7), some (87, false), []⟩, []),
 (⟨some 89, .move (.t 13), some (87, false), []⟩, []),
 (⟨some 90, .indexAddr 2 (.t 88) (.t 89), some (87, false), []⟩, [88, 89]),
 (⟨some 91, .fieldAddr 1 (.t 90), some (87, false), []⟩, [90]),
 (⟨some 92, .load none (.t 91), some (87, false), []⟩, [91]),
 (⟨some 93, .bin .eql (.t 92) (.i 1099511627776), some (87, false), []⟩, [92]),
 (.o 94 (.pick (.t 87) (.b true) (.t 93)), [87, 93]),
 (.o 11 (.move (.t 94)), [94])]))
 (.regionK false [
 (.o 84 (.move (.t 13)), []),
 (.o 85 (.bin .add (.t 84) (.i 1)), [84]),
 (.o 13 (.move (.t 85)), [85])])))

@[irreducible] def a4_l1 : ACode :=
  (.seq (.seq (.regionK false [
 (.o 67 (.move (.t 12)), []),
 (.o 68 (.move (.t 1)), []),
 (.o 69 (.len (.t 68)), [68]),
 (.o 70 (.bin .lss (.t 67) (.t 69)), [67, 69])])
 (.cond (.t 70)
 .skip
 (.ghost (.forget [1, 12, 70]) (.ghost .lower (.exit 0)))))
 (.seq (.block 1
 (.seq (.regionK false [
 (.o 73 (.move (.t 1)), [70]),
 (.o 74 (.move (.t 12)), []),
 (.o 75 (.indexAddr 1 (.t 73) (.t 74)), [73, 74]),
 (.o 76 (.load none (.t 75)), [75]),
 (.o 77 (.call false 13 [.t 76]), [76])])
 (.cond (.t 77)
 (.regionK false [
 (.o 78 (.move (.t 10)), [77]),
 (.o 79 (.bin .add (.t 78) (.i 1)), [78]),
 (.o 10 (.move (.t 79)), [79])])
 .skip)))
 (.regionK false [
 (.o 71 (.move (.t 12)), [77]),
 (.o 72 (.bin .add (.t 71) (.i 1)), [71]),
 (.o 12 (.move (.t 72)), [72])])))

def a4 : AFunc := ⟨122, 3, [.tmp 6],
  (.seq (.regionK false [
 (.o 6 (.move (.b false)), [6])])
 (.seq (.regionK false [
 (.o 14 (.move (.t 0)), []),
 (.o 15 (.move (.t 1)), []),
 (.o 16 (.call false 6 [.t 14, .t 15]), [14, 15]),
 (.o 17 (.move (.t 0)), []),
 (.o 18 (.call false 10 [.t 17]), [17]),
 (.o 19 (.move (.t 0)), []),
 (.o 20 (.move (.t 2)), [2]),
 (.o 21 (.call false 11 [.t 19, .t 20]), [19, 20]),
 (.o 7 (.move (.t 16)), [16]),
 (.o 8 (.move (.t 18)), [18]),
 (.o 9 (.move (.t 21)), [21])])
 (.seq (.seq (.regionK false [
 (.o 22 (.move (.t 7)), []),
 (.o 23 (.call false 8 [.t 22]), [22]),
 (.o 24 (.un .not (.t 23)), [23]),
 (.o 25 (.move (.t 24)), [24]),
 (⟨some 26, .move (.t 8), some (25, false), []⟩, []),
 (⟨some 27, .call false 8 [.t 26], some (25, false), []⟩, [26]),
 (⟨some 28, .un .not (.t 27), some (25, false), []⟩, [27]),
 (.o 29 (.pick (.t 25) (.b true) (.t 28)), [25, 28]),
 (.o 30 (.move (.t 29)), [29]),
 (⟨some 31, .move (.t 9), some (30, false), []⟩, []),
 (⟨some 32, .call false 8 [.t 31], some (30, false), []⟩, [31]),
 (⟨some 33, .un .not (.t 32), some (30, false), []⟩, [32]),
 (.o 34 (.pick (.t 30) (.b true) (.t 33)), [30, 33])])
 (.cond (.t 34)
 (.seq (.regionK false [
 (.o 6 (.move (.b false)), [0, 1, 7, 8, 9, 34])])
 .ret)
 .skip))
 (.seq (.seq (.regionK false [
 (.o 35 (.move (.t 0)), [34]),
 (.o 36 (.call false 8 [.t 35]), [35]),
 (.o 37 (.un .not (.t 36)), [36])])
 (.cond (.t 37)
 (.seq (.regionK false [
 (.o 38 (.move (.t 7)), [0, 1, 7, 37]),
 (.o 39 (.len (.t 38)), [38]),
 (.o 40 (.bin .eql (.t 39) (.i 0)), [39]),
 (.o 41 (.move (.t 40)), [40]),
 (⟨some 42, .move (.t 8), some (41, true), []⟩, [8]),
 (⟨some 43, .len (.t 42), some (41, true), []⟩, [42]),
 (⟨some 44, .bin .eql (.t 43) (.i 0), some (41, true), []⟩, [43]),
 (.o 45 (.pick (.t 41) (.t 44) (.b false)), [41, 44]),
 (.o 46 (.move (.t 45)), [45]),
 (⟨some 47, .move (.t 9), some (46, true), []⟩, [9]),
 (⟨some 48, .len (.t 47), some (46, true), []⟩, [47]),
 (⟨some 49, .bin .eql (.t 48) (.i 0), some (46, true), []⟩, [48]),
 (.o 50 (.pick (.t 46) (.t 49) (.b false)), [46, 49]),
 (.o 51 (.move (.t 50)), [50]),
 (⟨some 52, .call false 9 [], some (51, true), []⟩, []),
 (.o 53 (.pick (.t 51) (.t 52) (.b false)), [51, 52]),
 (.o 6 (.move (.t 53)), [53])])
 .ret)
 .skip))
 (.seq (.seq (.regionK false [
 (.o 54 (.move (.t 8)), [9, 37]),
 (.o 55 (.call false 12 [.t 54]), [54]),
 (.o 56 (.bin .mul (.i 2) (.t 55)), [55]),
 (.o 57 (.move (.t 0)), []),
 (.o 58 (.call false 12 [.t 57]), [57]),
 (.o 59 (.bin .gtr (.t 56) (.t 58)), [56, 58]),
 (.o 60 (.move (.t 59)), [59]),
 (⟨some 61, .move (.t 8), some (60, false), []⟩, [8]),
 (⟨some 62, .len (.t 61), some (60, false), []⟩, [61]),
 (⟨some 63, .move (.t 0), some (60, false), []⟩, []),
 (⟨some 64, .len (.t 63), some (60, false), []⟩, [63]),
 (⟨some 65, .bin .gtr (.t 62) (.t 64), some (60, false), []⟩, [62, 64]),
 (.o 66 (.pick (.t 60) (.b true) (.t 65)), [60, 65])])
 (.cond (.t 66)
 (.seq (.regionK false [
 (.o 6 (.move (.b false)), [0, 1, 7, 66])])
 .ret)
 .skip))
 (.seq (.regionK false [
 (.o 10 (.move (.i 0)), [66]),
 (.o 11 (.move (.b false)), [])])
 (.seq (.seq (.regionK false [
 (.o 12 (.move (.i 0)), [])])
 (.block 0
 (.loop
 (.ghost .lower a4_l1))))
 (.seq (.seq (.regionK false [
 (.o 13 (.move (.i 0)), [])])
 (.block 2
 (.loop
 (.ghost .lower a4_l0))))
 (.seq (.regionK false [
 (.o 95 (.move (.t 7)), []),
 (.o 96 (.len (.t 95)), [95]),
 (.o 97 (.bin .eql (.t 96) (.i 32)), [96]),
 (.o 98 (.move (.t 97)), [97]),
 (⟨some 99, .move (.t 11), some (98, false), []⟩, [11]),
 (.o 100 (.pick (.t 98) (.b true) (.t 99)), [98, 99]),
 (.o 101 (.move (.t 100)), [100]),
 (⟨some 102, .move (.t 7), some (101, false), []⟩, []),
 (⟨some 103, .call false 12 [.t 102], some (101, false), []⟩, [102]),
 (⟨some 104, .move (.t 0), some (101, false), []⟩, []),
 (⟨some 105, .call false 12 [.t 104], some (101, false), []⟩, [104]),
 (⟨some 106, .move (.t 10), some (101, false), []⟩, []),
 (⟨some 107, .bin .add (.t 105) (.t 106), some (101, false), []⟩, [105, 106]),
 (⟨some 108, .bin .eql (.t 103) (.t 107), some (101, false), []⟩, [103, 107]),
 (.o 109 (.pick (.t 101) (.b true) (.t 108)), [101, 108]),
 (.o 110 (.move (.t 109)), [109]),
 (⟨some 111, .move (.t 7), some (110, true), []⟩, [7]),
 (⟨some 112, .call false 12 [.t 111], some (110, true), []⟩, [111]),
 (⟨some 113, .move (.t 0), some (110, true), []⟩, [0]),
 (⟨some 114, .call false 12 [.t 113], some (110, true), []⟩, [113]),
 (⟨some 115, .move (.t 10), some (110, true), []⟩, [10]),
 (⟨some 116, .bin .add (.t 114) (.t 115), some (110, true), []⟩, [114, 115]),
 (⟨some 117, .bin .leq (.t 112) (.t 116), some (110, true), []⟩, [112, 116]),
 (.o 118 (.pick (.t 110) (.t 117) (.b false)), [110, 117]),
 (.o 119 (.move (.t 118)), [118]),
 (⟨some 120, .call false 9 [], some (119, true), []⟩, []),
 (.o 121 (.pick (.t 119) (.t 120) (.b false)), [119, 120]),
 (.o 6 (.move (.t 121)), [121])])
 .ret)))))))))⟩

/-- clockwork/clockworklaw34.HeatCounts -/
def a5 : AFunc := ⟨41, 3, [.tmp 6],
  (.seq (.regionK false [
 (.o 6 (.move (.b false)), [6])])
 (.seq (.seq (.regionK false [
 (.o 7 (.move (.t 0)), []),
 (.o 8 (.move (.t 1)), []),
 (.o 9 (.call false 6 [.t 7, .t 8]), [7, 8]),
 (.o 10 (.move (.t 0)), []),
 (.o 11 (.move (.t 1)), [1]),
 (.o 12 (.call false 14 [.t 10, .t 11]), [10, 11]),
 (.o 13 (.call false 7 [.t 9, .t 12]), [9, 12]),
 (.o 14 (.un .not (.t 13)), [13]),
 (.o 15 (.move (.t 14)), [14]),
 (⟨some 16, .move (.t 0), some (15, false), []⟩, []),
 (⟨some 17, .call false 10 [.t 16], some (15, false), []⟩, [16]),
 (⟨some 18, .move (.t 0), some (15, false), []⟩, []),
 (⟨some 19, .call false 15 [.t 18], some (15, false), []⟩, [18]),
 (⟨some 20, .call false 7 [.t 17, .t 19], some (15, false), []⟩, [17, 19]),
 (⟨some 21, .un .not (.t 20), some (15, false), []⟩, [20]),
 (.o 22 (.pick (.t 15) (.b true) (.t 21)), [15, 21]),
 (.o 23 (.move (.t 22)), [22]),
 (⟨some 24, .move (.t 0), some (23, false), []⟩, []),
 (⟨some 25, .move (.t 2), some (23, false), []⟩, []),
 (⟨some 26, .call false 11 [.t 24, .t 25], some (23, false), []⟩, [24, 25]),
 (⟨some 27, .move (.t 0), some (23, false), []⟩, []),
 (⟨some 28, .move (.t 2), some (23, false), []⟩, [2]),
 (⟨some 29, .call false 16 [.t 27, .t 28], some (23, false), []⟩, [27, 28]),
 (⟨some 30, .call false 7 [.t 26, .t 29], some (23, false), []⟩, [26, 29]),
 (⟨some 31, .un .not (.t 30), some (23, false), []⟩, [30]),
 (.o 32 (.pick (.t 23) (.b true) (.t 31)), [23, 31])])
 (.cond (.t 32)
 (.seq (.regionK false [
 (.o 6 (.move (.b false)), [0, 32])])
 .ret)
 .skip))
 (.seq (.regionK false [
 (.o 33 (.move (.t 0)), [32]),
 (.o 34 (.call false 8 [.t 33]), [33]),
 (.o 35 (.move (.t 0)), [0]),
 (.o 36 (.call false 17 [.t 35]), [35]),
 (.o 37 (.eqb false (.t 34) (.t 36)), [34, 36]),
 (.o 38 (.move (.t 37)), [37]),
 (⟨some 39, .call false 9 [], some (38, true), []⟩, []),
 (.o 40 (.pick (.t 38) (.t 39) (.b false)), [38, 39]),
 (.o 6 (.move (.t 40)), [40])])
 .ret)))⟩

/-- clockwork/heat.Touch -/
@[irreducible] def a6_l0 : ACode :=
  (.seq (.regionK false [
 (.o 18 (.bin .lss (.t 17) (.t 16)), [])])
 (.seq (.cond (.t 18)
 .skip
 (.ghost (.forget [15, 16, 17, 18]) (.ghost .lower (.exit 0))))
 (.seq (.block 1
 (.seq (.regionK false [
 (.o 19 (.indexAddr 1 (.t 15) (.t 17)), [18]),
 (.o 20 (.load none (.t 19)), [19]),
 (.o 7 (.move (.t 20)), [20])])
 (.seq (.seq (.regionK false [
 (.o 21 (.move (.t 7)), []),
 (.o 22 (.call false 13 [.t 21]), [21]),
 (.o 23 (.un .not (.t 22)), [22])])
 (.cond (.t 23)
 (.ghost (.forget [7, 23]) (.ghost .lower (.exit 1)))
 .skip))
 (.seq (.regionK false [
 (.o 25 (.move (.t 5)), [23]),
 (.o 26 (.move (.t 7)), []),
 (.o 27 (.call false 19 [.t 25, .t 26, .c (.func 20 [])]), [25, 26]),
 (.o 24 (.move (.t 27)), [27]),
 (.o 28 (.extract (.t 24) 0), []),
 (.o 29 (.extract (.t 24) 1), [24]),
 (.o 8 (.move (.t 28)), [28]),
 (.o 9 (.move (.t 29)), [29])])
 (.seq (.seq (.regionK false [
 (.o 30 (.move (.t 9)), [9]),
 (.o 31 (.un .not (.t 30)), [30])])
 (.cond (.t 31)
 (.regionK false [
 (.o 32 (.move (.t 5)), [31]),
 (.o 33 (.move (.t 8)), []),
 (.o 34 (.move (.t 7)), [7]),
 (.o 35 (.build [.str ⟨#[]⟩, .int .i64 0] [(0, 1, .t 34)]), [34]),
 (.o 36 (.buildSlice [.str ⟨#[]⟩, .int .i64 0] 1 [(0, .t 35)]), [35]),
 (.o 37 (.call true 21 [.t 32, .t 33, .t 36]), [32, 33, 36]),
 (.o 5 (.move (.t 37)), [37])])
 .skip))
 (.regionK false [
 (.o 38 (.move (.t 5)), [7, 31]),
 (.o 39 (.move (.t 8)), []),
 (.o 40 (.move (.t 5)), []),
 (.o 41 (.move (.t 8)), [8]),
 (.o 42 (.indexAddr 2 (.t 40) (.t 41)), [40, 41]),
 (.o 43 (.fieldAddr 1 (.t 42)), [42]),
 (.o 44 (.load none (.t 43)), [43]),
 (.o 45 (.bin .add (.t 44) (.i 1)), [44]),
 (.o 46 (.minmax false (.t 45) [.i 1099511627776]), [45]),
 (.o 47 (.indexAddr 2 (.t 38) (.t 39)), [38, 39]),
 (.o 48 (.fieldAddr 1 (.t 47)), [47]),
 (.u (.store 1 (.t 48) (.t 46)), [46, 48])]))))))
 (.regionK false [
 (.o 49 (.bin .add (.t 17) (.i 1)), []),
 (.o 17 (.move (.t 49)), [49])]))))

def a6 : AFunc := ⟨60, 2, [.tmp 4],
  (.seq (.regionK false [
 (.o 4 (.move (.c (.p (.slice true [])))), [4])])
 (.seq (.seq (.regionK false [
 (.o 10 (.move (.t 0)), []),
 (.o 11 (.call false 8 [.t 10]), [10]),
 (.o 12 (.un .not (.t 11)), [11])])
 (.cond (.t 12)
 (.seq (.regionK false [
 (.o 4 (.move (.c (.p (.slice true [])))), [0, 1, 12])])
 .ret)
 .skip))
 (.seq (.regionK false [
 (.o 13 (.move (.t 0)), [0, 12]),
 (.o 14 (.call true 18 [.t 13]), [13]),
 (.o 5 (.move (.t 14)), [14])])
 (.seq (.seq (.regionK false [
 (.o 15 (.move (.t 1)), [1]),
 (.o 16 (.len (.t 15)), []),
 (.o 17 (.move (.i 0)), [])])
 (.block 0
 (.loop
 (.ghost .lower a6_l0))))
 (.seq (.seq (.regionK false [
 (.o 50 (.move (.t 5)), []),
 (.o 51 (.len (.t 50)), [50]),
 (.o 52 (.bin .gtr (.t 51) (.i 32)), [51])])
 (.cond (.t 52)
 (.seq (.regionK false [
 (.o 53 (.move (.t 5)), [52]),
 (.o 54 (.call true 22 [.t 53, .c (.func 23 [])]), [53, 54])])
 (.seq (.regionK false [
 (.o 55 (.move (.t 5)), []),
 (.o 56 (.slice 2 (.t 55) none (some (.i 32)) none), [55]),
 (.o 5 (.move (.t 56)), [56])])
 (.regionK false [
 (.o 57 (.move (.t 5)), []),
 (.o 58 (.call true 22 [.t 57, .c (.func 24 [])]), [57, 58])])))
 .skip))
 (.seq (.regionK false [
 (.o 59 (.move (.t 5)), [5, 52]),
 (.o 4 (.move (.t 59)), [59])])
 .ret))))))⟩

/-- clockwork/clockworkref34.Same -/
@[irreducible] def a7_l0 : ACode :=
  (.seq (.seq (.regionK false [
 (.o 11 (.move (.t 5)), []),
 (.o 12 (.move (.t 0)), []),
 (.o 13 (.len (.t 12)), [12]),
 (.o 14 (.bin .lss (.t 11) (.t 13)), [11, 13])])
 (.cond (.t 14)
 .skip
 (.ghost (.forget [0, 1, 5, 14]) (.ghost .lower (.exit 0)))))
 (.seq (.block 1
 (.seq (.regionK true [
 (.o 17 (.move (.t 0)), [14]),
 (.o 18 (.move (.t 5)), []),
 (⟨some 19, .indexAddr 2 (.t 17) (.t 18), none, [0, 1]⟩, [17, 18]),
 (⟨some 20, .load (some 2) (.t 19), none, [0, 1, 2]⟩, [19]),
 (.o 21 (.move (.t 1)), []),
 (.o 22 (.move (.t 5)), []),
 (⟨some 23, .indexAddr 2 (.t 21) (.t 22), none, [4, 5]⟩, [21, 22]),
 (⟨some 24, .load (some 2) (.t 23), none, [4, 5, 6]⟩, [23]),
 (⟨some 25, .eqagg true [(0, 2), (1, 0)] (.t 20) (.t 24), none, [0, 1, 2, 3, 4, 5, 6, 7]⟩, [20, 24])])
 (.cond (.t 25)
 (.seq (.regionK false [
 (.o 4 (.move (.b false)), [0, 1, 5, 25])])
 .ret)
 .skip)))
 (.regionK false [
 (.o 15 (.move (.t 5)), [25]),
 (.o 16 (.bin .add (.t 15) (.i 1)), [15]),
 (.o 5 (.move (.t 16)), [16])])))

def a7 : AFunc := ⟨26, 2, [.tmp 4],
  (.seq (.regionK false [
 (.o 4 (.move (.b false)), [4])])
 (.seq (.seq (.regionK false [
 (.o 6 (.move (.t 0)), []),
 (.o 7 (.len (.t 6)), [6]),
 (.o 8 (.move (.t 1)), []),
 (.o 9 (.len (.t 8)), [8]),
 (.o 10 (.bin .neq (.t 7) (.t 9)), [7, 9])])
 (.cond (.t 10)
 (.seq (.regionK false [
 (.o 4 (.move (.b false)), [0, 1, 10])])
 .ret)
 .skip))
 (.seq (.seq (.regionK false [
 (.o 5 (.move (.i 0)), [10])])
 (.block 0
 (.loop
 (.ghost .lower a7_l0))))
 (.seq (.regionK false [
 (.o 4 (.move (.b true)), [])])
 .ret))))⟩

/-- clockwork/heat.Valid -/
@[irreducible] def a8_l0 : ACode :=
  (.seq (.regionK false [
 (.o 8 (.bin .lss (.t 7) (.t 6)), [])])
 (.seq (.cond (.t 8)
 .skip
 (.ghost (.forget [5, 6, 7, 8]) (.ghost .lower (.exit 0))))
 (.seq (.block 1
 (.seq (.regionK false [
 (.o 9 (.move (.t 7)), [8]),
 (.o 10 (.indexAddr 2 (.t 5) (.t 7)), []),
 (.o 11 (.load (some 2) (.t 10)), [10]),
 (.o 4 (.alloc [.str ⟨#[]⟩, .int .i64 0]), []),
 (.o 3 (.move (.t 9)), [9]),
 (.u (.store 2 (.t 4) (.t 11)), [11])])
 (.seq (.regionK true [
 (.o 12 (.fieldAddr 0 (.t 4)), []),
 (⟨some 13, .load none (.t 12), none, [0]⟩, [12]),
 (⟨some 14, .call false 13 [.t 13], none, [0, 1]⟩, [13]),
 (⟨some 15, .un .not (.t 14), none, [0, 1, 2]⟩, [14]),
 (⟨some 16, .move (.t 15), none, [0, 1, 2, 3]⟩, [15]),
 (⟨some 17, .fieldAddr 1 (.t 4), some (16, false), [0, 1, 2, 3, 4]⟩, []),
 (⟨some 18, .load none (.t 17), some (16, false), [0, 1, 2, 3, 4, 5]⟩, [17]),
 (⟨some 19, .bin .lss (.t 18) (.i 1), some (16, false), [0, 1, 2, 3, 4, 5, 6]⟩, [18]),
 (⟨some 20, .pick (.t 16) (.b true) (.t 19), none, [0, 1, 2, 3, 4, 5, 6, 7]⟩, [16, 19]),
 (⟨some 21, .move (.t 20), none, [0, 1, 2, 3, 4, 5, 6, 7, 8]⟩, [20]),
 (⟨some 22, .fieldAddr 1 (.t 4), some (21, false), [0, 1, 2, 3, 4, 5, 6, 7, 8, 9]⟩, []),
 (⟨some 23, .load none (.t 22), some (21, false), [0, 1, 2, 3, 4, 5, 6, 7, 8, 9, 10]⟩, [22]),
 (⟨some 24, .bin .gtr (.t 23) (.i 1099511627776), some (21, false), [0, 1, 2, 3, 4, 5, 6, 7, 8, 9, 10, 11]⟩, [23]),
 (⟨some 25, .pick (.t 21) (.b true) (.t 24), none, [0, 1, 2, 3, 4, 5, 6, 7, 8, 9, 10, 11, 12]⟩, [21, 24]),
 (⟨some 26, .move (.t 25), none, [0, 1, 2, 3, 4, 5, 6, 7, 8, 9, 10, 11, 12, 13]⟩, [25]),
 (⟨some 27, .move (.t 3), some (26, false), [0, 1, 2, 3, 4, 5, 6, 7, 8, 9, 10, 11, 12, 13, 14]⟩, []),
 (⟨some 28, .bin .gtr (.t 27) (.i 0), some (26, false), [0, 1, 2, 3, 4, 5, 6, 7, 8, 9, 10, 11, 12, 13, 14, 15]⟩, [27]),
 (⟨some 29, .move (.t 28), some (26, false), [0, 1, 2, 3, 4, 5, 6, 7, 8, 9, 10, 11, 12, 13, 14, 15, 16]⟩, [28]),
 (⟨some 30, .move (.t 0), some (29, true), [0, 1, 2, 3, 4, 5, 6, 7, 8, 9, 10, 11, 12, 13, 14, 15, 16, 17]⟩, []),
 (⟨some 31, .move (.t 3), some (29, true), [0, 1, 2, 3, 4, 5, 6, 7, 8, 9, 10, 11, 12, 13, 14, 15, 16, 17]⟩, [3]),
 (⟨some 32, .bin .sub (.t 31) (.i 1), some (29, true), [0, 1, 2, 3, 4, 5, 6, 7, 8, 9, 10, 11, 12, 13, 14, 15, 16, 17, 19]⟩, [31]),
 (⟨some 33, .indexAddr 2 (.t 30) (.t 32), some (29, true), [0, 1, 2, 3, 4, 5, 6, 7, 8, 9, 10, 11, 12, 13, 14, 15, 16, 17, 18, 19, 20]⟩, [30, 32]),
 (⟨some 34, .fieldAddr 0 (.t 33), some (29, true), [0, 1, 2, 3, 4, 5, 6, 7, 8, 9, 10, 11, 12, 13, 14, 15, 16, 17, 18, 19, 20, 21]⟩, [33]),
 (⟨some 35, .load none (.t 34), some (29, true), [0, 1, 2, 3, 4, 5, 6, 7, 8, 9, 10, 11, 12, 13, 14, 15, 16, 17, 18, 19, 20, 21, 22]⟩, [34]),
 (⟨some 36, .fieldAddr 0 (.t 4), some (29, true), [0, 1, 2, 3, 4, 5, 6, 7, 8, 9, 10, 11, 12, 13, 14, 15, 16, 17]⟩, []),
 (⟨some 37, .load none (.t 36), some (29, true), [0, 1, 2, 3, 4, 5, 6, 7, 8, 9, 10, 11, 12, 13, 14, 15, 16, 17, 24]⟩, [36]),
 (⟨some 38, .bin .geq (.t 35) (.t 37), some (29, true), [0, 1, 2, 3, 4, 5, 6, 7, 8, 9, 10, 11, 12, 13, 14, 15, 16, 17, 18, 19, 20, 21, 22, 23, 24, 25]⟩, [35, 37]),
 (⟨some 39, .pick (.t 29) (.t 38) (.b false), some (26, false), [0, 1, 2, 3, 4, 5, 6, 7, 8, 9, 10, 11, 12, 13, 14, 15, 16, 17, 18, 19, 20, 21, 22, 23, 24, 25, 26]⟩, [29, 38]),
 (⟨some 40, .pick (.t 26) (.b true) (.t 39), none, [0, 1, 2, 3, 4, 5, 6, 7, 8, 9, 10, 11, 12, 13, 14, 15, 16, 17, 18, 19, 20, 21, 22, 23, 24, 25, 26, 27]⟩, [26, 39])])
 (.cond (.t 40)
 (.seq (.regionK false [
 (.o 2 (.move (.b false)), [0, 5, 6, 7, 40])])
 .ret)
 .skip))))
 (.regionK false [
 (.o 41 (.bin .add (.t 7) (.i 1)), [40]),
 (.o 7 (.move (.t 41)), [41])]))))

def a8 : AFunc := ⟨45, 1, [.tmp 2],
  (.seq (.regionK false [
 (.o 2 (.move (.b false)), [2])])
 (.seq (.seq (.regionK false [
 (.o 5 (.move (.t 0)), []),
 (.o 6 (.len (.t 5)), []),
 (.o 7 (.move (.i 0)), [])])
 (.block 0
 (.loop
 (.ghost (.free [4]) (.ghost .lower a8_l0)))))
 (.seq (.regionK false [
 (.o 42 (.move (.t 0)), [0]),
 (.o 43 (.len (.t 42)), [42]),
 (.o 44 (.bin .leq (.t 43) (.i 32)), [43]),
 (.o 2 (.move (.t 44)), [44])])
 .ret)))⟩

/-- clockwork/clockworklaw34.examples -/
def a9 : AFunc := ⟨16, 0, [.tmp 0],
  (.seq (.regionK false [
 (.o 0 (.move (.b false)), [0])])
 (.seq (.regionK false [
 (.o 2 (.buildSlice [.str ⟨#[]⟩] 3 [(0, .c (.p (.str ⟨#[98]⟩))), (1, .c (.p (.str ⟨#[97]⟩))), (2, .c (.p (.str ⟨#[98]⟩)))]), []),
 (.o 3 (.call false 6 [.c (.p (.slice true [])), .t 2]), [2]),
 (.o 1 (.move (.t 3)), [3])])
 (.seq (.regionK false [
 (.o 4 (.move (.t 1)), []),
 (.o 5 (.build [.str ⟨#[]⟩, .int .i64 0] [(0, 1, .c (.p (.str ⟨#[97]⟩))), (1, 1, .i 1)]), []),
 (.o 6 (.build [.str ⟨#[]⟩, .int .i64 0] [(0, 1, .c (.p (.str ⟨#[98]⟩))), (1, 1, .i 2)]), []),
 (.o 7 (.buildSlice [.str ⟨#[]⟩, .int .i64 0] 2 [(0, .t 5), (1, .t 6)]), [5, 6]),
 (.o 8 (.call false 7 [.t 4, .t 7]), [4, 7]),
 (.o 9 (.move (.t 8)), [8]),
 (⟨some 10, .move (.t 1), some (9, true), []⟩, [1]),
 (⟨some 11, .call false 10 [.t 10], some (9, true), []⟩, [10]),
 (⟨some 12, .build [.str ⟨#[]⟩, .int .i64 0] [(0, 1, .c (.p (.str ⟨#[98]⟩))), (1, 1, .i 1)], some (9, true), []⟩, []),
 (⟨some 13, .buildSlice [.str ⟨#[]⟩, .int .i64 0] 1 [(0, .t 12)], some (9, true), []⟩, [12]),
 (⟨some 14, .call false 7 [.t 11, .t 13], some (9, true), []⟩, [11, 13]),
 (.o 15 (.pick (.t 9) (.t 14) (.b false)), [9, 14]),
 (.o 0 (.move (.t 15)), [15])])
 .ret)))⟩

/-- clockwork/heat.Decay -/
def a10 : AFunc := ⟨8, 1, [.tmp 2],
  (.seq (.regionK false [
 (.o 2 (.move (.c (.p (.slice true [])))), [2])])
 (.seq (.seq (.regionK false [
 (.o 3 (.move (.t 0)), []),
 (.o 4 (.call false 8 [.t 3]), [3]),
 (.o 5 (.un .not (.t 4)), [4])])
 (.cond (.t 5)
 (.seq (.regionK false [
 (.o 2 (.move (.c (.p (.slice true [])))), [0, 5])])
 .ret)
 .skip))
 (.seq (.regionK false [
 (.o 6 (.move (.t 0)), [0, 5]),
 (.o 7 (.call false 26 [.t 6, .c (.func 27 [])]), [6]),
 (.o 2 (.move (.t 7)), [7])])
 .ret)))⟩

/-- clockwork/heat.Batch -/
@[irreducible] def a11_l0 : ACode :=
  (.seq (.regionK false [
 (.o 14 (.bin .lss (.t 13) (.t 12)), [])])
 (.seq (.cond (.t 14)
 .skip
 (.ghost (.forget [11, 12, 13, 14]) (.ghost .lower (.exit 0))))
 (.seq (.block 1
 (.seq (.regionK false [
 (.o 15 (.indexAddr 3 (.t 11) (.t 13)), [14]),
 (.o 16 (.load (some 3) (.t 15)), [15]),
 (.o 7 (.alloc [.bool false, .slice true [], .slice true []]), []),
 (.u (.store 3 (.t 7) (.t 16)), [16])])
 (.seq (.regionK false [
 (.o 17 (.fieldAddr 0 (.t 7)), []),
 (.o 18 (.load none (.t 17)), [17]),
 (.o 19 (.un .not (.t 18)), [18])])
 (.cond (.t 19)
 (.regionK false [
 (.o 20 (.move (.t 5)), [19]),
 (.o 21 (.load (some 3) (.t 7)), []),
 (.o 22 (.call false 28 [.t 21]), [21]),
 (.o 23 (.append 16 1 (.t 20) (.t 22)), [20, 22]),
 (.o 5 (.move (.t 23)), [23])])
 .skip))))
 (.regionK false [
 (.o 24 (.bin .add (.t 13) (.i 1)), [19]),
 (.o 13 (.move (.t 24)), [24])]))))

def a11 : AFunc := ⟨29, 2, [.tmp 4],
  (.seq (.regionK false [
 (.o 4 (.move (.c (.p (.slice true [])))), [4])])
 (.seq (.seq (.regionK false [
 (.o 8 (.move (.t 0)), []),
 (.o 9 (.call false 8 [.t 8]), [8]),
 (.o 10 (.un .not (.t 9)), [9])])
 (.cond (.t 10)
 (.seq (.regionK false [
 (.o 4 (.move (.c (.p (.slice true [])))), [0, 1, 10])])
 .ret)
 .skip))
 (.seq (.regionK false [
 (.o 5 (.move (.c (.p (.slice true [])))), [10])])
 (.ghost (.own 1 5) (.seq (.seq (.regionK false [
 (.o 11 (.move (.t 1)), [1]),
 (.o 12 (.len (.t 11)), []),
 (.o 13 (.move (.i 0)), [])])
 (.block 0
 (.loop
 (.ghost (.free [7]) (.ghost .lower a11_l0)))))
 (.seq (.regionK false [
 (.o 25 (.move (.t 0)), [0]),
 (.o 26 (.call false 10 [.t 25]), [25]),
 (.o 27 (.move (.t 5)), [5]),
 (.o 28 (.call false 6 [.t 26, .t 27]), [26, 27]),
 (.o 4 (.move (.t 28)), [28])])
 .ret))))))⟩

/-- clockwork/clockworklaw34.total -/
@[irreducible] def a12_l0 : ACode :=
  (.seq (.seq (.regionK false [
 (.o 5 (.move (.t 4)), []),
 (.o 6 (.move (.t 0)), []),
 (.o 7 (.len (.t 6)), [6]),
 (.o 8 (.bin .lss (.t 5) (.t 7)), [5, 7])])
 (.cond (.t 8)
 .skip
 (.ghost (.forget [0, 4, 8]) (.ghost .lower (.exit 0)))))
 (.seq (.block 1
 (.regionK false [
 (.o 11 (.move (.t 3)), [8]),
 (.o 12 (.move (.t 0)), []),
 (.o 13 (.move (.t 4)), []),
 (.o 14 (.indexAddr 2 (.t 12) (.t 13)), [12, 13]),
 (.o 15 (.fieldAddr 1 (.t 14)), [14]),
 (.o 16 (.load none (.t 15)), [15]),
 (.o 17 (.bin .add (.t 11) (.t 16)), [11, 16]),
 (.o 3 (.move (.t 17)), [17])]))
 (.regionK false [
 (.o 9 (.move (.t 4)), []),
 (.o 10 (.bin .add (.t 9) (.i 1)), [9]),
 (.o 4 (.move (.t 10)), [10])])))

def a12 : AFunc := ⟨19, 1, [.tmp 2],
  (.seq (.regionK false [
 (.o 2 (.move (.i 0)), [2])])
 (.seq (.regionK false [
 (.o 3 (.move (.i 0)), [])])
 (.seq (.seq (.regionK false [
 (.o 4 (.move (.i 0)), [])])
 (.block 0
 (.loop
 (.ghost .lower a12_l0))))
 (.seq (.regionK false [
 (.o 18 (.move (.t 3)), [3]),
 (.o 2 (.move (.t 18)), [18])])
 .ret))))⟩

/-- clockwork/keys.Valid -/
def a13 : AFunc := ⟨9, 1, [.tmp 2],
  (.seq (.regionK false [
 (.o 2 (.move (.b false)), [2])])
 (.seq (.regionK false [
 (.o 3 (.move (.t 0)), []),
 (.o 4 (.bin .neq (.t 3) (.c (.p (.str ⟨#[]⟩)))), [3]),
 (.o 5 (.move (.t 4)), [4]),
 (⟨some 6, .move (.t 0), some (5, true), []⟩, [0]),
 (⟨some 7, .call false 29 [.t 6, .c (.func 30 [])], some (5, true), []⟩, [6]),
 (.o 8 (.pick (.t 5) (.t 7) (.b false)), [5, 7]),
 (.o 2 (.move (.t 8)), [8])])
 .ret))⟩

/-- clockwork/clockworkref34.Touch -/
@[irreducible] def a14_l0 : ACode :=
  (.seq (.seq (.regionK false [
 (.o 31 (.move (.t 5)), []),
 (.o 32 (.len (.t 31)), [31]),
 (.o 33 (.bin .gtr (.t 32) (.i 32)), [32])])
 (.cond (.t 33)
 .skip
 (.ghost (.forget [33]) (.ghost .lower (.exit 2)))))
 (.block 3
 (.seq (.regionK false [
 (.o 34 (.move (.t 5)), [33]),
 (.o 35 (.call false 33 [.t 34]), [34]),
 (.o 7 (.move (.t 35)), [35])])
 (.seq (.regionK false [
 (.o 8 (.move (.c (.p (.slice true [])))), [])])
 (.ghost (.own 2 8) (.seq (.regionK false [
 (.o 36 (.move (.t 8)), []),
 (.o 37 (.move (.t 5)), []),
 (.o 38 (.move (.t 7)), []),
 (.o 39 (.slice 2 (.t 37) none (some (.t 38)) none), [37, 38]),
 (.o 40 (.append 24 2 (.t 36) (.t 39)), [36, 39]),
 (.o 8 (.move (.t 40)), [40])])
 (.regionK false [
 (.o 41 (.move (.t 8)), [8]),
 (.o 42 (.move (.t 5)), []),
 (.o 43 (.move (.t 7)), [7]),
 (.o 44 (.bin .add (.t 43) (.i 1)), [43]),
 (.o 45 (.slice 2 (.t 42) (some (.t 44)) none none), [42, 44]),
 (.o 46 (.append 24 2 (.t 41) (.t 45)), [41, 45]),
 (.o 5 (.move (.t 46)), [46])])))))))

@[irreducible] def a14_l1 : ACode :=
  (.seq (.seq (.regionK false [
 (.o 14 (.move (.t 6)), []),
 (.o 15 (.move (.t 1)), []),
 (.o 16 (.len (.t 15)), [15]),
 (.o 17 (.bin .lss (.t 14) (.t 16)), [14, 16])])
 (.cond (.t 17)
 .skip
 (.ghost (.forget [1, 6, 17]) (.ghost .lower (.exit 0)))))
 (.seq (.block 1
 (.seq (.regionK false [
 (.o 20 (.move (.t 1)), [17]),
 (.o 21 (.move (.t 6)), []),
 (.o 22 (.indexAddr 1 (.t 20) (.t 21)), [20, 21]),
 (.o 23 (.load none (.t 22)), [22]),
 (.o 24 (.call false 31 [.t 23]), [23])])
 (.cond (.t 24)
 (.regionK false [
 (.o 25 (.move (.t 5)), [24]),
 (.o 26 (.move (.t 1)), []),
 (.o 27 (.move (.t 6)), []),
 (.o 28 (.indexAddr 1 (.t 26) (.t 27)), [26, 27]),
 (.o 29 (.load none (.t 28)), [28]),
 (.o 30 (.call false 32 [.t 25, .t 29]), [25, 29]),
 (.o 5 (.move (.t 30)), [30])])
 .skip)))
 (.regionK false [
 (.o 18 (.move (.t 6)), [24]),
 (.o 19 (.bin .add (.t 18) (.i 1)), [18]),
 (.o 6 (.move (.t 19)), [19])])))

def a14 : AFunc := ⟨48, 2, [.tmp 4],
  (.seq (.regionK false [
 (.o 4 (.move (.c (.p (.slice true [])))), [4])])
 (.seq (.seq (.regionK false [
 (.o 9 (.move (.t 0)), []),
 (.o 10 (.call false 17 [.t 9]), [9]),
 (.o 11 (.un .not (.t 10)), [10])])
 (.cond (.t 11)
 (.seq (.regionK false [
 (.o 4 (.move (.c (.p (.slice true [])))), [0, 1, 11])])
 .ret)
 .skip))
 (.seq (.regionK false [
 (.o 12 (.move (.t 0)), [0, 11]),
 (.o 13 (.append 24 2 (.c (.p (.slice true []))) (.t 12)), [12]),
 (.o 5 (.move (.t 13)), [13])])
 (.seq (.seq (.regionK false [
 (.o 6 (.move (.i 0)), [])])
 (.block 0
 (.loop
 (.ghost (.pure [5]) (.ghost .reset a14_l1)))))
 (.seq (.block 2
 (.loop
 (.ghost (.pure [5]) (.ghost .reset a14_l0))))
 (.seq (.regionK false [
 (.o 47 (.move (.t 5)), [5]),
 (.o 4 (.move (.t 47)), [47])])
 .ret))))))⟩

/-- clockwork/clockworkref34.Decay -/
@[irreducible] def a15_l0 : ACode :=
  (.seq (.seq (.regionK false [
 (.o 8 (.move (.t 4)), []),
 (.o 9 (.move (.t 0)), []),
 (.o 10 (.len (.t 9)), [9]),
 (.o 11 (.bin .lss (.t 8) (.t 10)), [8, 10])])
 (.cond (.t 11)
 .skip
 (.ghost (.forget [0, 4, 11]) (.ghost .lower (.exit 0)))))
 (.seq (.block 1
 (.seq (.regionK false [
 (.o 14 (.move (.t 0)), [11]),
 (.o 15 (.move (.t 4)), []),
 (.o 16 (.indexAddr 2 (.t 14) (.t 15)), [14, 15]),
 (.o 17 (.fieldAddr 1 (.t 16)), [16]),
 (.o 18 (.load none (.t 17)), [17]),
 (.o 19 (.bin .geq (.t 18) (.i 2)), [18])])
 (.cond (.t 19)
 (.regionK true [
 (.o 20 (.move (.t 3)), [19]),
 (.o 21 (.move (.t 0)), []),
 (.o 22 (.move (.t 4)), []),
 (⟨some 23, .indexAddr 2 (.t 21) (.t 22), none, [1, 2]⟩, [21, 22]),
 (⟨some 24, .fieldAddr 0 (.t 23), none, [1, 2, 3]⟩, [23]),
 (⟨some 25, .load none (.t 24), none, [1, 2, 3, 4]⟩, [24]),
 (.o 26 (.move (.t 0)), []),
 (.o 27 (.move (.t 4)), []),
 (⟨some 28, .indexAddr 2 (.t 26) (.t 27), none, [6, 7]⟩, [26, 27]),
 (⟨some 29, .fieldAddr 1 (.t 28), none, [6, 7, 8]⟩, [28]),
 (⟨some 30, .load none (.t 29), none, [6, 7, 8, 9]⟩, [29]),
 (⟨some 31, .bin .quo (.t 30) (.i 2), none, [6, 7, 8, 9, 10]⟩, [30]),
 (⟨some 32, .build [.str ⟨#[]⟩, .int .i64 0] [(0, 1, .t 25), (1, 1, .t 31)], none, [1, 2, 3, 4, 5, 6, 7, 8, 9, 10, 11]⟩, [25, 31]),
 (⟨some 33, .buildSlice [.str ⟨#[]⟩, .int .i64 0] 1 [(0, .t 32)], none, [1, 2, 3, 4, 5, 6, 7, 8, 9, 10, 11, 12]⟩, [32]),
 (⟨some 34, .append 24 2 (.t 20) (.t 33), none, [0, 1, 2, 3, 4, 5, 6, 7, 8, 9, 10, 11, 12, 13]⟩, [20, 33]),
 (⟨some 3, .move (.t 34), none, [0, 1, 2, 3, 4, 5, 6, 7, 8, 9, 10, 11, 12, 13, 14]⟩, [34])])
 .skip)))
 (.regionK false [
 (.o 12 (.move (.t 4)), [19]),
 (.o 13 (.bin .add (.t 12) (.i 1)), [12]),
 (.o 4 (.move (.t 13)), [13])])))

def a15 : AFunc := ⟨36, 1, [.tmp 2],
  (.seq (.regionK false [
 (.o 2 (.move (.c (.p (.slice true [])))), [2])])
 (.seq (.seq (.regionK false [
 (.o 5 (.move (.t 0)), []),
 (.o 6 (.call false 17 [.t 5]), [5]),
 (.o 7 (.un .not (.t 6)), [6])])
 (.cond (.t 7)
 (.seq (.regionK false [
 (.o 2 (.move (.c (.p (.slice true [])))), [0, 7])])
 .ret)
 .skip))
 (.seq (.regionK false [
 (.o 3 (.move (.c (.p (.slice true [])))), [7])])
 (.ghost (.own 2 3) (.seq (.seq (.regionK false [
 (.o 4 (.move (.i 0)), [])])
 (.block 0
 (.loop
 (.ghost .lower a15_l0))))
 (.seq (.regionK false [
 (.o 35 (.move (.t 3)), [3]),
 (.o 2 (.move (.t 35)), [35])])
 .ret))))))⟩

/-- clockwork/clockworkref34.Batch -/
@[irreducible] def a16_l0 : ACode :=
  (.seq (.seq (.regionK false [
 (.o 10 (.move (.t 6)), []),
 (.o 11 (.move (.t 1)), []),
 (.o 12 (.len (.t 11)), [11]),
 (.o 13 (.bin .lss (.t 10) (.t 12)), [10, 12])])
 (.cond (.t 13)
 .skip
 (.ghost (.forget [1, 6, 13]) (.ghost .lower (.exit 0)))))
 (.seq (.block 1
 (.seq (.regionK false [
 (.o 16 (.move (.t 1)), [13]),
 (.o 17 (.move (.t 6)), []),
 (.o 18 (.indexAddr 3 (.t 16) (.t 17)), [16, 17]),
 (.o 19 (.fieldAddr 0 (.t 18)), [18]),
 (.o 20 (.load none (.t 19)), [19]),
 (.o 21 (.un .not (.t 20)), [20]),
 (.o 22 (.move (.t 21)), [21]),
 (⟨some 23, .move (.t 1), some (22, true), []⟩, []),
 (⟨some 24, .move (.t 6), some (22, true), []⟩, []),
 (⟨some 25, .indexAddr 3 (.t 23) (.t 24), some (22, true), []⟩, [23, 24]),
 (⟨some 26, .load (some 3) (.t 25), some (22, true), []⟩, [25]),
 (⟨some 27, .call false 34 [.t 26], some (22, true), []⟩, [26]),
 (.o 28 (.pick (.t 22) (.t 27) (.b false)), [22, 27])])
 (.cond (.t 28)
 (.regionK false [
 (.o 29 (.move (.t 5)), [28]),
 (.o 30 (.move (.t 1)), []),
 (.o 31 (.move (.t 6)), []),
 (.o 32 (.indexAddr 3 (.t 30) (.t 31)), [30, 31]),
 (.o 33 (.load (some 3) (.t 32)), [32]),
 (.o 34 (.call false 35 [.t 33]), [33]),
 (.o 35 (.append 16 1 (.t 29) (.t 34)), [29, 34]),
 (.o 5 (.move (.t 35)), [35])])
 .skip)))
 (.regionK false [
 (.o 14 (.move (.t 6)), [28]),
 (.o 15 (.bin .add (.t 14) (.i 1)), [14]),
 (.o 6 (.move (.t 15)), [15])])))

def a16 : AFunc := ⟨40, 2, [.tmp 4],
  (.seq (.regionK false [
 (.o 4 (.move (.c (.p (.slice true [])))), [4])])
 (.seq (.seq (.regionK false [
 (.o 7 (.move (.t 0)), []),
 (.o 8 (.call false 17 [.t 7]), [7]),
 (.o 9 (.un .not (.t 8)), [8])])
 (.cond (.t 9)
 (.seq (.regionK false [
 (.o 4 (.move (.c (.p (.slice true [])))), [0, 1, 9])])
 .ret)
 .skip))
 (.seq (.regionK false [
 (.o 5 (.move (.c (.p (.slice true [])))), [9])])
 (.ghost (.own 1 5) (.seq (.seq (.regionK false [
 (.o 6 (.move (.i 0)), [])])
 (.block 0
 (.loop
 (.ghost .lower a16_l0))))
 (.seq (.regionK false [
 (.o 36 (.move (.t 0)), [0]),
 (.o 37 (.call false 15 [.t 36]), [36]),
 (.o 38 (.move (.t 5)), [5]),
 (.o 39 (.call false 14 [.t 37, .t 38]), [37, 38]),
 (.o 4 (.move (.t 39)), [39])])
 .ret))))))⟩

/-- clockwork/clockworkref34.Valid -/
@[irreducible] def a17_l0 : ACode :=
  (.seq (.seq (.regionK false [
 (.o 4 (.move (.t 3)), []),
 (.o 5 (.move (.t 0)), []),
 (.o 6 (.len (.t 5)), [5]),
 (.o 7 (.bin .lss (.t 4) (.t 6)), [4, 6])])
 (.cond (.t 7)
 .skip
 (.ghost (.forget [3, 7]) (.ghost .lower (.exit 0)))))
 (.seq (.block 1
 (.seq (.regionK true [
 (.o 10 (.move (.t 0)), [7]),
 (.o 11 (.move (.t 3)), []),
 (⟨some 12, .indexAddr 2 (.t 10) (.t 11), none, [0, 1]⟩, [10, 11]),
 (⟨some 13, .fieldAddr 0 (.t 12), none, [0, 1, 2]⟩, [12]),
 (⟨some 14, .load none (.t 13), none, [0, 1, 2, 3]⟩, [13]),
 (⟨some 15, .call false 31 [.t 14], none, [0, 1, 2, 3, 4]⟩, [14]),
 (⟨some 16, .un .not (.t 15), none, [0, 1, 2, 3, 4, 5]⟩, [15]),
 (⟨some 17, .move (.t 16), none, [0, 1, 2, 3, 4, 5, 6]⟩, [16]),
 (⟨some 18, .move (.t 0), some (17, false), [0, 1, 2, 3, 4, 5, 6, 7]⟩, []),
 (⟨some 19, .move (.t 3), some (17, false), [0, 1, 2, 3, 4, 5, 6, 7]⟩, []),
 (⟨some 20, .indexAddr 2 (.t 18) (.t 19), some (17, false), [0, 1, 2, 3, 4, 5, 6, 7, 8, 9]⟩, [18, 19]),
 (⟨some 21, .fieldAddr 1 (.t 20), some (17, false), [0, 1, 2, 3, 4, 5, 6, 7, 8, 9, 10]⟩, [20]),
 (⟨some 22, .load none (.t 21), some (17, false), [0, 1, 2, 3, 4, 5, 6, 7, 8, 9, 10, 11]⟩, [21]),
 (⟨some 23, .bin .lss (.t 22) (.i 1), some (17, false), [0, 1, 2, 3, 4, 5, 6, 7, 8, 9, 10, 11, 12]⟩, [22]),
 (⟨some 24, .pick (.t 17) (.b true) (.t 23), none, [0, 1, 2, 3, 4, 5, 6, 7, 8, 9, 10, 11, 12, 13]⟩, [17, 23]),
 (⟨some 25, .move (.t 24), none, [0, 1, 2, 3, 4, 5, 6, 7, 8, 9, 10, 11, 12, 13, 14]⟩, [24]),
 (⟨some 26, .move (.t 0), some (25, false), [0, 1, 2, 3, 4, 5, 6, 7, 8, 9, 10, 11, 12, 13, 14, 15]⟩, []),
 (⟨some 27, .move (.t 3), some (25, false), [0, 1, 2, 3, 4, 5, 6, 7, 8, 9, 10, 11, 12, 13, 14, 15]⟩, []),
 (⟨some 28, .indexAddr 2 (.t 26) (.t 27), some (25, false), [0, 1, 2, 3, 4, 5, 6, 7, 8, 9, 10, 11, 12, 13, 14, 15, 16, 17]⟩, [26, 27]),
 (⟨some 29, .fieldAddr 1 (.t 28), some (25, false), [0, 1, 2, 3, 4, 5, 6, 7, 8, 9, 10, 11, 12, 13, 14, 15, 16, 17, 18]⟩, [28]),
 (⟨some 30, .load none (.t 29), some (25, false), [0, 1, 2, 3, 4, 5, 6, 7, 8, 9, 10, 11, 12, 13, 14, 15, 16, 17, 18, 19]⟩, [29]),
 (⟨some 31, .bin .gtr (.t 30) (.i 1099511627776), some (25, false), [0, 1, 2, 3, 4, 5, 6, 7, 8, 9, 10, 11, 12, 13, 14, 15, 16, 17, 18, 19, 20]⟩, [30]),
 (⟨some 32, .pick (.t 25) (.b true) (.t 31), none, [0, 1, 2, 3, 4, 5, 6, 7, 8, 9, 10, 11, 12, 13, 14, 15, 16, 17, 18, 19, 20, 21]⟩, [25, 31]),
 (⟨some 33, .move (.t 32), none, [0, 1, 2, 3, 4, 5, 6, 7, 8, 9, 10, 11, 12, 13, 14, 15, 16, 17, 18, 19, 20, 21, 22]⟩, [32]),
 (⟨some 34, .move (.t 3), some (33, false), [0, 1, 2, 3, 4, 5, 6, 7, 8, 9, 10, 11, 12, 13, 14, 15, 16, 17, 18, 19, 20, 21, 22, 23]⟩, []),
 (⟨some 35, .bin .gtr (.t 34) (.i 0), some (33, false), [0, 1, 2, 3, 4, 5, 6, 7, 8, 9, 10, 11, 12, 13, 14, 15, 16, 17, 18, 19, 20, 21, 22, 23, 24]⟩, [34]),
 (⟨some 36, .move (.t 35), some (33, false), [0, 1, 2, 3, 4, 5, 6, 7, 8, 9, 10, 11, 12, 13, 14, 15, 16, 17, 18, 19, 20, 21, 22, 23, 24, 25]⟩, [35]),
 (⟨some 37, .move (.t 0), some (36, true), [0, 1, 2, 3, 4, 5, 6, 7, 8, 9, 10, 11, 12, 13, 14, 15, 16, 17, 18, 19, 20, 21, 22, 23, 24, 25, 26]⟩, []),
 (⟨some 38, .move (.t 3), some (36, true), [0, 1, 2, 3, 4, 5, 6, 7, 8, 9, 10, 11, 12, 13, 14, 15, 16, 17, 18, 19, 20, 21, 22, 23, 24, 25, 26]⟩, []),
 (⟨some 39, .indexAddr 2 (.t 37) (.t 38), some (36, true), [0, 1, 2, 3, 4, 5, 6, 7, 8, 9, 10, 11, 12, 13, 14, 15, 16, 17, 18, 19, 20, 21, 22, 23, 24, 25, 26, 27, 28]⟩, [37, 38]),
 (⟨some 40, .fieldAddr 0 (.t 39), some (36, true), [0, 1, 2, 3, 4, 5, 6, 7, 8, 9, 10, 11, 12, 13, 14, 15, 16, 17, 18, 19, 20, 21, 22, 23, 24, 25, 26, 27, 28, 29]⟩, [39]),
 (⟨some 41, .load none (.t 40), some (36, true), [0, 1, 2, 3, 4, 5, 6, 7, 8, 9, 10, 11, 12, 13, 14, 15, 16, 17, 18, 19, 20, 21, 22, 23, 24, 25, 26, 27, 28, 29, 30]⟩, [40]),
 (⟨some 42, .move (.t 0), some (36, true), [0, 1, 2, 3, 4, 5, 6, 7, 8, 9, 10, 11, 12, 13, 14, 15, 16, 17, 18, 19, 20, 21, 22, 23, 24, 25, 26]⟩, []),
 (⟨some 43, .move (.t 3), some (36, true), [0, 1, 2, 3, 4, 5, 6, 7, 8, 9, 10, 11, 12, 13, 14, 15, 16, 17, 18, 19, 20, 21, 22, 23, 24, 25, 26]⟩, []),
 (⟨some 44, .bin .sub (.t 43) (.i 1), some (36, true), [0, 1, 2, 3, 4, 5, 6, 7, 8, 9, 10, 11, 12, 13, 14, 15, 16, 17, 18, 19, 20, 21, 22, 23, 24, 25, 26, 33]⟩, [43]),
 (⟨some 45, .indexAddr 2 (.t 42) (.t 44), some (36, true), [0, 1, 2, 3, 4, 5, 6, 7, 8, 9, 10, 11, 12, 13, 14, 15, 16, 17, 18, 19, 20, 21, 22, 23, 24, 25, 26, 32, 33, 34]⟩, [42, 44]),
 (⟨some 46, .fieldAddr 0 (.t 45), some (36, true), [0, 1, 2, 3, 4, 5, 6, 7, 8, 9, 10, 11, 12, 13, 14, 15, 16, 17, 18, 19, 20, 21, 22, 23, 24, 25, 26, 32, 33, 34, 35]⟩, [45]),
 (⟨some 47, .load none (.t 46), some (36, true), [0, 1, 2, 3, 4, 5, 6, 7, 8, 9, 10, 11, 12, 13, 14, 15, 16, 17, 18, 19, 20, 21, 22, 23, 24, 25, 26, 32, 33, 34, 35, 36]⟩, [46]),
 (⟨some 48, .bin .leq (.t 41) (.t 47), some (36, true), [0, 1, 2, 3, 4, 5, 6, 7, 8, 9, 10, 11, 12, 13, 14, 15, 16, 17, 18, 19, 20, 21, 22, 23, 24, 25, 26, 27, 28, 29, 30, 31, 32, 33, 34, 35, 36, 37]⟩, [41, 47]),
 (⟨some 49, .pick (.t 36) (.t 48) (.b false), some (33, false), [0, 1, 2, 3, 4, 5, 6, 7, 8, 9, 10, 11, 12, 13, 14, 15, 16, 17, 18, 19, 20, 21, 22, 23, 24, 25, 26, 27, 28, 29, 30, 31, 32, 33, 34, 35, 36, 37, 38]⟩, [36, 48]),
 (⟨some 50, .pick (.t 33) (.b true) (.t 49), none, [0, 1, 2, 3, 4, 5, 6, 7, 8, 9, 10, 11, 12, 13, 14, 15, 16, 17, 18, 19, 20, 21, 22, 23, 24, 25, 26, 27, 28, 29, 30, 31, 32, 33, 34, 35, 36, 37, 38, 39]⟩, [33, 49])])
 (.cond (.t 50)
 (.seq (.regionK false [
 (.o 2 (.move (.b false)), [0, 3, 50])])
 .ret)
 .skip)))
 (.regionK false [
 (.o 8 (.move (.t 3)), [50]),
 (.o 9 (.bin .add (.t 8) (.i 1)), [8]),
 (.o 3 (.move (.t 9)), [9])])))

def a17 : AFunc := ⟨54, 1, [.tmp 2],
  (.seq (.regionK false [
 (.o 2 (.move (.b false)), [2])])
 (.seq (.seq (.regionK false [
 (.o 3 (.move (.i 0)), [])])
 (.block 0
 (.loop
 (.ghost .lower a17_l0))))
 (.seq (.regionK false [
 (.o 51 (.move (.t 0)), [0]),
 (.o 52 (.len (.t 51)), [51]),
 (.o 53 (.bin .leq (.t 52) (.i 32)), [52]),
 (.o 2 (.move (.t 53)), [53])])
 .ret)))⟩

/-- slices.BinarySearchFunc[[]clockwork/api.Heat,clockwork/api.Heat,string] -/
@[irreducible] def a19_l0 : ACode :=
  (.seq (.seq (.regionK false [
 (.o 15 (.move (.t 9)), []),
 (.o 16 (.move (.t 10)), []),
 (.o 17 (.bin .lss (.t 15) (.t 16)), [15, 16])])
 (.cond (.t 17)
 .skip
 (.ghost (.forget [10, 17]) (.ghost .lower (.exit 0)))))
 (.block 1
 (.seq (.regionK false [
 (.o 18 (.move (.t 9)), [17]),
 (.o 19 (.move (.t 10)), []),
 (.o 20 (.bin .add (.t 18) (.t 19)), [18, 19]),
 (.o 21 (.conv .u64 (.t 20)), [20]),
 (.o 22 (.bin .shr (.t 21) (.c (.p (.int .u64 1)))), [21]),
 (.o 23 (.conv .i64 (.t 22)), [22]),
 (.o 11 (.move (.t 23)), [23])])
 (.seq (.regionK false [
 (.o 24 (.move (.t 2)), []),
 (.o 25 (.move (.t 0)), []),
 (.o 26 (.move (.t 11)), []),
 (.o 27 (.indexAddr 2 (.t 25) (.t 26)), [25, 26]),
 (.o 28 (.load (some 2) (.t 27)), [27]),
 (.o 29 (.move (.t 1)), []),
 (.o 30 (.callv false (.t 24) [.t 28, .t 29]), [24, 28, 29]),
 (.o 31 (.bin .lss (.t 30) (.i 0)), [30])])
 (.cond (.t 31)
 (.regionK false [
 (.o 32 (.move (.t 11)), [11, 31]),
 (.o 33 (.bin .add (.t 32) (.i 1)), [32]),
 (.o 9 (.move (.t 33)), [33])])
 (.regionK false [
 (.o 34 (.move (.t 11)), [11, 31]),
 (.o 10 (.move (.t 34)), [34])]))))))

def a19 : AFunc := ⟨49, 3, [.tmp 6, .tmp 7],
  (.seq (.regionK false [
 (.o 6 (.move (.i 0)), [6]),
 (.o 7 (.move (.b false)), [7])])
 (.seq (.regionK false [
 (.o 12 (.move (.t 0)), []),
 (.o 13 (.len (.t 12)), [12]),
 (.o 8 (.move (.t 13)), [13])])
 (.seq (.regionK false [
 (.o 14 (.move (.t 8)), []),
 (.o 9 (.move (.i 0)), []),
 (.o 10 (.move (.t 14)), [14])])
 (.seq (.block 0
 (.loop
 (.ghost .lower a19_l0)))
 (.seq (.regionK false [
 (.o 35 (.move (.t 9)), []),
 (.o 36 (.move (.t 9)), []),
 (.o 37 (.move (.t 8)), [8]),
 (.o 38 (.bin .lss (.t 36) (.t 37)), [36, 37]),
 (.o 39 (.move (.t 38)), [38]),
 (⟨some 40, .move (.t 2), some (39, true), []⟩, [2]),
 (⟨some 41, .move (.t 0), some (39, true), []⟩, [0]),
 (⟨some 42, .move (.t 9), some (39, true), []⟩, [9]),
 (⟨some 43, .indexAddr 2 (.t 41) (.t 42), some (39, true), []⟩, [41, 42]),
 (⟨some 44, .load (some 2) (.t 43), some (39, true), []⟩, [43]),
 (⟨some 45, .move (.t 1), some (39, true), []⟩, [1]),
 (⟨some 46, .callv false (.t 40) [.t 44, .t 45], some (39, true), []⟩, [40, 44, 45]),
 (⟨some 47, .bin .eql (.t 46) (.i 0), some (39, true), []⟩, [46]),
 (.o 48 (.pick (.t 39) (.t 47) (.b false)), [39, 47]),
 (.o 6 (.move (.t 35)), [35]),
 (.o 7 (.move (.t 48)), [48])])
 .ret)))))⟩

/-- clockwork/heat.byKey -/
def a20 : AFunc := ⟨9, 2, [.tmp 4],
  (.seq (.regionK false [
 (.o 2 (.box (.t 0)), [0]),
 (.o 4 (.move (.i 0)), [4])])
 (.seq (.regionK false [
 (.o 5 (.fieldAddr 0 (.t 2)), []),
 (.o 6 (.load none (.t 5)), [5]),
 (.o 7 (.move (.t 1)), [1]),
 (.o 8 (.call false 25 [.t 6, .t 7]), [6, 7]),
 (.o 4 (.move (.t 8)), [8])])
 .ret))⟩

/-- clockwork/heat.hotter -/
def a23 : AFunc := ⟨17, 2, [.tmp 4],
  (.seq (.regionK false [
 (.o 2 (.box (.t 0)), [0]),
 (.o 3 (.box (.t 1)), [1]),
 (.o 4 (.move (.i 0)), [4])])
 (.seq (.regionK true [
 (.o 5 (.fieldAddr 1 (.t 3)), []),
 (⟨some 6, .load none (.t 5), none, [0]⟩, [5]),
 (.o 7 (.fieldAddr 1 (.t 2)), []),
 (⟨some 8, .load none (.t 7), none, [2]⟩, [7]),
 (⟨some 9, .call false 41 [.t 6, .t 8], none, [0, 1, 2, 3]⟩, [6, 8]),
 (.o 10 (.fieldAddr 0 (.t 2)), []),
 (⟨some 11, .load none (.t 10), none, [5]⟩, [10]),
 (.o 12 (.fieldAddr 0 (.t 3)), []),
 (⟨some 13, .load none (.t 12), none, [7]⟩, [12]),
 (⟨some 14, .call false 25 [.t 11, .t 13], none, [0, 1, 2, 3, 4, 5, 6, 7, 8]⟩, [11, 13]),
 (⟨some 15, .buildSlice [.int .i64 0] 2 [(0, .t 9), (1, .t 14)], none, [0, 1, 2, 3, 4, 5, 6, 7, 8, 9]⟩, [9, 14]),
 (⟨some 16, .call false 40 [.t 15], none, [0, 1, 2, 3, 4, 5, 6, 7, 8, 9, 10]⟩, [15]),
 (⟨some 4, .move (.t 16), none, [0, 1, 2, 3, 4, 5, 6, 7, 8, 9, 10, 11]⟩, [16])])
 .ret))⟩

/-- clockwork/heat.Touch$1 -/
def a24 : AFunc := ⟨10, 2, [.tmp 4],
  (.seq (.regionK false [
 (.o 2 (.box (.t 0)), [0]),
 (.o 3 (.box (.t 1)), [1]),
 (.o 4 (.move (.i 0)), [4])])
 (.seq (.regionK false [
 (.o 5 (.fieldAddr 0 (.t 2)), []),
 (.o 6 (.load none (.t 5)), [5]),
 (.o 7 (.fieldAddr 0 (.t 3)), []),
 (.o 8 (.load none (.t 7)), [7]),
 (.o 9 (.call false 25 [.t 6, .t 8]), [6, 8]),
 (.o 4 (.move (.t 9)), [9])])
 .ret))⟩

/-- clockwork/heat.convert[clockwork/api.Heat,clockwork/api.Heat] -/
@[irreducible] def a26_l0 : ACode :=
  (.seq (.regionK false [
 (.o 13 (.bin .lss (.t 12) (.t 11)), [])])
 (.seq (.cond (.t 13)
 .skip
 (.ghost (.forget [1, 10, 11, 12, 13]) (.ghost .lower (.exit 0))))
 (.seq (.block 1
 (.seq (.regionK false [
 (.o 14 (.indexAddr 2 (.t 10) (.t 12)), [13]),
 (.o 15 (.load (some 2) (.t 14)), [14]),
 (.o 7 (.alloc [.str ⟨#[]⟩, .int .i64 0]), []),
 (.u (.store 2 (.t 7) (.t 15)), [15])])
 (.seq (.regionK false [
 (.o 17 (.move (.t 1)), []),
 (.o 18 (.load (some 2) (.t 7)), []),
 (.o 19 (.callv false (.t 17) [.t 18]), [17, 18]),
 (.o 16 (.move (.t 19)), [19]),
 (.o 20 (.extract (.t 16) 0), []),
 (.o 21 (.extract (.t 16) 1), [16]),
 (.o 8 (.alloc [.str ⟨#[]⟩, .int .i64 0]), []),
 (.u (.store 2 (.t 8) (.t 20)), [20]),
 (.o 9 (.move (.t 21)), [21])])
 (.seq (.regionK false [
 (.o 22 (.move (.t 9)), [9])])
 (.cond (.t 22)
 (.regionK false [
 (.o 23 (.move (.t 5)), [22]),
 (.o 24 (.load (some 2) (.t 8)), []),
 (.o 25 (.buildSlice [.str ⟨#[]⟩, .int .i64 0] 1 [(0, .t 24)]), [24]),
 (.o 26 (.append 24 2 (.t 23) (.t 25)), [23, 25]),
 (.o 5 (.move (.t 26)), [26])])
 .skip)))))
 (.regionK false [
 (.o 27 (.bin .add (.t 12) (.i 1)), [22]),
 (.o 12 (.move (.t 27)), [27])]))))

def a26 : AFunc := ⟨29, 2, [.tmp 4],
  (.seq (.regionK false [
 (.o 4 (.move (.c (.p (.slice true [])))), [4])])
 (.seq (.regionK false [
 (.o 5 (.move (.c (.p (.slice true [])))), [])])
 (.ghost (.own 2 5) (.seq (.seq (.regionK false [
 (.o 10 (.move (.t 0)), [0]),
 (.o 11 (.len (.t 10)), []),
 (.o 12 (.move (.i 0)), [])])
 (.block 0
 (.loop
 (.ghost (.free [7, 8]) (.ghost .lower a26_l0)))))
 (.seq (.regionK false [
 (.o 28 (.move (.t 5)), [5]),
 (.o 4 (.move (.t 28)), [28])])
 .ret)))))⟩

/-- clockwork/heat.Decay$1 -/
def a27 : AFunc := ⟨13, 1, [.cell 2 2, .tmp 3],
  (.seq (.regionK false [
 (.o 1 (.box (.t 0)), [0]),
 (.o 2 (.alloc [.str ⟨#[]⟩, .int .i64 0]), []),
 (.o 3 (.move (.b false)), [3])])
 (.seq (.regionS [(6, 9), (7, 9)] [
 .o 4 (.fieldAddr 0 (.t 1)),
 ⟨some 5, .load none (.t 4), none, [0]⟩,
 .o 6 (.fieldAddr 1 (.t 1)),
 ⟨some 7, .load none (.t 6), none, [2]⟩,
 ⟨some 8, .bin .quo (.t 7) (.i 2), none, [2, 3]⟩,
 ⟨some 9, .build [.str ⟨#[]⟩, .int .i64 0] [(0, 1, .t 5), (1, 1, .t 8)], none, [0, 1, 2, 3, 4]⟩,
 .o 10 (.fieldAddr 1 (.t 1)),
 ⟨some 11, .load none (.t 10), none, [6]⟩,
 ⟨some 12, .bin .geq (.t 11) (.i 2), none, [6, 7]⟩,
 ⟨none, .store 2 (.t 2) (.t 9), none, [0, 1, 2, 3, 4, 5]⟩,
 ⟨some 3, .move (.t 12), none, [0, 1, 2, 3, 4, 5, 6, 7, 8, 9]⟩] [4, 5, 6, 7, 8, 9, 10, 11, 12])
 .ret))⟩

/-- clockwork/footprint.Keys -/
def a28 : AFunc := ⟨12, 1, [.tmp 2],
  (.seq (.regionK false [
 (.o 1 (.box (.t 0)), [0]),
 (.o 2 (.move (.c (.p (.slice true [])))), [2])])
 (.seq (.seq (.regionK false [
 (.o 3 (.load (some 3) (.t 1)), []),
 (.o 4 (.call false 43 [.t 3]), [3]),
 (.o 5 (.un .not (.t 4)), [4])])
 (.cond (.t 5)
 (.seq (.regionK false [
 (.o 2 (.move (.c (.p (.slice true [])))), [5])])
 .ret)
 .skip))
 (.seq (.regionK false [
 (.o 6 (.fieldAddr 1 (.t 1)), [5]),
 (.o 7 (.load none (.t 6)), [6]),
 (.o 8 (.fieldAddr 2 (.t 1)), []),
 (.o 9 (.load none (.t 8)), [8]),
 (.o 10 (.buildSlice [.slice true []] 2 [(0, .t 7), (1, .t 9)]), [7, 9]),
 (.o 11 (.call false 44 [.t 10]), [10]),
 (.o 2 (.move (.t 11)), [11])])
 .ret)))⟩

/-- clockwork/keys.consists -/
@[irreducible] def a29_l0 : ACode :=
  (.seq (.regionK false [
 (.o 12 (.bin .lss (.t 11) (.t 10)), [])])
 (.seq (.cond (.t 12)
 .skip
 (.ghost (.forget [0, 1, 10, 11, 12]) (.ghost .lower (.exit 0))))
 (.seq (.block 1
 (.seq (.regionK false [
 (.o 13 (.move (.t 11)), [12]),
 (.o 5 (.move (.t 13)), [13])])
 (.seq (.regionK false [
 (.o 14 (.move (.t 1)), []),
 (.o 15 (.move (.t 0)), []),
 (.o 16 (.move (.t 5)), [5]),
 (.o 17 (.index (.t 15) (.t 16)), [15, 16]),
 (.o 18 (.callv false (.t 14) [.t 17]), [14, 17]),
 (.o 19 (.un .not (.t 18)), [18])])
 (.cond (.t 19)
 (.seq (.regionK false [
 (.o 4 (.move (.b false)), [0, 1, 10, 11, 19])])
 .ret)
 .skip))))
 (.regionK false [
 (.o 20 (.bin .add (.t 11) (.i 1)), [19]),
 (.o 11 (.move (.t 20)), [20])]))))

def a29 : AFunc := ⟨21, 2, [.tmp 4],
  (.seq (.regionK false [
 (.o 4 (.move (.b false)), [4])])
 (.seq (.seq (.regionK false [
 (.o 6 (.move (.t 0)), []),
 (.o 7 (.lenS (.t 6)), [6]),
 (.o 8 (.bin .gtr (.t 7) (.i 24)), [7])])
 (.cond (.t 8)
 (.seq (.regionK false [
 (.o 4 (.move (.b false)), [0, 1, 8])])
 .ret)
 .skip))
 (.seq (.seq (.regionK false [
 (.o 9 (.move (.t 0)), [8]),
 (.o 10 (.lenS (.t 9)), [9]),
 (.o 11 (.move (.i 0)), [])])
 (.block 0
 (.loop
 (.ghost .lower a29_l0))))
 (.seq (.regionK false [
 (.o 4 (.move (.b true)), [])])
 .ret))))⟩

/-- clockwork/keys.Valid$1 -/
def a30 : AFunc := ⟨33, 1, [.tmp 2],
  (.seq (.regionK false [
 (.o 2 (.move (.b false)), [2])])
 (.seq (.regionK false [
 (.o 3 (.move (.t 0)), []),
 (.o 4 (.bin .geq (.t 3) (.c (.p (.int .u8 97)))), [3]),
 (.o 5 (.move (.t 4)), [4]),
 (⟨some 6, .move (.t 0), some (5, true), []⟩, []),
 (⟨some 7, .bin .leq (.t 6) (.c (.p (.int .u8 122))), some (5, true), []⟩, [6]),
 (.o 8 (.pick (.t 5) (.t 7) (.b false)), [5, 7]),
 (.o 9 (.move (.t 8)), [8]),
 (⟨some 10, .move (.t 0), some (9, false), []⟩, []),
 (⟨some 11, .bin .geq (.t 10) (.c (.p (.int .u8 48))), some (9, false), []⟩, [10]),
 (⟨some 12, .move (.t 11), some (9, false), []⟩, [11]),
 (⟨some 13, .move (.t 0), some (12, true), []⟩, []),
 (⟨some 14, .bin .leq (.t 13) (.c (.p (.int .u8 57))), some (12, true), []⟩, [13]),
 (⟨some 15, .pick (.t 12) (.t 14) (.b false), some (9, false), []⟩, [12, 14]),
 (.o 16 (.pick (.t 9) (.b true) (.t 15)), [9, 15]),
 (.o 17 (.move (.t 16)), [16]),
 (⟨some 18, .move (.t 0), some (17, false), []⟩, []),
 (⟨some 19, .bin .eql (.t 18) (.c (.p (.int .u8 47))), some (17, false), []⟩, [18]),
 (.o 20 (.pick (.t 17) (.b true) (.t 19)), [17, 19]),
 (.o 21 (.move (.t 20)), [20]),
 (⟨some 22, .move (.t 0), some (21, false), []⟩, []),
 (⟨some 23, .bin .eql (.t 22) (.c (.p (.int .u8 46))), some (21, false), []⟩, [22]),
 (.o 24 (.pick (.t 21) (.b true) (.t 23)), [21, 23]),
 (.o 25 (.move (.t 24)), [24]),
 (⟨some 26, .move (.t 0), some (25, false), []⟩, []),
 (⟨some 27, .bin .eql (.t 26) (.c (.p (.int .u8 95))), some (25, false), []⟩, [26]),
 (.o 28 (.pick (.t 25) (.b true) (.t 27)), [25, 27]),
 (.o 29 (.move (.t 28)), [28]),
 (⟨some 30, .move (.t 0), some (29, false), []⟩, [0]),
 (⟨some 31, .bin .eql (.t 30) (.c (.p (.int .u8 45))), some (29, false), []⟩, [30]),
 (.o 32 (.pick (.t 29) (.b true) (.t 31)), [29, 31]),
 (.o 2 (.move (.t 32)), [32])])
 .ret))⟩

/-- clockwork/clockworkref04.Valid -/
@[irreducible] def a31_l0 : ACode :=
  (.seq (.seq (.regionK false [
 (.o 5 (.move (.t 3)), []),
 (.o 6 (.move (.t 0)), []),
 (.o 7 (.lenS (.t 6)), [6]),
 (.o 8 (.bin .lss (.t 5) (.t 7)), [5, 7])])
 (.cond (.t 8)
 .skip
 (.ghost (.forget [3, 8]) (.ghost .lower (.exit 0)))))
 (.seq (.block 1
 (.seq (.regionK false [
 (.o 11 (.move (.t 0)), [8]),
 (.o 12 (.move (.t 3)), []),
 (.o 13 (.index (.t 11) (.t 12)), [11, 12]),
 (.o 4 (.move (.t 13)), [13])])
 (.seq (.regionK false [
 (.o 14 (.move (.t 4)), []),
 (.o 15 (.bin .lss (.t 14) (.c (.p (.int .u8 97)))), [14]),
 (.o 16 (.move (.t 15)), [15]),
 (⟨some 17, .move (.t 4), some (16, false), []⟩, []),
 (⟨some 18, .bin .gtr (.t 17) (.c (.p (.int .u8 122))), some (16, false), []⟩, [17]),
 (.o 19 (.pick (.t 16) (.b true) (.t 18)), [16, 18]),
 (.o 20 (.move (.t 19)), [19]),
 (⟨some 21, .move (.t 4), some (20, true), []⟩, []),
 (⟨some 22, .bin .lss (.t 21) (.c (.p (.int .u8 48))), some (20, true), []⟩, [21]),
 (⟨some 23, .move (.t 22), some (20, true), []⟩, [22]),
 (⟨some 24, .move (.t 4), some (23, false), []⟩, []),
 (⟨some 25, .bin .gtr (.t 24) (.c (.p (.int .u8 57))), some (23, false), []⟩, [24]),
 (⟨some 26, .pick (.t 23) (.b true) (.t 25), some (20, true), []⟩, [23, 25]),
 (.o 27 (.pick (.t 20) (.t 26) (.b false)), [20, 26]),
 (.o 28 (.move (.t 27)), [27]),
 (⟨some 29, .move (.t 4), some (28, true), []⟩, []),
 (⟨some 30, .bin .neq (.t 29) (.c (.p (.int .u8 47))), some (28, true), []⟩, [29]),
 (.o 31 (.pick (.t 28) (.t 30) (.b false)), [28, 30]),
 (.o 32 (.move (.t 31)), [31]),
 (⟨some 33, .move (.t 4), some (32, true), []⟩, []),
 (⟨some 34, .bin .neq (.t 33) (.c (.p (.int .u8 46))), some (32, true), []⟩, [33]),
 (.o 35 (.pick (.t 32) (.t 34) (.b false)), [32, 34]),
 (.o 36 (.move (.t 35)), [35]),
 (⟨some 37, .move (.t 4), some (36, true), []⟩, []),
 (⟨some 38, .bin .neq (.t 37) (.c (.p (.int .u8 95))), some (36, true), []⟩, [37]),
 (.o 39 (.pick (.t 36) (.t 38) (.b false)), [36, 38]),
 (.o 40 (.move (.t 39)), [39]),
 (⟨some 41, .move (.t 4), some (40, true), []⟩, [4]),
 (⟨some 42, .bin .neq (.t 41) (.c (.p (.int .u8 45))), some (40, true), []⟩, [41]),
 (.o 43 (.pick (.t 40) (.t 42) (.b false)), [40, 42])])
 (.cond (.t 43)
 (.seq (.regionK false [
 (.o 2 (.move (.b false)), [0, 3, 43])])
 .ret)
 .skip))))
 (.regionK false [
 (.o 9 (.move (.t 3)), [43]),
 (.o 10 (.bin .add (.t 9) (.i 1)), [9]),
 (.o 3 (.move (.t 10)), [10])])))

def a31 : AFunc := ⟨52, 1, [.tmp 2],
  (.seq (.regionK false [
 (.o 2 (.move (.b false)), [2])])
 (.seq (.seq (.regionK false [
 (.o 3 (.move (.i 0)), [])])
 (.block 0
 (.loop
 (.ghost .lower a31_l0))))
 (.seq (.regionK false [
 (.o 44 (.move (.t 0)), []),
 (.o 45 (.lenS (.t 44)), [44]),
 (.o 46 (.bin .geq (.t 45) (.i 1)), [45]),
 (.o 47 (.move (.t 46)), [46]),
 (⟨some 48, .move (.t 0), some (47, true), []⟩, [0]),
 (⟨some 49, .lenS (.t 48), some (47, true), []⟩, [48]),
 (⟨some 50, .bin .leq (.t 49) (.i 24), some (47, true), []⟩, [49]),
 (.o 51 (.pick (.t 47) (.t 50) (.b false)), [47, 50]),
 (.o 2 (.move (.t 51)), [51])])
 .ret)))⟩

/-- clockwork/clockworkref34.add -/
@[irreducible] def a32_l0 : ACode :=
  (.seq (.seq (.regionK false [
 (.o 9 (.move (.t 5)), []),
 (.o 10 (.move (.t 0)), []),
 (.o 11 (.len (.t 10)), [10]),
 (.o 12 (.bin .lss (.t 9) (.t 11)), [9, 11]),
 (.o 13 (.move (.t 12)), [12]),
 (⟨some 14, .move (.t 0), some (13, true), []⟩, []),
 (⟨some 15, .move (.t 5), some (13, true), []⟩, []),
 (⟨some 16, .indexAddr 2 (.t 14) (.t 15), some (13, true), []⟩, [14, 15]),
 (⟨some 17, .fieldAddr 0 (.t 16), some (13, true), []⟩, [16]),
 (⟨some 18, .load none (.t 17), some (13, true), []⟩, [17]),
 (⟨some 19, .move (.t 1), some (13, true), []⟩, []),
 (⟨some 20, .bin .lss (.t 18) (.t 19), some (13, true), []⟩, [18, 19]),
 (.o 21 (.pick (.t 13) (.t 20) (.b false)), [13, 20])])
 (.cond (.t 21)
 .skip
 (.ghost (.forget [21]) (.ghost .lower (.exit 0)))))
 (.block 1
 (.regionK false [
 (.o 22 (.move (.t 5)), [21]),
 (.o 23 (.bin .add (.t 22) (.i 1)), [22]),
 (.o 5 (.move (.t 23)), [23])])))

def a32 : AFunc := ⟨63, 2, [.tmp 4],
  (.seq (.regionK false [
 (.o 4 (.move (.c (.p (.slice true [])))), [4])])
 (.seq (.regionK false [
 (.o 5 (.move (.i 0)), [])])
 (.seq (.block 0
 (.loop
 (.ghost .lower a32_l0)))
 (.seq (.regionK false [
 (.o 24 (.move (.t 5)), []),
 (.o 6 (.move (.i 0)), []),
 (.o 7 (.move (.t 24)), [24])])
 (.seq (.seq (.regionK false [
 (.o 25 (.move (.t 5)), []),
 (.o 26 (.move (.t 0)), []),
 (.o 27 (.len (.t 26)), [26]),
 (.o 28 (.bin .lss (.t 25) (.t 27)), [25, 27]),
 (.o 29 (.move (.t 28)), [28]),
 (⟨some 30, .move (.t 0), some (29, true), []⟩, []),
 (⟨some 31, .move (.t 5), some (29, true), []⟩, []),
 (⟨some 32, .indexAddr 2 (.t 30) (.t 31), some (29, true), []⟩, [30, 31]),
 (⟨some 33, .fieldAddr 0 (.t 32), some (29, true), []⟩, [32]),
 (⟨some 34, .load none (.t 33), some (29, true), []⟩, [33]),
 (⟨some 35, .move (.t 1), some (29, true), []⟩, []),
 (⟨some 36, .bin .eql (.t 34) (.t 35), some (29, true), []⟩, [34, 35]),
 (.o 37 (.pick (.t 29) (.t 36) (.b false)), [29, 36])])
 (.cond (.t 37)
 (.seq (.regionK false [
 (.o 38 (.move (.t 0)), [7, 37]),
 (.o 39 (.move (.t 5)), []),
 (.o 40 (.indexAddr 2 (.t 38) (.t 39)), [38, 39]),
 (.o 41 (.fieldAddr 1 (.t 40)), [40]),
 (.o 42 (.load none (.t 41)), [41]),
 (.o 6 (.move (.t 42)), [42])])
 (.regionK false [
 (.o 43 (.move (.t 5)), []),
 (.o 44 (.bin .add (.t 43) (.i 1)), [43]),
 (.o 7 (.move (.t 44)), [44])]))
 .skip))
 (.seq (.regionK false [
 (.o 8 (.move (.c (.p (.slice true [])))), [37])])
 (.seq (.regionK false [
 (.o 45 (.move (.t 8)), []),
 (.o 46 (.move (.t 0)), []),
 (.o 47 (.move (.t 5)), [5]),
 (.o 48 (.slice 2 (.t 46) none (some (.t 47)) none), [46, 47]),
 (.o 49 (.append 24 2 (.t 45) (.t 48)), [45, 48]),
 (.o 8 (.move (.t 49)), [49])])
 (.seq (.regionK false [
 (.o 50 (.move (.t 8)), []),
 (.o 51 (.move (.t 1)), [1]),
 (.o 52 (.move (.t 6)), [6]),
 (.o 53 (.bin .add (.t 52) (.i 1)), [52]),
 (.o 54 (.minmax false (.i 1099511627776) [.t 53]), [53]),
 (.o 55 (.build [.str ⟨#[]⟩, .int .i64 0] [(0, 1, .t 51), (1, 1, .t 54)]), [51, 54]),
 (.o 56 (.buildSlice [.str ⟨#[]⟩, .int .i64 0] 1 [(0, .t 55)]), [55]),
 (.o 57 (.append 24 2 (.t 50) (.t 56)), [50, 56]),
 (.o 8 (.move (.t 57)), [57])])
 (.seq (.regionK false [
 (.o 58 (.move (.t 8)), [8]),
 (.o 59 (.move (.t 0)), [0]),
 (.o 60 (.move (.t 7)), [7]),
 (.o 61 (.slice 2 (.t 59) (some (.t 60)) none none), [59, 60]),
 (.o 62 (.append 24 2 (.t 58) (.t 61)), [58, 61]),
 (.o 4 (.move (.t 62)), [62])])
 .ret)))))))))⟩

/-- clockwork/clockworkref34.coldest -/
@[irreducible] def a33_l0 : ACode :=
  (.seq (.seq (.regionK false [
 (.o 5 (.move (.t 4)), []),
 (.o 6 (.move (.t 0)), []),
 (.o 7 (.len (.t 6)), [6]),
 (.o 8 (.bin .lss (.t 5) (.t 7)), [5, 7])])
 (.cond (.t 8)
 .skip
 (.ghost (.forget [0, 4, 8]) (.ghost .lower (.exit 0)))))
 (.seq (.block 1
 (.seq (.regionK true [
 (.o 11 (.move (.t 0)), [8]),
 (.o 12 (.move (.t 4)), []),
 (⟨some 13, .indexAddr 2 (.t 11) (.t 12), none, [0, 1]⟩, [11, 12]),
 (⟨some 14, .fieldAddr 1 (.t 13), none, [0, 1, 2]⟩, [13]),
 (⟨some 15, .load none (.t 14), none, [0, 1, 2, 3]⟩, [14]),
 (.o 16 (.move (.t 0)), []),
 (.o 17 (.move (.t 3)), []),
 (⟨some 18, .indexAddr 2 (.t 16) (.t 17), none, [5, 6]⟩, [16, 17]),
 (⟨some 19, .fieldAddr 1 (.t 18), none, [5, 6, 7]⟩, [18]),
 (⟨some 20, .load none (.t 19), none, [5, 6, 7, 8]⟩, [19]),
 (⟨some 21, .bin .leq (.t 15) (.t 20), none, [0, 1, 2, 3, 4, 5, 6, 7, 8, 9]⟩, [15, 20])])
 (.cond (.t 21)
 (.regionK false [
 (.o 22 (.move (.t 4)), [21]),
 (.o 3 (.move (.t 22)), [22])])
 .skip)))
 (.regionK false [
 (.o 9 (.move (.t 4)), [21]),
 (.o 10 (.bin .add (.t 9) (.i 1)), [9]),
 (.o 4 (.move (.t 10)), [10])])))

def a33 : AFunc := ⟨24, 1, [.tmp 2],
  (.seq (.regionK false [
 (.o 2 (.move (.i 0)), [2])])
 (.seq (.regionK false [
 (.o 3 (.move (.i 0)), [])])
 (.seq (.seq (.regionK false [
 (.o 4 (.move (.i 0)), [])])
 (.block 0
 (.loop
 (.ghost .lower a33_l0))))
 (.seq (.regionK false [
 (.o 23 (.move (.t 3)), [3]),
 (.o 2 (.move (.t 23)), [23])])
 .ret))))⟩

/-- clockwork/clockworkref19.Valid -/
def a34 : AFunc := ⟨35, 1, [.tmp 2],
  (.seq (.regionK false [
 (.o 1 (.box (.t 0)), [0]),
 (.o 2 (.move (.b false)), [2])])
 (.seq (.seq (.regionK false [
 (.o 3 (.fieldAddr 0 (.t 1)), []),
 (.o 4 (.load none (.t 3)), [3])])
 (.cond (.t 4)
 (.seq (.regionK false [
 (.o 5 (.fieldAddr 1 (.t 1)), [4]),
 (.o 6 (.load none (.t 5)), [5]),
 (.o 7 (.len (.t 6)), [6]),
 (.o 8 (.bin .eql (.t 7) (.i 0)), [7]),
 (.o 9 (.move (.t 8)), [8]),
 (⟨some 10, .fieldAddr 2 (.t 1), some (9, true), []⟩, []),
 (⟨some 11, .load none (.t 10), some (9, true), []⟩, [10]),
 (⟨some 12, .len (.t 11), some (9, true), []⟩, [11]),
 (⟨some 13, .bin .eql (.t 12) (.i 0), some (9, true), []⟩, [12]),
 (.o 14 (.pick (.t 9) (.t 13) (.b false)), [9, 13]),
 (.o 2 (.move (.t 14)), [14])])
 .ret)
 .skip))
 (.seq (.regionK false [
 (.o 15 (.fieldAddr 1 (.t 1)), [4]),
 (.o 16 (.load none (.t 15)), [15]),
 (.o 17 (.len (.t 16)), [16]),
 (.o 18 (.bin .leq (.t 17) (.i 64)), [17]),
 (.o 19 (.move (.t 18)), [18]),
 (⟨some 20, .fieldAddr 2 (.t 1), some (19, true), []⟩, []),
 (⟨some 21, .load none (.t 20), some (19, true), []⟩, [20]),
 (⟨some 22, .len (.t 21), some (19, true), []⟩, [21]),
 (⟨some 23, .bin .leq (.t 22) (.i 64), some (19, true), []⟩, [22]),
 (.o 24 (.pick (.t 19) (.t 23) (.b false)), [19, 23]),
 (.o 25 (.move (.t 24)), [24]),
 (⟨some 26, .fieldAddr 1 (.t 1), some (25, true), []⟩, []),
 (⟨some 27, .load none (.t 26), some (25, true), []⟩, [26]),
 (⟨some 28, .call false 45 [.t 27], some (25, true), []⟩, [27]),
 (.o 29 (.pick (.t 25) (.t 28) (.b false)), [25, 28]),
 (.o 30 (.move (.t 29)), [29]),
 (⟨some 31, .fieldAddr 2 (.t 1), some (30, true), []⟩, []),
 (⟨some 32, .load none (.t 31), some (30, true), []⟩, [31]),
 (⟨some 33, .call false 45 [.t 32], some (30, true), []⟩, [32]),
 (.o 34 (.pick (.t 30) (.t 33) (.b false)), [30, 33]),
 (.o 2 (.move (.t 34)), [34])])
 .ret)))⟩

/-- clockwork/clockworkref19.Keys -/
def a35 : AFunc := ⟨11, 1, [.tmp 2],
  (.seq (.regionK false [
 (.o 1 (.box (.t 0)), [0]),
 (.o 2 (.move (.c (.p (.slice true [])))), [2])])
 (.seq (.seq (.regionK false [
 (.o 3 (.load (some 3) (.t 1)), []),
 (.o 4 (.call false 34 [.t 3]), [3]),
 (.o 5 (.un .not (.t 4)), [4])])
 (.cond (.t 5)
 (.seq (.regionK false [
 (.o 2 (.move (.c (.p (.slice true [])))), [5])])
 .ret)
 .skip))
 (.seq (.regionK false [
 (.o 6 (.fieldAddr 1 (.t 1)), [5]),
 (.o 7 (.load none (.t 6)), [6]),
 (.o 8 (.fieldAddr 2 (.t 1)), []),
 (.o 9 (.load none (.t 8)), [8]),
 (.o 10 (.call false 46 [.t 7, .t 9]), [7, 9]),
 (.o 2 (.move (.t 10)), [10])])
 .ret)))⟩

/-- cmp.Or[int] -/
@[irreducible] def a40_l0 : ACode :=
  (.seq (.regionK false [
 (.o 9 (.bin .lss (.t 8) (.t 7)), [])])
 (.seq (.cond (.t 9)
 .skip
 (.ghost (.forget [6, 7, 8, 9]) (.ghost .lower (.exit 0))))
 (.seq (.block 1
 (.seq (.regionK false [
 (.o 10 (.indexAddr 1 (.t 6) (.t 8)), [9]),
 (.o 11 (.load none (.t 10)), [10]),
 (.o 5 (.move (.t 11)), [11])])
 (.seq (.regionK false [
 (.o 12 (.move (.t 5)), []),
 (.o 13 (.move (.t 3)), []),
 (.o 14 (.bin .neq (.t 12) (.t 13)), [12, 13])])
 (.cond (.t 14)
 (.seq (.regionK false [
 (.o 15 (.move (.t 5)), [3, 5, 6, 7, 8, 14]),
 (.o 2 (.move (.t 15)), [15])])
 .ret)
 .skip))))
 (.regionK false [
 (.o 16 (.bin .add (.t 8) (.i 1)), [5, 14]),
 (.o 8 (.move (.t 16)), [16])]))))

def a40 : AFunc := ⟨18, 1, [.tmp 2],
  (.seq (.regionK false [
 (.o 2 (.move (.i 0)), [2])])
 (.seq (.regionK false [
 (.o 3 (.move (.i 0)), [])])
 (.seq (.seq (.regionK false [
 (.o 6 (.move (.t 0)), [0]),
 (.o 7 (.len (.t 6)), []),
 (.o 8 (.move (.i 0)), [])])
 (.block 0
 (.loop
 (.ghost .lower a40_l0))))
 (.seq (.regionK false [
 (.o 17 (.move (.t 3)), [3]),
 (.o 2 (.move (.t 17)), [17])])
 .ret))))⟩

/-- cmp.Compare[int64] -/
def a41 : AFunc := ⟨20, 2, [.tmp 4],
  (.seq (.regionK false [
 (.o 4 (.move (.i 0)), [4])])
 (.seq (.regionK false [
 (.o 7 (.move (.t 0)), []),
 (.o 8 (.call false 58 [.t 7]), [7]),
 (.o 5 (.move (.t 8)), [8])])
 (.seq (.regionK false [
 (.o 9 (.move (.t 1)), []),
 (.o 10 (.call false 58 [.t 9]), [9]),
 (.o 6 (.move (.t 10)), [10])])
 (.seq (.seq (.regionK false [
 (.o 11 (.move (.t 5)), [5])])
 (.cond (.t 11)
 (.seq (.seq (.regionK false [
 (.o 12 (.move (.t 6)), [0, 1, 6, 11])])
 (.cond (.t 12)
 (.seq (.regionK false [
 (.o 4 (.move (.i 0)), [12])])
 .ret)
 .skip))
 (.seq (.regionK false [
 (.o 4 (.move (.i (-1))), [12])])
 .ret))
 .skip))
 (.seq (.seq (.regionK false [
 (.o 13 (.move (.t 6)), [6, 11])])
 (.cond (.t 13)
 (.seq (.regionK false [
 (.o 4 (.move (.i 1)), [0, 1, 13])])
 .ret)
 .skip))
 (.seq (.seq (.regionK false [
 (.o 14 (.move (.t 0)), [13]),
 (.o 15 (.move (.t 1)), []),
 (.o 16 (.bin .lss (.t 14) (.t 15)), [14, 15])])
 (.cond (.t 16)
 (.seq (.regionK false [
 (.o 4 (.move (.i (-1))), [0, 1, 16])])
 .ret)
 .skip))
 (.seq (.seq (.regionK false [
 (.o 17 (.move (.t 0)), [0, 16]),
 (.o 18 (.move (.t 1)), [1]),
 (.o 19 (.bin .gtr (.t 17) (.t 18)), [17, 18])])
 (.cond (.t 19)
 (.seq (.regionK false [
 (.o 4 (.move (.i 1)), [19])])
 .ret)
 .skip))
 (.seq (.regionK false [
 (.o 4 (.move (.i 0)), [19])])
 .ret))))))))⟩

/-- clockwork/footprint.Valid -/
def a43 : AFunc := ⟨23, 1, [.tmp 2],
  (.seq (.regionK false [
 (.o 1 (.box (.t 0)), [0]),
 (.o 2 (.move (.b false)), [2])])
 (.seq (.seq (.regionK false [
 (.o 3 (.fieldAddr 0 (.t 1)), []),
 (.o 4 (.load none (.t 3)), [3])])
 (.cond (.t 4)
 (.seq (.regionK false [
 (.o 5 (.fieldAddr 1 (.t 1)), [4]),
 (.o 6 (.load none (.t 5)), [5]),
 (.o 7 (.len (.t 6)), [6]),
 (.o 8 (.bin .eql (.t 7) (.i 0)), [7]),
 (.o 9 (.move (.t 8)), [8]),
 (⟨some 10, .fieldAddr 2 (.t 1), some (9, true), []⟩, []),
 (⟨some 11, .load none (.t 10), some (9, true), []⟩, [10]),
 (⟨some 12, .len (.t 11), some (9, true), []⟩, [11]),
 (⟨some 13, .bin .eql (.t 12) (.i 0), some (9, true), []⟩, [12]),
 (.o 14 (.pick (.t 9) (.t 13) (.b false)), [9, 13]),
 (.o 2 (.move (.t 14)), [14])])
 .ret)
 .skip))
 (.seq (.regionK false [
 (.o 15 (.fieldAddr 1 (.t 1)), [4]),
 (.o 16 (.load none (.t 15)), [15]),
 (.o 17 (.call false 60 [.t 16]), [16]),
 (.o 18 (.move (.t 17)), [17]),
 (⟨some 19, .fieldAddr 2 (.t 1), some (18, true), []⟩, []),
 (⟨some 20, .load none (.t 19), some (18, true), []⟩, [19]),
 (⟨some 21, .call false 60 [.t 20], some (18, true), []⟩, [20]),
 (.o 22 (.pick (.t 18) (.t 21) (.b false)), [18, 21]),
 (.o 2 (.move (.t 22)), [22])])
 .ret)))⟩

/-- clockwork/footprint.merged -/
def a44 : AFunc := ⟨10, 1, [.tmp 2],
  (.seq (.regionK false [
 (.o 2 (.move (.c (.p (.slice true [])))), [2])])
 (.seq (.regionK false [
 (.o 4 (.move (.t 0)), [0]),
 (.o 5 (.call true 61 [.t 4]), [4]),
 (.o 3 (.move (.t 5)), [5])])
 (.seq (.regionK false [
 (.o 6 (.move (.t 3)), []),
 (.o 7 (.call true 62 [.t 6]), [6, 7])])
 (.seq (.regionK false [
 (.o 8 (.move (.t 3)), [3]),
 (.o 9 (.call true 63 [.t 8]), [8]),
 (.o 2 (.move (.t 9)), [9])])
 .ret))))⟩

/-- clockwork/clockworkref04.Ascending -/
@[irreducible] def a45_l0 : ACode :=
  (.seq (.seq (.regionK false [
 (.o 4 (.move (.t 3)), []),
 (.o 5 (.move (.t 0)), []),
 (.o 6 (.len (.t 5)), [5]),
 (.o 7 (.bin .lss (.t 4) (.t 6)), [4, 6])])
 (.cond (.t 7)
 .skip
 (.ghost (.forget [0, 3, 7]) (.ghost .lower (.exit 0)))))
 (.seq (.block 1
 (.seq (.regionK true [
 (.o 10 (.move (.t 0)), [7]),
 (.o 11 (.move (.t 3)), []),
 (⟨some 12, .indexAddr 1 (.t 10) (.t 11), none, [0, 1]⟩, [10, 11]),
 (⟨some 13, .load none (.t 12), none, [0, 1, 2]⟩, [12]),
 (⟨some 14, .call false 31 [.t 13], none, [0, 1, 2, 3]⟩, [13]),
 (⟨some 15, .un .not (.t 14), none, [0, 1, 2, 3, 4]⟩, [14]),
 (⟨some 16, .move (.t 15), none, [0, 1, 2, 3, 4, 5]⟩, [15]),
 (⟨some 17, .move (.t 3), some (16, false), [0, 1, 2, 3, 4, 5, 6]⟩, []),
 (⟨some 18, .bin .gtr (.t 17) (.i 0), some (16, false), [0, 1, 2, 3, 4, 5, 6, 7]⟩, [17]),
 (⟨some 19, .move (.t 18), some (16, false), [0, 1, 2, 3, 4, 5, 6, 7, 8]⟩, [18]),
 (⟨some 20, .move (.t 0), some (19, true), [0, 1, 2, 3, 4, 5, 6, 7, 8, 9]⟩, []),
 (⟨some 21, .move (.t 3), some (19, true), [0, 1, 2, 3, 4, 5, 6, 7, 8, 9]⟩, []),
 (⟨some 22, .bin .sub (.t 21) (.i 1), some (19, true), [0, 1, 2, 3, 4, 5, 6, 7, 8, 9, 11]⟩, [21]),
 (⟨some 23, .indexAddr 1 (.t 20) (.t 22), some (19, true), [0, 1, 2, 3, 4, 5, 6, 7, 8, 9, 10, 11, 12]⟩, [20, 22]),
 (⟨some 24, .load none (.t 23), some (19, true), [0, 1, 2, 3, 4, 5, 6, 7, 8, 9, 10, 11, 12, 13]⟩, [23]),
 (⟨some 25, .move (.t 0), some (19, true), [0, 1, 2, 3, 4, 5, 6, 7, 8, 9]⟩, []),
 (⟨some 26, .move (.t 3), some (19, true), [0, 1, 2, 3, 4, 5, 6, 7, 8, 9]⟩, []),
 (⟨some 27, .indexAddr 1 (.t 25) (.t 26), some (19, true), [0, 1, 2, 3, 4, 5, 6, 7, 8, 9, 15, 16]⟩, [25, 26]),
 (⟨some 28, .load none (.t 27), some (19, true), [0, 1, 2, 3, 4, 5, 6, 7, 8, 9, 15, 16, 17]⟩, [27]),
 (⟨some 29, .bin .geq (.t 24) (.t 28), some (19, true), [0, 1, 2, 3, 4, 5, 6, 7, 8, 9, 10, 11, 12, 13, 14, 15, 16, 17, 18]⟩, [24, 28]),
 (⟨some 30, .pick (.t 19) (.t 29) (.b false), some (16, false), [0, 1, 2, 3, 4, 5, 6, 7, 8, 9, 10, 11, 12, 13, 14, 15, 16, 17, 18, 19]⟩, [19, 29]),
 (⟨some 31, .pick (.t 16) (.b true) (.t 30), none, [0, 1, 2, 3, 4, 5, 6, 7, 8, 9, 10, 11, 12, 13, 14, 15, 16, 17, 18, 19, 20]⟩, [16, 30])])
 (.cond (.t 31)
 (.seq (.regionK false [
 (.o 2 (.move (.b false)), [0, 3, 31])])
 .ret)
 .skip)))
 (.regionK false [
 (.o 8 (.move (.t 3)), [31]),
 (.o 9 (.bin .add (.t 8) (.i 1)), [8]),
 (.o 3 (.move (.t 9)), [9])])))

def a45 : AFunc := ⟨32, 1, [.tmp 2],
  (.seq (.regionK false [
 (.o 2 (.move (.b false)), [2])])
 (.seq (.seq (.regionK false [
 (.o 3 (.move (.i 0)), [])])
 (.block 0
 (.loop
 (.ghost .lower a45_l0))))
 (.seq (.regionK false [
 (.o 2 (.move (.b true)), [])])
 .ret)))⟩

/-- clockwork/clockworkref19.both -/
@[irreducible] def a46_l0 : ACode :=
  (.seq (.seq (.regionK false [
 (.o 9 (.move (.t 6)), []),
 (.o 10 (.move (.t 1)), []),
 (.o 11 (.len (.t 10)), [10]),
 (.o 12 (.bin .lss (.t 9) (.t 11)), [9, 11])])
 (.cond (.t 12)
 .skip
 (.ghost (.forget [1, 6, 12]) (.ghost .lower (.exit 0)))))
 (.seq (.block 1
 (.regionK false [
 (.o 15 (.move (.t 5)), [12]),
 (.o 16 (.move (.t 1)), []),
 (.o 17 (.move (.t 6)), []),
 (.o 18 (.indexAddr 1 (.t 16) (.t 17)), [16, 17]),
 (.o 19 (.load none (.t 18)), [18]),
 (.o 20 (.call false 65 [.t 15, .t 19]), [15, 19]),
 (.o 5 (.move (.t 20)), [20])]))
 (.regionK false [
 (.o 13 (.move (.t 6)), []),
 (.o 14 (.bin .add (.t 13) (.i 1)), [13]),
 (.o 6 (.move (.t 14)), [14])])))

def a46 : AFunc := ⟨22, 2, [.tmp 4],
  (.seq (.regionK false [
 (.o 4 (.move (.c (.p (.slice true [])))), [4])])
 (.seq (.regionK false [
 (.o 7 (.move (.t 0)), [0]),
 (.o 8 (.call false 64 [.t 7]), [7]),
 (.o 5 (.move (.t 8)), [8])])
 (.seq (.seq (.regionK false [
 (.o 6 (.move (.i 0)), [])])
 (.block 0
 (.loop
 (.ghost .lower a46_l0))))
 (.seq (.regionK false [
 (.o 21 (.move (.t 5)), [5]),
 (.o 4 (.move (.t 21)), [21])])
 .ret))))⟩

/-- cmp.isNaN[int64] -/
def a58 : AFunc := ⟨6, 1, [.tmp 2],
  (.seq (.regionK false [
 (.o 2 (.move (.b false)), [2])])
 (.seq (.regionK false [
 (.o 3 (.move (.t 0)), []),
 (.o 4 (.move (.t 0)), [0]),
 (.o 5 (.bin .neq (.t 3) (.t 4)), [3, 4]),
 (.o 2 (.move (.t 5)), [5])])
 .ret))⟩

/-- clockwork/footprint.ascending -/
@[irreducible] def a60_l0 : ACode :=
  (.seq (.regionK false [
 (.o 8 (.bin .lss (.t 7) (.t 6)), [])])
 (.seq (.cond (.t 8)
 .skip
 (.ghost (.forget [5, 6, 7, 8]) (.ghost .lower (.exit 0))))
 (.seq (.block 1
 (.seq (.regionK false [
 (.o 9 (.move (.t 7)), [8]),
 (.o 10 (.indexAddr 1 (.t 5) (.t 7)), []),
 (.o 11 (.load none (.t 10)), [10]),
 (.o 3 (.move (.t 9)), [9]),
 (.o 4 (.move (.t 11)), [11])])
 (.seq (.regionK false [
 (.o 12 (.move (.t 4)), []),
 (.o 13 (.call false 13 [.t 12]), [12]),
 (.o 14 (.un .not (.t 13)), [13]),
 (.o 15 (.move (.t 14)), [14]),
 (⟨some 16, .move (.t 3), some (15, false), []⟩, []),
 (⟨some 17, .bin .gtr (.t 16) (.i 0), some (15, false), []⟩, [16]),
 (⟨some 18, .move (.t 17), some (15, false), []⟩, [17]),
 (⟨some 19, .move (.t 4), some (18, true), []⟩, [4]),
 (⟨some 20, .move (.t 0), some (18, true), []⟩, []),
 (⟨some 21, .move (.t 3), some (18, true), []⟩, [3]),
 (⟨some 22, .bin .sub (.t 21) (.i 1), some (18, true), []⟩, [21]),
 (⟨some 23, .indexAddr 1 (.t 20) (.t 22), some (18, true), []⟩, [20, 22]),
 (⟨some 24, .load none (.t 23), some (18, true), []⟩, [23]),
 (⟨some 25, .bin .leq (.t 19) (.t 24), some (18, true), []⟩, [19, 24]),
 (⟨some 26, .pick (.t 18) (.t 25) (.b false), some (15, false), []⟩, [18, 25]),
 (.o 27 (.pick (.t 15) (.b true) (.t 26)), [15, 26])])
 (.cond (.t 27)
 (.seq (.regionK false [
 (.o 2 (.move (.b false)), [0, 5, 6, 7, 27])])
 .ret)
 .skip))))
 (.regionK false [
 (.o 28 (.bin .add (.t 7) (.i 1)), [27]),
 (.o 7 (.move (.t 28)), [28])]))))

def a60 : AFunc := ⟨32, 1, [.tmp 2],
  (.seq (.regionK false [
 (.o 2 (.move (.b false)), [2])])
 (.seq (.seq (.regionK false [
 (.o 5 (.move (.t 0)), []),
 (.o 6 (.len (.t 5)), []),
 (.o 7 (.move (.i 0)), [])])
 (.block 0
 (.loop
 (.ghost .lower a60_l0))))
 (.seq (.regionK false [
 (.o 29 (.move (.t 0)), [0]),
 (.o 30 (.len (.t 29)), [29]),
 (.o 31 (.bin .leq (.t 30) (.i 64)), [30]),
 (.o 2 (.move (.t 31)), [31])])
 .ret)))⟩

/-- slices.Concat[[]string,string] -/
@[irreducible] def a61_l0 : ACode :=
  (.seq (.regionK false [
 (.o 28 (.bin .lss (.t 27) (.t 26)), [])])
 (.seq (.cond (.t 28)
 .skip
 (.ghost (.forget [25, 26, 27, 28]) (.exit 2)))
 (.seq (.block 3
 (.seq (.regionK false [
 (.o 29 (.indexAddr 1 (.t 25) (.t 27)), [28]),
 (.o 30 (.load none (.t 29)), [29]),
 (.o 8 (.move (.t 30)), [30])])
 (.regionK false [
 (.o 31 (.move (.t 6)), []),
 (.o 32 (.move (.t 8)), [8]),
 (.o 33 (.append 16 1 (.t 31) (.t 32)), [31, 32]),
 (.o 6 (.move (.t 33)), [33])])))
 (.regionK false [
 (.o 34 (.bin .add (.t 27) (.i 1)), []),
 (.o 27 (.move (.t 34)), [34])]))))

@[irreducible] def a61_l1 : ACode :=
  (.seq (.regionK false [
 (.o 12 (.bin .lss (.t 11) (.t 10)), [])])
 (.seq (.cond (.t 12)
 .skip
 (.ghost (.forget [9, 10, 11, 12]) (.exit 0)))
 (.seq (.block 1
 (.seq (.regionK false [
 (.o 13 (.indexAddr 1 (.t 9) (.t 11)), [12]),
 (.o 14 (.load none (.t 13)), [13]),
 (.o 5 (.move (.t 14)), [14])])
 (.seq (.regionK false [
 (.o 15 (.move (.t 3)), []),
 (.o 16 (.move (.t 5)), [5]),
 (.o 17 (.len (.t 16)), [16]),
 (.o 18 (.bin .add (.t 15) (.t 17)), [15, 17]),
 (.o 3 (.move (.t 18)), [18])])
 (.seq (.regionK false [
 (.o 19 (.move (.t 3)), []),
 (.o 20 (.bin .lss (.t 19) (.i 0)), [19])])
 (.cond (.t 20)
 .dead
 .skip)))))
 (.regionK false [
 (.o 22 (.bin .add (.t 11) (.i 1)), [20]),
 (.o 11 (.move (.t 22)), [22])]))))

def a61 : AFunc := ⟨36, 1, [.tmp 2],
  (.seq (.regionK false [
 (.o 2 (.move (.c (.p (.slice true [])))), [2])])
 (.seq (.regionK false [
 (.o 3 (.move (.i 0)), [])])
 (.seq (.seq (.regionK false [
 (.o 9 (.move (.t 0)), []),
 (.o 10 (.len (.t 9)), []),
 (.o 11 (.move (.i 0)), [])])
 (.block 0
 (.loop
 a61_l1)))
 (.seq (.regionK false [
 (.o 23 (.move (.t 3)), [3]),
 (.o 24 (.call true 72 [.c (.p (.slice true [])), .t 23]), [23]),
 (.o 6 (.move (.t 24)), [24])])
 (.seq (.seq (.regionK false [
 (.o 25 (.move (.t 0)), [0]),
 (.o 26 (.len (.t 25)), []),
 (.o 27 (.move (.i 0)), [])])
 (.block 2
 (.loop
 a61_l0)))
 (.seq (.regionK false [
 (.o 35 (.move (.t 6)), [6]),
 (.o 2 (.move (.t 35)), [35])])
 .ret))))))⟩

/-- slices.Compact[[]string,string] -/
@[irreducible] def a63_l0 : ACode :=
  (.seq (.seq (.regionK false [
 (.o 29 (.move (.t 5)), []),
 (.o 30 (.move (.t 4)), []),
 (.o 31 (.len (.t 30)), [30]),
 (.o 32 (.bin .lss (.t 29) (.t 31)), [29, 31])])
 (.cond (.t 32)
 .skip
 (.ghost (.forget [4, 5, 32]) (.exit 2))))
 (.seq (.block 3
 (.seq (.regionK true [
 (.o 35 (.move (.t 4)), [32]),
 (.o 36 (.move (.t 5)), []),
 (⟨some 37, .indexAddr 1 (.t 35) (.t 36), none, [0, 1]⟩, [35, 36]),
 (⟨some 38, .load none (.t 37), none, [0, 1, 2]⟩, [37]),
 (.o 39 (.move (.t 4)), []),
 (.o 40 (.move (.t 5)), []),
 (⟨some 41, .bin .sub (.t 40) (.i 1), none, [5]⟩, [40]),
 (⟨some 42, .indexAddr 1 (.t 39) (.t 41), none, [4, 5, 6]⟩, [39, 41]),
 (⟨some 43, .load none (.t 42), none, [4, 5, 6, 7]⟩, [42]),
 (⟨some 44, .bin .neq (.t 38) (.t 43), none, [0, 1, 2, 3, 4, 5, 6, 7, 8]⟩, [38, 43])])
 (.cond (.t 44)
 (.seq (.regionK false [
 (.o 45 (.move (.t 0)), [44]),
 (.o 46 (.move (.t 3)), []),
 (.o 47 (.move (.t 4)), []),
 (.o 48 (.move (.t 5)), []),
 (.o 49 (.indexAddr 1 (.t 47) (.t 48)), [47, 48]),
 (.o 50 (.load none (.t 49)), [49]),
 (.o 51 (.indexAddr 1 (.t 45) (.t 46)), [45, 46]),
 (.u (.store 1 (.t 51) (.t 50)), [50, 51])])
 (.regionK false [
 (.o 52 (.move (.t 3)), []),
 (.o 53 (.bin .add (.t 52) (.i 1)), [52]),
 (.o 3 (.move (.t 53)), [53])]))
 .skip)))
 (.regionK false [
 (.o 33 (.move (.t 5)), [44]),
 (.o 34 (.bin .add (.t 33) (.i 1)), [33]),
 (.o 5 (.move (.t 34)), [34])])))

@[irreducible] def a63_l1 : ACode :=
  (.seq (.seq (.regionK false [
 (.o 10 (.move (.t 3)), []),
 (.o 11 (.move (.t 0)), []),
 (.o 12 (.len (.t 11)), [11]),
 (.o 13 (.bin .lss (.t 10) (.t 12)), [10, 12])])
 (.cond (.t 13)
 .skip
 (.ghost (.forget [3, 13]) (.exit 0))))
 (.seq (.block 1
 (.seq (.regionK true [
 (.o 16 (.move (.t 0)), [13]),
 (.o 17 (.move (.t 3)), []),
 (⟨some 18, .indexAddr 1 (.t 16) (.t 17), none, [0, 1]⟩, [16, 17]),
 (⟨some 19, .load none (.t 18), none, [0, 1, 2]⟩, [18]),
 (.o 20 (.move (.t 0)), []),
 (.o 21 (.move (.t 3)), []),
 (⟨some 22, .bin .sub (.t 21) (.i 1), none, [5]⟩, [21]),
 (⟨some 23, .indexAddr 1 (.t 20) (.t 22), none, [4, 5, 6]⟩, [20, 22]),
 (⟨some 24, .load none (.t 23), none, [4, 5, 6, 7]⟩, [23]),
 (⟨some 25, .bin .eql (.t 19) (.t 24), none, [0, 1, 2, 3, 4, 5, 6, 7, 8]⟩, [19, 24])])
 (.cond (.t 25)
 (.seq (.regionK false [
 (.o 26 (.move (.t 0)), [25]),
 (.o 27 (.move (.t 3)), []),
 (.o 28 (.slice 1 (.t 26) (some (.t 27)) none none), [26, 27]),
 (.o 4 (.move (.t 28)), [28])])
 (.seq (.seq (.regionK false [
 (.o 5 (.move (.i 1)), [])])
 (.block 2
 (.loop
 a63_l0)))
 (.seq (.regionK false [
 (.o 54 (.move (.t 0)), []),
 (.o 55 (.move (.t 3)), []),
 (.o 56 (.slice 1 (.t 54) (some (.t 55)) none none), [54, 55]),
 (.u (.clear [.str ⟨#[]⟩] (.t 56)), [56])])
 (.seq (.regionK false [
 (.o 57 (.move (.t 0)), [0]),
 (.o 58 (.move (.t 3)), [3]),
 (.o 59 (.slice 1 (.t 57) none (some (.t 58)) none), [57, 58]),
 (.o 2 (.move (.t 59)), [59])])
 .ret))))
 .skip)))
 (.regionK false [
 (.o 14 (.move (.t 3)), [25]),
 (.o 15 (.bin .add (.t 14) (.i 1)), [14]),
 (.o 3 (.move (.t 15)), [15])])))

def a63 : AFunc := ⟨61, 1, [.tmp 2],
  (.seq (.regionK false [
 (.o 2 (.move (.c (.p (.slice true [])))), [2])])
 (.seq (.seq (.regionK false [
 (.o 6 (.move (.t 0)), []),
 (.o 7 (.len (.t 6)), [6]),
 (.o 8 (.bin .lss (.t 7) (.i 2)), [7])])
 (.cond (.t 8)
 (.seq (.regionK false [
 (.o 9 (.move (.t 0)), [0, 8]),
 (.o 2 (.move (.t 9)), [9])])
 .ret)
 .skip))
 (.seq (.seq (.regionK false [
 (.o 3 (.move (.i 1)), [8])])
 (.block 0
 (.loop
 a63_l1)))
 (.seq (.regionK false [
 (.o 60 (.move (.t 0)), [0]),
 (.o 2 (.move (.t 60)), [60])])
 .ret))))⟩

/-- clockwork/clockworkref19.sorted -/
@[irreducible] def a64_l0 : ACode :=
  (.seq (.seq (.regionK false [
 (.o 5 (.move (.t 4)), []),
 (.o 6 (.move (.t 0)), []),
 (.o 7 (.len (.t 6)), [6]),
 (.o 8 (.bin .lss (.t 5) (.t 7)), [5, 7])])
 (.cond (.t 8)
 .skip
 (.ghost (.forget [0, 4, 8]) (.ghost .lower (.exit 0)))))
 (.seq (.block 1
 (.regionK false [
 (.o 11 (.move (.t 3)), [8]),
 (.o 12 (.move (.t 0)), []),
 (.o 13 (.move (.t 4)), []),
 (.o 14 (.indexAddr 1 (.t 12) (.t 13)), [12, 13]),
 (.o 15 (.load none (.t 14)), [14]),
 (.o 16 (.call false 65 [.t 11, .t 15]), [11, 15]),
 (.o 3 (.move (.t 16)), [16])]))
 (.regionK false [
 (.o 9 (.move (.t 4)), []),
 (.o 10 (.bin .add (.t 9) (.i 1)), [9]),
 (.o 4 (.move (.t 10)), [10])])))

def a64 : AFunc := ⟨18, 1, [.tmp 2],
  (.seq (.regionK false [
 (.o 2 (.move (.c (.p (.slice true [])))), [2])])
 (.seq (.regionK false [
 (.o 3 (.move (.c (.p (.slice true [])))), [])])
 (.seq (.seq (.regionK false [
 (.o 4 (.move (.i 0)), [])])
 (.block 0
 (.loop
 (.ghost .lower a64_l0))))
 (.seq (.regionK false [
 (.o 17 (.move (.t 3)), [3]),
 (.o 2 (.move (.t 17)), [17])])
 .ret))))⟩

/-- clockwork/clockworkref04.Insert -/
@[irreducible] def a65_l0 : ACode :=
  (.seq (.seq (.regionK false [
 (.o 7 (.move (.t 5)), []),
 (.o 8 (.move (.t 0)), []),
 (.o 9 (.len (.t 8)), [8]),
 (.o 10 (.bin .lss (.t 7) (.t 9)), [7, 9]),
 (.o 11 (.move (.t 10)), [10]),
 (⟨some 12, .move (.t 0), some (11, true), []⟩, []),
 (⟨some 13, .move (.t 5), some (11, true), []⟩, []),
 (⟨some 14, .indexAddr 1 (.t 12) (.t 13), some (11, true), []⟩, [12, 13]),
 (⟨some 15, .load none (.t 14), some (11, true), []⟩, [14]),
 (⟨some 16, .move (.t 1), some (11, true), []⟩, []),
 (⟨some 17, .bin .lss (.t 15) (.t 16), some (11, true), []⟩, [15, 16]),
 (.o 18 (.pick (.t 11) (.t 17) (.b false)), [11, 17])])
 (.cond (.t 18)
 .skip
 (.ghost (.forget [18]) (.ghost .lower (.exit 0)))))
 (.block 1
 (.regionK false [
 (.o 19 (.move (.t 5)), [18]),
 (.o 20 (.bin .add (.t 19) (.i 1)), [19]),
 (.o 5 (.move (.t 20)), [20])])))

def a65 : AFunc := ⟨49, 2, [.tmp 4],
  (.seq (.regionK false [
 (.o 4 (.move (.c (.p (.slice true [])))), [4])])
 (.seq (.regionK false [
 (.o 5 (.move (.i 0)), [])])
 (.seq (.block 0
 (.loop
 (.ghost .lower a65_l0)))
 (.seq (.seq (.regionK false [
 (.o 21 (.move (.t 5)), []),
 (.o 22 (.move (.t 0)), []),
 (.o 23 (.len (.t 22)), [22]),
 (.o 24 (.bin .lss (.t 21) (.t 23)), [21, 23]),
 (.o 25 (.move (.t 24)), [24]),
 (⟨some 26, .move (.t 0), some (25, true), []⟩, []),
 (⟨some 27, .move (.t 5), some (25, true), []⟩, []),
 (⟨some 28, .indexAddr 1 (.t 26) (.t 27), some (25, true), []⟩, [26, 27]),
 (⟨some 29, .load none (.t 28), some (25, true), []⟩, [28]),
 (⟨some 30, .move (.t 1), some (25, true), []⟩, []),
 (⟨some 31, .bin .eql (.t 29) (.t 30), some (25, true), []⟩, [29, 30]),
 (.o 32 (.pick (.t 25) (.t 31) (.b false)), [25, 31])])
 (.cond (.t 32)
 (.seq (.regionK false [
 (.o 33 (.move (.t 0)), [0, 1, 5, 32]),
 (.o 4 (.move (.t 33)), [33])])
 .ret)
 .skip))
 (.seq (.regionK false [
 (.o 6 (.move (.c (.p (.slice true [])))), [32])])
 (.seq (.regionK false [
 (.o 34 (.move (.t 6)), []),
 (.o 35 (.move (.t 0)), []),
 (.o 36 (.move (.t 5)), []),
 (.o 37 (.slice 1 (.t 35) none (some (.t 36)) none), [35, 36]),
 (.o 38 (.append 16 1 (.t 34) (.t 37)), [34, 37]),
 (.o 6 (.move (.t 38)), [38])])
 (.seq (.regionK false [
 (.o 39 (.move (.t 6)), []),
 (.o 40 (.move (.t 1)), [1]),
 (.o 41 (.buildSlice [.str ⟨#[]⟩] 1 [(0, .t 40)]), [40]),
 (.o 42 (.append 16 1 (.t 39) (.t 41)), [39, 41]),
 (.o 6 (.move (.t 42)), [42])])
 (.seq (.regionK false [
 (.o 43 (.move (.t 6)), []),
 (.o 44 (.move (.t 0)), [0]),
 (.o 45 (.move (.t 5)), [5]),
 (.o 46 (.slice 1 (.t 44) (some (.t 45)) none none), [44, 45]),
 (.o 47 (.append 16 1 (.t 43) (.t 46)), [43, 46]),
 (.o 6 (.move (.t 47)), [47])])
 (.seq (.regionK false [
 (.o 48 (.move (.t 6)), [6]),
 (.o 4 (.move (.t 48)), [48])])
 .ret)))))))))⟩


end Go.Dv.Try
