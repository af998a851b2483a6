/-
  The annotated functions of this seat. Printed by wip/gen.py.
-/
import Derived.Test.YtknplkihgnfpfaaWalk
set_option linter.unusedVariables false
set_option maxRecDepth 100000
namespace Go.Dv.Try
open Go Go.Dv


/-- clockwork/clockworklaw34.HeatFades -/
@[irreducible] def a4_l0 : ACode :=
  (.seq (.seq (.regionK false [
 (.o 20 (.move (.t 9)), []),
 (.o 21 (.move (.t 5)), []),
 (.o 22 (.len (.t 21)), [21]),
 (.o 23 (.bin .lss (.t 20) (.t 22)), [20, 22]),
 (.o 24 (.move (.t 23)), [23]),
 (⟨some 25, .move (.t 5), some (24, true), []⟩, []),
 (⟨some 26, .call false 17 [.t 25], some (24, true), []⟩, [25]),
 (.o 27 (.pick (.t 24) (.t 26) (.b false)), [24, 26])])
 (.cond (.t 27)
 .skip
 (.ghost (.forget [5, 9, 27]) (.ghost .lower (.exit 2)))))
 (.seq (.block 3
 (.seq (.seq (.regionK false [
 (.o 30 (.move (.t 5)), [27]),
 (.o 31 (.move (.t 9)), []),
 (.o 32 (.indexAddr 2 (.t 30) (.t 31)), [30, 31]),
 (.o 33 (.fieldAddr 1 (.t 32)), [32]),
 (.o 34 (.load none (.t 33)), [33]),
 (.o 35 (.bin .lss (.t 34) (.i 2)), [34])])
 (.cond (.t 35)
 (.ghost (.forget [35]) (.ghost .lower (.exit 3)))
 .skip))
 (.seq (.seq (.regionK true [
 (.o 36 (.move (.t 8)), [35]),
 (.o 37 (.move (.t 7)), []),
 (⟨some 38, .len (.t 37), none, [1]⟩, [37]),
 (⟨some 39, .bin .geq (.t 36) (.t 38), none, [0, 1, 2]⟩, [36, 38]),
 (⟨some 40, .move (.t 39), none, [0, 1, 2, 3]⟩, [39]),
 (⟨some 41, .move (.t 7), some (40, false), [0, 1, 2, 3, 4]⟩, []),
 (⟨some 42, .move (.t 8), some (40, false), [0, 1, 2, 3, 4]⟩, []),
 (⟨some 43, .indexAddr 2 (.t 41) (.t 42), some (40, false), [0, 1, 2, 3, 4, 5, 6]⟩, [41, 42]),
 (⟨some 44, .fieldAddr 0 (.t 43), some (40, false), [0, 1, 2, 3, 4, 5, 6, 7]⟩, [43]),
 (⟨some 45, .load none (.t 44), some (40, false), [0, 1, 2, 3, 4, 5, 6, 7, 8]⟩, [44]),
 (⟨some 46, .move (.t 5), some (40, false), [0, 1, 2, 3, 4]⟩, []),
 (⟨some 47, .move (.t 9), some (40, false), [0, 1, 2, 3, 4]⟩, []),
 (⟨some 48, .indexAddr 2 (.t 46) (.t 47), some (40, false), [0, 1, 2, 3, 4, 10, 11]⟩, [46, 47]),
 (⟨some 49, .fieldAddr 0 (.t 48), some (40, false), [0, 1, 2, 3, 4, 10, 11, 12]⟩, [48]),
 (⟨some 50, .load none (.t 49), some (40, false), [0, 1, 2, 3, 4, 10, 11, 12, 13]⟩, [49]),
 (⟨some 51, .bin .neq (.t 45) (.t 50), some (40, false), [0, 1, 2, 3, 4, 5, 6, 7, 8, 9, 10, 11, 12, 13, 14]⟩, [45, 50]),
 (⟨some 52, .pick (.t 40) (.b true) (.t 51), none, [0, 1, 2, 3, 4, 5, 6, 7, 8, 9, 10, 11, 12, 13, 14, 15]⟩, [40, 51]),
 (⟨some 53, .move (.t 52), none, [0, 1, 2, 3, 4, 5, 6, 7, 8, 9, 10, 11, 12, 13, 14, 15, 16]⟩, [52]),
 (⟨some 54, .move (.t 7), some (53, false), [0, 1, 2, 3, 4, 5, 6, 7, 8, 9, 10, 11, 12, 13, 14, 15, 16, 17]⟩, []),
 (⟨some 55, .move (.t 8), some (53, false), [0, 1, 2, 3, 4, 5, 6, 7, 8, 9, 10, 11, 12, 13, 14, 15, 16, 17]⟩, []),
 (⟨some 56, .indexAddr 2 (.t 54) (.t 55), some (53, false), [0, 1, 2, 3, 4, 5, 6, 7, 8, 9, 10, 11, 12, 13, 14, 15, 16, 17, 18, 19]⟩, [54, 55]),
 (⟨some 57, .fieldAddr 1 (.t 56), some (53, false), [0, 1, 2, 3, 4, 5, 6, 7, 8, 9, 10, 11, 12, 13, 14, 15, 16, 17, 18, 19, 20]⟩, [56]),
 (⟨some 58, .load none (.t 57), some (53, false), [0, 1, 2, 3, 4, 5, 6, 7, 8, 9, 10, 11, 12, 13, 14, 15, 16, 17, 18, 19, 20, 21]⟩, [57]),
 (⟨some 59, .move (.t 5), some (53, false), [0, 1, 2, 3, 4, 5, 6, 7, 8, 9, 10, 11, 12, 13, 14, 15, 16, 17]⟩, []),
 (⟨some 60, .move (.t 9), some (53, false), [0, 1, 2, 3, 4, 5, 6, 7, 8, 9, 10, 11, 12, 13, 14, 15, 16, 17]⟩, []),
 (⟨some 61, .indexAddr 2 (.t 59) (.t 60), some (53, false), [0, 1, 2, 3, 4, 5, 6, 7, 8, 9, 10, 11, 12, 13, 14, 15, 16, 17, 23, 24]⟩, [59, 60]),
 (⟨some 62, .fieldAddr 1 (.t 61), some (53, false), [0, 1, 2, 3, 4, 5, 6, 7, 8, 9, 10, 11, 12, 13, 14, 15, 16, 17, 23, 24, 25]⟩, [61]),
 (⟨some 63, .load none (.t 62), some (53, false), [0, 1, 2, 3, 4, 5, 6, 7, 8, 9, 10, 11, 12, 13, 14, 15, 16, 17, 23, 24, 25, 26]⟩, [62]),
 (⟨some 64, .bin .quo (.t 63) (.i 2), some (53, false), [0, 1, 2, 3, 4, 5, 6, 7, 8, 9, 10, 11, 12, 13, 14, 15, 16, 17, 23, 24, 25, 26, 27]⟩, [63]),
 (⟨some 65, .bin .neq (.t 58) (.t 64), some (53, false), [0, 1, 2, 3, 4, 5, 6, 7, 8, 9, 10, 11, 12, 13, 14, 15, 16, 17, 18, 19, 20, 21, 22, 23, 24, 25, 26, 27, 28]⟩, [58, 64]),
 (⟨some 66, .pick (.t 53) (.b true) (.t 65), none, [0, 1, 2, 3, 4, 5, 6, 7, 8, 9, 10, 11, 12, 13, 14, 15, 16, 17, 18, 19, 20, 21, 22, 23, 24, 25, 26, 27, 28, 29]⟩, [53, 65])])
 (.cond (.t 66)
 (.seq (.regionK false [
 (.o 4 (.move (.b false)), [1, 5, 6, 7, 8, 9, 66])])
 .ret)
 .skip))
 (.regionK false [
 (.o 67 (.move (.t 8)), [66]),
 (.o 68 (.bin .add (.t 67) (.i 1)), [67]),
 (.o 8 (.move (.t 68)), [68])]))))
 (.regionK false [
 (.o 28 (.move (.t 9)), []),
 (.o 29 (.bin .add (.t 28) (.i 1)), [28]),
 (.o 9 (.move (.t 29)), [29])])))

@[irreducible] def a4_l1 : ACode :=
  (.seq (.seq (.regionK false [
 (.o 11 (.move (.t 6)), []),
 (.o 12 (.move (.t 1)), []),
 (.o 13 (.bin .rem (.t 12) (.c (.p (.int .u8 45)))), [12]),
 (.o 14 (.conv .i64 (.t 13)), [13]),
 (.o 15 (.bin .lss (.t 11) (.t 14)), [11, 14])])
 (.cond (.t 15)
 .skip
 (.ghost (.forget [6, 15]) (.ghost .lower (.exit 0)))))
 (.seq (.block 1
 (.seq (.regionK false [
 (.o 18 (.move (.t 5)), [15]),
 (.o 19 (.call false 19 [.t 18]), [18]),
 (.o 7 (.move (.t 19)), [19])])
 (.seq (.regionK false [
 (.o 8 (.move (.i 0)), [])])
 (.seq (.seq (.regionK false [
 (.o 9 (.move (.i 0)), [])])
 (.block 2
 (.loop
 (.ghost .lower a4_l0))))
 (.seq (.seq (.regionK false [
 (.o 69 (.move (.t 8)), [8]),
 (.o 70 (.move (.t 7)), []),
 (.o 71 (.len (.t 70)), [70]),
 (.o 72 (.bin .neq (.t 69) (.t 71)), [69, 71])])
 (.cond (.t 72)
 (.seq (.regionK false [
 (.o 4 (.move (.b false)), [1, 6, 7, 72])])
 .ret)
 .skip))
 (.regionK false [
 (.o 73 (.move (.t 7)), [7, 72]),
 (.o 5 (.move (.t 73)), [73])]))))))
 (.regionK false [
 (.o 16 (.move (.t 6)), []),
 (.o 17 (.bin .add (.t 16) (.i 1)), [16]),
 (.o 6 (.move (.t 17)), [17])])))

def a4 : AFunc := ⟨85, 2, [.tmp 4],
  (.seq (.regionK false [
 (.o 4 (.move (.b false)), [4])])
 (.seq (.regionK false [
 (.o 10 (.move (.t 0)), [0]),
 (.o 5 (.move (.t 10)), [10])])
 (.seq (.seq (.regionK false [
 (.o 6 (.move (.i 0)), [])])
 (.block 0
 (.loop
 (.ghost .lower a4_l1))))
 (.seq (.regionK false [
 (.o 74 (.move (.t 1)), [1]),
 (.o 75 (.bin .rem (.t 74) (.c (.p (.int .u8 45)))), [74]),
 (.o 76 (.bin .lss (.t 75) (.c (.p (.int .u8 41)))), [75]),
 (.o 77 (.move (.t 76)), [76]),
 (⟨some 78, .move (.t 5), some (77, false), []⟩, [5]),
 (⟨some 79, .len (.t 78), some (77, false), []⟩, [78]),
 (⟨some 80, .bin .eql (.t 79) (.i 0), some (77, false), []⟩, [79]),
 (.o 81 (.pick (.t 77) (.b true) (.t 80)), [77, 80]),
 (.o 82 (.move (.t 81)), [81]),
 (⟨some 83, .call false 18 [], some (82, true), []⟩, []),
 (.o 84 (.pick (.t 82) (.t 83) (.b false)), [82, 83]),
 (.o 4 (.move (.t 84)), [84])])
 .ret))))⟩

/-- clockwork/clockworklaw34.HeatHot -/
@[irreducible] def a5_l0 : ACode :=
  (.seq (.seq (.regionK false [
 (.o 46 (.move (.t 10)), []),
 (.o 47 (.move (.t 7)), []),
 (.o 48 (.len (.t 47)), [47]),
 (.o 49 (.bin .lss (.t 46) (.t 48)), [46, 48]),
 (.o 50 (.move (.t 49)), [49]),
 (⟨some 51, .move (.t 9), some (50, true), []⟩, []),
 (⟨some 52, .move (.t 8), some (50, true), []⟩, []),
 (⟨some 53, .len (.t 52), some (50, true), []⟩, [52]),
 (⟨some 54, .bin .lss (.t 51) (.t 53), some (50, true), []⟩, [51, 53]),
 (.o 55 (.pick (.t 50) (.t 54) (.b false)), [50, 54])])
 (.cond (.t 55)
 .skip
 (.ghost (.forget [7, 10, 55]) (.ghost .lower (.exit 0)))))
 (.seq (.block 1
 (.seq (.regionK true [
 (.o 58 (.move (.t 7)), [55]),
 (.o 59 (.move (.t 10)), []),
 (⟨some 60, .indexAddr 1 (.t 58) (.t 59), none, [0, 1]⟩, [58, 59]),
 (⟨some 61, .load none (.t 60), none, [0, 1, 2]⟩, [60]),
 (.o 62 (.move (.t 8)), []),
 (.o 63 (.move (.t 9)), []),
 (⟨some 64, .indexAddr 1 (.t 62) (.t 63), none, [4, 5]⟩, [62, 63]),
 (⟨some 65, .load none (.t 64), none, [4, 5, 6]⟩, [64]),
 (⟨some 66, .bin .eql (.t 61) (.t 65), none, [0, 1, 2, 3, 4, 5, 6, 7]⟩, [61, 65])])
 (.cond (.t 66)
 (.regionK false [
 (.o 67 (.move (.t 9)), [66]),
 (.o 68 (.bin .add (.t 67) (.i 1)), [67]),
 (.o 9 (.move (.t 68)), [68])])
 .skip)))
 (.regionK false [
 (.o 56 (.move (.t 10)), [66]),
 (.o 57 (.bin .add (.t 56) (.i 1)), [56]),
 (.o 10 (.move (.t 57)), [57])])))

def a5 : AFunc := ⟨82, 3, [.tmp 6],
  (.seq (.regionK false [
 (.o 6 (.move (.b false)), [6])])
 (.seq (.regionK false [
 (.o 11 (.move (.t 0)), []),
 (.o 12 (.move (.t 1)), []),
 (.o 13 (.move (.t 2)), []),
 (.o 14 (.minmax false (.t 12) [.t 13]), [12, 13]),
 (.o 15 (.call false 20 [.t 11, .t 14]), [11, 14]),
 (.o 16 (.move (.t 0)), []),
 (.o 17 (.move (.t 1)), []),
 (.o 18 (.move (.t 2)), []),
 (.o 19 (.minmax true (.t 17) [.t 18]), [17, 18]),
 (.o 20 (.call false 20 [.t 16, .t 19]), [16, 19]),
 (.o 7 (.move (.t 15)), [15]),
 (.o 8 (.move (.t 20)), [20])])
 (.seq (.seq (.regionK false [
 (.o 21 (.move (.t 7)), []),
 (.o 22 (.move (.t 0)), []),
 (.o 23 (.move (.t 1)), []),
 (.o 24 (.move (.t 2)), []),
 (.o 25 (.minmax false (.t 23) [.t 24]), [23, 24]),
 (.o 26 (.call false 22 [.t 22, .t 25]), [22, 25]),
 (.o 27 (.call false 21 [.t 21, .t 26]), [21, 26]),
 (.o 28 (.un .not (.t 27)), [27]),
 (.o 29 (.move (.t 28)), [28]),
 (⟨some 30, .move (.t 8), some (29, false), []⟩, []),
 (⟨some 31, .move (.t 0), some (29, false), []⟩, []),
 (⟨some 32, .move (.t 1), some (29, false), []⟩, [1]),
 (⟨some 33, .move (.t 2), some (29, false), []⟩, [2]),
 (⟨some 34, .minmax true (.t 32) [.t 33], some (29, false), []⟩, [32, 33]),
 (⟨some 35, .call false 22 [.t 31, .t 34], some (29, false), []⟩, [31, 34]),
 (⟨some 36, .call false 21 [.t 30, .t 35], some (29, false), []⟩, [30, 35]),
 (⟨some 37, .un .not (.t 36), some (29, false), []⟩, [36]),
 (.o 38 (.pick (.t 29) (.b true) (.t 37)), [29, 37]),
 (.o 39 (.move (.t 38)), [38]),
 (⟨some 40, .move (.t 8), some (39, false), []⟩, []),
 (⟨some 41, .len (.t 40), some (39, false), []⟩, [40]),
 (⟨some 42, .move (.t 7), some (39, false), []⟩, []),
 (⟨some 43, .len (.t 42), some (39, false), []⟩, [42]),
 (⟨some 44, .bin .gtr (.t 41) (.t 43), some (39, false), []⟩, [41, 43]),
 (.o 45 (.pick (.t 39) (.b true) (.t 44)), [39, 44])])
 (.cond (.t 45)
 (.seq (.regionK false [
 (.o 6 (.move (.b false)), [0, 7, 8, 45])])
 .ret)
 .skip))
 (.seq (.regionK false [
 (.o 9 (.move (.i 0)), [45])])
 (.seq (.seq (.regionK false [
 (.o 10 (.move (.i 0)), [])])
 (.block 0
 (.loop
 (.ghost .lower a5_l0))))
 (.seq (.regionK false [
 (.o 69 (.move (.t 9)), [9]),
 (.o 70 (.move (.t 8)), [8]),
 (.o 71 (.len (.t 70)), [70]),
 (.o 72 (.bin .eql (.t 69) (.t 71)), [69, 71]),
 (.o 73 (.move (.t 72)), [72]),
 (⟨some 74, .move (.t 0), some (73, true), []⟩, [0]),
 (⟨some 75, .call false 20 [.t 74, .i 1099511627777], some (73, true), []⟩, [74]),
 (⟨some 76, .len (.t 75), some (73, true), []⟩, [75]),
 (⟨some 77, .bin .eql (.t 76) (.i 0), some (73, true), []⟩, [76]),
 (.o 78 (.pick (.t 73) (.t 77) (.b false)), [73, 77]),
 (.o 79 (.move (.t 78)), [78]),
 (⟨some 80, .call false 18 [], some (79, true), []⟩, []),
 (.o 81 (.pick (.t 79) (.t 80) (.b false)), [79, 80]),
 (.o 6 (.move (.t 81)), [81])])
 .ret))))))⟩

/-- clockwork/heat.Touch -/
@[irreducible] def a15_l0 : ACode :=
  (.seq (.regionK false [
 (.o 18 (.bin .lss (.t 17) (.t 16)), [])])
 (.seq (.cond (.t 18)
 .skip
 (.ghost (.forget [15, 16, 17, 18]) (.ghost .lower (.exit 0))))
 (.seq (.block 1
 (.seq (.regionK false [
 (.o 19 (.indexAddr 1 (.t 15) (.t 17)), [18]),
 (.o 20 (.load none (.t 19)), [19]),
 (.o 7 (.move (.t 20)), [20])])
 (.seq (.seq (.regionK false [
 (.o 21 (.move (.t 7)), []),
 (.o 22 (.call false 25 [.t 21]), [21]),
 (.o 23 (.un .not (.t 22)), [22])])
 (.cond (.t 23)
 (.ghost (.forget [7, 23]) (.ghost .lower (.exit 1)))
 .skip))
 (.seq (.regionK false [
 (.o 25 (.move (.t 5)), [23]),
 (.o 26 (.move (.t 7)), []),
 (.o 27 (.call false 47 [.t 25, .t 26, .c (.func 48 [])]), [25, 26]),
 (.o 24 (.move (.t 27)), [27]),
 (.o 28 (.extract (.t 24) 0), []),
 (.o 29 (.extract (.t 24) 1), [24]),
 (.o 8 (.move (.t 28)), [28]),
 (.o 9 (.move (.t 29)), [29])])
 (.seq (.seq (.regionK false [
 (.o 30 (.move (.t 9)), [9]),
 (.o 31 (.un .not (.t 30)), [30])])
 (.cond (.t 31)
 (.regionK false [
 (.o 32 (.move (.t 5)), [31]),
 (.o 33 (.move (.t 8)), []),
 (.o 34 (.move (.t 7)), [7]),
 (.o 35 (.build [.str ⟨#[]⟩, .int .i64 0] [(0, 1, .t 34)]), [34]),
 (.o 36 (.buildSlice [.str ⟨#[]⟩, .int .i64 0] 1 [(0, .t 35)]), [35]),
 (.o 37 (.call true 49 [.t 32, .t 33, .t 36]), [32, 33, 36]),
 (.o 5 (.move (.t 37)), [37])])
 .skip))
 (.regionK false [
 (.o 38 (.move (.t 5)), [7, 31]),
 (.o 39 (.move (.t 8)), []),
 (.o 40 (.move (.t 5)), []),
 (.o 41 (.move (.t 8)), [8]),
 (.o 42 (.indexAddr 2 (.t 40) (.t 41)), [40, 41]),
 (.o 43 (.fieldAddr 1 (.t 42)), [42]),
 (.o 44 (.load none (.t 43)), [43]),
 (.o 45 (.bin .add (.t 44) (.i 1)), [44]),
 (.o 46 (.minmax false (.t 45) [.i 1099511627776]), [45]),
 (.o 47 (.indexAddr 2 (.t 38) (.t 39)), [38, 39]),
 (.o 48 (.fieldAddr 1 (.t 47)), [47]),
 (.u (.store 1 (.t 48) (.t 46)), [46, 48])]))))))
 (.regionK false [
 (.o 49 (.bin .add (.t 17) (.i 1)), []),
 (.o 17 (.move (.t 49)), [49])]))))

def a15 : AFunc := ⟨60, 2, [.tmp 4],
  (.seq (.regionK false [
 (.o 4 (.move (.c (.p (.slice true [])))), [4])])
 (.seq (.seq (.regionK false [
 (.o 10 (.move (.t 0)), []),
 (.o 11 (.call false 17 [.t 10]), [10]),
 (.o 12 (.un .not (.t 11)), [11])])
 (.cond (.t 12)
 (.seq (.regionK false [
 (.o 4 (.move (.c (.p (.slice true [])))), [0, 1, 12])])
 .ret)
 .skip))
 (.seq (.regionK false [
 (.o 13 (.move (.t 0)), [0, 12]),
 (.o 14 (.call true 46 [.t 13]), [13]),
 (.o 5 (.move (.t 14)), [14])])
 (.seq (.seq (.regionK false [
 (.o 15 (.move (.t 1)), [1]),
 (.o 16 (.len (.t 15)), []),
 (.o 17 (.move (.i 0)), [])])
 (.block 0
 (.loop
 (.ghost .lower a15_l0))))
 (.seq (.seq (.regionK false [
 (.o 50 (.move (.t 5)), []),
 (.o 51 (.len (.t 50)), [50]),
 (.o 52 (.bin .gtr (.t 51) (.i 32)), [51])])
 (.cond (.t 52)
 (.seq (.regionK false [
 (.o 53 (.move (.t 5)), [52]),
 (.o 54 (.call true 50 [.t 53, .c (.func 51 [])]), [53, 54])])
 (.seq (.regionK false [
 (.o 55 (.move (.t 5)), []),
 (.o 56 (.slice 2 (.t 55) none (some (.i 32)) none), [55]),
 (.o 5 (.move (.t 56)), [56])])
 (.regionK false [
 (.o 57 (.move (.t 5)), []),
 (.o 58 (.call true 50 [.t 57, .c (.func 52 [])]), [57, 58])])))
 .skip))
 (.seq (.regionK false [
 (.o 59 (.move (.t 5)), [5, 52]),
 (.o 4 (.move (.t 59)), [59])])
 .ret))))))⟩

/-- clockwork/clockworkref34.Same -/
@[irreducible] def a16_l0 : ACode :=
  (.seq (.seq (.regionK false [
 (.o 11 (.move (.t 5)), []),
 (.o 12 (.move (.t 0)), []),
 (.o 13 (.len (.t 12)), [12]),
 (.o 14 (.bin .lss (.t 11) (.t 13)), [11, 13])])
 (.cond (.t 14)
 .skip
 (.ghost (.forget [0, 1, 5, 14]) (.ghost .lower (.exit 0)))))
 (.seq (.block 1
 (.seq (.regionK true [
 (.o 17 (.move (.t 0)), [14]),
 (.o 18 (.move (.t 5)), []),
 (⟨some 19, .indexAddr 2 (.t 17) (.t 18), none, [0, 1]⟩, [17, 18]),
 (⟨some 20, .load (some 2) (.t 19), none, [0, 1, 2]⟩, [19]),
 (.o 21 (.move (.t 1)), []),
 (.o 22 (.move (.t 5)), []),
 (⟨some 23, .indexAddr 2 (.t 21) (.t 22), none, [4, 5]⟩, [21, 22]),
 (⟨some 24, .load (some 2) (.t 23), none, [4, 5, 6]⟩, [23]),
 (⟨some 25, .eqagg true [(0, 2), (1, 0)] (.t 20) (.t 24), none, [0, 1, 2, 3, 4, 5, 6, 7]⟩, [20, 24])])
 (.cond (.t 25)
 (.seq (.regionK false [
 (.o 4 (.move (.b false)), [0, 1, 5, 25])])
 .ret)
 .skip)))
 (.regionK false [
 (.o 15 (.move (.t 5)), [25]),
 (.o 16 (.bin .add (.t 15) (.i 1)), [15]),
 (.o 5 (.move (.t 16)), [16])])))

def a16 : AFunc := ⟨26, 2, [.tmp 4],
  (.seq (.regionK false [
 (.o 4 (.move (.b false)), [4])])
 (.seq (.seq (.regionK false [
 (.o 6 (.move (.t 0)), []),
 (.o 7 (.len (.t 6)), [6]),
 (.o 8 (.move (.t 1)), []),
 (.o 9 (.len (.t 8)), [8]),
 (.o 10 (.bin .neq (.t 7) (.t 9)), [7, 9])])
 (.cond (.t 10)
 (.seq (.regionK false [
 (.o 4 (.move (.b false)), [0, 1, 10])])
 .ret)
 .skip))
 (.seq (.seq (.regionK false [
 (.o 5 (.move (.i 0)), [10])])
 (.block 0
 (.loop
 (.ghost .lower a16_l0))))
 (.seq (.regionK false [
 (.o 4 (.move (.b true)), [])])
 .ret))))⟩

/-- clockwork/heat.Valid -/
@[irreducible] def a17_l0 : ACode :=
  (.seq (.regionK false [
 (.o 8 (.bin .lss (.t 7) (.t 6)), [])])
 (.seq (.cond (.t 8)
 .skip
 (.ghost (.forget [5, 6, 7, 8]) (.ghost .lower (.exit 0))))
 (.seq (.block 1
 (.seq (.regionK false [
 (.o 9 (.move (.t 7)), [8]),
 (.o 10 (.indexAddr 2 (.t 5) (.t 7)), []),
 (.o 11 (.load (some 2) (.t 10)), [10]),
 (.o 4 (.alloc [.str ⟨#[]⟩, .int .i64 0]), []),
 (.o 3 (.move (.t 9)), [9]),
 (.u (.store 2 (.t 4) (.t 11)), [11])])
 (.seq (.regionK true [
 (.o 12 (.fieldAddr 0 (.t 4)), []),
 (⟨some 13, .load none (.t 12), none, [0]⟩, [12]),
 (⟨some 14, .call false 25 [.t 13], none, [0, 1]⟩, [13]),
 (⟨some 15, .un .not (.t 14), none, [0, 1, 2]⟩, [14]),
 (⟨some 16, .move (.t 15), none, [0, 1, 2, 3]⟩, [15]),
 (⟨some 17, .fieldAddr 1 (.t 4), some (16, false), [0, 1, 2, 3, 4]⟩, []),
 (⟨some 18, .load none (.t 17), some (16, false), [0, 1, 2, 3, 4, 5]⟩, [17]),
 (⟨some 19, .bin .lss (.t 18) (.i 1), some (16, false), [0, 1, 2, 3, 4, 5, 6]⟩, [18]),
 (⟨some 20, .pick (.t 16) (.b true) (.t 19), none, [0, 1, 2, 3, 4, 5, 6, 7]⟩, [16, 19]),
 (⟨some 21, .move (.t 20), none, [0, 1, 2, 3, 4, 5, 6, 7, 8]⟩, [20]),
 (⟨some 22, .fieldAddr 1 (.t 4), some (21, false), [0, 1, 2, 3, 4, 5, 6, 7, 8, 9]⟩, []),
 (⟨some 23, .load none (.t 22), some (21, false), [0, 1, 2, 3, 4, 5, 6, 7, 8, 9, 10]⟩, [22]),
 (⟨some 24, .bin .gtr (.t 23) (.i 1099511627776), some (21, false), [0, 1, 2, 3, 4, 5, 6, 7, 8, 9, 10, 11]⟩, [23]),
 (⟨some 25, .pick (.t 21) (.b true) (.t 24), none, [0, 1, 2, 3, 4, 5, 6, 7, 8, 9, 10, 11, 12]⟩, [21, 24]),
 (⟨some 26, .move (.t 25), none, [0, 1, 2, 3, 4, 5, 6, 7, 8, 9, 10, 11, 12, 13]⟩, [25]),
 (⟨some 27, .move (.t 3), some (26, false), [0, 1, 2, 3, 4, 5, 6, 7, 8, 9, 10, 11, 12, 13, 14]⟩, []),
 (⟨some 28, .bin .gtr (.t 27) (.i 0), some (26, false), [0, 1, 2, 3, 4, 5, 6, 7, 8, 9, 10, 11, 12, 13, 14, 15]⟩, [27]),
 (⟨some 29, .move (.t 28), some (26, false), [0, 1, 2, 3, 4, 5, 6, 7, 8, 9, 10, 11, 12, 13, 14, 15, 16]⟩, [28]),
 (⟨some 30, .move (.t 0), some (29, true), [0, 1, 2, 3, 4, 5, 6, 7, 8, 9, 10, 11, 12, 13, 14, 15, 16, 17]⟩, []),
 (⟨some 31, .move (.t 3), some (29, true), [0, 1, 2, 3, 4, 5, 6, 7, 8, 9, 10, 11, 12, 13, 14, 15, 16, 17]⟩, [3]),
 (⟨some 32, .bin .sub (.t 31) (.i 1), some (29, true), [0, 1, 2, 3, 4, 5, 6, 7, 8, 9, 10, 11, 12, 13, 14, 15, 16, 17, 19]⟩, [31]),
 (⟨some 33, .indexAddr 2 (.t 30) (.t 32), some (29, true), [0, 1, 2, 3, 4, 5, 6, 7, 8, 9, 10, 11, 12, 13, 14, 15, 16, 17, 18, 19, 20]⟩, [30, 32]),
 (⟨some 34, .fieldAddr 0 (.t 33), some (29, true), [0, 1, 2, 3, 4, 5, 6, 7, 8, 9, 10, 11, 12, 13, 14, 15, 16, 17, 18, 19, 20, 21]⟩, [33]),
 (⟨some 35, .load none (.t 34), some (29, true), [0, 1, 2, 3, 4, 5, 6, 7, 8, 9, 10, 11, 12, 13, 14, 15, 16, 17, 18, 19, 20, 21, 22]⟩, [34]),
 (⟨some 36, .fieldAddr 0 (.t 4), some (29, true), [0, 1, 2, 3, 4, 5, 6, 7, 8, 9, 10, 11, 12, 13, 14, 15, 16, 17]⟩, []),
 (⟨some 37, .load none (.t 36), some (29, true), [0, 1, 2, 3, 4, 5, 6, 7, 8, 9, 10, 11, 12, 13, 14, 15, 16, 17, 24]⟩, [36]),
 (⟨some 38, .bin .geq (.t 35) (.t 37), some (29, true), [0, 1, 2, 3, 4, 5, 6, 7, 8, 9, 10, 11, 12, 13, 14, 15, 16, 17, 18, 19, 20, 21, 22, 23, 24, 25]⟩, [35, 37]),
 (⟨some 39, .pick (.t 29) (.t 38) (.b false), some (26, false), [0, 1, 2, 3, 4, 5, 6, 7, 8, 9, 10, 11, 12, 13, 14, 15, 16, 17, 18, 19, 20, 21, 22, 23, 24, 25, 26]⟩, [29, 38]),
 (⟨some 40, .pick (.t 26) (.b true) (.t 39), none, [0, 1, 2, 3, 4, 5, 6, 7, 8, 9, 10, 11, 12, 13, 14, 15, 16, 17, 18, 19, 20, 21, 22, 23, 24, 25, 26, 27]⟩, [26, 39])])
 (.cond (.t 40)
 (.seq (.regionK false [
 (.o 2 (.move (.b false)), [0, 5, 6, 7, 40])])
 .ret)
 .skip))))
 (.regionK false [
 (.o 41 (.bin .add (.t 7) (.i 1)), [40]),
 (.o 7 (.move (.t 41)), [41])]))))

def a17 : AFunc := ⟨45, 1, [.tmp 2],
  (.seq (.regionK false [
 (.o 2 (.move (.b false)), [2])])
 (.seq (.seq (.regionK false [
 (.o 5 (.move (.t 0)), []),
 (.o 6 (.len (.t 5)), []),
 (.o 7 (.move (.i 0)), [])])
 (.block 0
 (.loop
 (.ghost (.free [4]) (.ghost .lower a17_l0)))))
 (.seq (.regionK false [
 (.o 42 (.move (.t 0)), [0]),
 (.o 43 (.len (.t 42)), [42]),
 (.o 44 (.bin .leq (.t 43) (.i 32)), [43]),
 (.o 2 (.move (.t 44)), [44])])
 .ret)))⟩

/-- clockwork/clockworklaw34.examples -/
def a18 : AFunc := ⟨16, 0, [.tmp 0],
  (.seq (.regionK false [
 (.o 0 (.move (.b false)), [0])])
 (.seq (.regionK false [
 (.o 2 (.buildSlice [.str ⟨#[]⟩] 3 [(0, .c (.p (.str ⟨#[98]⟩))), (1, .c (.p (.str ⟨#[97]⟩))), (2, .c (.p (.str ⟨#[98]⟩)))]), []),
 (.o 3 (.call false 15 [.c (.p (.slice true [])), .t 2]), [2]),
 (.o 1 (.move (.t 3)), [3])])
 (.seq (.regionK false [
 (.o 4 (.move (.t 1)), []),
 (.o 5 (.build [.str ⟨#[]⟩, .int .i64 0] [(0, 1, .c (.p (.str ⟨#[97]⟩))), (1, 1, .i 1)]), []),
 (.o 6 (.build [.str ⟨#[]⟩, .int .i64 0] [(0, 1, .c (.p (.str ⟨#[98]⟩))), (1, 1, .i 2)]), []),
 (.o 7 (.buildSlice [.str ⟨#[]⟩, .int .i64 0] 2 [(0, .t 5), (1, .t 6)]), [5, 6]),
 (.o 8 (.call false 16 [.t 4, .t 7]), [4, 7]),
 (.o 9 (.move (.t 8)), [8]),
 (⟨some 10, .move (.t 1), some (9, true), []⟩, [1]),
 (⟨some 11, .call false 19 [.t 10], some (9, true), []⟩, [10]),
 (⟨some 12, .build [.str ⟨#[]⟩, .int .i64 0] [(0, 1, .c (.p (.str ⟨#[98]⟩))), (1, 1, .i 1)], some (9, true), []⟩, []),
 (⟨some 13, .buildSlice [.str ⟨#[]⟩, .int .i64 0] 1 [(0, .t 12)], some (9, true), []⟩, [12]),
 (⟨some 14, .call false 16 [.t 11, .t 13], some (9, true), []⟩, [11, 13]),
 (.o 15 (.pick (.t 9) (.t 14) (.b false)), [9, 14]),
 (.o 0 (.move (.t 15)), [15])])
 .ret)))⟩

/-- clockwork/heat.Decay -/
def a19 : AFunc := ⟨8, 1, [.tmp 2],
  (.seq (.regionK false [
 (.o 2 (.move (.c (.p (.slice true [])))), [2])])
 (.seq (.seq (.regionK false [
 (.o 3 (.move (.t 0)), []),
 (.o 4 (.call false 17 [.t 3]), [3]),
 (.o 5 (.un .not (.t 4)), [4])])
 (.cond (.t 5)
 (.seq (.regionK false [
 (.o 2 (.move (.c (.p (.slice true [])))), [0, 5])])
 .ret)
 .skip))
 (.seq (.regionK false [
 (.o 6 (.move (.t 0)), [0, 5]),
 (.o 7 (.call false 54 [.t 6, .c (.func 55 [])]), [6]),
 (.o 2 (.move (.t 7)), [7])])
 .ret)))⟩

/-- clockwork/heat.Hot -/
def a20 : AFunc := ⟨11, 2, [.tmp 4],
  (.seq (.regionK false [
 (.o 3 (.box (.t 1)), [1]),
 (.o 4 (.move (.c (.p (.slice true [])))), [4])])
 (.seq (.seq (.regionK false [
 (.o 5 (.move (.t 0)), []),
 (.o 6 (.call false 17 [.t 5]), [5]),
 (.o 7 (.un .not (.t 6)), [6])])
 (.cond (.t 7)
 (.seq (.regionK false [
 (.o 4 (.move (.c (.p (.slice true [])))), [0, 7])])
 .ret)
 .skip))
 (.seq (.regionK false [
 (.o 8 (.move (.t 0)), [0, 7]),
 (.o 9 (.mkfunc 57 [.t 3]), []),
 (.o 10 (.call false 56 [.t 8, .t 9]), [8, 9]),
 (.o 4 (.move (.t 10)), [10])])
 .ret)))⟩

/-- clockwork/keys.Same -/
def a21 : AFunc := ⟨8, 2, [.tmp 4],
  (.seq (.regionK false [
 (.o 4 (.move (.b false)), [4])])
 (.seq (.regionK false [
 (.o 5 (.move (.t 0)), [0]),
 (.o 6 (.move (.t 1)), [1]),
 (.o 7 (.call false 58 [.t 5, .t 6]), [5, 6]),
 (.o 4 (.move (.t 7)), [7])])
 .ret))⟩

/-- clockwork/clockworkref34.Hot -/
@[irreducible] def a22_l0 : ACode :=
  (.seq (.seq (.regionK false [
 (.o 10 (.move (.t 6)), []),
 (.o 11 (.move (.t 0)), []),
 (.o 12 (.len (.t 11)), [11]),
 (.o 13 (.bin .lss (.t 10) (.t 12)), [10, 12])])
 (.cond (.t 13)
 .skip
 (.ghost (.forget [0, 1, 6, 13]) (.ghost .lower (.exit 0)))))
 (.seq (.block 1
 (.seq (.regionK false [
 (.o 16 (.move (.t 0)), [13]),
 (.o 17 (.move (.t 6)), []),
 (.o 18 (.indexAddr 2 (.t 16) (.t 17)), [16, 17]),
 (.o 19 (.fieldAddr 1 (.t 18)), [18]),
 (.o 20 (.load none (.t 19)), [19]),
 (.o 21 (.move (.t 1)), []),
 (.o 22 (.bin .geq (.t 20) (.t 21)), [20, 21])])
 (.cond (.t 22)
 (.regionK false [
 (.o 23 (.move (.t 5)), [22]),
 (.o 24 (.move (.t 0)), []),
 (.o 25 (.move (.t 6)), []),
 (.o 26 (.indexAddr 2 (.t 24) (.t 25)), [24, 25]),
 (.o 27 (.fieldAddr 0 (.t 26)), [26]),
 (.o 28 (.load none (.t 27)), [27]),
 (.o 29 (.buildSlice [.str ⟨#[]⟩] 1 [(0, .t 28)]), [28]),
 (.o 30 (.append 16 1 (.t 23) (.t 29)), [23, 29]),
 (.o 5 (.move (.t 30)), [30])])
 .skip)))
 (.regionK false [
 (.o 14 (.move (.t 6)), [22]),
 (.o 15 (.bin .add (.t 14) (.i 1)), [14]),
 (.o 6 (.move (.t 15)), [15])])))

def a22 : AFunc := ⟨32, 2, [.tmp 4],
  (.seq (.regionK false [
 (.o 4 (.move (.c (.p (.slice true [])))), [4])])
 (.seq (.regionK false [
 (.o 5 (.move (.c (.p (.slice true [])))), [])])
 (.ghost (.own 1 5) (.seq (.seq (.regionK false [
 (.o 7 (.move (.t 0)), []),
 (.o 8 (.call false 29 [.t 7]), [7]),
 (.o 9 (.un .not (.t 8)), [8])])
 (.cond (.t 9)
 (.seq (.regionK false [
 (.o 4 (.move (.c (.p (.slice true [])))), [0, 1, 5, 9])])
 .ret)
 .skip))
 (.seq (.seq (.regionK false [
 (.o 6 (.move (.i 0)), [9])])
 (.block 0
 (.loop
 (.ghost .lower a22_l0))))
 (.seq (.regionK false [
 (.o 31 (.move (.t 5)), [5]),
 (.o 4 (.move (.t 31)), [31])])
 .ret))))))⟩

/-- clockwork/keys.Valid -/
def a25 : AFunc := ⟨9, 1, [.tmp 2],
  (.seq (.regionK false [
 (.o 2 (.move (.b false)), [2])])
 (.seq (.regionK false [
 (.o 3 (.move (.t 0)), []),
 (.o 4 (.bin .neq (.t 3) (.c (.p (.str ⟨#[]⟩)))), [3]),
 (.o 5 (.move (.t 4)), [4]),
 (⟨some 6, .move (.t 0), some (5, true), []⟩, [0]),
 (⟨some 7, .call false 60 [.t 6, .c (.func 61 [])], some (5, true), []⟩, [6]),
 (.o 8 (.pick (.t 5) (.t 7) (.b false)), [5, 7]),
 (.o 2 (.move (.t 8)), [8])])
 .ret))⟩

/-- clockwork/clockworkref34.Valid -/
@[irreducible] def a29_l0 : ACode :=
  (.seq (.seq (.regionK false [
 (.o 4 (.move (.t 3)), []),
 (.o 5 (.move (.t 0)), []),
 (.o 6 (.len (.t 5)), [5]),
 (.o 7 (.bin .lss (.t 4) (.t 6)), [4, 6])])
 (.cond (.t 7)
 .skip
 (.ghost (.forget [3, 7]) (.ghost .lower (.exit 0)))))
 (.seq (.block 1
 (.seq (.regionK true [
 (.o 10 (.move (.t 0)), [7]),
 (.o 11 (.move (.t 3)), []),
 (⟨some 12, .indexAddr 2 (.t 10) (.t 11), none, [0, 1]⟩, [10, 11]),
 (⟨some 13, .fieldAddr 0 (.t 12), none, [0, 1, 2]⟩, [12]),
 (⟨some 14, .load none (.t 13), none, [0, 1, 2, 3]⟩, [13]),
 (⟨some 15, .call false 62 [.t 14], none, [0, 1, 2, 3, 4]⟩, [14]),
 (⟨some 16, .un .not (.t 15), none, [0, 1, 2, 3, 4, 5]⟩, [15]),
 (⟨some 17, .move (.t 16), none, [0, 1, 2, 3, 4, 5, 6]⟩, [16]),
 (⟨some 18, .move (.t 0), some (17, false), [0, 1, 2, 3, 4, 5, 6, 7]⟩, []),
 (⟨some 19, .move (.t 3), some (17, false), [0, 1, 2, 3, 4, 5, 6, 7]⟩, []),
 (⟨some 20, .indexAddr 2 (.t 18) (.t 19), some (17, false), [0, 1, 2, 3, 4, 5, 6, 7, 8, 9]⟩, [18, 19]),
 (⟨some 21, .fieldAddr 1 (.t 20), some (17, false), [0, 1, 2, 3, 4, 5, 6, 7, 8, 9, 10]⟩, [20]),
 (⟨some 22, .load none (.t 21), some (17, false), [0, 1, 2, 3, 4, 5, 6, 7, 8, 9, 10, 11]⟩, [21]),
 (⟨some 23, .bin .lss (.t 22) (.i 1), some (17, false), [0, 1, 2, 3, 4, 5, 6, 7, 8, 9, 10, 11, 12]⟩, [22]),
 (⟨some 24, .pick (.t 17) (.b true) (.t 23), none, [0, 1, 2, 3, 4, 5, 6, 7, 8, 9, 10, 11, 12, 13]⟩, [17, 23]),
 (⟨some 25, .move (.t 24), none, [0, 1, 2, 3, 4, 5, 6, 7, 8, 9, 10, 11, 12, 13, 14]⟩, [24]),
 (⟨some 26, .move (.t 0), some (25, false), [0, 1, 2, 3, 4, 5, 6, 7, 8, 9, 10, 11, 12, 13, 14, 15]⟩, []),
 (⟨some 27, .move (.t 3), some (25, false), [0, 1, 2, 3, 4, 5, 6, 7, 8, 9, 10, 11, 12, 13, 14, 15]⟩, []),
 (⟨some 28, .indexAddr 2 (.t 26) (.t 27), some (25, false), [0, 1, 2, 3, 4, 5, 6, 7, 8, 9, 10, 11, 12, 13, 14, 15, 16, 17]⟩, [26, 27]),
 (⟨some 29, .fieldAddr 1 (.t 28), some (25, false), [0, 1, 2, 3, 4, 5, 6, 7, 8, 9, 10, 11, 12, 13, 14, 15, 16, 17, 18]⟩, [28]),
 (⟨some 30, .load none (.t 29), some (25, false), [0, 1, 2, 3, 4, 5, 6, 7, 8, 9, 10, 11, 12, 13, 14, 15, 16, 17, 18, 19]⟩, [29]),
 (⟨some 31, .bin .gtr (.t 30) (.i 1099511627776), some (25, false), [0, 1, 2, 3, 4, 5, 6, 7, 8, 9, 10, 11, 12, 13, 14, 15, 16, 17, 18, 19, 20]⟩, [30]),
 (⟨some 32, .pick (.t 25) (.b true) (.t 31), none, [0, 1, 2, 3, 4, 5, 6, 7, 8, 9, 10, 11, 12, 13, 14, 15, 16, 17, 18, 19, 20, 21]⟩, [25, 31]),
 (⟨some 33, .move (.t 32), none, [0, 1, 2, 3, 4, 5, 6, 7, 8, 9, 10, 11, 12, 13, 14, 15, 16, 17, 18, 19, 20, 21, 22]⟩, [32]),
 (⟨some 34, .move (.t 3), some (33, false), [0, 1, 2, 3, 4, 5, 6, 7, 8, 9, 10, 11, 12, 13, 14, 15, 16, 17, 18, 19, 20, 21, 22, 23]⟩, []),
 (⟨some 35, .bin .gtr (.t 34) (.i 0), some (33, false), [0, 1, 2, 3, 4, 5, 6, 7, 8, 9, 10, 11, 12, 13, 14, 15, 16, 17, 18, 19, 20, 21, 22, 23, 24]⟩, [34]),
 (⟨some 36, .move (.t 35), some (33, false), [0, 1, 2, 3, 4, 5, 6, 7, 8, 9, 10, 11, 12, 13, 14, 15, 16, 17, 18, 19, 20, 21, 22, 23, 24, 25]⟩, [35]),
 (⟨some 37, .move (.t 0), some (36, true), [0, 1, 2, 3, 4, 5, 6, 7, 8, 9, 10, 11, 12, 13, 14, 15, 16, 17, 18, 19, 20, 21, 22, 23, 24, 25, 26]⟩, []),
 (⟨some 38, .move (.t 3), some (36, true), [0, 1, 2, 3, 4, 5, 6, 7, 8, 9, 10, 11, 12, 13, 14, 15, 16, 17, 18, 19, 20, 21, 22, 23, 24, 25, 26]⟩, []),
 (⟨some 39, .indexAddr 2 (.t 37) (.t 38), some (36, true), [0, 1, 2, 3, 4, 5, 6, 7, 8, 9, 10, 11, 12, 13, 14, 15, 16, 17, 18, 19, 20, 21, 22, 23, 24, 25, 26, 27, 28]⟩, [37, 38]),
 (⟨some 40, .fieldAddr 0 (.t 39), some (36, true), [0, 1, 2, 3, 4, 5, 6, 7, 8, 9, 10, 11, 12, 13, 14, 15, 16, 17, 18, 19, 20, 21, 22, 23, 24, 25, 26, 27, 28, 29]⟩, [39]),
 (⟨some 41, .load none (.t 40), some (36, true), [0, 1, 2, 3, 4, 5, 6, 7, 8, 9, 10, 11, 12, 13, 14, 15, 16, 17, 18, 19, 20, 21, 22, 23, 24, 25, 26, 27, 28, 29, 30]⟩, [40]),
 (⟨some 42, .move (.t 0), some (36, true), [0, 1, 2, 3, 4, 5, 6, 7, 8, 9, 10, 11, 12, 13, 14, 15, 16, 17, 18, 19, 20, 21, 22, 23, 24, 25, 26]⟩, []),
 (⟨some 43, .move (.t 3), some (36, true), [0, 1, 2, 3, 4, 5, 6, 7, 8, 9, 10, 11, 12, 13, 14, 15, 16, 17, 18, 19, 20, 21, 22, 23, 24, 25, 26]⟩, []),
 (⟨some 44, .bin .sub (.t 43) (.i 1), some (36, true), [0, 1, 2, 3, 4, 5, 6, 7, 8, 9, 10, 11, 12, 13, 14, 15, 16, 17, 18, 19, 20, 21, 22, 23, 24, 25, 26, 33]⟩, [43]),
 (⟨some 45, .indexAddr 2 (.t 42) (.t 44), some (36, true), [0, 1, 2, 3, 4, 5, 6, 7, 8, 9, 10, 11, 12, 13, 14, 15, 16, 17, 18, 19, 20, 21, 22, 23, 24, 25, 26, 32, 33, 34]⟩, [42, 44]),
 (⟨some 46, .fieldAddr 0 (.t 45), some (36, true), [0, 1, 2, 3, 4, 5, 6, 7, 8, 9, 10, 11, 12, 13, 14, 15, 16, 17, 18, 19, 20, 21, 22, 23, 24, 25, 26, 32, 33, 34, 35]⟩, [45]),
 (⟨some 47, .load none (.t 46), some (36, true), [0, 1, 2, 3, 4, 5, 6, 7, 8, 9, 10, 11, 12, 13, 14, 15, 16, 17, 18, 19, 20, 21, 22, 23, 24, 25, 26, 32, 33, 34, 35, 36]⟩, [46]),
 (⟨some 48, .bin .leq (.t 41) (.t 47), some (36, true), [0, 1, 2, 3, 4, 5, 6, 7, 8, 9, 10, 11, 12, 13, 14, 15, 16, 17, 18, 19, 20, 21, 22, 23, 24, 25, 26, 27, 28, 29, 30, 31, 32, 33, 34, 35, 36, 37]⟩, [41, 47]),
 (⟨some 49, .pick (.t 36) (.t 48) (.b false), some (33, false), [0, 1, 2, 3, 4, 5, 6, 7, 8, 9, 10, 11, 12, 13, 14, 15, 16, 17, 18, 19, 20, 21, 22, 23, 24, 25, 26, 27, 28, 29, 30, 31, 32, 33, 34, 35, 36, 37, 38]⟩, [36, 48]),
 (⟨some 50, .pick (.t 33) (.b true) (.t 49), none, [0, 1, 2, 3, 4, 5, 6, 7, 8, 9, 10, 11, 12, 13, 14, 15, 16, 17, 18, 19, 20, 21, 22, 23, 24, 25, 26, 27, 28, 29, 30, 31, 32, 33, 34, 35, 36, 37, 38, 39]⟩, [33, 49])])
 (.cond (.t 50)
 (.seq (.regionK false [
 (.o 2 (.move (.b false)), [0, 3, 50])])
 .ret)
 .skip)))
 (.regionK false [
 (.o 8 (.move (.t 3)), [50]),
 (.o 9 (.bin .add (.t 8) (.i 1)), [8]),
 (.o 3 (.move (.t 9)), [9])])))

def a29 : AFunc := ⟨54, 1, [.tmp 2],
  (.seq (.regionK false [
 (.o 2 (.move (.b false)), [2])])
 (.seq (.seq (.regionK false [
 (.o 3 (.move (.i 0)), [])])
 (.block 0
 (.loop
 (.ghost .lower a29_l0))))
 (.seq (.regionK false [
 (.o 51 (.move (.t 0)), [0]),
 (.o 52 (.len (.t 51)), [51]),
 (.o 53 (.bin .leq (.t 52) (.i 32)), [52]),
 (.o 2 (.move (.t 53)), [53])])
 .ret)))⟩

/-- slices.BinarySearchFunc[[]clockwork/api.Heat,clockwork/api.Heat,string] -/
@[irreducible] def a47_l0 : ACode :=
  (.seq (.seq (.regionK false [
 (.o 15 (.move (.t 9)), []),
 (.o 16 (.move (.t 10)), []),
 (.o 17 (.bin .lss (.t 15) (.t 16)), [15, 16])])
 (.cond (.t 17)
 .skip
 (.ghost (.forget [10, 17]) (.ghost .lower (.exit 0)))))
 (.block 1
 (.seq (.regionK false [
 (.o 18 (.move (.t 9)), [17]),
 (.o 19 (.move (.t 10)), []),
 (.o 20 (.bin .add (.t 18) (.t 19)), [18, 19]),
 (.o 21 (.conv .u64 (.t 20)), [20]),
 (.o 22 (.bin .shr (.t 21) (.c (.p (.int .u64 1)))), [21]),
 (.o 23 (.conv .i64 (.t 22)), [22]),
 (.o 11 (.move (.t 23)), [23])])
 (.seq (.regionK false [
 (.o 24 (.move (.t 2)), []),
 (.o 25 (.move (.t 0)), []),
 (.o 26 (.move (.t 11)), []),
 (.o 27 (.indexAddr 2 (.t 25) (.t 26)), [25, 26]),
 (.o 28 (.load (some 2) (.t 27)), [27]),
 (.o 29 (.move (.t 1)), []),
 (.o 30 (.callv false (.t 24) [.t 28, .t 29]), [24, 28, 29]),
 (.o 31 (.bin .lss (.t 30) (.i 0)), [30])])
 (.cond (.t 31)
 (.regionK false [
 (.o 32 (.move (.t 11)), [11, 31]),
 (.o 33 (.bin .add (.t 32) (.i 1)), [32]),
 (.o 9 (.move (.t 33)), [33])])
 (.regionK false [
 (.o 34 (.move (.t 11)), [11, 31]),
 (.o 10 (.move (.t 34)), [34])]))))))

def a47 : AFunc := ⟨49, 3, [.tmp 6, .tmp 7],
  (.seq (.regionK false [
 (.o 6 (.move (.i 0)), [6]),
 (.o 7 (.move (.b false)), [7])])
 (.seq (.regionK false [
 (.o 12 (.move (.t 0)), []),
 (.o 13 (.len (.t 12)), [12]),
 (.o 8 (.move (.t 13)), [13])])
 (.seq (.regionK false [
 (.o 14 (.move (.t 8)), []),
 (.o 9 (.move (.i 0)), []),
 (.o 10 (.move (.t 14)), [14])])
 (.seq (.block 0
 (.loop
 (.ghost .lower a47_l0)))
 (.seq (.regionK false [
 (.o 35 (.move (.t 9)), []),
 (.o 36 (.move (.t 9)), []),
 (.o 37 (.move (.t 8)), [8]),
 (.o 38 (.bin .lss (.t 36) (.t 37)), [36, 37]),
 (.o 39 (.move (.t 38)), [38]),
 (⟨some 40, .move (.t 2), some (39, true), []⟩, [2]),
 (⟨some 41, .move (.t 0), some (39, true), []⟩, [0]),
 (⟨some 42, .move (.t 9), some (39, true), []⟩, [9]),
 (⟨some 43, .indexAddr 2 (.t 41) (.t 42), some (39, true), []⟩, [41, 42]),
 (⟨some 44, .load (some 2) (.t 43), some (39, true), []⟩, [43]),
 (⟨some 45, .move (.t 1), some (39, true), []⟩, [1]),
 (⟨some 46, .callv false (.t 40) [.t 44, .t 45], some (39, true), []⟩, [40, 44, 45]),
 (⟨some 47, .bin .eql (.t 46) (.i 0), some (39, true), []⟩, [46]),
 (.o 48 (.pick (.t 39) (.t 47) (.b false)), [39, 47]),
 (.o 6 (.move (.t 35)), [35]),
 (.o 7 (.move (.t 48)), [48])])
 .ret)))))⟩

/-- clockwork/heat.byKey -/
def a48 : AFunc := ⟨9, 2, [.tmp 4],
  (.seq (.regionK false [
 (.o 2 (.box (.t 0)), [0]),
 (.o 4 (.move (.i 0)), [4])])
 (.seq (.regionK false [
 (.o 5 (.fieldAddr 0 (.t 2)), []),
 (.o 6 (.load none (.t 5)), [5]),
 (.o 7 (.move (.t 1)), [1]),
 (.o 8 (.call false 53 [.t 6, .t 7]), [6, 7]),
 (.o 4 (.move (.t 8)), [8])])
 .ret))⟩

/-- clockwork/heat.hotter -/
def a51 : AFunc := ⟨17, 2, [.tmp 4],
  (.seq (.regionK false [
 (.o 2 (.box (.t 0)), [0]),
 (.o 3 (.box (.t 1)), [1]),
 (.o 4 (.move (.i 0)), [4])])
 (.seq (.regionK true [
 (.o 5 (.fieldAddr 1 (.t 3)), []),
 (⟨some 6, .load none (.t 5), none, [0]⟩, [5]),
 (.o 7 (.fieldAddr 1 (.t 2)), []),
 (⟨some 8, .load none (.t 7), none, [2]⟩, [7]),
 (⟨some 9, .call false 80 [.t 6, .t 8], none, [0, 1, 2, 3]⟩, [6, 8]),
 (.o 10 (.fieldAddr 0 (.t 2)), []),
 (⟨some 11, .load none (.t 10), none, [5]⟩, [10]),
 (.o 12 (.fieldAddr 0 (.t 3)), []),
 (⟨some 13, .load none (.t 12), none, [7]⟩, [12]),
 (⟨some 14, .call false 53 [.t 11, .t 13], none, [0, 1, 2, 3, 4, 5, 6, 7, 8]⟩, [11, 13]),
 (⟨some 15, .buildSlice [.int .i64 0] 2 [(0, .t 9), (1, .t 14)], none, [0, 1, 2, 3, 4, 5, 6, 7, 8, 9]⟩, [9, 14]),
 (⟨some 16, .call false 79 [.t 15], none, [0, 1, 2, 3, 4, 5, 6, 7, 8, 9, 10]⟩, [15]),
 (⟨some 4, .move (.t 16), none, [0, 1, 2, 3, 4, 5, 6, 7, 8, 9, 10, 11]⟩, [16])])
 .ret))⟩

/-- clockwork/heat.Touch$1 -/
def a52 : AFunc := ⟨10, 2, [.tmp 4],
  (.seq (.regionK false [
 (.o 2 (.box (.t 0)), [0]),
 (.o 3 (.box (.t 1)), [1]),
 (.o 4 (.move (.i 0)), [4])])
 (.seq (.regionK false [
 (.o 5 (.fieldAddr 0 (.t 2)), []),
 (.o 6 (.load none (.t 5)), [5]),
 (.o 7 (.fieldAddr 0 (.t 3)), []),
 (.o 8 (.load none (.t 7)), [7]),
 (.o 9 (.call false 53 [.t 6, .t 8]), [6, 8]),
 (.o 4 (.move (.t 9)), [9])])
 .ret))⟩

/-- clockwork/heat.convert[clockwork/api.Heat,clockwork/api.Heat] -/
@[irreducible] def a54_l0 : ACode :=
  (.seq (.regionK false [
 (.o 13 (.bin .lss (.t 12) (.t 11)), [])])
 (.seq (.cond (.t 13)
 .skip
 (.ghost (.forget [1, 10, 11, 12, 13]) (.ghost .lower (.exit 0))))
 (.seq (.block 1
 (.seq (.regionK false [
 (.o 14 (.indexAddr 2 (.t 10) (.t 12)), [13]),
 (.o 15 (.load (some 2) (.t 14)), [14]),
 (.o 7 (.alloc [.str ⟨#[]⟩, .int .i64 0]), []),
 (.u (.store 2 (.t 7) (.t 15)), [15])])
 (.seq (.regionK false [
 (.o 17 (.move (.t 1)), []),
 (.o 18 (.load (some 2) (.t 7)), []),
 (.o 19 (.callv false (.t 17) [.t 18]), [17, 18]),
 (.o 16 (.move (.t 19)), [19]),
 (.o 20 (.extract (.t 16) 0), []),
 (.o 21 (.extract (.t 16) 1), [16]),
 (.o 8 (.alloc [.str ⟨#[]⟩, .int .i64 0]), []),
 (.u (.store 2 (.t 8) (.t 20)), [20]),
 (.o 9 (.move (.t 21)), [21])])
 (.seq (.regionK false [
 (.o 22 (.move (.t 9)), [9])])
 (.cond (.t 22)
 (.regionK false [
 (.o 23 (.move (.t 5)), [22]),
 (.o 24 (.load (some 2) (.t 8)), []),
 (.o 25 (.buildSlice [.str ⟨#[]⟩, .int .i64 0] 1 [(0, .t 24)]), [24]),
 (.o 26 (.append 24 2 (.t 23) (.t 25)), [23, 25]),
 (.o 5 (.move (.t 26)), [26])])
 .skip)))))
 (.regionK false [
 (.o 27 (.bin .add (.t 12) (.i 1)), [22]),
 (.o 12 (.move (.t 27)), [27])]))))

def a54 : AFunc := ⟨29, 2, [.tmp 4],
  (.seq (.regionK false [
 (.o 4 (.move (.c (.p (.slice true [])))), [4])])
 (.seq (.regionK false [
 (.o 5 (.move (.c (.p (.slice true [])))), [])])
 (.ghost (.own 2 5) (.seq (.seq (.regionK false [
 (.o 10 (.move (.t 0)), [0]),
 (.o 11 (.len (.t 10)), []),
 (.o 12 (.move (.i 0)), [])])
 (.block 0
 (.loop
 (.ghost (.free [7, 8]) (.ghost .lower a54_l0)))))
 (.seq (.regionK false [
 (.o 28 (.move (.t 5)), [5]),
 (.o 4 (.move (.t 28)), [28])])
 .ret)))))⟩

/-- clockwork/heat.Decay$1 -/
def a55 : AFunc := ⟨13, 1, [.cell 2 2, .tmp 3],
  (.seq (.regionK false [
 (.o 1 (.box (.t 0)), [0]),
 (.o 2 (.alloc [.str ⟨#[]⟩, .int .i64 0]), []),
 (.o 3 (.move (.b false)), [3])])
 (.seq (.regionS [(6, 9), (7, 9)] [
 .o 4 (.fieldAddr 0 (.t 1)),
 ⟨some 5, .load none (.t 4), none, [0]⟩,
 .o 6 (.fieldAddr 1 (.t 1)),
 ⟨some 7, .load none (.t 6), none, [2]⟩,
 ⟨some 8, .bin .quo (.t 7) (.i 2), none, [2, 3]⟩,
 ⟨some 9, .build [.str ⟨#[]⟩, .int .i64 0] [(0, 1, .t 5), (1, 1, .t 8)], none, [0, 1, 2, 3, 4]⟩,
 .o 10 (.fieldAddr 1 (.t 1)),
 ⟨some 11, .load none (.t 10), none, [6]⟩,
 ⟨some 12, .bin .geq (.t 11) (.i 2), none, [6, 7]⟩,
 ⟨none, .store 2 (.t 2) (.t 9), none, [0, 1, 2, 3, 4, 5]⟩,
 ⟨some 3, .move (.t 12), none, [0, 1, 2, 3, 4, 5, 6, 7, 8, 9]⟩] [4, 5, 6, 7, 8, 9, 10, 11, 12])
 .ret))⟩

/-- clockwork/heat.convert[clockwork/api.Heat,string] -/
@[irreducible] def a56_l0 : ACode :=
  (.seq (.regionK false [
 (.o 13 (.bin .lss (.t 12) (.t 11)), [])])
 (.seq (.cond (.t 13)
 .skip
 (.ghost (.forget [1, 10, 11, 12, 13]) (.ghost .lower (.exit 0))))
 (.seq (.block 1
 (.seq (.regionK false [
 (.o 14 (.indexAddr 2 (.t 10) (.t 12)), [13]),
 (.o 15 (.load (some 2) (.t 14)), [14]),
 (.o 7 (.alloc [.str ⟨#[]⟩, .int .i64 0]), []),
 (.u (.store 2 (.t 7) (.t 15)), [15])])
 (.seq (.regionK false [
 (.o 17 (.move (.t 1)), []),
 (.o 18 (.load (some 2) (.t 7)), []),
 (.o 19 (.callv false (.t 17) [.t 18]), [17, 18]),
 (.o 16 (.move (.t 19)), [19]),
 (.o 20 (.extract (.t 16) 0), []),
 (.o 21 (.extract (.t 16) 1), [16]),
 (.o 8 (.move (.t 20)), [20]),
 (.o 9 (.move (.t 21)), [21])])
 (.seq (.regionK false [
 (.o 22 (.move (.t 9)), [9])])
 (.cond (.t 22)
 (.regionK false [
 (.o 23 (.move (.t 5)), [22]),
 (.o 24 (.move (.t 8)), [8]),
 (.o 25 (.buildSlice [.str ⟨#[]⟩] 1 [(0, .t 24)]), [24]),
 (.o 26 (.append 16 1 (.t 23) (.t 25)), [23, 25]),
 (.o 5 (.move (.t 26)), [26])])
 .skip)))))
 (.regionK false [
 (.o 27 (.bin .add (.t 12) (.i 1)), [8, 22]),
 (.o 12 (.move (.t 27)), [27])]))))

def a56 : AFunc := ⟨29, 2, [.tmp 4],
  (.seq (.regionK false [
 (.o 4 (.move (.c (.p (.slice true [])))), [4])])
 (.seq (.regionK false [
 (.o 5 (.move (.c (.p (.slice true [])))), [])])
 (.ghost (.own 1 5) (.seq (.seq (.regionK false [
 (.o 10 (.move (.t 0)), [0]),
 (.o 11 (.len (.t 10)), []),
 (.o 12 (.move (.i 0)), [])])
 (.block 0
 (.loop
 (.ghost (.free [7]) (.ghost .lower a56_l0)))))
 (.seq (.regionK false [
 (.o 28 (.move (.t 5)), [5]),
 (.o 4 (.move (.t 28)), [28])])
 .ret)))))⟩

/-- clockwork/heat.Hot$1 -/
def a57 : AFunc := ⟨11, 2, [.tmp 3, .tmp 4],
  (.seq (.regionK false [
 (.o 2 (.box (.t 0)), [0]),
 (.o 3 (.move (.c (.p (.str ⟨#[]⟩)))), [3]),
 (.o 4 (.move (.b false)), [4])])
 (.seq (.regionK true [
 (.o 5 (.fieldAddr 0 (.t 2)), []),
 (⟨some 6, .load none (.t 5), none, [0]⟩, [5]),
 (.o 7 (.fieldAddr 1 (.t 2)), []),
 (⟨some 8, .load none (.t 7), none, [2]⟩, [7]),
 (.o 9 (.load none (.t 1)), [1]),
 (⟨some 10, .bin .geq (.t 8) (.t 9), none, [2, 3, 4]⟩, [8, 9]),
 (⟨some 3, .move (.t 6), none, [0, 1]⟩, [6]),
 (⟨some 4, .move (.t 10), none, [0, 1, 2, 3, 4, 5, 6]⟩, [10])])
 .ret))⟩

/-- slices.Equal[[]string,string] -/
@[irreducible] def a58_l0 : ACode :=
  (.seq (.regionK false [
 (.o 14 (.bin .lss (.t 13) (.t 12)), [])])
 (.seq (.cond (.t 14)
 .skip
 (.ghost (.forget [0, 1, 12, 13, 14]) (.ghost .lower (.exit 0))))
 (.seq (.block 1
 (.seq (.regionK false [
 (.o 15 (.move (.t 13)), [14]),
 (.o 5 (.move (.t 15)), [15])])
 (.seq (.regionK true [
 (.o 16 (.move (.t 0)), []),
 (.o 17 (.move (.t 5)), []),
 (⟨some 18, .indexAddr 1 (.t 16) (.t 17), none, [0, 1]⟩, [16, 17]),
 (⟨some 19, .load none (.t 18), none, [0, 1, 2]⟩, [18]),
 (.o 20 (.move (.t 1)), []),
 (.o 21 (.move (.t 5)), [5]),
 (⟨some 22, .indexAddr 1 (.t 20) (.t 21), none, [4, 5]⟩, [20, 21]),
 (⟨some 23, .load none (.t 22), none, [4, 5, 6]⟩, [22]),
 (⟨some 24, .bin .neq (.t 19) (.t 23), none, [0, 1, 2, 3, 4, 5, 6, 7]⟩, [19, 23])])
 (.cond (.t 24)
 (.seq (.regionK false [
 (.o 4 (.move (.b false)), [0, 1, 12, 13, 24])])
 .ret)
 .skip))))
 (.regionK false [
 (.o 25 (.bin .add (.t 13) (.i 1)), [24]),
 (.o 13 (.move (.t 25)), [25])]))))

def a58 : AFunc := ⟨26, 2, [.tmp 4],
  (.seq (.regionK false [
 (.o 4 (.move (.b false)), [4])])
 (.seq (.seq (.regionK false [
 (.o 6 (.move (.t 0)), []),
 (.o 7 (.len (.t 6)), [6]),
 (.o 8 (.move (.t 1)), []),
 (.o 9 (.len (.t 8)), [8]),
 (.o 10 (.bin .neq (.t 7) (.t 9)), [7, 9])])
 (.cond (.t 10)
 (.seq (.regionK false [
 (.o 4 (.move (.b false)), [0, 1, 10])])
 .ret)
 .skip))
 (.seq (.seq (.regionK false [
 (.o 11 (.move (.t 0)), [10]),
 (.o 12 (.len (.t 11)), [11]),
 (.o 13 (.move (.i 0)), [])])
 (.block 0
 (.loop
 (.ghost .lower a58_l0))))
 (.seq (.regionK false [
 (.o 4 (.move (.b true)), [])])
 .ret))))⟩

/-- clockwork/keys.consists -/
@[irreducible] def a60_l0 : ACode :=
  (.seq (.regionK false [
 (.o 12 (.bin .lss (.t 11) (.t 10)), [])])
 (.seq (.cond (.t 12)
 .skip
 (.ghost (.forget [0, 1, 10, 11, 12]) (.ghost .lower (.exit 0))))
 (.seq (.block 1
 (.seq (.regionK false [
 (.o 13 (.move (.t 11)), [12]),
 (.o 5 (.move (.t 13)), [13])])
 (.seq (.regionK false [
 (.o 14 (.move (.t 1)), []),
 (.o 15 (.move (.t 0)), []),
 (.o 16 (.move (.t 5)), [5]),
 (.o 17 (.index (.t 15) (.t 16)), [15, 16]),
 (.o 18 (.callv false (.t 14) [.t 17]), [14, 17]),
 (.o 19 (.un .not (.t 18)), [18])])
 (.cond (.t 19)
 (.seq (.regionK false [
 (.o 4 (.move (.b false)), [0, 1, 10, 11, 19])])
 .ret)
 .skip))))
 (.regionK false [
 (.o 20 (.bin .add (.t 11) (.i 1)), [19]),
 (.o 11 (.move (.t 20)), [20])]))))

def a60 : AFunc := ⟨21, 2, [.tmp 4],
  (.seq (.regionK false [
 (.o 4 (.move (.b false)), [4])])
 (.seq (.seq (.regionK false [
 (.o 6 (.move (.t 0)), []),
 (.o 7 (.lenS (.t 6)), [6]),
 (.o 8 (.bin .gtr (.t 7) (.i 24)), [7])])
 (.cond (.t 8)
 (.seq (.regionK false [
 (.o 4 (.move (.b false)), [0, 1, 8])])
 .ret)
 .skip))
 (.seq (.seq (.regionK false [
 (.o 9 (.move (.t 0)), [8]),
 (.o 10 (.lenS (.t 9)), [9]),
 (.o 11 (.move (.i 0)), [])])
 (.block 0
 (.loop
 (.ghost .lower a60_l0))))
 (.seq (.regionK false [
 (.o 4 (.move (.b true)), [])])
 .ret))))⟩

/-- clockwork/keys.Valid$1 -/
def a61 : AFunc := ⟨33, 1, [.tmp 2],
  (.seq (.regionK false [
 (.o 2 (.move (.b false)), [2])])
 (.seq (.regionK false [
 (.o 3 (.move (.t 0)), []),
 (.o 4 (.bin .geq (.t 3) (.c (.p (.int .u8 97)))), [3]),
 (.o 5 (.move (.t 4)), [4]),
 (⟨some 6, .move (.t 0), some (5, true), []⟩, []),
 (⟨some 7, .bin .leq (.t 6) (.c (.p (.int .u8 122))), some (5, true), []⟩, [6]),
 (.o 8 (.pick (.t 5) (.t 7) (.b false)), [5, 7]),
 (.o 9 (.move (.t 8)), [8]),
 (⟨some 10, .move (.t 0), some (9, false), []⟩, []),
 (⟨some 11, .bin .geq (.t 10) (.c (.p (.int .u8 48))), some (9, false), []⟩, [10]),
 (⟨some 12, .move (.t 11), some (9, false), []⟩, [11]),
 (⟨some 13, .move (.t 0), some (12, true), []⟩, []),
 (⟨some 14, .bin .leq (.t 13) (.c (.p (.int .u8 57))), some (12, true), []⟩, [13]),
 (⟨some 15, .pick (.t 12) (.t 14) (.b false), some (9, false), []⟩, [12, 14]),
 (.o 16 (.pick (.t 9) (.b true) (.t 15)), [9, 15]),
 (.o 17 (.move (.t 16)), [16]),
 (⟨some 18, .move (.t 0), some (17, false), []⟩, []),
 (⟨some 19, .bin .eql (.t 18) (.c (.p (.int .u8 47))), some (17, false), []⟩, [18]),
 (.o 20 (.pick (.t 17) (.b true) (.t 19)), [17, 19]),
 (.o 21 (.move (.t 20)), [20]),
 (⟨some 22, .move (.t 0), some (21, false), []⟩, []),
 (⟨some 23, .bin .eql (.t 22) (.c (.p (.int .u8 46))), some (21, false), []⟩, [22]),
 (.o 24 (.pick (.t 21) (.b true) (.t 23)), [21, 23]),
 (.o 25 (.move (.t 24)), [24]),
 (⟨some 26, .move (.t 0), some (25, false), []⟩, []),
 (⟨some 27, .bin .eql (.t 26) (.c (.p (.int .u8 95))), some (25, false), []⟩, [26]),
 (.o 28 (.pick (.t 25) (.b true) (.t 27)), [25, 27]),
 (.o 29 (.move (.t 28)), [28]),
 (⟨some 30, .move (.t 0), some (29, false), []⟩, [0]),
 (⟨some 31, .bin .eql (.t 30) (.c (.p (.int .u8 45))), some (29, false), []⟩, [30]),
 (.o 32 (.pick (.t 29) (.b true) (.t 31)), [29, 31]),
 (.o 2 (.move (.t 32)), [32])])
 .ret))⟩

/-- clockwork/clockworkref04.Valid -/
@[irreducible] def a62_l0 : ACode :=
  (.seq (.seq (.regionK false [
 (.o 5 (.move (.t 3)), []),
 (.o 6 (.move (.t 0)), []),
 (.o 7 (.lenS (.t 6)), [6]),
 (.o 8 (.bin .lss (.t 5) (.t 7)), [5, 7])])
 (.cond (.t 8)
 .skip
 (.ghost (.forget [3, 8]) (.ghost .lower (.exit 0)))))
 (.seq (.block 1
 (.seq (.regionK false [
 (.o 11 (.move (.t 0)), [8]),
 (.o 12 (.move (.t 3)), []),
 (.o 13 (.index (.t 11) (.t 12)), [11, 12]),
 (.o 4 (.move (.t 13)), [13])])
 (.seq (.regionK false [
 (.o 14 (.move (.t 4)), []),
 (.o 15 (.bin .lss (.t 14) (.c (.p (.int .u8 97)))), [14]),
 (.o 16 (.move (.t 15)), [15]),
 (⟨some 17, .move (.t 4), some (16, false), []⟩, []),
 (⟨some 18, .bin .gtr (.t 17) (.c (.p (.int .u8 122))), some (16, false), []⟩, [17]),
 (.o 19 (.pick (.t 16) (.b true) (.t 18)), [16, 18]),
 (.o 20 (.move (.t 19)), [19]),
 (⟨some 21, .move (.t 4), some (20, true), []⟩, []),
 (⟨some 22, .bin .lss (.t 21) (.c (.p (.int .u8 48))), some (20, true), []⟩, [21]),
 (⟨some 23, .move (.t 22), some (20, true), []⟩, [22]),
 (⟨some 24, .move (.t 4), some (23, false), []⟩, []),
 (⟨some 25, .bin .gtr (.t 24) (.c (.p (.int .u8 57))), some (23, false), []⟩, [24]),
 (⟨some 26, .pick (.t 23) (.b true) (.t 25), some (20, true), []⟩, [23, 25]),
 (.o 27 (.pick (.t 20) (.t 26) (.b false)), [20, 26]),
 (.o 28 (.move (.t 27)), [27]),
 (⟨some 29, .move (.t 4), some (28, true), []⟩, []),
 (⟨some 30, .bin .neq (.t 29) (.c (.p (.int .u8 47))), some (28, true), []⟩, [29]),
 (.o 31 (.pick (.t 28) (.t 30) (.b false)), [28, 30]),
 (.o 32 (.move (.t 31)), [31]),
 (⟨some 33, .move (.t 4), some (32, true), []⟩, []),
 (⟨some 34, .bin .neq (.t 33) (.c (.p (.int .u8 46))), some (32, true), []⟩, [33]),
 (.o 35 (.pick (.t 32) (.t 34) (.b false)), [32, 34]),
 (.o 36 (.move (.t 35)), [35]),
 (⟨some 37, .move (.t 4), some (36, true), []⟩, []),
 (⟨some 38, .bin .neq (.t 37) (.c (.p (.int .u8 95))), some (36, true), []⟩, [37]),
 (.o 39 (.pick (.t 36) (.t 38) (.b false)), [36, 38]),
 (.o 40 (.move (.t 39)), [39]),
 (⟨some 41, .move (.t 4), some (40, true), []⟩, [4]),
 (⟨some 42, .bin .neq (.t 41) (.c (.p (.int .u8 45))), some (40, true), []⟩, [41]),
 (.o 43 (.pick (.t 40) (.t 42) (.b false)), [40, 42])])
 (.cond (.t 43)
 (.seq (.regionK false [
 (.o 2 (.move (.b false)), [0, 3, 43])])
 .ret)
 .skip))))
 (.regionK false [
 (.o 9 (.move (.t 3)), [43]),
 (.o 10 (.bin .add (.t 9) (.i 1)), [9]),
 (.o 3 (.move (.t 10)), [10])])))

def a62 : AFunc := ⟨52, 1, [.tmp 2],
  (.seq (.regionK false [
 (.o 2 (.move (.b false)), [2])])
 (.seq (.seq (.regionK false [
 (.o 3 (.move (.i 0)), [])])
 (.block 0
 (.loop
 (.ghost .lower a62_l0))))
 (.seq (.regionK false [
 (.o 44 (.move (.t 0)), []),
 (.o 45 (.lenS (.t 44)), [44]),
 (.o 46 (.bin .geq (.t 45) (.i 1)), [45]),
 (.o 47 (.move (.t 46)), [46]),
 (⟨some 48, .move (.t 0), some (47, true), []⟩, [0]),
 (⟨some 49, .lenS (.t 48), some (47, true), []⟩, [48]),
 (⟨some 50, .bin .leq (.t 49) (.i 24), some (47, true), []⟩, [49]),
 (.o 51 (.pick (.t 47) (.t 50) (.b false)), [47, 50]),
 (.o 2 (.move (.t 51)), [51])])
 .ret)))⟩

/-- cmp.Or[int] -/
@[irreducible] def a79_l0 : ACode :=
  (.seq (.regionK false [
 (.o 9 (.bin .lss (.t 8) (.t 7)), [])])
 (.seq (.cond (.t 9)
 .skip
 (.ghost (.forget [6, 7, 8, 9]) (.ghost .lower (.exit 0))))
 (.seq (.block 1
 (.seq (.regionK false [
 (.o 10 (.indexAddr 1 (.t 6) (.t 8)), [9]),
 (.o 11 (.load none (.t 10)), [10]),
 (.o 5 (.move (.t 11)), [11])])
 (.seq (.regionK false [
 (.o 12 (.move (.t 5)), []),
 (.o 13 (.move (.t 3)), []),
 (.o 14 (.bin .neq (.t 12) (.t 13)), [12, 13])])
 (.cond (.t 14)
 (.seq (.regionK false [
 (.o 15 (.move (.t 5)), [3, 5, 6, 7, 8, 14]),
 (.o 2 (.move (.t 15)), [15])])
 .ret)
 .skip))))
 (.regionK false [
 (.o 16 (.bin .add (.t 8) (.i 1)), [5, 14]),
 (.o 8 (.move (.t 16)), [16])]))))

def a79 : AFunc := ⟨18, 1, [.tmp 2],
  (.seq (.regionK false [
 (.o 2 (.move (.i 0)), [2])])
 (.seq (.regionK false [
 (.o 3 (.move (.i 0)), [])])
 (.seq (.seq (.regionK false [
 (.o 6 (.move (.t 0)), [0]),
 (.o 7 (.len (.t 6)), []),
 (.o 8 (.move (.i 0)), [])])
 (.block 0
 (.loop
 (.ghost .lower a79_l0))))
 (.seq (.regionK false [
 (.o 17 (.move (.t 3)), [3]),
 (.o 2 (.move (.t 17)), [17])])
 .ret))))⟩

/-- cmp.Compare[int64] -/
def a80 : AFunc := ⟨20, 2, [.tmp 4],
  (.seq (.regionK false [
 (.o 4 (.move (.i 0)), [4])])
 (.seq (.regionK false [
 (.o 7 (.move (.t 0)), []),
 (.o 8 (.call false 104 [.t 7]), [7]),
 (.o 5 (.move (.t 8)), [8])])
 (.seq (.regionK false [
 (.o 9 (.move (.t 1)), []),
 (.o 10 (.call false 104 [.t 9]), [9]),
 (.o 6 (.move (.t 10)), [10])])
 (.seq (.seq (.regionK false [
 (.o 11 (.move (.t 5)), [5])])
 (.cond (.t 11)
 (.seq (.seq (.regionK false [
 (.o 12 (.move (.t 6)), [0, 1, 6, 11])])
 (.cond (.t 12)
 (.seq (.regionK false [
 (.o 4 (.move (.i 0)), [12])])
 .ret)
 .skip))
 (.seq (.regionK false [
 (.o 4 (.move (.i (-1))), [12])])
 .ret))
 .skip))
 (.seq (.seq (.regionK false [
 (.o 13 (.move (.t 6)), [6, 11])])
 (.cond (.t 13)
 (.seq (.regionK false [
 (.o 4 (.move (.i 1)), [0, 1, 13])])
 .ret)
 .skip))
 (.seq (.seq (.regionK false [
 (.o 14 (.move (.t 0)), [13]),
 (.o 15 (.move (.t 1)), []),
 (.o 16 (.bin .lss (.t 14) (.t 15)), [14, 15])])
 (.cond (.t 16)
 (.seq (.regionK false [
 (.o 4 (.move (.i (-1))), [0, 1, 16])])
 .ret)
 .skip))
 (.seq (.seq (.regionK false [
 (.o 17 (.move (.t 0)), [0, 16]),
 (.o 18 (.move (.t 1)), [1]),
 (.o 19 (.bin .gtr (.t 17) (.t 18)), [17, 18])])
 (.cond (.t 19)
 (.seq (.regionK false [
 (.o 4 (.move (.i 1)), [19])])
 .ret)
 .skip))
 (.seq (.regionK false [
 (.o 4 (.move (.i 0)), [19])])
 .ret))))))))⟩

/-- cmp.isNaN[int64] -/
def a104 : AFunc := ⟨6, 1, [.tmp 2],
  (.seq (.regionK false [
 (.o 2 (.move (.b false)), [2])])
 (.seq (.regionK false [
 (.o 3 (.move (.t 0)), []),
 (.o 4 (.move (.t 0)), [0]),
 (.o 5 (.bin .neq (.t 3) (.t 4)), [3, 4]),
 (.o 2 (.move (.t 5)), [5])])
 .ret))⟩


end Go.Dv.Try
