/-
  The annotated functions of this seat. Printed by wip/gen.py.
-/
import Derived.Test.YtphkbgjnhfidlaaGreatWalk
set_option linter.unusedVariables false
set_option maxRecDepth 100000
namespace Go.Dv.Tryz
open Go Go.Dv

def zz0 : List PV := [.int .i64 0, .int .i64 0, .int .i64 0, .str ⟨#[]⟩]
def zz1 : List PV := [.int .i64 0, .int .i64 0, .int .i64 0, .int .i64 0, .slice true [], .int .i64 0, .int .i64 0, .slice true [], .slice true [], .slice true []]
def zz2 : List PV := [.int .i64 0, .int .i64 0, .int .i64 0, .int .i64 0, .int .i64 0, .int .i64 0, .int .i64 0, .bool false, .slice true []]
attribute [go_sem] zz0 zz1 zz2

def a4 : AFunc := ⟨32, 2, [.tmp 4],
  (.seq (.regionK false [
 (.o 2 (.box (.t 0)), [0]),
 (.o 3 (.box (.t 1)), [1]),
 (.o 4 (.move (.b false)), [4])])
 (.seq (.regionK false [
 (.o 10 (.load (some 2) (.t 2)), []),
 (.o 11 (.load (some 4) (.t 3)), []),
 (.o 12 (.call false 16 [.t 10, .t 11]), [10, 11]),
 (.o 9 (.move (.t 12)), [12]),
 (.o 13 (.extract (.t 9) 0), []),
 (.o 14 (.extract (.t 9) 1), [9]),
 (.o 5 (.alloc [.slice true [], .slice true []]), []),
 (.u (.store 2 (.t 5) (.t 13)), [13]),
 (.o 6 (.move (.t 14)), [14])])
 (.seq (.regionK false [
 (.o 16 (.load (some 2) (.t 2)), []),
 (.o 17 (.load (some 4) (.t 3)), []),
 (.o 18 (.call false 17 [.t 16, .t 17]), [16, 17]),
 (.o 15 (.move (.t 18)), [18]),
 (.o 19 (.extract (.t 15) 0), []),
 (.o 20 (.extract (.t 15) 1), [15]),
 (.o 7 (.alloc [.slice true [], .slice true []]), []),
 (.u (.store 2 (.t 7) (.t 19)), [19]),
 (.o 8 (.move (.t 20)), [20])])
 (.seq (.regionK false [
 (.o 21 (.load (some 2) (.t 5)), []),
 (.o 22 (.load (some 2) (.t 7)), []),
 (.o 23 (.call false 18 [.t 21, .t 22]), [21, 22]),
 (.o 24 (.move (.t 23)), [23]),
 (.g 25 24 true (.move (.t 6)) [], [6]),
 (.g 26 24 true (.move (.t 8)) [], [8]),
 (.g 27 24 true (.bin .eql (.t 25) (.t 26)) [], [25, 26]),
 (.o 28 (.pick (.t 24) (.t 27) (.b false)), [24, 27]),
 (.o 29 (.move (.t 28)), [28]),
 (.g 30 29 true (.call false 15 []) [], []),
 (.o 31 (.pick (.t 29) (.t 30) (.b false)), [29, 30]),
 (.o 4 (.move (.t 31)), [31])])
 .ret))))⟩

def a5 : AFunc := ⟨36, 2, [.tmp 4],
  (.seq (.regionK false [
 (.o 4 (.move (.b false)), [4])])
 (.seq (.seq (.regionK false [
 (.o 9 (.move (.t 1)), []),
 (.o 10 (.call false 19 [.t 9, .i 120]), [9]),
 (.o 11 (.un .not (.t 10)), [10])])
 (.cond (.t 11)
 (.seq (.regionK false [
 (.o 12 (.call false 15 []), [0, 1, 11]),
 (.o 4 (.move (.t 12)), [12])])
 .ret)
 .skip))
 (.seq (.regionK false [
 (.o 14 (.move (.t 0)), [11]),
 (.o 15 (.move (.t 1)), []),
 (.o 16 (.call false 20 [.t 14, .t 15]), [14, 15]),
 (.o 13 (.move (.t 16)), [16]),
 (.o 17 (.extract (.t 13) 0), []),
 (.o 18 (.extract (.t 13) 1), [13]),
 (.o 5 (.alloc [.slice true [], .slice true []]), []),
 (.u (.store 2 (.t 5) (.t 17)), [17]),
 (.o 6 (.move (.t 18)), [18])])
 (.seq (.regionK false [
 (.o 20 (.move (.t 0)), [0]),
 (.o 21 (.move (.t 1)), [1]),
 (.o 22 (.call false 21 [.t 20, .t 21]), [20, 21]),
 (.o 19 (.move (.t 22)), [22]),
 (.o 23 (.extract (.t 19) 0), []),
 (.o 24 (.extract (.t 19) 1), [19]),
 (.o 7 (.alloc [.slice true [], .slice true []]), []),
 (.u (.store 2 (.t 7) (.t 23)), [23]),
 (.o 8 (.move (.t 24)), [24])])
 (.seq (.regionK false [
 (.o 25 (.load (some 2) (.t 5)), []),
 (.o 26 (.load (some 2) (.t 7)), []),
 (.o 27 (.call false 18 [.t 25, .t 26]), [25, 26]),
 (.o 28 (.move (.t 27)), [27]),
 (.g 29 28 true (.move (.t 6)) [], [6]),
 (.g 30 28 true (.move (.t 8)) [], [8]),
 (.g 31 28 true (.bin .eql (.t 29) (.t 30)) [], [29, 30]),
 (.o 32 (.pick (.t 28) (.t 31) (.b false)), [28, 31]),
 (.o 33 (.move (.t 32)), [32]),
 (.g 34 33 true (.call false 15 []) [], []),
 (.o 35 (.pick (.t 33) (.t 34) (.b false)), [33, 34]),
 (.o 4 (.move (.t 35)), [35])])
 .ret)))))⟩

@[irreducible] def a6_l0 : ACode :=
  (.seq (.regionK false [
 (.o 52 (.bin .lss (.t 51) (.t 50)), [])])
 (.seq (.cond (.t 52)
 .skip
 (.ghost (.forget [3, 49, 50, 51, 52]) (.ghost .lower (.exit 2))))
 (.seq (.block 3
 (.seq (.regionK false [
 (.o 53 (.indexAddr 9 (.t 49) (.t 51)), [52]),
 (.o 54 (.load (some 9) (.t 53)), [53]),
 (.o 7 (.alloc zz2), []),
 (.u (.store 9 (.t 7) (.t 54)), [54])])
 (.seq (.regionK false [
 (.o 55 (.load (some 9) (.t 7)), []),
 (.o 56 (.move (.t 3)), []),
 (.o 57 (.call false 23 [.t 55, .t 56]), [55, 56]),
 (.o 58 (.un .not (.t 57)), [57])])
 (.cond (.t 58)
 (.seq (.regionK false [
 (.o 2 (.move (.b false)), [3, 49, 50, 51, 58])])
 .ret)
 .skip))))
 (.regionK false [
 (.o 59 (.bin .add (.t 51) (.i 1)), [58]),
 (.o 51 (.move (.t 59)), [59])]))))

@[irreducible] def a6_l1 : ACode :=
  (.seq (.regionK false [
 (.o 27 (.bin .lss (.t 26) (.t 25)), [])])
 (.seq (.cond (.t 27)
 .skip
 (.ghost (.forget [24, 25, 26, 27]) (.ghost .lower (.exit 0))))
 (.seq (.block 1
 (.seq (.regionK false [
 (.o 28 (.move (.t 26)), [27]),
 (.o 29 (.indexAddr 10 (.t 24) (.t 26)), []),
 (.o 30 (.load (some 10) (.t 29)), [29]),
 (.o 5 (.alloc zz1), []),
 (.o 4 (.move (.t 28)), [28]),
 (.u (.store 10 (.t 5) (.t 30)), [30])])
 (.seq (.regionK false [
 (.o 31 (.fieldAddr 0 (.t 5)), []),
 (.o 32 (.load none (.t 31)), [31]),
 (.o 33 (.move (.t 4)), [4]),
 (.o 34 (.bin .add (.t 33) (.i 1)), [33]),
 (.o 35 (.bin .neq (.t 32) (.t 34)), [32, 34]),
 (.o 36 (.move (.t 35)), [35]),
 (.g 37 36 false (.fieldAddr 1 (.t 5)) [], []),
 (.g 38 36 false (.load none (.t 37)) [], [37]),
 (.g 39 36 false (.move (.t 3)) [], []),
 (.g 40 36 false (.bin .neq (.t 38) (.t 39)) [], [38, 39]),
 (.o 41 (.pick (.t 36) (.b true) (.t 40)), [36, 40]),
 (.o 42 (.move (.t 41)), [41]),
 (.g 43 42 false (.load (some 10) (.t 5)) [], []),
 (.g 44 42 false (.call false 22 [.t 43]) [], [43]),
 (.g 45 42 false (.un .not (.t 44)) [], [44]),
 (.o 46 (.pick (.t 42) (.b true) (.t 45)), [42, 45])])
 (.cond (.t 46)
 (.seq (.regionK false [
 (.o 2 (.move (.b false)), [3, 24, 25, 26, 46])])
 .ret)
 .skip))))
 (.regionK false [
 (.o 47 (.bin .add (.t 26) (.i 1)), [46]),
 (.o 26 (.move (.t 47)), [47])]))))

def a6 : AFunc := ⟨60, 1, [.tmp 2],
  (.seq (.regionK false [
 (.o 1 (.box (.t 0)), [0]),
 (.o 2 (.move (.b false)), [2])])
 (.seq (.regionK false [
 (.o 8 (.fieldAddr 0 (.t 1)), []),
 (.o 9 (.load none (.t 8)), [8]),
 (.o 10 (.len (.t 9)), [9]),
 (.o 3 (.move (.t 10)), [10])])
 (.seq (.seq (.regionK false [
 (.o 11 (.move (.t 3)), []),
 (.o 12 (.bin .lss (.t 11) (.i 1)), [11]),
 (.o 13 (.move (.t 12)), [12]),
 (.g 14 13 false (.move (.t 3)) [], []),
 (.g 15 13 false (.bin .gtr (.t 14) (.i 7)) [], [14]),
 (.o 16 (.pick (.t 13) (.b true) (.t 15)), [13, 15]),
 (.o 17 (.move (.t 16)), [16]),
 (.g 18 17 false (.fieldAddr 1 (.t 1)) [], []),
 (.g 19 17 false (.load none (.t 18)) [], [18]),
 (.g 20 17 false (.len (.t 19)) [], [19]),
 (.g 21 17 false (.bin .gtr (.t 20) (.i 256)) [], [20]),
 (.o 22 (.pick (.t 17) (.b true) (.t 21)), [17, 21])])
 (.cond (.t 22)
 (.seq (.regionK false [
 (.o 2 (.move (.b false)), [3, 22])])
 .ret)
 .skip))
 (.seq (.seq (.regionK false [
 (.o 23 (.fieldAddr 0 (.t 1)), [22]),
 (.o 24 (.load none (.t 23)), [23]),
 (.o 25 (.len (.t 24)), []),
 (.o 26 (.move (.i 0)), [])])
 (.block 0
 (.loop
 (.ghost (.free [5]) (.ghost .lower a6_l1)))))
 (.seq (.seq (.regionK false [
 (.o 48 (.fieldAddr 1 (.t 1)), []),
 (.o 49 (.load none (.t 48)), [48]),
 (.o 50 (.len (.t 49)), []),
 (.o 51 (.move (.i 0)), [])])
 (.block 2
 (.loop
 (.ghost (.free [1, 7]) (.ghost .lower a6_l0)))))
 (.seq (.regionK false [
 (.o 2 (.move (.b true)), [])])
 .ret))))))⟩

@[irreducible] def a7_l0 : ACode :=
  (.seq (.seq (.regionK false [
 (.o 48 (.move (.t 6)), []),
 (.o 49 (.fieldAddr 1 (.t 1)), []),
 (.o 50 (.load none (.t 49)), [49]),
 (.o 51 (.len (.t 50)), [50]),
 (.o 52 (.bin .lss (.t 48) (.t 51)), [48, 51])])
 (.cond (.t 52)
 .skip
 (.ghost (.forget [3, 6, 52]) (.ghost (.free [1]) (.ghost .lower (.exit 2))))))
 (.seq (.block 3
 (.seq (.regionK false [
 (.o 55 (.fieldAddr 1 (.t 1)), [52]),
 (.o 56 (.load none (.t 55)), [55]),
 (.o 57 (.move (.t 6)), []),
 (.o 58 (.indexAddr 9 (.t 56) (.t 57)), [56, 57]),
 (.o 59 (.load (some 9) (.t 58)), [58]),
 (.o 60 (.move (.t 3)), []),
 (.o 61 (.call false 25 [.t 59, .t 60]), [59, 60]),
 (.o 62 (.un .not (.t 61)), [61])])
 (.cond (.t 62)
 (.seq (.regionK false [
 (.o 2 (.move (.b false)), [3, 6, 62])])
 .ret)
 .skip)))
 (.regionK false [
 (.o 53 (.move (.t 6)), [62]),
 (.o 54 (.bin .add (.t 53) (.i 1)), [53]),
 (.o 6 (.move (.t 54)), [54])])))

@[irreducible] def a7_l1 : ACode :=
  (.seq (.seq (.regionK false [
 (.o 22 (.move (.t 4)), []),
 (.o 23 (.move (.t 3)), []),
 (.o 24 (.bin .lss (.t 22) (.t 23)), [22, 23])])
 (.cond (.t 24)
 .skip
 (.ghost (.forget [4, 24]) (.ghost .lower (.exit 0)))))
 (.seq (.block 1
 (.seq (.regionK false [
 (.o 27 (.fieldAddr 0 (.t 1)), [24]),
 (.o 28 (.load none (.t 27)), [27]),
 (.o 29 (.move (.t 4)), []),
 (.o 30 (.indexAddr 10 (.t 28) (.t 29)), [28, 29]),
 (.o 31 (.load (some 10) (.t 30)), [30]),
 (.o 5 (.alloc zz1), []),
 (.u (.store 10 (.t 5) (.t 31)), [31])])
 (.seq (.regionK false [
 (.o 32 (.fieldAddr 0 (.t 5)), []),
 (.o 33 (.load none (.t 32)), [32]),
 (.o 34 (.move (.t 4)), []),
 (.o 35 (.bin .add (.t 34) (.i 1)), [34]),
 (.o 36 (.bin .neq (.t 33) (.t 35)), [33, 35]),
 (.o 37 (.move (.t 36)), [36]),
 (.g 38 37 false (.fieldAddr 1 (.t 5)) [], []),
 (.g 39 37 false (.load none (.t 38)) [], [38]),
 (.g 40 37 false (.move (.t 3)) [], []),
 (.g 41 37 false (.bin .neq (.t 39) (.t 40)) [], [39, 40]),
 (.o 42 (.pick (.t 37) (.b true) (.t 41)), [37, 41]),
 (.o 43 (.move (.t 42)), [42]),
 (.g 44 43 false (.load (some 10) (.t 5)) [], []),
 (.g 45 43 false (.call false 24 [.t 44]) [], [44]),
 (.g 46 43 false (.un .not (.t 45)) [], [45]),
 (.o 47 (.pick (.t 43) (.b true) (.t 46)), [43, 46])])
 (.cond (.t 47)
 (.seq (.regionK false [
 (.o 2 (.move (.b false)), [3, 4, 47])])
 .ret)
 .skip))))
 (.regionK false [
 (.o 25 (.move (.t 4)), [47]),
 (.o 26 (.bin .add (.t 25) (.i 1)), [25]),
 (.o 4 (.move (.t 26)), [26])])))

def a7 : AFunc := ⟨63, 1, [.tmp 2],
  (.seq (.regionK false [
 (.o 1 (.box (.t 0)), [0]),
 (.o 2 (.move (.b false)), [2])])
 (.seq (.regionK false [
 (.o 7 (.fieldAddr 0 (.t 1)), []),
 (.o 8 (.load none (.t 7)), [7]),
 (.o 9 (.len (.t 8)), [8]),
 (.o 3 (.move (.t 9)), [9])])
 (.seq (.seq (.regionK false [
 (.o 10 (.move (.t 3)), []),
 (.o 11 (.bin .lss (.t 10) (.i 1)), [10]),
 (.o 12 (.move (.t 11)), [11]),
 (.g 13 12 false (.move (.t 3)) [], []),
 (.g 14 12 false (.bin .gtr (.t 13) (.i 7)) [], [13]),
 (.o 15 (.pick (.t 12) (.b true) (.t 14)), [12, 14]),
 (.o 16 (.move (.t 15)), [15]),
 (.g 17 16 false (.fieldAddr 1 (.t 1)) [], []),
 (.g 18 16 false (.load none (.t 17)) [], [17]),
 (.g 19 16 false (.len (.t 18)) [], [18]),
 (.g 20 16 false (.bin .gtr (.t 19) (.i 256)) [], [19]),
 (.o 21 (.pick (.t 16) (.b true) (.t 20)), [16, 20])])
 (.cond (.t 21)
 (.seq (.regionK false [
 (.o 2 (.move (.b false)), [3, 21])])
 .ret)
 .skip))
 (.seq (.seq (.regionK false [
 (.o 4 (.move (.i 0)), [21])])
 (.block 0
 (.loop
 (.ghost (.free [5]) (.ghost .lower a7_l1)))))
 (.seq (.seq (.regionK false [
 (.o 6 (.move (.i 0)), [])])
 (.block 2
 (.loop
 (.ghost .lower a7_l0))))
 (.seq (.regionK false [
 (.o 2 (.move (.b true)), [])])
 .ret))))))⟩

@[irreducible] def a8_l0 : ACode :=
  (.seq (.regionK false [
 (.o 10 (.bin .lss (.t 9) (.t 8)), [])])
 (.seq (.cond (.t 10)
 .skip
 (.ghost (.forget [7, 8, 9, 10]) (.ghost (.free [1]) (.ghost .lower (.exit 0)))))
 (.seq (.block 1
 (.seq (.regionK false [
 (.o 11 (.move (.t 9)), [10]),
 (.o 12 (.indexAddr 10 (.t 7) (.t 9)), []),
 (.o 13 (.load (some 10) (.t 12)), [12]),
 (.o 5 (.alloc zz1), []),
 (.o 4 (.move (.t 11)), [11]),
 (.u (.store 10 (.t 5) (.t 13)), [13])])
 (.seq (.regionK true [
 (.o 14 (.fieldAddr 5 (.t 5)), []),
 (⟨some 15, .load none (.t 14), none, [0]⟩, [14]),
 (⟨some 16, .bin .eql (.t 15) (.i 3), none, [0, 1]⟩, [15]),
 (⟨some 17, .move (.t 16), none, [0, 1, 2]⟩, [16]),
 (.g 18 17 true (.move (.t 3)) [0, 1, 2, 3], []),
 (.g 19 17 true (.bin .lss (.t 18) (.i 0)) [0, 1, 2, 3, 4], [18]),
 (.g 20 17 true (.move (.t 19)) [0, 1, 2, 3, 4, 5], [19]),
 (.g 21 20 false (.fieldAddr 2 (.t 5)) [0, 1, 2, 3, 4, 5, 6], []),
 (.g 22 20 false (.load none (.t 21)) [0, 1, 2, 3, 4, 5, 6, 7], [21]),
 (.g 23 20 false (.fieldAddr 0 (.t 1)) [0, 1, 2, 3, 4, 5, 6], []),
 (.g 24 20 false (.load none (.t 23)) [0, 1, 2, 3, 4, 5, 6, 9], [23]),
 (.g 25 20 false (.move (.t 3)) [0, 1, 2, 3, 4, 5, 6], []),
 (.g 26 20 false (.indexAddr 10 (.t 24) (.t 25)) [0, 1, 2, 3, 4, 5, 6, 9, 10, 11], [24, 25]),
 (.g 27 20 false (.fieldAddr 2 (.t 26)) [0, 1, 2, 3, 4, 5, 6, 9, 10, 11, 12], [26]),
 (.g 28 20 false (.load none (.t 27)) [0, 1, 2, 3, 4, 5, 6, 9, 10, 11, 12, 13], [27]),
 (.g 29 20 false (.bin .gtr (.t 22) (.t 28)) [0, 1, 2, 3, 4, 5, 6, 7, 8, 9, 10, 11, 12, 13, 14], [22, 28]),
 (.g 30 17 true (.pick (.t 20) (.b true) (.t 29)) [0, 1, 2, 3, 4, 5, 6, 7, 8, 9, 10, 11, 12, 13, 14, 15], [20, 29]),
 (⟨some 31, .pick (.t 17) (.t 30) (.b false), none, [0, 1, 2, 3, 4, 5, 6, 7, 8, 9, 10, 11, 12, 13, 14, 15, 16]⟩, [17, 30])])
 (.cond (.t 31)
 (.regionK false [
 (.o 32 (.move (.t 4)), [4, 31]),
 (.o 3 (.move (.t 32)), [32])])
 .skip))))
 (.regionK false [
 (.o 33 (.bin .add (.t 9) (.i 1)), [4, 31]),
 (.o 9 (.move (.t 33)), [33])]))))

def a8 : AFunc := ⟨36, 1, [.tmp 2],
  (.seq (.regionK false [
 (.o 1 (.box (.t 0)), [0]),
 (.o 2 (.move (.i 0)), [2])])
 (.seq (.regionK false [
 (.o 3 (.move (.i (-1))), [])])
 (.seq (.seq (.regionK false [
 (.o 6 (.fieldAddr 0 (.t 1)), []),
 (.o 7 (.load none (.t 6)), [6]),
 (.o 8 (.len (.t 7)), []),
 (.o 9 (.move (.i 0)), [])])
 (.block 0
 (.loop
 (.ghost (.free [5]) (.ghost .lower a8_l0)))))
 (.seq (.regionK false [
 (.o 34 (.move (.t 3)), [3]),
 (.o 35 (.bin .add (.t 34) (.i 1)), [34]),
 (.o 2 (.move (.t 35)), [35])])
 .ret))))⟩

@[irreducible] def a11_l0 : ACode :=
  (.seq (.regionK false [
 (.o 11 (.bin .lss (.t 10) (.t 9)), [])])
 (.seq (.cond (.t 11)
 .skip
 (.ghost (.forget [8, 9, 10, 11]) (.ghost .lower (.exit 0))))
 (.seq (.block 1
 (.seq (.regionK false [
 (.o 12 (.indexAddr 10 (.t 8) (.t 10)), [11]),
 (.o 13 (.load (some 10) (.t 12)), [12]),
 (.o 5 (.alloc zz1), []),
 (.u (.store 10 (.t 5) (.t 13)), [13])])
 (.seq (.regionK false [
 (.o 14 (.load (some 10) (.t 5)), []),
 (.o 15 (.call false 27 [.t 14]), [14]),
 (.o 6 (.move (.t 15)), [15])])
 (.seq (.regionK false [
 (.o 16 (.move (.t 6)), []),
 (.o 17 (.len (.t 16)), [16]),
 (.o 18 (.move (.t 3)), []),
 (.o 19 (.len (.t 18)), [18]),
 (.o 20 (.bin .gtr (.t 17) (.t 19)), [17, 19])])
 (.cond (.t 20)
 (.regionK false [
 (.o 21 (.move (.t 6)), [6, 20]),
 (.o 3 (.move (.t 21)), [21])])
 .skip)))))
 (.regionK false [
 (.o 22 (.bin .add (.t 10) (.i 1)), [6, 20]),
 (.o 10 (.move (.t 22)), [22])]))))

def a11 : AFunc := ⟨25, 1, [.tmp 2],
  (.seq (.regionK false [
 (.o 1 (.box (.t 0)), [0]),
 (.o 2 (.move (.c (.p (.slice true [])))), [2])])
 (.seq (.regionK false [
 (.o 3 (.move (.c (.p (.slice true [])))), [])])
 (.seq (.seq (.regionK false [
 (.o 7 (.fieldAddr 0 (.t 1)), []),
 (.o 8 (.load none (.t 7)), [7]),
 (.o 9 (.len (.t 8)), []),
 (.o 10 (.move (.i 0)), [])])
 (.block 0
 (.loop
 (.ghost (.free [1, 5]) (.ghost .lower a11_l0)))))
 (.seq (.regionK false [
 (.o 23 (.move (.t 3)), [3]),
 (.o 24 (.call false 28 [.t 23]), [23]),
 (.o 2 (.move (.t 24)), [24])])
 .ret))))⟩

@[irreducible] def a13_l0 : ACode :=
  (.seq (.regionK false [
 (.o 11 (.bin .lss (.t 10) (.t 9)), [])])
 (.seq (.cond (.t 11)
 .skip
 (.ghost (.forget [3, 8, 9, 10, 11]) (.ghost .lower (.exit 0))))
 (.seq (.block 1
 (.seq (.regionK false [
 (.o 12 (.indexAddr 10 (.t 8) (.t 10)), [11]),
 (.o 13 (.load (some 10) (.t 12)), [12]),
 (.o 5 (.alloc zz1), []),
 (.u (.store 10 (.t 5) (.t 13)), [13])])
 (.seq (.regionK false [
 (.o 14 (.load (some 10) (.t 5)), []),
 (.o 15 (.call false 27 [.t 14]), [14]),
 (.o 6 (.alloc [.slice true []]), []),
 (.u (.store 1 (.t 6) (.t 15)), [15])])
 (.seq (.seq (.regionK false [
 (.o 16 (.move (.t 3)), []),
 (.o 17 (.mkfunc 31 [.t 6]), []),
 (.o 18 (.call false 30 [.t 16, .t 17]), [16, 17])])
 (.cond (.t 18)
 (.seq (.regionK false [
 (.o 2 (.move (.b false)), [3, 8, 9, 10, 18])])
 .ret)
 .skip))
 (.regionK false [
 (.o 19 (.move (.t 3)), [18]),
 (.o 20 (.load none (.t 6)), []),
 (.o 21 (.buildSlice [.slice true []] 1 [(0, .t 20)]), [20]),
 (.o 22 (.append 24 1 (.t 19) (.t 21)), [19, 21]),
 (.o 3 (.move (.t 22)), [22])])))))
 (.regionK false [
 (.o 23 (.bin .add (.t 10) (.i 1)), []),
 (.o 10 (.move (.t 23)), [23])]))))

def a13 : AFunc := ⟨24, 1, [.tmp 2],
  (.seq (.regionK false [
 (.o 1 (.box (.t 0)), [0]),
 (.o 2 (.move (.b false)), [2])])
 (.seq (.regionK false [
 (.o 3 (.move (.c (.p (.slice true [])))), [])])
 (.ghost (.own 1 3) (.seq (.seq (.regionK false [
 (.o 7 (.fieldAddr 0 (.t 1)), []),
 (.o 8 (.load none (.t 7)), [7]),
 (.o 9 (.len (.t 8)), []),
 (.o 10 (.move (.i 0)), [])])
 (.block 0
 (.loop
 (.ghost (.free [1, 5, 6]) (.ghost .lower a13_l0)))))
 (.seq (.regionK false [
 (.o 2 (.move (.b true)), [])])
 .ret)))))⟩

def a15 : AFunc := ⟨62, 0, [.tmp 0],
  (.seq (.regionK false [
 (.o 0 (.move (.b false)), [0])])
 (.seq (.regionK false [
 (.o 9 (.build zz0 [(0, 1, .i 1), (1, 1, .i 1)]), []),
 (.o 10 (.build zz0 [(0, 1, .i 4)]), []),
 (.o 11 (.build zz0 [(0, 1, .i 4), (2, 1, .i 1)]), []),
 (.o 12 (.buildSlice zz0 3 [(0, .t 9), (1, .t 10), (2, .t 11)]), [9, 10, 11]),
 (.o 13 (.call false 20 [.i 3, .t 12]), [12]),
 (.o 8 (.move (.t 13)), [13]),
 (.o 14 (.extract (.t 8) 0), []),
 (.o 15 (.extract (.t 8) 1), [8]),
 (.o 1 (.alloc [.slice true [], .slice true []]), []),
 (.u (.store 2 (.t 1) (.t 14)), [14]),
 (.o 2 (.move (.t 15)), [15])])
 (.seq (.seq (.regionK false [
 (.o 16 (.move (.t 2)), [2]),
 (.o 17 (.bin .neq (.t 16) (.i 0)), [16]),
 (.o 18 (.move (.t 17)), [17]),
 (.g 19 18 false (.load (some 2) (.t 1)) [], []),
 (.g 20 18 false (.call false 8 [.t 19]) [], [19]),
 (.g 21 18 false (.bin .neq (.t 20) (.i 1)) [], [20]),
 (.o 22 (.pick (.t 18) (.b true) (.t 21)), [18, 21])])
 (.cond (.t 22)
 (.seq (.regionK false [
 (.o 0 (.move (.b false)), [22])])
 .ret)
 .skip))
 (.seq (.regionK false [
 (.o 24 (.build zz0 [(0, 1, .i 1), (1, 1, .i 1)]), [22]),
 (.o 25 (.build zz0 [(0, 1, .i 4)]), []),
 (.o 26 (.build zz0 [(0, 1, .i 4), (2, 1, .i 1)]), []),
 (.o 27 (.build zz0 [(0, 1, .i 3), (1, 1, .i 1), (3, 1, .c (.p (.str ⟨#[97]⟩)))]), []),
 (.o 28 (.build zz0 [(0, 1, .i 2), (1, 1, .i 1)]), []),
 (.o 29 (.build zz0 [(0, 1, .i 4), (2, 1, .i 1)]), []),
 (.o 30 (.build zz0 [(0, 1, .i 4), (2, 1, .i 2)]), []),
 (.o 31 (.buildSlice zz0 7 [(0, .t 24), (1, .t 25), (2, .t 26), (3, .t 27), (4, .t 28), (5, .t 29), (6, .t 30)]), [24, 25, 26, 27, 28, 29, 30]),
 (.o 32 (.call false 20 [.i 3, .t 31]), [31]),
 (.o 23 (.move (.t 32)), [32]),
 (.o 33 (.extract (.t 23) 0), []),
 (.o 34 (.extract (.t 23) 1), [23]),
 (.o 3 (.alloc [.slice true [], .slice true []]), []),
 (.u (.store 2 (.t 3) (.t 33)), [33]),
 (.o 4 (.move (.t 34)), [34])])
 (.seq (.regionK false [
 (.o 35 (.load (some 2) (.t 3)), []),
 (.o 36 (.call false 11 [.t 35]), [35]),
 (.o 5 (.move (.t 36)), [36])])
 (.seq (.regionK false [
 (.o 38 (.call false 33 [.i 0]), []),
 (.o 37 (.move (.t 38)), [38]),
 (.o 39 (.extract (.t 37) 0), []),
 (.o 40 (.extract (.t 37) 1), [37]),
 (.o 6 (.alloc [.slice true [], .slice true []]), []),
 (.u (.store 2 (.t 6) (.t 39)), [39]),
 (.o 7 (.move (.t 40)), [40])])
 (.seq (.regionK false [
 (.o 41 (.move (.t 4)), [4]),
 (.o 42 (.bin .eql (.t 41) (.i 0)), [41]),
 (.o 43 (.move (.t 42)), [42]),
 (.g 44 43 true (.move (.t 5)) [], []),
 (.g 45 43 true (.len (.t 44)) [], [44]),
 (.g 46 43 true (.bin .eql (.t 45) (.i 1)) [], [45]),
 (.o 47 (.pick (.t 43) (.t 46) (.b false)), [43, 46]),
 (.o 48 (.move (.t 47)), [47]),
 (.g 49 48 true (.move (.t 5)) [], [5]),
 (.g 50 48 true (.indexAddr 1 (.t 49) (.i 0)) [], [49]),
 (.g 51 48 true (.load none (.t 50)) [], [50]),
 (.g 52 48 true (.bin .eql (.t 51) (.c (.p (.str ⟨#[97]⟩)))) [], [51]),
 (.o 53 (.pick (.t 48) (.t 52) (.b false)), [48, 52]),
 (.o 54 (.move (.t 53)), [53]),
 (.g 55 54 true (.load (some 2) (.t 3)) [], []),
 (.g 56 54 true (.call false 13 [.t 55]) [], [55]),
 (.o 57 (.pick (.t 54) (.t 56) (.b false)), [54, 56]),
 (.o 58 (.move (.t 57)), [57]),
 (.g 59 58 true (.move (.t 7)) [], [7]),
 (.g 60 58 true (.bin .eql (.t 59) (.i 1)) [], [59]),
 (.o 61 (.pick (.t 58) (.t 60) (.b false)), [58, 60]),
 (.o 0 (.move (.t 61)), [61])])
 .ret)))))))⟩

def a16 : AFunc := ⟨55, 2, [.cell 4 2, .tmp 5],
  (.seq (.regionK false [
 (.o 2 (.box (.t 0)), [0]),
 (.o 3 (.box (.t 1)), [1]),
 (.o 4 (.alloc [.slice true [], .slice true []]), []),
 (.o 5 (.move (.i 0)), [5])])
 (.seq (.seq (.regionK false [
 (.o 8 (.load (some 2) (.t 2)), []),
 (.o 9 (.call false 6 [.t 8]), [8]),
 (.o 10 (.un .not (.t 9)), [9]),
 (.o 11 (.move (.t 10)), [10]),
 (.g 12 11 false (.fieldAddr 0 (.t 3)) [], []),
 (.g 13 11 false (.load none (.t 12)) [], [12]),
 (.g 14 11 false (.bin .lss (.t 13) (.i 1)) [], [13]),
 (.o 15 (.pick (.t 11) (.b true) (.t 14)), [11, 14]),
 (.o 16 (.move (.t 15)), [15]),
 (.g 17 16 false (.fieldAddr 0 (.t 3)) [], []),
 (.g 18 16 false (.load none (.t 17)) [], [17]),
 (.g 19 16 false (.bin .gtr (.t 18) (.i 7)) [], [18]),
 (.o 20 (.pick (.t 16) (.b true) (.t 19)), [16, 19])])
 (.cond (.t 20)
 (.seq (.regionK false [
 (.o 21 (.build [.slice true [], .slice true []] []), [20]),
 (.u (.store 2 (.t 4) (.t 21)), [21]),
 (.o 5 (.move (.i 1)), [])])
 .ret)
 .skip))
 (.seq (.seq (.regionK false [
 (.o 22 (.fieldAddr 0 (.t 3)), [20]),
 (.o 23 (.load none (.t 22)), [22])])
 (.block 0
 (.seq (.seq (.regionK false [
 (.o 25 (.bin .eql (.t 23) (.i 4)), []),
 (.o 24 (.move (.t 25)), [25])])
 (.cond (.t 24)
 .skip
 (.seq (.regionK false [
 (.o 26 (.bin .eql (.t 23) (.i 5)), []),
 (.o 24 (.move (.t 26)), [26])])
 (.cond (.t 24)
 .skip
 (.regionK false [
 (.o 27 (.bin .eql (.t 23) (.i 6)), [23]),
 (.o 24 (.move (.t 27)), [27])])))))
 (.cond (.t 24)
 (.seq (.regionK false [
 (.o 28 (.load (some 2) (.t 2)), [23, 24]),
 (.o 29 (.load (some 4) (.t 3)), []),
 (.o 30 (.call false 34 [.t 28, .t 29]), [28, 29]),
 (.o 31 (.extract (.t 30) 0), []),
 (.o 32 (.extract (.t 30) 1), [30]),
 (.u (.store 2 (.t 4) (.t 31)), [31]),
 (.o 5 (.move (.t 32)), [32])])
 .ret)
 .skip))))
 (.seq (.seq (.regionK false [
 (.o 33 (.fieldAddr 1 (.t 3)), [23, 24]),
 (.o 34 (.load none (.t 33)), [33]),
 (.o 35 (.bin .lss (.t 34) (.i 1)), [34]),
 (.o 36 (.move (.t 35)), [35]),
 (.g 37 36 false (.fieldAddr 1 (.t 3)) [], []),
 (.g 38 36 false (.load none (.t 37)) [], [37]),
 (.g 39 36 false (.fieldAddr 0 (.t 2)) [], []),
 (.g 40 36 false (.load none (.t 39)) [], [39]),
 (.g 41 36 false (.len (.t 40)) [], [40]),
 (.g 42 36 false (.bin .gtr (.t 38) (.t 41)) [], [38, 41]),
 (.o 43 (.pick (.t 36) (.b true) (.t 42)), [36, 42])])
 (.cond (.t 43)
 (.seq (.regionK false [
 (.o 44 (.build [.slice true [], .slice true []] []), [43]),
 (.u (.store 2 (.t 4) (.t 44)), [44]),
 (.o 5 (.move (.i 1)), [])])
 .ret)
 .skip))
 (.seq (.regionK false [
 (.o 6 (.alloc [.int .i64 0]), [43]),
 (.u (.store 1 (.t 6) (.i 0)), [])])
 (.seq (.regionK false [
 (.o 45 (.load (some 2) (.t 2)), []),
 (.o 46 (.fieldAddr 1 (.t 3)), []),
 (.o 47 (.load none (.t 46)), [46]),
 (.o 48 (.mkfunc 36 [.t 3, .t 6]), []),
 (.o 49 (.call true 35 [.t 45, .t 47, .t 48]), [45, 47, 48]),
 (.o 7 (.alloc [.slice true [], .slice true []]), []),
 (.u (.store 2 (.t 7) (.t 49)), [49])])
 (.seq (.seq (.regionK false [
 (.o 50 (.load none (.t 6)), []),
 (.o 51 (.bin .neq (.t 50) (.i 0)), [50])])
 (.cond (.t 51)
 (.seq (.regionS [(1, 2)] [
 .o 52 (.build [.slice true [], .slice true []] []),
 .o 53 (.load none (.t 6)),
 ⟨none, .store 2 (.t 4) (.t 52), none, [0]⟩,
 ⟨some 5, .move (.t 53), none, [0, 1, 2]⟩] [51, 52, 53])
 .ret)
 .skip))
 (.seq (.regionK false [
 (.o 54 (.load (some 2) (.t 7)), [51]),
 (.u (.store 2 (.t 4) (.t 54)), [54]),
 (.o 5 (.move (.i 0)), [])])
 .ret))))))))⟩

def a17 : AFunc := ⟨102, 2, [.cell 4 2, .tmp 5],
  (.seq (.regionK false [
 (.o 2 (.box (.t 0)), [0]),
 (.o 3 (.box (.t 1)), [1]),
 (.o 4 (.alloc [.slice true [], .slice true []]), []),
 (.o 5 (.move (.i 0)), [5])])
 (.seq (.seq (.regionK false [
 (.o 11 (.load (some 2) (.t 2)), []),
 (.o 12 (.call false 7 [.t 11]), [11]),
 (.o 13 (.un .not (.t 12)), [12]),
 (.o 14 (.move (.t 13)), [13]),
 (.g 15 14 false (.fieldAddr 0 (.t 3)) [], []),
 (.g 16 14 false (.load none (.t 15)) [], [15]),
 (.g 17 14 false (.bin .lss (.t 16) (.i 1)) [], [16]),
 (.o 18 (.pick (.t 14) (.b true) (.t 17)), [14, 17]),
 (.o 19 (.move (.t 18)), [18]),
 (.g 20 19 false (.fieldAddr 0 (.t 3)) [], []),
 (.g 21 19 false (.load none (.t 20)) [], [20]),
 (.g 22 19 false (.bin .gtr (.t 21) (.i 7)) [], [21]),
 (.o 23 (.pick (.t 19) (.b true) (.t 22)), [19, 22])])
 (.cond (.t 23)
 (.seq (.regionK false [
 (.o 24 (.build [.slice true [], .slice true []] []), [23]),
 (.u (.store 2 (.t 4) (.t 24)), [24]),
 (.o 5 (.move (.i 1)), [])])
 .ret)
 .skip))
 (.seq (.seq (.regionK false [
 (.o 25 (.fieldAddr 0 (.t 3)), [23]),
 (.o 26 (.load none (.t 25)), [25]),
 (.o 27 (.bin .eql (.t 26) (.i 4)), [26]),
 (.o 28 (.move (.t 27)), [27]),
 (.g 29 28 false (.fieldAddr 0 (.t 3)) [], []),
 (.g 30 28 false (.load none (.t 29)) [], [29]),
 (.g 31 28 false (.bin .eql (.t 30) (.i 5)) [], [30]),
 (.o 32 (.pick (.t 28) (.b true) (.t 31)), [28, 31]),
 (.o 33 (.move (.t 32)), [32]),
 (.g 34 33 false (.fieldAddr 0 (.t 3)) [], []),
 (.g 35 33 false (.load none (.t 34)) [], [34]),
 (.g 36 33 false (.bin .eql (.t 35) (.i 6)) [], [35]),
 (.o 37 (.pick (.t 33) (.b true) (.t 36)), [33, 36])])
 (.cond (.t 37)
 (.seq (.regionK false [
 (.o 38 (.load (some 2) (.t 2)), [37]),
 (.o 39 (.load (some 4) (.t 3)), []),
 (.o 40 (.call false 41 [.t 38, .t 39]), [38, 39]),
 (.o 41 (.extract (.t 40) 0), []),
 (.o 42 (.extract (.t 40) 1), [40]),
 (.u (.store 2 (.t 4) (.t 41)), [41]),
 (.o 5 (.move (.t 42)), [42])])
 .ret)
 .skip))
 (.seq (.seq (.regionK false [
 (.o 43 (.fieldAddr 1 (.t 3)), [37]),
 (.o 44 (.load none (.t 43)), [43]),
 (.o 45 (.bin .lss (.t 44) (.i 1)), [44]),
 (.o 46 (.move (.t 45)), [45]),
 (.g 47 46 false (.fieldAddr 1 (.t 3)) [], []),
 (.g 48 46 false (.load none (.t 47)) [], [47]),
 (.g 49 46 false (.fieldAddr 0 (.t 2)) [], []),
 (.g 50 46 false (.load none (.t 49)) [], [49]),
 (.g 51 46 false (.len (.t 50)) [], [50]),
 (.g 52 46 false (.bin .gtr (.t 48) (.t 51)) [], [48, 51]),
 (.o 53 (.pick (.t 46) (.b true) (.t 52)), [46, 52])])
 (.cond (.t 53)
 (.seq (.regionK false [
 (.o 54 (.build [.slice true [], .slice true []] []), [53]),
 (.u (.store 2 (.t 4) (.t 54)), [54]),
 (.o 5 (.move (.i 1)), [])])
 .ret)
 .skip))
 (.seq (.regionK false [
 (.o 55 (.fieldAddr 0 (.t 2)), [53]),
 (.o 56 (.load none (.t 55)), [55]),
 (.o 57 (.fieldAddr 1 (.t 3)), []),
 (.o 58 (.load none (.t 57)), [57]),
 (.o 59 (.bin .sub (.t 58) (.i 1)), [58]),
 (.o 60 (.indexAddr 10 (.t 56) (.t 59)), [56, 59]),
 (.o 61 (.load (some 10) (.t 60)), [60]),
 (.o 6 (.alloc zz1), []),
 (.u (.store 10 (.t 6) (.t 61)), [61])])
 (.seq (.seq (.regionK false [
 (.o 62 (.fieldAddr 0 (.t 3)), []),
 (.o 63 (.load none (.t 62)), [62])])
 (.block 0
 (.seq (.regionK false [
 (.o 65 (.bin .eql (.t 63) (.i 1)), []),
 (.o 64 (.move (.t 65)), [65])])
 (.cond (.t 64)
 (.seq (.regionK false [
 (.o 67 (.load (some 10) (.t 6)), [63, 64]),
 (.o 68 (.call false 42 [.t 67]), [67]),
 (.o 66 (.move (.t 68)), [68]),
 (.o 69 (.extract (.t 66) 0), []),
 (.o 70 (.extract (.t 66) 1), [66]),
 (.o 7 (.alloc zz1), []),
 (.u (.store 10 (.t 7) (.t 69)), [69]),
 (.o 8 (.move (.t 70)), [70])])
 (.seq (.regionK false [
 (.o 71 (.load (some 2) (.t 2)), []),
 (.o 72 (.load (some 10) (.t 7)), []),
 (.o 73 (.move (.t 8)), [8]),
 (.o 74 (.call false 43 [.t 71, .t 72, .t 73]), [71, 72, 73]),
 (.u (.store 2 (.t 4) (.t 74)), [74]),
 (.o 5 (.move (.i 0)), [])])
 .ret))
 (.seq (.regionK false [
 (.o 76 (.bin .eql (.t 63) (.i 2)), [64]),
 (.o 75 (.move (.t 76)), [76])])
 (.cond (.t 75)
 (.seq (.regionK true [
 (.o 77 (.load (some 2) (.t 2)), [63, 75]),
 (.o 78 (.load (some 10) (.t 6)), []),
 (.o 79 (.load (some 10) (.t 6)), []),
 (⟨some 80, .call false 44 [.t 79], none, [2]⟩, [79]),
 (⟨some 81, .call false 43 [.t 77, .t 78, .t 80], none, [0, 1, 2, 3]⟩, [77, 78, 80]),
 (⟨none, .store 2 (.t 4) (.t 81), none, [0, 1, 2, 3, 4]⟩, [81]),
 (⟨some 5, .move (.i 0), none, [0, 1, 2, 3, 4, 5]⟩, [])])
 .ret)
 (.seq (.regionK false [
 (.o 83 (.bin .eql (.t 63) (.i 3)), [63, 75]),
 (.o 82 (.move (.t 83)), [83])])
 (.cond (.t 82)
 (.seq (.regionK false [
 (.o 85 (.load (some 10) (.t 6)), [82]),
 (.o 86 (.fieldAddr 3 (.t 3)), []),
 (.o 87 (.load none (.t 86)), [86]),
 (.o 88 (.call false 45 [.t 85, .t 87]), [85, 87]),
 (.o 84 (.move (.t 88)), [88]),
 (.o 89 (.extract (.t 84) 0), []),
 (.o 90 (.extract (.t 84) 1), [84]),
 (.o 9 (.alloc zz1), []),
 (.u (.store 10 (.t 9) (.t 89)), [89]),
 (.o 10 (.move (.t 90)), [90])])
 (.seq (.seq (.regionK false [
 (.o 91 (.move (.t 10)), []),
 (.o 92 (.bin .neq (.t 91) (.i 0)), [91])])
 (.cond (.t 92)
 (.seq (.regionK false [
 (.o 93 (.build [.slice true [], .slice true []] []), [92]),
 (.o 94 (.move (.t 10)), [10]),
 (.u (.store 2 (.t 4) (.t 93)), [93]),
 (.o 5 (.move (.t 94)), [94])])
 .ret)
 .skip))
 (.seq (.regionK false [
 (.o 95 (.load (some 2) (.t 2)), [10, 92]),
 (.o 96 (.load (some 10) (.t 9)), []),
 (.o 97 (.call false 43 [.t 95, .t 96, .c (.p (.slice true []))]), [95, 96]),
 (.u (.store 2 (.t 4) (.t 97)), [97]),
 (.o 5 (.move (.i 0)), [])])
 .ret)))
 .skip))))))))
 (.seq (.regionK true [
 (.o 98 (.load (some 2) (.t 2)), [82]),
 (.o 99 (.load (some 10) (.t 6)), []),
 (⟨some 100, .call false 46 [.t 99], none, [1]⟩, [99]),
 (⟨some 101, .call false 43 [.t 98, .t 100, .c (.p (.slice true []))], none, [0, 1, 2]⟩, [98, 100]),
 (⟨none, .store 2 (.t 4) (.t 101), none, [0, 1, 2, 3]⟩, [101]),
 (⟨some 5, .move (.i 0), none, [0, 1, 2, 3, 4]⟩, [])])
 .ret)))))))⟩

@[irreducible] def a18_l0 : ACode :=
  (.seq (.seq (.regionK false [
 (.o 42 (.move (.t 6)), []),
 (.o 43 (.fieldAddr 1 (.t 2)), []),
 (.o 44 (.load none (.t 43)), [43]),
 (.o 45 (.len (.t 44)), [44]),
 (.o 46 (.bin .lss (.t 42) (.t 45)), [42, 45])])
 (.cond (.t 46)
 .skip
 (.ghost (.forget [6, 46]) (.ghost (.free [2, 3]) (.ghost .lower (.exit 2))))))
 (.seq (.block 3
 (.seq (.regionK true [
 (.o 49 (.fieldAddr 1 (.t 2)), [46]),
 (⟨some 50, .load none (.t 49), none, [0]⟩, [49]),
 (.o 51 (.move (.t 6)), []),
 (⟨some 52, .indexAddr 9 (.t 50) (.t 51), none, [0, 1, 2]⟩, [50, 51]),
 (⟨some 53, .load (some 9) (.t 52), none, [0, 1, 2, 3]⟩, [52]),
 (.o 54 (.fieldAddr 1 (.t 3)), []),
 (⟨some 55, .load none (.t 54), none, [5]⟩, [54]),
 (.o 56 (.move (.t 6)), []),
 (⟨some 57, .indexAddr 9 (.t 55) (.t 56), none, [5, 6, 7]⟩, [55, 56]),
 (⟨some 58, .load (some 9) (.t 57), none, [5, 6, 7, 8]⟩, [57]),
 (⟨some 59, .call false 48 [.t 53, .t 58], none, [0, 1, 2, 3, 4, 5, 6, 7, 8, 9]⟩, [53, 58]),
 (⟨some 60, .un .not (.t 59), none, [0, 1, 2, 3, 4, 5, 6, 7, 8, 9, 10]⟩, [59])])
 (.cond (.t 60)
 (.seq (.regionK false [
 (.o 4 (.move (.b false)), [6, 60])])
 .ret)
 .skip)))
 (.regionK false [
 (.o 47 (.move (.t 6)), [60]),
 (.o 48 (.bin .add (.t 47) (.i 1)), [47]),
 (.o 6 (.move (.t 48)), [48])])))

@[irreducible] def a18_l1 : ACode :=
  (.seq (.seq (.regionK false [
 (.o 23 (.move (.t 5)), []),
 (.o 24 (.fieldAddr 0 (.t 2)), []),
 (.o 25 (.load none (.t 24)), [24]),
 (.o 26 (.len (.t 25)), [25]),
 (.o 27 (.bin .lss (.t 23) (.t 26)), [23, 26])])
 (.cond (.t 27)
 .skip
 (.ghost (.forget [5, 27]) (.ghost .lower (.exit 0)))))
 (.seq (.block 1
 (.seq (.regionK true [
 (.o 30 (.fieldAddr 0 (.t 2)), [27]),
 (⟨some 31, .load none (.t 30), none, [0]⟩, [30]),
 (.o 32 (.move (.t 5)), []),
 (⟨some 33, .indexAddr 10 (.t 31) (.t 32), none, [0, 1, 2]⟩, [31, 32]),
 (⟨some 34, .load (some 10) (.t 33), none, [0, 1, 2, 3]⟩, [33]),
 (.o 35 (.fieldAddr 0 (.t 3)), []),
 (⟨some 36, .load none (.t 35), none, [5]⟩, [35]),
 (.o 37 (.move (.t 5)), []),
 (⟨some 38, .indexAddr 10 (.t 36) (.t 37), none, [5, 6, 7]⟩, [36, 37]),
 (⟨some 39, .load (some 10) (.t 38), none, [5, 6, 7, 8]⟩, [38]),
 (⟨some 40, .call false 47 [.t 34, .t 39], none, [0, 1, 2, 3, 4, 5, 6, 7, 8, 9]⟩, [34, 39]),
 (⟨some 41, .un .not (.t 40), none, [0, 1, 2, 3, 4, 5, 6, 7, 8, 9, 10]⟩, [40])])
 (.cond (.t 41)
 (.seq (.regionK false [
 (.o 4 (.move (.b false)), [5, 41])])
 .ret)
 .skip)))
 (.regionK false [
 (.o 28 (.move (.t 5)), [41]),
 (.o 29 (.bin .add (.t 28) (.i 1)), [28]),
 (.o 5 (.move (.t 29)), [29])])))

def a18 : AFunc := ⟨61, 2, [.tmp 4],
  (.seq (.regionK false [
 (.o 2 (.box (.t 0)), [0]),
 (.o 3 (.box (.t 1)), [1]),
 (.o 4 (.move (.b false)), [4])])
 (.seq (.seq (.regionK false [
 (.o 7 (.fieldAddr 0 (.t 2)), []),
 (.o 8 (.load none (.t 7)), [7]),
 (.o 9 (.len (.t 8)), [8]),
 (.o 10 (.fieldAddr 0 (.t 3)), []),
 (.o 11 (.load none (.t 10)), [10]),
 (.o 12 (.len (.t 11)), [11]),
 (.o 13 (.bin .neq (.t 9) (.t 12)), [9, 12]),
 (.o 14 (.move (.t 13)), [13]),
 (.g 15 14 false (.fieldAddr 1 (.t 2)) [], []),
 (.g 16 14 false (.load none (.t 15)) [], [15]),
 (.g 17 14 false (.len (.t 16)) [], [16]),
 (.g 18 14 false (.fieldAddr 1 (.t 3)) [], []),
 (.g 19 14 false (.load none (.t 18)) [], [18]),
 (.g 20 14 false (.len (.t 19)) [], [19]),
 (.g 21 14 false (.bin .neq (.t 17) (.t 20)) [], [17, 20]),
 (.o 22 (.pick (.t 14) (.b true) (.t 21)), [14, 21])])
 (.cond (.t 22)
 (.seq (.regionK false [
 (.o 4 (.move (.b false)), [22])])
 .ret)
 .skip))
 (.seq (.seq (.regionK false [
 (.o 5 (.move (.i 0)), [22])])
 (.block 0
 (.loop
 (.ghost .lower a18_l1))))
 (.seq (.seq (.regionK false [
 (.o 6 (.move (.i 0)), [])])
 (.block 2
 (.loop
 (.ghost .lower a18_l0))))
 (.seq (.regionK false [
 (.o 4 (.move (.b true)), [])])
 .ret)))))⟩

@[irreducible] def a19_l0 : ACode :=
  (.seq (.seq (.regionK false [
 (.o 6 (.move (.t 5)), []),
 (.o 7 (.move (.t 0)), []),
 (.o 8 (.len (.t 7)), [7]),
 (.o 9 (.bin .lss (.t 6) (.t 8)), [6, 8]),
 (.o 10 (.move (.t 9)), [9]),
 (.g 11 10 true (.move (.t 5)) [], []),
 (.g 12 10 true (.move (.t 1)) [], []),
 (.g 13 10 true (.bin .lss (.t 11) (.t 12)) [], [11, 12]),
 (.o 14 (.pick (.t 10) (.t 13) (.b false)), [10, 13])])
 (.cond (.t 14)
 .skip
 (.ghost (.forget [5, 14]) (.ghost .lower (.exit 0)))))
 (.seq (.block 1
 (.seq (.regionK false [
 (.o 17 (.move (.t 0)), [14]),
 (.o 18 (.move (.t 5)), []),
 (.o 19 (.indexAddr 4 (.t 17) (.t 18)), [17, 18]),
 (.o 20 (.fieldAddr 3 (.t 19)), [19]),
 (.o 21 (.load none (.t 20)), [20]),
 (.o 22 (.lenS (.t 21)), [21]),
 (.o 23 (.bin .gtr (.t 22) (.i 100)), [22])])
 (.cond (.t 23)
 (.seq (.regionK false [
 (.o 4 (.move (.b false)), [0, 1, 5, 23])])
 .ret)
 .skip)))
 (.regionK false [
 (.o 15 (.move (.t 5)), [23]),
 (.o 16 (.bin .add (.t 15) (.i 1)), [15]),
 (.o 5 (.move (.t 16)), [16])])))

def a19 : AFunc := ⟨28, 2, [.tmp 4],
  (.seq (.regionK false [
 (.o 4 (.move (.b false)), [4])])
 (.seq (.seq (.regionK false [
 (.o 5 (.move (.i 0)), [])])
 (.block 0
 (.loop
 (.ghost .lower a19_l0))))
 (.seq (.regionK false [
 (.o 24 (.move (.t 0)), [0]),
 (.o 25 (.len (.t 24)), [24]),
 (.o 26 (.move (.t 1)), [1]),
 (.o 27 (.bin .leq (.t 25) (.t 26)), [25, 26]),
 (.o 4 (.move (.t 27)), [27])])
 .ret)))⟩

@[irreducible] def a20_l0 : ACode :=
  (.seq (.regionK false [
 (.o 24 (.bin .lss (.t 23) (.t 22)), [])])
 (.seq (.cond (.t 24)
 .skip
 (.ghost (.forget [21, 22, 23, 24]) (.ghost .lower (.exit 0))))
 (.seq (.block 1
 (.seq (.regionK false [
 (.o 25 (.indexAddr 4 (.t 21) (.t 23)), [24]),
 (.o 26 (.load (some 4) (.t 25)), [25]),
 (.o 9 (.alloc zz0), []),
 (.u (.store 4 (.t 9) (.t 26)), [26])])
 (.seq (.regionK false [
 (.o 28 (.load (some 2) (.t 6)), []),
 (.o 29 (.load (some 4) (.t 9)), []),
 (.o 30 (.call false 16 [.t 28, .t 29]), [28, 29]),
 (.o 27 (.move (.t 30)), [30]),
 (.o 31 (.extract (.t 27) 0), []),
 (.o 32 (.extract (.t 27) 1), [27]),
 (.o 10 (.alloc [.slice true [], .slice true []]), []),
 (.u (.store 2 (.t 10) (.t 31)), [31]),
 (.o 11 (.move (.t 32)), [32])])
 (.seq (.regionK false [
 (.o 33 (.move (.t 11)), [11]),
 (.o 34 (.bin .eql (.t 33) (.i 0)), [33])])
 (.cond (.t 34)
 (.regionK false [
 (.o 35 (.load (some 2) (.t 10)), [34]),
 (.u (.store 2 (.t 6) (.t 35)), [35])])
 .skip)))))
 (.regionK false [
 (.o 36 (.bin .add (.t 23) (.i 1)), [34]),
 (.o 23 (.move (.t 36)), [36])]))))

def a20 : AFunc := ⟨38, 2, [.cell 4 2, .tmp 5],
  (.seq (.regionK false [
 (.o 4 (.alloc [.slice true [], .slice true []]), []),
 (.o 5 (.move (.i 0)), [5])])
 (.seq (.regionK false [
 (.o 13 (.move (.t 0)), [0]),
 (.o 14 (.call false 33 [.t 13]), [13]),
 (.o 12 (.move (.t 14)), [14]),
 (.o 15 (.extract (.t 12) 0), []),
 (.o 16 (.extract (.t 12) 1), [12]),
 (.o 6 (.alloc [.slice true [], .slice true []]), []),
 (.u (.store 2 (.t 6) (.t 15)), [15]),
 (.o 7 (.move (.t 16)), [16])])
 (.seq (.seq (.regionK false [
 (.o 17 (.move (.t 7)), []),
 (.o 18 (.bin .neq (.t 17) (.i 0)), [17])])
 (.cond (.t 18)
 (.seq (.regionK false [
 (.o 19 (.build [.slice true [], .slice true []] []), [1, 18]),
 (.o 20 (.move (.t 7)), [7]),
 (.u (.store 2 (.t 4) (.t 19)), [19]),
 (.o 5 (.move (.t 20)), [20])])
 .ret)
 .skip))
 (.seq (.seq (.regionK false [
 (.o 21 (.move (.t 1)), [1, 7, 18]),
 (.o 22 (.len (.t 21)), []),
 (.o 23 (.move (.i 0)), [])])
 (.block 0
 (.loop
 (.ghost (.free [9, 10]) (.ghost .lower a20_l0)))))
 (.seq (.regionK false [
 (.o 37 (.load (some 2) (.t 6)), []),
 (.u (.store 2 (.t 4) (.t 37)), [37]),
 (.o 5 (.move (.i 0)), [])])
 .ret)))))⟩

@[irreducible] def a21_l0 : ACode :=
  (.seq (.seq (.regionK false [
 (.o 20 (.move (.t 8)), []),
 (.o 21 (.move (.t 1)), []),
 (.o 22 (.len (.t 21)), [21]),
 (.o 23 (.bin .lss (.t 20) (.t 22)), [20, 22])])
 (.cond (.t 23)
 .skip
 (.ghost (.forget [1, 8, 23]) (.ghost .lower (.exit 0)))))
 (.seq (.block 1
 (.seq (.regionK true [
 (.o 27 (.load (some 2) (.t 6)), [23]),
 (.o 28 (.move (.t 1)), []),
 (.o 29 (.move (.t 8)), []),
 (⟨some 30, .indexAddr 4 (.t 28) (.t 29), none, [1, 2]⟩, [28, 29]),
 (⟨some 31, .load (some 4) (.t 30), none, [1, 2, 3]⟩, [30]),
 (⟨some 32, .call false 17 [.t 27, .t 31], none, [0, 1, 2, 3, 4]⟩, [27, 31]),
 (⟨some 26, .move (.t 32), none, [0, 1, 2, 3, 4, 5]⟩, [32]),
 (⟨some 33, .extract (.t 26) 0, none, [0, 1, 2, 3, 4, 5, 6]⟩, []),
 (⟨some 34, .extract (.t 26) 1, none, [0, 1, 2, 3, 4, 5, 6]⟩, [26]),
 (.o 9 (.alloc [.slice true [], .slice true []]), []),
 (⟨none, .store 2 (.t 9) (.t 33), none, [0, 1, 2, 3, 4, 5, 6, 7, 9]⟩, [33]),
 (⟨some 10, .move (.t 34), none, [0, 1, 2, 3, 4, 5, 6, 7, 8, 9, 10]⟩, [34])])
 (.seq (.regionK false [
 (.o 35 (.move (.t 10)), [10]),
 (.o 36 (.bin .eql (.t 35) (.i 0)), [35])])
 (.cond (.t 36)
 (.regionK false [
 (.o 37 (.load (some 2) (.t 9)), [36]),
 (.u (.store 2 (.t 6) (.t 37)), [37])])
 .skip))))
 (.regionK false [
 (.o 24 (.move (.t 8)), [36]),
 (.o 25 (.bin .add (.t 24) (.i 1)), [24]),
 (.o 8 (.move (.t 25)), [25])])))

def a21 : AFunc := ⟨39, 2, [.cell 4 2, .tmp 5],
  (.seq (.regionK false [
 (.o 4 (.alloc [.slice true [], .slice true []]), []),
 (.o 5 (.move (.i 0)), [5])])
 (.seq (.regionK false [
 (.o 12 (.move (.t 0)), [0]),
 (.o 13 (.call false 49 [.t 12]), [12]),
 (.o 11 (.move (.t 13)), [13]),
 (.o 14 (.extract (.t 11) 0), []),
 (.o 15 (.extract (.t 11) 1), [11]),
 (.o 6 (.alloc [.slice true [], .slice true []]), []),
 (.u (.store 2 (.t 6) (.t 14)), [14]),
 (.o 7 (.move (.t 15)), [15])])
 (.seq (.seq (.regionK false [
 (.o 16 (.move (.t 7)), []),
 (.o 17 (.bin .neq (.t 16) (.i 0)), [16])])
 (.cond (.t 17)
 (.seq (.regionK false [
 (.o 18 (.build [.slice true [], .slice true []] []), [1, 17]),
 (.o 19 (.move (.t 7)), [7]),
 (.u (.store 2 (.t 4) (.t 18)), [18]),
 (.o 5 (.move (.t 19)), [19])])
 .ret)
 .skip))
 (.seq (.seq (.regionK false [
 (.o 8 (.move (.i 0)), [7, 17])])
 (.block 0
 (.loop
 (.ghost (.free [9]) (.ghost .lower a21_l0)))))
 (.seq (.regionK false [
 (.o 38 (.load (some 2) (.t 6)), []),
 (.u (.store 2 (.t 4) (.t 38)), [38]),
 (.o 5 (.move (.i 0)), [])])
 .ret)))))⟩

def a22 : AFunc := ⟨127, 1, [.tmp 2],
  (.seq (.region false [
 .o 1 (.box (.t 0)),
 .o 2 (.move (.b false))] [0, 2])
 (.seq (.seq (.region false [
 .o 4 (.fieldAddr 1 (.t 1)),
 .o 5 (.load none (.t 4)),
 .o 6 (.bin .lss (.t 5) (.i 1)),
 .o 7 (.move (.t 6)),
 .g 8 7 false (.fieldAddr 1 (.t 1)) [],
 .g 9 7 false (.load none (.t 8)) [],
 .g 10 7 false (.bin .gtr (.t 9) (.i 7)) [],
 .o 11 (.pick (.t 7) (.b true) (.t 10)),
 .o 12 (.move (.t 11)),
 .g 13 12 false (.fieldAddr 0 (.t 1)) [],
 .g 14 12 false (.load none (.t 13)) [],
 .g 15 12 false (.bin .lss (.t 14) (.i 1)) [],
 .o 16 (.pick (.t 12) (.b true) (.t 15)),
 .o 17 (.move (.t 16)),
 .g 18 17 false (.fieldAddr 0 (.t 1)) [],
 .g 19 17 false (.load none (.t 18)) [],
 .g 20 17 false (.fieldAddr 1 (.t 1)) [],
 .g 21 17 false (.load none (.t 20)) [],
 .g 22 17 false (.bin .gtr (.t 19) (.t 21)) [],
 .o 23 (.pick (.t 17) (.b true) (.t 22)),
 .o 24 (.move (.t 23)),
 .g 25 24 false (.fieldAddr 2 (.t 1)) [],
 .g 26 24 false (.load none (.t 25)) [],
 .g 27 24 false (.bin .lss (.t 26) (.i 0)) [],
 .o 28 (.pick (.t 24) (.b true) (.t 27)),
 .o 29 (.move (.t 28)),
 .g 30 29 false (.fieldAddr 2 (.t 1)) [],
 .g 31 29 false (.load none (.t 30)) [],
 .g 32 29 false (.bin .gtr (.t 31) (.i 1099511627776)) [],
 .o 33 (.pick (.t 29) (.b true) (.t 32)),
 .o 34 (.move (.t 33)),
 .g 35 34 false (.fieldAddr 3 (.t 1)) [],
 .g 36 34 false (.load none (.t 35)) [],
 .g 37 34 false (.bin .lss (.t 36) (.i 0)) [],
 .o 38 (.pick (.t 34) (.b true) (.t 37)),
 .o 39 (.move (.t 38)),
 .g 40 39 false (.fieldAddr 3 (.t 1)) [],
 .g 41 39 false (.load none (.t 40)) [],
 .g 42 39 false (.fieldAddr 1 (.t 1)) [],
 .g 43 39 false (.load none (.t 42)) [],
 .g 44 39 false (.bin .gtr (.t 41) (.t 43)) [],
 .o 45 (.pick (.t 39) (.b true) (.t 44))] [4, 5, 6, 7, 8, 9, 10, 11, 12, 13, 14, 15, 16, 17, 18, 19, 20, 21, 22, 23, 24, 25, 26, 27, 28, 29, 30, 31, 32, 33, 34, 35, 36, 37, 38, 39, 40, 41, 42, 43, 44])
 (.cond (.t 45)
 (.seq (.region false [
 .o 2 (.move (.b false))] [45])
 .ret)
 .skip))
 (.seq (.seq (.region false [
 .o 46 (.fieldAddr 4 (.t 1)),
 .o 47 (.load none (.t 46)),
 .o 48 (.call false 50 [.t 47]),
 .o 49 (.un .not (.t 48)),
 .o 50 (.move (.t 49)),
 .g 51 50 false (.fieldAddr 6 (.t 1)) [],
 .g 52 50 false (.load none (.t 51)) [],
 .g 53 50 false (.bin .lss (.t 52) (.i 0)) [],
 .o 54 (.pick (.t 50) (.b true) (.t 53)),
 .o 55 (.move (.t 54)),
 .g 56 55 false (.fieldAddr 6 (.t 1)) [],
 .g 57 55 false (.load none (.t 56)) [],
 .g 58 55 false (.fieldAddr 4 (.t 1)) [],
 .g 59 55 false (.load none (.t 58)) [],
 .g 60 55 false (.len (.t 59)) [],
 .g 61 55 false (.bin .gtr (.t 57) (.t 60)) [],
 .o 62 (.pick (.t 55) (.b true) (.t 61))] [45, 46, 47, 48, 49, 50, 51, 52, 53, 54, 55, 56, 57, 58, 59, 60, 61])
 (.cond (.t 62)
 (.seq (.region false [
 .o 2 (.move (.b false))] [62])
 .ret)
 .skip))
 (.seq (.region false [
 .o 63 (.fieldAddr 2 (.t 1)),
 .o 64 (.load none (.t 63)),
 .o 65 (.bin .geq (.t 64) (.i 1)),
 .o 66 (.move (.t 65)),
 .g 67 66 true (.fieldAddr 3 (.t 1)) [],
 .g 68 66 true (.load none (.t 67)) [],
 .g 69 66 true (.fieldAddr 0 (.t 1)) [],
 .g 70 66 true (.load none (.t 69)) [],
 .g 71 66 true (.bin .eql (.t 68) (.t 70)) [],
 .o 72 (.pick (.t 66) (.t 71) (.b false)),
 .o 3 (.move (.t 72))] [62, 63, 64, 65, 66, 67, 68, 69, 70, 71, 72])
 (.seq (.seq (.region false [
 .o 73 (.fieldAddr 5 (.t 1)),
 .o 74 (.load none (.t 73))] [73])
 (.block 0
 (.seq (.region false [
 .o 76 (.bin .eql (.t 74) (.i 1)),
 .o 75 (.move (.t 76))] [76])
 (.cond (.t 75)
 (.seq (.region false [
 .o 77 (.fieldAddr 7 (.t 1)),
 .o 78 (.load none (.t 77)),
 .o 79 (.len (.t 78)),
 .o 80 (.bin .eql (.t 79) (.i 0)),
 .o 81 (.move (.t 80)),
 .g 82 81 true (.fieldAddr 8 (.t 1)) [],
 .g 83 81 true (.load none (.t 82)) [],
 .g 84 81 true (.len (.t 83)) [],
 .g 85 81 true (.bin .eql (.t 84) (.i 0)) [],
 .o 86 (.pick (.t 81) (.t 85) (.b false)),
 .o 87 (.move (.t 86)),
 .g 88 87 true (.fieldAddr 9 (.t 1)) [],
 .g 89 87 true (.load none (.t 88)) [],
 .g 90 87 true (.len (.t 89)) [],
 .g 91 87 true (.bin .eql (.t 90) (.i 0)) [],
 .o 92 (.pick (.t 87) (.t 91) (.b false)),
 .o 2 (.move (.t 92))] [3, 74, 75, 77, 78, 79, 80, 81, 82, 83, 84, 85, 86, 87, 88, 89, 90, 91, 92])
 .ret)
 (.seq (.region false [
 .o 94 (.bin .eql (.t 74) (.i 2)),
 .o 93 (.move (.t 94))] [75, 94])
 (.cond (.t 93)
 (.seq (.region false [
 .o 95 (.move (.t 3)),
 .o 96 (.move (.t 95)),
 .g 97 96 true (.fieldAddr 8 (.t 1)) [],
 .g 98 96 true (.load none (.t 97)) [],
 .g 99 96 true (.len (.t 98)) [],
 .g 100 96 true (.bin .eql (.t 99) (.i 0)) [],
 .o 101 (.pick (.t 96) (.t 100) (.b false)),
 .o 102 (.move (.t 101)),
 .g 103 102 true (.fieldAddr 9 (.t 1)) [],
 .g 104 102 true (.load none (.t 103)) [],
 .g 105 102 true (.len (.t 104)) [],
 .g 106 102 true (.bin .eql (.t 105) (.i 0)) [],
 .o 107 (.pick (.t 102) (.t 106) (.b false)),
 .o 108 (.move (.t 107)),
 .g 109 108 true (.load (some 10) (.t 1)) [],
 .g 110 108 true (.build zz1 [(0, 10, .t 109)]) [],
 .g 111 108 true (.call false 51 [.t 110]) [],
 .o 112 (.pick (.t 108) (.t 111) (.b false)),
 .o 2 (.move (.t 112))] [3, 74, 93, 95, 96, 97, 98, 99, 100, 101, 102, 103, 104, 105, 106, 107, 108, 109, 110, 111, 112])
 .ret)
 (.seq (.region false [
 .o 114 (.bin .eql (.t 74) (.i 3)),
 .o 113 (.move (.t 114))] [74, 93, 114])
 (.cond (.t 113)
 (.seq (.region false [
 .o 115 (.move (.t 3)),
 .o 116 (.move (.t 115)),
 .g 117 116 true (.fieldAddr 7 (.t 1)) [],
 .g 118 116 true (.load none (.t 117)) [],
 .g 119 116 true (.len (.t 118)) [],
 .g 120 116 true (.bin .eql (.t 119) (.i 0)) [],
 .o 121 (.pick (.t 116) (.t 120) (.b false)),
 .o 122 (.move (.t 121)),
 .g 123 122 true (.load (some 10) (.t 1)) [],
 .g 124 122 true (.build zz1 [(0, 10, .t 123)]) [],
 .g 125 122 true (.call false 52 [.t 124]) [],
 .o 126 (.pick (.t 122) (.t 125) (.b false)),
 .o 2 (.move (.t 126))] [3, 113, 115, 116, 117, 118, 119, 120, 121, 122, 123, 124, 125, 126])
 .ret)
 .skip))))))))
 (.seq (.region false [
 .o 2 (.move (.b false))] [3, 113])
 .ret))))))⟩

def a23 : AFunc := ⟨58, 2, [.tmp 4],
  (.seq (.region false [
 .o 2 (.box (.t 0)),
 .o 4 (.move (.b false))] [0, 4])
 (.seq (.seq (.region false [
 .o 5 (.move (.t 1)),
 .o 6 (.call false 53 [.t 5, .i 1, .i 7]),
 .o 7 (.un .not (.t 6)),
 .o 8 (.move (.t 7)),
 .g 9 8 false (.fieldAddr 1 (.t 2)) [],
 .g 10 8 false (.load none (.t 9)) [],
 .g 11 8 false (.move (.t 1)) [],
 .g 12 8 false (.call false 53 [.t 10, .i 1, .t 11]) [],
 .g 13 8 false (.un .not (.t 12)) [],
 .o 14 (.pick (.t 8) (.b true) (.t 13)),
 .o 15 (.move (.t 14)),
 .g 16 15 false (.fieldAddr 2 (.t 2)) [],
 .g 17 15 false (.load none (.t 16)) [],
 .g 18 15 false (.move (.t 1)) [],
 .g 19 15 false (.call false 53 [.t 17, .i 1, .t 18]) [],
 .g 20 15 false (.un .not (.t 19)) [],
 .o 21 (.pick (.t 15) (.b true) (.t 20)),
 .o 22 (.move (.t 21)),
 .g 23 22 false (.fieldAddr 1 (.t 2)) [],
 .g 24 22 false (.load none (.t 23)) [],
 .g 25 22 false (.fieldAddr 2 (.t 2)) [],
 .g 26 22 false (.load none (.t 25)) [],
 .g 27 22 false (.bin .eql (.t 24) (.t 26)) [],
 .o 28 (.pick (.t 22) (.b true) (.t 27))] [1, 5, 6, 7, 8, 9, 10, 11, 12, 13, 14, 15, 16, 17, 18, 19, 20, 21, 22, 23, 24, 25, 26, 27])
 (.cond (.t 28)
 (.seq (.region false [
 .o 4 (.move (.b false))] [28])
 .ret)
 .skip))
 (.seq (.seq (.region false [
 .o 29 (.fieldAddr 3 (.t 2)),
 .o 30 (.load none (.t 29)),
 .o 31 (.call false 53 [.t 30, .i 1, .i 1099511627776]),
 .o 32 (.un .not (.t 31)),
 .o 33 (.move (.t 32)),
 .g 34 33 false (.fieldAddr 4 (.t 2)) [],
 .g 35 33 false (.load none (.t 34)) [],
 .g 36 33 false (.call false 53 [.t 35, .i 0, .i 1099511627776]) [],
 .g 37 33 false (.un .not (.t 36)) [],
 .o 38 (.pick (.t 33) (.b true) (.t 37)),
 .o 39 (.move (.t 38)),
 .g 40 39 false (.fieldAddr 5 (.t 2)) [],
 .g 41 39 false (.load none (.t 40)) [],
 .g 42 39 false (.call false 53 [.t 41, .i 0, .i 1099511627776]) [],
 .g 43 39 false (.un .not (.t 42)) [],
 .o 44 (.pick (.t 39) (.b true) (.t 43)),
 .o 45 (.move (.t 44)),
 .g 46 45 false (.fieldAddr 6 (.t 2)) [],
 .g 47 45 false (.load none (.t 46)) [],
 .g 48 45 false (.call false 53 [.t 47, .i 0, .i 1099511627776]) [],
 .g 49 45 false (.un .not (.t 48)) [],
 .o 50 (.pick (.t 45) (.b true) (.t 49))] [28, 29, 30, 31, 32, 33, 34, 35, 36, 37, 38, 39, 40, 41, 42, 43, 44, 45, 46, 47, 48, 49])
 (.cond (.t 50)
 (.seq (.region false [
 .o 4 (.move (.b false))] [50])
 .ret)
 .skip))
 (.seq (.region false [
 .o 51 (.fieldAddr 8 (.t 2)),
 .o 52 (.load none (.t 51)),
 .o 53 (.call false 54 [.t 52]),
 .o 54 (.move (.t 53)),
 .g 55 54 true (.load (some 9) (.t 2)) [],
 .g 56 54 true (.call false 55 [.t 55]) [],
 .o 57 (.pick (.t 54) (.t 56) (.b false)),
 .o 4 (.move (.t 57))] [50, 51, 52, 53, 54, 55, 56, 57])
 .ret))))⟩

def a24 : AFunc := ⟨132, 1, [.tmp 2],
  (.seq (.region false [
 .o 1 (.box (.t 0)),
 .o 2 (.move (.b false))] [0, 2])
 (.seq (.seq (.region false [
 .o 3 (.fieldAddr 1 (.t 1)),
 .o 4 (.load none (.t 3)),
 .o 5 (.bin .lss (.t 4) (.i 1)),
 .o 6 (.move (.t 5)),
 .g 7 6 false (.fieldAddr 1 (.t 1)) [],
 .g 8 6 false (.load none (.t 7)) [],
 .g 9 6 false (.bin .gtr (.t 8) (.i 7)) [],
 .o 10 (.pick (.t 6) (.b true) (.t 9)),
 .o 11 (.move (.t 10)),
 .g 12 11 false (.fieldAddr 0 (.t 1)) [],
 .g 13 11 false (.load none (.t 12)) [],
 .g 14 11 false (.bin .lss (.t 13) (.i 1)) [],
 .o 15 (.pick (.t 11) (.b true) (.t 14)),
 .o 16 (.move (.t 15)),
 .g 17 16 false (.fieldAddr 0 (.t 1)) [],
 .g 18 16 false (.load none (.t 17)) [],
 .g 19 16 false (.fieldAddr 1 (.t 1)) [],
 .g 20 16 false (.load none (.t 19)) [],
 .g 21 16 false (.bin .gtr (.t 18) (.t 20)) [],
 .o 22 (.pick (.t 16) (.b true) (.t 21)),
 .o 23 (.move (.t 22)),
 .g 24 23 false (.fieldAddr 2 (.t 1)) [],
 .g 25 23 false (.load none (.t 24)) [],
 .g 26 23 false (.bin .lss (.t 25) (.i 0)) [],
 .o 27 (.pick (.t 23) (.b true) (.t 26)),
 .o 28 (.move (.t 27)),
 .g 29 28 false (.fieldAddr 2 (.t 1)) [],
 .g 30 28 false (.load none (.t 29)) [],
 .g 31 28 false (.bin .gtr (.t 30) (.i 1099511627776)) [],
 .o 32 (.pick (.t 28) (.b true) (.t 31)),
 .o 33 (.move (.t 32)),
 .g 34 33 false (.fieldAddr 3 (.t 1)) [],
 .g 35 33 false (.load none (.t 34)) [],
 .g 36 33 false (.bin .lss (.t 35) (.i 0)) [],
 .o 37 (.pick (.t 33) (.b true) (.t 36)),
 .o 38 (.move (.t 37)),
 .g 39 38 false (.fieldAddr 3 (.t 1)) [],
 .g 40 38 false (.load none (.t 39)) [],
 .g 41 38 false (.fieldAddr 1 (.t 1)) [],
 .g 42 38 false (.load none (.t 41)) [],
 .g 43 38 false (.bin .gtr (.t 40) (.t 42)) [],
 .o 44 (.pick (.t 38) (.b true) (.t 43))] [3, 4, 5, 6, 7, 8, 9, 10, 11, 12, 13, 14, 15, 16, 17, 18, 19, 20, 21, 22, 23, 24, 25, 26, 27, 28, 29, 30, 31, 32, 33, 34, 35, 36, 37, 38, 39, 40, 41, 42, 43])
 (.cond (.t 44)
 (.seq (.region false [
 .o 2 (.move (.b false))] [44])
 .ret)
 .skip))
 (.seq (.seq (.region false [
 .o 45 (.fieldAddr 4 (.t 1)),
 .o 46 (.load none (.t 45)),
 .o 47 (.call false 56 [.t 46]),
 .o 48 (.un .not (.t 47)),
 .o 49 (.move (.t 48)),
 .g 50 49 false (.fieldAddr 6 (.t 1)) [],
 .g 51 49 false (.load none (.t 50)) [],
 .g 52 49 false (.bin .lss (.t 51) (.i 0)) [],
 .o 53 (.pick (.t 49) (.b true) (.t 52)),
 .o 54 (.move (.t 53)),
 .g 55 54 false (.fieldAddr 6 (.t 1)) [],
 .g 56 54 false (.load none (.t 55)) [],
 .g 57 54 false (.fieldAddr 4 (.t 1)) [],
 .g 58 54 false (.load none (.t 57)) [],
 .g 59 54 false (.len (.t 58)) [],
 .g 60 54 false (.bin .gtr (.t 56) (.t 59)) [],
 .o 61 (.pick (.t 54) (.b true) (.t 60))] [44, 45, 46, 47, 48, 49, 50, 51, 52, 53, 54, 55, 56, 57, 58, 59, 60])
 (.cond (.t 61)
 (.seq (.region false [
 .o 2 (.move (.b false))] [61])
 .ret)
 .skip))
 (.seq (.seq (.region false [
 .o 62 (.fieldAddr 5 (.t 1)),
 .o 63 (.load none (.t 62))] [61, 62])
 (.block 0
 (.seq (.region false [
 .o 65 (.bin .eql (.t 63) (.i 1)),
 .o 64 (.move (.t 65))] [65])
 (.cond (.t 64)
 (.seq (.region false [
 .o 66 (.fieldAddr 7 (.t 1)),
 .o 67 (.load none (.t 66)),
 .o 68 (.len (.t 67)),
 .o 69 (.bin .eql (.t 68) (.i 0)),
 .o 70 (.move (.t 69)),
 .g 71 70 true (.fieldAddr 8 (.t 1)) [],
 .g 72 70 true (.load none (.t 71)) [],
 .g 73 70 true (.len (.t 72)) [],
 .g 74 70 true (.bin .eql (.t 73) (.i 0)) [],
 .o 75 (.pick (.t 70) (.t 74) (.b false)),
 .o 76 (.move (.t 75)),
 .g 77 76 true (.fieldAddr 9 (.t 1)) [],
 .g 78 76 true (.load none (.t 77)) [],
 .g 79 76 true (.len (.t 78)) [],
 .g 80 76 true (.bin .eql (.t 79) (.i 0)) [],
 .o 81 (.pick (.t 76) (.t 80) (.b false)),
 .o 2 (.move (.t 81))] [63, 64, 66, 67, 68, 69, 70, 71, 72, 73, 74, 75, 76, 77, 78, 79, 80, 81])
 .ret)
 (.seq (.region false [
 .o 83 (.bin .eql (.t 63) (.i 2)),
 .o 82 (.move (.t 83))] [64, 83])
 (.cond (.t 82)
 (.seq (.region false [
 .o 84 (.fieldAddr 2 (.t 1)),
 .o 85 (.load none (.t 84)),
 .o 86 (.bin .geq (.t 85) (.i 1)),
 .o 87 (.move (.t 86)),
 .g 88 87 true (.fieldAddr 3 (.t 1)) [],
 .g 89 87 true (.load none (.t 88)) [],
 .g 90 87 true (.fieldAddr 0 (.t 1)) [],
 .g 91 87 true (.load none (.t 90)) [],
 .g 92 87 true (.bin .eql (.t 89) (.t 91)) [],
 .o 93 (.pick (.t 87) (.t 92) (.b false)),
 .o 94 (.move (.t 93)),
 .g 95 94 true (.load (some 10) (.t 1)) [],
 .g 96 94 true (.call false 57 [.t 95]) [],
 .o 97 (.pick (.t 94) (.t 96) (.b false)),
 .o 98 (.move (.t 97)),
 .g 99 98 true (.fieldAddr 8 (.t 1)) [],
 .g 100 98 true (.load none (.t 99)) [],
 .g 101 98 true (.len (.t 100)) [],
 .g 102 98 true (.bin .eql (.t 101) (.i 0)) [],
 .o 103 (.pick (.t 98) (.t 102) (.b false)),
 .o 104 (.move (.t 103)),
 .g 105 104 true (.fieldAddr 9 (.t 1)) [],
 .g 106 104 true (.load none (.t 105)) [],
 .g 107 104 true (.len (.t 106)) [],
 .g 108 104 true (.bin .eql (.t 107) (.i 0)) [],
 .o 109 (.pick (.t 104) (.t 108) (.b false)),
 .o 2 (.move (.t 109))] [63, 82, 84, 85, 86, 87, 88, 89, 90, 91, 92, 93, 94, 95, 96, 97, 98, 99, 100, 101, 102, 103, 104, 105, 106, 107, 108, 109])
 .ret)
 (.seq (.region false [
 .o 111 (.bin .eql (.t 63) (.i 3)),
 .o 110 (.move (.t 111))] [63, 82, 111])
 (.cond (.t 110)
 (.seq (.region false [
 .o 112 (.fieldAddr 2 (.t 1)),
 .o 113 (.load none (.t 112)),
 .o 114 (.bin .geq (.t 113) (.i 1)),
 .o 115 (.move (.t 114)),
 .g 116 115 true (.fieldAddr 3 (.t 1)) [],
 .g 117 115 true (.load none (.t 116)) [],
 .g 118 115 true (.fieldAddr 0 (.t 1)) [],
 .g 119 115 true (.load none (.t 118)) [],
 .g 120 115 true (.bin .eql (.t 117) (.t 119)) [],
 .o 121 (.pick (.t 115) (.t 120) (.b false)),
 .o 122 (.move (.t 121)),
 .g 123 122 true (.fieldAddr 7 (.t 1)) [],
 .g 124 122 true (.load none (.t 123)) [],
 .g 125 122 true (.len (.t 124)) [],
 .g 126 122 true (.bin .eql (.t 125) (.i 0)) [],
 .o 127 (.pick (.t 122) (.t 126) (.b false)),
 .o 128 (.move (.t 127)),
 .g 129 128 true (.load (some 10) (.t 1)) [],
 .g 130 128 true (.call false 58 [.t 129]) [],
 .o 131 (.pick (.t 128) (.t 130) (.b false)),
 .o 2 (.move (.t 131))] [110, 112, 113, 114, 115, 116, 117, 118, 119, 120, 121, 122, 123, 124, 125, 126, 127, 128, 129, 130, 131])
 .ret)
 .skip))))))))
 (.seq (.region false [
 .o 2 (.move (.b false))] [110])
 .ret)))))⟩

def a25 : AFunc := ⟨75, 2, [.tmp 4],
  (.seq (.region false [
 .o 2 (.box (.t 0)),
 .o 4 (.move (.b false))] [0, 4])
 (.seq (.seq (.region false [
 .o 5 (.move (.t 1)),
 .o 6 (.bin .lss (.t 5) (.i 1)),
 .o 7 (.move (.t 6)),
 .g 8 7 false (.move (.t 1)) [],
 .g 9 7 false (.bin .gtr (.t 8) (.i 7)) [],
 .o 10 (.pick (.t 7) (.b true) (.t 9)),
 .o 11 (.move (.t 10)),
 .g 12 11 false (.fieldAddr 0 (.t 2)) [],
 .g 13 11 false (.load none (.t 12)) [],
 .g 14 11 false (.bin .lss (.t 13) (.i 1)) [],
 .o 15 (.pick (.t 11) (.b true) (.t 14)),
 .o 16 (.move (.t 15)),
 .g 17 16 false (.fieldAddr 0 (.t 2)) [],
 .g 18 16 false (.load none (.t 17)) [],
 .g 19 16 false (.bin .gtr (.t 18) (.i 4)) [],
 .o 20 (.pick (.t 16) (.b true) (.t 19))] [5, 6, 7, 8, 9, 10, 11, 12, 13, 14, 15, 16, 17, 18, 19])
 (.cond (.t 20)
 (.seq (.region false [
 .o 4 (.move (.b false))] [1, 20])
 .ret)
 .skip))
 (.seq (.seq (.region false [
 .o 21 (.fieldAddr 1 (.t 2)),
 .o 22 (.load none (.t 21)),
 .o 23 (.bin .lss (.t 22) (.i 1)),
 .o 24 (.move (.t 23)),
 .g 25 24 false (.fieldAddr 1 (.t 2)) [],
 .g 26 24 false (.load none (.t 25)) [],
 .g 27 24 false (.move (.t 1)) [],
 .g 28 24 false (.bin .gtr (.t 26) (.t 27)) [],
 .o 29 (.pick (.t 24) (.b true) (.t 28)),
 .o 30 (.move (.t 29)),
 .g 31 30 false (.fieldAddr 2 (.t 2)) [],
 .g 32 30 false (.load none (.t 31)) [],
 .g 33 30 false (.bin .lss (.t 32) (.i 1)) [],
 .o 34 (.pick (.t 30) (.b true) (.t 33)),
 .o 35 (.move (.t 34)),
 .g 36 35 false (.fieldAddr 2 (.t 2)) [],
 .g 37 35 false (.load none (.t 36)) [],
 .g 38 35 false (.move (.t 1)) [],
 .g 39 35 false (.bin .gtr (.t 37) (.t 38)) [],
 .o 40 (.pick (.t 35) (.b true) (.t 39)),
 .o 41 (.move (.t 40)),
 .g 42 41 false (.fieldAddr 1 (.t 2)) [],
 .g 43 41 false (.load none (.t 42)) [],
 .g 44 41 false (.fieldAddr 2 (.t 2)) [],
 .g 45 41 false (.load none (.t 44)) [],
 .g 46 41 false (.bin .eql (.t 43) (.t 45)) [],
 .o 47 (.pick (.t 41) (.b true) (.t 46))] [1, 20, 21, 22, 23, 24, 25, 26, 27, 28, 29, 30, 31, 32, 33, 34, 35, 36, 37, 38, 39, 40, 41, 42, 43, 44, 45, 46])
 (.cond (.t 47)
 (.seq (.region false [
 .o 4 (.move (.b false))] [47])
 .ret)
 .skip))
 (.seq (.region false [
 .o 48 (.fieldAddr 3 (.t 2)),
 .o 49 (.load none (.t 48)),
 .o 50 (.call false 59 [.t 49, .i 1]),
 .o 51 (.move (.t 50)),
 .g 52 51 true (.fieldAddr 4 (.t 2)) [],
 .g 53 51 true (.load none (.t 52)) [],
 .g 54 51 true (.call false 59 [.t 53, .i 0]) [],
 .o 55 (.pick (.t 51) (.t 54) (.b false)),
 .o 56 (.move (.t 55)),
 .g 57 56 true (.fieldAddr 5 (.t 2)) [],
 .g 58 56 true (.load none (.t 57)) [],
 .g 59 56 true (.call false 59 [.t 58, .i 0]) [],
 .o 60 (.pick (.t 56) (.t 59) (.b false)),
 .o 61 (.move (.t 60)),
 .g 62 61 true (.fieldAddr 6 (.t 2)) [],
 .g 63 61 true (.load none (.t 62)) [],
 .g 64 61 true (.call false 59 [.t 63, .i 0]) [],
 .o 65 (.pick (.t 61) (.t 64) (.b false)),
 .o 66 (.move (.t 65)),
 .g 67 66 true (.fieldAddr 8 (.t 2)) [],
 .g 68 66 true (.load none (.t 67)) [],
 .g 69 66 true (.call false 60 [.t 68]) [],
 .o 70 (.pick (.t 66) (.t 69) (.b false)),
 .o 71 (.move (.t 70)),
 .g 72 71 true (.load (some 9) (.t 2)) [],
 .g 73 71 true (.call false 61 [.t 72]) [],
 .o 74 (.pick (.t 71) (.t 73) (.b false)),
 .o 4 (.move (.t 74))] [47, 48, 49, 50, 51, 52, 53, 54, 55, 56, 57, 58, 59, 60, 61, 62, 63, 64, 65, 66, 67, 68, 69, 70, 71, 72, 73, 74])
 .ret))))⟩

@[irreducible] def a27_l0 : ACode :=
  (.seq (.region false [
 .o 18 (.bin .lss (.t 17) (.t 16))] [])
 (.seq (.cond (.t 18)
 .skip
 (.ghost (.forget [15, 16, 17, 18]) (.ghost .lower (.exit 0))))
 (.seq (.block 1
 (.seq (.region false [
 .o 19 (.indexAddr 2 (.t 15) (.t 17)),
 .o 20 (.load (some 2) (.t 19)),
 .o 5 (.alloc [.int .i64 0, .str ⟨#[]⟩]),
 .u (.store 2 (.t 5) (.t 20))] [18, 19, 20])
 (.region false [
 .o 21 (.move (.t 3)),
 .o 22 (.fieldAddr 1 (.t 5)),
 .o 23 (.load none (.t 22)),
 .o 24 (.buildSlice [.str ⟨#[]⟩] 1 [(0, .t 23)]),
 .o 25 (.append 16 1 (.t 21) (.t 24)),
 .o 3 (.move (.t 25))] [21, 22, 23, 24, 25])))
 (.region false [
 .o 26 (.bin .add (.t 17) (.i 1)),
 .o 17 (.move (.t 26))] [26]))))

def a27 : AFunc := ⟨28, 1, [.tmp 2],
  (.seq (.region false [
 .o 1 (.box (.t 0)),
 .o 2 (.move (.c (.p (.slice true []))))] [0, 2])
 (.seq (.region false [
 .o 3 (.move (.c (.p (.slice true []))))] [])
 (.ghost (.own 1 3) (.seq (.seq (.region false [
 .o 6 (.fieldAddr 4 (.t 1)),
 .o 7 (.load none (.t 6)),
 .o 8 (.fieldAddr 6 (.t 1)),
 .o 9 (.load none (.t 8)),
 .o 10 (.fieldAddr 4 (.t 1)),
 .o 11 (.load none (.t 10)),
 .o 12 (.len (.t 11)),
 .o 13 (.minmax false (.t 9) [.t 12]),
 .o 14 (.minmax true (.t 13) [.i 0]),
 .o 15 (.slice 2 (.t 7) none (some (.t 14)) none),
 .o 16 (.len (.t 15)),
 .o 17 (.move (.i 0))] [6, 7, 8, 9, 10, 11, 12, 13, 14])
 (.block 0
 (.loop
 (.ghost (.free [1, 5]) (.ghost .lower a27_l0)))))
 (.seq (.region false [
 .o 27 (.move (.t 3)),
 .o 2 (.move (.t 27))] [3, 27])
 .ret)))))⟩

def a30 : AFunc := ⟨9, 2, [.tmp 4],
  (.seq (.region false [
 .o 4 (.move (.b false))] [4])
 (.seq (.region false [
 .o 5 (.move (.t 0)),
 .o 6 (.move (.t 1)),
 .o 7 (.call false 62 [.t 5, .t 6]),
 .o 8 (.bin .geq (.t 7) (.i 0)),
 .o 4 (.move (.t 8))] [0, 1, 5, 6, 7, 8])
 .ret))⟩

def a31 : AFunc := ⟨8, 2, [.tmp 3],
  (.seq (.regionK false [
 (.o 3 (.move (.b false)), [3])])
 (.seq (.regionK false [
 (.o 4 (.move (.t 0)), [0]),
 (.o 5 (.load none (.t 1)), [1]),
 (.o 6 (.call false 32 [.t 4, .t 5]), [4, 5]),
 (.o 7 (.un .not (.t 6)), [6]),
 (.o 3 (.move (.t 7)), [7])])
 .ret))⟩

def a32 : AFunc := ⟨18, 2, [.tmp 4],
  (.seq (.regionK false [
 (.o 4 (.move (.b false)), [4])])
 (.seq (.regionK false [
 (.o 6 (.move (.t 0)), []),
 (.o 7 (.len (.t 6)), [6]),
 (.o 8 (.move (.t 1)), []),
 (.o 9 (.len (.t 8)), [8]),
 (.o 10 (.minmax false (.t 7) [.t 9]), [7, 9]),
 (.o 5 (.move (.t 10)), [10])])
 (.seq (.regionK true [
 (.o 11 (.move (.t 0)), [0]),
 (.o 12 (.move (.t 5)), []),
 (⟨some 13, .slice 1 (.t 11) none (some (.t 12)) none, none, [0, 1]⟩, [11, 12]),
 (.o 14 (.move (.t 1)), [1]),
 (.o 15 (.move (.t 5)), [5]),
 (⟨some 16, .slice 1 (.t 14) none (some (.t 15)) none, none, [3, 4]⟩, [14, 15]),
 (⟨some 17, .call false 63 [.t 13, .t 16], none, [0, 1, 2, 3, 4, 5]⟩, [13, 16]),
 (⟨some 4, .move (.t 17), none, [0, 1, 2, 3, 4, 5, 6]⟩, [17])])
 .ret)))⟩

@[irreducible] def a33_l0 : ACode :=
  (.seq (.regionK false [
 (.o 17 (.bin .lss (.t 16) (.t 15)), [])])
 (.seq (.cond (.t 17)
 .skip
 (.ghost (.forget [0, 15, 16, 17]) (.ghost .lower (.exit 0))))
 (.seq (.block 1
 (.seq (.regionK false [
 (.o 18 (.move (.t 16)), [17]),
 (.o 5 (.move (.t 18)), [18])])
 (.seq (.regionK false [
 (.o 20 (.move (.t 5)), [5]),
 (.o 21 (.bin .add (.t 20) (.i 1)), [20]),
 (.o 22 (.move (.t 0)), []),
 (.o 23 (.call false 64 [.t 21, .t 22]), [21, 22]),
 (.o 19 (.move (.t 23)), [23]),
 (.o 24 (.extract (.t 19) 0), []),
 (.o 25 (.extract (.t 19) 1), [19]),
 (.o 6 (.alloc zz1), []),
 (.u (.store 10 (.t 6) (.t 24)), [24]),
 (.o 7 (.move (.t 25)), [25])])
 (.seq (.seq (.regionK false [
 (.o 26 (.move (.t 7)), []),
 (.o 27 (.bin .neq (.t 26) (.i 0)), [26])])
 (.cond (.t 27)
 (.seq (.regionK false [
 (.o 28 (.build [.slice true [], .slice true []] []), [0, 15, 16, 27]),
 (.o 29 (.move (.t 7)), [7]),
 (.u (.store 2 (.t 2) (.t 28)), [28]),
 (.o 3 (.move (.t 29)), [29])])
 .ret)
 .skip))
 (.regionK false [
 (.o 30 (.fieldAddr 0 (.t 4)), [7, 27]),
 (.o 31 (.load none (.t 30)), [30]),
 (.o 32 (.load (some 10) (.t 6)), []),
 (.o 33 (.buildSlice zz1 1 [(0, .t 32)]), [32]),
 (.o 34 (.append 144 10 (.t 31) (.t 33)), [31, 33]),
 (.o 35 (.fieldAddr 0 (.t 4)), []),
 (.u (.store 1 (.t 35) (.t 34)), [34, 35])])))))
 (.regionK false [
 (.o 36 (.bin .add (.t 16) (.i 1)), []),
 (.o 16 (.move (.t 36)), [36])]))))

def a33 : AFunc := ⟨38, 1, [.cell 2 2, .tmp 3],
  (.seq (.regionK false [
 (.o 2 (.alloc [.slice true [], .slice true []]), []),
 (.o 3 (.move (.i 0)), [3])])
 (.seq (.seq (.regionK false [
 (.o 8 (.move (.t 0)), []),
 (.o 9 (.bin .lss (.t 8) (.i 1)), [8]),
 (.o 10 (.move (.t 9)), [9]),
 (.g 11 10 false (.move (.t 0)) [], []),
 (.g 12 10 false (.bin .gtr (.t 11) (.i 7)) [], [11]),
 (.o 13 (.pick (.t 10) (.b true) (.t 12)), [10, 12])])
 (.cond (.t 13)
 (.seq (.regionK false [
 (.o 14 (.build [.slice true [], .slice true []] []), [0, 13]),
 (.u (.store 2 (.t 2) (.t 14)), [14]),
 (.o 3 (.move (.i 1)), [])])
 .ret)
 .skip))
 (.seq (.regionK false [
 (.o 4 (.alloc [.slice true [], .slice true []]), [13])])
 (.seq (.seq (.regionK false [
 (.o 15 (.move (.t 0)), []),
 (.o 16 (.move (.i 0)), [])])
 (.block 0
 (.loop
 (.ghost (.free [6]) (.ghost .lower a33_l0)))))
 (.seq (.regionK false [
 (.o 37 (.load (some 2) (.t 4)), []),
 (.u (.store 2 (.t 2) (.t 37)), [37]),
 (.o 3 (.move (.i 0)), [])])
 .ret)))))⟩

def a34 : AFunc := ⟨76, 2, [.cell 4 2, .tmp 5],
  (.seq (.regionK false [
 (.o 2 (.box (.t 0)), [0]),
 (.o 3 (.box (.t 1)), [1]),
 (.o 4 (.alloc [.slice true [], .slice true []]), []),
 (.o 5 (.move (.i 0)), [5])])
 (.seq (.seq (.regionK false [
 (.o 14 (.fieldAddr 0 (.t 3)), []),
 (.o 15 (.load none (.t 14)), [14])])
 (.block 0
 (.seq (.regionK false [
 (.o 17 (.bin .eql (.t 15) (.i 4)), []),
 (.o 16 (.move (.t 17)), [17])])
 (.cond (.t 16)
 (.seq (.regionK false [
 (.o 19 (.fieldAddr 1 (.t 2)), [15, 16]),
 (.o 20 (.load none (.t 19)), [19]),
 (.o 21 (.fieldAddr 2 (.t 3)), []),
 (.o 22 (.load none (.t 21)), [21]),
 (.o 23 (.call false 65 [.t 20, .t 22]), [20, 22]),
 (.o 18 (.move (.t 23)), [23]),
 (.o 24 (.extract (.t 18) 0), []),
 (.o 25 (.extract (.t 18) 1), []),
 (.o 26 (.extract (.t 18) 2), [18]),
 (.o 6 (.alloc zz2), []),
 (.u (.store 9 (.t 6) (.t 24)), [24]),
 (.o 7 (.move (.t 25)), [25]),
 (.o 8 (.move (.t 26)), [26])])
 (.seq (.seq (.regionK false [
 (.o 27 (.move (.t 8)), []),
 (.o 28 (.bin .neq (.t 27) (.i 0)), [27])])
 (.cond (.t 28)
 (.seq (.regionK false [
 (.o 29 (.build [.slice true [], .slice true []] []), [7, 28]),
 (.o 30 (.move (.t 8)), [8]),
 (.u (.store 2 (.t 4) (.t 29)), [29]),
 (.o 5 (.move (.t 30)), [30])])
 .ret)
 .skip))
 (.seq (.regionK false [
 (.o 31 (.mkfunc 66 [.t 6]), [8, 28]),
 (.o 9 (.move (.t 31)), [31])])
 (.seq (.regionK false [
 (.o 32 (.fieldAddr 0 (.t 2)), []),
 (.o 33 (.load none (.t 32)), [32]),
 (.o 34 (.move (.t 7)), [7]),
 (.o 35 (.build [.slice true [], .slice true []] [(0, 1, .t 33), (1, 1, .t 34)]), [33, 34]),
 (.o 36 (.fieldAddr 2 (.t 6)), []),
 (.o 37 (.load none (.t 36)), [36]),
 (.o 38 (.move (.t 9)), [9]),
 (.o 39 (.call true 35 [.t 35, .t 37, .t 38]), [35, 37, 38]),
 (.u (.store 2 (.t 4) (.t 39)), [39]),
 (.o 5 (.move (.i 0)), [])])
 .ret))))
 (.seq (.regionK false [
 (.o 41 (.bin .eql (.t 15) (.i 5)), [15, 16]),
 (.o 40 (.move (.t 41)), [41])])
 (.cond (.t 40)
 (.seq (.regionK false [
 (.o 43 (.fieldAddr 1 (.t 2)), [40]),
 (.o 44 (.load none (.t 43)), [43]),
 (.o 45 (.fieldAddr 2 (.t 3)), []),
 (.o 46 (.load none (.t 45)), [45]),
 (.o 47 (.call false 68 [.t 44, .t 46]), [44, 46]),
 (.o 42 (.move (.t 47)), [47]),
 (.o 48 (.extract (.t 42) 0), []),
 (.o 49 (.extract (.t 42) 1), [42]),
 (.o 10 (.move (.t 48)), [48]),
 (.o 11 (.move (.t 49)), [49])])
 (.seq (.seq (.regionK false [
 (.o 50 (.move (.t 11)), []),
 (.o 51 (.bin .neq (.t 50) (.i 0)), [50])])
 (.cond (.t 51)
 (.seq (.regionK false [
 (.o 52 (.build [.slice true [], .slice true []] []), [10, 51]),
 (.o 53 (.move (.t 11)), [11]),
 (.u (.store 2 (.t 4) (.t 52)), [52]),
 (.o 5 (.move (.t 53)), [53])])
 .ret)
 .skip))
 (.seq (.regionK false [
 (.o 54 (.fieldAddr 0 (.t 2)), [11, 51]),
 (.o 55 (.load none (.t 54)), [54]),
 (.o 56 (.move (.t 10)), [10]),
 (.o 57 (.build [.slice true [], .slice true []] [(0, 1, .t 55), (1, 1, .t 56)]), [55, 56]),
 (.o 58 (.call true 35 [.t 57, .i 1, .c (.func 69 [])]), [57]),
 (.u (.store 2 (.t 4) (.t 58)), [58]),
 (.o 5 (.move (.i 0)), [])])
 .ret)))
 .skip))))))
 (.seq (.regionK false [
 (.o 60 (.fieldAddr 1 (.t 2)), [40]),
 (.o 61 (.load none (.t 60)), [60]),
 (.o 62 (.fieldAddr 2 (.t 3)), []),
 (.o 63 (.load none (.t 62)), [62]),
 (.o 64 (.call false 70 [.t 61, .t 63]), [61, 63]),
 (.o 59 (.move (.t 64)), [64]),
 (.o 65 (.extract (.t 59) 0), []),
 (.o 66 (.extract (.t 59) 1), [59]),
 (.o 12 (.move (.t 65)), [65]),
 (.o 13 (.move (.t 66)), [66])])
 (.seq (.seq (.regionK false [
 (.o 67 (.move (.t 13)), []),
 (.o 68 (.bin .neq (.t 67) (.i 0)), [67])])
 (.cond (.t 68)
 (.seq (.regionK false [
 (.o 69 (.build [.slice true [], .slice true []] []), [12, 68]),
 (.o 70 (.move (.t 13)), [13]),
 (.u (.store 2 (.t 4) (.t 69)), [69]),
 (.o 5 (.move (.t 70)), [70])])
 .ret)
 .skip))
 (.seq (.regionK false [
 (.o 71 (.fieldAddr 0 (.t 2)), [13, 68]),
 (.o 72 (.load none (.t 71)), [71]),
 (.o 73 (.move (.t 12)), [12]),
 (.o 74 (.build [.slice true [], .slice true []] [(0, 1, .t 72), (1, 1, .t 73)]), [72, 73]),
 (.o 75 (.call true 35 [.t 74, .i 1, .c (.func 69 [])]), [74]),
 (.u (.store 2 (.t 4) (.t 75)), [75]),
 (.o 5 (.move (.i 0)), [])])
 .ret)))))⟩

@[irreducible] def a35_l0 : ACode :=
  (.seq (.regionK false [
 (.o 16 (.bin .lss (.t 15) (.t 14)), [])])
 (.seq (.cond (.t 16)
 .skip
 (.ghost (.forget [13, 14, 15, 16]) (.exit 0)))
 (.seq (.block 1
 (.seq (.regionK false [
 (.o 17 (.indexAddr 10 (.t 13) (.t 15)), [16]),
 (.o 18 (.load (some 10) (.t 17)), [17]),
 (.o 9 (.alloc zz1), []),
 (.u (.store 10 (.t 9) (.t 18)), [18])])
 (.regionK true [
 (.o 19 (.fieldAddr 0 (.t 7)), []),
 (⟨some 20, .load none (.t 19), none, [0]⟩, [19]),
 (.o 21 (.load (some 10) (.t 9)), []),
 (⟨some 22, .call false 71 [.t 21], none, [2]⟩, [21]),
 (⟨some 23, .buildSlice zz1 1 [(0, .t 22)], none, [2, 3]⟩, [22]),
 (⟨some 24, .append 144 10 (.t 20) (.t 23), none, [0, 1, 2, 3, 4]⟩, [20, 23]),
 (⟨some 25, .fieldAddr 0 (.t 7), none, [0, 1, 2, 3, 4, 5]⟩, []),
 (⟨none, .store 1 (.t 25) (.t 24), none, [0, 1, 2, 3, 4, 5, 6]⟩, [24, 25])])))
 (.regionK false [
 (.o 26 (.bin .add (.t 15) (.i 1)), []),
 (.o 15 (.move (.t 26)), [26])]))))

def a35 : AFunc := ⟨51, 3, [.cell 6 2],
  (.seq (.regionK false [
 (.o 3 (.box (.t 0)), [0]),
 (.o 6 (.alloc [.slice true [], .slice true []]), [])])
 (.seq (.regionK false [
 (.o 7 (.alloc [.slice true [], .slice true []]), [])])
 (.ghost (.ownIn 10 7 0) (.seq (.seq (.regionK false [
 (.o 12 (.fieldAddr 0 (.t 3)), []),
 (.o 13 (.load none (.t 12)), [12]),
 (.o 14 (.len (.t 13)), []),
 (.o 15 (.move (.i 0)), [])])
 (.block 0
 (.loop
 (.ghost (.free [9]) a35_l0))))
 (.seq (.regionK false [
 (.o 28 (.move (.t 2)), [2]),
 (.o 29 (.fieldAddr 0 (.t 7)), []),
 (.o 30 (.load none (.t 29)), [29]),
 (.o 31 (.move (.t 1)), []),
 (.o 32 (.bin .sub (.t 31) (.i 1)), [31]),
 (.o 33 (.indexAddr 10 (.t 30) (.t 32)), [30, 32]),
 (.o 34 (.load (some 10) (.t 33)), [33]),
 (.o 35 (.callv true (.t 28) [.t 34]), [28, 34]),
 (.o 27 (.move (.t 35)), [35]),
 (.o 36 (.extract (.t 27) 0), []),
 (.o 37 (.extract (.t 27) 1), [27]),
 (.o 10 (.alloc zz1), []),
 (.u (.store 10 (.t 10) (.t 36)), [36]),
 (.o 11 (.move (.t 37)), [37])])
 (.seq (.regionK true [
 (.o 38 (.fieldAddr 0 (.t 7)), []),
 (⟨some 39, .load none (.t 38), none, [0]⟩, [38]),
 (.o 40 (.move (.t 1)), [1]),
 (⟨some 41, .bin .sub (.t 40) (.i 1), none, [2]⟩, [40]),
 (.o 42 (.load (some 10) (.t 10)), []),
 (⟨some 43, .call false 71 [.t 42], none, [4]⟩, [42]),
 (⟨some 44, .indexAddr 10 (.t 39) (.t 41), none, [0, 1, 2, 3, 4, 5]⟩, [39, 41]),
 (⟨none, .store 10 (.t 44) (.t 43), none, [0, 1, 2, 3, 4, 5, 6]⟩, [43, 44])])
 (.seq (.regionK false [
 (.o 45 (.fieldAddr 1 (.t 3)), []),
 (.o 46 (.load none (.t 45)), [45]),
 (.o 47 (.move (.t 11)), [11]),
 (.o 48 (.call false 72 [.t 46, .t 47]), [46, 47]),
 (.o 49 (.fieldAddr 1 (.t 7)), []),
 (.u (.store 1 (.t 49) (.t 48)), [48, 49])])
 (.seq (.regionK false [
 (.o 50 (.load (some 2) (.t 7)), []),
 (.u (.store 2 (.t 6) (.t 50)), [50])])
 .ret))))))))⟩

def a36 : AFunc := ⟨37, 3, [.cell 4 10, .tmp 5],
  (.seq (.regionK false [
 (.o 3 (.box (.t 0)), [0]),
 (.o 4 (.alloc zz1), []),
 (.o 5 (.move (.c (.p (.slice true [])))), [5])])
 (.seq (.seq (.regionK false [
 (.o 8 (.fieldAddr 0 (.t 1)), []),
 (.o 9 (.load none (.t 8)), [8])])
 (.block 0
 (.seq (.regionK false [
 (.o 11 (.bin .eql (.t 9) (.i 1)), []),
 (.o 10 (.move (.t 11)), [11])])
 (.cond (.t 10)
 (.seq (.regionK false [
 (.o 12 (.load (some 10) (.t 3)), [1, 2, 9, 10]),
 (.o 13 (.call false 37 [.t 12]), [12]),
 (.o 14 (.extract (.t 13) 0), []),
 (.o 15 (.extract (.t 13) 1), [13]),
 (.u (.store 10 (.t 4) (.t 14)), [14]),
 (.o 5 (.move (.t 15)), [15])])
 .ret)
 (.seq (.regionK false [
 (.o 17 (.bin .eql (.t 9) (.i 2)), [10]),
 (.o 16 (.move (.t 17)), [17])])
 (.cond (.t 16)
 (.seq (.regionK true [
 (.o 18 (.load (some 10) (.t 3)), [1, 2, 9, 16]),
 (.o 19 (.load (some 10) (.t 3)), []),
 (⟨some 20, .call false 38 [.t 19], none, [1]⟩, [19]),
 (⟨none, .store 10 (.t 4) (.t 18), none, [0, 1, 2]⟩, [18]),
 (⟨some 5, .move (.t 20), none, [0, 1, 2, 3]⟩, [20])])
 .ret)
 (.seq (.regionK false [
 (.o 22 (.bin .eql (.t 9) (.i 3)), [9, 16]),
 (.o 21 (.move (.t 22)), [22])])
 (.cond (.t 21)
 (.seq (.regionK false [
 (.o 24 (.load (some 10) (.t 3)), [21]),
 (.o 25 (.fieldAddr 3 (.t 1)), [1]),
 (.o 26 (.load none (.t 25)), [25]),
 (.o 27 (.call false 39 [.t 24, .t 26]), [24, 26]),
 (.o 23 (.move (.t 27)), [27]),
 (.o 28 (.extract (.t 23) 0), []),
 (.o 29 (.extract (.t 23) 1), [23]),
 (.o 6 (.alloc zz1), []),
 (.u (.store 10 (.t 6) (.t 28)), [28]),
 (.o 7 (.move (.t 29)), [29])])
 (.seq (.regionK false [
 (.o 30 (.move (.t 7)), []),
 (.u (.store 1 (.t 2) (.t 30)), [2, 30])])
 (.seq (.seq (.regionK false [
 (.o 31 (.move (.t 7)), [7]),
 (.o 32 (.bin .neq (.t 31) (.i 0)), [31])])
 (.cond (.t 32)
 (.seq (.regionK false [
 (.o 33 (.load (some 10) (.t 3)), [32]),
 (.u (.store 10 (.t 4) (.t 33)), [33]),
 (.o 5 (.move (.c (.p (.slice true [])))), [])])
 .ret)
 .skip))
 (.seq (.regionK false [
 (.o 34 (.load (some 10) (.t 6)), [32]),
 (.u (.store 10 (.t 4) (.t 34)), [34]),
 (.o 5 (.move (.c (.p (.slice true [])))), [])])
 .ret))))
 .skip))))))))
 (.seq (.regionK false [
 (.o 35 (.load (some 10) (.t 3)), [1, 2, 21]),
 (.o 36 (.call false 40 [.t 35]), [35]),
 (.u (.store 10 (.t 4) (.t 36)), [36]),
 (.o 5 (.move (.c (.p (.slice true [])))), [])])
 .ret)))⟩

@[irreducible] def a37_l0 : ACode :=
  (.seq (.seq (.region false [
 .o 45 (.move (.t 6)),
 .o 46 (.fieldAddr 0 (.t 4)),
 .o 47 (.fieldAddr 1 (.t 46)),
 .o 48 (.load none (.t 47)),
 .o 49 (.bin .leq (.t 45) (.t 48))] [45, 46, 47, 48])
 (.cond (.t 49)
 .skip
 (.ghost (.forget [6, 49]) (.ghost .lower (.exit 0)))))
 (.seq (.block 1
 (.seq (.region false [
 .o 52 (.move (.t 6)),
 .o 53 (.fieldAddr 0 (.t 4)),
 .o 54 (.fieldAddr 0 (.t 53)),
 .o 55 (.load none (.t 54)),
 .o 56 (.bin .neq (.t 52) (.t 55))] [49, 52, 53, 54, 55])
 (.cond (.t 56)
 (.region true [
 .o 57 (.move (.t 5)),
 .o 58 (.fieldAddr 0 (.t 4)),
 ⟨some 59, .fieldAddr 0 (.t 58), none, [1]⟩,
 ⟨some 60, .load none (.t 59), none, [1, 2]⟩,
 .o 61 (.move (.t 6)),
 .o 62 (.fieldAddr 0 (.t 4)),
 ⟨some 63, .fieldAddr 2 (.t 62), none, [5]⟩,
 ⟨some 64, .load none (.t 63), none, [5, 6]⟩,
 .o 65 (.fieldAddr 0 (.t 4)),
 ⟨some 66, .fieldAddr 4 (.t 65), none, [8]⟩,
 ⟨some 67, .load none (.t 66), none, [8, 9]⟩,
 ⟨some 68, .len (.t 67), none, [8, 9, 10]⟩,
 .o 69 (.fieldAddr 0 (.t 4)),
 ⟨some 70, .fieldAddr 4 (.t 69), none, [12]⟩,
 ⟨some 71, .load none (.t 70), none, [12, 13]⟩,
 ⟨some 72, .call false 75 [.t 71], none, [12, 13, 14]⟩,
 ⟨some 73, .build zz2 [(0, 1, .i 1), (1, 1, .t 60), (2, 1, .t 61), (3, 1, .t 64), (4, 1, .t 68), (5, 1, .t 72)], none, [1, 2, 3, 4, 5, 6, 7, 8, 9, 10, 11, 12, 13, 14, 15]⟩,
 ⟨some 74, .buildSlice zz2 1 [(0, .t 73)], none, [1, 2, 3, 4, 5, 6, 7, 8, 9, 10, 11, 12, 13, 14, 15, 16]⟩,
 ⟨some 75, .append 88 9 (.t 57) (.t 74), none, [0, 1, 2, 3, 4, 5, 6, 7, 8, 9, 10, 11, 12, 13, 14, 15, 16, 17]⟩,
 ⟨some 5, .move (.t 75), none, [0, 1, 2, 3, 4, 5, 6, 7, 8, 9, 10, 11, 12, 13, 14, 15, 16, 17, 18]⟩] [56, 57, 58, 59, 60, 61, 62, 63, 64, 65, 66, 67, 68, 69, 70, 71, 72, 73, 74, 75])
 .skip)))
 (.region false [
 .o 50 (.move (.t 6)),
 .o 51 (.bin .add (.t 50) (.i 1)),
 .o 6 (.move (.t 51))] [50, 51, 56])))

def a37 : AFunc := ⟨79, 1, [.cell 2 10, .tmp 3],
  (.seq (.region false [
 .o 1 (.box (.t 0)),
 .o 2 (.alloc zz1),
 .o 3 (.move (.c (.p (.slice true []))))] [0, 3])
 (.seq (.region false [
 .o 7 (.load (some 10) (.t 1)),
 .o 8 (.call true 73 [.t 7]),
 .o 9 (.build zz1 [(0, 10, .t 8)]),
 .o 4 (.alloc zz1),
 .u (.store 10 (.t 4) (.t 9))] [7, 8, 9])
 (.seq (.seq (.region false [
 .o 10 (.load (some 10) (.t 1)),
 .o 11 (.call false 22 [.t 10]),
 .o 12 (.un .not (.t 11)),
 .o 13 (.move (.t 12)),
 .g 14 13 false (.fieldAddr 5 (.t 1)) [],
 .g 15 13 false (.load none (.t 14)) [],
 .g 16 13 false (.bin .eql (.t 15) (.i 3)) [],
 .o 17 (.pick (.t 13) (.b true) (.t 16)),
 .o 18 (.move (.t 17)),
 .g 19 18 false (.fieldAddr 2 (.t 1)) [],
 .g 20 18 false (.load none (.t 19)) [],
 .g 21 18 false (.bin .eql (.t 20) (.i 1099511627776)) [],
 .o 22 (.pick (.t 18) (.b true) (.t 21))] [10, 11, 12, 13, 14, 15, 16, 17, 18, 19, 20, 21])
 (.cond (.t 22)
 (.seq (.region false [
 .o 23 (.fieldAddr 0 (.t 4)),
 .o 24 (.load (some 10) (.t 23)),
 .u (.store 10 (.t 2) (.t 24)),
 .o 3 (.move (.c (.p (.slice true []))))] [22, 23, 24])
 .ret)
 .skip))
 (.seq (.region false [
 .o 25 (.fieldAddr 0 (.t 4)),
 .o 26 (.fieldAddr 2 (.t 25)),
 .o 27 (.load none (.t 26)),
 .o 28 (.bin .add (.t 27) (.i 1)),
 .o 29 (.fieldAddr 0 (.t 4)),
 .o 30 (.fieldAddr 2 (.t 29)),
 .u (.store 1 (.t 30) (.t 28))] [22, 25, 26, 27, 28, 29, 30])
 (.seq (.region false [
 .o 31 (.fieldAddr 0 (.t 4)),
 .o 32 (.fieldAddr 0 (.t 31)),
 .o 33 (.load none (.t 32)),
 .o 34 (.fieldAddr 0 (.t 4)),
 .o 35 (.fieldAddr 3 (.t 34)),
 .u (.store 1 (.t 35) (.t 33))] [31, 32, 33, 34, 35])
 (.seq (.region false [
 .o 36 (.fieldAddr 0 (.t 4)),
 .o 37 (.fieldAddr 5 (.t 36)),
 .u (.store 1 (.t 37) (.i 2))] [36, 37])
 (.seq (.region false [
 .o 38 (.fieldAddr 0 (.t 4)),
 .o 39 (.fieldAddr 0 (.t 38)),
 .o 40 (.load none (.t 39)),
 .o 41 (.buildSlice [.int .i64 0] 1 [(0, .t 40)]),
 .o 42 (.fieldAddr 0 (.t 4)),
 .o 43 (.fieldAddr 7 (.t 42)),
 .u (.store 1 (.t 43) (.t 41))] [38, 39, 40, 41, 42, 43])
 (.seq (.region false [
 .o 44 (.call true 74 [.t 4])] [44])
 (.seq (.region false [
 .o 5 (.move (.c (.p (.slice true []))))] [])
 (.ghost (.own 9 5) (.seq (.seq (.region false [
 .o 6 (.move (.i 1))] [])
 (.block 0
 (.loop
 (.ghost (.free [1]) (.ghost .lower a37_l0)))))
 (.seq (.region false [
 .o 76 (.fieldAddr 0 (.t 4)),
 .o 77 (.load (some 10) (.t 76)),
 .o 78 (.move (.t 5)),
 .u (.store 10 (.t 2) (.t 77)),
 .o 3 (.move (.t 78))] [5, 76, 77, 78])
 .ret))))))))))))⟩

@[irreducible] def a38_l0 : ACode :=
  (.seq (.seq (.region false [
 .o 14 (.move (.t 4)),
 .o 15 (.fieldAddr 1 (.t 1)),
 .o 16 (.load none (.t 15)),
 .o 17 (.bin .leq (.t 14) (.t 16))] [14, 15, 16])
 (.cond (.t 17)
 .skip
 (.ghost (.forget [4, 17]) (.ghost (.free [1]) (.ghost .lower (.exit 0))))))
 (.seq (.block 1
 (.seq (.seq (.region false [
 .o 20 (.move (.t 4)),
 .o 21 (.fieldAddr 0 (.t 1)),
 .o 22 (.load none (.t 21)),
 .o 23 (.bin .eql (.t 20) (.t 22))] [17, 20, 21, 22])
 (.cond (.t 23)
 (.ghost (.forget [23]) (.ghost .lower (.exit 1)))
 .skip))
 (.seq (.region false [
 .o 24 (.fieldAddr 8 (.t 1)),
 .o 25 (.load none (.t 24)),
 .o 26 (.move (.t 4)),
 .o 27 (.bin .sub (.t 26) (.i 1)),
 .o 28 (.indexAddr 1 (.t 25) (.t 27)),
 .o 29 (.load none (.t 28)),
 .o 5 (.move (.t 29))] [23, 24, 25, 26, 27, 28, 29])
 (.region true [
 .o 30 (.move (.t 3)),
 .o 31 (.fieldAddr 0 (.t 1)),
 ⟨some 32, .load none (.t 31), none, [1]⟩,
 .o 33 (.move (.t 4)),
 .o 34 (.fieldAddr 2 (.t 1)),
 ⟨some 35, .load none (.t 34), none, [4]⟩,
 .o 36 (.move (.t 5)),
 .o 37 (.load (some 10) (.t 1)),
 .o 38 (.move (.t 5)),
 ⟨some 39, .call false 76 [.t 37, .t 38], none, [7, 8]⟩,
 .o 40 (.fieldAddr 6 (.t 1)),
 ⟨some 41, .load none (.t 40), none, [10]⟩,
 .o 42 (.fieldAddr 4 (.t 1)),
 ⟨some 43, .load none (.t 42), none, [12]⟩,
 .o 44 (.move (.t 5)),
 ⟨some 45, .slice 2 (.t 43) (some (.t 44)) none none, none, [12, 13, 14]⟩,
 ⟨some 46, .call false 77 [.t 45], none, [7, 8, 9, 12, 13, 14, 15]⟩,
 ⟨some 47, .build zz2 [(0, 1, .i 3), (1, 1, .t 32), (2, 1, .t 33), (3, 1, .t 35), (4, 1, .t 36), (5, 1, .t 39), (6, 1, .t 41), (8, 1, .t 46)], none, [1, 2, 3, 4, 5, 6, 7, 8, 9, 10, 11, 12, 13, 14, 15, 16]⟩,
 ⟨some 48, .buildSlice zz2 1 [(0, .t 47)], none, [1, 2, 3, 4, 5, 6, 7, 8, 9, 10, 11, 12, 13, 14, 15, 16, 17]⟩,
 ⟨some 49, .append 88 9 (.t 30) (.t 48), none, [0, 1, 2, 3, 4, 5, 6, 7, 8, 9, 10, 11, 12, 13, 14, 15, 16, 17, 18]⟩,
 ⟨some 3, .move (.t 49), none, [0, 1, 2, 3, 4, 5, 6, 7, 8, 9, 10, 11, 12, 13, 14, 15, 16, 17, 18, 19]⟩] [5, 30, 31, 32, 33, 34, 35, 36, 37, 38, 39, 40, 41, 42, 43, 44, 45, 46, 47, 48, 49]))))
 (.region false [
 .o 18 (.move (.t 4)),
 .o 19 (.bin .add (.t 18) (.i 1)),
 .o 4 (.move (.t 19))] [18, 19])))

def a38 : AFunc := ⟨51, 1, [.tmp 2],
  (.seq (.region false [
 .o 1 (.box (.t 0)),
 .o 2 (.move (.c (.p (.slice true []))))] [0, 2])
 (.seq (.seq (.region false [
 .o 6 (.load (some 10) (.t 1)),
 .o 7 (.call false 22 [.t 6]),
 .o 8 (.un .not (.t 7)),
 .o 9 (.move (.t 8)),
 .g 10 9 false (.fieldAddr 5 (.t 1)) [],
 .g 11 9 false (.load none (.t 10)) [],
 .g 12 9 false (.bin .neq (.t 11) (.i 3)) [],
 .o 13 (.pick (.t 9) (.b true) (.t 12))] [6, 7, 8, 9, 10, 11, 12])
 (.cond (.t 13)
 (.seq (.region false [
 .o 2 (.move (.c (.p (.slice true []))))] [13])
 .ret)
 .skip))
 (.seq (.region false [
 .o 3 (.move (.c (.p (.slice true []))))] [13])
 (.ghost (.own 9 3) (.seq (.seq (.region false [
 .o 4 (.move (.i 1))] [])
 (.block 0
 (.loop
 (.ghost .lower a38_l0))))
 (.seq (.region false [
 .o 50 (.move (.t 3)),
 .o 2 (.move (.t 50))] [3, 50])
 .ret))))))⟩

def a39 : AFunc := ⟨61, 2, [.cell 4 10, .tmp 5],
  (.seq (.region false [
 .o 2 (.box (.t 0)),
 .o 4 (.alloc zz1),
 .o 5 (.move (.i 0))] [0, 5])
 (.seq (.block 0
 (.seq (.region false [
 .o 8 (.load (some 10) (.t 2)),
 .o 9 (.call false 22 [.t 8]),
 .o 10 (.un .not (.t 9)),
 .o 7 (.move (.t 10))] [8, 9, 10])
 (.cond (.t 7)
 (.seq (.region false [
 .o 11 (.build zz1 []),
 .u (.store 10 (.t 4) (.t 11)),
 .o 5 (.move (.i 1))] [1, 7, 11])
 .ret)
 (.seq (.region false [
 .o 13 (.fieldAddr 5 (.t 2)),
 .o 14 (.load none (.t 13)),
 .o 15 (.bin .neq (.t 14) (.i 3)),
 .o 12 (.move (.t 15))] [7, 13, 14, 15])
 (.cond (.t 12)
 (.seq (.region false [
 .o 16 (.build zz1 []),
 .u (.store 10 (.t 4) (.t 16)),
 .o 5 (.move (.i 21))] [1, 12, 16])
 .ret)
 (.seq (.region false [
 .o 18 (.move (.t 1)),
 .o 19 (.lenS (.t 18)),
 .o 20 (.bin .gtr (.t 19) (.i 4096)),
 .o 17 (.move (.t 20))] [12, 18, 19, 20])
 (.cond (.t 17)
 (.seq (.region false [
 .o 21 (.build zz1 []),
 .u (.store 10 (.t 4) (.t 21)),
 .o 5 (.move (.i 2))] [1, 17, 21])
 .ret)
 (.seq (.region false [
 .o 23 (.fieldAddr 4 (.t 2)),
 .o 24 (.load none (.t 23)),
 .o 25 (.len (.t 24)),
 .o 26 (.bin .geq (.t 25) (.i 256)),
 .o 22 (.move (.t 26))] [17, 23, 24, 25, 26])
 (.cond (.t 22)
 (.seq (.region false [
 .o 27 (.build zz1 []),
 .u (.store 10 (.t 4) (.t 27)),
 .o 5 (.move (.i 17))] [1, 22, 27])
 .ret)
 .skip)))))))))
 (.seq (.region false [
 .o 28 (.load (some 10) (.t 2)),
 .o 29 (.call true 78 [.t 28]),
 .o 6 (.alloc zz1),
 .u (.store 10 (.t 6) (.t 29))] [22, 28, 29])
 (.seq (.region false [
 .o 30 (.fieldAddr 4 (.t 6)),
 .o 31 (.load none (.t 30)),
 .o 32 (.fieldAddr 2 (.t 2)),
 .o 33 (.load none (.t 32)),
 .o 34 (.move (.t 1)),
 .o 35 (.build [.int .i64 0, .str ⟨#[]⟩] [(0, 1, .t 33), (1, 1, .t 34)]),
 .o 36 (.buildSlice [.int .i64 0, .str ⟨#[]⟩] 1 [(0, .t 35)]),
 .o 37 (.append 24 2 (.t 31) (.t 36)),
 .o 38 (.fieldAddr 4 (.t 6)),
 .u (.store 1 (.t 38) (.t 37))] [1, 30, 31, 32, 33, 34, 35, 36, 37, 38])
 (.seq (.region false [
 .o 39 (.fieldAddr 8 (.t 6)),
 .o 40 (.load none (.t 39)),
 .o 41 (.fieldAddr 0 (.t 2)),
 .o 42 (.load none (.t 41)),
 .o 43 (.bin .sub (.t 42) (.i 1)),
 .o 44 (.fieldAddr 4 (.t 6)),
 .o 45 (.load none (.t 44)),
 .o 46 (.len (.t 45)),
 .o 47 (.indexAddr 1 (.t 40) (.t 43)),
 .u (.store 1 (.t 47) (.t 46))] [39, 40, 41, 42, 43, 44, 45, 46, 47])
 (.seq (.region false [
 .o 48 (.fieldAddr 9 (.t 6)),
 .o 49 (.load none (.t 48)),
 .o 50 (.fieldAddr 0 (.t 2)),
 .o 51 (.load none (.t 50)),
 .o 52 (.bin .sub (.t 51) (.i 1)),
 .o 53 (.fieldAddr 4 (.t 6)),
 .o 54 (.load none (.t 53)),
 .o 55 (.len (.t 54)),
 .o 56 (.indexAddr 1 (.t 49) (.t 52)),
 .u (.store 1 (.t 56) (.t 55))] [48, 49, 50, 51, 52, 53, 54, 55, 56])
 (.seq (.region false [
 .o 57 (.load (some 10) (.t 6)),
 .o 58 (.call false 79 [.t 57]),
 .o 59 (.fieldAddr 6 (.t 6)),
 .u (.store 1 (.t 59) (.t 58))] [57, 58, 59])
 (.seq (.region false [
 .o 60 (.load (some 10) (.t 6)),
 .u (.store 10 (.t 4) (.t 60)),
 .o 5 (.move (.i 0))] [60])
 .ret))))))))⟩

def a40 : AFunc := ⟨20, 1, [.cell 2 10],
  (.seq (.region false [
 .o 1 (.box (.t 0)),
 .o 2 (.alloc zz1)] [0])
 (.seq (.seq (.region false [
 .o 3 (.load (some 10) (.t 1)),
 .o 4 (.call false 22 [.t 3]),
 .o 5 (.un .not (.t 4))] [3, 4])
 (.cond (.t 5)
 (.seq (.region false [
 .o 6 (.load (some 10) (.t 1)),
 .o 7 (.call true 73 [.t 6]),
 .u (.store 10 (.t 2) (.t 7))] [5, 6, 7])
 .ret)
 .skip))
 (.seq (.region true [
 .o 8 (.fieldAddr 0 (.t 1)),
 ⟨some 9, .load none (.t 8), none, [0]⟩,
 .o 10 (.fieldAddr 1 (.t 1)),
 ⟨some 11, .load none (.t 10), none, [2]⟩,
 .o 12 (.fieldAddr 2 (.t 1)),
 ⟨some 13, .load none (.t 12), none, [4]⟩,
 .o 14 (.fieldAddr 3 (.t 1)),
 ⟨some 15, .load none (.t 14), none, [6]⟩,
 .o 16 (.fieldAddr 4 (.t 1)),
 ⟨some 17, .load none (.t 16), none, [8]⟩,
 ⟨some 18, .call false 77 [.t 17], none, [8, 9]⟩,
 ⟨some 19, .build zz1 [(0, 1, .t 9), (1, 1, .t 11), (2, 1, .t 13), (3, 1, .t 15), (4, 1, .t 18), (5, 1, .i 1)], none, [0, 1, 2, 3, 4, 5, 6, 7, 8, 9, 10]⟩,
 ⟨none, .store 10 (.t 2) (.t 19), none, [0, 1, 2, 3, 4, 5, 6, 7, 8, 9, 10, 11]⟩] [5, 8, 9, 10, 11, 12, 13, 14, 15, 16, 17, 18, 19])
 .ret)))⟩

def a41 : AFunc := ⟨85, 2, [.cell 4 2, .tmp 5],
  (.seq (.regionK false [
 (.o 2 (.box (.t 0)), [0]),
 (.o 3 (.box (.t 1)), [1]),
 (.o 4 (.alloc [.slice true [], .slice true []]), []),
 (.o 5 (.move (.i 0)), [5])])
 (.seq (.seq (.regionK false [
 (.o 15 (.fieldAddr 0 (.t 3)), []),
 (.o 16 (.load none (.t 15)), [15])])
 (.block 0
 (.seq (.regionK false [
 (.o 18 (.bin .eql (.t 16) (.i 5)), []),
 (.o 17 (.move (.t 18)), [18])])
 (.cond (.t 17)
 (.seq (.regionK false [
 (.o 20 (.fieldAddr 1 (.t 2)), [16, 17]),
 (.o 21 (.load none (.t 20)), [20]),
 (.o 22 (.fieldAddr 2 (.t 3)), []),
 (.o 23 (.load none (.t 22)), [22]),
 (.o 24 (.call false 80 [.t 21, .t 23]), [21, 23]),
 (.o 19 (.move (.t 24)), [24]),
 (.o 25 (.extract (.t 19) 0), []),
 (.o 26 (.extract (.t 19) 1), [19]),
 (.o 6 (.move (.t 25)), [25]),
 (.o 7 (.move (.t 26)), [26])])
 (.seq (.seq (.regionK false [
 (.o 27 (.move (.t 7)), []),
 (.o 28 (.bin .neq (.t 27) (.i 0)), [27])])
 (.cond (.t 28)
 (.seq (.regionK false [
 (.o 29 (.build [.slice true [], .slice true []] []), [6, 28]),
 (.o 30 (.move (.t 7)), [7]),
 (.u (.store 2 (.t 4) (.t 29)), [29]),
 (.o 5 (.move (.t 30)), [30])])
 .ret)
 .skip))
 (.seq (.regionK false [
 (.o 31 (.fieldAddr 0 (.t 2)), [7, 28]),
 (.o 32 (.load none (.t 31)), [31]),
 (.o 33 (.move (.t 6)), [6]),
 (.o 34 (.build [.slice true [], .slice true []] [(0, 1, .t 32), (1, 1, .t 33)]), [32, 33]),
 (.u (.store 2 (.t 4) (.t 34)), [34]),
 (.o 5 (.move (.i 0)), [])])
 .ret)))
 (.seq (.regionK false [
 (.o 36 (.bin .eql (.t 16) (.i 6)), [16, 17]),
 (.o 35 (.move (.t 36)), [36])])
 (.cond (.t 35)
 (.seq (.regionK false [
 (.o 38 (.fieldAddr 1 (.t 2)), [35]),
 (.o 39 (.load none (.t 38)), [38]),
 (.o 40 (.fieldAddr 2 (.t 3)), []),
 (.o 41 (.load none (.t 40)), [40]),
 (.o 42 (.call false 81 [.t 39, .t 41]), [39, 41]),
 (.o 37 (.move (.t 42)), [42]),
 (.o 43 (.extract (.t 37) 0), []),
 (.o 44 (.extract (.t 37) 1), [37]),
 (.o 8 (.move (.t 43)), [43]),
 (.o 9 (.move (.t 44)), [44])])
 (.seq (.seq (.regionK false [
 (.o 45 (.move (.t 9)), []),
 (.o 46 (.bin .neq (.t 45) (.i 0)), [45])])
 (.cond (.t 46)
 (.seq (.regionK false [
 (.o 47 (.build [.slice true [], .slice true []] []), [8, 46]),
 (.o 48 (.move (.t 9)), [9]),
 (.u (.store 2 (.t 4) (.t 47)), [47]),
 (.o 5 (.move (.t 48)), [48])])
 .ret)
 .skip))
 (.seq (.regionK false [
 (.o 49 (.fieldAddr 0 (.t 2)), [9, 46]),
 (.o 50 (.load none (.t 49)), [49]),
 (.o 51 (.move (.t 8)), [8]),
 (.o 52 (.build [.slice true [], .slice true []] [(0, 1, .t 50), (1, 1, .t 51)]), [50, 51]),
 (.u (.store 2 (.t 4) (.t 52)), [52]),
 (.o 5 (.move (.i 0)), [])])
 .ret)))
 .skip))))))
 (.seq (.regionK false [
 (.o 54 (.fieldAddr 1 (.t 2)), [35]),
 (.o 55 (.load none (.t 54)), [54]),
 (.o 56 (.fieldAddr 2 (.t 3)), []),
 (.o 57 (.load none (.t 56)), [56]),
 (.o 58 (.call false 82 [.t 55, .t 57]), [55, 57]),
 (.o 53 (.move (.t 58)), [58]),
 (.o 59 (.extract (.t 53) 0), []),
 (.o 60 (.extract (.t 53) 1), []),
 (.o 61 (.extract (.t 53) 2), [53]),
 (.o 10 (.alloc zz2), []),
 (.u (.store 9 (.t 10) (.t 59)), [59]),
 (.o 11 (.move (.t 60)), [60]),
 (.o 12 (.move (.t 61)), [61])])
 (.seq (.seq (.regionK false [
 (.o 62 (.move (.t 12)), []),
 (.o 63 (.bin .neq (.t 62) (.i 0)), [62])])
 (.cond (.t 63)
 (.seq (.regionK false [
 (.o 64 (.build [.slice true [], .slice true []] []), [11, 63]),
 (.o 65 (.move (.t 12)), [12]),
 (.u (.store 2 (.t 4) (.t 64)), [64]),
 (.o 5 (.move (.t 65)), [65])])
 .ret)
 .skip))
 (.seq (.regionK true [
 (.o 67 (.fieldAddr 0 (.t 2)), [12, 63]),
 (⟨some 68, .load none (.t 67), none, [0]⟩, [67]),
 (.o 69 (.fieldAddr 2 (.t 10)), []),
 (⟨some 70, .load none (.t 69), none, [2]⟩, [69]),
 (⟨some 71, .bin .sub (.t 70) (.i 1), none, [2, 3]⟩, [70]),
 (⟨some 72, .indexAddr 10 (.t 68) (.t 71), none, [0, 1, 2, 3, 4]⟩, [68, 71]),
 (⟨some 73, .load (some 10) (.t 72), none, [0, 1, 2, 3, 4, 5]⟩, [72]),
 (.o 74 (.load (some 9) (.t 10)), []),
 (⟨some 75, .call false 83 [.t 73, .t 74], none, [0, 1, 2, 3, 4, 5, 6, 7]⟩, [73, 74]),
 (⟨some 66, .move (.t 75), none, [0, 1, 2, 3, 4, 5, 6, 7, 8]⟩, [75]),
 (⟨some 76, .extract (.t 66) 0, none, [0, 1, 2, 3, 4, 5, 6, 7, 8, 9]⟩, []),
 (⟨some 77, .extract (.t 66) 1, none, [0, 1, 2, 3, 4, 5, 6, 7, 8, 9]⟩, [66]),
 (.o 13 (.alloc zz1), []),
 (⟨none, .store 10 (.t 13) (.t 76), none, [0, 1, 2, 3, 4, 5, 6, 7, 8, 9, 10, 12]⟩, [76]),
 (⟨some 14, .move (.t 77), none, [0, 1, 2, 3, 4, 5, 6, 7, 8, 9, 10, 11, 12, 13]⟩, [77])])
 (.seq (.regionK false [
 (.o 78 (.fieldAddr 0 (.t 2)), []),
 (.o 79 (.load none (.t 78)), [78]),
 (.o 80 (.move (.t 11)), [11]),
 (.o 81 (.build [.slice true [], .slice true []] [(0, 1, .t 79), (1, 1, .t 80)]), [79, 80]),
 (.o 82 (.load (some 10) (.t 13)), []),
 (.o 83 (.move (.t 14)), [14]),
 (.o 84 (.call false 43 [.t 81, .t 82, .t 83]), [81, 82, 83]),
 (.u (.store 2 (.t 4) (.t 84)), [84]),
 (.o 5 (.move (.i 0)), [])])
 .ret))))))⟩

@[irreducible] def a42_l0 : ACode :=
  (.seq (.seq (.region false [
 .o 34 (.move (.t 6)),
 .o 35 (.fieldAddr 1 (.t 1)),
 .o 36 (.load none (.t 35)),
 .o 37 (.bin .leq (.t 34) (.t 36))] [34, 35, 36])
 (.cond (.t 37)
 .skip
 (.ghost (.forget [6, 37]) (.ghost (.free [1]) (.ghost .lower (.exit 0))))))
 (.seq (.block 1
 (.seq (.region false [
 .o 40 (.move (.t 6)),
 .o 41 (.fieldAddr 0 (.t 1)),
 .o 42 (.load none (.t 41)),
 .o 43 (.bin .neq (.t 40) (.t 42))] [37, 40, 41, 42])
 (.cond (.t 43)
 (.region true [
 .o 44 (.move (.t 5)),
 .o 45 (.fieldAddr 0 (.t 1)),
 ⟨some 46, .load none (.t 45), none, [1]⟩,
 .o 47 (.move (.t 6)),
 .o 48 (.fieldAddr 2 (.t 4)),
 ⟨some 49, .load none (.t 48), none, [4]⟩,
 .o 50 (.fieldAddr 4 (.t 1)),
 ⟨some 51, .load none (.t 50), none, [6]⟩,
 ⟨some 52, .len (.t 51), none, [6, 7]⟩,
 .o 53 (.fieldAddr 4 (.t 1)),
 ⟨some 54, .load none (.t 53), none, [9]⟩,
 ⟨some 55, .call false 85 [.t 54], none, [9, 10]⟩,
 ⟨some 56, .build zz2 [(0, 1, .i 1), (1, 1, .t 46), (2, 1, .t 47), (3, 1, .t 49), (4, 1, .t 52), (5, 1, .t 55)], none, [1, 2, 3, 4, 5, 6, 7, 8, 9, 10, 11]⟩,
 ⟨some 57, .buildSlice zz2 1 [(0, .t 56)], none, [1, 2, 3, 4, 5, 6, 7, 8, 9, 10, 11, 12]⟩,
 ⟨some 58, .append 88 9 (.t 44) (.t 57), none, [0, 1, 2, 3, 4, 5, 6, 7, 8, 9, 10, 11, 12, 13]⟩,
 ⟨some 5, .move (.t 58), none, [0, 1, 2, 3, 4, 5, 6, 7, 8, 9, 10, 11, 12, 13, 14]⟩] [43, 44, 45, 46, 47, 48, 49, 50, 51, 52, 53, 54, 55, 56, 57, 58])
 .skip)))
 (.region false [
 .o 38 (.move (.t 6)),
 .o 39 (.bin .add (.t 38) (.i 1)),
 .o 6 (.move (.t 39))] [38, 39, 43])))

def a42 : AFunc := ⟨62, 1, [.cell 2 10, .tmp 3],
  (.seq (.region false [
 .o 1 (.box (.t 0)),
 .o 2 (.alloc zz1),
 .o 3 (.move (.c (.p (.slice true []))))] [0, 3])
 (.seq (.seq (.region false [
 .o 7 (.load (some 10) (.t 1)),
 .o 8 (.call false 24 [.t 7]),
 .o 9 (.un .not (.t 8)),
 .o 10 (.move (.t 9)),
 .g 11 10 false (.fieldAddr 5 (.t 1)) [],
 .g 12 10 false (.load none (.t 11)) [],
 .g 13 10 false (.bin .eql (.t 12) (.i 3)) [],
 .o 14 (.pick (.t 10) (.b true) (.t 13)),
 .o 15 (.move (.t 14)),
 .g 16 15 false (.fieldAddr 2 (.t 1)) [],
 .g 17 15 false (.load none (.t 16)) [],
 .g 18 15 false (.bin .eql (.t 17) (.i 1099511627776)) [],
 .o 19 (.pick (.t 15) (.b true) (.t 18))] [7, 8, 9, 10, 11, 12, 13, 14, 15, 16, 17, 18])
 (.cond (.t 19)
 (.seq (.region false [
 .o 20 (.load (some 10) (.t 1)),
 .u (.store 10 (.t 2) (.t 20)),
 .o 3 (.move (.c (.p (.slice true []))))] [19, 20])
 .ret)
 .skip))
 (.seq (.region false [
 .o 21 (.load (some 10) (.t 1)),
 .o 22 (.fieldAddr 2 (.t 1)),
 .o 23 (.load none (.t 22)),
 .o 24 (.bin .add (.t 23) (.i 1)),
 .o 25 (.call false 84 [.t 21, .t 24]),
 .o 4 (.alloc zz1),
 .u (.store 10 (.t 4) (.t 25))] [19, 21, 22, 23, 24, 25])
 (.seq (.region false [
 .o 26 (.fieldAddr 5 (.t 4)),
 .u (.store 1 (.t 26) (.i 2))] [26])
 (.seq (.region false [
 .o 27 (.fieldAddr 0 (.t 1)),
 .o 28 (.load none (.t 27)),
 .o 29 (.fieldAddr 3 (.t 4)),
 .u (.store 1 (.t 29) (.t 28))] [27, 28, 29])
 (.seq (.region false [
 .o 30 (.fieldAddr 0 (.t 1)),
 .o 31 (.load none (.t 30)),
 .o 32 (.buildSlice [.int .i64 0] 1 [(0, .t 31)]),
 .o 33 (.fieldAddr 7 (.t 4)),
 .u (.store 1 (.t 33) (.t 32))] [30, 31, 32, 33])
 (.seq (.region false [
 .o 5 (.move (.c (.p (.slice true []))))] [])
 (.ghost (.own 9 5) (.seq (.seq (.region false [
 .o 6 (.move (.i 1))] [])
 (.block 0
 (.loop
 (.ghost .lower a42_l0))))
 (.seq (.region false [
 .o 59 (.load (some 10) (.t 4)),
 .o 60 (.call false 86 [.t 59]),
 .o 61 (.move (.t 5)),
 .u (.store 10 (.t 2) (.t 60)),
 .o 3 (.move (.t 61))] [5, 59, 60, 61])
 .ret))))))))))⟩

@[irreducible] def a43_l0 : ACode :=
  (.seq (.seq (.regionK false [
 (.o 14 (.move (.t 8)), []),
 (.o 15 (.fieldAddr 0 (.t 3)), []),
 (.o 16 (.load none (.t 15)), [15]),
 (.o 17 (.len (.t 16)), [16]),
 (.o 18 (.bin .lss (.t 14) (.t 17)), [14, 17])])
 (.cond (.t 18)
 .skip
 (.ghost (.forget [8, 18]) (.ghost (.free [3, 4]) (.ghost .lower (.exit 0))))))
 (.seq (.block 1
 (.seq (.regionK true [
 (.o 21 (.fieldAddr 0 (.t 3)), [18]),
 (⟨some 22, .load none (.t 21), none, [0]⟩, [21]),
 (.o 23 (.move (.t 8)), []),
 (⟨some 24, .indexAddr 10 (.t 22) (.t 23), none, [0, 1, 2]⟩, [22, 23]),
 (⟨some 25, .fieldAddr 0 (.t 24), none, [0, 1, 2, 3]⟩, [24]),
 (⟨some 26, .load none (.t 25), none, [0, 1, 2, 3, 4]⟩, [25]),
 (.o 27 (.fieldAddr 0 (.t 4)), []),
 (⟨some 28, .load none (.t 27), none, [6]⟩, [27]),
 (⟨some 29, .bin .eql (.t 26) (.t 28), none, [0, 1, 2, 3, 4, 5, 6, 7]⟩, [26, 28])])
 (.cond (.t 29)
 (.regionK false [
 (.o 30 (.fieldAddr 0 (.t 7)), [29]),
 (.o 31 (.load none (.t 30)), [30]),
 (.o 32 (.load (some 10) (.t 4)), []),
 (.o 33 (.buildSlice zz1 1 [(0, .t 32)]), [32]),
 (.o 34 (.append 144 10 (.t 31) (.t 33)), [31, 33]),
 (.o 35 (.fieldAddr 0 (.t 7)), []),
 (.u (.store 1 (.t 35) (.t 34)), [34, 35])])
 (.regionK true [
 (.o 36 (.fieldAddr 0 (.t 7)), [29]),
 (⟨some 37, .load none (.t 36), none, [0]⟩, [36]),
 (.o 38 (.fieldAddr 0 (.t 3)), []),
 (⟨some 39, .load none (.t 38), none, [2]⟩, [38]),
 (.o 40 (.move (.t 8)), []),
 (⟨some 41, .indexAddr 10 (.t 39) (.t 40), none, [2, 3, 4]⟩, [39, 40]),
 (⟨some 42, .load (some 10) (.t 41), none, [2, 3, 4, 5]⟩, [41]),
 (⟨some 43, .buildSlice zz1 1 [(0, .t 42)], none, [2, 3, 4, 5, 6]⟩, [42]),
 (⟨some 44, .append 144 10 (.t 37) (.t 43), none, [0, 1, 2, 3, 4, 5, 6, 7]⟩, [37, 43]),
 (⟨some 45, .fieldAddr 0 (.t 7), none, [0, 1, 2, 3, 4, 5, 6, 7, 8]⟩, []),
 (⟨none, .store 1 (.t 45) (.t 44), none, [0, 1, 2, 3, 4, 5, 6, 7, 8, 9]⟩, [44, 45])]))))
 (.regionK false [
 (.o 19 (.move (.t 8)), []),
 (.o 20 (.bin .add (.t 19) (.i 1)), [19]),
 (.o 8 (.move (.t 20)), [20])])))

def a43 : AFunc := ⟨47, 3, [.cell 6 2],
  (.seq (.regionK false [
 (.o 3 (.box (.t 0)), [0]),
 (.o 4 (.box (.t 1)), [1]),
 (.o 6 (.alloc [.slice true [], .slice true []]), [])])
 (.seq (.regionK false [
 (.o 9 (.fieldAddr 1 (.t 3)), []),
 (.o 10 (.load none (.t 9)), [9]),
 (.o 11 (.move (.t 2)), [2]),
 (.o 12 (.call false 87 [.t 10, .t 11]), [10, 11]),
 (.o 13 (.build [.slice true [], .slice true []] [(1, 1, .t 12)]), [12]),
 (.o 7 (.alloc [.slice true [], .slice true []]), []),
 (.u (.store 2 (.t 7) (.t 13)), [13])])
 (.ghost (.ownIn 10 7 0) (.seq (.seq (.regionK false [
 (.o 8 (.move (.i 0)), [])])
 (.block 0
 (.loop
 (.ghost .lower a43_l0))))
 (.seq (.regionK false [
 (.o 46 (.load (some 2) (.t 7)), []),
 (.u (.store 2 (.t 6) (.t 46)), [46])])
 .ret)))))⟩

@[irreducible] def a44_l0 : ACode :=
  (.seq (.seq (.region false [
 .o 6 (.move (.t 4)),
 .o 7 (.fieldAddr 1 (.t 1)),
 .o 8 (.load none (.t 7)),
 .o 9 (.bin .leq (.t 6) (.t 8)),
 .o 10 (.move (.t 9)),
 .g 11 10 true (.load (some 10) (.t 1)) [],
 .g 12 10 true (.call false 24 [.t 11]) [],
 .o 13 (.pick (.t 10) (.t 12) (.b false)),
 .o 14 (.move (.t 13)),
 .g 15 14 true (.fieldAddr 5 (.t 1)) [],
 .g 16 14 true (.load none (.t 15)) [],
 .g 17 14 true (.bin .eql (.t 16) (.i 3)) [],
 .o 18 (.pick (.t 14) (.t 17) (.b false))] [6, 7, 8, 9, 10, 11, 12, 13, 14, 15, 16, 17])
 (.cond (.t 18)
 .skip
 (.ghost (.forget [4, 18]) (.ghost (.free [1]) (.ghost .lower (.exit 0))))))
 (.seq (.block 1
 (.seq (.region false [
 .o 21 (.move (.t 4)),
 .o 22 (.fieldAddr 0 (.t 1)),
 .o 23 (.load none (.t 22)),
 .o 24 (.bin .neq (.t 21) (.t 23))] [18, 21, 22, 23])
 (.cond (.t 24)
 (.seq (.region false [
 .o 25 (.fieldAddr 8 (.t 1)),
 .o 26 (.load none (.t 25)),
 .o 27 (.move (.t 4)),
 .o 28 (.bin .sub (.t 27) (.i 1)),
 .o 29 (.indexAddr 1 (.t 26) (.t 28)),
 .o 30 (.load none (.t 29)),
 .o 5 (.move (.t 30))] [24, 25, 26, 27, 28, 29, 30])
 (.region true [
 .o 31 (.move (.t 3)),
 .o 32 (.fieldAddr 0 (.t 1)),
 ⟨some 33, .load none (.t 32), none, [1]⟩,
 .o 34 (.move (.t 4)),
 .o 35 (.fieldAddr 2 (.t 1)),
 ⟨some 36, .load none (.t 35), none, [4]⟩,
 .o 37 (.move (.t 5)),
 .o 38 (.fieldAddr 4 (.t 1)),
 ⟨some 39, .load none (.t 38), none, [7]⟩,
 .o 40 (.move (.t 5)),
 ⟨some 41, .call false 88 [.t 39, .t 40], none, [7, 8, 9]⟩,
 .o 42 (.fieldAddr 6 (.t 1)),
 ⟨some 43, .load none (.t 42), none, [11]⟩,
 .o 44 (.fieldAddr 4 (.t 1)),
 ⟨some 45, .load none (.t 44), none, [13]⟩,
 .o 46 (.move (.t 5)),
 ⟨some 47, .slice 2 (.t 45) (some (.t 46)) none none, none, [13, 14, 15]⟩,
 ⟨some 48, .call false 89 [.c (.p (.slice true [])), .i 0, .t 47], none, [7, 8, 9, 10, 13, 14, 15, 16]⟩,
 ⟨some 49, .build zz2 [(0, 1, .i 3), (1, 1, .t 33), (2, 1, .t 34), (3, 1, .t 36), (4, 1, .t 37), (5, 1, .t 41), (6, 1, .t 43), (8, 1, .t 48)], none, [1, 2, 3, 4, 5, 6, 7, 8, 9, 10, 11, 12, 13, 14, 15, 16, 17]⟩,
 ⟨some 50, .buildSlice zz2 1 [(0, .t 49)], none, [1, 2, 3, 4, 5, 6, 7, 8, 9, 10, 11, 12, 13, 14, 15, 16, 17, 18]⟩,
 ⟨some 51, .append 88 9 (.t 31) (.t 50), none, [0, 1, 2, 3, 4, 5, 6, 7, 8, 9, 10, 11, 12, 13, 14, 15, 16, 17, 18, 19]⟩,
 ⟨some 3, .move (.t 51), none, [0, 1, 2, 3, 4, 5, 6, 7, 8, 9, 10, 11, 12, 13, 14, 15, 16, 17, 18, 19, 20]⟩] [5, 31, 32, 33, 34, 35, 36, 37, 38, 39, 40, 41, 42, 43, 44, 45, 46, 47, 48, 49, 50, 51]))
 .skip)))
 (.region false [
 .o 19 (.move (.t 4)),
 .o 20 (.bin .add (.t 19) (.i 1)),
 .o 4 (.move (.t 20))] [19, 20, 24])))

def a44 : AFunc := ⟨53, 1, [.tmp 2],
  (.seq (.region false [
 .o 1 (.box (.t 0)),
 .o 2 (.move (.c (.p (.slice true []))))] [0, 2])
 (.seq (.region false [
 .o 3 (.move (.c (.p (.slice true []))))] [])
 (.ghost (.own 9 3) (.seq (.seq (.region false [
 .o 4 (.move (.i 1))] [])
 (.block 0
 (.loop
 (.ghost .lower a44_l0))))
 (.seq (.region false [
 .o 52 (.move (.t 3)),
 .o 2 (.move (.t 52))] [3, 52])
 .ret)))))⟩

def a45 : AFunc := ⟨57, 2, [.cell 4 10, .tmp 5],
  (.seq (.region false [
 .o 2 (.box (.t 0)),
 .o 4 (.alloc zz1),
 .o 5 (.move (.i 0))] [0, 5])
 (.seq (.seq (.region false [
 .o 6 (.load (some 10) (.t 2)),
 .o 7 (.call false 24 [.t 6]),
 .o 8 (.un .not (.t 7))] [6, 7])
 (.cond (.t 8)
 (.seq (.region false [
 .o 9 (.build zz1 []),
 .u (.store 10 (.t 4) (.t 9)),
 .o 5 (.move (.i 1))] [1, 8, 9])
 .ret)
 .skip))
 (.seq (.seq (.region false [
 .o 10 (.fieldAddr 5 (.t 2)),
 .o 11 (.load none (.t 10)),
 .o 12 (.bin .neq (.t 11) (.i 3))] [8, 10, 11])
 (.cond (.t 12)
 (.seq (.region false [
 .o 13 (.build zz1 []),
 .u (.store 10 (.t 4) (.t 13)),
 .o 5 (.move (.i 21))] [1, 12, 13])
 .ret)
 .skip))
 (.seq (.seq (.region false [
 .o 14 (.move (.t 1)),
 .o 15 (.lenS (.t 14)),
 .o 16 (.bin .gtr (.t 15) (.i 4096))] [12, 14, 15])
 (.cond (.t 16)
 (.seq (.region false [
 .o 17 (.build zz1 []),
 .u (.store 10 (.t 4) (.t 17)),
 .o 5 (.move (.i 2))] [1, 16, 17])
 .ret)
 .skip))
 (.seq (.seq (.region false [
 .o 18 (.fieldAddr 4 (.t 2)),
 .o 19 (.load none (.t 18)),
 .o 20 (.len (.t 19)),
 .o 21 (.bin .geq (.t 20) (.i 256))] [16, 18, 19, 20])
 (.cond (.t 21)
 (.seq (.region false [
 .o 22 (.build zz1 []),
 .u (.store 10 (.t 4) (.t 22)),
 .o 5 (.move (.i 17))] [1, 21, 22])
 .ret)
 .skip))
 (.seq (.region false [
 .o 23 (.fieldAddr 4 (.t 2)),
 .o 24 (.load none (.t 23)),
 .o 25 (.fieldAddr 4 (.t 2)),
 .o 26 (.load none (.t 25)),
 .o 27 (.len (.t 26)),
 .o 28 (.fieldAddr 2 (.t 2)),
 .o 29 (.load none (.t 28)),
 .o 30 (.move (.t 1)),
 .o 31 (.build [.int .i64 0, .str ⟨#[]⟩] [(0, 1, .t 29), (1, 1, .t 30)]),
 .o 32 (.buildSlice [.int .i64 0, .str ⟨#[]⟩] 1 [(0, .t 31)]),
 .o 33 (.call false 89 [.t 24, .t 27, .t 32]),
 .o 34 (.fieldAddr 4 (.t 2)),
 .u (.store 1 (.t 34) (.t 33))] [1, 21, 23, 24, 25, 26, 27, 28, 29, 30, 31, 32, 33, 34])
 (.seq (.region false [
 .o 35 (.fieldAddr 8 (.t 2)),
 .o 36 (.load none (.t 35)),
 .o 37 (.fieldAddr 0 (.t 2)),
 .o 38 (.load none (.t 37)),
 .o 39 (.bin .sub (.t 38) (.i 1)),
 .o 40 (.fieldAddr 4 (.t 2)),
 .o 41 (.load none (.t 40)),
 .o 42 (.len (.t 41)),
 .o 43 (.call false 90 [.t 36, .t 39, .t 42]),
 .o 44 (.fieldAddr 8 (.t 2)),
 .u (.store 1 (.t 44) (.t 43))] [35, 36, 37, 38, 39, 40, 41, 42, 43, 44])
 (.seq (.region false [
 .o 45 (.fieldAddr 9 (.t 2)),
 .o 46 (.load none (.t 45)),
 .o 47 (.fieldAddr 0 (.t 2)),
 .o 48 (.load none (.t 47)),
 .o 49 (.bin .sub (.t 48) (.i 1)),
 .o 50 (.fieldAddr 4 (.t 2)),
 .o 51 (.load none (.t 50)),
 .o 52 (.len (.t 51)),
 .o 53 (.call false 90 [.t 46, .t 49, .t 52]),
 .o 54 (.fieldAddr 9 (.t 2)),
 .u (.store 1 (.t 54) (.t 53))] [45, 46, 47, 48, 49, 50, 51, 52, 53, 54])
 (.seq (.region false [
 .o 55 (.load (some 10) (.t 2)),
 .o 56 (.call false 91 [.t 55]),
 .u (.store 10 (.t 4) (.t 56)),
 .o 5 (.move (.i 0))] [55, 56])
 .ret)))))))))⟩

def a46 : AFunc := ⟨18, 1, [.cell 2 10],
  (.seq (.region false [
 .o 1 (.box (.t 0)),
 .o 2 (.alloc zz1)] [0])
 (.seq (.seq (.region false [
 .o 3 (.load (some 10) (.t 1)),
 .o 4 (.call false 24 [.t 3]),
 .o 5 (.un .not (.t 4))] [3, 4])
 (.cond (.t 5)
 (.seq (.region false [
 .o 6 (.load (some 10) (.t 1)),
 .u (.store 10 (.t 2) (.t 6))] [5, 6])
 .ret)
 .skip))
 (.seq (.region false [
 .o 7 (.fieldAddr 0 (.t 1)),
 .o 8 (.load none (.t 7)),
 .o 9 (.fieldAddr 1 (.t 1)),
 .o 10 (.load none (.t 9)),
 .o 11 (.fieldAddr 2 (.t 1)),
 .o 12 (.load none (.t 11)),
 .o 13 (.fieldAddr 3 (.t 1)),
 .o 14 (.load none (.t 13)),
 .o 15 (.fieldAddr 4 (.t 1)),
 .o 16 (.load none (.t 15)),
 .o 17 (.build zz1 [(0, 1, .t 8), (1, 1, .t 10), (2, 1, .t 12), (3, 1, .t 14), (4, 1, .t 16), (5, 1, .i 1)]),
 .u (.store 10 (.t 2) (.t 17))] [5, 7, 8, 9, 10, 11, 12, 13, 14, 15, 16, 17])
 .ret)))⟩

def a47 : AFunc := ⟨73, 2, [.tmp 4],
  (.seq (.region false [
 .o 2 (.box (.t 0)),
 .o 3 (.box (.t 1)),
 .o 4 (.move (.b false))] [0, 1, 4])
 (.seq (.region false [
 .o 5 (.fieldAddr 0 (.t 2)),
 .o 6 (.load none (.t 5)),
 .o 7 (.fieldAddr 0 (.t 3)),
 .o 8 (.load none (.t 7)),
 .o 9 (.bin .eql (.t 6) (.t 8)),
 .o 10 (.move (.t 9)),
 .g 11 10 true (.fieldAddr 1 (.t 2)) [],
 .g 12 10 true (.load none (.t 11)) [],
 .g 13 10 true (.fieldAddr 1 (.t 3)) [],
 .g 14 10 true (.load none (.t 13)) [],
 .g 15 10 true (.bin .eql (.t 12) (.t 14)) [],
 .o 16 (.pick (.t 10) (.t 15) (.b false)),
 .o 17 (.move (.t 16)),
 .g 18 17 true (.fieldAddr 2 (.t 2)) [],
 .g 19 17 true (.load none (.t 18)) [],
 .g 20 17 true (.fieldAddr 2 (.t 3)) [],
 .g 21 17 true (.load none (.t 20)) [],
 .g 22 17 true (.bin .eql (.t 19) (.t 21)) [],
 .o 23 (.pick (.t 17) (.t 22) (.b false)),
 .o 24 (.move (.t 23)),
 .g 25 24 true (.fieldAddr 3 (.t 2)) [],
 .g 26 24 true (.load none (.t 25)) [],
 .g 27 24 true (.fieldAddr 3 (.t 3)) [],
 .g 28 24 true (.load none (.t 27)) [],
 .g 29 24 true (.bin .eql (.t 26) (.t 28)) [],
 .o 30 (.pick (.t 24) (.t 29) (.b false)),
 .o 31 (.move (.t 30)),
 .g 32 31 true (.fieldAddr 5 (.t 2)) [],
 .g 33 31 true (.load none (.t 32)) [],
 .g 34 31 true (.fieldAddr 5 (.t 3)) [],
 .g 35 31 true (.load none (.t 34)) [],
 .g 36 31 true (.bin .eql (.t 33) (.t 35)) [],
 .o 37 (.pick (.t 31) (.t 36) (.b false)),
 .o 38 (.move (.t 37)),
 .g 39 38 true (.fieldAddr 6 (.t 2)) [],
 .g 40 38 true (.load none (.t 39)) [],
 .g 41 38 true (.fieldAddr 6 (.t 3)) [],
 .g 42 38 true (.load none (.t 41)) [],
 .g 43 38 true (.bin .eql (.t 40) (.t 42)) [],
 .o 44 (.pick (.t 38) (.t 43) (.b false)),
 .o 45 (.move (.t 44)),
 .g 46 45 true (.fieldAddr 4 (.t 2)) [],
 .g 47 45 true (.load none (.t 46)) [],
 .g 48 45 true (.fieldAddr 4 (.t 3)) [],
 .g 49 45 true (.load none (.t 48)) [],
 .g 50 45 true (.call false 92 [.t 47, .t 49]) [],
 .o 51 (.pick (.t 45) (.t 50) (.b false)),
 .o 52 (.move (.t 51)),
 .g 53 52 true (.fieldAddr 7 (.t 2)) [],
 .g 54 52 true (.load none (.t 53)) [],
 .g 55 52 true (.fieldAddr 7 (.t 3)) [],
 .g 56 52 true (.load none (.t 55)) [],
 .g 57 52 true (.call false 93 [.t 54, .t 56]) [],
 .o 58 (.pick (.t 52) (.t 57) (.b false)),
 .o 59 (.move (.t 58)),
 .g 60 59 true (.fieldAddr 8 (.t 2)) [],
 .g 61 59 true (.load none (.t 60)) [],
 .g 62 59 true (.fieldAddr 8 (.t 3)) [],
 .g 63 59 true (.load none (.t 62)) [],
 .g 64 59 true (.call false 93 [.t 61, .t 63]) [],
 .o 65 (.pick (.t 59) (.t 64) (.b false)),
 .o 66 (.move (.t 65)),
 .g 67 66 true (.fieldAddr 9 (.t 2)) [],
 .g 68 66 true (.load none (.t 67)) [],
 .g 69 66 true (.fieldAddr 9 (.t 3)) [],
 .g 70 66 true (.load none (.t 69)) [],
 .g 71 66 true (.call false 93 [.t 68, .t 70]) [],
 .o 72 (.pick (.t 66) (.t 71) (.b false)),
 .o 4 (.move (.t 72))] [5, 6, 7, 8, 9, 10, 11, 12, 13, 14, 15, 16, 17, 18, 19, 20, 21, 22, 23, 24, 25, 26, 27, 28, 29, 30, 31, 32, 33, 34, 35, 36, 37, 38, 39, 40, 41, 42, 43, 44, 45, 46, 47, 48, 49, 50, 51, 52, 53, 54, 55, 56, 57, 58, 59, 60, 61, 62, 63, 64, 65, 66, 67, 68, 69, 70, 71, 72])
 .ret))⟩

@[irreducible] def a48_l0 : ACode :=
  (.seq (.seq (.region false [
 .o 69 (.move (.t 5)),
 .o 70 (.fieldAddr 8 (.t 2)),
 .o 71 (.load none (.t 70)),
 .o 72 (.len (.t 71)),
 .o 73 (.bin .lss (.t 69) (.t 72))] [69, 70, 71, 72])
 (.cond (.t 73)
 .skip
 (.ghost (.forget [5, 73]) (.ghost (.free [2, 3]) (.ghost .lower (.exit 0))))))
 (.seq (.block 1
 (.seq (.region true [
 .o 76 (.fieldAddr 8 (.t 2)),
 ⟨some 77, .load none (.t 76), none, [0]⟩,
 .o 78 (.move (.t 5)),
 ⟨some 79, .indexAddr 2 (.t 77) (.t 78), none, [0, 1, 2]⟩,
 ⟨some 80, .load (some 2) (.t 79), none, [0, 1, 2, 3]⟩,
 .o 81 (.fieldAddr 8 (.t 3)),
 ⟨some 82, .load none (.t 81), none, [5]⟩,
 .o 83 (.move (.t 5)),
 ⟨some 84, .indexAddr 2 (.t 82) (.t 83), none, [5, 6, 7]⟩,
 ⟨some 85, .load (some 2) (.t 84), none, [5, 6, 7, 8]⟩,
 ⟨some 86, .eqagg true [(0, 0), (1, 2)] (.t 80) (.t 85), none, [0, 1, 2, 3, 4, 5, 6, 7, 8, 9]⟩] [73, 76, 77, 78, 79, 80, 81, 82, 83, 84, 85])
 (.cond (.t 86)
 (.seq (.region false [
 .o 4 (.move (.b false))] [5, 86])
 .ret)
 .skip)))
 (.region false [
 .o 74 (.move (.t 5)),
 .o 75 (.bin .add (.t 74) (.i 1)),
 .o 5 (.move (.t 75))] [74, 75, 86])))

def a48 : AFunc := ⟨87, 2, [.tmp 4],
  (.seq (.region false [
 .o 2 (.box (.t 0)),
 .o 3 (.box (.t 1)),
 .o 4 (.move (.b false))] [0, 1, 4])
 (.seq (.seq (.region false [
 .o 6 (.fieldAddr 0 (.t 2)),
 .o 7 (.load none (.t 6)),
 .o 8 (.fieldAddr 0 (.t 3)),
 .o 9 (.load none (.t 8)),
 .o 10 (.bin .neq (.t 7) (.t 9)),
 .o 11 (.move (.t 10)),
 .g 12 11 false (.fieldAddr 1 (.t 2)) [],
 .g 13 11 false (.load none (.t 12)) [],
 .g 14 11 false (.fieldAddr 1 (.t 3)) [],
 .g 15 11 false (.load none (.t 14)) [],
 .g 16 11 false (.bin .neq (.t 13) (.t 15)) [],
 .o 17 (.pick (.t 11) (.b true) (.t 16)),
 .o 18 (.move (.t 17)),
 .g 19 18 false (.fieldAddr 2 (.t 2)) [],
 .g 20 18 false (.load none (.t 19)) [],
 .g 21 18 false (.fieldAddr 2 (.t 3)) [],
 .g 22 18 false (.load none (.t 21)) [],
 .g 23 18 false (.bin .neq (.t 20) (.t 22)) [],
 .o 24 (.pick (.t 18) (.b true) (.t 23)),
 .o 25 (.move (.t 24)),
 .g 26 25 false (.fieldAddr 3 (.t 2)) [],
 .g 27 25 false (.load none (.t 26)) [],
 .g 28 25 false (.fieldAddr 3 (.t 3)) [],
 .g 29 25 false (.load none (.t 28)) [],
 .g 30 25 false (.bin .neq (.t 27) (.t 29)) [],
 .o 31 (.pick (.t 25) (.b true) (.t 30)),
 .o 32 (.move (.t 31)),
 .g 33 32 false (.fieldAddr 4 (.t 2)) [],
 .g 34 32 false (.load none (.t 33)) [],
 .g 35 32 false (.fieldAddr 4 (.t 3)) [],
 .g 36 32 false (.load none (.t 35)) [],
 .g 37 32 false (.bin .neq (.t 34) (.t 36)) [],
 .o 38 (.pick (.t 32) (.b true) (.t 37)),
 .o 39 (.move (.t 38)),
 .g 40 39 false (.fieldAddr 5 (.t 2)) [],
 .g 41 39 false (.load none (.t 40)) [],
 .g 42 39 false (.fieldAddr 5 (.t 3)) [],
 .g 43 39 false (.load none (.t 42)) [],
 .g 44 39 false (.bin .neq (.t 41) (.t 43)) [],
 .o 45 (.pick (.t 39) (.b true) (.t 44)),
 .o 46 (.move (.t 45)),
 .g 47 46 false (.fieldAddr 6 (.t 2)) [],
 .g 48 46 false (.load none (.t 47)) [],
 .g 49 46 false (.fieldAddr 6 (.t 3)) [],
 .g 50 46 false (.load none (.t 49)) [],
 .g 51 46 false (.bin .neq (.t 48) (.t 50)) [],
 .o 52 (.pick (.t 46) (.b true) (.t 51)),
 .o 53 (.move (.t 52)),
 .g 54 53 false (.fieldAddr 7 (.t 2)) [],
 .g 55 53 false (.load none (.t 54)) [],
 .g 56 53 false (.fieldAddr 7 (.t 3)) [],
 .g 57 53 false (.load none (.t 56)) [],
 .g 58 53 false (.eqb true (.t 55) (.t 57)) [],
 .o 59 (.pick (.t 53) (.b true) (.t 58)),
 .o 60 (.move (.t 59)),
 .g 61 60 false (.fieldAddr 8 (.t 2)) [],
 .g 62 60 false (.load none (.t 61)) [],
 .g 63 60 false (.len (.t 62)) [],
 .g 64 60 false (.fieldAddr 8 (.t 3)) [],
 .g 65 60 false (.load none (.t 64)) [],
 .g 66 60 false (.len (.t 65)) [],
 .g 67 60 false (.bin .neq (.t 63) (.t 66)) [],
 .o 68 (.pick (.t 60) (.b true) (.t 67))] [6, 7, 8, 9, 10, 11, 12, 13, 14, 15, 16, 17, 18, 19, 20, 21, 22, 23, 24, 25, 26, 27, 28, 29, 30, 31, 32, 33, 34, 35, 36, 37, 38, 39, 40, 41, 42, 43, 44, 45, 46, 47, 48, 49, 50, 51, 52, 53, 54, 55, 56, 57, 58, 59, 60, 61, 62, 63, 64, 65, 66, 67])
 (.cond (.t 68)
 (.seq (.region false [
 .o 4 (.move (.b false))] [68])
 .ret)
 .skip))
 (.seq (.seq (.region false [
 .o 5 (.move (.i 0))] [68])
 (.block 0
 (.loop
 (.ghost .lower a48_l0))))
 (.seq (.region false [
 .o 4 (.move (.b true))] [])
 .ret))))⟩

@[irreducible] def a49_l0 : ACode :=
  (.seq (.seq (.regionK false [
 (.o 16 (.move (.t 5)), []),
 (.o 17 (.move (.t 0)), []),
 (.o 18 (.bin .leq (.t 16) (.t 17)), [16, 17])])
 (.cond (.t 18)
 .skip
 (.ghost (.forget [0, 5, 18]) (.ghost .lower (.exit 0)))))
 (.seq (.block 1
 (.seq (.regionK false [
 (.o 22 (.move (.t 5)), [18]),
 (.o 23 (.move (.t 0)), []),
 (.o 24 (.call false 94 [.t 22, .t 23]), [22, 23]),
 (.o 21 (.move (.t 24)), [24]),
 (.o 25 (.extract (.t 21) 0), []),
 (.o 26 (.extract (.t 21) 1), [21]),
 (.o 6 (.alloc zz1), []),
 (.u (.store 10 (.t 6) (.t 25)), [25]),
 (.o 7 (.move (.t 26)), [7, 26])])
 (.regionK false [
 (.o 27 (.fieldAddr 0 (.t 4)), []),
 (.o 28 (.load none (.t 27)), [27]),
 (.o 29 (.load (some 10) (.t 6)), []),
 (.o 30 (.buildSlice zz1 1 [(0, .t 29)]), [29]),
 (.o 31 (.append 144 10 (.t 28) (.t 30)), [28, 30]),
 (.o 32 (.fieldAddr 0 (.t 4)), []),
 (.u (.store 1 (.t 32) (.t 31)), [31, 32])])))
 (.regionK false [
 (.o 19 (.move (.t 5)), []),
 (.o 20 (.bin .add (.t 19) (.i 1)), [19]),
 (.o 5 (.move (.t 20)), [20])])))

def a49 : AFunc := ⟨34, 1, [.cell 2 2, .tmp 3],
  (.seq (.regionK false [
 (.o 2 (.alloc [.slice true [], .slice true []]), []),
 (.o 3 (.move (.i 0)), [3])])
 (.seq (.seq (.regionK false [
 (.o 8 (.move (.t 0)), []),
 (.o 9 (.bin .lss (.t 8) (.i 1)), [8]),
 (.o 10 (.move (.t 9)), [9]),
 (.g 11 10 false (.move (.t 0)) [], []),
 (.g 12 10 false (.bin .gtr (.t 11) (.i 7)) [], [11]),
 (.o 13 (.pick (.t 10) (.b true) (.t 12)), [10, 12])])
 (.cond (.t 13)
 (.seq (.regionK false [
 (.o 14 (.build [.slice true [], .slice true []] []), [0, 13]),
 (.u (.store 2 (.t 2) (.t 14)), [14]),
 (.o 3 (.move (.i 1)), [])])
 .ret)
 .skip))
 (.seq (.regionK false [
 (.o 15 (.build [.slice true [], .slice true []] []), [13]),
 (.o 4 (.alloc [.slice true [], .slice true []]), []),
 (.u (.store 2 (.t 4) (.t 15)), [15])])
 (.seq (.seq (.regionK false [
 (.o 5 (.move (.i 1)), [])])
 (.block 0
 (.loop
 (.ghost (.free [6]) (.ghost .lower a49_l0)))))
 (.seq (.regionK false [
 (.o 33 (.load (some 2) (.t 4)), []),
 (.u (.store 2 (.t 2) (.t 33)), [33]),
 (.o 3 (.move (.i 0)), [])])
 .ret)))))⟩

@[irreducible] def a50_l0 : ACode :=
  (.seq (.region false [
 .o 11 (.bin .lss (.t 10) (.t 9))] [])
 (.seq (.cond (.t 11)
 .skip
 (.ghost (.forget [8, 9, 10, 11]) (.ghost .lower (.exit 0))))
 (.seq (.block 1
 (.seq (.region false [
 .o 12 (.indexAddr 2 (.t 8) (.t 10)),
 .o 13 (.load (some 2) (.t 12)),
 .o 4 (.alloc [.int .i64 0, .str ⟨#[]⟩]),
 .u (.store 2 (.t 4) (.t 13))] [11, 12, 13])
 (.seq (.region false [
 .o 14 (.fieldAddr 0 (.t 4)),
 .o 15 (.load none (.t 14)),
 .o 16 (.bin .lss (.t 15) (.i 1)),
 .o 17 (.move (.t 16)),
 .g 18 17 false (.fieldAddr 0 (.t 4)) [],
 .g 19 17 false (.load none (.t 18)) [],
 .g 20 17 false (.bin .gtr (.t 19) (.i 1099511627776)) [],
 .o 21 (.pick (.t 17) (.b true) (.t 20)),
 .o 22 (.move (.t 21)),
 .g 23 22 false (.fieldAddr 1 (.t 4)) [],
 .g 24 22 false (.load none (.t 23)) [],
 .g 25 22 false (.lenS (.t 24)) [],
 .g 26 22 false (.bin .gtr (.t 25) (.i 4096)) [],
 .o 27 (.pick (.t 22) (.b true) (.t 26))] [14, 15, 16, 17, 18, 19, 20, 21, 22, 23, 24, 25, 26])
 (.cond (.t 27)
 (.seq (.region false [
 .o 2 (.move (.b false))] [8, 9, 10, 27])
 .ret)
 .skip))))
 (.region false [
 .o 28 (.bin .add (.t 10) (.i 1)),
 .o 10 (.move (.t 28))] [27, 28]))))

def a50 : AFunc := ⟨29, 1, [.tmp 2],
  (.seq (.region false [
 .o 2 (.move (.b false))] [2])
 (.seq (.seq (.region false [
 .o 5 (.move (.t 0)),
 .o 6 (.len (.t 5)),
 .o 7 (.bin .gtr (.t 6) (.i 256))] [5, 6])
 (.cond (.t 7)
 (.seq (.region false [
 .o 2 (.move (.b false))] [0, 7])
 .ret)
 .skip))
 (.seq (.seq (.region false [
 .o 8 (.move (.t 0)),
 .o 9 (.len (.t 8)),
 .o 10 (.move (.i 0))] [0, 7])
 (.block 0
 (.loop
 (.ghost (.free [4]) (.ghost .lower a50_l0)))))
 (.seq (.region false [
 .o 2 (.move (.b true))] [])
 .ret))))⟩

@[irreducible] def a51_l0 : ACode :=
  (.seq (.region false [
 .o 11 (.bin .lss (.t 10) (.t 9))] [])
 (.seq (.cond (.t 11)
 .skip
 (.ghost (.forget [8, 9, 10, 11]) (.ghost .lower (.exit 0))))
 (.seq (.block 1
 (.seq (.region false [
 .o 12 (.move (.t 10)),
 .o 13 (.indexAddr 1 (.t 8) (.t 10)),
 .o 14 (.load none (.t 13)),
 .o 4 (.move (.t 12)),
 .o 5 (.move (.t 14))] [11, 12, 13, 14])
 (.seq (.seq (.region false [
 .o 15 (.move (.t 5)),
 .o 16 (.bin .lss (.t 15) (.i 1)),
 .o 17 (.move (.t 16)),
 .g 18 17 false (.move (.t 5)) [],
 .g 19 17 false (.fieldAddr 0 (.t 1)) [],
 .g 20 17 false (.fieldAddr 1 (.t 19)) [],
 .g 21 17 false (.load none (.t 20)) [],
 .g 22 17 false (.bin .gtr (.t 18) (.t 21)) [],
 .o 23 (.pick (.t 17) (.b true) (.t 22)),
 .o 24 (.move (.t 23)),
 .g 25 24 false (.move (.t 4)) [],
 .g 26 24 false (.bin .gtr (.t 25) (.i 0)) [],
 .g 27 24 false (.move (.t 26)) [],
 .g 28 27 true (.move (.t 5)) [],
 .g 29 27 true (.fieldAddr 0 (.t 1)) [],
 .g 30 27 true (.fieldAddr 7 (.t 29)) [],
 .g 31 27 true (.load none (.t 30)) [],
 .g 32 27 true (.move (.t 4)) [],
 .g 33 27 true (.bin .sub (.t 32) (.i 1)) [],
 .g 34 27 true (.indexAddr 1 (.t 31) (.t 33)) [],
 .g 35 27 true (.load none (.t 34)) [],
 .g 36 27 true (.bin .leq (.t 28) (.t 35)) [],
 .g 37 24 false (.pick (.t 27) (.t 36) (.b false)) [],
 .o 38 (.pick (.t 24) (.b true) (.t 37))] [4, 15, 16, 17, 18, 19, 20, 21, 22, 23, 24, 25, 26, 27, 28, 29, 30, 31, 32, 33, 34, 35, 36, 37])
 (.cond (.t 38)
 (.seq (.region false [
 .o 2 (.move (.b false))] [3, 5, 8, 9, 10, 38])
 .ret)
 .skip))
 (.region false [
 .o 39 (.move (.t 3)),
 .o 40 (.move (.t 39)),
 .g 41 40 false (.move (.t 5)) [],
 .g 42 40 false (.fieldAddr 0 (.t 1)) [],
 .g 43 40 false (.fieldAddr 0 (.t 42)) [],
 .g 44 40 false (.load none (.t 43)) [],
 .g 45 40 false (.bin .eql (.t 41) (.t 44)) [],
 .o 46 (.pick (.t 40) (.b true) (.t 45)),
 .o 3 (.move (.t 46))] [5, 38, 39, 40, 41, 42, 43, 44, 45, 46]))))
 (.region false [
 .o 47 (.bin .add (.t 10) (.i 1)),
 .o 10 (.move (.t 47))] [47]))))

def a51 : AFunc := ⟨60, 1, [.tmp 2],
  (.seq (.region false [
 .o 1 (.box (.t 0)),
 .o 2 (.move (.b false))] [0, 2])
 (.seq (.region false [
 .o 3 (.move (.b false))] [])
 (.seq (.seq (.region false [
 .o 6 (.fieldAddr 0 (.t 1)),
 .o 7 (.fieldAddr 7 (.t 6)),
 .o 8 (.load none (.t 7)),
 .o 9 (.len (.t 8)),
 .o 10 (.move (.i 0))] [6, 7])
 (.block 0
 (.loop
 (.ghost .lower a51_l0))))
 (.seq (.region true [
 .o 48 (.move (.t 3)),
 ⟨some 49, .move (.t 48), none, [0]⟩,
 .g 50 49 true (.fieldAddr 0 (.t 1)) [0, 1],
 .g 51 49 true (.fieldAddr 7 (.t 50)) [0, 1, 2],
 .g 52 49 true (.load none (.t 51)) [0, 1, 2, 3],
 .g 53 49 true (.len (.t 52)) [0, 1, 2, 3, 4],
 .g 54 49 true (.fieldAddr 0 (.t 1)) [0, 1],
 .g 55 49 true (.fieldAddr 1 (.t 54)) [0, 1, 6],
 .g 56 49 true (.load none (.t 55)) [0, 1, 6, 7],
 .g 57 49 true (.call false 95 [.t 56]) [0, 1, 6, 7, 8],
 .g 58 49 true (.bin .lss (.t 53) (.t 57)) [0, 1, 2, 3, 4, 5, 6, 7, 8, 9],
 ⟨some 59, .pick (.t 49) (.t 58) (.b false), none, [0, 1, 2, 3, 4, 5, 6, 7, 8, 9, 10]⟩,
 ⟨some 2, .move (.t 59), none, [0, 1, 2, 3, 4, 5, 6, 7, 8, 9, 10, 11]⟩] [3, 48, 49, 50, 51, 52, 53, 54, 55, 56, 57, 58, 59])
 .ret))))⟩

@[irreducible] def a52_l0 : ACode :=
  (.seq (.region false [
 .o 32 (.bin .lss (.t 31) (.t 30))] [])
 (.seq (.cond (.t 32)
 .skip
 (.ghost (.forget [30, 31, 32]) (.ghost .lower (.exit 0))))
 (.seq (.block 1
 (.seq (.region false [
 .o 33 (.move (.t 31)),
 .o 4 (.move (.t 33))] [32, 33])
 (.seq (.region true [
 .o 34 (.fieldAddr 0 (.t 1)),
 ⟨some 35, .fieldAddr 9 (.t 34), none, [0]⟩,
 ⟨some 36, .load none (.t 35), none, [0, 1]⟩,
 .o 37 (.move (.t 4)),
 ⟨some 38, .indexAddr 1 (.t 36) (.t 37), none, [0, 1, 2, 3]⟩,
 ⟨some 39, .load none (.t 38), none, [0, 1, 2, 3, 4]⟩,
 ⟨some 40, .bin .lss (.t 39) (.i 0), none, [0, 1, 2, 3, 4, 5]⟩,
 ⟨some 41, .move (.t 40), none, [0, 1, 2, 3, 4, 5, 6]⟩,
 .g 42 41 false (.fieldAddr 0 (.t 1)) [0, 1, 2, 3, 4, 5, 6, 7],
 .g 43 41 false (.fieldAddr 9 (.t 42)) [0, 1, 2, 3, 4, 5, 6, 7, 8],
 .g 44 41 false (.load none (.t 43)) [0, 1, 2, 3, 4, 5, 6, 7, 8, 9],
 .g 45 41 false (.move (.t 4)) [0, 1, 2, 3, 4, 5, 6, 7],
 .g 46 41 false (.indexAddr 1 (.t 44) (.t 45)) [0, 1, 2, 3, 4, 5, 6, 7, 8, 9, 10, 11],
 .g 47 41 false (.load none (.t 46)) [0, 1, 2, 3, 4, 5, 6, 7, 8, 9, 10, 11, 12],
 .g 48 41 false (.fieldAddr 0 (.t 1)) [0, 1, 2, 3, 4, 5, 6, 7],
 .g 49 41 false (.fieldAddr 8 (.t 48)) [0, 1, 2, 3, 4, 5, 6, 7, 14],
 .g 50 41 false (.load none (.t 49)) [0, 1, 2, 3, 4, 5, 6, 7, 14, 15],
 .g 51 41 false (.move (.t 4)) [0, 1, 2, 3, 4, 5, 6, 7],
 .g 52 41 false (.indexAddr 1 (.t 50) (.t 51)) [0, 1, 2, 3, 4, 5, 6, 7, 14, 15, 16, 17],
 .g 53 41 false (.load none (.t 52)) [0, 1, 2, 3, 4, 5, 6, 7, 14, 15, 16, 17, 18],
 .g 54 41 false (.bin .gtr (.t 47) (.t 53)) [0, 1, 2, 3, 4, 5, 6, 7, 8, 9, 10, 11, 12, 13, 14, 15, 16, 17, 18, 19],
 ⟨some 55, .pick (.t 41) (.b true) (.t 54), none, [0, 1, 2, 3, 4, 5, 6, 7, 8, 9, 10, 11, 12, 13, 14, 15, 16, 17, 18, 19, 20]⟩,
 ⟨some 56, .move (.t 55), none, [0, 1, 2, 3, 4, 5, 6, 7, 8, 9, 10, 11, 12, 13, 14, 15, 16, 17, 18, 19, 20, 21]⟩,
 .g 57 56 false (.fieldAddr 0 (.t 1)) [0, 1, 2, 3, 4, 5, 6, 7, 8, 9, 10, 11, 12, 13, 14, 15, 16, 17, 18, 19, 20, 21, 22],
 .g 58 56 false (.fieldAddr 8 (.t 57)) [0, 1, 2, 3, 4, 5, 6, 7, 8, 9, 10, 11, 12, 13, 14, 15, 16, 17, 18, 19, 20, 21, 22, 23],
 .g 59 56 false (.load none (.t 58)) [0, 1, 2, 3, 4, 5, 6, 7, 8, 9, 10, 11, 12, 13, 14, 15, 16, 17, 18, 19, 20, 21, 22, 23, 24],
 .g 60 56 false (.move (.t 4)) [0, 1, 2, 3, 4, 5, 6, 7, 8, 9, 10, 11, 12, 13, 14, 15, 16, 17, 18, 19, 20, 21, 22],
 .g 61 56 false (.indexAddr 1 (.t 59) (.t 60)) [0, 1, 2, 3, 4, 5, 6, 7, 8, 9, 10, 11, 12, 13, 14, 15, 16, 17, 18, 19, 20, 21, 22, 23, 24, 25, 26],
 .g 62 56 false (.load none (.t 61)) [0, 1, 2, 3, 4, 5, 6, 7, 8, 9, 10, 11, 12, 13, 14, 15, 16, 17, 18, 19, 20, 21, 22, 23, 24, 25, 26, 27],
 .g 63 56 false (.move (.t 3)) [0, 1, 2, 3, 4, 5, 6, 7, 8, 9, 10, 11, 12, 13, 14, 15, 16, 17, 18, 19, 20, 21, 22],
 .g 64 56 false (.bin .gtr (.t 62) (.t 63)) [0, 1, 2, 3, 4, 5, 6, 7, 8, 9, 10, 11, 12, 13, 14, 15, 16, 17, 18, 19, 20, 21, 22, 23, 24, 25, 26, 27, 28, 29],
 ⟨some 65, .pick (.t 56) (.b true) (.t 64), none, [0, 1, 2, 3, 4, 5, 6, 7, 8, 9, 10, 11, 12, 13, 14, 15, 16, 17, 18, 19, 20, 21, 22, 23, 24, 25, 26, 27, 28, 29, 30]⟩] [4, 34, 35, 36, 37, 38, 39, 40, 41, 42, 43, 44, 45, 46, 47, 48, 49, 50, 51, 52, 53, 54, 55, 56, 57, 58, 59, 60, 61, 62, 63, 64])
 (.cond (.t 65)
 (.seq (.region false [
 .o 2 (.move (.b false))] [3, 30, 31, 65])
 .ret)
 .skip))))
 (.region false [
 .o 66 (.bin .add (.t 31) (.i 1)),
 .o 31 (.move (.t 66))] [65, 66]))))

def a52 : AFunc := ⟨91, 1, [.tmp 2],
  (.seq (.region false [
 .o 1 (.box (.t 0)),
 .o 2 (.move (.b false))] [0, 2])
 (.seq (.region false [
 .o 5 (.fieldAddr 0 (.t 1)),
 .o 6 (.fieldAddr 4 (.t 5)),
 .o 7 (.load none (.t 6)),
 .o 8 (.len (.t 7)),
 .o 3 (.move (.t 8))] [5, 6, 7, 8])
 (.seq (.seq (.region false [
 .o 9 (.fieldAddr 0 (.t 1)),
 .o 10 (.fieldAddr 8 (.t 9)),
 .o 11 (.load none (.t 10)),
 .o 12 (.len (.t 11)),
 .o 13 (.fieldAddr 0 (.t 1)),
 .o 14 (.fieldAddr 1 (.t 13)),
 .o 15 (.load none (.t 14)),
 .o 16 (.bin .neq (.t 12) (.t 15)),
 .o 17 (.move (.t 16)),
 .g 18 17 false (.fieldAddr 0 (.t 1)) [],
 .g 19 17 false (.fieldAddr 9 (.t 18)) [],
 .g 20 17 false (.load none (.t 19)) [],
 .g 21 17 false (.len (.t 20)) [],
 .g 22 17 false (.fieldAddr 0 (.t 1)) [],
 .g 23 17 false (.fieldAddr 1 (.t 22)) [],
 .g 24 17 false (.load none (.t 23)) [],
 .g 25 17 false (.bin .neq (.t 21) (.t 24)) [],
 .o 26 (.pick (.t 17) (.b true) (.t 25))] [9, 10, 11, 12, 13, 14, 15, 16, 17, 18, 19, 20, 21, 22, 23, 24, 25])
 (.cond (.t 26)
 (.seq (.region false [
 .o 2 (.move (.b false))] [3, 26])
 .ret)
 .skip))
 (.seq (.seq (.region false [
 .o 27 (.fieldAddr 0 (.t 1)),
 .o 28 (.fieldAddr 8 (.t 27)),
 .o 29 (.load none (.t 28)),
 .o 30 (.len (.t 29)),
 .o 31 (.move (.i 0))] [26, 27, 28, 29])
 (.block 0
 (.loop
 (.ghost .lower a52_l0))))
 (.seq (.region false [
 .o 67 (.fieldAddr 0 (.t 1)),
 .o 68 (.fieldAddr 8 (.t 67)),
 .o 69 (.load none (.t 68)),
 .o 70 (.fieldAddr 0 (.t 1)),
 .o 71 (.fieldAddr 0 (.t 70)),
 .o 72 (.load none (.t 71)),
 .o 73 (.bin .sub (.t 72) (.i 1)),
 .o 74 (.indexAddr 1 (.t 69) (.t 73)),
 .o 75 (.load none (.t 74)),
 .o 76 (.move (.t 3)),
 .o 77 (.bin .eql (.t 75) (.t 76)),
 .o 78 (.move (.t 77)),
 .g 79 78 true (.fieldAddr 0 (.t 1)) [],
 .g 80 78 true (.fieldAddr 9 (.t 79)) [],
 .g 81 78 true (.load none (.t 80)) [],
 .g 82 78 true (.fieldAddr 0 (.t 1)) [],
 .g 83 78 true (.fieldAddr 0 (.t 82)) [],
 .g 84 78 true (.load none (.t 83)) [],
 .g 85 78 true (.bin .sub (.t 84) (.i 1)) [],
 .g 86 78 true (.indexAddr 1 (.t 81) (.t 85)) [],
 .g 87 78 true (.load none (.t 86)) [],
 .g 88 78 true (.move (.t 3)) [],
 .g 89 78 true (.bin .eql (.t 87) (.t 88)) [],
 .o 90 (.pick (.t 78) (.t 89) (.b false)),
 .o 2 (.move (.t 90))] [3, 67, 68, 69, 70, 71, 72, 73, 74, 75, 76, 77, 78, 79, 80, 81, 82, 83, 84, 85, 86, 87, 88, 89, 90])
 .ret)))))⟩

def a53 : AFunc := ⟨15, 3, [.tmp 6],
  (.seq (.region false [
 .o 6 (.move (.b false))] [6])
 (.seq (.region false [
 .o 7 (.move (.t 0)),
 .o 8 (.move (.t 1)),
 .o 9 (.bin .geq (.t 7) (.t 8)),
 .o 10 (.move (.t 9)),
 .g 11 10 true (.move (.t 0)) [],
 .g 12 10 true (.move (.t 2)) [],
 .g 13 10 true (.bin .leq (.t 11) (.t 12)) [],
 .o 14 (.pick (.t 10) (.t 13) (.b false)),
 .o 6 (.move (.t 14))] [0, 1, 2, 7, 8, 9, 10, 11, 12, 13, 14])
 .ret))⟩

@[irreducible] def a54_l0 : ACode :=
  (.seq (.region false [
 .o 11 (.bin .lss (.t 10) (.t 9))] [])
 (.seq (.cond (.t 11)
 .skip
 (.ghost (.forget [8, 9, 10, 11]) (.ghost .lower (.exit 0))))
 (.seq (.block 1
 (.seq (.region false [
 .o 12 (.indexAddr 2 (.t 8) (.t 10)),
 .o 13 (.load (some 2) (.t 12)),
 .o 4 (.alloc [.int .i64 0, .str ⟨#[]⟩]),
 .u (.store 2 (.t 4) (.t 13))] [11, 12, 13])
 (.seq (.region false [
 .o 14 (.fieldAddr 0 (.t 4)),
 .o 15 (.load none (.t 14)),
 .o 16 (.call false 53 [.t 15, .i 1, .i 1099511627776]),
 .o 17 (.un .not (.t 16)),
 .o 18 (.move (.t 17)),
 .g 19 18 false (.fieldAddr 1 (.t 4)) [],
 .g 20 18 false (.load none (.t 19)) [],
 .g 21 18 false (.lenS (.t 20)) [],
 .g 22 18 false (.bin .gtr (.t 21) (.i 4096)) [],
 .o 23 (.pick (.t 18) (.b true) (.t 22))] [14, 15, 16, 17, 18, 19, 20, 21, 22])
 (.cond (.t 23)
 (.seq (.region false [
 .o 2 (.move (.b false))] [8, 9, 10, 23])
 .ret)
 .skip))))
 (.region false [
 .o 24 (.bin .add (.t 10) (.i 1)),
 .o 10 (.move (.t 24))] [23, 24]))))

def a54 : AFunc := ⟨25, 1, [.tmp 2],
  (.seq (.region false [
 .o 2 (.move (.b false))] [2])
 (.seq (.seq (.region false [
 .o 5 (.move (.t 0)),
 .o 6 (.len (.t 5)),
 .o 7 (.bin .gtr (.t 6) (.i 256))] [5, 6])
 (.cond (.t 7)
 (.seq (.region false [
 .o 2 (.move (.b false))] [0, 7])
 .ret)
 .skip))
 (.seq (.seq (.region false [
 .o 8 (.move (.t 0)),
 .o 9 (.len (.t 8)),
 .o 10 (.move (.i 0))] [0, 7])
 (.block 0
 (.loop
 (.ghost (.free [4]) (.ghost .lower a54_l0)))))
 (.seq (.region false [
 .o 2 (.move (.b true))] [])
 .ret))))⟩

def a55 : AFunc := ⟨63, 1, [.tmp 2],
  (.seq (.region false [
 .o 1 (.box (.t 0)),
 .o 2 (.move (.b false))] [0, 2])
 (.seq (.seq (.region false [
 .o 3 (.fieldAddr 0 (.t 1)),
 .o 4 (.load none (.t 3))] [3])
 (.block 0
 (.seq (.region false [
 .o 6 (.bin .eql (.t 4) (.i 1)),
 .o 5 (.move (.t 6))] [6])
 (.cond (.t 5)
 (.seq (.region false [
 .o 7 (.fieldAddr 6 (.t 1)),
 .o 8 (.load none (.t 7)),
 .o 9 (.bin .eql (.t 8) (.i 0)),
 .o 10 (.move (.t 9)),
 .g 11 10 true (.fieldAddr 7 (.t 1)) [],
 .g 12 10 true (.load none (.t 11)) [],
 .g 13 10 true (.un .not (.t 12)) [],
 .o 14 (.pick (.t 10) (.t 13) (.b false)),
 .o 15 (.move (.t 14)),
 .g 16 15 true (.fieldAddr 8 (.t 1)) [],
 .g 17 15 true (.load none (.t 16)) [],
 .g 18 15 true (.len (.t 17)) [],
 .g 19 15 true (.bin .eql (.t 18) (.i 0)) [],
 .o 20 (.pick (.t 15) (.t 19) (.b false)),
 .o 2 (.move (.t 20))] [4, 5, 7, 8, 9, 10, 11, 12, 13, 14, 15, 16, 17, 18, 19, 20])
 .ret)
 (.seq (.region false [
 .o 22 (.bin .eql (.t 4) (.i 2)),
 .o 21 (.move (.t 22))] [5, 22])
 (.cond (.t 21)
 (.seq (.region false [
 .o 23 (.fieldAddr 4 (.t 1)),
 .o 24 (.load none (.t 23)),
 .o 25 (.bin .eql (.t 24) (.i 0)),
 .o 26 (.move (.t 25)),
 .g 27 26 true (.fieldAddr 5 (.t 1)) [],
 .g 28 26 true (.load none (.t 27)) [],
 .g 29 26 true (.bin .eql (.t 28) (.i 0)) [],
 .o 30 (.pick (.t 26) (.t 29) (.b false)),
 .o 31 (.move (.t 30)),
 .g 32 31 true (.fieldAddr 6 (.t 1)) [],
 .g 33 31 true (.load none (.t 32)) [],
 .g 34 31 true (.bin .eql (.t 33) (.i 0)) [],
 .o 35 (.pick (.t 31) (.t 34) (.b false)),
 .o 36 (.move (.t 35)),
 .g 37 36 true (.fieldAddr 8 (.t 1)) [],
 .g 38 36 true (.load none (.t 37)) [],
 .g 39 36 true (.len (.t 38)) [],
 .g 40 36 true (.bin .eql (.t 39) (.i 0)) [],
 .o 41 (.pick (.t 36) (.t 40) (.b false)),
 .o 2 (.move (.t 41))] [4, 21, 23, 24, 25, 26, 27, 28, 29, 30, 31, 32, 33, 34, 35, 36, 37, 38, 39, 40, 41])
 .ret)
 (.seq (.region false [
 .o 43 (.bin .eql (.t 4) (.i 3)),
 .o 42 (.move (.t 43))] [21, 43])
 (.cond (.t 42)
 (.seq (.region false [
 .o 44 (.fieldAddr 7 (.t 1)),
 .o 45 (.load none (.t 44)),
 .o 46 (.un .not (.t 45)),
 .o 2 (.move (.t 46))] [4, 42, 44, 45, 46])
 .ret)
 (.seq (.region false [
 .o 48 (.bin .eql (.t 4) (.i 4)),
 .o 47 (.move (.t 48))] [4, 42, 48])
 (.cond (.t 47)
 (.seq (.region false [
 .o 49 (.fieldAddr 5 (.t 1)),
 .o 50 (.load none (.t 49)),
 .o 51 (.bin .eql (.t 50) (.i 0)),
 .o 52 (.move (.t 51)),
 .g 53 52 true (.fieldAddr 6 (.t 1)) [],
 .g 54 52 true (.load none (.t 53)) [],
 .g 55 52 true (.bin .eql (.t 54) (.i 0)) [],
 .o 56 (.pick (.t 52) (.t 55) (.b false)),
 .o 57 (.move (.t 56)),
 .g 58 57 true (.fieldAddr 8 (.t 1)) [],
 .g 59 57 true (.load none (.t 58)) [],
 .g 60 57 true (.len (.t 59)) [],
 .g 61 57 true (.bin .eql (.t 60) (.i 0)) [],
 .o 62 (.pick (.t 57) (.t 61) (.b false)),
 .o 2 (.move (.t 62))] [47, 49, 50, 51, 52, 53, 54, 55, 56, 57, 58, 59, 60, 61, 62])
 .ret)
 .skip))))))))))
 (.seq (.region false [
 .o 2 (.move (.b false))] [47])
 .ret)))⟩

@[irreducible] def a56_l0 : ACode :=
  (.seq (.seq (.region false [
 .o 4 (.move (.t 3)),
 .o 5 (.move (.t 0)),
 .o 6 (.len (.t 5)),
 .o 7 (.bin .lss (.t 4) (.t 6))] [4, 5, 6])
 (.cond (.t 7)
 .skip
 (.ghost (.forget [3, 7]) (.ghost .lower (.exit 0)))))
 (.seq (.block 1
 (.seq (.region false [
 .o 10 (.move (.t 0)),
 .o 11 (.move (.t 3)),
 .o 12 (.indexAddr 2 (.t 10) (.t 11)),
 .o 13 (.fieldAddr 0 (.t 12)),
 .o 14 (.load none (.t 13)),
 .o 15 (.bin .lss (.t 14) (.i 1)),
 .o 16 (.move (.t 15)),
 .g 17 16 false (.move (.t 0)) [],
 .g 18 16 false (.move (.t 3)) [],
 .g 19 16 false (.indexAddr 2 (.t 17) (.t 18)) [],
 .g 20 16 false (.fieldAddr 0 (.t 19)) [],
 .g 21 16 false (.load none (.t 20)) [],
 .g 22 16 false (.bin .gtr (.t 21) (.i 1099511627776)) [],
 .o 23 (.pick (.t 16) (.b true) (.t 22)),
 .o 24 (.move (.t 23)),
 .g 25 24 false (.move (.t 0)) [],
 .g 26 24 false (.move (.t 3)) [],
 .g 27 24 false (.indexAddr 2 (.t 25) (.t 26)) [],
 .g 28 24 false (.fieldAddr 1 (.t 27)) [],
 .g 29 24 false (.load none (.t 28)) [],
 .g 30 24 false (.lenS (.t 29)) [],
 .g 31 24 false (.bin .gtr (.t 30) (.i 4096)) [],
 .o 32 (.pick (.t 24) (.b true) (.t 31))] [7, 10, 11, 12, 13, 14, 15, 16, 17, 18, 19, 20, 21, 22, 23, 24, 25, 26, 27, 28, 29, 30, 31])
 (.cond (.t 32)
 (.seq (.region false [
 .o 2 (.move (.b false))] [0, 3, 32])
 .ret)
 .skip)))
 (.region false [
 .o 8 (.move (.t 3)),
 .o 9 (.bin .add (.t 8) (.i 1)),
 .o 3 (.move (.t 9))] [8, 9, 32])))

def a56 : AFunc := ⟨36, 1, [.tmp 2],
  (.seq (.region false [
 .o 2 (.move (.b false))] [2])
 (.seq (.seq (.region false [
 .o 3 (.move (.i 0))] [])
 (.block 0
 (.loop
 (.ghost .lower a56_l0))))
 (.seq (.region false [
 .o 33 (.move (.t 0)),
 .o 34 (.len (.t 33)),
 .o 35 (.bin .leq (.t 34) (.i 256)),
 .o 2 (.move (.t 35))] [0, 33, 34, 35])
 .ret)))⟩

@[irreducible] def a57_l0 : ACode :=
  (.seq (.seq (.region false [
 .o 6 (.move (.t 4)),
 .o 7 (.fieldAddr 7 (.t 1)),
 .o 8 (.load none (.t 7)),
 .o 9 (.len (.t 8)),
 .o 10 (.bin .lss (.t 6) (.t 9))] [6, 7, 8, 9])
 (.cond (.t 10)
 .skip
 (.ghost (.forget [4, 10]) (.ghost .lower (.exit 0)))))
 (.seq (.block 1
 (.seq (.region false [
 .o 13 (.fieldAddr 7 (.t 1)),
 .o 14 (.load none (.t 13)),
 .o 15 (.move (.t 4)),
 .o 16 (.indexAddr 1 (.t 14) (.t 15)),
 .o 17 (.load none (.t 16)),
 .o 5 (.move (.t 17))] [10, 13, 14, 15, 16, 17])
 (.seq (.seq (.region false [
 .o 18 (.move (.t 5)),
 .o 19 (.bin .lss (.t 18) (.i 1)),
 .o 20 (.move (.t 19)),
 .g 21 20 false (.move (.t 5)) [],
 .g 22 20 false (.fieldAddr 1 (.t 1)) [],
 .g 23 20 false (.load none (.t 22)) [],
 .g 24 20 false (.bin .gtr (.t 21) (.t 23)) [],
 .o 25 (.pick (.t 20) (.b true) (.t 24)),
 .o 26 (.move (.t 25)),
 .g 27 26 false (.move (.t 4)) [],
 .g 28 26 false (.bin .gtr (.t 27) (.i 0)) [],
 .g 29 26 false (.move (.t 28)) [],
 .g 30 29 true (.move (.t 5)) [],
 .g 31 29 true (.fieldAddr 7 (.t 1)) [],
 .g 32 29 true (.load none (.t 31)) [],
 .g 33 29 true (.move (.t 4)) [],
 .g 34 29 true (.bin .sub (.t 33) (.i 1)) [],
 .g 35 29 true (.indexAddr 1 (.t 32) (.t 34)) [],
 .g 36 29 true (.load none (.t 35)) [],
 .g 37 29 true (.bin .leq (.t 30) (.t 36)) [],
 .g 38 26 false (.pick (.t 29) (.t 37) (.b false)) [],
 .o 39 (.pick (.t 26) (.b true) (.t 38))] [18, 19, 20, 21, 22, 23, 24, 25, 26, 27, 28, 29, 30, 31, 32, 33, 34, 35, 36, 37, 38])
 (.cond (.t 39)
 (.seq (.region false [
 .o 2 (.move (.b false))] [3, 4, 5, 39])
 .ret)
 .skip))
 (.region false [
 .o 40 (.move (.t 3)),
 .o 41 (.move (.t 40)),
 .g 42 41 false (.move (.t 5)) [],
 .g 43 41 false (.fieldAddr 0 (.t 1)) [],
 .g 44 41 false (.load none (.t 43)) [],
 .g 45 41 false (.bin .eql (.t 42) (.t 44)) [],
 .o 46 (.pick (.t 41) (.b true) (.t 45)),
 .o 3 (.move (.t 46))] [5, 39, 40, 41, 42, 43, 44, 45, 46]))))
 (.region false [
 .o 11 (.move (.t 4)),
 .o 12 (.bin .add (.t 11) (.i 1)),
 .o 4 (.move (.t 12))] [11, 12])))

def a57 : AFunc := ⟨57, 1, [.tmp 2],
  (.seq (.region false [
 .o 1 (.box (.t 0)),
 .o 2 (.move (.b false))] [0, 2])
 (.seq (.region false [
 .o 3 (.move (.b false))] [])
 (.seq (.seq (.region false [
 .o 4 (.move (.i 0))] [])
 (.block 0
 (.loop
 (.ghost .lower a57_l0))))
 (.seq (.region true [
 .o 47 (.move (.t 3)),
 ⟨some 48, .move (.t 47), none, [0]⟩,
 .g 49 48 true (.fieldAddr 7 (.t 1)) [0, 1],
 .g 50 48 true (.load none (.t 49)) [0, 1, 2],
 .g 51 48 true (.len (.t 50)) [0, 1, 2, 3],
 .g 52 48 true (.fieldAddr 1 (.t 1)) [0, 1],
 .g 53 48 true (.load none (.t 52)) [0, 1, 5],
 .g 54 48 true (.call false 96 [.t 53]) [0, 1, 5, 6],
 .g 55 48 true (.bin .lss (.t 51) (.t 54)) [0, 1, 2, 3, 4, 5, 6, 7],
 ⟨some 56, .pick (.t 48) (.t 55) (.b false), none, [0, 1, 2, 3, 4, 5, 6, 7, 8]⟩,
 ⟨some 2, .move (.t 56), none, [0, 1, 2, 3, 4, 5, 6, 7, 8, 9]⟩] [3, 47, 48, 49, 50, 51, 52, 53, 54, 55, 56])
 .ret))))⟩

@[irreducible] def a58_l0 : ACode :=
  (.seq (.seq (.region false [
 .o 22 (.move (.t 4)),
 .o 23 (.fieldAddr 1 (.t 1)),
 .o 24 (.load none (.t 23)),
 .o 25 (.bin .lss (.t 22) (.t 24))] [22, 23, 24])
 (.cond (.t 25)
 .skip
 (.ghost (.forget [4, 25]) (.ghost .lower (.exit 0)))))
 (.seq (.block 1
 (.seq (.region true [
 .o 28 (.fieldAddr 9 (.t 1)),
 ⟨some 29, .load none (.t 28), none, [0]⟩,
 .o 30 (.move (.t 4)),
 ⟨some 31, .indexAddr 1 (.t 29) (.t 30), none, [0, 1, 2]⟩,
 ⟨some 32, .load none (.t 31), none, [0, 1, 2, 3]⟩,
 ⟨some 33, .bin .lss (.t 32) (.i 0), none, [0, 1, 2, 3, 4]⟩,
 ⟨some 34, .move (.t 33), none, [0, 1, 2, 3, 4, 5]⟩,
 .g 35 34 false (.fieldAddr 9 (.t 1)) [0, 1, 2, 3, 4, 5, 6],
 .g 36 34 false (.load none (.t 35)) [0, 1, 2, 3, 4, 5, 6, 7],
 .g 37 34 false (.move (.t 4)) [0, 1, 2, 3, 4, 5, 6],
 .g 38 34 false (.indexAddr 1 (.t 36) (.t 37)) [0, 1, 2, 3, 4, 5, 6, 7, 8, 9],
 .g 39 34 false (.load none (.t 38)) [0, 1, 2, 3, 4, 5, 6, 7, 8, 9, 10],
 .g 40 34 false (.fieldAddr 8 (.t 1)) [0, 1, 2, 3, 4, 5, 6],
 .g 41 34 false (.load none (.t 40)) [0, 1, 2, 3, 4, 5, 6, 12],
 .g 42 34 false (.move (.t 4)) [0, 1, 2, 3, 4, 5, 6],
 .g 43 34 false (.indexAddr 1 (.t 41) (.t 42)) [0, 1, 2, 3, 4, 5, 6, 12, 13, 14],
 .g 44 34 false (.load none (.t 43)) [0, 1, 2, 3, 4, 5, 6, 12, 13, 14, 15],
 .g 45 34 false (.bin .gtr (.t 39) (.t 44)) [0, 1, 2, 3, 4, 5, 6, 7, 8, 9, 10, 11, 12, 13, 14, 15, 16],
 ⟨some 46, .pick (.t 34) (.b true) (.t 45), none, [0, 1, 2, 3, 4, 5, 6, 7, 8, 9, 10, 11, 12, 13, 14, 15, 16, 17]⟩,
 ⟨some 47, .move (.t 46), none, [0, 1, 2, 3, 4, 5, 6, 7, 8, 9, 10, 11, 12, 13, 14, 15, 16, 17, 18]⟩,
 .g 48 47 false (.fieldAddr 8 (.t 1)) [0, 1, 2, 3, 4, 5, 6, 7, 8, 9, 10, 11, 12, 13, 14, 15, 16, 17, 18, 19],
 .g 49 47 false (.load none (.t 48)) [0, 1, 2, 3, 4, 5, 6, 7, 8, 9, 10, 11, 12, 13, 14, 15, 16, 17, 18, 19, 20],
 .g 50 47 false (.move (.t 4)) [0, 1, 2, 3, 4, 5, 6, 7, 8, 9, 10, 11, 12, 13, 14, 15, 16, 17, 18, 19],
 .g 51 47 false (.indexAddr 1 (.t 49) (.t 50)) [0, 1, 2, 3, 4, 5, 6, 7, 8, 9, 10, 11, 12, 13, 14, 15, 16, 17, 18, 19, 20, 21, 22],
 .g 52 47 false (.load none (.t 51)) [0, 1, 2, 3, 4, 5, 6, 7, 8, 9, 10, 11, 12, 13, 14, 15, 16, 17, 18, 19, 20, 21, 22, 23],
 .g 53 47 false (.move (.t 3)) [0, 1, 2, 3, 4, 5, 6, 7, 8, 9, 10, 11, 12, 13, 14, 15, 16, 17, 18, 19],
 .g 54 47 false (.bin .gtr (.t 52) (.t 53)) [0, 1, 2, 3, 4, 5, 6, 7, 8, 9, 10, 11, 12, 13, 14, 15, 16, 17, 18, 19, 20, 21, 22, 23, 24, 25],
 ⟨some 55, .pick (.t 47) (.b true) (.t 54), none, [0, 1, 2, 3, 4, 5, 6, 7, 8, 9, 10, 11, 12, 13, 14, 15, 16, 17, 18, 19, 20, 21, 22, 23, 24, 25, 26]⟩] [25, 28, 29, 30, 31, 32, 33, 34, 35, 36, 37, 38, 39, 40, 41, 42, 43, 44, 45, 46, 47, 48, 49, 50, 51, 52, 53, 54])
 (.cond (.t 55)
 (.seq (.region false [
 .o 2 (.move (.b false))] [3, 4, 55])
 .ret)
 .skip)))
 (.region false [
 .o 26 (.move (.t 4)),
 .o 27 (.bin .add (.t 26) (.i 1)),
 .o 4 (.move (.t 27))] [26, 27, 55])))

def a58 : AFunc := ⟨76, 1, [.tmp 2],
  (.seq (.region false [
 .o 1 (.box (.t 0)),
 .o 2 (.move (.b false))] [0, 2])
 (.seq (.seq (.region false [
 .o 5 (.fieldAddr 8 (.t 1)),
 .o 6 (.load none (.t 5)),
 .o 7 (.len (.t 6)),
 .o 8 (.fieldAddr 1 (.t 1)),
 .o 9 (.load none (.t 8)),
 .o 10 (.bin .neq (.t 7) (.t 9)),
 .o 11 (.move (.t 10)),
 .g 12 11 false (.fieldAddr 9 (.t 1)) [],
 .g 13 11 false (.load none (.t 12)) [],
 .g 14 11 false (.len (.t 13)) [],
 .g 15 11 false (.fieldAddr 1 (.t 1)) [],
 .g 16 11 false (.load none (.t 15)) [],
 .g 17 11 false (.bin .neq (.t 14) (.t 16)) [],
 .o 18 (.pick (.t 11) (.b true) (.t 17))] [5, 6, 7, 8, 9, 10, 11, 12, 13, 14, 15, 16, 17])
 (.cond (.t 18)
 (.seq (.region false [
 .o 2 (.move (.b false))] [18])
 .ret)
 .skip))
 (.seq (.region false [
 .o 19 (.fieldAddr 4 (.t 1)),
 .o 20 (.load none (.t 19)),
 .o 21 (.len (.t 20)),
 .o 3 (.move (.t 21))] [18, 19, 20, 21])
 (.seq (.seq (.region false [
 .o 4 (.move (.i 0))] [])
 (.block 0
 (.loop
 (.ghost .lower a58_l0))))
 (.seq (.region false [
 .o 56 (.fieldAddr 9 (.t 1)),
 .o 57 (.load none (.t 56)),
 .o 58 (.fieldAddr 0 (.t 1)),
 .o 59 (.load none (.t 58)),
 .o 60 (.bin .sub (.t 59) (.i 1)),
 .o 61 (.indexAddr 1 (.t 57) (.t 60)),
 .o 62 (.load none (.t 61)),
 .o 63 (.move (.t 3)),
 .o 64 (.bin .eql (.t 62) (.t 63)),
 .o 65 (.move (.t 64)),
 .g 66 65 true (.fieldAddr 8 (.t 1)) [],
 .g 67 65 true (.load none (.t 66)) [],
 .g 68 65 true (.fieldAddr 0 (.t 1)) [],
 .g 69 65 true (.load none (.t 68)) [],
 .g 70 65 true (.bin .sub (.t 69) (.i 1)) [],
 .g 71 65 true (.indexAddr 1 (.t 67) (.t 70)) [],
 .g 72 65 true (.load none (.t 71)) [],
 .g 73 65 true (.move (.t 3)) [],
 .g 74 65 true (.bin .eql (.t 72) (.t 73)) [],
 .o 75 (.pick (.t 65) (.t 74) (.b false)),
 .o 2 (.move (.t 75))] [3, 56, 57, 58, 59, 60, 61, 62, 63, 64, 65, 66, 67, 68, 69, 70, 71, 72, 73, 74, 75])
 .ret)))))⟩

def a59 : AFunc := ⟨12, 2, [.tmp 4],
  (.seq (.region false [
 .o 4 (.move (.b false))] [4])
 (.seq (.region false [
 .o 5 (.move (.t 0)),
 .o 6 (.move (.t 1)),
 .o 7 (.bin .geq (.t 5) (.t 6)),
 .o 8 (.move (.t 7)),
 .g 9 8 true (.move (.t 0)) [],
 .g 10 8 true (.bin .leq (.t 9) (.i 1099511627776)) [],
 .o 11 (.pick (.t 8) (.t 10) (.b false)),
 .o 4 (.move (.t 11))] [0, 1, 5, 6, 7, 8, 9, 10, 11])
 .ret))⟩

@[irreducible] def a60_l0 : ACode :=
  (.seq (.seq (.region false [
 .o 4 (.move (.t 3)),
 .o 5 (.move (.t 0)),
 .o 6 (.len (.t 5)),
 .o 7 (.bin .lss (.t 4) (.t 6))] [4, 5, 6])
 (.cond (.t 7)
 .skip
 (.ghost (.forget [3, 7]) (.ghost .lower (.exit 0)))))
 (.seq (.block 1
 (.seq (.region false [
 .o 10 (.move (.t 0)),
 .o 11 (.move (.t 3)),
 .o 12 (.indexAddr 2 (.t 10) (.t 11)),
 .o 13 (.fieldAddr 0 (.t 12)),
 .o 14 (.load none (.t 13)),
 .o 15 (.call false 59 [.t 14, .i 1]),
 .o 16 (.un .not (.t 15)),
 .o 17 (.move (.t 16)),
 .g 18 17 false (.move (.t 0)) [],
 .g 19 17 false (.move (.t 3)) [],
 .g 20 17 false (.indexAddr 2 (.t 18) (.t 19)) [],
 .g 21 17 false (.fieldAddr 1 (.t 20)) [],
 .g 22 17 false (.load none (.t 21)) [],
 .g 23 17 false (.lenS (.t 22)) [],
 .g 24 17 false (.bin .gtr (.t 23) (.i 4096)) [],
 .o 25 (.pick (.t 17) (.b true) (.t 24))] [7, 10, 11, 12, 13, 14, 15, 16, 17, 18, 19, 20, 21, 22, 23, 24])
 (.cond (.t 25)
 (.seq (.region false [
 .o 2 (.move (.b false))] [0, 3, 25])
 .ret)
 .skip)))
 (.region false [
 .o 8 (.move (.t 3)),
 .o 9 (.bin .add (.t 8) (.i 1)),
 .o 3 (.move (.t 9))] [8, 9, 25])))

def a60 : AFunc := ⟨29, 1, [.tmp 2],
  (.seq (.region false [
 .o 2 (.move (.b false))] [2])
 (.seq (.seq (.region false [
 .o 3 (.move (.i 0))] [])
 (.block 0
 (.loop
 (.ghost .lower a60_l0))))
 (.seq (.region false [
 .o 26 (.move (.t 0)),
 .o 27 (.len (.t 26)),
 .o 28 (.bin .leq (.t 27) (.i 256)),
 .o 2 (.move (.t 28))] [0, 26, 27, 28])
 .ret)))⟩

def a61 : AFunc := ⟨61, 1, [.tmp 2],
  (.seq (.region false [
 .o 1 (.box (.t 0)),
 .o 2 (.move (.b false))] [0, 2])
 (.seq (.seq (.region false [
 .o 3 (.fieldAddr 0 (.t 1)),
 .o 4 (.load none (.t 3))] [3])
 (.block 0
 (.seq (.region false [
 .o 6 (.bin .eql (.t 4) (.i 1)),
 .o 5 (.move (.t 6))] [6])
 (.cond (.t 5)
 (.seq (.region false [
 .o 7 (.fieldAddr 6 (.t 1)),
 .o 8 (.load none (.t 7)),
 .o 9 (.bin .eql (.t 8) (.i 0)),
 .o 10 (.move (.t 9)),
 .g 11 10 true (.fieldAddr 7 (.t 1)) [],
 .g 12 10 true (.load none (.t 11)) [],
 .g 13 10 true (.un .not (.t 12)) [],
 .o 14 (.pick (.t 10) (.t 13) (.b false)),
 .o 15 (.move (.t 14)),
 .g 16 15 true (.fieldAddr 8 (.t 1)) [],
 .g 17 15 true (.load none (.t 16)) [],
 .g 18 15 true (.len (.t 17)) [],
 .g 19 15 true (.bin .eql (.t 18) (.i 0)) [],
 .o 20 (.pick (.t 15) (.t 19) (.b false)),
 .o 2 (.move (.t 20))] [4, 5, 7, 8, 9, 10, 11, 12, 13, 14, 15, 16, 17, 18, 19, 20])
 .ret)
 (.seq (.region false [
 .o 22 (.bin .eql (.t 4) (.i 2)),
 .o 21 (.move (.t 22))] [5, 22])
 (.cond (.t 21)
 (.seq (.region false [
 .o 23 (.fieldAddr 4 (.t 1)),
 .o 24 (.load none (.t 23)),
 .o 25 (.bin .eql (.t 24) (.i 0)),
 .o 26 (.move (.t 25)),
 .g 27 26 true (.fieldAddr 5 (.t 1)) [],
 .g 28 26 true (.load none (.t 27)) [],
 .g 29 26 true (.bin .eql (.t 28) (.i 0)) [],
 .o 30 (.pick (.t 26) (.t 29) (.b false)),
 .o 31 (.move (.t 30)),
 .g 32 31 true (.fieldAddr 6 (.t 1)) [],
 .g 33 31 true (.load none (.t 32)) [],
 .g 34 31 true (.bin .eql (.t 33) (.i 0)) [],
 .o 35 (.pick (.t 31) (.t 34) (.b false)),
 .o 36 (.move (.t 35)),
 .g 37 36 true (.fieldAddr 8 (.t 1)) [],
 .g 38 36 true (.load none (.t 37)) [],
 .g 39 36 true (.len (.t 38)) [],
 .g 40 36 true (.bin .eql (.t 39) (.i 0)) [],
 .o 41 (.pick (.t 36) (.t 40) (.b false)),
 .o 2 (.move (.t 41))] [4, 21, 23, 24, 25, 26, 27, 28, 29, 30, 31, 32, 33, 34, 35, 36, 37, 38, 39, 40, 41])
 .ret)
 (.seq (.region false [
 .o 43 (.bin .eql (.t 4) (.i 3)),
 .o 42 (.move (.t 43))] [4, 21, 43])
 (.cond (.t 42)
 (.seq (.region false [
 .o 44 (.fieldAddr 7 (.t 1)),
 .o 45 (.load none (.t 44)),
 .o 46 (.un .not (.t 45)),
 .o 2 (.move (.t 46))] [42, 44, 45, 46])
 .ret)
 .skip))))))))
 (.seq (.region false [
 .o 47 (.fieldAddr 5 (.t 1)),
 .o 48 (.load none (.t 47)),
 .o 49 (.bin .eql (.t 48) (.i 0)),
 .o 50 (.move (.t 49)),
 .g 51 50 true (.fieldAddr 6 (.t 1)) [],
 .g 52 50 true (.load none (.t 51)) [],
 .g 53 50 true (.bin .eql (.t 52) (.i 0)) [],
 .o 54 (.pick (.t 50) (.t 53) (.b false)),
 .o 55 (.move (.t 54)),
 .g 56 55 true (.fieldAddr 8 (.t 1)) [],
 .g 57 55 true (.load none (.t 56)) [],
 .g 58 55 true (.len (.t 57)) [],
 .g 59 55 true (.bin .eql (.t 58) (.i 0)) [],
 .o 60 (.pick (.t 55) (.t 59) (.b false)),
 .o 2 (.move (.t 60))] [42, 47, 48, 49, 50, 51, 52, 53, 54, 55, 56, 57, 58, 59, 60])
 .ret)))⟩

@[irreducible] def a62_l0 : ACode :=
  (.seq (.region false [
 .o 9 (.bin .lss (.t 8) (.t 7))] [])
 (.seq (.cond (.t 9)
 .skip
 (.ghost (.forget [0, 1, 7, 8, 9]) (.ghost .lower (.exit 0))))
 (.seq (.block 1
 (.seq (.region false [
 .o 10 (.move (.t 8)),
 .o 5 (.move (.t 10))] [9, 10])
 (.seq (.region false [
 .o 11 (.move (.t 1)),
 .o 12 (.move (.t 0)),
 .o 13 (.move (.t 5)),
 .o 14 (.indexAddr 1 (.t 12) (.t 13)),
 .o 15 (.load none (.t 14)),
 .o 16 (.callv false (.t 11) [.t 15])] [11, 12, 13, 14, 15])
 (.cond (.t 16)
 (.seq (.region false [
 .o 17 (.move (.t 5)),
 .o 4 (.move (.t 17))] [0, 1, 5, 7, 8, 16, 17])
 .ret)
 .skip))))
 (.region false [
 .o 18 (.bin .add (.t 8) (.i 1)),
 .o 8 (.move (.t 18))] [5, 16, 18]))))

def a62 : AFunc := ⟨19, 2, [.tmp 4],
  (.seq (.region false [
 .o 4 (.move (.i 0))] [4])
 (.seq (.seq (.region false [
 .o 6 (.move (.t 0)),
 .o 7 (.len (.t 6)),
 .o 8 (.move (.i 0))] [6])
 (.block 0
 (.loop
 (.ghost .lower a62_l0))))
 (.seq (.region false [
 .o 4 (.move (.i (-1)))] [])
 .ret)))⟩

@[irreducible] def a63_l0 : ACode :=
  (.seq (.region false [
 .o 14 (.bin .lss (.t 13) (.t 12))] [])
 (.seq (.cond (.t 14)
 .skip
 (.ghost (.forget [0, 1, 12, 13, 14]) (.ghost .lower (.exit 0))))
 (.seq (.block 1
 (.seq (.region false [
 .o 15 (.move (.t 13)),
 .o 5 (.move (.t 15))] [14, 15])
 (.seq (.region true [
 .o 16 (.move (.t 0)),
 .o 17 (.move (.t 5)),
 ⟨some 18, .indexAddr 1 (.t 16) (.t 17), none, [0, 1]⟩,
 ⟨some 19, .load none (.t 18), none, [0, 1, 2]⟩,
 .o 20 (.move (.t 1)),
 .o 21 (.move (.t 5)),
 ⟨some 22, .indexAddr 1 (.t 20) (.t 21), none, [4, 5]⟩,
 ⟨some 23, .load none (.t 22), none, [4, 5, 6]⟩,
 ⟨some 24, .bin .neq (.t 19) (.t 23), none, [0, 1, 2, 3, 4, 5, 6, 7]⟩] [5, 16, 17, 18, 19, 20, 21, 22, 23])
 (.cond (.t 24)
 (.seq (.region false [
 .o 4 (.move (.b false))] [0, 1, 12, 13, 24])
 .ret)
 .skip))))
 (.region false [
 .o 25 (.bin .add (.t 13) (.i 1)),
 .o 13 (.move (.t 25))] [24, 25]))))

def a63 : AFunc := ⟨26, 2, [.tmp 4],
  (.seq (.region false [
 .o 4 (.move (.b false))] [4])
 (.seq (.seq (.region false [
 .o 6 (.move (.t 0)),
 .o 7 (.len (.t 6)),
 .o 8 (.move (.t 1)),
 .o 9 (.len (.t 8)),
 .o 10 (.bin .neq (.t 7) (.t 9))] [6, 7, 8, 9])
 (.cond (.t 10)
 (.seq (.region false [
 .o 4 (.move (.b false))] [0, 1, 10])
 .ret)
 .skip))
 (.seq (.seq (.region false [
 .o 11 (.move (.t 0)),
 .o 12 (.len (.t 11)),
 .o 13 (.move (.i 0))] [10, 11])
 (.block 0
 (.loop
 (.ghost .lower a63_l0))))
 (.seq (.region false [
 .o 4 (.move (.b true))] [])
 .ret))))⟩

def a64 : AFunc := ⟨25, 2, [.cell 4 10, .tmp 5],
  (.seq (.region false [
 .o 4 (.alloc zz1),
 .o 5 (.move (.i 0))] [5])
 (.seq (.seq (.region false [
 .o 6 (.move (.t 1)),
 .o 7 (.bin .lss (.t 6) (.i 1)),
 .o 8 (.move (.t 7)),
 .g 9 8 false (.move (.t 1)) [],
 .g 10 8 false (.bin .gtr (.t 9) (.i 7)) [],
 .o 11 (.pick (.t 8) (.b true) (.t 10)),
 .o 12 (.move (.t 11)),
 .g 13 12 false (.move (.t 0)) [],
 .g 14 12 false (.bin .lss (.t 13) (.i 1)) [],
 .o 15 (.pick (.t 12) (.b true) (.t 14)),
 .o 16 (.move (.t 15)),
 .g 17 16 false (.move (.t 0)) [],
 .g 18 16 false (.move (.t 1)) [],
 .g 19 16 false (.bin .gtr (.t 17) (.t 18)) [],
 .o 20 (.pick (.t 16) (.b true) (.t 19))] [6, 7, 8, 9, 10, 11, 12, 13, 14, 15, 16, 17, 18, 19])
 (.cond (.t 20)
 (.seq (.region false [
 .o 21 (.build zz1 []),
 .u (.store 10 (.t 4) (.t 21)),
 .o 5 (.move (.i 1))] [0, 1, 20, 21])
 .ret)
 .skip))
 (.seq (.region false [
 .o 22 (.move (.t 0)),
 .o 23 (.move (.t 1)),
 .o 24 (.build zz1 [(0, 1, .t 22), (1, 1, .t 23), (5, 1, .i 1)]),
 .u (.store 10 (.t 4) (.t 24)),
 .o 5 (.move (.i 0))] [0, 1, 20, 22, 23, 24])
 .ret)))⟩

def a65 : AFunc := ⟨24, 2, [.cell 4 9, .tmp 5, .tmp 6],
  (.seq (.regionK false [
 (.o 4 (.alloc zz2), []),
 (.o 5 (.move (.c (.p (.slice true [])))), [5]),
 (.o 6 (.move (.i 0)), [6])])
 (.seq (.seq (.regionK false [
 (.o 7 (.move (.t 1)), []),
 (.o 8 (.bin .lss (.t 7) (.i 0)), [7]),
 (.o 9 (.move (.t 8)), [8]),
 (.g 10 9 false (.move (.t 1)) [], []),
 (.g 11 9 false (.move (.t 0)) [], []),
 (.g 12 9 false (.len (.t 11)) [], [11]),
 (.g 13 9 false (.bin .geq (.t 10) (.t 12)) [], [10, 12]),
 (.o 14 (.pick (.t 9) (.b true) (.t 13)), [9, 13])])
 (.cond (.t 14)
 (.seq (.regionK false [
 (.o 15 (.build zz2 []), [0, 1, 14]),
 (.u (.store 9 (.t 4) (.t 15)), [15]),
 (.o 5 (.move (.c (.p (.slice true [])))), []),
 (.o 6 (.move (.i 9)), [])])
 .ret)
 .skip))
 (.seq (.regionK false [
 (.o 16 (.move (.t 0)), [14]),
 (.o 17 (.move (.t 1)), []),
 (.o 18 (.indexAddr 9 (.t 16) (.t 17)), [16, 17]),
 (.o 19 (.load (some 9) (.t 18)), [18]),
 (.o 20 (.call false 97 [.t 19]), [19]),
 (.o 21 (.move (.t 0)), [0]),
 (.o 22 (.move (.t 1)), [1]),
 (.o 23 (.call false 98 [.t 21, .t 22]), [21, 22]),
 (.u (.store 9 (.t 4) (.t 20)), [20]),
 (.o 5 (.move (.t 23)), [23]),
 (.o 6 (.move (.i 0)), [])])
 .ret)))⟩

def a66 : AFunc := ⟨10, 2, [.cell 3 10, .tmp 4],
  (.seq (.regionK false [
 (.o 2 (.box (.t 0)), [0]),
 (.o 3 (.alloc zz1), []),
 (.o 4 (.move (.c (.p (.slice true [])))), [4])])
 (.seq (.regionK false [
 (.o 5 (.load (some 10) (.t 2)), []),
 (.o 6 (.load (some 9) (.t 1)), [1]),
 (.o 7 (.call false 67 [.t 5, .t 6]), [5, 6]),
 (.o 8 (.extract (.t 7) 0), []),
 (.o 9 (.extract (.t 7) 1), [7]),
 (.u (.store 10 (.t 3) (.t 8)), [8]),
 (.o 4 (.move (.t 9)), [9])])
 .ret))⟩

def a67 : AFunc := ⟨36, 2, [.cell 4 10, .tmp 5],
  (.seq (.region false [
 .o 2 (.box (.t 0)),
 .o 3 (.box (.t 1)),
 .o 4 (.alloc zz1),
 .o 5 (.move (.c (.p (.slice true []))))] [0, 1, 5])
 (.seq (.seq (.region false [
 .o 6 (.fieldAddr 0 (.t 3)),
 .o 7 (.load none (.t 6))] [6])
 (.block 0
 (.seq (.region false [
 .o 9 (.bin .eql (.t 7) (.i 1)),
 .o 8 (.move (.t 9))] [9])
 (.cond (.t 8)
 (.seq (.region false [
 .o 10 (.load (some 10) (.t 2)),
 .o 11 (.load (some 9) (.t 3)),
 .o 12 (.call false 99 [.t 10, .t 11]),
 .o 13 (.extract (.t 12) 0),
 .o 14 (.extract (.t 12) 1),
 .u (.store 10 (.t 4) (.t 13)),
 .o 5 (.move (.t 14))] [7, 8, 10, 11, 12, 13, 14])
 .ret)
 (.seq (.region false [
 .o 16 (.bin .eql (.t 7) (.i 2)),
 .o 15 (.move (.t 16))] [8, 16])
 (.cond (.t 15)
 (.seq (.region false [
 .o 17 (.load (some 10) (.t 2)),
 .o 18 (.load (some 9) (.t 3)),
 .o 19 (.call false 100 [.t 17, .t 18]),
 .o 20 (.extract (.t 19) 0),
 .o 21 (.extract (.t 19) 1),
 .u (.store 10 (.t 4) (.t 20)),
 .o 5 (.move (.t 21))] [7, 15, 17, 18, 19, 20, 21])
 .ret)
 (.seq (.region false [
 .o 23 (.bin .eql (.t 7) (.i 3)),
 .o 22 (.move (.t 23))] [15, 23])
 (.cond (.t 22)
 (.seq (.region false [
 .o 24 (.load (some 10) (.t 2)),
 .o 25 (.load (some 9) (.t 3)),
 .o 26 (.call false 101 [.t 24, .t 25]),
 .o 27 (.extract (.t 26) 0),
 .o 28 (.extract (.t 26) 1),
 .u (.store 10 (.t 4) (.t 27)),
 .o 5 (.move (.t 28))] [7, 22, 24, 25, 26, 27, 28])
 .ret)
 (.seq (.region false [
 .o 30 (.bin .eql (.t 7) (.i 4)),
 .o 29 (.move (.t 30))] [7, 22, 30])
 (.cond (.t 29)
 (.seq (.region false [
 .o 31 (.load (some 10) (.t 2)),
 .o 32 (.load (some 9) (.t 3)),
 .o 33 (.call false 102 [.t 31, .t 32]),
 .u (.store 10 (.t 4) (.t 33)),
 .o 5 (.move (.c (.p (.slice true []))))] [29, 31, 32, 33])
 .ret)
 .skip))))))))))
 (.seq (.region false [
 .o 34 (.load (some 10) (.t 2)),
 .o 35 (.call true 78 [.t 34]),
 .u (.store 10 (.t 4) (.t 35)),
 .o 5 (.move (.c (.p (.slice true []))))] [29, 34, 35])
 .ret)))⟩

def a68 : AFunc := ⟨17, 2, [.tmp 4, .tmp 5],
  (.seq (.regionK false [
 (.o 4 (.move (.c (.p (.slice true [])))), [4]),
 (.o 5 (.move (.i 0)), [5])])
 (.seq (.seq (.regionK false [
 (.o 6 (.move (.t 1)), []),
 (.o 7 (.bin .lss (.t 6) (.i 0)), [6]),
 (.o 8 (.move (.t 7)), [7]),
 (.g 9 8 false (.move (.t 1)) [], []),
 (.g 10 8 false (.move (.t 0)) [], []),
 (.g 11 8 false (.len (.t 10)) [], [10]),
 (.g 12 8 false (.bin .geq (.t 9) (.t 11)) [], [9, 11]),
 (.o 13 (.pick (.t 8) (.b true) (.t 12)), [8, 12])])
 (.cond (.t 13)
 (.seq (.regionK false [
 (.o 4 (.move (.c (.p (.slice true [])))), [0, 1, 13]),
 (.o 5 (.move (.i 9)), [])])
 .ret)
 .skip))
 (.seq (.regionK false [
 (.o 14 (.move (.t 0)), [0, 13]),
 (.o 15 (.move (.t 1)), [1]),
 (.o 16 (.call false 98 [.t 14, .t 15]), [14, 15]),
 (.o 4 (.move (.t 16)), [16]),
 (.o 5 (.move (.i 0)), [])])
 .ret)))⟩

def a69 : AFunc := ⟨5, 1, [.cell 2 10, .tmp 3],
  (.seq (.regionK false [
 (.o 1 (.box (.t 0)), [0]),
 (.o 2 (.alloc zz1), []),
 (.o 3 (.move (.c (.p (.slice true [])))), [3])])
 (.seq (.regionK false [
 (.o 4 (.load (some 10) (.t 1)), []),
 (.u (.store 10 (.t 2) (.t 4)), [4]),
 (.o 3 (.move (.c (.p (.slice true [])))), [])])
 .ret))⟩

def a70 : AFunc := ⟨26, 2, [.tmp 4, .tmp 5],
  (.seq (.regionK false [
 (.o 4 (.move (.c (.p (.slice true [])))), [4]),
 (.o 5 (.move (.i 0)), [5])])
 (.seq (.seq (.regionK false [
 (.o 6 (.move (.t 1)), []),
 (.o 7 (.bin .lss (.t 6) (.i 0)), [6]),
 (.o 8 (.move (.t 7)), [7]),
 (.g 9 8 false (.move (.t 1)) [], []),
 (.g 10 8 false (.move (.t 0)) [], []),
 (.g 11 8 false (.len (.t 10)) [], [10]),
 (.g 12 8 false (.bin .geq (.t 9) (.t 11)) [], [9, 11]),
 (.o 13 (.pick (.t 8) (.b true) (.t 12)), [8, 12])])
 (.cond (.t 13)
 (.seq (.regionK false [
 (.o 4 (.move (.c (.p (.slice true [])))), [0, 1, 13]),
 (.o 5 (.move (.i 9)), [])])
 .ret)
 .skip))
 (.seq (.seq (.regionK false [
 (.o 14 (.move (.t 0)), [13]),
 (.o 15 (.len (.t 14)), [14]),
 (.o 16 (.bin .geq (.t 15) (.i 256)), [15])])
 (.cond (.t 16)
 (.seq (.regionK false [
 (.o 4 (.move (.c (.p (.slice true [])))), [0, 1, 16]),
 (.o 5 (.move (.i 17)), [])])
 .ret)
 .skip))
 (.seq (.regionS [(1, 4), (1, 5)] [
 .o 17 (.move (.t 0)),
 ⟨some 18, .call true 103 [.t 17, .i 1], none, [0]⟩,
 .o 19 (.move (.t 0)),
 .o 20 (.move (.t 1)),
 ⟨some 21, .indexAddr 9 (.t 19) (.t 20), none, [2, 3]⟩,
 ⟨some 22, .load (some 9) (.t 21), none, [2, 3, 4]⟩,
 ⟨some 23, .call false 97 [.t 22], none, [0, 1, 2, 3, 4, 5]⟩,
 ⟨some 24, .buildSlice zz2 1 [(0, .t 23)], none, [0, 1, 2, 3, 4, 5, 6]⟩,
 ⟨some 25, .append 88 9 (.t 18) (.t 24), none, [0, 1, 2, 3, 4, 5, 6, 7]⟩,
 ⟨some 4, .move (.t 25), none, [0, 1, 2, 3, 4, 5, 6, 7, 8]⟩,
 ⟨some 5, .move (.i 0), none, [0, 1, 2, 3, 4, 5, 6, 7, 8, 9]⟩] [0, 1, 16, 17, 18, 19, 20, 21, 22, 23, 24, 25])
 .ret))))⟩

def a71 : AFunc := ⟨20, 1, [.cell 2 10],
  (.seq (.regionK false [
 (.o 1 (.box (.t 0)), [0]),
 (.o 2 (.alloc zz1), [])])
 (.seq (.regionK true [
 (.o 3 (.fieldAddr 4 (.t 1)), []),
 (⟨some 4, .load none (.t 3), none, [0]⟩, [3]),
 (⟨some 5, .call false 77 [.t 4], none, [0, 1]⟩, [4]),
 (.o 6 (.fieldAddr 7 (.t 1)), []),
 (⟨some 7, .load none (.t 6), none, [3]⟩, [6]),
 (⟨some 8, .call false 104 [.t 7], none, [0, 1, 2, 3, 4]⟩, [7]),
 (.o 9 (.fieldAddr 8 (.t 1)), []),
 (⟨some 10, .load none (.t 9), none, [6]⟩, [9]),
 (⟨some 11, .call false 104 [.t 10], none, [0, 1, 2, 3, 4, 5, 6, 7]⟩, [10]),
 (.o 12 (.fieldAddr 9 (.t 1)), []),
 (⟨some 13, .load none (.t 12), none, [9]⟩, [12]),
 (⟨some 14, .call false 104 [.t 13], none, [0, 1, 2, 3, 4, 5, 6, 7, 8, 9, 10]⟩, [13]),
 (⟨some 15, .fieldAddr 4 (.t 1), none, [0, 1, 2, 3, 4, 6, 7, 9, 10]⟩, []),
 (⟨none, .store 1 (.t 15) (.t 5), none, [0, 1, 2, 3, 4, 5, 6, 7, 8, 9, 10, 11, 12]⟩, [5, 15]),
 (⟨some 16, .fieldAddr 7 (.t 1), none, [0, 1, 2, 3, 4, 5, 6, 7, 8, 9, 10, 11, 12, 13]⟩, []),
 (⟨none, .store 1 (.t 16) (.t 8), none, [0, 1, 2, 3, 4, 5, 6, 7, 8, 9, 10, 11, 12, 13, 14]⟩, [8, 16]),
 (⟨some 17, .fieldAddr 8 (.t 1), none, [0, 1, 2, 3, 4, 5, 6, 7, 8, 9, 10, 11, 12, 13, 14, 15]⟩, []),
 (⟨none, .store 1 (.t 17) (.t 11), none, [0, 1, 2, 3, 4, 5, 6, 7, 8, 9, 10, 11, 12, 13, 14, 15, 16]⟩, [11, 17]),
 (⟨some 18, .fieldAddr 9 (.t 1), none, [0, 1, 2, 3, 4, 5, 6, 7, 8, 9, 10, 11, 12, 13, 14, 15, 16, 17]⟩, []),
 (⟨none, .store 1 (.t 18) (.t 14), none, [0, 1, 2, 3, 4, 5, 6, 7, 8, 9, 10, 11, 12, 13, 14, 15, 16, 17, 18]⟩, [14, 18])])
 (.seq (.regionK false [
 (.o 19 (.load (some 10) (.t 1)), []),
 (.u (.store 10 (.t 2) (.t 19)), [19])])
 .ret)))⟩

def a72 : AFunc := ⟨19, 2, [.tmp 4],
  (.seq (.regionK false [
 (.o 4 (.move (.c (.p (.slice true [])))), [4])])
 (.seq (.regionK false [
 (.o 6 (.move (.t 0)), [0]),
 (.o 7 (.move (.t 1)), []),
 (.o 8 (.len (.t 7)), [7]),
 (.o 9 (.call true 103 [.t 6, .t 8]), [6, 8]),
 (.o 5 (.move (.t 9)), [9])])
 (.seq (.regionK false [
 (.o 10 (.move (.t 5)), []),
 (.o 11 (.move (.t 1)), [1]),
 (.o 12 (.call true 103 [.t 11, .i 0]), [11]),
 (.o 13 (.append 88 9 (.t 10) (.t 12)), [10, 12]),
 (.o 5 (.move (.t 13)), [13])])
 (.seq (.regionK false [
 (.o 14 (.move (.t 5)), []),
 (.o 15 (.move (.t 5)), [5]),
 (.o 16 (.len (.t 15)), [15]),
 (.o 17 (.minmax false (.t 16) [.i 256]), [16]),
 (.o 18 (.slice 9 (.t 14) none (some (.t 17)) none), [14, 17]),
 (.o 4 (.move (.t 18)), [18])])
 .ret))))⟩

def a73 : AFunc := ⟨20, 1, [.cell 2 10],
  (.seq (.region false [
 .o 1 (.box (.t 0)),
 .o 2 (.alloc zz1)] [0])
 (.seq (.region false [
 .o 3 (.fieldAddr 4 (.t 1)),
 .o 4 (.load none (.t 3)),
 .o 5 (.call true 77 [.t 4]),
 .o 6 (.fieldAddr 4 (.t 1)),
 .u (.store 1 (.t 6) (.t 5))] [3, 4, 5, 6])
 (.seq (.region false [
 .o 7 (.fieldAddr 7 (.t 1)),
 .o 8 (.load none (.t 7)),
 .o 9 (.call true 104 [.t 8]),
 .o 10 (.fieldAddr 7 (.t 1)),
 .u (.store 1 (.t 10) (.t 9))] [7, 8, 9, 10])
 (.seq (.region false [
 .o 11 (.fieldAddr 8 (.t 1)),
 .o 12 (.load none (.t 11)),
 .o 13 (.call true 104 [.t 12]),
 .o 14 (.fieldAddr 8 (.t 1)),
 .u (.store 1 (.t 14) (.t 13))] [11, 12, 13, 14])
 (.seq (.region false [
 .o 15 (.fieldAddr 9 (.t 1)),
 .o 16 (.load none (.t 15)),
 .o 17 (.call true 104 [.t 16]),
 .o 18 (.fieldAddr 9 (.t 1)),
 .u (.store 1 (.t 18) (.t 17))] [15, 16, 17, 18])
 (.seq (.region false [
 .o 19 (.load (some 10) (.t 1)),
 .u (.store 10 (.t 2) (.t 19))] [19])
 .ret))))))⟩

@[irreducible] def a74_l0 : ACode :=
  (.seq (.region false [
 .o 51 (.bin .lss (.t 50) (.t 49))] [])
 (.seq (.cond (.t 51)
 .skip
 (.ghost (.forget [49, 50, 51]) (.exit 0)))
 (.seq (.block 1
 (.seq (.region false [
 .o 52 (.move (.t 50)),
 .o 2 (.move (.t 52))] [51, 52])
 (.region true [
 .o 53 (.move (.t 0)),
 ⟨some 54, .nilCheck (.t 53), none, [0]⟩,
 ⟨some 55, .fieldAddr 0 (.t 54), none, [0, 1]⟩,
 ⟨some 56, .fieldAddr 8 (.t 55), none, [0, 1, 2]⟩,
 ⟨some 57, .load none (.t 56), none, [0, 1, 2, 3]⟩,
 .o 58 (.move (.t 2)),
 .o 59 (.move (.t 0)),
 ⟨some 60, .nilCheck (.t 59), none, [6]⟩,
 ⟨some 61, .fieldAddr 0 (.t 60), none, [6, 7]⟩,
 ⟨some 62, .fieldAddr 4 (.t 61), none, [6, 7, 8]⟩,
 ⟨some 63, .load none (.t 62), none, [6, 7, 8, 9]⟩,
 ⟨some 64, .len (.t 63), none, [6, 7, 8, 9, 10]⟩,
 ⟨some 65, .indexAddr 1 (.t 57) (.t 58), none, [0, 1, 2, 3, 4, 5, 6, 7, 8, 9, 10, 11]⟩,
 ⟨none, .store 1 (.t 65) (.t 64), none, [0, 1, 2, 3, 4, 5, 6, 7, 8, 9, 10, 11, 12]⟩] [2, 53, 54, 55, 56, 57, 58, 59, 60, 61, 62, 63, 64, 65])))
 (.region false [
 .o 66 (.bin .add (.t 50) (.i 1)),
 .o 50 (.move (.t 66))] [66]))))

def a74 : AFunc := ⟨85, 1, [],
  (.seq (.seq (.region true [
 .o 3 (.move (.t 0)),
 ⟨some 4, .nilCheck (.t 3), none, [0]⟩,
 ⟨some 5, .fieldAddr 0 (.t 4), none, [0, 1]⟩,
 ⟨some 6, .fieldAddr 7 (.t 5), none, [0, 1, 2]⟩,
 ⟨some 7, .load none (.t 6), none, [0, 1, 2, 3]⟩,
 ⟨some 8, .len (.t 7), none, [0, 1, 2, 3, 4]⟩,
 .o 9 (.move (.t 0)),
 ⟨some 10, .nilCheck (.t 9), none, [6]⟩,
 ⟨some 11, .fieldAddr 0 (.t 10), none, [6, 7]⟩,
 ⟨some 12, .fieldAddr 1 (.t 11), none, [6, 7, 8]⟩,
 ⟨some 13, .load none (.t 12), none, [6, 7, 8, 9]⟩,
 ⟨some 14, .call false 95 [.t 13], none, [6, 7, 8, 9, 10]⟩,
 ⟨some 15, .bin .lss (.t 8) (.t 14), none, [0, 1, 2, 3, 4, 5, 6, 7, 8, 9, 10, 11]⟩] [3, 4, 5, 6, 7, 8, 9, 10, 11, 12, 13, 14])
 (.cond (.t 15)
 .ret
 .skip))
 (.seq (.region false [
 .o 16 (.move (.t 0)),
 .o 17 (.nilCheck (.t 16)),
 .o 18 (.fieldAddr 0 (.t 17)),
 .o 19 (.fieldAddr 5 (.t 18)),
 .u (.store 1 (.t 19) (.i 3))] [15, 16, 17, 18, 19])
 (.seq (.region false [
 .o 20 (.move (.t 0)),
 .o 21 (.nilCheck (.t 20)),
 .o 22 (.fieldAddr 0 (.t 21)),
 .o 23 (.fieldAddr 7 (.t 22)),
 .u (.store 1 (.t 23) (.c (.p (.slice true []))))] [20, 21, 22, 23])
 (.seq (.region false [
 .o 24 (.move (.t 0)),
 .o 25 (.move (.t 0)),
 .o 26 (.nilCheck (.t 25)),
 .o 27 (.fieldAddr 0 (.t 26)),
 .o 28 (.fieldAddr 1 (.t 27)),
 .o 29 (.load none (.t 28)),
 .o 30 (.makeSlice [.int .i64 0] 8 (.t 29) (.t 29)),
 .o 31 (.nilCheck (.t 24)),
 .o 32 (.fieldAddr 0 (.t 31)),
 .o 33 (.fieldAddr 8 (.t 32)),
 .u (.store 1 (.t 33) (.t 30))] [24, 25, 26, 27, 28, 29, 30, 31, 32, 33])
 (.seq (.region false [
 .o 34 (.move (.t 0)),
 .o 35 (.move (.t 0)),
 .o 36 (.nilCheck (.t 35)),
 .o 37 (.fieldAddr 0 (.t 36)),
 .o 38 (.fieldAddr 1 (.t 37)),
 .o 39 (.load none (.t 38)),
 .o 40 (.makeSlice [.int .i64 0] 8 (.t 39) (.t 39)),
 .o 41 (.nilCheck (.t 34)),
 .o 42 (.fieldAddr 0 (.t 41)),
 .o 43 (.fieldAddr 9 (.t 42)),
 .u (.store 1 (.t 43) (.t 40))] [34, 35, 36, 37, 38, 39, 40, 41, 42, 43])
 (.seq (.seq (.region false [
 .o 44 (.move (.t 0)),
 .o 45 (.nilCheck (.t 44)),
 .o 46 (.fieldAddr 0 (.t 45)),
 .o 47 (.fieldAddr 8 (.t 46)),
 .o 48 (.load none (.t 47)),
 .o 49 (.len (.t 48)),
 .o 50 (.move (.i 0))] [44, 45, 46, 47, 48])
 (.block 0
 (.loop
 a74_l0)))
 (.region true [
 .o 67 (.move (.t 0)),
 ⟨some 68, .nilCheck (.t 67), none, [0]⟩,
 ⟨some 69, .fieldAddr 0 (.t 68), none, [0, 1]⟩,
 ⟨some 70, .fieldAddr 9 (.t 69), none, [0, 1, 2]⟩,
 ⟨some 71, .load none (.t 70), none, [0, 1, 2, 3]⟩,
 .o 72 (.move (.t 0)),
 ⟨some 73, .nilCheck (.t 72), none, [5]⟩,
 ⟨some 74, .fieldAddr 0 (.t 73), none, [5, 6]⟩,
 ⟨some 75, .fieldAddr 0 (.t 74), none, [5, 6, 7]⟩,
 ⟨some 76, .load none (.t 75), none, [5, 6, 7, 8]⟩,
 ⟨some 77, .bin .sub (.t 76) (.i 1), none, [5, 6, 7, 8, 9]⟩,
 .o 78 (.move (.t 0)),
 ⟨some 79, .nilCheck (.t 78), none, [11]⟩,
 ⟨some 80, .fieldAddr 0 (.t 79), none, [11, 12]⟩,
 ⟨some 81, .fieldAddr 4 (.t 80), none, [11, 12, 13]⟩,
 ⟨some 82, .load none (.t 81), none, [11, 12, 13, 14]⟩,
 ⟨some 83, .len (.t 82), none, [11, 12, 13, 14, 15]⟩,
 ⟨some 84, .indexAddr 1 (.t 71) (.t 77), none, [0, 1, 2, 3, 4, 5, 6, 7, 8, 9, 10, 11, 12, 13, 14, 15, 16]⟩,
 ⟨none, .store 1 (.t 84) (.t 83), none, [0, 1, 2, 3, 4, 5, 6, 7, 8, 9, 10, 11, 12, 13, 14, 15, 16, 17]⟩] [0, 67, 68, 69, 70, 71, 72, 73, 74, 75, 76, 77, 78, 79, 80, 81, 82, 83, 84])))))))⟩

def a75 : AFunc := ⟨13, 1, [.tmp 2],
  (.seq (.region false [
 .o 2 (.move (.i 0))] [2])
 (.seq (.seq (.region false [
 .o 3 (.move (.t 0)),
 .o 4 (.len (.t 3)),
 .o 5 (.bin .eql (.t 4) (.i 0))] [3, 4])
 (.cond (.t 5)
 (.seq (.region false [
 .o 2 (.move (.i 0))] [0, 5])
 .ret)
 .skip))
 (.seq (.region false [
 .o 6 (.move (.t 0)),
 .o 7 (.move (.t 0)),
 .o 8 (.len (.t 7)),
 .o 9 (.bin .sub (.t 8) (.i 1)),
 .o 10 (.indexAddr 2 (.t 6) (.t 9)),
 .o 11 (.fieldAddr 0 (.t 10)),
 .o 12 (.load none (.t 11)),
 .o 2 (.move (.t 12))] [0, 5, 6, 7, 8, 9, 10, 11, 12])
 .ret)))⟩

def a76 : AFunc := ⟨14, 2, [.tmp 4],
  (.seq (.region false [
 .o 2 (.box (.t 0)),
 .o 4 (.move (.i 0))] [0, 4])
 (.seq (.seq (.region false [
 .o 5 (.move (.t 1)),
 .o 6 (.bin .eql (.t 5) (.i 0))] [5])
 (.cond (.t 6)
 (.seq (.region false [
 .o 4 (.move (.i 0))] [1, 6])
 .ret)
 .skip))
 (.seq (.region false [
 .o 7 (.fieldAddr 4 (.t 2)),
 .o 8 (.load none (.t 7)),
 .o 9 (.move (.t 1)),
 .o 10 (.bin .sub (.t 9) (.i 1)),
 .o 11 (.indexAddr 2 (.t 8) (.t 10)),
 .o 12 (.fieldAddr 0 (.t 11)),
 .o 13 (.load none (.t 12)),
 .o 4 (.move (.t 13))] [1, 6, 7, 8, 9, 10, 11, 12, 13])
 .ret)))⟩

def a78 : AFunc := ⟨20, 1, [.cell 2 10],
  (.seq (.region false [
 .o 1 (.box (.t 0)),
 .o 2 (.alloc zz1)] [0])
 (.seq (.region false [
 .o 3 (.fieldAddr 4 (.t 1)),
 .o 4 (.load none (.t 3)),
 .o 5 (.call true 77 [.t 4]),
 .o 6 (.fieldAddr 4 (.t 1)),
 .u (.store 1 (.t 6) (.t 5))] [3, 4, 5, 6])
 (.seq (.region false [
 .o 7 (.fieldAddr 7 (.t 1)),
 .o 8 (.load none (.t 7)),
 .o 9 (.call true 104 [.t 8]),
 .o 10 (.fieldAddr 7 (.t 1)),
 .u (.store 1 (.t 10) (.t 9))] [7, 8, 9, 10])
 (.seq (.region false [
 .o 11 (.fieldAddr 8 (.t 1)),
 .o 12 (.load none (.t 11)),
 .o 13 (.call true 104 [.t 12]),
 .o 14 (.fieldAddr 8 (.t 1)),
 .u (.store 1 (.t 14) (.t 13))] [11, 12, 13, 14])
 (.seq (.region false [
 .o 15 (.fieldAddr 9 (.t 1)),
 .o 16 (.load none (.t 15)),
 .o 17 (.call true 104 [.t 16]),
 .o 18 (.fieldAddr 9 (.t 1)),
 .u (.store 1 (.t 18) (.t 17))] [15, 16, 17, 18])
 (.seq (.region false [
 .o 19 (.load (some 10) (.t 1)),
 .u (.store 10 (.t 2) (.t 19))] [19])
 .ret))))))⟩

@[irreducible] def a79_l0 : ACode :=
  (.seq (.seq (.region false [
 .o 7 (.move (.t 3)),
 .o 8 (.fieldAddr 6 (.t 1)),
 .o 9 (.load none (.t 8)),
 .o 10 (.bin .gtr (.t 7) (.t 9))] [7, 8, 9])
 (.cond (.t 10)
 .skip
 (.ghost (.forget [3, 10]) (.ghost .lower (.exit 0)))))
 (.seq (.block 1
 (.seq (.region true [
 .o 13 (.fieldAddr 4 (.t 1)),
 ⟨some 14, .load none (.t 13), none, [0]⟩,
 .o 15 (.move (.t 3)),
 ⟨some 16, .bin .sub (.t 15) (.i 1), none, [2]⟩,
 ⟨some 17, .indexAddr 2 (.t 14) (.t 16), none, [0, 1, 2, 3]⟩,
 ⟨some 18, .fieldAddr 0 (.t 17), none, [0, 1, 2, 3, 4]⟩,
 ⟨some 19, .load none (.t 18), none, [0, 1, 2, 3, 4, 5]⟩,
 .o 20 (.fieldAddr 2 (.t 1)),
 ⟨some 21, .load none (.t 20), none, [7]⟩,
 ⟨some 22, .bin .eql (.t 19) (.t 21), none, [0, 1, 2, 3, 4, 5, 6, 7, 8]⟩,
 ⟨some 23, .move (.t 22), none, [0, 1, 2, 3, 4, 5, 6, 7, 8, 9]⟩,
 .g 24 23 true (.load (some 10) (.t 1)) [0, 1, 2, 3, 4, 5, 6, 7, 8, 9, 10],
 .g 25 23 true (.move (.t 3)) [0, 1, 2, 3, 4, 5, 6, 7, 8, 9, 10],
 .g 26 23 true (.call false 105 [.t 24, .t 25]) [0, 1, 2, 3, 4, 5, 6, 7, 8, 9, 10, 11, 12],
 .g 27 23 true (.fieldAddr 1 (.t 1)) [0, 1, 2, 3, 4, 5, 6, 7, 8, 9, 10],
 .g 28 23 true (.load none (.t 27)) [0, 1, 2, 3, 4, 5, 6, 7, 8, 9, 10, 14],
 .g 29 23 true (.call false 95 [.t 28]) [0, 1, 2, 3, 4, 5, 6, 7, 8, 9, 10, 11, 12, 13, 14, 15],
 .g 30 23 true (.bin .geq (.t 26) (.t 29)) [0, 1, 2, 3, 4, 5, 6, 7, 8, 9, 10, 11, 12, 13, 14, 15, 16],
 ⟨some 31, .pick (.t 23) (.t 30) (.b false), none, [0, 1, 2, 3, 4, 5, 6, 7, 8, 9, 10, 11, 12, 13, 14, 15, 16, 17]⟩] [10, 13, 14, 15, 16, 17, 18, 19, 20, 21, 22, 23, 24, 25, 26, 27, 28, 29, 30])
 (.cond (.t 31)
 (.seq (.region false [
 .o 32 (.move (.t 3)),
 .o 2 (.move (.t 32))] [3, 31, 32])
 .ret)
 .skip)))
 (.region false [
 .o 11 (.move (.t 3)),
 .o 12 (.bin .sub (.t 11) (.i 1)),
 .o 3 (.move (.t 12))] [11, 12, 31])))

def a79 : AFunc := ⟨35, 1, [.tmp 2],
  (.seq (.region false [
 .o 1 (.box (.t 0)),
 .o 2 (.move (.i 0))] [0, 2])
 (.seq (.seq (.region false [
 .o 4 (.fieldAddr 4 (.t 1)),
 .o 5 (.load none (.t 4)),
 .o 6 (.len (.t 5)),
 .o 3 (.move (.t 6))] [4, 5, 6])
 (.block 0
 (.loop
 (.ghost .lower a79_l0))))
 (.seq (.region false [
 .o 33 (.fieldAddr 6 (.t 1)),
 .o 34 (.load none (.t 33)),
 .o 2 (.move (.t 34))] [33, 34])
 .ret)))⟩

def a80 : AFunc := ⟨18, 2, [.tmp 4, .tmp 5],
  (.seq (.regionK false [
 (.o 4 (.move (.c (.p (.slice true [])))), [4]),
 (.o 5 (.move (.i 0)), [5])])
 (.seq (.regionK false [
 (.o 10 (.move (.t 0)), [0]),
 (.o 11 (.move (.t 1)), [1]),
 (.o 12 (.call false 82 [.t 10, .t 11]), [10, 11]),
 (.o 9 (.move (.t 12)), [12]),
 (.o 13 (.extract (.t 9) 0), []),
 (.o 14 (.extract (.t 9) 1), []),
 (.o 15 (.extract (.t 9) 2), [9]),
 (.o 6 (.alloc zz2), []),
 (.u (.store 9 (.t 6) (.t 13)), [13]),
 (.o 7 (.move (.t 14)), [14]),
 (.o 8 (.move (.t 15)), [15])])
 (.seq (.regionK false [
 (.o 16 (.move (.t 7)), [7]),
 (.o 17 (.move (.t 8)), [8]),
 (.o 4 (.move (.t 16)), [16]),
 (.o 5 (.move (.t 17)), [17])])
 .ret)))⟩

def a81 : AFunc := ⟨24, 2, [.tmp 4, .tmp 5],
  (.seq (.regionK false [
 (.o 4 (.move (.c (.p (.slice true [])))), [4]),
 (.o 5 (.move (.i 0)), [5])])
 (.seq (.seq (.regionK false [
 (.o 6 (.move (.t 1)), []),
 (.o 7 (.bin .lss (.t 6) (.i 0)), [6]),
 (.o 8 (.move (.t 7)), [7]),
 (.g 9 8 false (.move (.t 1)) [], []),
 (.g 10 8 false (.move (.t 0)) [], []),
 (.g 11 8 false (.len (.t 10)) [], [10]),
 (.g 12 8 false (.bin .geq (.t 9) (.t 11)) [], [9, 11]),
 (.o 13 (.pick (.t 8) (.b true) (.t 12)), [8, 12])])
 (.cond (.t 13)
 (.seq (.regionK false [
 (.o 4 (.move (.c (.p (.slice true [])))), [0, 1, 13]),
 (.o 5 (.move (.i 9)), [])])
 .ret)
 .skip))
 (.seq (.seq (.regionK false [
 (.o 14 (.move (.t 0)), [13]),
 (.o 15 (.len (.t 14)), [14]),
 (.o 16 (.bin .geq (.t 15) (.i 256)), [15])])
 (.cond (.t 16)
 (.seq (.regionK false [
 (.o 4 (.move (.c (.p (.slice true [])))), [0, 1, 16]),
 (.o 5 (.move (.i 17)), [])])
 .ret)
 .skip))
 (.seq (.regionK false [
 (.o 17 (.move (.t 0)), [16]),
 (.o 18 (.move (.t 0)), [0]),
 (.o 19 (.move (.t 1)), [1]),
 (.o 20 (.indexAddr 9 (.t 18) (.t 19)), [18, 19]),
 (.o 21 (.load (some 9) (.t 20)), [20]),
 (.o 22 (.buildSlice zz2 1 [(0, .t 21)]), [21]),
 (.o 23 (.call false 87 [.t 17, .t 22]), [17, 22]),
 (.o 4 (.move (.t 23)), [23]),
 (.o 5 (.move (.i 0)), [])])
 .ret))))⟩

def a82 : AFunc := ⟨23, 2, [.cell 4 9, .tmp 5, .tmp 6],
  (.seq (.regionK false [
 (.o 4 (.alloc zz2), []),
 (.o 5 (.move (.c (.p (.slice true [])))), [5]),
 (.o 6 (.move (.i 0)), [6])])
 (.seq (.seq (.regionK false [
 (.o 7 (.move (.t 1)), []),
 (.o 8 (.bin .lss (.t 7) (.i 0)), [7]),
 (.o 9 (.move (.t 8)), [8]),
 (.g 10 9 false (.move (.t 1)) [], []),
 (.g 11 9 false (.move (.t 0)) [], []),
 (.g 12 9 false (.len (.t 11)) [], [11]),
 (.g 13 9 false (.bin .geq (.t 10) (.t 12)) [], [10, 12]),
 (.o 14 (.pick (.t 9) (.b true) (.t 13)), [9, 13])])
 (.cond (.t 14)
 (.seq (.regionK false [
 (.o 15 (.build zz2 []), [0, 1, 14]),
 (.u (.store 9 (.t 4) (.t 15)), [15]),
 (.o 5 (.move (.c (.p (.slice true [])))), []),
 (.o 6 (.move (.i 9)), [])])
 .ret)
 .skip))
 (.seq (.regionK true [
 (.o 16 (.move (.t 0)), [14]),
 (.o 17 (.move (.t 1)), []),
 (⟨some 18, .indexAddr 9 (.t 16) (.t 17), none, [0, 1]⟩, [16, 17]),
 (⟨some 19, .load (some 9) (.t 18), none, [0, 1, 2]⟩, [18]),
 (.o 20 (.move (.t 0)), [0]),
 (.o 21 (.move (.t 1)), [1]),
 (⟨some 22, .call false 106 [.t 20, .t 21], none, [4, 5]⟩, [20, 21]),
 (⟨none, .store 9 (.t 4) (.t 19), none, [0, 1, 2, 3, 4, 5, 6]⟩, [19]),
 (⟨some 5, .move (.t 22), none, [0, 1, 2, 3, 4, 5, 6, 7]⟩, [22]),
 (⟨some 6, .move (.i 0), none, [0, 1, 2, 3, 4, 5, 6, 7, 8]⟩, [])])
 .ret)))⟩

def a83 : AFunc := ⟨35, 2, [.cell 4 10, .tmp 5],
  (.seq (.region false [
 .o 2 (.box (.t 0)),
 .o 3 (.box (.t 1)),
 .o 4 (.alloc zz1),
 .o 5 (.move (.c (.p (.slice true []))))] [0, 1, 5])
 (.seq (.seq (.region false [
 .o 6 (.fieldAddr 0 (.t 3)),
 .o 7 (.load none (.t 6))] [6])
 (.block 0
 (.seq (.region false [
 .o 9 (.bin .eql (.t 7) (.i 1)),
 .o 8 (.move (.t 9))] [9])
 (.cond (.t 8)
 (.seq (.region false [
 .o 10 (.load (some 10) (.t 2)),
 .o 11 (.load (some 9) (.t 3)),
 .o 12 (.call false 107 [.t 10, .t 11]),
 .o 13 (.extract (.t 12) 0),
 .o 14 (.extract (.t 12) 1),
 .u (.store 10 (.t 4) (.t 13)),
 .o 5 (.move (.t 14))] [7, 8, 10, 11, 12, 13, 14])
 .ret)
 (.seq (.region false [
 .o 16 (.bin .eql (.t 7) (.i 2)),
 .o 15 (.move (.t 16))] [8, 16])
 (.cond (.t 15)
 (.seq (.region false [
 .o 17 (.load (some 10) (.t 2)),
 .o 18 (.load (some 9) (.t 3)),
 .o 19 (.call false 108 [.t 17, .t 18]),
 .o 20 (.extract (.t 19) 0),
 .o 21 (.extract (.t 19) 1),
 .u (.store 10 (.t 4) (.t 20)),
 .o 5 (.move (.t 21))] [7, 15, 17, 18, 19, 20, 21])
 .ret)
 (.seq (.region false [
 .o 23 (.bin .eql (.t 7) (.i 3)),
 .o 22 (.move (.t 23))] [15, 23])
 (.cond (.t 22)
 (.seq (.region false [
 .o 24 (.load (some 10) (.t 2)),
 .o 25 (.load (some 9) (.t 3)),
 .o 26 (.call false 109 [.t 24, .t 25]),
 .o 27 (.extract (.t 26) 0),
 .o 28 (.extract (.t 26) 1),
 .u (.store 10 (.t 4) (.t 27)),
 .o 5 (.move (.t 28))] [7, 22, 24, 25, 26, 27, 28])
 .ret)
 (.seq (.region false [
 .o 30 (.bin .eql (.t 7) (.i 4)),
 .o 29 (.move (.t 30))] [7, 22, 30])
 (.cond (.t 29)
 (.seq (.region false [
 .o 31 (.load (some 10) (.t 2)),
 .o 32 (.load (some 9) (.t 3)),
 .o 33 (.call false 110 [.t 31, .t 32]),
 .u (.store 10 (.t 4) (.t 33)),
 .o 5 (.move (.c (.p (.slice true []))))] [29, 31, 32, 33])
 .ret)
 .skip))))))))))
 (.seq (.region false [
 .o 34 (.load (some 10) (.t 2)),
 .u (.store 10 (.t 4) (.t 34)),
 .o 5 (.move (.c (.p (.slice true []))))] [29, 34])
 .ret)))⟩

def a84 : AFunc := ⟨15, 2, [.cell 4 10],
  (.seq (.region false [
 .o 2 (.box (.t 0)),
 .o 4 (.alloc zz1)] [0])
 (.seq (.region false [
 .o 5 (.fieldAddr 0 (.t 2)),
 .o 6 (.load none (.t 5)),
 .o 7 (.fieldAddr 1 (.t 2)),
 .o 8 (.load none (.t 7)),
 .o 9 (.move (.t 1)),
 .o 10 (.fieldAddr 4 (.t 2)),
 .o 11 (.load none (.t 10)),
 .o 12 (.fieldAddr 6 (.t 2)),
 .o 13 (.load none (.t 12)),
 .o 14 (.build zz1 [(0, 1, .t 6), (1, 1, .t 8), (2, 1, .t 9), (4, 1, .t 11), (5, 1, .i 1), (6, 1, .t 13)]),
 .u (.store 10 (.t 4) (.t 14))] [1, 5, 6, 7, 8, 9, 10, 11, 12, 13, 14])
 .ret))⟩

def a85 : AFunc := ⟨13, 1, [.tmp 2],
  (.seq (.region false [
 .o 2 (.move (.i 0))] [2])
 (.seq (.seq (.region false [
 .o 3 (.move (.t 0)),
 .o 4 (.len (.t 3)),
 .o 5 (.bin .eql (.t 4) (.i 0))] [3, 4])
 (.cond (.t 5)
 (.seq (.region false [
 .o 2 (.move (.i 0))] [0, 5])
 .ret)
 .skip))
 (.seq (.region false [
 .o 6 (.move (.t 0)),
 .o 7 (.move (.t 0)),
 .o 8 (.len (.t 7)),
 .o 9 (.bin .sub (.t 8) (.i 1)),
 .o 10 (.indexAddr 2 (.t 6) (.t 9)),
 .o 11 (.fieldAddr 0 (.t 10)),
 .o 12 (.load none (.t 11)),
 .o 2 (.move (.t 12))] [0, 5, 6, 7, 8, 9, 10, 11, 12])
 .ret)))⟩

def a86 : AFunc := ⟨13, 1, [.cell 2 10],
  (.seq (.region false [
 .o 1 (.box (.t 0)),
 .o 2 (.alloc zz1)] [0])
 (.seq (.seq (.region true [
 .o 3 (.fieldAddr 7 (.t 1)),
 ⟨some 4, .load none (.t 3), none, [0]⟩,
 ⟨some 5, .len (.t 4), none, [0, 1]⟩,
 .o 6 (.fieldAddr 1 (.t 1)),
 ⟨some 7, .load none (.t 6), none, [3]⟩,
 ⟨some 8, .call false 96 [.t 7], none, [3, 4]⟩,
 ⟨some 9, .bin .geq (.t 5) (.t 8), none, [0, 1, 2, 3, 4, 5]⟩] [3, 4, 5, 6, 7, 8])
 (.cond (.t 9)
 (.seq (.region false [
 .o 10 (.load (some 10) (.t 1)),
 .o 11 (.call false 111 [.t 10]),
 .u (.store 10 (.t 2) (.t 11))] [9, 10, 11])
 .ret)
 .skip))
 (.seq (.region false [
 .o 12 (.load (some 10) (.t 1)),
 .u (.store 10 (.t 2) (.t 12))] [9, 12])
 .ret)))⟩

@[irreducible] def a87_l0 : ACode :=
  (.seq (.seq (.regionK false [
 (.o 7 (.move (.t 6)), []),
 (.o 8 (.move (.t 0)), []),
 (.o 9 (.len (.t 8)), [8]),
 (.o 10 (.move (.t 1)), []),
 (.o 11 (.len (.t 10)), [10]),
 (.o 12 (.bin .add (.t 9) (.t 11)), [9, 11]),
 (.o 13 (.bin .lss (.t 7) (.t 12)), [7, 12]),
 (.o 14 (.move (.t 13)), [13]),
 (.g 15 14 true (.move (.t 6)) [], []),
 (.g 16 14 true (.bin .lss (.t 15) (.i 256)) [], [15]),
 (.o 17 (.pick (.t 14) (.t 16) (.b false)), [14, 16])])
 (.cond (.t 17)
 .skip
 (.ghost (.forget [0, 1, 6, 17]) (.ghost .lower (.exit 0)))))
 (.seq (.block 1
 (.seq (.regionK false [
 (.o 20 (.move (.t 6)), [17]),
 (.o 21 (.move (.t 0)), []),
 (.o 22 (.len (.t 21)), [21]),
 (.o 23 (.bin .lss (.t 20) (.t 22)), [20, 22])])
 (.cond (.t 23)
 (.regionK false [
 (.o 24 (.move (.t 5)), [23]),
 (.o 25 (.move (.t 0)), []),
 (.o 26 (.move (.t 6)), []),
 (.o 27 (.indexAddr 9 (.t 25) (.t 26)), [25, 26]),
 (.o 28 (.load (some 9) (.t 27)), [27]),
 (.o 29 (.buildSlice zz2 1 [(0, .t 28)]), [28]),
 (.o 30 (.append 88 9 (.t 24) (.t 29)), [24, 29]),
 (.o 5 (.move (.t 30)), [30])])
 (.regionK false [
 (.o 31 (.move (.t 5)), [23]),
 (.o 32 (.move (.t 1)), []),
 (.o 33 (.move (.t 6)), []),
 (.o 34 (.move (.t 0)), []),
 (.o 35 (.len (.t 34)), [34]),
 (.o 36 (.bin .sub (.t 33) (.t 35)), [33, 35]),
 (.o 37 (.indexAddr 9 (.t 32) (.t 36)), [32, 36]),
 (.o 38 (.load (some 9) (.t 37)), [37]),
 (.o 39 (.buildSlice zz2 1 [(0, .t 38)]), [38]),
 (.o 40 (.append 88 9 (.t 31) (.t 39)), [31, 39]),
 (.o 5 (.move (.t 40)), [40])]))))
 (.regionK false [
 (.o 18 (.move (.t 6)), []),
 (.o 19 (.bin .add (.t 18) (.i 1)), [18]),
 (.o 6 (.move (.t 19)), [19])])))

def a87 : AFunc := ⟨42, 2, [.tmp 4],
  (.seq (.regionK false [
 (.o 4 (.move (.c (.p (.slice true [])))), [4])])
 (.seq (.regionK false [
 (.o 5 (.move (.c (.p (.slice true [])))), [])])
 (.ghost (.own 9 5) (.seq (.seq (.regionK false [
 (.o 6 (.move (.i 0)), [])])
 (.block 0
 (.loop
 (.ghost .lower a87_l0))))
 (.seq (.regionK false [
 (.o 41 (.move (.t 5)), [5]),
 (.o 4 (.move (.t 41)), [41])])
 .ret)))))⟩

def a88 : AFunc := ⟨13, 2, [.tmp 4],
  (.seq (.region false [
 .o 4 (.move (.i 0))] [4])
 (.seq (.seq (.region false [
 .o 5 (.move (.t 1)),
 .o 6 (.bin .eql (.t 5) (.i 0))] [5])
 (.cond (.t 6)
 (.seq (.region false [
 .o 4 (.move (.i 0))] [0, 1, 6])
 .ret)
 .skip))
 (.seq (.region false [
 .o 7 (.move (.t 0)),
 .o 8 (.move (.t 1)),
 .o 9 (.bin .sub (.t 8) (.i 1)),
 .o 10 (.indexAddr 2 (.t 7) (.t 9)),
 .o 11 (.fieldAddr 0 (.t 10)),
 .o 12 (.load none (.t 11)),
 .o 4 (.move (.t 12))] [0, 1, 6, 7, 8, 9, 10, 11, 12])
 .ret)))⟩

def a89 : AFunc := ⟨16, 3, [.tmp 6],
  (.seq (.region false [
 .o 6 (.move (.c (.p (.slice true []))))] [6])
 (.seq (.region false [
 .o 7 (.move (.c (.p (.slice true []))))] [])
 (.seq (.region false [
 .o 8 (.move (.t 7)),
 .o 9 (.move (.t 0)),
 .o 10 (.move (.t 1)),
 .o 11 (.slice 2 (.t 9) none (some (.t 10)) none),
 .o 12 (.append 24 2 (.t 8) (.t 11)),
 .o 7 (.move (.t 12))] [0, 1, 8, 9, 10, 11, 12])
 (.seq (.region false [
 .o 13 (.move (.t 7)),
 .o 14 (.move (.t 2)),
 .o 15 (.append 24 2 (.t 13) (.t 14)),
 .o 6 (.move (.t 15))] [2, 7, 13, 14, 15])
 .ret))))⟩

def a90 : AFunc := ⟨23, 3, [.tmp 6],
  (.seq (.region false [
 .o 6 (.move (.c (.p (.slice true []))))] [6])
 (.seq (.region false [
 .o 7 (.move (.c (.p (.slice true []))))] [])
 (.seq (.region false [
 .o 8 (.move (.t 7)),
 .o 9 (.move (.t 0)),
 .o 10 (.move (.t 1)),
 .o 11 (.slice 1 (.t 9) none (some (.t 10)) none),
 .o 12 (.append 8 1 (.t 8) (.t 11)),
 .o 7 (.move (.t 12))] [8, 9, 10, 11, 12])
 (.seq (.region false [
 .o 13 (.move (.t 7)),
 .o 14 (.move (.t 2)),
 .o 15 (.buildSlice [.int .i64 0] 1 [(0, .t 14)]),
 .o 16 (.append 8 1 (.t 13) (.t 15)),
 .o 7 (.move (.t 16))] [2, 13, 14, 15, 16])
 (.seq (.region false [
 .o 17 (.move (.t 7)),
 .o 18 (.move (.t 0)),
 .o 19 (.move (.t 1)),
 .o 20 (.bin .add (.t 19) (.i 1)),
 .o 21 (.slice 1 (.t 18) (some (.t 20)) none none),
 .o 22 (.append 8 1 (.t 17) (.t 21)),
 .o 6 (.move (.t 22))] [0, 1, 7, 17, 18, 19, 20, 21, 22])
 .ret)))))⟩

@[irreducible] def a91_l0 : ACode :=
  (.seq (.seq (.region false [
 .o 15 (.move (.t 5)),
 .o 16 (.fieldAddr 9 (.t 1)),
 .o 17 (.load none (.t 16)),
 .o 18 (.len (.t 17)),
 .o 19 (.bin .lss (.t 15) (.t 18))] [15, 16, 17, 18])
 (.cond (.t 19)
 .skip
 (.ghost (.forget [5, 19]) (.ghost .lower (.exit 2)))))
 (.seq (.block 3
 (.seq (.region false [
 .o 22 (.fieldAddr 9 (.t 1)),
 .o 23 (.load none (.t 22)),
 .o 24 (.move (.t 5)),
 .o 25 (.indexAddr 1 (.t 23) (.t 24)),
 .o 26 (.load none (.t 25)),
 .o 27 (.move (.t 3)),
 .o 28 (.bin .geq (.t 26) (.t 27))] [19, 22, 23, 24, 25, 26, 27])
 (.cond (.t 28)
 (.region false [
 .o 29 (.move (.t 4)),
 .o 30 (.bin .add (.t 29) (.i 1)),
 .o 4 (.move (.t 30))] [28, 29, 30])
 .skip)))
 (.region false [
 .o 20 (.move (.t 5)),
 .o 21 (.bin .add (.t 20) (.i 1)),
 .o 5 (.move (.t 21))] [20, 21, 28])))

@[irreducible] def a91_l1 : ACode :=
  (.seq (.seq (.region false [
 .o 9 (.move (.t 3)),
 .o 10 (.fieldAddr 6 (.t 1)),
 .o 11 (.load none (.t 10)),
 .o 12 (.bin .gtr (.t 9) (.t 11))] [9, 10, 11])
 (.cond (.t 12)
 .skip
 (.ghost (.forget [3, 12]) (.ghost .lower (.exit 0)))))
 (.seq (.block 1
 (.seq (.region false [
 .o 4 (.move (.i 0))] [12])
 (.seq (.seq (.region false [
 .o 5 (.move (.i 0))] [])
 (.block 2
 (.loop
 (.ghost .lower a91_l0))))
 (.seq (.region true [
 .o 31 (.fieldAddr 4 (.t 1)),
 ⟨some 32, .load none (.t 31), none, [0]⟩,
 .o 33 (.move (.t 3)),
 ⟨some 34, .bin .sub (.t 33) (.i 1), none, [2]⟩,
 ⟨some 35, .indexAddr 2 (.t 32) (.t 34), none, [0, 1, 2, 3]⟩,
 ⟨some 36, .fieldAddr 0 (.t 35), none, [0, 1, 2, 3, 4]⟩,
 ⟨some 37, .load none (.t 36), none, [0, 1, 2, 3, 4, 5]⟩,
 .o 38 (.fieldAddr 2 (.t 1)),
 ⟨some 39, .load none (.t 38), none, [7]⟩,
 ⟨some 40, .bin .eql (.t 37) (.t 39), none, [0, 1, 2, 3, 4, 5, 6, 7, 8]⟩,
 ⟨some 41, .move (.t 40), none, [0, 1, 2, 3, 4, 5, 6, 7, 8, 9]⟩,
 .g 42 41 true (.move (.t 4)) [0, 1, 2, 3, 4, 5, 6, 7, 8, 9, 10],
 .g 43 41 true (.fieldAddr 1 (.t 1)) [0, 1, 2, 3, 4, 5, 6, 7, 8, 9, 10],
 .g 44 41 true (.load none (.t 43)) [0, 1, 2, 3, 4, 5, 6, 7, 8, 9, 10, 12],
 .g 45 41 true (.call false 96 [.t 44]) [0, 1, 2, 3, 4, 5, 6, 7, 8, 9, 10, 12, 13],
 .g 46 41 true (.bin .geq (.t 42) (.t 45)) [0, 1, 2, 3, 4, 5, 6, 7, 8, 9, 10, 11, 12, 13, 14],
 ⟨some 47, .pick (.t 41) (.t 46) (.b false), none, [0, 1, 2, 3, 4, 5, 6, 7, 8, 9, 10, 11, 12, 13, 14, 15]⟩] [4, 31, 32, 33, 34, 35, 36, 37, 38, 39, 40, 41, 42, 43, 44, 45, 46])
 (.cond (.t 47)
 (.seq (.region false [
 .o 48 (.move (.t 3)),
 .o 49 (.fieldAddr 6 (.t 1)),
 .u (.store 1 (.t 49) (.t 48))] [3, 47, 48, 49])
 (.seq (.region false [
 .o 50 (.load (some 10) (.t 1)),
 .u (.store 10 (.t 2) (.t 50))] [50])
 .ret))
 .skip)))))
 (.region false [
 .o 13 (.move (.t 3)),
 .o 14 (.bin .sub (.t 13) (.i 1)),
 .o 3 (.move (.t 14))] [13, 14, 47])))

def a91 : AFunc := ⟨52, 1, [.cell 2 10],
  (.seq (.region false [
 .o 1 (.box (.t 0)),
 .o 2 (.alloc zz1)] [0])
 (.seq (.seq (.region false [
 .o 6 (.fieldAddr 4 (.t 1)),
 .o 7 (.load none (.t 6)),
 .o 8 (.len (.t 7)),
 .o 3 (.move (.t 8))] [6, 7, 8])
 (.block 0
 (.loop
 (.ghost .lower a91_l1))))
 (.seq (.region false [
 .o 51 (.load (some 10) (.t 1)),
 .u (.store 10 (.t 2) (.t 51))] [51])
 .ret)))⟩

@[irreducible] def a92_l0 : ACode :=
  (.seq (.seq (.region false [
 .o 11 (.move (.t 5)),
 .o 12 (.move (.t 0)),
 .o 13 (.len (.t 12)),
 .o 14 (.bin .lss (.t 11) (.t 13))] [11, 12, 13])
 (.cond (.t 14)
 .skip
 (.ghost (.forget [0, 1, 5, 14]) (.ghost .lower (.exit 0)))))
 (.seq (.block 1
 (.seq (.region true [
 .o 17 (.move (.t 0)),
 .o 18 (.move (.t 5)),
 ⟨some 19, .indexAddr 2 (.t 17) (.t 18), none, [0, 1]⟩,
 ⟨some 20, .load (some 2) (.t 19), none, [0, 1, 2]⟩,
 .o 21 (.move (.t 1)),
 .o 22 (.move (.t 5)),
 ⟨some 23, .indexAddr 2 (.t 21) (.t 22), none, [4, 5]⟩,
 ⟨some 24, .load (some 2) (.t 23), none, [4, 5, 6]⟩,
 ⟨some 25, .eqagg true [(0, 0), (1, 2)] (.t 20) (.t 24), none, [0, 1, 2, 3, 4, 5, 6, 7]⟩] [14, 17, 18, 19, 20, 21, 22, 23, 24])
 (.cond (.t 25)
 (.seq (.region false [
 .o 4 (.move (.b false))] [0, 1, 5, 25])
 .ret)
 .skip)))
 (.region false [
 .o 15 (.move (.t 5)),
 .o 16 (.bin .add (.t 15) (.i 1)),
 .o 5 (.move (.t 16))] [15, 16, 25])))

def a92 : AFunc := ⟨26, 2, [.tmp 4],
  (.seq (.region false [
 .o 4 (.move (.b false))] [4])
 (.seq (.seq (.region false [
 .o 6 (.move (.t 0)),
 .o 7 (.len (.t 6)),
 .o 8 (.move (.t 1)),
 .o 9 (.len (.t 8)),
 .o 10 (.bin .neq (.t 7) (.t 9))] [6, 7, 8, 9])
 (.cond (.t 10)
 (.seq (.region false [
 .o 4 (.move (.b false))] [0, 1, 10])
 .ret)
 .skip))
 (.seq (.seq (.region false [
 .o 5 (.move (.i 0))] [10])
 (.block 0
 (.loop
 (.ghost .lower a92_l0))))
 (.seq (.region false [
 .o 4 (.move (.b true))] [])
 .ret))))⟩

@[irreducible] def a93_l0 : ACode :=
  (.seq (.seq (.region false [
 .o 11 (.move (.t 5)),
 .o 12 (.move (.t 0)),
 .o 13 (.len (.t 12)),
 .o 14 (.bin .lss (.t 11) (.t 13))] [11, 12, 13])
 (.cond (.t 14)
 .skip
 (.ghost (.forget [0, 1, 5, 14]) (.ghost .lower (.exit 0)))))
 (.seq (.block 1
 (.seq (.region true [
 .o 17 (.move (.t 0)),
 .o 18 (.move (.t 5)),
 ⟨some 19, .indexAddr 1 (.t 17) (.t 18), none, [0, 1]⟩,
 ⟨some 20, .load none (.t 19), none, [0, 1, 2]⟩,
 .o 21 (.move (.t 1)),
 .o 22 (.move (.t 5)),
 ⟨some 23, .indexAddr 1 (.t 21) (.t 22), none, [4, 5]⟩,
 ⟨some 24, .load none (.t 23), none, [4, 5, 6]⟩,
 ⟨some 25, .bin .neq (.t 20) (.t 24), none, [0, 1, 2, 3, 4, 5, 6, 7]⟩] [14, 17, 18, 19, 20, 21, 22, 23, 24])
 (.cond (.t 25)
 (.seq (.region false [
 .o 4 (.move (.b false))] [0, 1, 5, 25])
 .ret)
 .skip)))
 (.region false [
 .o 15 (.move (.t 5)),
 .o 16 (.bin .add (.t 15) (.i 1)),
 .o 5 (.move (.t 16))] [15, 16, 25])))

def a93 : AFunc := ⟨26, 2, [.tmp 4],
  (.seq (.region false [
 .o 4 (.move (.b false))] [4])
 (.seq (.seq (.region false [
 .o 6 (.move (.t 0)),
 .o 7 (.len (.t 6)),
 .o 8 (.move (.t 1)),
 .o 9 (.len (.t 8)),
 .o 10 (.bin .neq (.t 7) (.t 9))] [6, 7, 8, 9])
 (.cond (.t 10)
 (.seq (.region false [
 .o 4 (.move (.b false))] [0, 1, 10])
 .ret)
 .skip))
 (.seq (.seq (.region false [
 .o 5 (.move (.i 0))] [10])
 (.block 0
 (.loop
 (.ghost .lower a93_l0))))
 (.seq (.region false [
 .o 4 (.move (.b true))] [])
 .ret))))⟩

def a94 : AFunc := ⟨25, 2, [.cell 4 10, .tmp 5],
  (.seq (.region false [
 .o 4 (.alloc zz1),
 .o 5 (.move (.i 0))] [5])
 (.seq (.seq (.region false [
 .o 6 (.move (.t 1)),
 .o 7 (.bin .lss (.t 6) (.i 1)),
 .o 8 (.move (.t 7)),
 .g 9 8 false (.move (.t 1)) [],
 .g 10 8 false (.bin .gtr (.t 9) (.i 7)) [],
 .o 11 (.pick (.t 8) (.b true) (.t 10)),
 .o 12 (.move (.t 11)),
 .g 13 12 false (.move (.t 0)) [],
 .g 14 12 false (.bin .lss (.t 13) (.i 1)) [],
 .o 15 (.pick (.t 12) (.b true) (.t 14)),
 .o 16 (.move (.t 15)),
 .g 17 16 false (.move (.t 0)) [],
 .g 18 16 false (.move (.t 1)) [],
 .g 19 16 false (.bin .gtr (.t 17) (.t 18)) [],
 .o 20 (.pick (.t 16) (.b true) (.t 19))] [6, 7, 8, 9, 10, 11, 12, 13, 14, 15, 16, 17, 18, 19])
 (.cond (.t 20)
 (.seq (.region false [
 .o 21 (.build zz1 []),
 .u (.store 10 (.t 4) (.t 21)),
 .o 5 (.move (.i 1))] [0, 1, 20, 21])
 .ret)
 .skip))
 (.seq (.region false [
 .o 22 (.move (.t 0)),
 .o 23 (.move (.t 1)),
 .o 24 (.build zz1 [(0, 1, .t 22), (1, 1, .t 23), (5, 1, .i 1)]),
 .u (.store 10 (.t 4) (.t 24)),
 .o 5 (.move (.i 0))] [0, 1, 20, 22, 23, 24])
 .ret)))⟩

def a95 : AFunc := ⟨8, 1, [.tmp 2],
  (.seq (.region false [
 .o 2 (.move (.i 0))] [2])
 (.seq (.seq (.region false [
 .o 3 (.move (.t 0)),
 .o 4 (.bin .lss (.t 3) (.i 0))] [3])
 (.cond (.t 4)
 (.seq (.region false [
 .o 2 (.move (.i 1))] [0, 4])
 .ret)
 .skip))
 (.seq (.region false [
 .o 5 (.move (.t 0)),
 .o 6 (.bin .quo (.t 5) (.i 2)),
 .o 7 (.bin .add (.t 6) (.i 1)),
 .o 2 (.move (.t 7))] [0, 4, 5, 6, 7])
 .ret)))⟩

def a96 : AFunc := ⟨7, 1, [.tmp 2],
  (.seq (.region false [
 .o 2 (.move (.i 0))] [2])
 (.seq (.region false [
 .o 3 (.move (.t 0)),
 .o 4 (.minmax true (.t 3) [.i 0]),
 .o 5 (.bin .quo (.t 4) (.i 2)),
 .o 6 (.bin .add (.t 5) (.i 1)),
 .o 2 (.move (.t 6))] [0, 3, 4, 5, 6])
 .ret))⟩

def a97 : AFunc := ⟨8, 1, [.cell 2 9],
  (.seq (.regionK false [
 (.o 1 (.box (.t 0)), [0]),
 (.o 2 (.alloc zz2), [])])
 (.seq (.regionK false [
 (.o 3 (.fieldAddr 8 (.t 1)), []),
 (.o 4 (.load none (.t 3)), [3]),
 (.o 5 (.call false 77 [.t 4]), [4]),
 (.o 6 (.fieldAddr 8 (.t 1)), []),
 (.u (.store 1 (.t 6) (.t 5)), [5, 6])])
 (.seq (.regionK false [
 (.o 7 (.load (some 9) (.t 1)), []),
 (.u (.store 9 (.t 2) (.t 7)), [7])])
 .ret)))⟩

def a98 : AFunc := ⟨25, 2, [.tmp 4],
  (.seq (.regionK false [
 (.o 4 (.move (.c (.p (.slice true [])))), [4])])
 (.seq (.regionK false [
 (.o 6 (.move (.t 0)), []),
 (.o 7 (.len (.t 6)), [6]),
 (.o 8 (.bin .sub (.t 7) (.i 1)), [7]),
 (.o 9 (.makeSlice zz2 88 (.t 8) (.t 8)), [8]),
 (.o 5 (.move (.t 9)), [9])])
 (.seq (.regionK false [
 (.o 10 (.move (.t 5)), []),
 (.o 11 (.move (.t 0)), []),
 (.o 12 (.move (.t 1)), []),
 (.o 13 (.slice 9 (.t 11) none (some (.t 12)) none), [11, 12]),
 (.o 14 (.copy 9 (.t 10) (.t 13)), [10, 13, 14])])
 (.seq (.regionK true [
 (.o 15 (.move (.t 5)), []),
 (.o 16 (.move (.t 1)), []),
 (⟨some 17, .slice 9 (.t 15) (some (.t 16)) none none, none, [0, 1]⟩, [15, 16]),
 (.o 18 (.move (.t 0)), [0]),
 (.o 19 (.move (.t 1)), [1]),
 (⟨some 20, .bin .add (.t 19) (.i 1), none, [4]⟩, [19]),
 (⟨some 21, .slice 9 (.t 18) (some (.t 20)) none none, none, [3, 4, 5]⟩, [18, 20]),
 (⟨some 22, .copy 9 (.t 17) (.t 21), none, [0, 1, 2, 3, 4, 5, 6]⟩, [17, 21, 22])])
 (.seq (.regionK false [
 (.o 23 (.move (.t 5)), [5]),
 (.o 24 (.call true 103 [.t 23, .i 0]), [23]),
 (.o 4 (.move (.t 24)), [24])])
 .ret)))))⟩

def a99 : AFunc := ⟨73, 2, [.cell 4 10, .tmp 5],
  (.seq (.region false [
 .o 2 (.box (.t 0)),
 .o 3 (.box (.t 1)),
 .o 4 (.alloc zz1),
 .o 5 (.move (.c (.p (.slice true []))))] [0, 1, 5])
 (.seq (.region false [
 .o 8 (.load (some 10) (.t 2)),
 .o 9 (.call true 73 [.t 8]),
 .o 10 (.build zz1 [(0, 10, .t 9)]),
 .o 6 (.alloc zz1),
 .u (.store 10 (.t 6) (.t 10))] [8, 9, 10])
 (.seq (.seq (.region false [
 .o 11 (.load (some 10) (.t 2)),
 .o 12 (.load (some 9) (.t 3)),
 .o 13 (.call false 112 [.t 11, .t 12, .i 1]),
 .o 14 (.un .not (.t 13))] [11, 12, 13])
 (.cond (.t 14)
 (.seq (.region false [
 .o 15 (.fieldAddr 0 (.t 6)),
 .o 16 (.load (some 10) (.t 15)),
 .u (.store 10 (.t 4) (.t 16)),
 .o 5 (.move (.c (.p (.slice true []))))] [14, 15, 16])
 .ret)
 .skip))
 (.seq (.seq (.region false [
 .o 17 (.fieldAddr 3 (.t 3)),
 .o 18 (.load none (.t 17)),
 .o 19 (.fieldAddr 0 (.t 6)),
 .o 20 (.fieldAddr 2 (.t 19)),
 .o 21 (.load none (.t 20)),
 .o 22 (.bin .gtr (.t 18) (.t 21))] [14, 17, 18, 19, 20, 21])
 (.cond (.t 22)
 (.region false [
 .o 23 (.fieldAddr 3 (.t 3)),
 .o 24 (.load none (.t 23)),
 .o 25 (.call true 113 [.t 6, .t 24])] [22, 23, 24, 25])
 .skip))
 (.seq (.region false [
 .o 26 (.fieldAddr 3 (.t 3)),
 .o 27 (.load none (.t 26)),
 .o 28 (.fieldAddr 0 (.t 6)),
 .o 29 (.fieldAddr 2 (.t 28)),
 .o 30 (.load none (.t 29)),
 .o 31 (.bin .eql (.t 27) (.t 30)),
 .o 32 (.move (.t 31)),
 .g 33 32 true (.fieldAddr 0 (.t 6)) [],
 .g 34 32 true (.fieldAddr 3 (.t 33)) [],
 .g 35 32 true (.load none (.t 34)) [],
 .g 36 32 true (.bin .eql (.t 35) (.i 0)) [],
 .g 37 32 true (.move (.t 36)) [],
 .g 38 37 false (.fieldAddr 0 (.t 6)) [],
 .g 39 37 false (.fieldAddr 3 (.t 38)) [],
 .g 40 37 false (.load none (.t 39)) [],
 .g 41 37 false (.fieldAddr 1 (.t 3)) [],
 .g 42 37 false (.load none (.t 41)) [],
 .g 43 37 false (.bin .eql (.t 40) (.t 42)) [],
 .g 44 32 true (.pick (.t 37) (.b true) (.t 43)) [],
 .o 45 (.pick (.t 32) (.t 44) (.b false)),
 .o 46 (.move (.t 45)),
 .g 47 46 true (.fieldAddr 0 (.t 6)) [],
 .g 48 46 true (.load (some 10) (.t 47)) [],
 .g 49 46 true (.fieldAddr 4 (.t 3)) [],
 .g 50 46 true (.load none (.t 49)) [],
 .g 51 46 true (.fieldAddr 5 (.t 3)) [],
 .g 52 46 true (.load none (.t 51)) [],
 .g 53 46 true (.call false 114 [.t 48, .t 50, .t 52]) [],
 .o 54 (.pick (.t 46) (.t 53) (.b false)),
 .o 7 (.move (.t 54))] [22, 26, 27, 28, 29, 30, 31, 32, 33, 34, 35, 36, 37, 38, 39, 40, 41, 42, 43, 44, 45, 46, 47, 48, 49, 50, 51, 52, 53, 54])
 (.seq (.seq (.region false [
 .o 55 (.move (.t 7))] [])
 (.cond (.t 55)
 (.region false [
 .o 56 (.fieldAddr 1 (.t 3)),
 .o 57 (.load none (.t 56)),
 .o 58 (.fieldAddr 0 (.t 6)),
 .o 59 (.fieldAddr 3 (.t 58)),
 .u (.store 1 (.t 59) (.t 57))] [55, 56, 57, 58, 59])
 .skip))
 (.seq (.regionS [(2, 13), (3, 13), (4, 13), (5, 13), (6, 13), (7, 13), (8, 13), (9, 13), (12, 13)] [
 .o 60 (.fieldAddr 0 (.t 6)),
 ⟨some 61, .load (some 10) (.t 60), none, [0]⟩,
 .o 62 (.fieldAddr 0 (.t 6)),
 ⟨some 63, .fieldAddr 0 (.t 62), none, [2]⟩,
 ⟨some 64, .load none (.t 63), none, [2, 3]⟩,
 .o 65 (.fieldAddr 1 (.t 3)),
 ⟨some 66, .load none (.t 65), none, [5]⟩,
 .o 67 (.fieldAddr 0 (.t 6)),
 ⟨some 68, .fieldAddr 2 (.t 67), none, [7]⟩,
 ⟨some 69, .load none (.t 68), none, [7, 8]⟩,
 .o 70 (.move (.t 7)),
 ⟨some 71, .build zz2 [(0, 1, .i 2), (1, 1, .t 64), (2, 1, .t 66), (3, 1, .t 69), (7, 1, .t 70)], none, [2, 3, 4, 5, 6, 7, 8, 9, 10]⟩,
 ⟨some 72, .buildSlice zz2 1 [(0, .t 71)], none, [2, 3, 4, 5, 6, 7, 8, 9, 10, 11]⟩,
 ⟨none, .store 10 (.t 4) (.t 61), none, [0, 1]⟩,
 ⟨some 5, .move (.t 72), none, [0, 1, 2, 3, 4, 5, 6, 7, 8, 9, 10, 11, 12, 13]⟩] [7, 55, 60, 61, 62, 63, 64, 65, 66, 67, 68, 69, 70, 71, 72])
 .ret)))))))⟩

def a100 : AFunc := ⟨70, 2, [.cell 4 10, .tmp 5],
  (.seq (.region false [
 .o 2 (.box (.t 0)),
 .o 3 (.box (.t 1)),
 .o 4 (.alloc zz1),
 .o 5 (.move (.c (.p (.slice true []))))] [0, 1, 5])
 (.seq (.region false [
 .o 7 (.load (some 10) (.t 2)),
 .o 8 (.call true 73 [.t 7]),
 .o 9 (.build zz1 [(0, 10, .t 8)]),
 .o 6 (.alloc zz1),
 .u (.store 10 (.t 6) (.t 9))] [7, 8, 9])
 (.seq (.seq (.region false [
 .o 10 (.load (some 10) (.t 2)),
 .o 11 (.load (some 9) (.t 3)),
 .o 12 (.call false 112 [.t 10, .t 11, .i 2]),
 .o 13 (.un .not (.t 12))] [10, 11, 12])
 (.cond (.t 13)
 (.seq (.region false [
 .o 14 (.fieldAddr 0 (.t 6)),
 .o 15 (.load (some 10) (.t 14)),
 .u (.store 10 (.t 4) (.t 15)),
 .o 5 (.move (.c (.p (.slice true []))))] [13, 14, 15])
 .ret)
 .skip))
 (.seq (.seq (.region false [
 .o 16 (.fieldAddr 3 (.t 3)),
 .o 17 (.load none (.t 16)),
 .o 18 (.fieldAddr 0 (.t 6)),
 .o 19 (.fieldAddr 2 (.t 18)),
 .o 20 (.load none (.t 19)),
 .o 21 (.bin .gtr (.t 17) (.t 20))] [13, 16, 17, 18, 19, 20])
 (.cond (.t 21)
 (.seq (.region false [
 .o 22 (.fieldAddr 3 (.t 3)),
 .o 23 (.load none (.t 22)),
 .o 24 (.call true 113 [.t 6, .t 23])] [21, 22, 23, 24])
 (.seq (.region false [
 .o 25 (.fieldAddr 0 (.t 6)),
 .o 26 (.load (some 10) (.t 25)),
 .u (.store 10 (.t 4) (.t 26)),
 .o 5 (.move (.c (.p (.slice true []))))] [25, 26])
 .ret))
 .skip))
 (.seq (.seq (.region false [
 .o 27 (.fieldAddr 3 (.t 3)),
 .o 28 (.load none (.t 27)),
 .o 29 (.fieldAddr 0 (.t 6)),
 .o 30 (.fieldAddr 2 (.t 29)),
 .o 31 (.load none (.t 30)),
 .o 32 (.bin .lss (.t 28) (.t 31)),
 .o 33 (.move (.t 32)),
 .g 34 33 false (.fieldAddr 0 (.t 6)) [],
 .g 35 33 false (.fieldAddr 5 (.t 34)) [],
 .g 36 33 false (.load none (.t 35)) [],
 .g 37 33 false (.bin .neq (.t 36) (.i 2)) [],
 .o 38 (.pick (.t 33) (.b true) (.t 37)),
 .o 39 (.move (.t 38)),
 .g 40 39 false (.fieldAddr 7 (.t 3)) [],
 .g 41 39 false (.load none (.t 40)) [],
 .g 42 39 false (.un .not (.t 41)) [],
 .o 43 (.pick (.t 39) (.b true) (.t 42)),
 .o 44 (.move (.t 43)),
 .g 45 44 false (.fieldAddr 0 (.t 6)) [],
 .g 46 44 false (.fieldAddr 7 (.t 45)) [],
 .g 47 44 false (.load none (.t 46)) [],
 .g 48 44 false (.fieldAddr 1 (.t 3)) [],
 .g 49 44 false (.load none (.t 48)) [],
 .g 50 44 false (.call false 115 [.t 47, .t 49]) [],
 .o 51 (.pick (.t 44) (.b true) (.t 50))] [21, 27, 28, 29, 30, 31, 32, 33, 34, 35, 36, 37, 38, 39, 40, 41, 42, 43, 44, 45, 46, 47, 48, 49, 50])
 (.cond (.t 51)
 (.seq (.region false [
 .o 52 (.fieldAddr 0 (.t 6)),
 .o 53 (.load (some 10) (.t 52)),
 .u (.store 10 (.t 4) (.t 53)),
 .o 5 (.move (.c (.p (.slice true []))))] [51, 52, 53])
 .ret)
 .skip))
 (.seq (.region false [
 .o 54 (.fieldAddr 0 (.t 6)),
 .o 55 (.fieldAddr 7 (.t 54)),
 .o 56 (.load none (.t 55)),
 .o 57 (.fieldAddr 1 (.t 3)),
 .o 58 (.load none (.t 57)),
 .o 59 (.buildSlice [.int .i64 0] 1 [(0, .t 58)]),
 .o 60 (.append 8 1 (.t 56) (.t 59)),
 .o 61 (.fieldAddr 0 (.t 6)),
 .o 62 (.fieldAddr 7 (.t 61)),
 .u (.store 1 (.t 62) (.t 60))] [51, 54, 55, 56, 57, 58, 59, 60, 61, 62])
 (.seq (.region false [
 .o 63 (.fieldAddr 0 (.t 6)),
 .o 64 (.fieldAddr 7 (.t 63)),
 .o 65 (.load none (.t 64)),
 .o 66 (.call true 116 [.t 65])] [63, 64, 65, 66])
 (.seq (.region false [
 .o 67 (.call true 74 [.t 6])] [67])
 (.seq (.region false [
 .o 68 (.fieldAddr 0 (.t 6)),
 .o 69 (.load (some 10) (.t 68)),
 .u (.store 10 (.t 4) (.t 69)),
 .o 5 (.move (.c (.p (.slice true []))))] [68, 69])
 .ret)))))))))⟩

def a101 : AFunc := ⟨141, 2, [.cell 4 10, .tmp 5],
  (.seq (.region false [
 .o 2 (.box (.t 0)),
 .o 3 (.box (.t 1)),
 .o 4 (.alloc zz1),
 .o 5 (.move (.c (.p (.slice true []))))] [0, 1, 5])
 (.seq (.region false [
 .o 9 (.load (some 10) (.t 2)),
 .o 10 (.call true 78 [.t 9]),
 .o 6 (.alloc zz1),
 .u (.store 10 (.t 6) (.t 10))] [9, 10])
 (.seq (.seq (.region false [
 .o 11 (.load (some 10) (.t 2)),
 .o 12 (.load (some 9) (.t 3)),
 .o 13 (.call false 117 [.t 11, .t 12, .i 3]),
 .o 14 (.un .not (.t 13))] [11, 12, 13])
 (.cond (.t 14)
 (.seq (.region false [
 .o 15 (.load (some 10) (.t 6)),
 .u (.store 10 (.t 4) (.t 15)),
 .o 5 (.move (.c (.p (.slice true []))))] [14, 15])
 .ret)
 .skip))
 (.seq (.seq (.region false [
 .o 16 (.fieldAddr 3 (.t 3)),
 .o 17 (.load none (.t 16)),
 .o 18 (.fieldAddr 2 (.t 2)),
 .o 19 (.load none (.t 18)),
 .o 20 (.bin .lss (.t 17) (.t 19))] [14, 16, 17, 18, 19])
 (.cond (.t 20)
 (.seq (.region true [
 .o 21 (.load (some 10) (.t 6)),
 .o 22 (.load (some 10) (.t 2)),
 .o 23 (.fieldAddr 1 (.t 3)),
 ⟨some 24, .load none (.t 23), none, [2]⟩,
 ⟨some 25, .call false 118 [.t 22, .t 24, .i 0, .b false], none, [1, 2, 3]⟩,
 ⟨none, .store 10 (.t 4) (.t 21), none, [0, 1, 2, 3, 4]⟩,
 ⟨some 5, .move (.t 25), none, [0, 1, 2, 3, 4, 5]⟩] [20, 21, 22, 23, 24, 25])
 .ret)
 .skip))
 (.seq (.seq (.region false [
 .o 26 (.fieldAddr 3 (.t 3)),
 .o 27 (.load none (.t 26)),
 .o 28 (.fieldAddr 2 (.t 2)),
 .o 29 (.load none (.t 28)),
 .o 30 (.bin .gtr (.t 27) (.t 29))] [20, 26, 27, 28, 29])
 (.cond (.t 30)
 (.region false [
 .o 31 (.load (some 10) (.t 6)),
 .o 32 (.fieldAddr 3 (.t 3)),
 .o 33 (.load none (.t 32)),
 .o 34 (.call false 119 [.t 31, .t 33]),
 .u (.store 10 (.t 6) (.t 34))] [30, 31, 32, 33, 34])
 .skip))
 (.seq (.seq (.region false [
 .o 35 (.fieldAddr 5 (.t 6)),
 .o 36 (.load none (.t 35)),
 .o 37 (.bin .eql (.t 36) (.i 3))] [30, 35, 36])
 (.cond (.t 37)
 (.seq (.region false [
 .o 38 (.load (some 10) (.t 6)),
 .u (.store 10 (.t 4) (.t 38)),
 .o 5 (.move (.c (.p (.slice true []))))] [37, 38])
 .ret)
 .skip))
 (.seq (.region false [
 .o 39 (.fieldAddr 5 (.t 6)),
 .u (.store 1 (.t 39) (.i 1))] [37, 39])
 (.seq (.region false [
 .o 40 (.fieldAddr 7 (.t 6)),
 .u (.store 1 (.t 40) (.c (.p (.slice true []))))] [40])
 (.seq (.seq (.region true [
 .o 41 (.fieldAddr 4 (.t 6)),
 ⟨some 42, .load none (.t 41), none, [0]⟩,
 ⟨some 43, .len (.t 42), none, [0, 1]⟩,
 .o 44 (.fieldAddr 4 (.t 3)),
 ⟨some 45, .load none (.t 44), none, [3]⟩,
 ⟨some 46, .bin .lss (.t 43) (.t 45), none, [0, 1, 2, 3, 4]⟩,
 ⟨some 47, .move (.t 46), none, [0, 1, 2, 3, 4, 5]⟩,
 .g 48 47 false (.fieldAddr 4 (.t 3)) [0, 1, 2, 3, 4, 5, 6],
 .g 49 47 false (.load none (.t 48)) [0, 1, 2, 3, 4, 5, 6, 7],
 .g 50 47 false (.bin .neq (.t 49) (.i 0)) [0, 1, 2, 3, 4, 5, 6, 7, 8],
 .g 51 47 false (.move (.t 50)) [0, 1, 2, 3, 4, 5, 6, 7, 8, 9],
 .g 52 51 true (.load (some 10) (.t 6)) [0, 1, 2, 3, 4, 5, 6, 7, 8, 9, 10],
 .g 53 51 true (.fieldAddr 4 (.t 3)) [0, 1, 2, 3, 4, 5, 6, 7, 8, 9, 10],
 .g 54 51 true (.load none (.t 53)) [0, 1, 2, 3, 4, 5, 6, 7, 8, 9, 10, 12],
 .g 55 51 true (.call false 76 [.t 52, .t 54]) [0, 1, 2, 3, 4, 5, 6, 7, 8, 9, 10, 11, 12, 13],
 .g 56 51 true (.fieldAddr 5 (.t 3)) [0, 1, 2, 3, 4, 5, 6, 7, 8, 9, 10],
 .g 57 51 true (.load none (.t 56)) [0, 1, 2, 3, 4, 5, 6, 7, 8, 9, 10, 15],
 .g 58 51 true (.bin .neq (.t 55) (.t 57)) [0, 1, 2, 3, 4, 5, 6, 7, 8, 9, 10, 11, 12, 13, 14, 15, 16],
 .g 59 47 false (.pick (.t 51) (.t 58) (.b false)) [0, 1, 2, 3, 4, 5, 6, 7, 8, 9, 10, 11, 12, 13, 14, 15, 16, 17],
 ⟨some 60, .pick (.t 47) (.b true) (.t 59), none, [0, 1, 2, 3, 4, 5, 6, 7, 8, 9, 10, 11, 12, 13, 14, 15, 16, 17, 18]⟩] [41, 42, 43, 44, 45, 46, 47, 48, 49, 50, 51, 52, 53, 54, 55, 56, 57, 58, 59])
 (.cond (.t 60)
 (.seq (.region true [
 .o 61 (.load (some 10) (.t 6)),
 .o 62 (.load (some 10) (.t 6)),
 .o 63 (.fieldAddr 1 (.t 3)),
 ⟨some 64, .load none (.t 63), none, [2]⟩,
 .o 65 (.fieldAddr 4 (.t 6)),
 ⟨some 66, .load none (.t 65), none, [4]⟩,
 ⟨some 67, .len (.t 66), none, [4, 5]⟩,
 .o 68 (.fieldAddr 4 (.t 3)),
 ⟨some 69, .load none (.t 68), none, [7]⟩,
 ⟨some 70, .bin .sub (.t 69) (.i 1), none, [7, 8]⟩,
 ⟨some 71, .minmax false (.t 67) [.t 70], none, [4, 5, 6, 7, 8, 9]⟩,
 ⟨some 72, .call false 118 [.t 62, .t 64, .t 71, .b false], none, [1, 2, 3, 4, 5, 6, 7, 8, 9, 10]⟩,
 ⟨none, .store 10 (.t 4) (.t 61), none, [0, 1, 2, 3, 4, 5, 6, 7, 8, 9, 10, 11]⟩,
 ⟨some 5, .move (.t 72), none, [0, 1, 2, 3, 4, 5, 6, 7, 8, 9, 10, 11, 12]⟩] [60, 61, 62, 63, 64, 65, 66, 67, 68, 69, 70, 71, 72])
 .ret)
 .skip))
 (.seq (.region false [
 .o 73 (.fieldAddr 4 (.t 3)),
 .o 74 (.load none (.t 73)),
 .o 75 (.fieldAddr 8 (.t 3)),
 .o 76 (.load none (.t 75)),
 .o 77 (.len (.t 76)),
 .o 78 (.bin .add (.t 74) (.t 77)),
 .o 7 (.move (.t 78))] [60, 73, 74, 75, 76, 77, 78])
 (.seq (.region false [
 .o 79 (.fieldAddr 4 (.t 6)),
 .o 80 (.load none (.t 79)),
 .o 81 (.fieldAddr 4 (.t 3)),
 .o 82 (.load none (.t 81)),
 .o 83 (.fieldAddr 8 (.t 3)),
 .o 84 (.load none (.t 83)),
 .o 85 (.call false 120 [.t 80, .t 82, .t 84]),
 .o 8 (.move (.t 85))] [79, 80, 81, 82, 83, 84, 85])
 (.seq (.seq (.region false [
 .o 86 (.move (.t 7)),
 .o 87 (.bin .gtr (.t 86) (.i 256)),
 .o 88 (.move (.t 87)),
 .g 89 88 false (.move (.t 8)) [],
 .g 90 88 false (.fieldAddr 8 (.t 3)) [],
 .g 91 88 false (.load none (.t 90)) [],
 .g 92 88 false (.len (.t 91)) [],
 .g 93 88 false (.bin .lss (.t 89) (.t 92)) [],
 .g 94 88 false (.move (.t 93)) [],
 .g 95 94 true (.fieldAddr 4 (.t 3)) [],
 .g 96 94 true (.load none (.t 95)) [],
 .g 97 94 true (.move (.t 8)) [],
 .g 98 94 true (.bin .add (.t 96) (.t 97)) [],
 .g 99 94 true (.fieldAddr 6 (.t 6)) [],
 .g 100 94 true (.load none (.t 99)) [],
 .g 101 94 true (.bin .lss (.t 98) (.t 100)) [],
 .g 102 88 false (.pick (.t 94) (.t 101) (.b false)) [],
 .o 103 (.pick (.t 88) (.b true) (.t 102))] [86, 87, 88, 89, 90, 91, 92, 93, 94, 95, 96, 97, 98, 99, 100, 101, 102])
 (.cond (.t 103)
 (.seq (.region false [
 .o 104 (.load (some 10) (.t 6)),
 .u (.store 10 (.t 4) (.t 104)),
 .o 5 (.move (.c (.p (.slice true []))))] [7, 8, 103, 104])
 .ret)
 .skip))
 (.seq (.seq (.region false [
 .o 105 (.move (.t 8)),
 .o 106 (.fieldAddr 8 (.t 3)),
 .o 107 (.load none (.t 106)),
 .o 108 (.len (.t 107)),
 .o 109 (.bin .lss (.t 105) (.t 108))] [103, 105, 106, 107, 108])
 (.cond (.t 109)
 (.region true [
 .o 110 (.fieldAddr 4 (.t 6)),
 ⟨some 111, .load none (.t 110), none, [0]⟩,
 .o 112 (.fieldAddr 4 (.t 3)),
 ⟨some 113, .load none (.t 112), none, [2]⟩,
 .o 114 (.move (.t 8)),
 ⟨some 115, .bin .add (.t 113) (.t 114), none, [2, 3, 4]⟩,
 .o 116 (.fieldAddr 4 (.t 3)),
 ⟨some 117, .load none (.t 116), none, [6]⟩,
 .o 118 (.move (.t 8)),
 ⟨some 119, .bin .add (.t 117) (.t 118), none, [6, 7, 8]⟩,
 ⟨some 120, .slice 2 (.t 111) none (some (.t 115)) (some (.t 119)), none, [0, 1, 2, 3, 4, 5, 6, 7, 8, 9]⟩,
 .o 121 (.fieldAddr 8 (.t 3)),
 ⟨some 122, .load none (.t 121), none, [11]⟩,
 .o 123 (.move (.t 8)),
 ⟨some 124, .slice 2 (.t 122) (some (.t 123)) none none, none, [11, 12, 13]⟩,
 ⟨some 125, .append 24 2 (.t 120) (.t 124), none, [0, 1, 2, 3, 4, 5, 6, 7, 8, 9, 10, 11, 12, 13, 14]⟩,
 ⟨some 126, .fieldAddr 4 (.t 6), none, [0, 1, 2, 3, 4, 5, 6, 7, 8, 9, 10, 11, 12, 13, 14, 15]⟩,
 ⟨none, .store 1 (.t 126) (.t 125), none, [0, 1, 2, 3, 4, 5, 6, 7, 8, 9, 10, 11, 12, 13, 14, 15, 16]⟩] [8, 109, 110, 111, 112, 113, 114, 115, 116, 117, 118, 119, 120, 121, 122, 123, 124, 125, 126])
 .skip))
 (.seq (.region false [
 .o 127 (.fieldAddr 6 (.t 6)),
 .o 128 (.load none (.t 127)),
 .o 129 (.fieldAddr 6 (.t 3)),
 .o 130 (.load none (.t 129)),
 .o 131 (.move (.t 7)),
 .o 132 (.minmax false (.t 130) [.t 131]),
 .o 133 (.minmax true (.t 128) [.t 132]),
 .o 134 (.fieldAddr 6 (.t 6)),
 .u (.store 1 (.t 134) (.t 133))] [8, 109, 127, 128, 129, 130, 131, 132, 133, 134])
 (.seq (.region true [
 .o 135 (.load (some 10) (.t 6)),
 .o 136 (.load (some 10) (.t 6)),
 .o 137 (.fieldAddr 1 (.t 3)),
 ⟨some 138, .load none (.t 137), none, [2]⟩,
 .o 139 (.move (.t 7)),
 ⟨some 140, .call false 118 [.t 136, .t 138, .t 139, .b true], none, [1, 2, 3, 4]⟩,
 ⟨none, .store 10 (.t 4) (.t 135), none, [0, 1, 2, 3, 4, 5]⟩,
 ⟨some 5, .move (.t 140), none, [0, 1, 2, 3, 4, 5, 6]⟩] [7, 135, 136, 137, 138, 139, 140])
 .ret)))))))))))))))⟩

def a102 : AFunc := ⟨100, 2, [.cell 4 10],
  (.seq (.region false [
 .o 2 (.box (.t 0)),
 .o 3 (.box (.t 1)),
 .o 4 (.alloc zz1)] [0, 1])
 (.seq (.region false [
 .o 7 (.load (some 10) (.t 2)),
 .o 8 (.call true 78 [.t 7]),
 .o 5 (.alloc zz1),
 .u (.store 10 (.t 5) (.t 8))] [7, 8])
 (.seq (.seq (.region false [
 .o 9 (.load (some 10) (.t 2)),
 .o 10 (.load (some 9) (.t 3)),
 .o 11 (.call false 117 [.t 9, .t 10, .i 4]),
 .o 12 (.un .not (.t 11))] [9, 10, 11])
 (.cond (.t 12)
 (.seq (.region false [
 .o 13 (.load (some 10) (.t 5)),
 .u (.store 10 (.t 4) (.t 13))] [12, 13])
 .ret)
 .skip))
 (.seq (.seq (.region false [
 .o 14 (.fieldAddr 3 (.t 3)),
 .o 15 (.load none (.t 14)),
 .o 16 (.fieldAddr 2 (.t 2)),
 .o 17 (.load none (.t 16)),
 .o 18 (.bin .gtr (.t 15) (.t 17))] [12, 14, 15, 16, 17])
 (.cond (.t 18)
 (.seq (.region false [
 .o 19 (.load (some 10) (.t 5)),
 .o 20 (.fieldAddr 3 (.t 3)),
 .o 21 (.load none (.t 20)),
 .o 22 (.call false 119 [.t 19, .t 21]),
 .u (.store 10 (.t 4) (.t 22))] [18, 19, 20, 21, 22])
 .ret)
 .skip))
 (.seq (.seq (.region false [
 .o 23 (.fieldAddr 3 (.t 3)),
 .o 24 (.load none (.t 23)),
 .o 25 (.fieldAddr 2 (.t 2)),
 .o 26 (.load none (.t 25)),
 .o 27 (.bin .lss (.t 24) (.t 26)),
 .o 28 (.move (.t 27)),
 .g 29 28 false (.fieldAddr 5 (.t 2)) [],
 .g 30 28 false (.load none (.t 29)) [],
 .g 31 28 false (.bin .neq (.t 30) (.i 3)) [],
 .o 32 (.pick (.t 28) (.b true) (.t 31))] [18, 23, 24, 25, 26, 27, 28, 29, 30, 31])
 (.cond (.t 32)
 (.seq (.region false [
 .o 33 (.load (some 10) (.t 5)),
 .u (.store 10 (.t 4) (.t 33))] [32, 33])
 .ret)
 .skip))
 (.seq (.region false [
 .o 34 (.fieldAddr 1 (.t 3)),
 .o 35 (.load none (.t 34)),
 .o 36 (.bin .sub (.t 35) (.i 1)),
 .o 6 (.move (.t 36))] [32, 34, 35, 36])
 (.seq (.block 0
 (.seq (.region false [
 .o 38 (.fieldAddr 7 (.t 3)),
 .o 39 (.load none (.t 38)),
 .o 40 (.move (.t 39)),
 .g 41 40 true (.fieldAddr 4 (.t 3)) [],
 .g 42 40 true (.load none (.t 41)) [],
 .g 43 40 true (.fieldAddr 4 (.t 5)) [],
 .g 44 40 true (.load none (.t 43)) [],
 .g 45 40 true (.len (.t 44)) [],
 .g 46 40 true (.bin .gtr (.t 42) (.t 45)) [],
 .o 47 (.pick (.t 40) (.t 46) (.b false)),
 .o 37 (.move (.t 47))] [38, 39, 40, 41, 42, 43, 44, 45, 46, 47])
 (.cond (.t 37)
 (.seq (.region false [
 .o 48 (.load (some 10) (.t 5)),
 .u (.store 10 (.t 4) (.t 48))] [6, 37, 48])
 .ret)
 (.seq (.region false [
 .o 50 (.fieldAddr 7 (.t 3)),
 .o 51 (.load none (.t 50)),
 .o 49 (.move (.t 51))] [37, 50, 51])
 (.cond (.t 49)
 (.seq (.region true [
 .o 52 (.fieldAddr 9 (.t 5)),
 ⟨some 53, .load none (.t 52), none, [0]⟩,
 .o 54 (.move (.t 6)),
 .o 55 (.fieldAddr 9 (.t 5)),
 ⟨some 56, .load none (.t 55), none, [3]⟩,
 .o 57 (.move (.t 6)),
 ⟨some 58, .indexAddr 1 (.t 56) (.t 57), none, [3, 4, 5]⟩,
 ⟨some 59, .load none (.t 58), none, [3, 4, 5, 6]⟩,
 .o 60 (.fieldAddr 4 (.t 3)),
 ⟨some 61, .load none (.t 60), none, [8]⟩,
 ⟨some 62, .minmax true (.t 59) [.t 61], none, [3, 4, 5, 6, 7, 8, 9]⟩,
 ⟨some 63, .indexAddr 1 (.t 53) (.t 54), none, [0, 1, 2, 3, 4, 5, 6, 7, 8, 9, 10]⟩,
 ⟨none, .store 1 (.t 63) (.t 62), none, [0, 1, 2, 3, 4, 5, 6, 7, 8, 9, 10, 11]⟩] [49, 52, 53, 54, 55, 56, 57, 58, 59, 60, 61, 62, 63])
 (.region true [
 .o 64 (.fieldAddr 8 (.t 5)),
 ⟨some 65, .load none (.t 64), none, [0]⟩,
 .o 66 (.move (.t 6)),
 .o 67 (.fieldAddr 9 (.t 5)),
 ⟨some 68, .load none (.t 67), none, [3]⟩,
 .o 69 (.move (.t 6)),
 ⟨some 70, .indexAddr 1 (.t 68) (.t 69), none, [3, 4, 5]⟩,
 ⟨some 71, .load none (.t 70), none, [3, 4, 5, 6]⟩,
 ⟨some 72, .indexAddr 1 (.t 65) (.t 66), none, [0, 1, 2, 3, 4, 5, 6, 7]⟩,
 ⟨none, .store 1 (.t 72) (.t 71), none, [0, 1, 2, 3, 4, 5, 6, 7, 8]⟩] [6, 64, 65, 66, 67, 68, 69, 70, 71, 72]))
 (.seq (.region false [
 .o 74 (.fieldAddr 7 (.t 3)),
 .o 75 (.load none (.t 74)),
 .o 76 (.un .not (.t 75)),
 .o 73 (.move (.t 76))] [49, 74, 75, 76])
 (.cond (.t 73)
 (.region true [
 .o 77 (.fieldAddr 8 (.t 5)),
 ⟨some 78, .load none (.t 77), none, [0]⟩,
 .o 79 (.move (.t 6)),
 .o 80 (.fieldAddr 8 (.t 5)),
 ⟨some 81, .load none (.t 80), none, [3]⟩,
 .o 82 (.move (.t 6)),
 ⟨some 83, .indexAddr 1 (.t 81) (.t 82), none, [3, 4, 5]⟩,
 ⟨some 84, .load none (.t 83), none, [3, 4, 5, 6]⟩,
 ⟨some 85, .bin .sub (.t 84) (.i 1), none, [3, 4, 5, 6, 7]⟩,
 .o 86 (.fieldAddr 4 (.t 3)),
 ⟨some 87, .load none (.t 86), none, [9]⟩,
 ⟨some 88, .minmax false (.t 85) [.t 87], none, [3, 4, 5, 6, 7, 8, 9, 10]⟩,
 .o 89 (.fieldAddr 9 (.t 5)),
 ⟨some 90, .load none (.t 89), none, [12]⟩,
 .o 91 (.move (.t 6)),
 ⟨some 92, .indexAddr 1 (.t 90) (.t 91), none, [12, 13, 14]⟩,
 ⟨some 93, .load none (.t 92), none, [12, 13, 14, 15]⟩,
 ⟨some 94, .minmax true (.t 88) [.t 93], none, [3, 4, 5, 6, 7, 8, 9, 10, 11, 12, 13, 14, 15, 16]⟩,
 ⟨some 95, .indexAddr 1 (.t 78) (.t 79), none, [0, 1, 2, 3, 4, 5, 6, 7, 8, 9, 10, 11, 12, 13, 14, 15, 16, 17]⟩,
 ⟨none, .store 1 (.t 95) (.t 94), none, [0, 1, 2, 3, 4, 5, 6, 7, 8, 9, 10, 11, 12, 13, 14, 15, 16, 17, 18]⟩] [6, 73, 77, 78, 79, 80, 81, 82, 83, 84, 85, 86, 87, 88, 89, 90, 91, 92, 93, 94, 95])
 .skip)))))))
 (.seq (.region false [
 .o 96 (.load (some 10) (.t 5)),
 .o 97 (.call false 79 [.t 96]),
 .o 98 (.fieldAddr 6 (.t 5)),
 .u (.store 1 (.t 98) (.t 97))] [6, 73, 96, 97, 98])
 (.seq (.region false [
 .o 99 (.load (some 10) (.t 5)),
 .u (.store 10 (.t 4) (.t 99))] [99])
 .ret)))))))))⟩

@[irreducible] def a103_l0 : ACode :=
  (.seq (.regionK false [
 (.o 20 (.bin .lss (.t 19) (.t 18)), [])])
 (.seq (.cond (.t 20)
 .skip
 (.ghost (.forget [18, 19, 20]) (.exit 0)))
 (.seq (.block 1
 (.seq (.regionK false [
 (.o 21 (.move (.t 19)), [20]),
 (.o 6 (.move (.t 21)), [21])])
 (.regionK false [
 (.o 22 (.move (.t 5)), []),
 (.o 23 (.move (.t 6)), []),
 (.o 24 (.move (.t 5)), []),
 (.o 25 (.move (.t 6)), [6]),
 (.o 26 (.indexAddr 9 (.t 24) (.t 25)), [24, 25]),
 (.o 27 (.load (some 9) (.t 26)), [26]),
 (.o 28 (.call false 97 [.t 27]), [27]),
 (.o 29 (.indexAddr 9 (.t 22) (.t 23)), [22, 23]),
 (.u (.store 9 (.t 29) (.t 28)), [28, 29])])))
 (.regionK false [
 (.o 30 (.bin .add (.t 19) (.i 1)), []),
 (.o 19 (.move (.t 30)), [30])]))))

def a103 : AFunc := ⟨32, 2, [.tmp 4],
  (.seq (.regionK false [
 (.o 4 (.move (.c (.p (.slice true [])))), [4])])
 (.seq (.regionK false [
 (.o 7 (.move (.t 0)), []),
 (.o 8 (.len (.t 7)), [7]),
 (.o 9 (.move (.t 0)), []),
 (.o 10 (.len (.t 9)), [9]),
 (.o 11 (.move (.t 1)), [1]),
 (.o 12 (.bin .add (.t 10) (.t 11)), [10, 11]),
 (.o 13 (.makeSlice zz2 88 (.t 8) (.t 12)), [8, 12]),
 (.o 5 (.move (.t 13)), [13])])
 (.seq (.regionK false [
 (.o 14 (.move (.t 5)), []),
 (.o 15 (.move (.t 0)), [0]),
 (.o 16 (.copy 9 (.t 14) (.t 15)), [14, 15, 16])])
 (.seq (.seq (.regionK false [
 (.o 17 (.move (.t 5)), []),
 (.o 18 (.len (.t 17)), [17]),
 (.o 19 (.move (.i 0)), [])])
 (.block 0
 (.loop
 a103_l0)))
 (.seq (.regionK false [
 (.o 31 (.move (.t 5)), [5]),
 (.o 4 (.move (.t 31)), [31])])
 .ret)))))⟩

@[irreducible] def a105_l0 : ACode :=
  (.seq (.region false [
 .o 12 (.bin .lss (.t 11) (.t 10))] [])
 (.seq (.cond (.t 12)
 .skip
 (.ghost (.forget [1, 9, 10, 11, 12]) (.ghost .lower (.exit 0))))
 (.seq (.block 1
 (.seq (.region false [
 .o 13 (.indexAddr 1 (.t 9) (.t 11)),
 .o 14 (.load none (.t 13)),
 .o 7 (.move (.t 14))] [12, 13, 14])
 (.seq (.region false [
 .o 15 (.move (.t 7)),
 .o 16 (.move (.t 1)),
 .o 17 (.bin .geq (.t 15) (.t 16))] [7, 15, 16])
 (.cond (.t 17)
 (.region false [
 .o 18 (.move (.t 5)),
 .o 19 (.bin .add (.t 18) (.i 1)),
 .o 5 (.move (.t 19))] [17, 18, 19])
 .skip))))
 (.region false [
 .o 20 (.bin .add (.t 11) (.i 1)),
 .o 11 (.move (.t 20))] [17, 20]))))

def a105 : AFunc := ⟨22, 2, [.tmp 4],
  (.seq (.region false [
 .o 2 (.box (.t 0)),
 .o 4 (.move (.i 0))] [0, 4])
 (.seq (.region false [
 .o 5 (.move (.i 0))] [])
 (.seq (.seq (.region false [
 .o 8 (.fieldAddr 9 (.t 2)),
 .o 9 (.load none (.t 8)),
 .o 10 (.len (.t 9)),
 .o 11 (.move (.i 0))] [8])
 (.block 0
 (.loop
 (.ghost (.free [2]) (.ghost .lower a105_l0)))))
 (.seq (.region false [
 .o 21 (.move (.t 5)),
 .o 4 (.move (.t 21))] [5, 21])
 .ret))))⟩

@[irreducible] def a106_l0 : ACode :=
  (.seq (.seq (.regionK false [
 (.o 7 (.move (.t 6)), []),
 (.o 8 (.move (.t 0)), []),
 (.o 9 (.len (.t 8)), [8]),
 (.o 10 (.bin .lss (.t 7) (.t 9)), [7, 9])])
 (.cond (.t 10)
 .skip
 (.ghost (.forget [0, 1, 6, 10]) (.ghost .lower (.exit 0)))))
 (.seq (.block 1
 (.seq (.regionK false [
 (.o 13 (.move (.t 6)), [10]),
 (.o 14 (.move (.t 1)), []),
 (.o 15 (.bin .neq (.t 13) (.t 14)), [13, 14])])
 (.cond (.t 15)
 (.regionK false [
 (.o 16 (.move (.t 5)), [15]),
 (.o 17 (.move (.t 0)), []),
 (.o 18 (.move (.t 6)), []),
 (.o 19 (.indexAddr 9 (.t 17) (.t 18)), [17, 18]),
 (.o 20 (.load (some 9) (.t 19)), [19]),
 (.o 21 (.buildSlice zz2 1 [(0, .t 20)]), [20]),
 (.o 22 (.append 88 9 (.t 16) (.t 21)), [16, 21]),
 (.o 5 (.move (.t 22)), [22])])
 .skip)))
 (.regionK false [
 (.o 11 (.move (.t 6)), [15]),
 (.o 12 (.bin .add (.t 11) (.i 1)), [11]),
 (.o 6 (.move (.t 12)), [12])])))

def a106 : AFunc := ⟨24, 2, [.tmp 4],
  (.seq (.regionK false [
 (.o 4 (.move (.c (.p (.slice true [])))), [4])])
 (.seq (.regionK false [
 (.o 5 (.move (.c (.p (.slice true [])))), [])])
 (.ghost (.own 9 5) (.seq (.seq (.regionK false [
 (.o 6 (.move (.i 0)), [])])
 (.block 0
 (.loop
 (.ghost .lower a106_l0))))
 (.seq (.regionK false [
 (.o 23 (.move (.t 5)), [5]),
 (.o 4 (.move (.t 23)), [23])])
 .ret)))))⟩

def a107 : AFunc := ⟨60, 2, [.cell 4 10, .tmp 5],
  (.seq (.region false [
 .o 2 (.box (.t 0)),
 .o 3 (.box (.t 1)),
 .o 4 (.alloc zz1),
 .o 5 (.move (.c (.p (.slice true []))))] [0, 1, 5])
 (.seq (.seq (.region false [
 .o 7 (.load (some 10) (.t 2)),
 .o 8 (.load (some 9) (.t 3)),
 .o 9 (.call false 121 [.t 7, .t 8, .i 1]),
 .o 10 (.un .not (.t 9))] [7, 8, 9])
 (.cond (.t 10)
 (.seq (.region false [
 .o 11 (.load (some 10) (.t 2)),
 .u (.store 10 (.t 4) (.t 11)),
 .o 5 (.move (.c (.p (.slice true []))))] [10, 11])
 .ret)
 .skip))
 (.seq (.seq (.region false [
 .o 12 (.fieldAddr 3 (.t 3)),
 .o 13 (.load none (.t 12)),
 .o 14 (.fieldAddr 2 (.t 2)),
 .o 15 (.load none (.t 14)),
 .o 16 (.bin .gtr (.t 13) (.t 15))] [10, 12, 13, 14, 15])
 (.cond (.t 16)
 (.region false [
 .o 17 (.load (some 10) (.t 2)),
 .o 18 (.fieldAddr 3 (.t 3)),
 .o 19 (.load none (.t 18)),
 .o 20 (.call false 84 [.t 17, .t 19]),
 .u (.store 10 (.t 2) (.t 20))] [16, 17, 18, 19, 20])
 .skip))
 (.seq (.region false [
 .o 21 (.fieldAddr 3 (.t 3)),
 .o 22 (.load none (.t 21)),
 .o 23 (.fieldAddr 2 (.t 2)),
 .o 24 (.load none (.t 23)),
 .o 25 (.bin .eql (.t 22) (.t 24)),
 .o 26 (.move (.t 25)),
 .g 27 26 true (.fieldAddr 3 (.t 2)) [],
 .g 28 26 true (.load none (.t 27)) [],
 .g 29 26 true (.bin .eql (.t 28) (.i 0)) [],
 .g 30 26 true (.move (.t 29)) [],
 .g 31 30 false (.fieldAddr 3 (.t 2)) [],
 .g 32 30 false (.load none (.t 31)) [],
 .g 33 30 false (.fieldAddr 1 (.t 3)) [],
 .g 34 30 false (.load none (.t 33)) [],
 .g 35 30 false (.bin .eql (.t 32) (.t 34)) [],
 .g 36 26 true (.pick (.t 30) (.b true) (.t 35)) [],
 .o 37 (.pick (.t 26) (.t 36) (.b false)),
 .o 38 (.move (.t 37)),
 .g 39 38 true (.load (some 10) (.t 2)) [],
 .g 40 38 true (.fieldAddr 4 (.t 3)) [],
 .g 41 38 true (.load none (.t 40)) [],
 .g 42 38 true (.fieldAddr 5 (.t 3)) [],
 .g 43 38 true (.load none (.t 42)) [],
 .g 44 38 true (.call false 122 [.t 39, .t 41, .t 43]) [],
 .o 45 (.pick (.t 38) (.t 44) (.b false)),
 .o 6 (.move (.t 45))] [16, 21, 22, 23, 24, 25, 26, 27, 28, 29, 30, 31, 32, 33, 34, 35, 36, 37, 38, 39, 40, 41, 42, 43, 44, 45])
 (.seq (.seq (.region false [
 .o 46 (.move (.t 6))] [])
 (.cond (.t 46)
 (.region false [
 .o 47 (.fieldAddr 1 (.t 3)),
 .o 48 (.load none (.t 47)),
 .o 49 (.fieldAddr 3 (.t 2)),
 .u (.store 1 (.t 49) (.t 48))] [46, 47, 48, 49])
 .skip))
 (.seq (.regionS [(1, 10), (2, 10), (3, 10), (4, 10), (5, 10), (6, 10), (9, 10)] [
 .o 50 (.load (some 10) (.t 2)),
 .o 51 (.fieldAddr 0 (.t 2)),
 ⟨some 52, .load none (.t 51), none, [1]⟩,
 .o 53 (.fieldAddr 1 (.t 3)),
 ⟨some 54, .load none (.t 53), none, [3]⟩,
 .o 55 (.fieldAddr 2 (.t 2)),
 ⟨some 56, .load none (.t 55), none, [5]⟩,
 .o 57 (.move (.t 6)),
 ⟨some 58, .build zz2 [(0, 1, .i 2), (1, 1, .t 52), (2, 1, .t 54), (3, 1, .t 56), (7, 1, .t 57)], none, [1, 2, 3, 4, 5, 6, 7]⟩,
 ⟨some 59, .buildSlice zz2 1 [(0, .t 58)], none, [1, 2, 3, 4, 5, 6, 7, 8]⟩,
 ⟨none, .store 10 (.t 4) (.t 50), none, [0]⟩,
 ⟨some 5, .move (.t 59), none, [0, 1, 2, 3, 4, 5, 6, 7, 8, 9, 10]⟩] [6, 46, 50, 51, 52, 53, 54, 55, 56, 57, 58, 59])
 .ret))))))⟩

def a108 : AFunc := ⟨44, 2, [.cell 4 10, .tmp 5],
  (.seq (.region false [
 .o 2 (.box (.t 0)),
 .o 3 (.box (.t 1)),
 .o 4 (.alloc zz1),
 .o 5 (.move (.c (.p (.slice true []))))] [0, 1, 5])
 (.seq (.seq (.region false [
 .o 6 (.load (some 10) (.t 2)),
 .o 7 (.load (some 9) (.t 3)),
 .o 8 (.call false 121 [.t 6, .t 7, .i 2]),
 .o 9 (.un .not (.t 8))] [6, 7, 8])
 (.cond (.t 9)
 (.seq (.region false [
 .o 10 (.load (some 10) (.t 2)),
 .u (.store 10 (.t 4) (.t 10)),
 .o 5 (.move (.c (.p (.slice true []))))] [9, 10])
 .ret)
 .skip))
 (.seq (.seq (.region false [
 .o 11 (.fieldAddr 3 (.t 3)),
 .o 12 (.load none (.t 11)),
 .o 13 (.fieldAddr 2 (.t 2)),
 .o 14 (.load none (.t 13)),
 .o 15 (.bin .gtr (.t 12) (.t 14))] [9, 11, 12, 13, 14])
 (.cond (.t 15)
 (.seq (.region false [
 .o 16 (.load (some 10) (.t 2)),
 .o 17 (.fieldAddr 3 (.t 3)),
 .o 18 (.load none (.t 17)),
 .o 19 (.call false 84 [.t 16, .t 18]),
 .u (.store 10 (.t 4) (.t 19)),
 .o 5 (.move (.c (.p (.slice true []))))] [15, 16, 17, 18, 19])
 .ret)
 .skip))
 (.seq (.seq (.region false [
 .o 20 (.fieldAddr 3 (.t 3)),
 .o 21 (.load none (.t 20)),
 .o 22 (.fieldAddr 2 (.t 2)),
 .o 23 (.load none (.t 22)),
 .o 24 (.bin .lss (.t 21) (.t 23)),
 .o 25 (.move (.t 24)),
 .g 26 25 false (.fieldAddr 5 (.t 2)) [],
 .g 27 25 false (.load none (.t 26)) [],
 .g 28 25 false (.bin .neq (.t 27) (.i 2)) [],
 .o 29 (.pick (.t 25) (.b true) (.t 28)),
 .o 30 (.move (.t 29)),
 .g 31 30 false (.fieldAddr 7 (.t 3)) [],
 .g 32 30 false (.load none (.t 31)) [],
 .g 33 30 false (.un .not (.t 32)) [],
 .o 34 (.pick (.t 30) (.b true) (.t 33))] [15, 20, 21, 22, 23, 24, 25, 26, 27, 28, 29, 30, 31, 32, 33])
 (.cond (.t 34)
 (.seq (.region false [
 .o 35 (.load (some 10) (.t 2)),
 .u (.store 10 (.t 4) (.t 35)),
 .o 5 (.move (.c (.p (.slice true []))))] [34, 35])
 .ret)
 .skip))
 (.seq (.region false [
 .o 36 (.fieldAddr 7 (.t 2)),
 .o 37 (.load none (.t 36)),
 .o 38 (.fieldAddr 1 (.t 3)),
 .o 39 (.load none (.t 38)),
 .o 40 (.call false 123 [.t 37, .t 39]),
 .o 41 (.fieldAddr 7 (.t 2)),
 .u (.store 1 (.t 41) (.t 40))] [34, 36, 37, 38, 39, 40, 41])
 (.seq (.region false [
 .o 42 (.load (some 10) (.t 2)),
 .o 43 (.call false 86 [.t 42]),
 .u (.store 10 (.t 4) (.t 43)),
 .o 5 (.move (.c (.p (.slice true []))))] [42, 43])
 .ret))))))⟩

@[irreducible] def a109_l0 : ACode :=
  (.seq (.seq (.region true [
 .o 74 (.move (.t 6)),
 .o 75 (.fieldAddr 8 (.t 3)),
 ⟨some 76, .load none (.t 75), none, [1]⟩,
 ⟨some 77, .len (.t 76), none, [1, 2]⟩,
 ⟨some 78, .bin .lss (.t 74) (.t 77), none, [0, 1, 2, 3]⟩,
 ⟨some 79, .move (.t 78), none, [0, 1, 2, 3, 4]⟩,
 .g 80 79 true (.fieldAddr 4 (.t 3)) [0, 1, 2, 3, 4, 5],
 .g 81 79 true (.load none (.t 80)) [0, 1, 2, 3, 4, 5, 6],
 .g 82 79 true (.move (.t 6)) [0, 1, 2, 3, 4, 5],
 .g 83 79 true (.bin .add (.t 81) (.t 82)) [0, 1, 2, 3, 4, 5, 6, 7, 8],
 .g 84 79 true (.fieldAddr 4 (.t 2)) [0, 1, 2, 3, 4, 5],
 .g 85 79 true (.load none (.t 84)) [0, 1, 2, 3, 4, 5, 10],
 .g 86 79 true (.len (.t 85)) [0, 1, 2, 3, 4, 5, 10, 11],
 .g 87 79 true (.bin .lss (.t 83) (.t 86)) [0, 1, 2, 3, 4, 5, 6, 7, 8, 9, 10, 11, 12],
 ⟨some 88, .pick (.t 79) (.t 87) (.b false), none, [0, 1, 2, 3, 4, 5, 6, 7, 8, 9, 10, 11, 12, 13]⟩,
 ⟨some 89, .move (.t 88), none, [0, 1, 2, 3, 4, 5, 6, 7, 8, 9, 10, 11, 12, 13, 14]⟩,
 .g 90 89 true (.fieldAddr 4 (.t 2)) [0, 1, 2, 3, 4, 5, 6, 7, 8, 9, 10, 11, 12, 13, 14, 15],
 .g 91 89 true (.load none (.t 90)) [0, 1, 2, 3, 4, 5, 6, 7, 8, 9, 10, 11, 12, 13, 14, 15, 16],
 .g 92 89 true (.fieldAddr 4 (.t 3)) [0, 1, 2, 3, 4, 5, 6, 7, 8, 9, 10, 11, 12, 13, 14, 15],
 .g 93 89 true (.load none (.t 92)) [0, 1, 2, 3, 4, 5, 6, 7, 8, 9, 10, 11, 12, 13, 14, 15, 18],
 .g 94 89 true (.move (.t 6)) [0, 1, 2, 3, 4, 5, 6, 7, 8, 9, 10, 11, 12, 13, 14, 15],
 .g 95 89 true (.bin .add (.t 93) (.t 94)) [0, 1, 2, 3, 4, 5, 6, 7, 8, 9, 10, 11, 12, 13, 14, 15, 18, 19, 20],
 .g 96 89 true (.indexAddr 2 (.t 91) (.t 95)) [0, 1, 2, 3, 4, 5, 6, 7, 8, 9, 10, 11, 12, 13, 14, 15, 16, 17, 18, 19, 20, 21],
 .g 97 89 true (.load (some 2) (.t 96)) [0, 1, 2, 3, 4, 5, 6, 7, 8, 9, 10, 11, 12, 13, 14, 15, 16, 17, 18, 19, 20, 21, 22],
 .g 98 89 true (.fieldAddr 8 (.t 3)) [0, 1, 2, 3, 4, 5, 6, 7, 8, 9, 10, 11, 12, 13, 14, 15],
 .g 99 89 true (.load none (.t 98)) [0, 1, 2, 3, 4, 5, 6, 7, 8, 9, 10, 11, 12, 13, 14, 15, 24],
 .g 100 89 true (.move (.t 6)) [0, 1, 2, 3, 4, 5, 6, 7, 8, 9, 10, 11, 12, 13, 14, 15],
 .g 101 89 true (.indexAddr 2 (.t 99) (.t 100)) [0, 1, 2, 3, 4, 5, 6, 7, 8, 9, 10, 11, 12, 13, 14, 15, 24, 25, 26],
 .g 102 89 true (.load (some 2) (.t 101)) [0, 1, 2, 3, 4, 5, 6, 7, 8, 9, 10, 11, 12, 13, 14, 15, 24, 25, 26, 27],
 .g 103 89 true (.eqagg false [(0, 0), (1, 2)] (.t 97) (.t 102)) [0, 1, 2, 3, 4, 5, 6, 7, 8, 9, 10, 11, 12, 13, 14, 15, 16, 17, 18, 19, 20, 21, 22, 23, 24, 25, 26, 27, 28],
 ⟨some 104, .pick (.t 89) (.t 103) (.b false), none, [0, 1, 2, 3, 4, 5, 6, 7, 8, 9, 10, 11, 12, 13, 14, 15, 16, 17, 18, 19, 20, 21, 22, 23, 24, 25, 26, 27, 28, 29]⟩] [74, 75, 76, 77, 78, 79, 80, 81, 82, 83, 84, 85, 86, 87, 88, 89, 90, 91, 92, 93, 94, 95, 96, 97, 98, 99, 100, 101, 102, 103])
 (.cond (.t 104)
 .skip
 (.ghost (.forget [104]) (.ghost .lower (.exit 0)))))
 (.block 1
 (.region false [
 .o 105 (.move (.t 6)),
 .o 106 (.bin .add (.t 105) (.i 1)),
 .o 6 (.move (.t 106))] [104, 105, 106])))

def a109 : AFunc := ⟨163, 2, [.cell 4 10, .tmp 5],
  (.seq (.region false [
 .o 2 (.box (.t 0)),
 .o 3 (.box (.t 1)),
 .o 4 (.alloc zz1),
 .o 5 (.move (.c (.p (.slice true []))))] [0, 1, 5])
 (.seq (.seq (.region false [
 .o 8 (.load (some 10) (.t 2)),
 .o 9 (.load (some 9) (.t 3)),
 .o 10 (.call false 124 [.t 8, .t 9, .i 3]),
 .o 11 (.un .not (.t 10))] [8, 9, 10])
 (.cond (.t 11)
 (.seq (.region false [
 .o 12 (.load (some 10) (.t 2)),
 .u (.store 10 (.t 4) (.t 12)),
 .o 5 (.move (.c (.p (.slice true []))))] [11, 12])
 .ret)
 .skip))
 (.seq (.seq (.region false [
 .o 13 (.fieldAddr 3 (.t 3)),
 .o 14 (.load none (.t 13)),
 .o 15 (.fieldAddr 2 (.t 2)),
 .o 16 (.load none (.t 15)),
 .o 17 (.bin .lss (.t 14) (.t 16))] [11, 13, 14, 15, 16])
 (.cond (.t 17)
 (.seq (.region true [
 .o 18 (.load (some 10) (.t 2)),
 .o 19 (.load (some 10) (.t 2)),
 .o 20 (.fieldAddr 1 (.t 3)),
 ⟨some 21, .load none (.t 20), none, [2]⟩,
 ⟨some 22, .call false 125 [.t 19, .t 21, .i 0, .b false], none, [1, 2, 3]⟩,
 ⟨none, .store 10 (.t 4) (.t 18), none, [0, 1, 2, 3, 4]⟩,
 ⟨some 5, .move (.t 22), none, [0, 1, 2, 3, 4, 5]⟩] [17, 18, 19, 20, 21, 22])
 .ret)
 .skip))
 (.seq (.seq (.region false [
 .o 23 (.fieldAddr 3 (.t 3)),
 .o 24 (.load none (.t 23)),
 .o 25 (.fieldAddr 2 (.t 2)),
 .o 26 (.load none (.t 25)),
 .o 27 (.bin .gtr (.t 24) (.t 26))] [17, 23, 24, 25, 26])
 (.cond (.t 27)
 (.region false [
 .o 28 (.load (some 10) (.t 2)),
 .o 29 (.fieldAddr 3 (.t 3)),
 .o 30 (.load none (.t 29)),
 .o 31 (.call false 126 [.t 28, .t 30]),
 .u (.store 10 (.t 2) (.t 31))] [27, 28, 29, 30, 31])
 .skip))
 (.seq (.seq (.region false [
 .o 32 (.fieldAddr 5 (.t 2)),
 .o 33 (.load none (.t 32)),
 .o 34 (.bin .eql (.t 33) (.i 3))] [27, 32, 33])
 (.cond (.t 34)
 (.seq (.region false [
 .o 35 (.load (some 10) (.t 2)),
 .u (.store 10 (.t 4) (.t 35)),
 .o 5 (.move (.c (.p (.slice true []))))] [34, 35])
 .ret)
 .skip))
 (.seq (.region false [
 .o 36 (.fieldAddr 5 (.t 2)),
 .u (.store 1 (.t 36) (.i 1))] [34, 36])
 (.seq (.region false [
 .o 37 (.fieldAddr 7 (.t 2)),
 .u (.store 1 (.t 37) (.c (.p (.slice true []))))] [37])
 (.seq (.seq (.region true [
 .o 38 (.fieldAddr 4 (.t 2)),
 ⟨some 39, .load none (.t 38), none, [0]⟩,
 ⟨some 40, .len (.t 39), none, [0, 1]⟩,
 .o 41 (.fieldAddr 4 (.t 3)),
 ⟨some 42, .load none (.t 41), none, [3]⟩,
 ⟨some 43, .bin .lss (.t 40) (.t 42), none, [0, 1, 2, 3, 4]⟩,
 ⟨some 44, .move (.t 43), none, [0, 1, 2, 3, 4, 5]⟩,
 .g 45 44 false (.fieldAddr 4 (.t 3)) [0, 1, 2, 3, 4, 5, 6],
 .g 46 44 false (.load none (.t 45)) [0, 1, 2, 3, 4, 5, 6, 7],
 .g 47 44 false (.bin .gtr (.t 46) (.i 0)) [0, 1, 2, 3, 4, 5, 6, 7, 8],
 .g 48 44 false (.move (.t 47)) [0, 1, 2, 3, 4, 5, 6, 7, 8, 9],
 .g 49 48 true (.fieldAddr 4 (.t 2)) [0, 1, 2, 3, 4, 5, 6, 7, 8, 9, 10],
 .g 50 48 true (.load none (.t 49)) [0, 1, 2, 3, 4, 5, 6, 7, 8, 9, 10, 11],
 .g 51 48 true (.fieldAddr 4 (.t 3)) [0, 1, 2, 3, 4, 5, 6, 7, 8, 9, 10],
 .g 52 48 true (.load none (.t 51)) [0, 1, 2, 3, 4, 5, 6, 7, 8, 9, 10, 13],
 .g 53 48 true (.bin .sub (.t 52) (.i 1)) [0, 1, 2, 3, 4, 5, 6, 7, 8, 9, 10, 13, 14],
 .g 54 48 true (.indexAddr 2 (.t 50) (.t 53)) [0, 1, 2, 3, 4, 5, 6, 7, 8, 9, 10, 11, 12, 13, 14, 15],
 .g 55 48 true (.fieldAddr 0 (.t 54)) [0, 1, 2, 3, 4, 5, 6, 7, 8, 9, 10, 11, 12, 13, 14, 15, 16],
 .g 56 48 true (.load none (.t 55)) [0, 1, 2, 3, 4, 5, 6, 7, 8, 9, 10, 11, 12, 13, 14, 15, 16, 17],
 .g 57 48 true (.fieldAddr 5 (.t 3)) [0, 1, 2, 3, 4, 5, 6, 7, 8, 9, 10],
 .g 58 48 true (.load none (.t 57)) [0, 1, 2, 3, 4, 5, 6, 7, 8, 9, 10, 19],
 .g 59 48 true (.bin .neq (.t 56) (.t 58)) [0, 1, 2, 3, 4, 5, 6, 7, 8, 9, 10, 11, 12, 13, 14, 15, 16, 17, 18, 19, 20],
 .g 60 44 false (.pick (.t 48) (.t 59) (.b false)) [0, 1, 2, 3, 4, 5, 6, 7, 8, 9, 10, 11, 12, 13, 14, 15, 16, 17, 18, 19, 20, 21],
 ⟨some 61, .pick (.t 44) (.b true) (.t 60), none, [0, 1, 2, 3, 4, 5, 6, 7, 8, 9, 10, 11, 12, 13, 14, 15, 16, 17, 18, 19, 20, 21, 22]⟩] [38, 39, 40, 41, 42, 43, 44, 45, 46, 47, 48, 49, 50, 51, 52, 53, 54, 55, 56, 57, 58, 59, 60])
 (.cond (.t 61)
 (.seq (.region true [
 .o 62 (.load (some 10) (.t 2)),
 .o 63 (.load (some 10) (.t 2)),
 .o 64 (.fieldAddr 1 (.t 3)),
 ⟨some 65, .load none (.t 64), none, [2]⟩,
 .o 66 (.fieldAddr 4 (.t 2)),
 ⟨some 67, .load none (.t 66), none, [4]⟩,
 ⟨some 68, .len (.t 67), none, [4, 5]⟩,
 .o 69 (.fieldAddr 4 (.t 3)),
 ⟨some 70, .load none (.t 69), none, [7]⟩,
 ⟨some 71, .bin .sub (.t 70) (.i 1), none, [7, 8]⟩,
 ⟨some 72, .minmax false (.t 68) [.t 71], none, [4, 5, 6, 7, 8, 9]⟩,
 ⟨some 73, .call false 125 [.t 63, .t 65, .t 72, .b false], none, [1, 2, 3, 4, 5, 6, 7, 8, 9, 10]⟩,
 ⟨none, .store 10 (.t 4) (.t 62), none, [0, 1, 2, 3, 4, 5, 6, 7, 8, 9, 10, 11]⟩,
 ⟨some 5, .move (.t 73), none, [0, 1, 2, 3, 4, 5, 6, 7, 8, 9, 10, 11, 12]⟩] [61, 62, 63, 64, 65, 66, 67, 68, 69, 70, 71, 72, 73])
 .ret)
 .skip))
 (.seq (.region false [
 .o 6 (.move (.i 0))] [61])
 (.seq (.block 0
 (.loop
 (.ghost .lower a109_l0)))
 (.seq (.region false [
 .o 107 (.fieldAddr 4 (.t 3)),
 .o 108 (.load none (.t 107)),
 .o 109 (.fieldAddr 8 (.t 3)),
 .o 110 (.load none (.t 109)),
 .o 111 (.len (.t 110)),
 .o 112 (.bin .add (.t 108) (.t 111)),
 .o 7 (.move (.t 112))] [107, 108, 109, 110, 111, 112])
 (.seq (.seq (.region false [
 .o 113 (.move (.t 7)),
 .o 114 (.bin .gtr (.t 113) (.i 256)),
 .o 115 (.move (.t 114)),
 .g 116 115 false (.move (.t 6)) [],
 .g 117 115 false (.fieldAddr 8 (.t 3)) [],
 .g 118 115 false (.load none (.t 117)) [],
 .g 119 115 false (.len (.t 118)) [],
 .g 120 115 false (.bin .lss (.t 116) (.t 119)) [],
 .g 121 115 false (.move (.t 120)) [],
 .g 122 121 true (.fieldAddr 4 (.t 3)) [],
 .g 123 121 true (.load none (.t 122)) [],
 .g 124 121 true (.move (.t 6)) [],
 .g 125 121 true (.bin .add (.t 123) (.t 124)) [],
 .g 126 121 true (.fieldAddr 6 (.t 2)) [],
 .g 127 121 true (.load none (.t 126)) [],
 .g 128 121 true (.bin .lss (.t 125) (.t 127)) [],
 .g 129 115 false (.pick (.t 121) (.t 128) (.b false)) [],
 .o 130 (.pick (.t 115) (.b true) (.t 129))] [113, 114, 115, 116, 117, 118, 119, 120, 121, 122, 123, 124, 125, 126, 127, 128, 129])
 (.cond (.t 130)
 (.seq (.region false [
 .o 131 (.load (some 10) (.t 2)),
 .u (.store 10 (.t 4) (.t 131)),
 .o 5 (.move (.c (.p (.slice true []))))] [6, 7, 130, 131])
 .ret)
 .skip))
 (.seq (.seq (.region false [
 .o 132 (.move (.t 6)),
 .o 133 (.fieldAddr 8 (.t 3)),
 .o 134 (.load none (.t 133)),
 .o 135 (.len (.t 134)),
 .o 136 (.bin .lss (.t 132) (.t 135))] [130, 132, 133, 134, 135])
 (.cond (.t 136)
 (.region true [
 .o 137 (.fieldAddr 4 (.t 2)),
 ⟨some 138, .load none (.t 137), none, [0]⟩,
 .o 139 (.fieldAddr 4 (.t 3)),
 ⟨some 140, .load none (.t 139), none, [2]⟩,
 .o 141 (.move (.t 6)),
 ⟨some 142, .bin .add (.t 140) (.t 141), none, [2, 3, 4]⟩,
 .o 143 (.fieldAddr 8 (.t 3)),
 ⟨some 144, .load none (.t 143), none, [6]⟩,
 .o 145 (.move (.t 6)),
 ⟨some 146, .slice 2 (.t 144) (some (.t 145)) none none, none, [6, 7, 8]⟩,
 ⟨some 147, .call false 89 [.t 138, .t 142, .t 146], none, [0, 1, 2, 3, 4, 5, 6, 7, 8, 9]⟩,
 ⟨some 148, .fieldAddr 4 (.t 2), none, [0, 1, 2, 3, 4, 5, 6, 7, 8, 9, 10]⟩,
 ⟨none, .store 1 (.t 148) (.t 147), none, [0, 1, 2, 3, 4, 5, 6, 7, 8, 9, 10, 11]⟩] [6, 136, 137, 138, 139, 140, 141, 142, 143, 144, 145, 146, 147, 148])
 .skip))
 (.seq (.region false [
 .o 149 (.fieldAddr 6 (.t 2)),
 .o 150 (.load none (.t 149)),
 .o 151 (.fieldAddr 6 (.t 3)),
 .o 152 (.load none (.t 151)),
 .o 153 (.move (.t 7)),
 .o 154 (.minmax false (.t 152) [.t 153]),
 .o 155 (.minmax true (.t 150) [.t 154]),
 .o 156 (.fieldAddr 6 (.t 2)),
 .u (.store 1 (.t 156) (.t 155))] [6, 136, 149, 150, 151, 152, 153, 154, 155, 156])
 (.seq (.region true [
 .o 157 (.load (some 10) (.t 2)),
 .o 158 (.load (some 10) (.t 2)),
 .o 159 (.fieldAddr 1 (.t 3)),
 ⟨some 160, .load none (.t 159), none, [2]⟩,
 .o 161 (.move (.t 7)),
 ⟨some 162, .call false 125 [.t 158, .t 160, .t 161, .b true], none, [1, 2, 3, 4]⟩,
 ⟨none, .store 10 (.t 4) (.t 157), none, [0, 1, 2, 3, 4, 5]⟩,
 ⟨some 5, .move (.t 162), none, [0, 1, 2, 3, 4, 5, 6]⟩] [7, 157, 158, 159, 160, 161, 162])
 .ret)))))))))))))))⟩

end Go.Dv.Tryz
