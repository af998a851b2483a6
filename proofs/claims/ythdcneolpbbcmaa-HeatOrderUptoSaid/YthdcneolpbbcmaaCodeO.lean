/-
  The annotated functions of this seat. Printed by wip/gen.py.
-/
import Derived.Test.YthdcneolpbbcmaaWalk
set_option linter.unusedVariables false
set_option maxRecDepth 100000
namespace Go.Dv.Try0
open Go Go.Dv


/-- clockwork/heat.hotter -/
def a23 : AFunc := ⟨17, 2, [.tmp 4],
  (.seq (.regionK false [
 (.o 2 (.box (.t 0)), [0]),
 (.o 3 (.box (.t 1)), [1]),
 (.o 4 (.move (.i 0)), [4])])
 (.seq (.regionK true [
 (.o 5 (.fieldAddr 1 (.t 3)), []),
 (⟨some 6, .load none (.t 5), none, [0]⟩, [5]),
 (.o 7 (.fieldAddr 1 (.t 2)), []),
 (⟨some 8, .load none (.t 7), none, [2]⟩, [7]),
 (⟨some 9, .call false 41 [.t 6, .t 8], none, [0, 1, 2, 3]⟩, [6, 8]),
 (.o 10 (.fieldAddr 0 (.t 2)), []),
 (⟨some 11, .load none (.t 10), none, [5]⟩, [10]),
 (.o 12 (.fieldAddr 0 (.t 3)), []),
 (⟨some 13, .load none (.t 12), none, [7]⟩, [12]),
 (⟨some 14, .call false 25 [.t 11, .t 13], none, [0, 1, 2, 3, 4, 5, 6, 7, 8]⟩, [11, 13]),
 (⟨some 15, .buildSlice [.int .i64 0] 2 [(0, .t 9), (1, .t 14)], none, [0, 1, 2, 3, 4, 5, 6, 7, 8, 9]⟩, [9, 14]),
 (⟨some 16, .call false 40 [.t 15], none, [0, 1, 2, 3, 4, 5, 6, 7, 8, 9, 10]⟩, [15]),
 (⟨some 4, .move (.t 16), none, [0, 1, 2, 3, 4, 5, 6, 7, 8, 9, 10, 11]⟩, [16])])
 .ret))⟩

/-- clockwork/heat.Touch$1 -/
def a24 : AFunc := ⟨10, 2, [.tmp 4],
  (.seq (.regionK false [
 (.o 2 (.box (.t 0)), [0]),
 (.o 3 (.box (.t 1)), [1]),
 (.o 4 (.move (.i 0)), [4])])
 (.seq (.regionK false [
 (.o 5 (.fieldAddr 0 (.t 2)), []),
 (.o 6 (.load none (.t 5)), [5]),
 (.o 7 (.fieldAddr 0 (.t 3)), []),
 (.o 8 (.load none (.t 7)), [7]),
 (.o 9 (.call false 25 [.t 6, .t 8]), [6, 8]),
 (.o 4 (.move (.t 9)), [9])])
 .ret))⟩

/-- cmp.Or[int] -/
@[irreducible] def a40_l0 : ACode :=
  (.seq (.regionK false [
 (.o 9 (.bin .lss (.t 8) (.t 7)), [])])
 (.seq (.cond (.t 9)
 .skip
 (.ghost (.forget [6, 7, 8, 9]) (.ghost .lower (.exit 0))))
 (.seq (.block 1
 (.seq (.regionK false [
 (.o 10 (.indexAddr 1 (.t 6) (.t 8)), [9]),
 (.o 11 (.load none (.t 10)), [10]),
 (.o 5 (.move (.t 11)), [11])])
 (.seq (.regionK false [
 (.o 12 (.move (.t 5)), []),
 (.o 13 (.move (.t 3)), []),
 (.o 14 (.bin .neq (.t 12) (.t 13)), [12, 13])])
 (.cond (.t 14)
 (.seq (.regionK false [
 (.o 15 (.move (.t 5)), [3, 5, 6, 7, 8, 14]),
 (.o 2 (.move (.t 15)), [15])])
 .ret)
 .skip))))
 (.regionK false [
 (.o 16 (.bin .add (.t 8) (.i 1)), [5, 14]),
 (.o 8 (.move (.t 16)), [16])]))))

def a40 : AFunc := ⟨18, 1, [.tmp 2],
  (.seq (.regionK false [
 (.o 2 (.move (.i 0)), [2])])
 (.seq (.regionK false [
 (.o 3 (.move (.i 0)), [])])
 (.seq (.seq (.regionK false [
 (.o 6 (.move (.t 0)), [0]),
 (.o 7 (.len (.t 6)), []),
 (.o 8 (.move (.i 0)), [])])
 (.block 0
 (.loop
 (.ghost .lower a40_l0))))
 (.seq (.regionK false [
 (.o 17 (.move (.t 3)), [3]),
 (.o 2 (.move (.t 17)), [17])])
 .ret))))⟩

/-- cmp.Compare[int64] -/
def a41 : AFunc := ⟨20, 2, [.tmp 4],
  (.seq (.regionK false [
 (.o 4 (.move (.i 0)), [4])])
 (.seq (.regionK false [
 (.o 7 (.move (.t 0)), []),
 (.o 8 (.call false 58 [.t 7]), [7]),
 (.o 5 (.move (.t 8)), [8])])
 (.seq (.regionK false [
 (.o 9 (.move (.t 1)), []),
 (.o 10 (.call false 58 [.t 9]), [9]),
 (.o 6 (.move (.t 10)), [10])])
 (.seq (.seq (.regionK false [
 (.o 11 (.move (.t 5)), [5])])
 (.cond (.t 11)
 (.seq (.seq (.regionK false [
 (.o 12 (.move (.t 6)), [0, 1, 6, 11])])
 (.cond (.t 12)
 (.seq (.regionK false [
 (.o 4 (.move (.i 0)), [12])])
 .ret)
 .skip))
 (.seq (.regionK false [
 (.o 4 (.move (.i (-1))), [12])])
 .ret))
 .skip))
 (.seq (.seq (.regionK false [
 (.o 13 (.move (.t 6)), [6, 11])])
 (.cond (.t 13)
 (.seq (.regionK false [
 (.o 4 (.move (.i 1)), [0, 1, 13])])
 .ret)
 .skip))
 (.seq (.seq (.regionK false [
 (.o 14 (.move (.t 0)), [13]),
 (.o 15 (.move (.t 1)), []),
 (.o 16 (.bin .lss (.t 14) (.t 15)), [14, 15])])
 (.cond (.t 16)
 (.seq (.regionK false [
 (.o 4 (.move (.i (-1))), [0, 1, 16])])
 .ret)
 .skip))
 (.seq (.seq (.regionK false [
 (.o 17 (.move (.t 0)), [0, 16]),
 (.o 18 (.move (.t 1)), [1]),
 (.o 19 (.bin .gtr (.t 17) (.t 18)), [17, 18])])
 (.cond (.t 19)
 (.seq (.regionK false [
 (.o 4 (.move (.i 1)), [19])])
 .ret)
 .skip))
 (.seq (.regionK false [
 (.o 4 (.move (.i 0)), [19])])
 .ret))))))))⟩

/-- cmp.isNaN[int64] -/
def a58 : AFunc := ⟨6, 1, [.tmp 2],
  (.seq (.regionK false [
 (.o 2 (.move (.b false)), [2])])
 (.seq (.regionK false [
 (.o 3 (.move (.t 0)), []),
 (.o 4 (.move (.t 0)), [0]),
 (.o 5 (.bin .neq (.t 3) (.t 4)), [3, 4]),
 (.o 2 (.move (.t 5)), [5])])
 .ret))⟩


end Go.Dv.Try0
