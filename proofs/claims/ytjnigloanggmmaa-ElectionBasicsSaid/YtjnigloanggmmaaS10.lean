/-
  Specifications, part 10: the commit rule in the second text; lists with another element, longer logs.
-/
import Derived.Test.YtjnigloanggmmaaS9
set_option linter.unusedVariables false
set_option linter.unusedSimpArgs false
set_option maxRecDepth 100000
set_option maxHeartbeats 4000000
namespace Go.Dv.Try
open Go Go.Dv

/-- A member of zeros. -/
def zC : List PV := [.int .i64 0, .int .i64 0, .int .i64 0, .int .i64 0, .slice true [], .int .i64 0, .int .i64 0, .slice true [], .slice true [], .slice true []]

theorem itemsPV_take (a : List (Int × ByteArray)) (n : Nat) : (itemsPV a).take n = itemsPV (a.take n) := by simp [itemsPV, List.map_take]

theorem itemsPV_sz (a : List (Int × ByteArray)) : allSz 2 (itemsPV a) = true := by simp [allSz, itemsPV, itemPV]

theorem intsPV_append (a b : List Int) : intsPV a ++ intsPV b = intsPV (a ++ b) := by simp [intsPV]

theorem intsPV_take (a : List Int) (n : Nat) : (intsPV a).take n = intsPV (a.take n) := by simp [intsPV, List.map_take]

theorem intsPV_nil : intsPV [] = [] := rfl

theorem intsPV_sz (a : List Int) : allSz 1 (intsPV a) = true := by simp [allSz, intsPV, intPV]

theorem maxB (n : Nat) (h : n ≤ 140737488355328) : (n ≤ maxBytes) = True := by simp [maxBytes, h]

end Go.Dv.Try
