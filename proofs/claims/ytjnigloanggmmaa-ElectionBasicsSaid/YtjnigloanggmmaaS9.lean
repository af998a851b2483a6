/-
  Specifications, part 9: how many have so many items; the commit rule (both texts); lists with another element, longer logs.
-/
import Derived.Test.YtjnigloanggmmaaS8
set_option linter.unusedVariables false
set_option linter.unusedSimpArgs false
set_option maxRecDepth 100000
set_option maxHeartbeats 4000000
namespace Go.Dv.Try
open Go Go.Dv

def itTerm (l : List (Int × ByteArray)) (i : Nat) : Int := (l.getD i (0, ByteArray.empty)).1

theorem itTerm_eq (l : List (Int × ByteArray)) (i : Nat) (h : i < l.length) : itTerm l i = l[i].1 := by simp [itTerm, List.getD, h]

end Go.Dv.Try
