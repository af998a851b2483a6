/-
  Specifications, part 12: Propose (both texts).
-/
import Derived.Test.YtjnigloanggmmaaS11
set_option linter.unusedVariables false
set_option linter.unusedSimpArgs false
set_option maxRecDepth 100000
set_option maxHeartbeats 4000000
namespace Go.Dv.Try
open Go Go.Dv

/-- A member that is small enough, with what is sure of any. -/
structure MFew (m : M) : Prop extends MIn m where
  few1 : m.log.length ≤ 300
  few2 : m.votes.length ≤ 40
  few3 : m.next.length ≤ 40
  few4 : m.mtch.length ≤ 40

theorem fresh_of {H : Heap} {n : Nat} (h : H.all (fun x => decide (x.1 < n)) = true) : ∀ j, n ≤ j → aget H j = none := by
  intro j hj
  cases hx : aget H j with
  | none => rfl
  | some b =>
    have := List.all_eq_true.1 h _ (aget_mem _ _ _ hx)
    simp at this; omega

def zeroM : M := ⟨0, 0, 0, 0, [], 0, 0, [], [], []⟩

end Go.Dv.Try
