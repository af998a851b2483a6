/-
  Specifications of the functions of this claim, parts 37.
-/
import Derived.Test.YtjnigloanggmmaaTab
import Derived.Test.YtjnigloanggmmaaStep
import Derived.Test.YtjnigloanggmmaaS1
import Derived.Test.YtjnigloanggmmaaS7
import Derived.Test.YtjnigloanggmmaaS24
set_option linter.unusedVariables false
set_option linter.unusedSimpArgs false
set_option maxRecDepth 100000
set_option maxHeartbeats 16000000
namespace Go.Dv.Try
open Go Go.Dv

theorem lists_of {a : M} (h : okM a = true) : a.votes.length ≤ 40 ∧ a.next.length ≤ 40 ∧ a.mtch.length ≤ 40 := by
  obtain ⟨hh, hr⟩ := (okM_iff a).1 h
  have := hh.me1; have := hh.me2
  rcases hr with ⟨_, h1, h2, h3⟩ | ⟨_, _, _, h1, h2, h3⟩ | ⟨_, _, _, h1, h2⟩
  · rw [h1, h2, h3]; simp
  · rw [h2, h3]
    simp only [okVotes, Bool.and_eq_true, decide_eq_true_eq] at h1
    have : maj a.members ≤ 4 := by unfold maj; split <;> omega
    have : a.votes.length ≤ 40 := by omega
    simp [this]
  · rw [h1]
    simp only [okProg, Bool.and_eq_true, decide_eq_true_eq] at h2
    simp; omega

end Go.Dv.Try
