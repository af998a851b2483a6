/-
  Specifications of the functions of this claim, parts 20.
-/
import Derived.Test.YtjnigloanggmmaaTab
import Derived.Test.YtjnigloanggmmaaStep
import Derived.Test.YtjnigloanggmmaaS1
import Derived.Test.YtjnigloanggmmaaS7
import Derived.Test.YtjnigloanggmmaaS8
import Derived.Test.YtjnigloanggmmaaS12
import Derived.Test.YtjnigloanggmmaaS16
import Derived.Test.YtjnigloanggmmaaS18
set_option linter.unusedVariables false
set_option linter.unusedSimpArgs false
set_option maxRecDepth 100000
set_option maxHeartbeats 16000000
namespace Go.Dv.Try
open Go Go.Dv

theorem ps52 (m : M) (f : Fl) (x : X) (q : Bool) (hm : MFew m) (hi : x.items.length ≤ 300) : ∃ g, PS tb 52 [.agg (mC m f), .agg (xC x q)] (.tuple [.agg (mC (appR m x).1 g), .slice true (optRows true (appR m x).2)]) := by
  cases hc : concernsX m x 3 with
  | false => exact ps52a m f x q hm hi hc
  | true =>
    by_cases ht : x.term < m.term
    · exact ps52b m f x q hm hi hc ht
    · by_cases hu : m.term < x.term
      · by_cases hk : (m.log.length : Int) < x.index
        · exact ps52A1 m f x q hm hi hc ht hu hk
        · by_cases hz : x.index = 0 ∨ termN m.log x.index = x.logTerm
          · by_cases he : 256 < x.index + (x.items.length : Int)
            · exact ps52A3 m f x q hm hi hc ht hu hk hz he
            · by_cases hs : (sameX m x : Int) < (x.items.length : Int)
              · by_cases hw : x.index + (sameX m x : Int) < m.commit
                · exact ps52A4 m f x q hm hi hc ht hu hk hz he hs hw
                · exact ps52A5 m f x q hm hi hc ht hu hk hz he hs hw
              · exact ps52A6 m f x q hm hi hc ht hu hk hz he hs
          · exact ps52A2 m f x q hm hi hc ht hu hk (fun h => hz (.inl h)) (fun h => hz (.inr h))
      · by_cases hr : m.role = 3
        · exact ps52c m f x q hm hi hc ht hu hr
        · by_cases hk : (m.log.length : Int) < x.index
          · exact ps52C1 m f x q hm hi hc ht hu hr hk
          · by_cases hz : x.index = 0 ∨ termN m.log x.index = x.logTerm
            · by_cases he : 256 < x.index + (x.items.length : Int)
              · exact ps52C3 m f x q hm hi hc ht hu hr hk hz he
              · by_cases hs : (sameX m x : Int) < (x.items.length : Int)
                · by_cases hw : x.index + (sameX m x : Int) < m.commit
                  · exact ps52C4 m f x q hm hi hc ht hu hr hk hz he hs hw
                  · exact ps52C5 m f x q hm hi hc ht hu hr hk hz he hs hw
                · exact ps52C6 m f x q hm hi hc ht hu hr hk hz he hs
            · exact ps52C2 m f x q hm hi hc ht hu hr hk (fun h => hz (.inl h)) (fun h => hz (.inr h))

theorem few_items {m : M} {x : X} (h : few m x = true) : x.items.length ≤ 300 := by
  simp only [few, few98, Bool.and_eq_true, decide_eq_true_eq] at h
  omega

/-- What is sure of the member that Append gives. -/
theorem appR_sizes {m : M} {x : X} (hm : MFew m) (hi : x.items.length ≤ 300) :
    (appR m x).1.id = m.id ∧ (appR m x).1.members = m.members ∧ (appR m x).1.log.length ≤ 600 ∧ (appR m x).1.votes.length ≤ 40 ∧ (appR m x).1.next.length ≤ 40 ∧ (appR m x).1.mtch.length ≤ 40 := by
  have := hm.few1; have := hm.few2; have := hm.few3; have := hm.few4
  have h1 : (app1 m x).id = m.id ∧ (app1 m x).members = m.members ∧ (app1 m x).log = m.log ∧ (app1 m x).votes.length ≤ 40 ∧ (app1 m x).next.length ≤ 40 ∧ (app1 m x).mtch.length ≤ 40 := by
    unfold app1
    split
    · exact ⟨rfl, rfl, rfl, by simp [followM], by simp [followM], by simp [followM]⟩
    · exact ⟨rfl, rfl, rfl, by omega, by omega, by omega⟩
  have h2 : (app2 m x).id = m.id ∧ (app2 m x).members = m.members ∧ (app2 m x).log = m.log ∧ (app2 m x).votes.length ≤ 40 ∧ (app2 m x).next.length ≤ 40 ∧ (app2 m x).mtch.length ≤ 40 := by
    obtain ⟨a, b, c, d, e, f⟩ := h1
    exact ⟨a, b, c, by simp [app2], e, f⟩
  have h3 : (logX (app2 m x) x).length ≤ 600 := by
    unfold logX
    split
    · simp [h2.2.2.1]; omega
    · simp [h2.2.2.1]; omega
  have hlog1 : (app1 m x).log.length ≤ 600 := by rw [h1.2.2.1]; omega
  have hlog2 : (app2 m x).log.length ≤ 600 := by rw [h2.2.2.1]; omega
  unfold appR
  split
  · exact ⟨rfl, rfl, by simp only []; omega, by simp only []; omega, by simp only []; omega, by simp only []; omega⟩
  · split
    · exact ⟨rfl, rfl, by simp only []; omega, by simp only []; omega, by simp only []; omega, by simp only []; omega⟩
    · split
      · exact ⟨h1.1, h1.2.1, hlog1, h1.2.2.2⟩
      · unfold app3
        split
        · exact ⟨h2.1, h2.2.1, hlog2, h2.2.2.2⟩
        · split
          · exact ⟨h2.1, h2.2.1, hlog2, h2.2.2.2⟩
          · exact ⟨h2.1, h2.2.1, h3, h2.2.2.2⟩

theorem appR_MIn {m : M} {x : X} (hm : MFew m) (hi : x.items.length ≤ 300) : MIn (appR m x).1 := by
  obtain ⟨a, b, c, d, e, f⟩ := appR_sizes hm hi
  exact ⟨by rw [a]; exact hm.id1, by rw [a]; exact hm.id2, by rw [b]; exact hm.me1, by rw [b]; exact hm.me2, by omega, by omega, by omega, by omega⟩

theorem appR_reply {m : M} {x : X} {y : X} (h : (appR m x).2 = some y) : ∃ m' t i o, y = replyX m' t i o := by
  unfold appR at h
  split at h
  · cases h
  · split at h
    · simp only [Option.some.injEq] at h; exact ⟨_, _, _, _, h.symm⟩
    · split at h
      · cases h
      · unfold app3 at h
        split at h
        · simp only [Option.some.injEq] at h; exact ⟨_, _, _, _, h.symm⟩
        · split at h
          · cases h
          · simp only [Option.some.injEq] at h; exact ⟨_, _, _, _, h.symm⟩

end Go.Dv.Try
