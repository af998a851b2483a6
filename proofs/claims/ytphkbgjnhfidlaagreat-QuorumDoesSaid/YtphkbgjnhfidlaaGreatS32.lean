/-
  Specifications of the functions of this claim, parts 32.
-/
import Derived.Test.YtphkbgjnhfidlaaGreatTab
import Derived.Test.YtphkbgjnhfidlaaGreatStep
import Derived.Test.YtphkbgjnhfidlaaGreatS1
import Derived.Test.YtphkbgjnhfidlaaGreatS7
import Derived.Test.YtphkbgjnhfidlaaGreatS8
import Derived.Test.YtphkbgjnhfidlaaGreatS12
import Derived.Test.YtphkbgjnhfidlaaGreatS16
import Derived.Test.YtphkbgjnhfidlaaGreatS24
import Derived.Test.YtphkbgjnhfidlaaGreatS29
import Derived.Test.YtphkbgjnhfidlaaGreatS30
set_option linter.unusedVariables false
set_option linter.unusedSimpArgs false
set_option maxRecDepth 100000
set_option maxHeartbeats 16000000
namespace Go.Dv.Tryz
open Go Go.Dv

theorem ps36 (m : M) (f : Fl) (x : X) (q : Bool) (hm : MFew m) (hi : x.items.length ≤ 300) : ∃ g, PS tb 99 [.agg (mC m f), .agg (xC x q)] (.tuple [.agg (mC (voteR m x).1 g), .slice true (optR true (voteR m x).2)]) := by
  have := hm.few1; have := hm.few2; have := hm.few3; have := hm.few4
  have hl1 : m.log.length ≤ 100000 := by omega
  have hl2 : m.votes.length ≤ 100000 := by omega
  have hl3 : m.next.length ≤ 100000 := by omega
  have hl4 : m.mtch.length ≤ 100000 := by omega
  cases hc : concernsX m x 1 with
  | false =>
    have hR : voteR m x = (m, none) := by simp [voteR, hc]
    refine ⟨⟨false, false, false, false⟩, ?_⟩
    rw [hR]
    refine PS_of (af := a99) rfl rfl ?_
    unfold a99
    dsimp only [List.map, ofPV, initEnv]
    repeat' (first | exact ps88 m f x q 1 hm.toMIn | exact bs83 m f _ _ (fresh_of rfl) hl1 hl2 hl3 hl4 | (simp (maxSteps := 2000000) (disch := omega) only [go_sem, seval, reduceCtorEq, mC, xC, rC, dC, itemsPV_length, intsPV_length, itemsPV_take, intsPV_take, List.take_length, hc]) | with_reducible exact Ev.mk | apply x_call | apply x_callr | ((first | apply x_split | apply x_splitg) <;> intro hβ hb <;> (try simp only [hβ]) <;> clear hβ))
    all_goals ((try simp (maxSteps := 2000000) (disch := omega) only [go_sem, seval, reduceCtorEq, mC, xC, rC, dC, itemsPV_length, intsPV_length, itemsPV_take, intsPV_take, List.take_length, optR, voteReplyX]) <;> rfl)
  | true =>
    by_cases ht : m.term < x.term
    · have hf : (followM m x.term).log = m.log := rfl
      have hf1 : (x.term == (followM m x.term).term) = true := by simp [followM]
      have hf2 : ((followM m x.term).vote == 0) = true := by simp [followM]
      refine ⟨⟨false, true, true, true⟩, ?_⟩
      cases hu : upL m.log x.index x.logTerm with
      | false =>
        rw [voteR_new hc ht hu]
        refine PS_of (af := a99) rfl rfl ?_
        unfold a99
        dsimp only [List.map, ofPV, initEnv]
        repeat' (first | exact ps88 m f x q 1 hm.toMIn | exact ps30L (followM m x.term) ⟨false, true, true, true⟩ _ _ hl1 | exact bs83 m f _ _ (fresh_of rfl) hl1 hl2 hl3 hl4 | exact bs89 m 5 m.log.length _ _ _ _ _ _ _ rfl | (simp (maxSteps := 2000000) (disch := omega) only [go_sem, seval, reduceCtorEq, mC, xC, rC, dC, itemsPV_length, intsPV_length, itemsPV_take, intsPV_take, List.take_length, hc, ht, hf, hf1, hf2, hu]) | with_reducible exact Ev.mk | apply x_call | apply x_callr | ((first | apply x_split | apply x_splitg) <;> intro hβ hb <;> (try simp only [hβ]) <;> clear hβ))
        all_goals ((try simp (maxSteps := 2000000) (disch := omega) only [go_sem, seval, reduceCtorEq, mC, xC, rC, dC, itemsPV_length, intsPV_length, itemsPV_take, intsPV_take, List.take_length, optR, voteReplyX, followM]) <;> rfl)
      | true =>
        rw [voteR_new hc ht hu]
        refine PS_of (af := a99) rfl rfl ?_
        unfold a99
        dsimp only [List.map, ofPV, initEnv]
        repeat' (first | exact ps88 m f x q 1 hm.toMIn | exact ps30L (followM m x.term) ⟨false, true, true, true⟩ _ _ hl1 | exact bs83 m f _ _ (fresh_of rfl) hl1 hl2 hl3 hl4 | exact bs89 m 5 m.log.length _ _ _ _ _ _ _ rfl | (simp (maxSteps := 2000000) (disch := omega) only [go_sem, seval, reduceCtorEq, mC, xC, rC, dC, itemsPV_length, intsPV_length, itemsPV_take, intsPV_take, List.take_length, hc, ht, hf, hf1, hf2, hu]) | with_reducible exact Ev.mk | apply x_call | apply x_callr | ((first | apply x_split | apply x_splitg) <;> intro hβ hb <;> (try simp only [hβ]) <;> clear hβ))
        all_goals ((try simp (maxSteps := 2000000) (disch := omega) only [go_sem, seval, reduceCtorEq, mC, xC, rC, dC, itemsPV_length, intsPV_length, itemsPV_take, intsPV_take, List.take_length, optR, voteReplyX, followM]) <;> rfl)
    · refine ⟨⟨false, false, false, false⟩, ?_⟩
      by_cases h1 : x.term = m.term
      · have h1b : (x.term == m.term) = true := by simpa using h1
        cases hu : upL m.log x.index x.logTerm with
        | false =>
          rw [voteR_old hc ht (u := false) (by simp [grants, upTo_eq, hu])]
          refine PS_of (af := a99) rfl rfl ?_
          unfold a99
          dsimp only [List.map, ofPV, initEnv]
          repeat' (first | exact ps88 m f x q 1 hm.toMIn | exact ps30L m ⟨false, false, false, false⟩ _ _ hl1 | exact bs83 m f _ _ (fresh_of rfl) hl1 hl2 hl3 hl4 | (simp (maxSteps := 2000000) (disch := omega) only [go_sem, seval, reduceCtorEq, mC, xC, rC, dC, itemsPV_length, intsPV_length, itemsPV_take, intsPV_take, List.take_length, hc, ht, h1b, hu]) | with_reducible exact Ev.mk | apply x_call | apply x_callr | ((first | apply x_split | apply x_splitg) <;> intro hβ hb <;> (try simp only [hβ]) <;> clear hβ))
          all_goals ((try simp (maxSteps := 2000000) (disch := omega) only [go_sem, seval, reduceCtorEq, mC, xC, rC, dC, itemsPV_length, intsPV_length, itemsPV_take, intsPV_take, List.take_length, optR, voteReplyX]) <;> rfl)
        | true =>
          by_cases h2 : m.vote = 0
          · have h2b : (m.vote == 0) = true := by simpa using h2
            rw [voteR_old hc ht (u := true) (by simp [grants, upTo_eq, hu, h1, h2])]
            refine PS_of (af := a99) rfl rfl ?_
            unfold a99
            dsimp only [List.map, ofPV, initEnv]
            repeat' (first | exact ps88 m f x q 1 hm.toMIn | exact ps30L m ⟨false, false, false, false⟩ _ _ hl1 | exact bs83 m f _ _ (fresh_of rfl) hl1 hl2 hl3 hl4 | (simp (maxSteps := 2000000) (disch := omega) only [go_sem, seval, reduceCtorEq, mC, xC, rC, dC, itemsPV_length, intsPV_length, itemsPV_take, intsPV_take, List.take_length, hc, ht, h1b, h2b, hu]) | with_reducible exact Ev.mk | apply x_call | apply x_callr | ((first | apply x_split | apply x_splitg) <;> intro hβ hb <;> (try simp only [hβ]) <;> clear hβ))
            all_goals ((try simp (maxSteps := 2000000) (disch := omega) only [go_sem, seval, reduceCtorEq, mC, xC, rC, dC, itemsPV_length, intsPV_length, itemsPV_take, intsPV_take, List.take_length, optR, voteReplyX]) <;> rfl)
          · have h2b : (m.vote == 0) = false := by simpa using h2
            by_cases h3 : m.vote = x.frm
            · have h3b : (m.vote == x.frm) = true := by simpa using h3
              rw [voteR_old hc ht (u := true) (by simp [grants, upTo_eq, hu, h1, h3])]
              refine PS_of (af := a99) rfl rfl ?_
              unfold a99
              dsimp only [List.map, ofPV, initEnv]
              repeat' (first | exact ps88 m f x q 1 hm.toMIn | exact ps30L m ⟨false, false, false, false⟩ _ _ hl1 | exact bs83 m f _ _ (fresh_of rfl) hl1 hl2 hl3 hl4 | (simp (maxSteps := 2000000) (disch := omega) only [go_sem, seval, reduceCtorEq, mC, xC, rC, dC, itemsPV_length, intsPV_length, itemsPV_take, intsPV_take, List.take_length, hc, ht, h1b, h2b, h3b, hu]) | with_reducible exact Ev.mk | apply x_call | apply x_callr | ((first | apply x_split | apply x_splitg) <;> intro hβ hb <;> (try simp only [hβ]) <;> clear hβ))
              all_goals ((try simp (maxSteps := 2000000) (disch := omega) only [go_sem, seval, reduceCtorEq, mC, xC, rC, dC, itemsPV_length, intsPV_length, itemsPV_take, intsPV_take, List.take_length, optR, voteReplyX]) <;> rfl)
            · have h3b : (m.vote == x.frm) = false := by simpa using h3
              rw [voteR_old hc ht (u := false) (by simp [grants, h2, h3])]
              refine PS_of (af := a99) rfl rfl ?_
              unfold a99
              dsimp only [List.map, ofPV, initEnv]
              repeat' (first | exact ps88 m f x q 1 hm.toMIn | exact ps30L m ⟨false, false, false, false⟩ _ _ hl1 | exact bs83 m f _ _ (fresh_of rfl) hl1 hl2 hl3 hl4 | (simp (maxSteps := 2000000) (disch := omega) only [go_sem, seval, reduceCtorEq, mC, xC, rC, dC, itemsPV_length, intsPV_length, itemsPV_take, intsPV_take, List.take_length, hc, ht, h1b, h2b, h3b, hu]) | with_reducible exact Ev.mk | apply x_call | apply x_callr | ((first | apply x_split | apply x_splitg) <;> intro hβ hb <;> (try simp only [hβ]) <;> clear hβ))
              all_goals ((try simp (maxSteps := 2000000) (disch := omega) only [go_sem, seval, reduceCtorEq, mC, xC, rC, dC, itemsPV_length, intsPV_length, itemsPV_take, intsPV_take, List.take_length, optR, voteReplyX]) <;> rfl)
      · have h1b : (x.term == m.term) = false := by simpa using h1
        rw [voteR_old hc ht (u := false) (by simp [grants, h1])]
        refine PS_of (af := a99) rfl rfl ?_
        unfold a99
        dsimp only [List.map, ofPV, initEnv]
        repeat' (first | exact ps88 m f x q 1 hm.toMIn | exact bs83 m f _ _ (fresh_of rfl) hl1 hl2 hl3 hl4 | (simp (maxSteps := 2000000) (disch := omega) only [go_sem, seval, reduceCtorEq, mC, xC, rC, dC, itemsPV_length, intsPV_length, itemsPV_take, intsPV_take, List.take_length, hc, ht, h1b]) | with_reducible exact Ev.mk | apply x_call | apply x_callr | ((first | apply x_split | apply x_splitg) <;> intro hβ hb <;> (try simp only [hβ]) <;> clear hβ))
        all_goals ((try simp (maxSteps := 2000000) (disch := omega) only [go_sem, seval, reduceCtorEq, mC, xC, rC, dC, itemsPV_length, intsPV_length, itemsPV_take, intsPV_take, List.take_length, optR, voteReplyX]) <;> rfl)

theorem ps43 (m : M) (f : Fl) (hm : MFew m) : ∃ g, PS tb 40 [.agg (mC m f)] (.agg (mC (restartR m) g)) := by
  have := hm.few1; have := hm.few2; have := hm.few3; have := hm.few4
  have hl1 : m.log.length ≤ 100000 := by omega
  have hl2 : m.votes.length ≤ 100000 := by omega
  have hl3 : m.next.length ≤ 100000 := by omega
  have hl4 : m.mtch.length ≤ 100000 := by omega
  refine ⟨⟨false, okM m, okM m, okM m⟩, ?_⟩
  cases ho : okM m with
  | false =>
    have hR : restartR m = m := by simp [restartR, ho]
    rw [hR]
    refine PS_of (af := a40) rfl rfl ?_
    unfold a40
    dsimp only [List.map, ofPV, initEnv]
    repeat' (first | exact ps28 m f hm.toMIn | exact bs83 m f _ _ (fresh_of rfl) hl1 hl2 hl3 hl4 | (simp (maxSteps := 2000000) (disch := omega) only [go_sem, seval, reduceCtorEq, mC, rC, ho, itemsPV_length, intsPV_length, itemsPV_take, intsPV_take, List.take_length]) | with_reducible exact Ev.mk | apply x_call | apply x_callr | ((first | apply x_split | apply x_splitg) <;> intro hβ hb <;> (try simp only [hβ]) <;> clear hβ))
    all_goals ((try simp (maxSteps := 2000000) (disch := omega) only [go_sem, seval, reduceCtorEq, mC, rC, itemsPV_length, intsPV_length, itemsPV_take, intsPV_take, List.take_length]) <;> rfl)
  | true =>
    have hR : restartR m = ⟨m.id, m.members, m.term, m.vote, m.log, 1, 0, [], [], []⟩ := by simp [restartR, ho]
    rw [hR]
    refine PS_of (af := a40) rfl rfl ?_
    unfold a40
    dsimp only [List.map, ofPV, initEnv]
    repeat' (first | exact ps97 m.log _ hl1 | exact ps28 m f hm.toMIn | exact bs97 m.log f.a _ _ hl1 | (simp (maxSteps := 2000000) (disch := omega) only [go_sem, seval, reduceCtorEq, mC, rC, ho, itemsPV_length, intsPV_length, itemsPV_take, intsPV_take, List.take_length]) | with_reducible exact Ev.mk | apply x_call | apply x_callr | ((first | apply x_split | apply x_splitg) <;> intro hβ hb <;> (try simp only [hβ]) <;> clear hβ))
    all_goals first | rfl | ((try simp (maxSteps := 2000000) (disch := omega) only [go_sem, seval, reduceCtorEq, mC, rC, itemsPV_length, intsPV_length, itemsPV_take, intsPV_take, List.take_length]) <;> rfl)

end Go.Dv.Tryz
