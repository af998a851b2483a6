/-
  Specifications of the functions of this claim, parts 29.
-/
import Derived.Test.YtphkbgjnhfidlaaGreatTab
import Derived.Test.YtphkbgjnhfidlaaGreatStep
import Derived.Test.YtphkbgjnhfidlaaGreatS1
import Derived.Test.YtphkbgjnhfidlaaGreatS7
import Derived.Test.YtphkbgjnhfidlaaGreatS8
import Derived.Test.YtphkbgjnhfidlaaGreatS12
import Derived.Test.YtphkbgjnhfidlaaGreatS16
import Derived.Test.YtphkbgjnhfidlaaGreatS24
set_option linter.unusedVariables false
set_option linter.unusedSimpArgs false
set_option maxRecDepth 100000
set_option maxHeartbeats 16000000
namespace Go.Dv.Tryz
open Go Go.Dv

def optR (b : Bool) : Option X → List (List PV)
  | none => []
  | some y => [xC y b]

def upL (l : List (Int × ByteArray)) (index term : Int) : Bool := decide (termN l l.length < term) || (decide (term = termN l l.length) && decide ((l.length : Int) ≤ index))

theorem upTo_eq (m : M) (i t : Int) : upTo m i t = upL m.log i t := rfl

theorem ps30L (m : M) (f : Fl) (i t : Int) (hl : m.log.length ≤ 100000) : PS tb 114 [.agg (mC m f), .int .i64 i, .int .i64 t] (.bool (upL m.log i t)) := ps30 m f i t hl

theorem ps31L (m : M) (f : Fl) (i t : Int) (hl : m.log.length ≤ 100000) : PS tb 122 [.agg (mC m f), .int .i64 i, .int .i64 t] (.bool (upL m.log i t)) := ps31 m f i t hl

theorem voteR_new {m : M} {x : X} {u : Bool} (hc : concernsX m x 1 = true) (ht : m.term < x.term) (hu : upL m.log x.index x.logTerm = u) :
    voteR m x = ({ followM m x.term with vote := if u then x.frm else 0 }, some (voteReplyX (followM m x.term) x.frm u)) := by
  have hN : newer m x = followM m x.term := if_pos ht
  have hg : grants (followM m x.term) x = u := by
    simp only [grants, upTo_eq, followM, decide_true, Bool.true_and, Bool.true_or, hu]
  unfold voteR
  rw [if_pos hc, hN]
  unfold castM
  rw [hg]
  cases u <;> rfl

theorem voteR_old {m : M} {x : X} {u : Bool} (hc : concernsX m x 1 = true) (ht : ¬ m.term < x.term) (hu : grants m x = u) :
    voteR m x = ({ m with vote := if u then x.frm else m.vote }, some (voteReplyX m x.frm u)) := by
  have hN : newer m x = m := if_neg ht
  unfold voteR
  rw [if_pos hc, hN]
  unfold castM
  rw [hu]
  cases u <;> rfl

theorem ps37 (m : M) (f : Fl) (x : X) (q : Bool) (hm : MFew m) (hi : x.items.length ≤ 300) : ∃ g, PS tb 107 [.agg (mC m f), .agg (xC x q)] (.tuple [.agg (mC (voteR m x).1 g), .slice true (optR true (voteR m x).2)]) := by
  have := hm.few1; have := hm.few2; have := hm.few3; have := hm.few4
  cases hc : concernsX m x 1 with
  | false =>
    have hR : voteR m x = (m, none) := by simp [voteR, hc]
    refine ⟨f, ?_⟩
    rw [hR]
    refine PS_of (af := a107) rfl rfl ?_
    unfold a107
    dsimp only [List.map, ofPV, initEnv]
    repeat' (first | exact ps90 m f x q 1 hm.toMIn (by omega) | (simp (disch := omega) only [go_sem, seval, reduceCtorEq, mC, xC, hc]) | with_reducible exact Ev.mk | apply x_call | ((first | apply x_split | apply x_splitg) <;> intro hβ hb <;> (try simp only [hβ]) <;> clear hβ))
    all_goals ((try simp (disch := omega) only [go_sem, seval, reduceCtorEq, mC, xC, optR]) <;> rfl)
  | true =>
    have hl : (followM m x.term).log.length ≤ 100000 := by show m.log.length ≤ 100000; omega
    by_cases ht : m.term < x.term
    · have hf : (followM m x.term).log = m.log := rfl
      have hf1 : (x.term == (followM m x.term).term) = true := by simp [followM]
      have hf2 : ((followM m x.term).vote == 0) = true := by simp [followM]
      cases hu : upL m.log x.index x.logTerm with
      | false =>
        refine ⟨⟨f.a, true, true, true⟩, ?_⟩
        rw [voteR_new hc ht hu]
        refine PS_of (af := a107) rfl rfl ?_
        unfold a107
        dsimp only [List.map, ofPV, initEnv]
        repeat' (first | exact ps90 m f x q 1 hm.toMIn (by omega) | exact ps85 m f _ | exact ps31L (followM m x.term) ⟨f.a, true, true, true⟩ _ _ hl | (simp (disch := omega) only [go_sem, seval, reduceCtorEq, mC, xC, hc, ht, hf, hf1, hf2, hu]) | with_reducible exact Ev.mk | apply x_call | ((first | apply x_split | apply x_splitg) <;> intro hβ hb <;> (try simp only [hβ]) <;> clear hβ))
        all_goals ((try simp (disch := omega) only [go_sem, seval, reduceCtorEq, mC, xC, optR, voteReplyX, followM]) <;> rfl)
      | true =>
        refine ⟨⟨f.a, true, true, true⟩, ?_⟩
        rw [voteR_new hc ht hu]
        refine PS_of (af := a107) rfl rfl ?_
        unfold a107
        dsimp only [List.map, ofPV, initEnv]
        repeat' (first | exact ps90 m f x q 1 hm.toMIn (by omega) | exact ps85 m f _ | exact ps31L (followM m x.term) ⟨f.a, true, true, true⟩ _ _ hl | (simp (disch := omega) only [go_sem, seval, reduceCtorEq, mC, xC, hc, ht, hf, hf1, hf2, hu]) | with_reducible exact Ev.mk | apply x_call | ((first | apply x_split | apply x_splitg) <;> intro hβ hb <;> (try simp only [hβ]) <;> clear hβ))
        all_goals ((try simp (disch := omega) only [go_sem, seval, reduceCtorEq, mC, xC, optR, voteReplyX, followM]) <;> rfl)
    · refine ⟨f, ?_⟩
      have hl2 : m.log.length ≤ 100000 := by omega
      by_cases h1 : x.term = m.term
      · have h1b : (x.term == m.term) = true := by simpa using h1
        cases hu : upL m.log x.index x.logTerm with
        | false =>
          rw [voteR_old hc ht (u := false) (by simp [grants, upTo_eq, hu])]
          refine PS_of (af := a107) rfl rfl ?_
          unfold a107
          dsimp only [List.map, ofPV, initEnv]
          repeat' (first | exact ps90 m f x q 1 hm.toMIn (by omega) | exact ps31L m f _ _ hl2 | (simp (disch := omega) only [go_sem, seval, reduceCtorEq, mC, xC, hc, ht, h1b, hu]) | with_reducible exact Ev.mk | apply x_call | ((first | apply x_split | apply x_splitg) <;> intro hβ hb <;> (try simp only [hβ]) <;> clear hβ))
          all_goals ((try simp (disch := omega) only [go_sem, seval, reduceCtorEq, mC, xC, optR, voteReplyX]) <;> rfl)
        | true =>
          by_cases h2 : m.vote = 0
          · have h2b : (m.vote == 0) = true := by simpa using h2
            rw [voteR_old hc ht (u := true) (by simp [grants, upTo_eq, hu, h1, h2])]
            refine PS_of (af := a107) rfl rfl ?_
            unfold a107
            dsimp only [List.map, ofPV, initEnv]
            repeat' (first | exact ps90 m f x q 1 hm.toMIn (by omega) | exact ps31L m f _ _ hl2 | (simp (disch := omega) only [go_sem, seval, reduceCtorEq, mC, xC, hc, ht, h1b, h2b, hu]) | with_reducible exact Ev.mk | apply x_call | ((first | apply x_split | apply x_splitg) <;> intro hβ hb <;> (try simp only [hβ]) <;> clear hβ))
            all_goals ((try simp (disch := omega) only [go_sem, seval, reduceCtorEq, mC, xC, optR, voteReplyX]) <;> rfl)
          · have h2b : (m.vote == 0) = false := by simpa using h2
            by_cases h3 : m.vote = x.frm
            · have h3b : (m.vote == x.frm) = true := by simpa using h3
              rw [voteR_old hc ht (u := true) (by simp [grants, upTo_eq, hu, h1, h3])]
              refine PS_of (af := a107) rfl rfl ?_
              unfold a107
              dsimp only [List.map, ofPV, initEnv]
              repeat' (first | exact ps90 m f x q 1 hm.toMIn (by omega) | exact ps31L m f _ _ hl2 | (simp (disch := omega) only [go_sem, seval, reduceCtorEq, mC, xC, hc, ht, h1b, h2b, h3b, hu]) | with_reducible exact Ev.mk | apply x_call | ((first | apply x_split | apply x_splitg) <;> intro hβ hb <;> (try simp only [hβ]) <;> clear hβ))
              all_goals ((try simp (disch := omega) only [go_sem, seval, reduceCtorEq, mC, xC, optR, voteReplyX]) <;> rfl)
            · have h3b : (m.vote == x.frm) = false := by simpa using h3
              rw [voteR_old hc ht (u := false) (by simp [grants, h2, h3])]
              refine PS_of (af := a107) rfl rfl ?_
              unfold a107
              dsimp only [List.map, ofPV, initEnv]
              repeat' (first | exact ps90 m f x q 1 hm.toMIn (by omega) | exact ps31L m f _ _ hl2 | (simp (disch := omega) only [go_sem, seval, reduceCtorEq, mC, xC, hc, ht, h1b, h2b, h3b, hu]) | with_reducible exact Ev.mk | apply x_call | ((first | apply x_split | apply x_splitg) <;> intro hβ hb <;> (try simp only [hβ]) <;> clear hβ))
              all_goals ((try simp (disch := omega) only [go_sem, seval, reduceCtorEq, mC, xC, optR, voteReplyX]) <;> rfl)
      · have h1b : (x.term == m.term) = false := by simpa using h1
        rw [voteR_old hc ht (u := false) (by simp [grants, h1])]
        refine PS_of (af := a107) rfl rfl ?_
        unfold a107
        dsimp only [List.map, ofPV, initEnv]
        repeat' (first | exact ps90 m f x q 1 hm.toMIn (by omega) | (simp (disch := omega) only [go_sem, seval, reduceCtorEq, mC, xC, hc, ht, h1b]) | with_reducible exact Ev.mk | apply x_call | ((first | apply x_split | apply x_splitg) <;> intro hβ hb <;> (try simp only [hβ]) <;> clear hβ))
        all_goals ((try simp (disch := omega) only [go_sem, seval, reduceCtorEq, mC, xC, optR, voteReplyX]) <;> rfl)

theorem ps44 (m : M) (f : Fl) (hm : MIn m) : ∃ g, PS tb 46 [.agg (mC m f)] (.agg (mC (restartR m) g)) := by
  cases ho : okM m with
  | false =>
    have hR : restartR m = m := by simp [restartR, ho]
    refine ⟨f, ?_⟩
    rw [hR]
    refine PS_of (af := a46) rfl rfl ?_
    unfold a46
    dsimp only [List.map, ofPV, initEnv]
    repeat' (first | exact ps29 m f hm | (simp (disch := omega) only [go_sem, seval, reduceCtorEq, mC, ho]) | with_reducible exact Ev.mk | apply x_call | ((first | apply x_split | apply x_splitg) <;> intro hβ hb <;> (try simp only [hβ]) <;> clear hβ))
    all_goals rfl
  | true =>
    have hR : restartR m = ⟨m.id, m.members, m.term, m.vote, m.log, 1, 0, [], [], []⟩ := by simp [restartR, ho]
    refine ⟨⟨f.a, true, true, true⟩, ?_⟩
    rw [hR]
    refine PS_of (af := a46) rfl rfl ?_
    unfold a46
    dsimp only [List.map, ofPV, initEnv]
    repeat' (first | exact ps29 m f hm | (simp (disch := omega) only [go_sem, seval, reduceCtorEq, mC, ho]) | with_reducible exact Ev.mk | apply x_call | ((first | apply x_split | apply x_splitg) <;> intro hβ hb <;> (try simp only [hβ]) <;> clear hβ))
    all_goals rfl

theorem ps42 (m : M) (f : Fl) (x : X) (q : Bool) (hm : MFew m) (hi : x.items.length ≤ 300) : ∃ g, PS tb 108 [.agg (mC m f), .agg (xC x q)] (.tuple [.agg (mC (countR m x) g), .slice true []]) := by
  have := hm.few1; have := hm.few2; have := hm.few3; have := hm.few4
  cases hc : concernsX m x 2 with
  | false =>
    have hR : countR m x = m := by simp [countR, hc]
    refine ⟨f, ?_⟩
    rw [hR]
    refine PS_of (af := a108) rfl rfl ?_
    unfold a108
    dsimp only [List.map, ofPV, initEnv]
    repeat' (first | exact ps90 m f x q 2 hm.toMIn (by omega) | (simp (disch := omega) only [go_sem, seval, reduceCtorEq, mC, xC, hc]) | with_reducible exact Ev.mk | apply x_call | ((first | apply x_split | apply x_splitg) <;> intro hβ hb <;> (try simp only [hβ]) <;> clear hβ))
    all_goals rfl
  | true =>
    by_cases ht : m.term < x.term
    · have hR : countR m x = followM m x.term := by simp [countR, hc, ht]
      refine ⟨⟨f.a, true, true, true⟩, ?_⟩
      rw [hR]
      refine PS_of (af := a108) rfl rfl ?_
      unfold a108
      dsimp only [List.map, ofPV, initEnv]
      repeat' (first | exact ps90 m f x q 2 hm.toMIn (by omega) | exact ps85 m f _ | (simp (disch := omega) only [go_sem, seval, reduceCtorEq, mC, xC, hc, ht]) | with_reducible exact Ev.mk | apply x_call | ((first | apply x_split | apply x_splitg) <;> intro hβ hb <;> (try simp only [hβ]) <;> clear hβ))
      all_goals rfl
    · by_cases hs : x.term < m.term ∨ m.role ≠ 2 ∨ x.ok = false
      · have hR : countR m x = m := by
          simp only [countR, hc, ht, if_true, if_false]
          rw [if_pos (by rcases hs with h | h | h; exact .inl h; exact .inr (.inl h); exact .inr (.inr (.inl h)))]
        refine ⟨f, ?_⟩
        rw [hR]
        refine PS_of (af := a108) rfl rfl ?_
        unfold a108
        dsimp only [List.map, ofPV, initEnv]
        by_cases h1 : x.term < m.term
        · repeat' (first | exact ps90 m f x q 2 hm.toMIn (by omega) | (simp (disch := omega) only [go_sem, seval, reduceCtorEq, mC, xC, hc, ht, h1]) | with_reducible exact Ev.mk | apply x_call | ((first | apply x_split | apply x_splitg) <;> intro hβ hb <;> (try simp only [hβ]) <;> clear hβ))
          all_goals rfl
        · by_cases h2 : m.role ≠ 2
          · have h3 : (m.role != 2) = true := by simpa using h2
            repeat' (first | exact ps90 m f x q 2 hm.toMIn (by omega) | (simp (disch := omega) only [go_sem, seval, reduceCtorEq, mC, xC, hc, ht, h1, h3]) | with_reducible exact Ev.mk | apply x_call | ((first | apply x_split | apply x_splitg) <;> intro hβ hb <;> (try simp only [hβ]) <;> clear hβ))
            all_goals rfl
          · have h3 : (m.role != 2) = false := by simpa using h2
            have h4 : x.ok = false := by
              rcases hs with h | h | h
              · exact absurd h h1
              · exact absurd h h2
              · exact h
            have h4n : (!x.ok) = true := by rw [h4]; rfl
            repeat' (first | exact ps90 m f x q 2 hm.toMIn (by omega) | (simp (disch := omega) only [go_sem, seval, reduceCtorEq, mC, xC, hc, ht, h1, h3, h4n]) | with_reducible exact Ev.mk | apply x_call | ((first | apply x_split | apply x_splitg) <;> intro hβ hb <;> (try simp only [hβ]) <;> clear hβ))
            all_goals rfl
      · have h1 : ¬ x.term < m.term := fun h => hs (.inl h)
        have h2 : m.role = 2 := Decidable.not_not.1 fun h => hs (.inr (.inl h))
        have h3 : (m.role != 2) = false := by simpa using h2
        have h4 : x.ok = true := by
          cases e : x.ok
          · exact absurd (.inr (.inr e)) hs
          · rfl
        obtain ⟨h5, h6, h7, h8⟩ := concerns_ok hc
        obtain ⟨hh, hr⟩ := (okM_iff m).1 h5
        have hv : okVotes m = true := by
          rcases hr with ⟨r, _⟩ | ⟨_, _, _, b, _⟩ | ⟨r, _⟩
          · omega
          · exact b
          · omega
        have hR : countR m x = wonM { m with votes := insGo x.frm m.votes false } := by
          simp only [countR, hc, ht, if_true, if_false]
          by_cases hx : x.frm ∈ m.votes
          · rw [if_pos (.inr (.inr (.inr hx))), insGo_mem _ _ (votes_up hv) hx]
            have : ¬ maj m.members ≤ (m.votes.length : Int) := by
              simp only [okVotes, Bool.and_eq_true, decide_eq_true_eq] at hv
              omega
            unfold wonM
            rw [if_neg this]
          · rw [if_neg]
            rintro (h | h | h | h)
            · exact h1 h
            · exact h h2
            · rw [h4] at h; cases h
            · exact hx h
        have hl : ∀ (l : List Int), (insGo x.frm l false).length ≤ 2 * l.length + 1 ∧ (insGo x.frm l true).length ≤ 2 * l.length + 1 := by
          intro l
          induction l with
          | nil => simp [insGo]
          | cons y r ih =>
            constructor <;> simp only [insGo] <;> split <;> split <;> (cases decide (x.frm ≤ y) <;> simp <;> omega)
        have hq := (hl m.votes).1
        obtain ⟨g, q1⟩ := ps86 { m with votes := insGo x.frm m.votes false } ⟨f.a, false, f.c, f.d⟩ hh.id1 (by have := hh.me2; show m.members ≤ 10000; omega) (by show m.log.length ≤ 9223372036854775807; omega) (by show (insGo x.frm m.votes false).length ≤ 9223372036854775807; omega) hh.me1
        refine ⟨g, ?_⟩
        rw [hR]
        generalize wonM _ = w at q1 ⊢
        refine PS_of (af := a108) rfl rfl ?_
        unfold a108
        dsimp only [List.map, ofPV, initEnv]
        have h4n : (!x.ok) = false := by rw [h4]; rfl
        repeat' (first | exact ps90 m f x q 2 hm.toMIn (by omega) | exact ps96 m.votes _ _ (by omega) | exact q1 | (simp (disch := omega) only [go_sem, seval, reduceCtorEq, mC, xC, hc, ht, h1, h3, h4n]) | with_reducible exact Ev.mk | apply x_call | ((first | apply x_split | apply x_splitg) <;> intro hβ hb <;> (try simp only [hβ]) <;> clear hβ))
        all_goals rfl

end Go.Dv.Tryz
