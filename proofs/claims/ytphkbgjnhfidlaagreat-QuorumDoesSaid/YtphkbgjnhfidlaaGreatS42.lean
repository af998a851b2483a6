/-
  Specifications of the functions of this claim, parts 42, 44, 45.
-/
import Derived.Test.YtphkbgjnhfidlaaGreatTab
import Derived.Test.YtphkbgjnhfidlaaGreatStep
import Derived.Test.YtphkbgjnhfidlaaGreatS1
import Derived.Test.YtphkbgjnhfidlaaGreatS7
import Derived.Test.YtphkbgjnhfidlaaGreatS8
import Derived.Test.YtphkbgjnhfidlaaGreatS12
import Derived.Test.YtphkbgjnhfidlaaGreatS16
import Derived.Test.YtphkbgjnhfidlaaGreatS18
import Derived.Test.YtphkbgjnhfidlaaGreatS20
import Derived.Test.YtphkbgjnhfidlaaGreatS23
import Derived.Test.YtphkbgjnhfidlaaGreatS24
import Derived.Test.YtphkbgjnhfidlaaGreatS29
import Derived.Test.YtphkbgjnhfidlaaGreatS32
import Derived.Test.YtphkbgjnhfidlaaGreatS35
set_option linter.unusedVariables false
set_option linter.unusedSimpArgs false
set_option maxRecDepth 100000
set_option maxHeartbeats 16000000
namespace Go.Dv.Tryz
open Go Go.Dv

theorem mx_comm (a b : Int) : mx a b = mx b a := by unfold mx; split <;> split <;> omega

def ackN (m : M) (x : X) : M :=
  if x.ok then { m with mtch := m.mtch.set (x.frm - 1).toNat (mx (m.mtch.getD (x.frm - 1).toNat 0) x.index), next := m.next.set (x.frm - 1).toNat (mx (m.mtch.getD (x.frm - 1).toNat 0) x.index) }
  else { m with next := m.next.set (x.frm - 1).toNat (mx (mn (m.next.getD (x.frm - 1).toNat 0 - 1) x.index) (m.mtch.getD (x.frm - 1).toNat 0)) }

def ackT (m : M) (x : X) : M :=
  if concernsX m x 4 then
    if m.term < x.term then followM m x.term
    else if x.term < m.term ∨ m.role ≠ 3 ∨ (x.ok = true ∧ (m.log.length : Int) < x.index) then m
    else { ackN m x with commit := commOf (ackN m x) }
  else m

theorem ps100 (m : M) (f : Fl) (x : X) (q : Bool) (hm : MFew m) (hi : x.items.length ≤ 300) : ∃ g, PS tb 102 [.agg (mC m f), .agg (xC x q)] (.agg (mC (ackT m x) g)) := by
  have := hm.few1; have := hm.few2; have := hm.few3; have := hm.few4
  have hl1 : m.log.length ≤ 100000 := by omega
  have hl2 : m.votes.length ≤ 100000 := by omega
  have hl3 : m.next.length ≤ 100000 := by omega
  have hl4 : m.mtch.length ≤ 100000 := by omega
  have hi2 : x.items.length ≤ 9223372036854775807 := by omega
  obtain ⟨ki, fr, to, te, ix, lt, cm, ok, it⟩ := x
  simp only at hi hi2
  have sp := ps108 m f ⟨ki, fr, to, te, ix, lt, cm, ok, it⟩ q 4 hm.toMIn
  by_cases hB : concernsX m ⟨ki, fr, to, te, ix, lt, cm, ok, it⟩ 4 = true ∧ ¬ m.term < te ∧ ¬ te < m.term ∧ m.role = 3 ∧ ¬ (ok = true ∧ (m.log.length : Int) < ix)
  · obtain ⟨hc, ht, h1, h2, h5⟩ := hB
    have hR : ackT m ⟨ki, fr, to, te, ix, lt, cm, ok, it⟩ = { ackN m ⟨ki, fr, to, te, ix, lt, cm, ok, it⟩ with commit := commOf (ackN m ⟨ki, fr, to, te, ix, lt, cm, ok, it⟩) } := by
      unfold ackT
      rw [if_pos hc, if_neg ht, if_neg (by rintro (h | h | h); exact h1 h; exact h h2; exact h5 h)]
    obtain ⟨h6, h7, h8, h9⟩ := concerns_ok hc
    have hx := okX_facts h7
    obtain ⟨f1, f2, f3, f4, f5, f6, f7⟩ := lead_facts h6 h2
    simp only at hx
    have h3 : (m.role != 3) = false := by simp [h2]
    have g1 : (0 : Int) ≤ fr - 1 := by omega
    have g2 := intsPV_getD m.next (fr - 1).toNat (by omega)
    have g3 := intsPV_getD m.mtch (fr - 1).toNat (by omega)
    have g4 : fr - 1 < (m.next.length : Int) := by omega
    have g5 : fr - 1 < (m.mtch.length : Int) := by omega
    have g6 : ∀ v : Int, (intsPV (m.mtch.set (fr - 1).toNat v))[(fr - 1).toNat]? = some [.int .i64 v] := fun v => by
      rw [intsPV_get _ _ (by simp; omega)]
      simp [intPV]
    have t2 : ∀ (i : Nat) (v : Int), (m.next.set i v).take m.next.length = m.next.set i v := fun i v => List.take_of_length_le (by simp)
    have t3 : ∀ (i : Nat) (v : Int), (m.mtch.set i v).take m.mtch.length = m.mtch.set i v := fun i v => List.take_of_length_le (by simp)
    have c1 : 0 ≤ (ackN m ⟨ki, fr, to, te, ix, lt, cm, ok, it⟩).commit := by unfold ackN; split <;> exact f6
    have c2 : (ackN m ⟨ki, fr, to, te, ix, lt, cm, ok, it⟩).log.length ≤ 9223372036854775807 := by unfold ackN; split <;> (simp only; omega)
    have c3 : (ackN m ⟨ki, fr, to, te, ix, lt, cm, ok, it⟩).mtch.length ≤ 9223372036854775807 := by unfold ackN; split <;> (simp only [List.length_set]; omega)
    have c4 : (ackN m ⟨ki, fr, to, te, ix, lt, cm, ok, it⟩).members ≤ 9223372036854775807 := by unfold ackN; split <;> exact hm.me2
    have e1 : ∀ a b : Int, (if a < b then b else a) = mx a b := fun a b => rfl
    have e2 : ∀ a b : Int, (if b < a then b else a) = mn a b := fun a b => rfl
    have n1 : -1 ≤ m.next.getD (fr - 1).toNat 0 - 1 ∧ m.next.getD (fr - 1).toNat 0 ≤ m.log.length := by
      have := prog_at h6 h2 (fr - 1).toNat (by omega)
      omega
    obtain ⟨n1, n2⟩ := n1
    cases ok with
    | true =>
      have h4 : ¬ (m.log.length : Int) < ix := fun h => h5 ⟨rfl, h⟩
      have hA : ackN m ⟨ki, fr, to, te, ix, lt, cm, true, it⟩ = ⟨m.id, m.members, m.term, m.vote, m.log, m.role, m.commit, m.votes, m.next.set (fr - 1).toNat (mx (m.mtch.getD (fr - 1).toNat 0) ix), m.mtch.set (fr - 1).toNat (mx (m.mtch.getD (fr - 1).toNat 0) ix)⟩ := rfl
      rw [hA] at c1 c2 c3 c4 hR
      rw [hR]
      refine ⟨⟨false, false, false, false⟩, ?_⟩
      generalize hv : mx (m.mtch.getD (fr - 1).toNat 0) ix = v at c1 c2 c3 c4 ⊢
      refine PS_of (af := a102) rfl rfl ?_
      unfold a102
      dsimp only [List.map, ofPV, initEnv]
      repeat' (first | exact sp | exact ps102 ⟨m.id, m.members, m.term, m.vote, m.log, m.role, m.commit, m.votes, m.next.set (fr - 1).toNat v, m.mtch.set (fr - 1).toNat v⟩ ⟨false, false, false, false⟩ c2 c3 c4 c1 | exact bs101 m f _ _ (fresh_of rfl) hl1 hl2 hl3 hl4 | (simp (maxSteps := 2000000) (disch := omega) only [go_sem, seval, reduceCtorEq, mC, xC, rC, intPV, itemsPV_length, intsPV_length, itemsPV_take, intsPV_take, List.take_length, hc, ht, h1, h3, h4, g1, g2, g3, g4, g5, g6, t2, t3, e1, hv, intsPV_set, List.length_set]) | with_reducible exact Ev.mk | apply x_call | apply x_callr | ((first | apply x_split | apply x_splitg) <;> intro hβ hb <;> (try simp only [hβ]) <;> clear hβ))
      all_goals first | rfl | ((try simp (maxSteps := 2000000) (disch := omega) only [go_sem, seval, reduceCtorEq, mC, xC, rC, intPV, itemsPV_length, intsPV_length, itemsPV_take, intsPV_take, List.take_length, t2, t3, intsPV_set, List.length_set]) <;> rfl)
    | false =>
      have hA : ackN m ⟨ki, fr, to, te, ix, lt, cm, false, it⟩ = ⟨m.id, m.members, m.term, m.vote, m.log, m.role, m.commit, m.votes, m.next.set (fr - 1).toNat (mx (mn (m.next.getD (fr - 1).toNat 0 - 1) ix) (m.mtch.getD (fr - 1).toNat 0)), m.mtch⟩ := rfl
      rw [hA] at c1 c2 c3 c4 hR
      rw [hR]
      refine ⟨⟨false, false, false, false⟩, ?_⟩
      generalize hw : mn (m.next.getD (fr - 1).toNat 0 - 1) ix = w at c1 c2 c3 c4 ⊢
      have hv2 : mx (m.mtch.getD (fr - 1).toNat 0) w = mx w (m.mtch.getD (fr - 1).toNat 0) := mx_comm _ _
      generalize hv : mx w (m.mtch.getD (fr - 1).toNat 0) = v at c1 c2 c3 c4 hv2 ⊢
      refine PS_of (af := a102) rfl rfl ?_
      unfold a102
      dsimp only [List.map, ofPV, initEnv]
      repeat' (first | exact sp | exact ps102 ⟨m.id, m.members, m.term, m.vote, m.log, m.role, m.commit, m.votes, m.next.set (fr - 1).toNat v, m.mtch⟩ ⟨false, false, false, false⟩ c2 c3 c4 c1 | exact bs101 m f _ _ (fresh_of rfl) hl1 hl2 hl3 hl4 | (simp (maxSteps := 2000000) (disch := omega) only [go_sem, seval, reduceCtorEq, mC, xC, rC, intPV, itemsPV_length, intsPV_length, itemsPV_take, intsPV_take, List.take_length, hc, ht, h1, h3, g1, g2, g3, g4, g5, t2, t3, e1, e2, hw, hv, hv2, intsPV_set, List.length_set]) | with_reducible exact Ev.mk | apply x_call | apply x_callr | ((first | apply x_split | apply x_splitg) <;> intro hβ hb <;> (try simp only [hβ]) <;> clear hβ))
      all_goals first | rfl | ((try simp (maxSteps := 2000000) (disch := omega) only [go_sem, seval, reduceCtorEq, mC, xC, rC, intPV, itemsPV_length, intsPV_length, itemsPV_take, intsPV_take, List.take_length, t2, t3, intsPV_set, List.length_set]) <;> rfl)
  · have key : (concernsX m ⟨ki, fr, to, te, ix, lt, cm, ok, it⟩ 4 = false ∧ True ∧ True ∧ True ∧ True ∧ ackT m ⟨ki, fr, to, te, ix, lt, cm, ok, it⟩ = m) ∨ (concernsX m ⟨ki, fr, to, te, ix, lt, cm, ok, it⟩ 4 = true ∧ m.term < te ∧ True ∧ True ∧ True ∧ ackT m ⟨ki, fr, to, te, ix, lt, cm, ok, it⟩ = followM m te) ∨ (concernsX m ⟨ki, fr, to, te, ix, lt, cm, ok, it⟩ 4 = true ∧ ¬ m.term < te ∧ te < m.term ∧ True ∧ True ∧ ackT m ⟨ki, fr, to, te, ix, lt, cm, ok, it⟩ = m) ∨
        (concernsX m ⟨ki, fr, to, te, ix, lt, cm, ok, it⟩ 4 = true ∧ ¬ m.term < te ∧ ¬ te < m.term ∧ (m.role != 3) = true ∧ True ∧ ackT m ⟨ki, fr, to, te, ix, lt, cm, ok, it⟩ = m) ∨ (concernsX m ⟨ki, fr, to, te, ix, lt, cm, ok, it⟩ 4 = true ∧ ¬ m.term < te ∧ ¬ te < m.term ∧ (m.role != 3) = false ∧ (ok = true ∧ (m.log.length : Int) < ix) ∧ ackT m ⟨ki, fr, to, te, ix, lt, cm, ok, it⟩ = m) := by
      by_cases hc : concernsX m ⟨ki, fr, to, te, ix, lt, cm, ok, it⟩ 4 = true
      · by_cases ht : m.term < te
        · exact .inr (.inl ⟨hc, ht, trivial, trivial, trivial, by unfold ackT; rw [if_pos hc, if_pos ht]⟩)
        · by_cases h1 : te < m.term
          · exact .inr (.inr (.inl ⟨hc, ht, h1, trivial, trivial, by unfold ackT; rw [if_pos hc, if_neg ht, if_pos (.inl h1)]⟩))
          · by_cases h2 : m.role = 3
            · by_cases h5 : ok = true ∧ (m.log.length : Int) < ix
              · exact .inr (.inr (.inr (.inr ⟨hc, ht, h1, by simp [h2], h5, by unfold ackT; rw [if_pos hc, if_neg ht, if_pos (.inr (.inr h5))]⟩)))
              · exact absurd ⟨hc, ht, h1, h2, h5⟩ hB
            · exact .inr (.inr (.inr (.inl ⟨hc, ht, h1, by simp [h2], trivial, by unfold ackT; rw [if_pos hc, if_neg ht, if_pos (.inr (.inl h2))]⟩)))
      · have hc2 : concernsX m ⟨ki, fr, to, te, ix, lt, cm, ok, it⟩ 4 = false := by simpa using hc
        exact .inl ⟨hc2, trivial, trivial, trivial, trivial, by unfold ackT; rw [if_neg hc]⟩
    have key2 : ∀ b : Bool, b = ok → (ok = true ∧ (m.log.length : Int) < ix) → b = true ∧ (m.log.length : Int) < ix := fun b e h => by rw [e]; exact h
    cases hn : (concernsX m ⟨ki, fr, to, te, ix, lt, cm, ok, it⟩ 4 && decide (m.term < te)) with
    | false =>
      refine ⟨⟨false, false, false, false⟩, ?_⟩
      rcases key with ⟨hc, ht, h1, h3, h5, hR⟩ | ⟨hc, ht, h1, h3, h5, hR⟩ | ⟨hc, ht, h1, h3, h5, hR⟩ | ⟨hc, ht, h1, h3, h5, hR⟩ | ⟨hc, ht, h1, h3, ⟨rfl, h5⟩, hR⟩
      rotate_left
      · simp [hc, ht] at hn
      all_goals
        rw [hR]
        refine PS_of (af := a102) rfl rfl ?_
        unfold a102
        dsimp only [List.map, ofPV, initEnv]
        repeat' (first | exact sp | exact bs101 m f _ _ (fresh_of rfl) hl1 hl2 hl3 hl4 | (simp (maxSteps := 2000000) (disch := omega) only [go_sem, seval, reduceCtorEq, mC, xC, rC, intPV, itemsPV_length, intsPV_length, itemsPV_take, intsPV_take, List.take_length, hc, ht, h1, h3, h5]) | with_reducible exact Ev.mk | apply x_call | apply x_callr | ((first | apply x_split | apply x_splitg) <;> intro hβ hb <;> (try simp only [hβ]) <;> clear hβ))
        all_goals first | rfl | ((try simp (maxSteps := 2000000) (disch := omega) only [go_sem, seval, reduceCtorEq, mC, xC, rC, intPV, itemsPV_length, intsPV_length, itemsPV_take, intsPV_take, List.take_length]) <;> rfl)
    | true =>
      simp only [Bool.and_eq_true, decide_eq_true_eq] at hn
      obtain ⟨hc, ht⟩ := hn
      have hR : ackT m ⟨ki, fr, to, te, ix, lt, cm, ok, it⟩ = followM m te := by unfold ackT; rw [if_pos hc, if_pos ht]
      refine ⟨⟨false, true, true, true⟩, ?_⟩
      rw [hR]
      refine PS_of (af := a102) rfl rfl ?_
      unfold a102
      dsimp only [List.map, ofPV, initEnv]
      repeat' (first | exact sp | exact ps110 m ⟨false, false, false, false⟩ te | exact bs101 m f _ _ (fresh_of rfl) hl1 hl2 hl3 hl4 | (simp (maxSteps := 2000000) (disch := omega) only [go_sem, seval, reduceCtorEq, mC, xC, rC, intPV, itemsPV_length, intsPV_length, itemsPV_take, intsPV_take, List.take_length, hc, ht]) | with_reducible exact Ev.mk | apply x_call | apply x_callr | ((first | apply x_split | apply x_splitg) <;> intro hβ hb <;> (try simp only [hβ]) <;> clear hβ))
      all_goals first | rfl | ((try simp (maxSteps := 2000000) (disch := omega) only [go_sem, seval, reduceCtorEq, mC, xC, rC, intPV, itemsPV_length, intsPV_length, itemsPV_take, intsPV_take, List.take_length, followM, intsPV_nil]) <;> rfl)

theorem ps115 (m : M) (f : Fl) (x : X) (q : Bool) (hm : MFew m) (hi : x.items.length ≤ 300) : ∃ g, PS tb 110 [.agg (mC m f), .agg (xC x q)] (.agg (mC (ackT m x) g)) := by
  have := hm.few1; have := hm.few2; have := hm.few3; have := hm.few4
  have hl1 : m.log.length ≤ 100000 := by omega
  have hl2 : m.votes.length ≤ 100000 := by omega
  have hl3 : m.next.length ≤ 100000 := by omega
  have hl4 : m.mtch.length ≤ 100000 := by omega
  have hi2 : x.items.length ≤ 9223372036854775807 := by omega
  obtain ⟨ki, fr, to, te, ix, lt, cm, ok, it⟩ := x
  simp only at hi hi2
  have sp := ps112 m f ⟨ki, fr, to, te, ix, lt, cm, ok, it⟩ q 4 hm.toMIn hi2
  by_cases hB : concernsX m ⟨ki, fr, to, te, ix, lt, cm, ok, it⟩ 4 = true ∧ ¬ m.term < te ∧ ¬ te < m.term ∧ m.role = 3 ∧ ¬ (ok = true ∧ (m.log.length : Int) < ix)
  · obtain ⟨hc, ht, h1, h2, h5⟩ := hB
    have hR : ackT m ⟨ki, fr, to, te, ix, lt, cm, ok, it⟩ = { ackN m ⟨ki, fr, to, te, ix, lt, cm, ok, it⟩ with commit := commOf (ackN m ⟨ki, fr, to, te, ix, lt, cm, ok, it⟩) } := by
      unfold ackT
      rw [if_pos hc, if_neg ht, if_neg (by rintro (h | h | h); exact h1 h; exact h h2; exact h5 h)]
    obtain ⟨h6, h7, h8, h9⟩ := concerns_ok hc
    have hx := okX_facts h7
    obtain ⟨f1, f2, f3, f4, f5, f6, f7⟩ := lead_facts h6 h2
    simp only at hx
    have h3 : (m.role != 3) = false := by simp [h2]
    have g1 : (0 : Int) ≤ fr - 1 := by omega
    have g2 := intsPV_getD m.next (fr - 1).toNat (by omega)
    have g3 := intsPV_getD m.mtch (fr - 1).toNat (by omega)
    have g4 : fr - 1 < (m.next.length : Int) := by omega
    have g5 : fr - 1 < (m.mtch.length : Int) := by omega
    have g6 : ∀ v : Int, (intsPV (m.mtch.set (fr - 1).toNat v))[(fr - 1).toNat]? = some [.int .i64 v] := fun v => by
      rw [intsPV_get _ _ (by simp; omega)]
      simp [intPV]
    have t2 : ∀ (i : Nat) (v : Int), (m.next.set i v).take m.next.length = m.next.set i v := fun i v => List.take_of_length_le (by simp)
    have t3 : ∀ (i : Nat) (v : Int), (m.mtch.set i v).take m.mtch.length = m.mtch.set i v := fun i v => List.take_of_length_le (by simp)
    have c1 : 0 ≤ (ackN m ⟨ki, fr, to, te, ix, lt, cm, ok, it⟩).commit := by unfold ackN; split <;> exact f6
    have c2 : (ackN m ⟨ki, fr, to, te, ix, lt, cm, ok, it⟩).log.length ≤ 9223372036854775807 := by unfold ackN; split <;> (simp only; omega)
    have c3 : (ackN m ⟨ki, fr, to, te, ix, lt, cm, ok, it⟩).mtch.length ≤ 9223372036854775807 := by unfold ackN; split <;> (simp only [List.length_set]; omega)
    have c4 : (ackN m ⟨ki, fr, to, te, ix, lt, cm, ok, it⟩).members ≤ 9223372036854775807 := by unfold ackN; split <;> exact hm.me2
    have e1 : ∀ a b : Int, (if a < b then b else a) = mx a b := fun a b => rfl
    have e2 : ∀ a b : Int, (if b < a then b else a) = mn a b := fun a b => rfl
    have n1 : -1 ≤ m.next.getD (fr - 1).toNat 0 - 1 ∧ m.next.getD (fr - 1).toNat 0 ≤ m.log.length := by
      have := prog_at h6 h2 (fr - 1).toNat (by omega)
      omega
    obtain ⟨n1, n2⟩ := n1
    cases ok with
    | true =>
      have h4 : ¬ (m.log.length : Int) < ix := fun h => h5 ⟨rfl, h⟩
      have hA : ackN m ⟨ki, fr, to, te, ix, lt, cm, true, it⟩ = ⟨m.id, m.members, m.term, m.vote, m.log, m.role, m.commit, m.votes, m.next.set (fr - 1).toNat (mx (m.mtch.getD (fr - 1).toNat 0) ix), m.mtch.set (fr - 1).toNat (mx (m.mtch.getD (fr - 1).toNat 0) ix)⟩ := rfl
      rw [hA] at c1 c2 c3 c4 hR
      rw [hR]
      refine ⟨⟨f.a, f.b, false, false⟩, ?_⟩
      generalize hv : mx (m.mtch.getD (fr - 1).toNat 0) ix = v at c1 c2 c3 c4 ⊢
      refine PS_of (af := a110) rfl rfl ?_
      unfold a110
      dsimp only [List.map, ofPV, initEnv]
      repeat' (first | exact sp | exact ps104' m.next _ _ _ g1 g4 hl3 | exact ps104' m.mtch _ _ _ g1 g5 hl4 | exact ps105 ⟨m.id, m.members, m.term, m.vote, m.log, m.role, m.commit, m.votes, m.next.set (fr - 1).toNat v, m.mtch.set (fr - 1).toNat v⟩ ⟨f.a, f.b, false, false⟩ c2 c3 c4 c1 | (simp (maxSteps := 2000000) (disch := omega) only [go_sem, seval, reduceCtorEq, mC, xC, rC, intPV, itemsPV_length, intsPV_length, itemsPV_take, intsPV_take, List.take_length, hc, ht, h1, h3, h4, g1, g2, g3, g4, g5, g6, t2, t3, e1, hv, intsPV_set, List.length_set]) | with_reducible exact Ev.mk | apply x_call | ((first | apply x_split | apply x_splitg) <;> intro hβ hb <;> (try simp only [hβ]) <;> clear hβ))
      all_goals first | rfl | ((try simp (maxSteps := 2000000) (disch := omega) only [go_sem, seval, reduceCtorEq, mC, xC, rC, intPV, itemsPV_length, intsPV_length, itemsPV_take, intsPV_take, List.take_length, t2, t3, intsPV_set, List.length_set]) <;> rfl)
    | false =>
      have hA : ackN m ⟨ki, fr, to, te, ix, lt, cm, false, it⟩ = ⟨m.id, m.members, m.term, m.vote, m.log, m.role, m.commit, m.votes, m.next.set (fr - 1).toNat (mx (mn (m.next.getD (fr - 1).toNat 0 - 1) ix) (m.mtch.getD (fr - 1).toNat 0)), m.mtch⟩ := rfl
      rw [hA] at c1 c2 c3 c4 hR
      rw [hR]
      refine ⟨⟨f.a, f.b, false, f.d⟩, ?_⟩
      generalize hw : mn (m.next.getD (fr - 1).toNat 0 - 1) ix = w at c1 c2 c3 c4 ⊢
      have hv2 : mx (m.mtch.getD (fr - 1).toNat 0) w = mx w (m.mtch.getD (fr - 1).toNat 0) := mx_comm _ _
      generalize hv : mx w (m.mtch.getD (fr - 1).toNat 0) = v at c1 c2 c3 c4 hv2 ⊢
      refine PS_of (af := a110) rfl rfl ?_
      unfold a110
      dsimp only [List.map, ofPV, initEnv]
      repeat' (first | exact sp | exact ps104' m.next _ _ _ g1 g4 hl3 | exact ps105 ⟨m.id, m.members, m.term, m.vote, m.log, m.role, m.commit, m.votes, m.next.set (fr - 1).toNat v, m.mtch⟩ ⟨f.a, f.b, false, f.d⟩ c2 c3 c4 c1 | (simp (maxSteps := 2000000) (disch := omega) only [go_sem, seval, reduceCtorEq, mC, xC, rC, intPV, itemsPV_length, intsPV_length, itemsPV_take, intsPV_take, List.take_length, hc, ht, h1, h3, g1, g2, g3, g4, g5, t2, t3, e1, e2, hw, hv, hv2, intsPV_set, List.length_set]) | with_reducible exact Ev.mk | apply x_call | ((first | apply x_split | apply x_splitg) <;> intro hβ hb <;> (try simp only [hβ]) <;> clear hβ))
      all_goals first | rfl | ((try simp (maxSteps := 2000000) (disch := omega) only [go_sem, seval, reduceCtorEq, mC, xC, rC, intPV, itemsPV_length, intsPV_length, itemsPV_take, intsPV_take, List.take_length, t2, t3, intsPV_set, List.length_set]) <;> rfl)
  · have key : (concernsX m ⟨ki, fr, to, te, ix, lt, cm, ok, it⟩ 4 = false ∧ True ∧ True ∧ True ∧ True ∧ ackT m ⟨ki, fr, to, te, ix, lt, cm, ok, it⟩ = m) ∨ (concernsX m ⟨ki, fr, to, te, ix, lt, cm, ok, it⟩ 4 = true ∧ m.term < te ∧ True ∧ True ∧ True ∧ ackT m ⟨ki, fr, to, te, ix, lt, cm, ok, it⟩ = followM m te) ∨ (concernsX m ⟨ki, fr, to, te, ix, lt, cm, ok, it⟩ 4 = true ∧ ¬ m.term < te ∧ te < m.term ∧ True ∧ True ∧ ackT m ⟨ki, fr, to, te, ix, lt, cm, ok, it⟩ = m) ∨
        (concernsX m ⟨ki, fr, to, te, ix, lt, cm, ok, it⟩ 4 = true ∧ ¬ m.term < te ∧ ¬ te < m.term ∧ (m.role != 3) = true ∧ True ∧ ackT m ⟨ki, fr, to, te, ix, lt, cm, ok, it⟩ = m) ∨ (concernsX m ⟨ki, fr, to, te, ix, lt, cm, ok, it⟩ 4 = true ∧ ¬ m.term < te ∧ ¬ te < m.term ∧ (m.role != 3) = false ∧ (ok = true ∧ (m.log.length : Int) < ix) ∧ ackT m ⟨ki, fr, to, te, ix, lt, cm, ok, it⟩ = m) := by
      by_cases hc : concernsX m ⟨ki, fr, to, te, ix, lt, cm, ok, it⟩ 4 = true
      · by_cases ht : m.term < te
        · exact .inr (.inl ⟨hc, ht, trivial, trivial, trivial, by unfold ackT; rw [if_pos hc, if_pos ht]⟩)
        · by_cases h1 : te < m.term
          · exact .inr (.inr (.inl ⟨hc, ht, h1, trivial, trivial, by unfold ackT; rw [if_pos hc, if_neg ht, if_pos (.inl h1)]⟩))
          · by_cases h2 : m.role = 3
            · by_cases h5 : ok = true ∧ (m.log.length : Int) < ix
              · exact .inr (.inr (.inr (.inr ⟨hc, ht, h1, by simp [h2], h5, by unfold ackT; rw [if_pos hc, if_neg ht, if_pos (.inr (.inr h5))]⟩)))
              · exact absurd ⟨hc, ht, h1, h2, h5⟩ hB
            · exact .inr (.inr (.inr (.inl ⟨hc, ht, h1, by simp [h2], trivial, by unfold ackT; rw [if_pos hc, if_neg ht, if_pos (.inr (.inl h2))]⟩)))
      · have hc2 : concernsX m ⟨ki, fr, to, te, ix, lt, cm, ok, it⟩ 4 = false := by simpa using hc
        exact .inl ⟨hc2, trivial, trivial, trivial, trivial, by unfold ackT; rw [if_neg hc]⟩
    have key2 : ∀ b : Bool, b = ok → (ok = true ∧ (m.log.length : Int) < ix) → b = true ∧ (m.log.length : Int) < ix := fun b e h => by rw [e]; exact h
    cases hn : (concernsX m ⟨ki, fr, to, te, ix, lt, cm, ok, it⟩ 4 && decide (m.term < te)) with
    | false =>
      refine ⟨f, ?_⟩
      rcases key with ⟨hc, ht, h1, h3, h5, hR⟩ | ⟨hc, ht, h1, h3, h5, hR⟩ | ⟨hc, ht, h1, h3, h5, hR⟩ | ⟨hc, ht, h1, h3, h5, hR⟩ | ⟨hc, ht, h1, h3, ⟨rfl, h5⟩, hR⟩
      rotate_left
      · simp [hc, ht] at hn
      all_goals
        rw [hR]
        refine PS_of (af := a110) rfl rfl ?_
        unfold a110
        dsimp only [List.map, ofPV, initEnv]
        repeat' (first | exact sp | (simp (maxSteps := 2000000) (disch := omega) only [go_sem, seval, reduceCtorEq, mC, xC, rC, intPV, itemsPV_length, intsPV_length, itemsPV_take, intsPV_take, List.take_length, hc, ht, h1, h3, h5]) | with_reducible exact Ev.mk | apply x_call | ((first | apply x_split | apply x_splitg) <;> intro hβ hb <;> (try simp only [hβ]) <;> clear hβ))
        all_goals first | rfl | ((try simp (maxSteps := 2000000) (disch := omega) only [go_sem, seval, reduceCtorEq, mC, xC, rC, intPV, itemsPV_length, intsPV_length, itemsPV_take, intsPV_take, List.take_length]) <;> rfl)
    | true =>
      simp only [Bool.and_eq_true, decide_eq_true_eq] at hn
      obtain ⟨hc, ht⟩ := hn
      have hR : ackT m ⟨ki, fr, to, te, ix, lt, cm, ok, it⟩ = followM m te := by unfold ackT; rw [if_pos hc, if_pos ht]
      refine ⟨⟨f.a, true, true, true⟩, ?_⟩
      rw [hR]
      refine PS_of (af := a110) rfl rfl ?_
      unfold a110
      dsimp only [List.map, ofPV, initEnv]
      repeat' (first | exact sp | exact ps114 m f te | (simp (maxSteps := 2000000) (disch := omega) only [go_sem, seval, reduceCtorEq, mC, xC, rC, intPV, itemsPV_length, intsPV_length, itemsPV_take, intsPV_take, List.take_length, hc, ht]) | with_reducible exact Ev.mk | apply x_call | ((first | apply x_split | apply x_splitg) <;> intro hβ hb <;> (try simp only [hβ]) <;> clear hβ))
      all_goals first | rfl | ((try simp (maxSteps := 2000000) (disch := omega) only [go_sem, seval, reduceCtorEq, mC, xC, rC, intPV, itemsPV_length, intsPV_length, itemsPV_take, intsPV_take, List.take_length, followM, intsPV_nil]) <;> rfl)

theorem optR_rows (b : Bool) (o : Option X) : optR b o = optRows b o := by cases o <;> rfl

def receiveR (m : M) (x : X) : M × Option X :=
  if x.kind = 1 then voteR m x else if x.kind = 2 then (countR m x, none) else if x.kind = 3 then appR m x else if x.kind = 4 then (ackT m x, none) else (m, none)

theorem ps54 (m : M) (f : Fl) (x : X) (q : Bool) (hm : MFew m) (hi : x.items.length ≤ 300) : ∃ g, PS tb 67 [.agg (mC m f), .agg (xC x q)] (.tuple [.agg (mC (receiveR m x).1 g), .slice true (optR true (receiveR m x).2)]) := by
  have := hm.few1; have := hm.few2; have := hm.few3; have := hm.few4
  have hl1 : m.log.length ≤ 100000 := by omega
  have hl2 : m.votes.length ≤ 100000 := by omega
  have hl3 : m.next.length ≤ 100000 := by omega
  have hl4 : m.mtch.length ≤ 100000 := by omega
  by_cases k1 : x.kind = 1
  · have j1 : (x.kind == 1) = true := by simpa using k1
    obtain ⟨g, p⟩ := ps36 m f x q hm hi
    refine ⟨g, ?_⟩
    rw [show receiveR m x = voteR m x from if_pos k1]
    generalize voteR m x = r at p
    refine PS_of (af := a67) rfl rfl ?_
    unfold a67
    dsimp only [List.map, ofPV, initEnv]
    repeat' (first | exact p | (simp (maxSteps := 2000000) (disch := omega) only [go_sem, seval, reduceCtorEq, mC, xC, rC, itemsPV_length, intsPV_length, itemsPV_take, intsPV_take, List.take_length, j1]) | with_reducible exact Ev.mk | apply x_call | ((first | apply x_split | apply x_splitg) <;> intro hβ hb <;> (try simp only [hβ]) <;> clear hβ))
    all_goals first | rfl | ((try simp (maxSteps := 2000000) (disch := omega) only [go_sem, seval, reduceCtorEq, mC, xC, rC, itemsPV_length, intsPV_length, itemsPV_take, intsPV_take, List.take_length, optR]) <;> rfl)
  · have j1 : (x.kind == 1) = false := by simpa using k1
    by_cases k2 : x.kind = 2
    · have j2 : (x.kind == 2) = true := by simpa using k2
      obtain ⟨g, p⟩ := ps41 m f x q hm hi
      refine ⟨g, ?_⟩
      rw [show receiveR m x = (countR m x, none) from (if_neg k1).trans (if_pos k2)]
      generalize countR m x = r at p
      refine PS_of (af := a67) rfl rfl ?_
      unfold a67
      dsimp only [List.map, ofPV, initEnv]
      repeat' (first | exact p | (simp (maxSteps := 2000000) (disch := omega) only [go_sem, seval, reduceCtorEq, mC, xC, rC, itemsPV_length, intsPV_length, itemsPV_take, intsPV_take, List.take_length, j1, j2]) | with_reducible exact Ev.mk | apply x_call | ((first | apply x_split | apply x_splitg) <;> intro hβ hb <;> (try simp only [hβ]) <;> clear hβ))
      all_goals first | rfl | ((try simp (maxSteps := 2000000) (disch := omega) only [go_sem, seval, reduceCtorEq, mC, xC, rC, itemsPV_length, intsPV_length, itemsPV_take, intsPV_take, List.take_length, optR]) <;> rfl)
    · have j2 : (x.kind == 2) = false := by simpa using k2
      by_cases k3 : x.kind = 3
      · have j3 : (x.kind == 3) = true := by simpa using k3
        obtain ⟨g, p⟩ := ps52 m f x q hm hi
        refine ⟨g, ?_⟩
        rw [show receiveR m x = appR m x from (if_neg k1).trans ((if_neg k2).trans (if_pos k3))]
        rw [← optR_rows] at p
        generalize appR m x = r at p
        refine PS_of (af := a67) rfl rfl ?_
        unfold a67
        dsimp only [List.map, ofPV, initEnv]
        repeat' (first | exact p | (simp (maxSteps := 2000000) (disch := omega) only [go_sem, seval, reduceCtorEq, mC, xC, rC, itemsPV_length, intsPV_length, itemsPV_take, intsPV_take, List.take_length, j1, j2, j3]) | with_reducible exact Ev.mk | apply x_call | ((first | apply x_split | apply x_splitg) <;> intro hβ hb <;> (try simp only [hβ]) <;> clear hβ))
        all_goals first | rfl | ((try simp (maxSteps := 2000000) (disch := omega) only [go_sem, seval, reduceCtorEq, mC, xC, rC, itemsPV_length, intsPV_length, itemsPV_take, intsPV_take, List.take_length, optR]) <;> rfl)
      · have j3 : (x.kind == 3) = false := by simpa using k3
        by_cases k4 : x.kind = 4
        · have j4 : (x.kind == 4) = true := by simpa using k4
          obtain ⟨g, p⟩ := ps100 m f x q hm hi
          refine ⟨g, ?_⟩
          rw [show receiveR m x = (ackT m x, none) from (if_neg k1).trans ((if_neg k2).trans ((if_neg k3).trans (if_pos k4)))]
          generalize ackT m x = r at p
          refine PS_of (af := a67) rfl rfl ?_
          unfold a67
          dsimp only [List.map, ofPV, initEnv]
          repeat' (first | exact p | (simp (maxSteps := 2000000) (disch := omega) only [go_sem, seval, reduceCtorEq, mC, xC, rC, itemsPV_length, intsPV_length, itemsPV_take, intsPV_take, List.take_length, j1, j2, j3, j4]) | with_reducible exact Ev.mk | apply x_call | ((first | apply x_split | apply x_splitg) <;> intro hβ hb <;> (try simp only [hβ]) <;> clear hβ))
          all_goals first | rfl | ((try simp (maxSteps := 2000000) (disch := omega) only [go_sem, seval, reduceCtorEq, mC, xC, rC, itemsPV_length, intsPV_length, itemsPV_take, intsPV_take, List.take_length, optR]) <;> rfl)
        · have j4 : (x.kind == 4) = false := by simpa using k4
          refine ⟨⟨false, false, false, false⟩, ?_⟩
          rw [show receiveR m x = (m, none) from (if_neg k1).trans ((if_neg k2).trans ((if_neg k3).trans (if_neg k4)))]
          refine PS_of (af := a67) rfl rfl ?_
          unfold a67
          dsimp only [List.map, ofPV, initEnv]
          repeat' (first | exact bs101 m f _ _ (fresh_of rfl) hl1 hl2 hl3 hl4 | (simp (maxSteps := 2000000) (disch := omega) only [go_sem, seval, reduceCtorEq, mC, xC, rC, itemsPV_length, intsPV_length, itemsPV_take, intsPV_take, List.take_length, j1, j2, j3, j4]) | with_reducible exact Ev.mk | apply x_callr | ((first | apply x_split | apply x_splitg) <;> intro hβ hb <;> (try simp only [hβ]) <;> clear hβ))
          all_goals first | rfl | ((try simp (maxSteps := 2000000) (disch := omega) only [go_sem, seval, reduceCtorEq, mC, xC, rC, itemsPV_length, intsPV_length, itemsPV_take, intsPV_take, List.take_length, optR]) <;> rfl)

theorem ps55 (m : M) (f : Fl) (x : X) (q : Bool) (hm : MFew m) (hi : x.items.length ≤ 300) : ∃ g, PS tb 83 [.agg (mC m f), .agg (xC x q)] (.tuple [.agg (mC (receiveR m x).1 g), .slice true (optR true (receiveR m x).2)]) := by
  have := hm.few1; have := hm.few2; have := hm.few3; have := hm.few4
  have hl1 : m.log.length ≤ 100000 := by omega
  have hl2 : m.votes.length ≤ 100000 := by omega
  have hl3 : m.next.length ≤ 100000 := by omega
  have hl4 : m.mtch.length ≤ 100000 := by omega
  by_cases k1 : x.kind = 1
  · have j1 : (x.kind == 1) = true := by simpa using k1
    obtain ⟨g, p⟩ := ps37 m f x q hm hi
    refine ⟨g, ?_⟩
    rw [show receiveR m x = voteR m x from if_pos k1]
    generalize voteR m x = r at p
    refine PS_of (af := a83) rfl rfl ?_
    unfold a83
    dsimp only [List.map, ofPV, initEnv]
    repeat' (first | exact p | (simp (maxSteps := 2000000) (disch := omega) only [go_sem, seval, reduceCtorEq, mC, xC, rC, itemsPV_length, intsPV_length, itemsPV_take, intsPV_take, List.take_length, j1]) | with_reducible exact Ev.mk | apply x_call | ((first | apply x_split | apply x_splitg) <;> intro hβ hb <;> (try simp only [hβ]) <;> clear hβ))
    all_goals first | rfl | ((try simp (maxSteps := 2000000) (disch := omega) only [go_sem, seval, reduceCtorEq, mC, xC, rC, itemsPV_length, intsPV_length, itemsPV_take, intsPV_take, List.take_length, optR]) <;> rfl)
  · have j1 : (x.kind == 1) = false := by simpa using k1
    by_cases k2 : x.kind = 2
    · have j2 : (x.kind == 2) = true := by simpa using k2
      obtain ⟨g, p⟩ := ps42 m f x q hm hi
      refine ⟨g, ?_⟩
      rw [show receiveR m x = (countR m x, none) from (if_neg k1).trans (if_pos k2)]
      generalize countR m x = r at p
      refine PS_of (af := a83) rfl rfl ?_
      unfold a83
      dsimp only [List.map, ofPV, initEnv]
      repeat' (first | exact p | (simp (maxSteps := 2000000) (disch := omega) only [go_sem, seval, reduceCtorEq, mC, xC, rC, itemsPV_length, intsPV_length, itemsPV_take, intsPV_take, List.take_length, j1, j2]) | with_reducible exact Ev.mk | apply x_call | ((first | apply x_split | apply x_splitg) <;> intro hβ hb <;> (try simp only [hβ]) <;> clear hβ))
      all_goals first | rfl | ((try simp (maxSteps := 2000000) (disch := omega) only [go_sem, seval, reduceCtorEq, mC, xC, rC, itemsPV_length, intsPV_length, itemsPV_take, intsPV_take, List.take_length, optR]) <;> rfl)
    · have j2 : (x.kind == 2) = false := by simpa using k2
      by_cases k3 : x.kind = 3
      · have j3 : (x.kind == 3) = true := by simpa using k3
        obtain ⟨g, p⟩ := ps53 m f x q hm hi
        refine ⟨g, ?_⟩
        rw [show receiveR m x = appR m x from (if_neg k1).trans ((if_neg k2).trans (if_pos k3))]
        rw [← optR_rows] at p
        generalize appR m x = r at p
        refine PS_of (af := a83) rfl rfl ?_
        unfold a83
        dsimp only [List.map, ofPV, initEnv]
        repeat' (first | exact p | (simp (maxSteps := 2000000) (disch := omega) only [go_sem, seval, reduceCtorEq, mC, xC, rC, itemsPV_length, intsPV_length, itemsPV_take, intsPV_take, List.take_length, j1, j2, j3]) | with_reducible exact Ev.mk | apply x_call | ((first | apply x_split | apply x_splitg) <;> intro hβ hb <;> (try simp only [hβ]) <;> clear hβ))
        all_goals first | rfl | ((try simp (maxSteps := 2000000) (disch := omega) only [go_sem, seval, reduceCtorEq, mC, xC, rC, itemsPV_length, intsPV_length, itemsPV_take, intsPV_take, List.take_length, optR]) <;> rfl)
      · have j3 : (x.kind == 3) = false := by simpa using k3
        by_cases k4 : x.kind = 4
        · have j4 : (x.kind == 4) = true := by simpa using k4
          obtain ⟨g, p⟩ := ps115 m f x q hm hi
          refine ⟨g, ?_⟩
          rw [show receiveR m x = (ackT m x, none) from (if_neg k1).trans ((if_neg k2).trans ((if_neg k3).trans (if_pos k4)))]
          generalize ackT m x = r at p
          refine PS_of (af := a83) rfl rfl ?_
          unfold a83
          dsimp only [List.map, ofPV, initEnv]
          repeat' (first | exact p | (simp (maxSteps := 2000000) (disch := omega) only [go_sem, seval, reduceCtorEq, mC, xC, rC, itemsPV_length, intsPV_length, itemsPV_take, intsPV_take, List.take_length, j1, j2, j3, j4]) | with_reducible exact Ev.mk | apply x_call | ((first | apply x_split | apply x_splitg) <;> intro hβ hb <;> (try simp only [hβ]) <;> clear hβ))
          all_goals first | rfl | ((try simp (maxSteps := 2000000) (disch := omega) only [go_sem, seval, reduceCtorEq, mC, xC, rC, itemsPV_length, intsPV_length, itemsPV_take, intsPV_take, List.take_length, optR]) <;> rfl)
        · have j4 : (x.kind == 4) = false := by simpa using k4
          refine ⟨f, ?_⟩
          rw [show receiveR m x = (m, none) from (if_neg k1).trans ((if_neg k2).trans ((if_neg k3).trans (if_neg k4)))]
          refine PS_of (af := a83) rfl rfl ?_
          unfold a83
          dsimp only [List.map, ofPV, initEnv]
          repeat' (first | (simp (maxSteps := 2000000) (disch := omega) only [go_sem, seval, reduceCtorEq, mC, xC, rC, itemsPV_length, intsPV_length, itemsPV_take, intsPV_take, List.take_length, j1, j2, j3, j4]) | with_reducible exact Ev.mk | ((first | apply x_split | apply x_splitg) <;> intro hβ hb <;> (try simp only [hβ]) <;> clear hβ))
          all_goals first | rfl | ((try simp (maxSteps := 2000000) (disch := omega) only [go_sem, seval, reduceCtorEq, mC, xC, rC, itemsPV_length, intsPV_length, itemsPV_take, intsPV_take, List.take_length, optR]) <;> rfl)

theorem r_lists_of {a : M} (h : okM a = true) : a.votes.length ≤ 40 ∧ a.next.length ≤ 40 ∧ a.mtch.length ≤ 40 := by
  obtain ⟨hh, hr⟩ := (okM_iff a).1 h
  have := hh.me1; have := hh.me2
  rcases hr with ⟨_, h1, h2, h3⟩ | ⟨_, _, _, h1, h2, h3⟩ | ⟨_, _, _, h1, h2⟩
  · rw [h1, h2, h3]; simp
  · rw [h2, h3]
    simp only [okVotes, Bool.and_eq_true, decide_eq_true_eq] at h1
    have : maj a.members ≤ 4 := by unfold maj; split <;> omega
    have : a.votes.length ≤ 40 := by omega
    simp [this]
  · rw [h1]
    simp only [okProg, Bool.and_eq_true, decide_eq_true_eq] at h2
    simp; omega

end Go.Dv.Tryz
