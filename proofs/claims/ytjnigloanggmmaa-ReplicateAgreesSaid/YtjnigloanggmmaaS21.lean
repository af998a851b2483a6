/-
  Specifications, part 21: what an answer to an append says; the law ReplicateAgrees about the interpreter.
-/
import Derived.Test.YtjnigloanggmmaaS20
set_option linter.unusedVariables false
set_option linter.unusedSimpArgs false
set_option maxRecDepth 100000
set_option maxHeartbeats 4000000
namespace Go.Dv.Try
open Go Go.Dv

theorem sameIt_refl (x : Int × ByteArray) : sameIt x x = true := by simp [sameIt]

theorem sameN_spec (log : List (Int × ByteArray)) : ∀ (l : List (Int × ByteArray)) (k j : Nat) (z : Int × ByteArray), j < sameN log k l → l[j]? = some z → ∃ y, log[k + j]? = some y ∧ sameIt y z = true
  | [], k, j, z, h, _ => by simp [sameN] at h
  | x :: r, k, j, z, h, hz => by
    simp only [sameN] at h
    split at h
    · rename_i y hy
      split at h
      · rename_i hs
        cases j with
        | zero => simp at hz; subst hz; exact ⟨y, hy, hs⟩
        | succ j =>
          simp at hz
          obtain ⟨y', e1, e2⟩ := sameN_spec log r (k + 1) j z (by omega) hz
          exact ⟨y', by rw [← e1]; congr 1; omega, e2⟩
      · omega
    · omega

theorem l39g (l l' : List (Int × ByteArray)) (b c : Bool) (hl : l.length ≤ 140737488355328) (hq : l'.length = l.length) (hs : ∀ (j : Nat) y z, l[j]? = some y → l'[j]? = some z → sameIt y z = true) (K : Ex → St → Prop)
    (hx : K (.exit 0) ⟨[], [], 0, [0]⟩) : ∀ (n i : Nat), i + n = l.length →
    W tb a39_l0 ⟨[(0, .p (.slice b (itemsPV l))), (1, .p (.slice c (itemsPV l'))), (5, .p (.int .i64 i))], [], 0, [0]⟩ (LK tb (.ghost .lower a39_l0) K) := by
  intro n
  induction n with
  | zero =>
    intro i hi
    have h1 : ¬ (i : Int) < l.length := by omega
    refine i_code (by unfold a39_l0; exact rfl) ?_
    repeat' (first | (simp (disch := omega) only [go_sem, Nat.reduceBEq, Nat.reduceLT, ↓reduceIte, Nat.reduceAdd, Nat.reduceSub, Nat.reduceMul, Nat.reduceLeDiff, Nat.reduceEqDiff, reduceCtorEq, Int.reduceEq, Int.reduceLT, Int.reduceLE, Int.reduceNeg, Int.reduceToNat, Int.reduceAdd, Int.reduceSub, Int.reduceBEq, Int.reduceBNe, h1, itemsPV_length]) | ((first | apply x_split_cond | apply x_split_guard); all_goals (intro hb; (try simp only [Bool.not_eq_true', Bool.not_eq_false'] at hb); (simp (disch := omega) only [go_sem, Nat.reduceBEq, Nat.reduceLT, ↓reduceIte, Nat.reduceAdd, Nat.reduceSub, Nat.reduceMul, Nat.reduceLeDiff, Nat.reduceEqDiff, reduceCtorEq, Int.reduceEq, Int.reduceLT, Int.reduceLE, Int.reduceNeg, Int.reduceToNat, Int.reduceAdd, Int.reduceSub, Int.reduceBEq, Int.reduceBNe, h1, itemsPV_length, hb]); (try simp only [decide_eq_true_eq, decide_eq_false_iff_not, beq_iff_eq, beq_eq_false_iff_ne, ne_eq, bne_iff_ne, bne_eq_false_iff_eq, Decidable.not_not] at hb))))
    exact hx
  | succ n ih =>
    intro i hi
    have h1 : (i : Int) < l.length := by omega
    have h2 : i < l.length := by omega
    have h2' : i < l'.length := by omega
    have h3 := itemsPV_get l i h2
    have h3' := itemsPV_get l' i h2'
    have h4 : (0 : Int) ≤ i := by omega
    have hh := hs i _ _ (List.getElem?_eq_getElem h2) (List.getElem?_eq_getElem h2')
    simp only [sameIt, Bool.and_eq_true] at hh
    obtain ⟨q1, q2⟩ := hh
    refine i_code (by unfold a39_l0; exact rfl) ?_
    repeat' (first | (simp (disch := omega) only [go_sem, Nat.reduceBEq, Nat.reduceLT, ↓reduceIte, Nat.reduceAdd, Nat.reduceSub, Nat.reduceMul, Nat.reduceLeDiff, Nat.reduceEqDiff, reduceCtorEq, Int.reduceEq, Int.reduceLT, Int.reduceLE, Int.reduceNeg, Int.reduceToNat, Int.reduceAdd, Int.reduceSub, Int.reduceBEq, Int.reduceBNe, h1, h3, h3', h4, q1, q2, itemPV, itemsPV_length]) | ((first | apply x_split_cond | apply x_split_guard); all_goals (intro hb; (try simp only [Bool.not_eq_true', Bool.not_eq_false'] at hb); (simp (disch := omega) only [go_sem, Nat.reduceBEq, Nat.reduceLT, ↓reduceIte, Nat.reduceAdd, Nat.reduceSub, Nat.reduceMul, Nat.reduceLeDiff, Nat.reduceEqDiff, reduceCtorEq, Int.reduceEq, Int.reduceLT, Int.reduceLE, Int.reduceNeg, Int.reduceToNat, Int.reduceAdd, Int.reduceSub, Int.reduceBEq, Int.reduceBNe, h1, h3, h3', h4, q1, q2, itemPV, itemsPV_length, hb]); (try simp only [decide_eq_true_eq, decide_eq_false_iff_not, beq_iff_eq, beq_eq_false_iff_ne, ne_eq, bne_iff_ne, bne_eq_false_iff_eq, Decidable.not_not] at hb))))
    refine i_lk (W_round ?_)
    (try simp (disch := omega) only [go_sem, Nat.reduceBEq, Nat.reduceLT, ↓reduceIte, Nat.reduceAdd, Nat.reduceSub, Nat.reduceMul, Nat.reduceLeDiff, Nat.reduceEqDiff, reduceCtorEq, Int.reduceEq, Int.reduceLT, Int.reduceLE, Int.reduceNeg, Int.reduceToNat, Int.reduceAdd, Int.reduceSub, Int.reduceBEq, Int.reduceBNe])
    exact ih (i + 1) (by omega)

theorem ps39g (l l' : List (Int × ByteArray)) (b c : Bool) (hl : l.length ≤ 140737488355328) (hq : l'.length = l.length) (hs : ∀ (j : Nat) y z, l[j]? = some y → l'[j]? = some z → sameIt y z = true) : PS tb 39 [.slice b (itemsPV l), .slice c (itemsPV l')] (.bool true) := by
  refine PS_of (af := a39) rfl rfl ?_
  unfold a39
  dsimp only [List.map, ofPV, initEnv]
  repeat' (first | (simp (disch := omega) only [go_sem, Nat.reduceBEq, Nat.reduceLT, ↓reduceIte, Nat.reduceAdd, Nat.reduceSub, Nat.reduceMul, Nat.reduceLeDiff, Nat.reduceEqDiff, reduceCtorEq, Int.reduceEq, Int.reduceLT, Int.reduceLE, Int.reduceNeg, Int.reduceToNat, Int.reduceAdd, Int.reduceSub, Int.reduceBEq, Int.reduceBNe, itemsPV_length, hq]) | ((first | apply x_split_cond | apply x_split_guard); all_goals (intro hb; (try simp only [Bool.not_eq_true', Bool.not_eq_false'] at hb); (simp (disch := omega) only [go_sem, Nat.reduceBEq, Nat.reduceLT, ↓reduceIte, Nat.reduceAdd, Nat.reduceSub, Nat.reduceMul, Nat.reduceLeDiff, Nat.reduceEqDiff, reduceCtorEq, Int.reduceEq, Int.reduceLT, Int.reduceLE, Int.reduceNeg, Int.reduceToNat, Int.reduceAdd, Int.reduceSub, Int.reduceBEq, Int.reduceBNe, itemsPV_length, hq, hb]); (try simp only [decide_eq_true_eq, decide_eq_false_iff_not, beq_iff_eq, beq_eq_false_iff_ne, ne_eq, bne_iff_ne, bne_eq_false_iff_eq, Decidable.not_not] at hb))))
  refine W_round ?_
  (try simp (disch := omega) only [go_sem, Nat.reduceBEq, Nat.reduceLT, ↓reduceIte, Nat.reduceAdd, Nat.reduceSub, Nat.reduceMul, Nat.reduceLeDiff, Nat.reduceEqDiff, reduceCtorEq, Int.reduceEq, Int.reduceLT, Int.reduceLE, Int.reduceNeg, Int.reduceToNat, Int.reduceAdd, Int.reduceSub, Int.reduceBEq, Int.reduceBNe])
  refine l39g l l' b c hl hq hs _ ?_ l.length 0 (by omega)
  (try simp (disch := omega) only [go_sem, Nat.reduceBEq, Nat.reduceLT, ↓reduceIte, Nat.reduceAdd, Nat.reduceSub, Nat.reduceMul, Nat.reduceLeDiff, Nat.reduceEqDiff, reduceCtorEq, Int.reduceEq, Int.reduceLT, Int.reduceLE, Int.reduceNeg, Int.reduceToNat, Int.reduceAdd, Int.reduceSub, Int.reduceBEq, Int.reduceBNe])
  all_goals simp [pur, dep]

/-- What an answer to an append says of the member. -/
structure Says (m : M) (x : X) (a : M) (y : X) : Prop where
  kind : y.kind = 4
  to : y.to = x.frm
  term : y.term = a.term
  le : ¬ a.term < x.term
  no : y.ok = false → a.log = m.log ∧ y.index ≤ (m.log.length : Int)
  yes : y.ok = true → y.index = x.index + (x.items.length : Int) ∧ x.index + (x.items.length : Int) ≤ (a.log.length : Int) ∧ x.index ≤ (m.log.length : Int) ∧ (¬ x.index = 0 → itTerm a.log (x.index - 1).toNat = x.logTerm) ∧
    (∀ (j : Nat) u z, ((a.log.take (x.index + (x.items.length : Int)).toNat).drop x.index.toNat)[j]? = some u → x.items[j]? = some z → sameIt u z = true) ∧ a.log.take x.index.toNat = m.log.take x.index.toNat

theorem says_log {m : M} {x : X} (i0 : 0 ≤ x.index) (hk : x.index ≤ (m.log.length : Int)) :
    x.index + (x.items.length : Int) ≤ ((logX m x).length : Int) ∧ (∀ (j : Nat) u z, (((logX m x).take (x.index + (x.items.length : Int)).toNat).drop x.index.toNat)[j]? = some u → x.items[j]? = some z → sameIt u z = true) ∧
    (logX m x).take x.index.toNat = m.log.take x.index.toNat ∧ ∀ i, i < x.index.toNat → (logX m x)[i]? = m.log[i]? := by
  have s1 := sameN_le m.log x.items x.index.toNat
  have s2 := sameN_log m.log x.items x.index.toNat (by omega)
  have s3 := sameN_spec m.log x.items x.index.toNat
  have es : sameX m x = sameN m.log x.index.toNat x.items := rfl
  unfold logX
  rw [es]
  generalize sameN m.log x.index.toNat x.items = s at *
  by_cases hs : (s : Int) < (x.items.length : Int)
  · rw [if_pos hs]
    have ht : (m.log.take (x.index.toNat + s)).length = x.index.toNat + s := by simp; omega
    refine ⟨by simp; omega, fun j u z hu hz => ?_, ?_, fun i hi => ?_⟩
    · have hj : j < x.items.length := by
        rcases Nat.lt_or_ge j x.items.length with h | h
        · exact h
        · rw [List.getElem?_eq_none h] at hz; cases hz
      rw [List.getElem?_drop, List.getElem?_take_of_lt (by omega)] at hu
      by_cases hjs : j < s
      · rw [List.getElem?_append_left (by omega), List.getElem?_take_of_lt (by omega)] at hu
        obtain ⟨y, e1, e2⟩ := s3 j z hjs hz
        rw [hu] at e1; cases e1; exact e2
      · rw [List.getElem?_append_right (by omega), ht, List.getElem?_drop] at hu
        have : s + (x.index.toNat + j - (x.index.toNat + s)) = j := by omega
        rw [this, hz] at hu
        cases hu; exact sameIt_refl _
    · rw [List.take_append_of_le_length (by omega), List.take_take]
      congr 1; omega
    · rw [List.getElem?_append_left (by omega), List.getElem?_take_of_lt (by omega)]
  · rw [if_neg hs]
    refine ⟨by omega, fun j u z hu hz => ?_, rfl, fun i hi => rfl⟩
    have hj : j < x.items.length := by
      rcases Nat.lt_or_ge j x.items.length with h | h
      · exact h
      · rw [List.getElem?_eq_none h] at hz; cases hz
    rw [List.getElem?_drop, List.getElem?_take_of_lt (by omega)] at hu
    obtain ⟨y, e1, e2⟩ := s3 j z (by omega) hz
    rw [hu] at e1; cases e1; exact e2

theorem mn_le (a b : Int) : mn a b ≤ a := by unfold mn; split <;> omega

theorem says_of {m : M} {x : X} (hc : concernsX m x 3 = true) {y : X} (h : (appR m x).2 = some y) : Says m x (appR m x).1 y := by
  obtain ⟨ok, i0, i1, i2⟩ := concerns_facts hc
  unfold appR at h ⊢
  rw [if_neg (by simp [hc])] at h ⊢
  by_cases ht : x.term < m.term
  · rw [if_pos ht] at h ⊢
    simp only [Option.some.injEq] at h; subst h
    exact ⟨rfl, rfl, rfl, by simp only []; omega, fun _ => ⟨rfl, by simp only [replyX]; omega⟩, fun h => by simp [replyX] at h⟩
  · rw [if_neg ht] at h ⊢
    by_cases hr : (app1 m x).role = 3
    · rw [if_pos hr] at h; cases h
    · rw [if_neg hr] at h ⊢
      have el : (app2 m x).log = m.log := by unfold app2 app1; split <;> rfl
      have et : ¬ (app2 m x).term < x.term := by
        unfold app2 app1
        split
        · simp only [followM]; omega
        · simp only []; omega
      unfold app3 at h ⊢
      by_cases hmi : missX (app2 m x) x = true
      · rw [if_pos hmi] at h ⊢
        simp only [Option.some.injEq] at h; subst h
        refine ⟨rfl, rfl, rfl, et, fun _ => ⟨el, ?_⟩, fun h => by simp [replyX] at h⟩
        simp only [replyX, el]
        exact mn_le _ _
      · rw [if_neg hmi] at h ⊢
        by_cases hf : fullX (app2 m x) x = true
        · rw [if_pos hf] at h; cases h
        · rw [if_neg hf] at h ⊢
          simp only [Option.some.injEq] at h; subst h
          simp only [missX, el, Bool.or_eq_true, Bool.and_eq_true, decide_eq_true_eq, not_or, not_and, ne_eq, Decidable.not_not] at hmi
          have hk : x.index ≤ ((app2 m x).log.length : Int) := by rw [el]; omega
          obtain ⟨g1, g2, g3, g4⟩ := says_log (m := app2 m x) (x := x) i0 hk
          refine ⟨rfl, rfl, rfl, et, fun h => by simp [replyX] at h, fun _ => ⟨rfl, g1, by omega, fun hz => ?_, g2, by rw [← el]; exact g3⟩⟩
          have h2 := hmi.2 hz
          unfold termN at h2
          rw [if_neg hz] at h2
          rw [← h2]
          show (List.getD (logX (app2 m x) x) _ _).1 = (List.getD m.log _ _).1
          rw [List.getD_eq_getElem?_getD, List.getD_eq_getElem?_getD, g4 _ (by omega), el]

end Go.Dv.Try
