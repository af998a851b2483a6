/-
  Specifications, part 4: valid votes in the second text.
-/
import Derived.Test.YtjnigloanggmmaaS3
set_option linter.unusedVariables false
set_option linter.unusedSimpArgs false
set_option maxRecDepth 100000
set_option maxHeartbeats 4000000
namespace Go.Dv.Try
open Go Go.Dv

def st79 (m : M) (f : Fl) (i : Nat) (own : Bool) : St := ⟨[(1, .ptr 0 0), (3, .p (.bool own)), (4, .p (.int .i64 i))], [(0, .var false ((mC m f).map .p))], 1, [0]⟩

theorem l79 (m : M) (f : Fl) (hl : m.votes.length ≤ 140737488355328) (K : Ex → St → Prop)
    (hx : (List.range m.votes.length).all (vOK m.members m.votes) = true → K (.exit 0) ⟨[(1, .ptr 0 0), (3, .p (.bool (m.votes.any (· == m.id))))], [(0, .var false ((mC m f).map .p))], 1, [0]⟩)
    (hr : (List.range m.votes.length).all (vOK m.members m.votes) = false → ∀ s, aget s.env 2 = some (.p (.bool false)) → K .ret s) :
    ∀ (n i : Nat), i + n = m.votes.length → (List.range i).all (vOK m.members m.votes) = true →
    W tb a79_l0 (st79 m f i ((m.votes.take i).any (· == m.id))) (LK tb (.ghost .lower a79_l0) K) := by
  intro n
  induction n with
  | zero =>
    intro i hi ht
    have h1 : ¬ (i : Int) < m.votes.length := by omega
    have he : i = m.votes.length := by omega
    rw [List.take_of_length_le (by omega)]
    unfold st79
    refine i_code (by unfold a79_l0; exact rfl) ?_
    repeat' (first | (simp (disch := omega) only [go_sem, Nat.reduceBEq, Nat.reduceBNe, Nat.reduceLT, ↓reduceIte, Nat.reduceAdd, Nat.reduceSub, Nat.reduceMul, Nat.reduceLeDiff, Nat.reduceEqDiff, reduceCtorEq, Int.reduceEq, Int.reduceLT, Int.reduceLE, Int.reduceNeg, Int.reduceToNat, Int.reduceAdd, Int.reduceSub, Int.reduceBEq, Int.reduceBNe, h1, intsPV_length, mC]) | ((first | apply x_split_cond | apply x_split_guard); all_goals (intro hb; (try simp only [Bool.not_eq_true', Bool.not_eq_false'] at hb); (simp (disch := omega) only [go_sem, Nat.reduceBEq, Nat.reduceBNe, Nat.reduceLT, ↓reduceIte, Nat.reduceAdd, Nat.reduceSub, Nat.reduceMul, Nat.reduceLeDiff, Nat.reduceEqDiff, reduceCtorEq, Int.reduceEq, Int.reduceLT, Int.reduceLE, Int.reduceNeg, Int.reduceToNat, Int.reduceAdd, Int.reduceSub, Int.reduceBEq, Int.reduceBNe, h1, intsPV_length, mC, hb]); (try simp only [decide_eq_true_eq, decide_eq_false_iff_not, beq_iff_eq, beq_eq_false_iff_ne, ne_eq, bne_iff_ne, bne_eq_false_iff_eq, Decidable.not_not] at hb))))
    rw [he] at ht
    exact hx ht
  | succ n ih =>
    intro i hi ht
    have h1 : (i : Int) < m.votes.length := by omega
    have h2 : i < m.votes.length := by omega
    have h3 := intsPV_get m.votes i h2
    have h4 : (0 : Int) ≤ i := by omega
    unfold st79
    refine i_code (by unfold a79_l0; exact rfl) ?_
    have back : ∀ (o : Bool), (m.votes.take (i + 1)).any (· == m.id) = o → vOK m.members m.votes i = true → LK tb (.ghost .lower a79_l0) K .normal ⟨[(1, .ptr 0 0), (3, .p (.bool o)), (4, .p (.int .i64 ((i + 1 : Nat) : Int)))], [(0, .var false ((mC m f).map .p))], 1, [0]⟩ := by
      intro o ho hv
      refine i_lk (W_round ?_)
      (try simp (disch := omega) only [go_sem, Nat.reduceBEq, Nat.reduceBNe, Nat.reduceLT, ↓reduceIte, Nat.reduceAdd, Nat.reduceSub, Nat.reduceMul, Nat.reduceLeDiff, Nat.reduceEqDiff, reduceCtorEq, Int.reduceEq, Int.reduceLT, Int.reduceLE, Int.reduceNeg, Int.reduceToNat, Int.reduceAdd, Int.reduceSub, Int.reduceBEq, Int.reduceBNe, mC])
      subst ho
      exact ih (i + 1) (by omega) (ra_step ht hv)
    have own : (m.votes.take (i + 1)).any (· == m.id) = ((m.votes.take i).any (· == m.id) || m.votes[i] == m.id) := any_step m.votes m.id i h2
    by_cases h0 : i = 0
    · have h5 : ¬ (0 : Int) < i := by omega
      repeat' (first | (simp (disch := omega) only [go_sem, Nat.reduceBEq, Nat.reduceBNe, Nat.reduceLT, ↓reduceIte, Nat.reduceAdd, Nat.reduceSub, Nat.reduceMul, Nat.reduceLeDiff, Nat.reduceEqDiff, reduceCtorEq, Int.reduceEq, Int.reduceLT, Int.reduceLE, Int.reduceNeg, Int.reduceToNat, Int.reduceAdd, Int.reduceSub, Int.reduceBEq, Int.reduceBNe, h1, h3, h4, h5, intPV, intsPV_length, mC]) | ((first | apply x_split_cond | apply x_split_guard); all_goals (intro hb; (try simp only [Bool.not_eq_true', Bool.not_eq_false'] at hb); (simp (disch := omega) only [go_sem, Nat.reduceBEq, Nat.reduceBNe, Nat.reduceLT, ↓reduceIte, Nat.reduceAdd, Nat.reduceSub, Nat.reduceMul, Nat.reduceLeDiff, Nat.reduceEqDiff, reduceCtorEq, Int.reduceEq, Int.reduceLT, Int.reduceLE, Int.reduceNeg, Int.reduceToNat, Int.reduceAdd, Int.reduceSub, Int.reduceBEq, Int.reduceBNe, h1, h3, h4, h5, intPV, intsPV_length, mC, hb]); (try simp only [decide_eq_true_eq, decide_eq_false_iff_not, beq_iff_eq, beq_eq_false_iff_ne, ne_eq, bne_iff_ne, bne_eq_false_iff_eq, Decidable.not_not] at hb))))
      all_goals first
        | exact hr (ra_no h2 (vOK_no h2 (by omega))) _ rfl
        | exact back _ (by rw [own]; simp only [hb, Bool.true_or, Bool.false_or]) (vOK_yes h2 (by assumption) (by assumption) (.inl h0))
    · have h5 : (0 : Int) < i := by omega
      have h6 : (0 : Int) ≤ i - 1 := by omega
      have h7 : ((i : Int) - 1).toNat = i - 1 := by omega
      have h8 := intsPV_get m.votes (i - 1) (by omega)
      have h9 : m.votes.getD (i - 1) 0 = m.votes[i - 1] := getD_eq m.votes (i - 1) (by omega)
      repeat' (first | (simp (disch := omega) only [go_sem, Nat.reduceBEq, Nat.reduceBNe, Nat.reduceLT, ↓reduceIte, Nat.reduceAdd, Nat.reduceSub, Nat.reduceMul, Nat.reduceLeDiff, Nat.reduceEqDiff, reduceCtorEq, Int.reduceEq, Int.reduceLT, Int.reduceLE, Int.reduceNeg, Int.reduceToNat, Int.reduceAdd, Int.reduceSub, Int.reduceBEq, Int.reduceBNe, h1, h3, h4, h5, h6, h7, h8, intPV, intsPV_length, mC]) | ((first | apply x_split_cond | apply x_split_guard); all_goals (intro hb; (try simp only [Bool.not_eq_true', Bool.not_eq_false'] at hb); (simp (disch := omega) only [go_sem, Nat.reduceBEq, Nat.reduceBNe, Nat.reduceLT, ↓reduceIte, Nat.reduceAdd, Nat.reduceSub, Nat.reduceMul, Nat.reduceLeDiff, Nat.reduceEqDiff, reduceCtorEq, Int.reduceEq, Int.reduceLT, Int.reduceLE, Int.reduceNeg, Int.reduceToNat, Int.reduceAdd, Int.reduceSub, Int.reduceBEq, Int.reduceBNe, h1, h3, h4, h5, h6, h7, h8, intPV, intsPV_length, mC, hb]); (try simp only [decide_eq_true_eq, decide_eq_false_iff_not, beq_iff_eq, beq_eq_false_iff_ne, ne_eq, bne_iff_ne, bne_eq_false_iff_eq, Decidable.not_not] at hb))))
      all_goals first
        | exact hr (ra_no h2 (vOK_no h2 (by omega))) _ rfl
        | exact back _ (by rw [own]; simp only [hb, Bool.true_or, Bool.false_or]) (vOK_yes h2 (by assumption) (by assumption) (.inr (by rw [h9]; assumption)))

theorem ps79 (m : M) (f : Fl) (hl : m.votes.length ≤ 140737488355328) (hm : m.members ≤ 9223372036854775807) : PS tb 79 [.agg (mC m f)] (.bool (okVotes m)) := by
  refine PS_of (af := a79) rfl rfl ?_
  unfold a79
  dsimp only [List.map, ofPV, initEnv]
  (try simp (disch := omega) only [go_sem, Nat.reduceBEq, Nat.reduceBNe, Nat.reduceLT, ↓reduceIte, Nat.reduceAdd, Nat.reduceSub, Nat.reduceMul, Nat.reduceLeDiff, Nat.reduceEqDiff, reduceCtorEq, Int.reduceEq, Int.reduceLT, Int.reduceLE, Int.reduceNeg, Int.reduceToNat, Int.reduceAdd, Int.reduceSub, Int.reduceBEq, Int.reduceBNe, mC, intsPV_length])
  refine W_round ?_
  (try simp (disch := omega) only [go_sem, Nat.reduceBEq, Nat.reduceBNe, Nat.reduceLT, ↓reduceIte, Nat.reduceAdd, Nat.reduceSub, Nat.reduceMul, Nat.reduceLeDiff, Nat.reduceEqDiff, reduceCtorEq, Int.reduceEq, Int.reduceLT, Int.reduceLE, Int.reduceNeg, Int.reduceToNat, Int.reduceAdd, Int.reduceSub, Int.reduceBEq, Int.reduceBNe])
  refine l79 m f hl _ ?_ ?_ m.votes.length 0 (by omega) (by simp)
  · intro ha
    repeat' (first | (simp (disch := omega) only [go_sem, Nat.reduceBEq, Nat.reduceBNe, Nat.reduceLT, ↓reduceIte, Nat.reduceAdd, Nat.reduceSub, Nat.reduceMul, Nat.reduceLeDiff, Nat.reduceEqDiff, reduceCtorEq, Int.reduceEq, Int.reduceLT, Int.reduceLE, Int.reduceNeg, Int.reduceToNat, Int.reduceAdd, Int.reduceSub, Int.reduceBEq, Int.reduceBNe, mC, intsPV_length]) | (apply x_pure; iterate 5 (first | exact ps26 _ hm | ((try simp (disch := omega) only [go_sem, Nat.reduceBEq, Nat.reduceBNe, Nat.reduceLT, ↓reduceIte, Nat.reduceAdd, Nat.reduceSub, Nat.reduceMul, Nat.reduceLeDiff, Nat.reduceEqDiff, reduceCtorEq, Int.reduceEq, Int.reduceLT, Int.reduceLE, Int.reduceNeg, Int.reduceToNat, Int.reduceAdd, Int.reduceSub, Int.reduceBEq, Int.reduceBNe, mC, intsPV_length]) <;> with_reducible exact rfl))) | ((first | apply x_split_cond | apply x_split_guard); all_goals (intro hb; (try simp only [Bool.not_eq_true', Bool.not_eq_false'] at hb); (simp (disch := omega) only [go_sem, Nat.reduceBEq, Nat.reduceBNe, Nat.reduceLT, ↓reduceIte, Nat.reduceAdd, Nat.reduceSub, Nat.reduceMul, Nat.reduceLeDiff, Nat.reduceEqDiff, reduceCtorEq, Int.reduceEq, Int.reduceLT, Int.reduceLE, Int.reduceNeg, Int.reduceToNat, Int.reduceAdd, Int.reduceSub, Int.reduceBEq, Int.reduceBNe, mC, intsPV_length, hb]); (try simp only [decide_eq_true_eq, decide_eq_false_iff_not, beq_iff_eq, beq_eq_false_iff_ne, ne_eq, bne_iff_ne, bne_eq_false_iff_eq, Decidable.not_not] at hb))))
    all_goals simp [okVotes, ha, hb, pur, dep]
  · intro ha s hs
    (try simp (disch := omega) only [go_sem, Nat.reduceBEq, Nat.reduceBNe, Nat.reduceLT, ↓reduceIte, Nat.reduceAdd, Nat.reduceSub, Nat.reduceMul, Nat.reduceLeDiff, Nat.reduceEqDiff, reduceCtorEq, Int.reduceEq, Int.reduceLT, Int.reduceLE, Int.reduceNeg, Int.reduceToNat, Int.reduceAdd, Int.reduceSub, Int.reduceBEq, Int.reduceBNe, hs])
    simp [okVotes, ha, pur, dep]

end Go.Dv.Try
