/-
  Specifications, part 15: Heartbeat (both texts); the law ReplicateBeats about the interpreter.
-/
import Derived.Test.YtjnigloanggmmaaS14
set_option linter.unusedVariables false
set_option linter.unusedSimpArgs false
set_option maxRecDepth 100000
set_option maxHeartbeats 4000000
namespace Go.Dv.Try
open Go Go.Dv

/-- The message to the member number k + 1. -/
def beat (m : M) (k : Nat) : X := ⟨3, m.id, (k + 1 : Nat), m.term, m.next.getD k 0, termN m.log (m.next.getD k 0), m.commit, false, m.log.drop (m.next.getD k 0).toNat⟩
def beats (m : M) : Nat → List X
  | 0 => []
  | k + 1 => if ((k + 1 : Nat) : Int) = m.id then beats m k else beats m k ++ [beat m k]
def beatsOf (m : M) : List X := if okM m = true ∧ m.role = 3 then beats m m.members.toNat else []

theorem beats_length (m : M) (k : Nat) : (beats m k).length ≤ k := by
  induction k with
  | zero => simp [beats]
  | succ k ih => simp only [beats]; split <;> (try simp only [List.length_append, List.length_cons, List.length_nil]) <;> omega

theorem prog_at {m : M} (h : okM m = true) (hr : m.role = 3) (i : Nat) (hi : i < m.next.length) : 0 ≤ m.next.getD i 0 ∧ m.next.getD i 0 ≤ m.log.length := by
  simp only [okM, okHead, okMid, okRole, okProg, hr, Bool.and_eq_true, decide_eq_true_eq, if_true, show ¬ (3 : Int) = 1 by decide, show ¬ (3 : Int) = 2 by decide, if_false, List.all_eq_true, List.mem_range] at h
  have h2 := h.2.2.1.1.2 i hi
  simp only [pOK, Bool.and_eq_true, decide_eq_true_eq] at h2
  omega

theorem l50 (m : M) (f : Fl) (hm : MFew m) (ho : okM m = true) (hr : m.role = 3) (K : Ex → St → Prop)
    (hx : ∀ s v, aget s.env 3 = some v → pur s.heap dep v = some (.slice false (msgsPV (beats m m.members.toNat))) → s.env = [(3, v)] → K (.exit 0) s) :
    ∀ (n k : Nat), k + n = m.members.toNat →
    W tb a50_l0 ⟨[(1, .ptr 0 0), (3, .ref 1 (beats m k).length 0 (beats m k).length), (4, .p (.int .i64 (k + 1 : Nat)))], [(1, .row false 9 (msgsPV (beats m k))), (0, .var false ((mC m f).map .p))], 2, [0]⟩ (LK tb (.ghost .lower a50_l0) K) := by
  have := hm.few1; have := hm.few2; have := hm.few3; have := hm.few4
  obtain ⟨f1, f2, f3, f4, f5, f6, f7⟩ := lead_facts ho hr
  intro n
  induction n with
  | zero =>
    intro k hk
    have h1 : ¬ ((k + 1 : Nat) : Int) ≤ m.members := by omega
    refine i_code (by unfold a50_l0; exact rfl) ?_
    repeat' (first | (simp (disch := omega) only [go_sem, Nat.reduceBEq, Nat.reduceLT, ↓reduceIte, Nat.reduceAdd, Nat.reduceSub, Nat.reduceMul, Nat.reduceLeDiff, Nat.reduceEqDiff, reduceCtorEq, Int.reduceEq, Int.reduceLT, Int.reduceLE, Int.reduceNeg, Int.reduceToNat, Int.reduceAdd, Int.reduceSub, h1, mC]) | ((first | apply x_split_cond | apply x_split_guard); all_goals (intro hb; (try simp only [Bool.not_eq_true', Bool.not_eq_false'] at hb); (simp (disch := omega) only [go_sem, Nat.reduceBEq, Nat.reduceLT, ↓reduceIte, Nat.reduceAdd, Nat.reduceSub, Nat.reduceMul, Nat.reduceLeDiff, Nat.reduceEqDiff, reduceCtorEq, Int.reduceEq, Int.reduceLT, Int.reduceLE, Int.reduceNeg, Int.reduceToNat, Int.reduceAdd, Int.reduceSub, h1, mC, hb]); (try simp only [decide_eq_true_eq, decide_eq_false_iff_not, beq_iff_eq, beq_eq_false_iff_ne, ne_eq, bne_iff_ne, bne_eq_false_iff_eq, Decidable.not_not] at hb))))
    have e : k = m.members.toNat := by omega
    subst e
    refine hx _ _ rfl (pur_all rfl (by rw [msgsPV_length])) rfl
  | succ n ih =>
    intro k hk
    have h1 : ((k + 1 : Nat) : Int) ≤ m.members := by omega
    have h2 : k < m.next.length := by omega
    obtain ⟨b1, b2⟩ := prog_at ho hr k h2
    have h3 := intsPV_getD m.next k h2
    have h4 : ((k + 1 : Nat) : Int) - 1 = (k : Nat) := by omega
    have h5 : (0 : Int) ≤ (k : Nat) := by omega
    have bl := beats_length m k
    refine i_code (by unfold a50_l0; exact rfl) ?_
    by_cases h6 : ((k + 1 : Nat) : Int) = m.id
    · have h7 : (((k + 1 : Nat) : Int) == m.id) = true := by simpa using h6
      repeat' (first | (simp (disch := omega) only [go_sem, Nat.reduceBEq, Nat.reduceLT, ↓reduceIte, Nat.reduceAdd, Nat.reduceSub, Nat.reduceMul, Nat.reduceLeDiff, Nat.reduceEqDiff, reduceCtorEq, Int.reduceEq, Int.reduceLT, Int.reduceLE, Int.reduceNeg, Int.reduceToNat, Int.reduceAdd, Int.reduceSub, h1, h7, mC]) | ((first | apply x_split_cond | apply x_split_guard); all_goals (intro hb; (try simp only [Bool.not_eq_true', Bool.not_eq_false'] at hb); (simp (disch := omega) only [go_sem, Nat.reduceBEq, Nat.reduceLT, ↓reduceIte, Nat.reduceAdd, Nat.reduceSub, Nat.reduceMul, Nat.reduceLeDiff, Nat.reduceEqDiff, reduceCtorEq, Int.reduceEq, Int.reduceLT, Int.reduceLE, Int.reduceNeg, Int.reduceToNat, Int.reduceAdd, Int.reduceSub, h1, h7, mC, hb]); (try simp only [decide_eq_true_eq, decide_eq_false_iff_not, beq_iff_eq, beq_eq_false_iff_ne, ne_eq, bne_iff_ne, bne_eq_false_iff_eq, Decidable.not_not] at hb))))
      refine i_lk (W_round ?_)
      (try simp (disch := omega) only [go_sem, Nat.reduceBEq, Nat.reduceLT, ↓reduceIte, Nat.reduceAdd, Nat.reduceSub, Nat.reduceMul, Nat.reduceLeDiff, Nat.reduceEqDiff, reduceCtorEq, Int.reduceEq, Int.reduceLT, Int.reduceLE, Int.reduceNeg, Int.reduceToNat, Int.reduceAdd, Int.reduceSub, mC])
      have := ih (k + 1) (by omega)
      rw [beats, if_pos h6] at this
      exact this
    · have h7 : (((k + 1 : Nat) : Int) == m.id) = false := by simpa using h6
      have h8 : (m.log.drop (m.next.getD k 0).toNat).length ≤ 100000 := by simp; omega
      repeat' (first | (simp (disch := omega) only [go_sem, Nat.reduceBEq, Nat.reduceLT, ↓reduceIte, Nat.reduceAdd, Nat.reduceSub, Nat.reduceMul, Nat.reduceLeDiff, Nat.reduceEqDiff, reduceCtorEq, Int.reduceEq, Int.reduceLT, Int.reduceLE, Int.reduceNeg, Int.reduceToNat, Int.reduceAdd, Int.reduceSub, h1, h7, h3, h4, h5, b1, b2, intPV, mC, itemsPV_sz, itemsPV_length, itemsPV_take, itemsPV_drop, List.take_length, msgsPV_sing, msgsPV_sz, msgsPV_append, msgsPV_length, maxB]) | (apply x_pure; (iterate 2 ((try simp (disch := omega) only [go_sem, Nat.reduceBEq, Nat.reduceLT, ↓reduceIte, Nat.reduceAdd, Nat.reduceSub, Nat.reduceMul, Nat.reduceLeDiff, Nat.reduceEqDiff, reduceCtorEq, Int.reduceEq, Int.reduceLT, Int.reduceLE, Int.reduceNeg, Int.reduceToNat, Int.reduceAdd, Int.reduceSub, h1, h7, h3, h4, h5, b1, b2, intPV, mC, itemsPV_sz, itemsPV_length, itemsPV_take, itemsPV_drop, List.take_length, msgsPV_sing, msgsPV_sz, msgsPV_append, msgsPV_length, maxB]) <;> with_reducible exact rfl)); exact ps106 m f _ b1 b2 (by omega); (iterate 2 ((try simp (disch := omega) only [go_sem, Nat.reduceBEq, Nat.reduceLT, ↓reduceIte, Nat.reduceAdd, Nat.reduceSub, Nat.reduceMul, Nat.reduceLeDiff, Nat.reduceEqDiff, reduceCtorEq, Int.reduceEq, Int.reduceLT, Int.reduceLE, Int.reduceNeg, Int.reduceToNat, Int.reduceAdd, Int.reduceSub, h1, h7, h3, h4, h5, b1, b2, intPV, mC, itemsPV_sz, itemsPV_length, itemsPV_take, itemsPV_drop, List.take_length, msgsPV_sing, msgsPV_sz, msgsPV_append, msgsPV_length, maxB]) <;> with_reducible exact rfl))) | (apply x_pure; (iterate 2 ((try simp (disch := omega) only [go_sem, Nat.reduceBEq, Nat.reduceLT, ↓reduceIte, Nat.reduceAdd, Nat.reduceSub, Nat.reduceMul, Nat.reduceLeDiff, Nat.reduceEqDiff, reduceCtorEq, Int.reduceEq, Int.reduceLT, Int.reduceLE, Int.reduceNeg, Int.reduceToNat, Int.reduceAdd, Int.reduceSub, h1, h7, h3, h4, h5, b1, b2, intPV, mC, itemsPV_sz, itemsPV_length, itemsPV_take, itemsPV_drop, List.take_length, msgsPV_sing, msgsPV_sz, msgsPV_append, msgsPV_length, maxB]) <;> with_reducible exact rfl)); exact ps97 _ _ h8; (iterate 2 ((try simp (disch := omega) only [go_sem, Nat.reduceBEq, Nat.reduceLT, ↓reduceIte, Nat.reduceAdd, Nat.reduceSub, Nat.reduceMul, Nat.reduceLeDiff, Nat.reduceEqDiff, reduceCtorEq, Int.reduceEq, Int.reduceLT, Int.reduceLE, Int.reduceNeg, Int.reduceToNat, Int.reduceAdd, Int.reduceSub, h1, h7, h3, h4, h5, b1, b2, intPV, mC, itemsPV_sz, itemsPV_length, itemsPV_take, itemsPV_drop, List.take_length, msgsPV_sing, msgsPV_sz, msgsPV_append, msgsPV_length, maxB]) <;> with_reducible exact rfl))) | ((first | apply x_split_cond | apply x_split_guard); all_goals (intro hb; (try simp only [Bool.not_eq_true', Bool.not_eq_false'] at hb); (simp (disch := omega) only [go_sem, Nat.reduceBEq, Nat.reduceLT, ↓reduceIte, Nat.reduceAdd, Nat.reduceSub, Nat.reduceMul, Nat.reduceLeDiff, Nat.reduceEqDiff, reduceCtorEq, Int.reduceEq, Int.reduceLT, Int.reduceLE, Int.reduceNeg, Int.reduceToNat, Int.reduceAdd, Int.reduceSub, h1, h7, h3, h4, h5, b1, b2, intPV, mC, itemsPV_sz, itemsPV_length, itemsPV_take, itemsPV_drop, List.take_length, msgsPV_sing, msgsPV_sz, msgsPV_append, msgsPV_length, maxB, hb]); (try simp only [decide_eq_true_eq, decide_eq_false_iff_not, beq_iff_eq, beq_eq_false_iff_ne, ne_eq, bne_iff_ne, bne_eq_false_iff_eq, Decidable.not_not] at hb))))
      refine i_lk (W_round ?_)
      (try simp (disch := omega) only [go_sem, Nat.reduceBEq, Nat.reduceLT, ↓reduceIte, Nat.reduceAdd, Nat.reduceSub, Nat.reduceMul, Nat.reduceLeDiff, Nat.reduceEqDiff, reduceCtorEq, Int.reduceEq, Int.reduceLT, Int.reduceLE, Int.reduceNeg, Int.reduceToNat, Int.reduceAdd, Int.reduceSub, mC])
      have := ih (k + 1) (by omega)
      rw [beats, if_neg h6] at this
      simp only [List.length_append, List.length_cons, List.length_nil, Nat.zero_add] at this
      exact this

theorem ps50 (m : M) (f : Fl) (hm : MFew m) : ∃ b, PS tb 50 [.agg (mC m f)] (.slice b (msgsPV (beatsOf m))) := by
  by_cases ho : okM m = true
  · by_cases hr : m.role = 3
    · refine ⟨false, PS_of (af := a50) rfl rfl ?_⟩
      have hr2 : (m.role != 3) = false := by simp [hr]
      obtain ⟨f1, f2, f3, f4, f5, f6, f7⟩ := lead_facts ho hr
      have he : beatsOf m = beats m m.members.toNat := if_pos ⟨ho, hr⟩
      unfold a50
      dsimp only [List.map, ofPV, initEnv]
      rw [he]
      repeat' (first | (simp (disch := omega) only [go_sem, Nat.reduceBEq, Nat.reduceLT, ↓reduceIte, Nat.reduceAdd, Nat.reduceSub, Nat.reduceMul, Nat.reduceLeDiff, Nat.reduceEqDiff, reduceCtorEq, Int.reduceEq, Int.reduceLT, Int.reduceLE, Int.reduceNeg, Int.reduceToNat, Int.reduceAdd, Int.reduceSub, mC, ho, hr2]) | (apply x_pure; (iterate 2 ((try simp (disch := omega) only [go_sem, Nat.reduceBEq, Nat.reduceLT, ↓reduceIte, Nat.reduceAdd, Nat.reduceSub, Nat.reduceMul, Nat.reduceLeDiff, Nat.reduceEqDiff, reduceCtorEq, Int.reduceEq, Int.reduceLT, Int.reduceLE, Int.reduceNeg, Int.reduceToNat, Int.reduceAdd, Int.reduceSub, mC, ho, hr2]) <;> with_reducible exact rfl)); exact ps28 m f hm.toMIn; (iterate 2 ((try simp (disch := omega) only [go_sem, Nat.reduceBEq, Nat.reduceLT, ↓reduceIte, Nat.reduceAdd, Nat.reduceSub, Nat.reduceMul, Nat.reduceLeDiff, Nat.reduceEqDiff, reduceCtorEq, Int.reduceEq, Int.reduceLT, Int.reduceLE, Int.reduceNeg, Int.reduceToNat, Int.reduceAdd, Int.reduceSub, mC, ho, hr2]) <;> with_reducible exact rfl))) | ((first | apply x_split_cond | apply x_split_guard); all_goals (intro hb; (try simp only [Bool.not_eq_true', Bool.not_eq_false'] at hb); (simp (disch := omega) only [go_sem, Nat.reduceBEq, Nat.reduceLT, ↓reduceIte, Nat.reduceAdd, Nat.reduceSub, Nat.reduceMul, Nat.reduceLeDiff, Nat.reduceEqDiff, reduceCtorEq, Int.reduceEq, Int.reduceLT, Int.reduceLE, Int.reduceNeg, Int.reduceToNat, Int.reduceAdd, Int.reduceSub, mC, ho, hr2, hb]); (try simp only [decide_eq_true_eq, decide_eq_false_iff_not, beq_iff_eq, beq_eq_false_iff_ne, ne_eq, bne_iff_ne, bne_eq_false_iff_eq, Decidable.not_not] at hb))))
      refine W_round ?_
      (try simp (disch := omega) only [go_sem, Nat.reduceBEq, Nat.reduceLT, ↓reduceIte, Nat.reduceAdd, Nat.reduceSub, Nat.reduceMul, Nat.reduceLeDiff, Nat.reduceEqDiff, reduceCtorEq, Int.reduceEq, Int.reduceLT, Int.reduceLE, Int.reduceNeg, Int.reduceToNat, Int.reduceAdd, Int.reduceSub, mC])
      refine l50 m f hm ho hr _ ?_ m.members.toNat 0 (by omega)
      intro s v hv hp hs
      obtain ⟨env, H, nx, mk⟩ := s
      simp only at hs hp
      subst hs
      (try simp (disch := omega) only [go_sem, Nat.reduceBEq, Nat.reduceLT, ↓reduceIte, Nat.reduceAdd, Nat.reduceSub, Nat.reduceMul, Nat.reduceLeDiff, Nat.reduceEqDiff, reduceCtorEq, Int.reduceEq, Int.reduceLT, Int.reduceLE, Int.reduceNeg, Int.reduceToNat, Int.reduceAdd, Int.reduceSub, hp])
      all_goals exact hp
    · refine ⟨true, PS_of (af := a50) rfl rfl ?_⟩
      have hr2 : (m.role != 3) = true := by simp [hr]
      have he : beatsOf m = [] := if_neg fun h => hr h.2
      unfold a50
      dsimp only [List.map, ofPV, initEnv]
      rw [he]
      repeat' (first | (simp (disch := omega) only [go_sem, Nat.reduceBEq, Nat.reduceLT, ↓reduceIte, Nat.reduceAdd, Nat.reduceSub, Nat.reduceMul, Nat.reduceLeDiff, Nat.reduceEqDiff, reduceCtorEq, Int.reduceEq, Int.reduceLT, Int.reduceLE, Int.reduceNeg, Int.reduceToNat, Int.reduceAdd, Int.reduceSub, mC, ho, hr2]) | (apply x_pure; (iterate 2 ((try simp (disch := omega) only [go_sem, Nat.reduceBEq, Nat.reduceLT, ↓reduceIte, Nat.reduceAdd, Nat.reduceSub, Nat.reduceMul, Nat.reduceLeDiff, Nat.reduceEqDiff, reduceCtorEq, Int.reduceEq, Int.reduceLT, Int.reduceLE, Int.reduceNeg, Int.reduceToNat, Int.reduceAdd, Int.reduceSub, mC, ho, hr2]) <;> with_reducible exact rfl)); exact ps28 m f hm.toMIn; (iterate 2 ((try simp (disch := omega) only [go_sem, Nat.reduceBEq, Nat.reduceLT, ↓reduceIte, Nat.reduceAdd, Nat.reduceSub, Nat.reduceMul, Nat.reduceLeDiff, Nat.reduceEqDiff, reduceCtorEq, Int.reduceEq, Int.reduceLT, Int.reduceLE, Int.reduceNeg, Int.reduceToNat, Int.reduceAdd, Int.reduceSub, mC, ho, hr2]) <;> with_reducible exact rfl))) | ((first | apply x_split_cond | apply x_split_guard); all_goals (intro hb; (try simp only [Bool.not_eq_true', Bool.not_eq_false'] at hb); (simp (disch := omega) only [go_sem, Nat.reduceBEq, Nat.reduceLT, ↓reduceIte, Nat.reduceAdd, Nat.reduceSub, Nat.reduceMul, Nat.reduceLeDiff, Nat.reduceEqDiff, reduceCtorEq, Int.reduceEq, Int.reduceLT, Int.reduceLE, Int.reduceNeg, Int.reduceToNat, Int.reduceAdd, Int.reduceSub, mC, ho, hr2, hb]); (try simp only [decide_eq_true_eq, decide_eq_false_iff_not, beq_iff_eq, beq_eq_false_iff_ne, ne_eq, bne_iff_ne, bne_eq_false_iff_eq, Decidable.not_not] at hb))))
      all_goals rfl
  · refine ⟨true, PS_of (af := a50) rfl rfl ?_⟩
    have he : beatsOf m = [] := if_neg fun h => ho h.1
    have ho2 : okM m = false := by simpa using ho
    unfold a50
    dsimp only [List.map, ofPV, initEnv]
    rw [he]
    repeat' (first | (simp (disch := omega) only [go_sem, Nat.reduceBEq, Nat.reduceLT, ↓reduceIte, Nat.reduceAdd, Nat.reduceSub, Nat.reduceMul, Nat.reduceLeDiff, Nat.reduceEqDiff, reduceCtorEq, Int.reduceEq, Int.reduceLT, Int.reduceLE, Int.reduceNeg, Int.reduceToNat, Int.reduceAdd, Int.reduceSub, mC, ho2]) | (apply x_pure; (iterate 2 ((try simp (disch := omega) only [go_sem, Nat.reduceBEq, Nat.reduceLT, ↓reduceIte, Nat.reduceAdd, Nat.reduceSub, Nat.reduceMul, Nat.reduceLeDiff, Nat.reduceEqDiff, reduceCtorEq, Int.reduceEq, Int.reduceLT, Int.reduceLE, Int.reduceNeg, Int.reduceToNat, Int.reduceAdd, Int.reduceSub, mC, ho2]) <;> with_reducible exact rfl)); exact ps28 m f hm.toMIn; (iterate 2 ((try simp (disch := omega) only [go_sem, Nat.reduceBEq, Nat.reduceLT, ↓reduceIte, Nat.reduceAdd, Nat.reduceSub, Nat.reduceMul, Nat.reduceLeDiff, Nat.reduceEqDiff, reduceCtorEq, Int.reduceEq, Int.reduceLT, Int.reduceLE, Int.reduceNeg, Int.reduceToNat, Int.reduceAdd, Int.reduceSub, mC, ho2]) <;> with_reducible exact rfl))) | ((first | apply x_split_cond | apply x_split_guard); all_goals (intro hb; (try simp only [Bool.not_eq_true', Bool.not_eq_false'] at hb); (simp (disch := omega) only [go_sem, Nat.reduceBEq, Nat.reduceLT, ↓reduceIte, Nat.reduceAdd, Nat.reduceSub, Nat.reduceMul, Nat.reduceLeDiff, Nat.reduceEqDiff, reduceCtorEq, Int.reduceEq, Int.reduceLT, Int.reduceLE, Int.reduceNeg, Int.reduceToNat, Int.reduceAdd, Int.reduceSub, mC, ho2, hb]); (try simp only [decide_eq_true_eq, decide_eq_false_iff_not, beq_iff_eq, beq_eq_false_iff_ne, ne_eq, bne_iff_ne, bne_eq_false_iff_eq, Decidable.not_not] at hb))))
    all_goals rfl

theorem l51 (m : M) (f : Fl) (hm : MFew m) (ho : okM m = true) (hr : m.role = 3) (K : Ex → St → Prop)
    (hx : ∀ s v, aget s.env 3 = some v → pur s.heap dep v = some (.slice false (msgsPV (beats m m.members.toNat))) → s.env = [(3, v)] → K (.exit 0) s) :
    ∀ (n k : Nat), k + n = m.members.toNat →
    W tb a51_l0 ⟨[(1, .ptr 0 0), (3, .ref 1 (beats m k).length 0 (beats m k).length), (4, .p (.int .i64 (k + 1 : Nat)))], [(1, .row false 9 (msgsPV (beats m k))), (0, .var false ((mC m f).map .p))], 2, [0]⟩ (LK tb (.ghost .lower a51_l0) K) := by
  have := hm.few1; have := hm.few2; have := hm.few3; have := hm.few4
  obtain ⟨f1, f2, f3, f4, f5, f6, f7⟩ := lead_facts ho hr
  have hr2 : (m.role == 3) = true := by simp [hr]
  intro n
  induction n with
  | zero =>
    intro k hk
    have h1 : ¬ ((k + 1 : Nat) : Int) ≤ m.members := by omega
    refine i_code (by unfold a51_l0; exact rfl) ?_
    repeat' (first | (simp (disch := omega) only [go_sem, Nat.reduceBEq, Nat.reduceLT, ↓reduceIte, Nat.reduceAdd, Nat.reduceSub, Nat.reduceMul, Nat.reduceLeDiff, Nat.reduceEqDiff, reduceCtorEq, Int.reduceEq, Int.reduceLT, Int.reduceLE, Int.reduceNeg, Int.reduceToNat, Int.reduceAdd, Int.reduceSub, h1, mC]) | ((first | apply x_split_cond | apply x_split_guard); all_goals (intro hb; (try simp only [Bool.not_eq_true', Bool.not_eq_false'] at hb); (simp (disch := omega) only [go_sem, Nat.reduceBEq, Nat.reduceLT, ↓reduceIte, Nat.reduceAdd, Nat.reduceSub, Nat.reduceMul, Nat.reduceLeDiff, Nat.reduceEqDiff, reduceCtorEq, Int.reduceEq, Int.reduceLT, Int.reduceLE, Int.reduceNeg, Int.reduceToNat, Int.reduceAdd, Int.reduceSub, h1, mC, hb]); (try simp only [decide_eq_true_eq, decide_eq_false_iff_not, beq_iff_eq, beq_eq_false_iff_ne, ne_eq, bne_iff_ne, bne_eq_false_iff_eq, Decidable.not_not] at hb))))
    have e : k = m.members.toNat := by omega
    subst e
    refine hx _ _ rfl (pur_all rfl (by rw [msgsPV_length])) rfl
  | succ n ih =>
    intro k hk
    have h1 : ((k + 1 : Nat) : Int) ≤ m.members := by omega
    have h2 : k < m.next.length := by omega
    obtain ⟨b1, b2⟩ := prog_at ho hr k h2
    have h3 := intsPV_getD m.next k h2
    have h4 : ((k + 1 : Nat) : Int) - 1 = (k : Nat) := by omega
    have h5 : (0 : Int) ≤ (k : Nat) := by omega
    have bl := beats_length m k
    refine i_code (by unfold a51_l0; exact rfl) ?_
    by_cases h6 : ((k + 1 : Nat) : Int) = m.id
    · have h7 : (((k + 1 : Nat) : Int) != m.id) = false := by simpa using h6
      repeat' (first | (simp (disch := omega) only [go_sem, Nat.reduceBEq, Nat.reduceLT, ↓reduceIte, Nat.reduceAdd, Nat.reduceSub, Nat.reduceMul, Nat.reduceLeDiff, Nat.reduceEqDiff, reduceCtorEq, Int.reduceEq, Int.reduceLT, Int.reduceLE, Int.reduceNeg, Int.reduceToNat, Int.reduceAdd, Int.reduceSub, h1, h7, mC, ho, hr2]) | (apply x_pure; (iterate 2 ((try simp (disch := omega) only [go_sem, Nat.reduceBEq, Nat.reduceLT, ↓reduceIte, Nat.reduceAdd, Nat.reduceSub, Nat.reduceMul, Nat.reduceLeDiff, Nat.reduceEqDiff, reduceCtorEq, Int.reduceEq, Int.reduceLT, Int.reduceLE, Int.reduceNeg, Int.reduceToNat, Int.reduceAdd, Int.reduceSub, h1, h7, mC, ho, hr2]) <;> with_reducible exact rfl)); exact ps29 m f hm.toMIn; (iterate 2 ((try simp (disch := omega) only [go_sem, Nat.reduceBEq, Nat.reduceLT, ↓reduceIte, Nat.reduceAdd, Nat.reduceSub, Nat.reduceMul, Nat.reduceLeDiff, Nat.reduceEqDiff, reduceCtorEq, Int.reduceEq, Int.reduceLT, Int.reduceLE, Int.reduceNeg, Int.reduceToNat, Int.reduceAdd, Int.reduceSub, h1, h7, mC, ho, hr2]) <;> with_reducible exact rfl))) | ((first | apply x_split_cond | apply x_split_guard); all_goals (intro hb; (try simp only [Bool.not_eq_true', Bool.not_eq_false'] at hb); (simp (disch := omega) only [go_sem, Nat.reduceBEq, Nat.reduceLT, ↓reduceIte, Nat.reduceAdd, Nat.reduceSub, Nat.reduceMul, Nat.reduceLeDiff, Nat.reduceEqDiff, reduceCtorEq, Int.reduceEq, Int.reduceLT, Int.reduceLE, Int.reduceNeg, Int.reduceToNat, Int.reduceAdd, Int.reduceSub, h1, h7, mC, ho, hr2, hb]); (try simp only [decide_eq_true_eq, decide_eq_false_iff_not, beq_iff_eq, beq_eq_false_iff_ne, ne_eq, bne_iff_ne, bne_eq_false_iff_eq, Decidable.not_not] at hb))))
      refine i_lk (W_round ?_)
      (try simp (disch := omega) only [go_sem, Nat.reduceBEq, Nat.reduceLT, ↓reduceIte, Nat.reduceAdd, Nat.reduceSub, Nat.reduceMul, Nat.reduceLeDiff, Nat.reduceEqDiff, reduceCtorEq, Int.reduceEq, Int.reduceLT, Int.reduceLE, Int.reduceNeg, Int.reduceToNat, Int.reduceAdd, Int.reduceSub, mC])
      have := ih (k + 1) (by omega)
      rw [beats, if_pos h6] at this
      exact this
    · have h7 : (((k + 1 : Nat) : Int) != m.id) = true := by simpa using h6
      have h8 : (m.log.drop (m.next.getD k 0).toNat).length ≤ 100000 := by simp; omega
      repeat' (first | (simp (disch := omega) only [go_sem, Nat.reduceBEq, Nat.reduceLT, ↓reduceIte, Nat.reduceAdd, Nat.reduceSub, Nat.reduceMul, Nat.reduceLeDiff, Nat.reduceEqDiff, reduceCtorEq, Int.reduceEq, Int.reduceLT, Int.reduceLE, Int.reduceNeg, Int.reduceToNat, Int.reduceAdd, Int.reduceSub, h1, h7, h3, h4, h5, b1, b2, intPV, mC, ho, hr2, itemsPV_sz, itemsPV_length, itemsPV_take, itemsPV_drop, List.take_length, msgsPV_sing, msgsPV_sz, msgsPV_append, msgsPV_length, maxB]) | (apply x_pure; (iterate 2 ((try simp (disch := omega) only [go_sem, Nat.reduceBEq, Nat.reduceLT, ↓reduceIte, Nat.reduceAdd, Nat.reduceSub, Nat.reduceMul, Nat.reduceLeDiff, Nat.reduceEqDiff, reduceCtorEq, Int.reduceEq, Int.reduceLT, Int.reduceLE, Int.reduceNeg, Int.reduceToNat, Int.reduceAdd, Int.reduceSub, h1, h7, h3, h4, h5, b1, b2, intPV, mC, ho, hr2, itemsPV_sz, itemsPV_length, itemsPV_take, itemsPV_drop, List.take_length, msgsPV_sing, msgsPV_sz, msgsPV_append, msgsPV_length, maxB]) <;> with_reducible exact rfl)); exact ps29 m f hm.toMIn; (iterate 2 ((try simp (disch := omega) only [go_sem, Nat.reduceBEq, Nat.reduceLT, ↓reduceIte, Nat.reduceAdd, Nat.reduceSub, Nat.reduceMul, Nat.reduceLeDiff, Nat.reduceEqDiff, reduceCtorEq, Int.reduceEq, Int.reduceLT, Int.reduceLE, Int.reduceNeg, Int.reduceToNat, Int.reduceAdd, Int.reduceSub, h1, h7, h3, h4, h5, b1, b2, intPV, mC, ho, hr2, itemsPV_sz, itemsPV_length, itemsPV_take, itemsPV_drop, List.take_length, msgsPV_sing, msgsPV_sz, msgsPV_append, msgsPV_length, maxB]) <;> with_reducible exact rfl))) | (apply x_pure; (iterate 2 ((try simp (disch := omega) only [go_sem, Nat.reduceBEq, Nat.reduceLT, ↓reduceIte, Nat.reduceAdd, Nat.reduceSub, Nat.reduceMul, Nat.reduceLeDiff, Nat.reduceEqDiff, reduceCtorEq, Int.reduceEq, Int.reduceLT, Int.reduceLE, Int.reduceNeg, Int.reduceToNat, Int.reduceAdd, Int.reduceSub, h1, h7, h3, h4, h5, b1, b2, intPV, mC, ho, hr2, itemsPV_sz, itemsPV_length, itemsPV_take, itemsPV_drop, List.take_length, msgsPV_sing, msgsPV_sz, msgsPV_append, msgsPV_length, maxB]) <;> with_reducible exact rfl)); exact ps107 m.log _ _ b1 b2 (by omega); (iterate 2 ((try simp (disch := omega) only [go_sem, Nat.reduceBEq, Nat.reduceLT, ↓reduceIte, Nat.reduceAdd, Nat.reduceSub, Nat.reduceMul, Nat.reduceLeDiff, Nat.reduceEqDiff, reduceCtorEq, Int.reduceEq, Int.reduceLT, Int.reduceLE, Int.reduceNeg, Int.reduceToNat, Int.reduceAdd, Int.reduceSub, h1, h7, h3, h4, h5, b1, b2, intPV, mC, ho, hr2, itemsPV_sz, itemsPV_length, itemsPV_take, itemsPV_drop, List.take_length, msgsPV_sing, msgsPV_sz, msgsPV_append, msgsPV_length, maxB]) <;> with_reducible exact rfl))) | (apply x_pure; (iterate 2 ((try simp (disch := omega) only [go_sem, Nat.reduceBEq, Nat.reduceLT, ↓reduceIte, Nat.reduceAdd, Nat.reduceSub, Nat.reduceMul, Nat.reduceLeDiff, Nat.reduceEqDiff, reduceCtorEq, Int.reduceEq, Int.reduceLT, Int.reduceLE, Int.reduceNeg, Int.reduceToNat, Int.reduceAdd, Int.reduceSub, h1, h7, h3, h4, h5, b1, b2, intPV, mC, ho, hr2, itemsPV_sz, itemsPV_length, itemsPV_take, itemsPV_drop, List.take_length, msgsPV_sing, msgsPV_sz, msgsPV_append, msgsPV_length, maxB]) <;> with_reducible exact rfl)); exact ps103 [] _ true _ 0 (by simp) (by simp) h8; (iterate 2 ((try simp (disch := omega) only [go_sem, Nat.reduceBEq, Nat.reduceLT, ↓reduceIte, Nat.reduceAdd, Nat.reduceSub, Nat.reduceMul, Nat.reduceLeDiff, Nat.reduceEqDiff, reduceCtorEq, Int.reduceEq, Int.reduceLT, Int.reduceLE, Int.reduceNeg, Int.reduceToNat, Int.reduceAdd, Int.reduceSub, h1, h7, h3, h4, h5, b1, b2, intPV, mC, ho, hr2, itemsPV_sz, itemsPV_length, itemsPV_take, itemsPV_drop, List.take_length, msgsPV_sing, msgsPV_sz, msgsPV_append, msgsPV_length, maxB]) <;> with_reducible exact rfl))) | ((first | apply x_split_cond | apply x_split_guard); all_goals (intro hb; (try simp only [Bool.not_eq_true', Bool.not_eq_false'] at hb); (simp (disch := omega) only [go_sem, Nat.reduceBEq, Nat.reduceLT, ↓reduceIte, Nat.reduceAdd, Nat.reduceSub, Nat.reduceMul, Nat.reduceLeDiff, Nat.reduceEqDiff, reduceCtorEq, Int.reduceEq, Int.reduceLT, Int.reduceLE, Int.reduceNeg, Int.reduceToNat, Int.reduceAdd, Int.reduceSub, h1, h7, h3, h4, h5, b1, b2, intPV, mC, ho, hr2, itemsPV_sz, itemsPV_length, itemsPV_take, itemsPV_drop, List.take_length, msgsPV_sing, msgsPV_sz, msgsPV_append, msgsPV_length, maxB, hb]); (try simp only [decide_eq_true_eq, decide_eq_false_iff_not, beq_iff_eq, beq_eq_false_iff_ne, ne_eq, bne_iff_ne, bne_eq_false_iff_eq, Decidable.not_not] at hb))))
      refine i_lk (W_round ?_)
      (try simp (disch := omega) only [go_sem, Nat.reduceBEq, Nat.reduceLT, ↓reduceIte, Nat.reduceAdd, Nat.reduceSub, Nat.reduceMul, Nat.reduceLeDiff, Nat.reduceEqDiff, reduceCtorEq, Int.reduceEq, Int.reduceLT, Int.reduceLE, Int.reduceNeg, Int.reduceToNat, Int.reduceAdd, Int.reduceSub, mC])
      have := ih (k + 1) (by omega)
      rw [beats, if_neg h6] at this
      simp only [List.length_append, List.length_cons, List.length_nil, Nat.zero_add] at this
      exact this

theorem ps51 (m : M) (f : Fl) (hm : MFew m) : ∃ b, PS tb 51 [.agg (mC m f)] (.slice b (msgsPV (beatsOf m))) := by
  refine ⟨false, PS_of (af := a51) rfl rfl ?_⟩
  unfold a51
  dsimp only [List.map, ofPV, initEnv]
  repeat' (first | (simp (disch := omega) only [go_sem, Nat.reduceBEq, Nat.reduceLT, ↓reduceIte, Nat.reduceAdd, Nat.reduceSub, Nat.reduceMul, Nat.reduceLeDiff, Nat.reduceEqDiff, reduceCtorEq, Int.reduceEq, Int.reduceLT, Int.reduceLE, Int.reduceNeg, Int.reduceToNat, Int.reduceAdd, Int.reduceSub, mC]) | ((first | apply x_split_cond | apply x_split_guard); all_goals (intro hb; (try simp only [Bool.not_eq_true', Bool.not_eq_false'] at hb); (simp (disch := omega) only [go_sem, Nat.reduceBEq, Nat.reduceLT, ↓reduceIte, Nat.reduceAdd, Nat.reduceSub, Nat.reduceMul, Nat.reduceLeDiff, Nat.reduceEqDiff, reduceCtorEq, Int.reduceEq, Int.reduceLT, Int.reduceLE, Int.reduceNeg, Int.reduceToNat, Int.reduceAdd, Int.reduceSub, mC, hb]); (try simp only [decide_eq_true_eq, decide_eq_false_iff_not, beq_iff_eq, beq_eq_false_iff_ne, ne_eq, bne_iff_ne, bne_eq_false_iff_eq, Decidable.not_not] at hb))))
  by_cases ho : okM m = true
  · by_cases hr : m.role = 3
    · obtain ⟨f1, f2, f3, f4, f5, f6, f7⟩ := lead_facts ho hr
      have he : beatsOf m = beats m m.members.toNat := if_pos ⟨ho, hr⟩
      rw [he]
      refine W_round ?_
      (try simp (disch := omega) only [go_sem, Nat.reduceBEq, Nat.reduceLT, ↓reduceIte, Nat.reduceAdd, Nat.reduceSub, Nat.reduceMul, Nat.reduceLeDiff, Nat.reduceEqDiff, reduceCtorEq, Int.reduceEq, Int.reduceLT, Int.reduceLE, Int.reduceNeg, Int.reduceToNat, Int.reduceAdd, Int.reduceSub, mC])
      refine l51 m f hm ho hr _ ?_ m.members.toNat 0 (by omega)
      intro s v hv hp hs
      obtain ⟨env, H, nx, mk⟩ := s
      simp only at hs hp
      subst hs
      (try simp (disch := omega) only [go_sem, Nat.reduceBEq, Nat.reduceLT, ↓reduceIte, Nat.reduceAdd, Nat.reduceSub, Nat.reduceMul, Nat.reduceLeDiff, Nat.reduceEqDiff, reduceCtorEq, Int.reduceEq, Int.reduceLT, Int.reduceLE, Int.reduceNeg, Int.reduceToNat, Int.reduceAdd, Int.reduceSub, hp])
      all_goals exact hp
    · have hr2 : (m.role == 3) = false := by simp [hr]
      have he : beatsOf m = [] := if_neg fun h => hr h.2
      rw [he]
      refine W_round ?_
      (try simp (disch := omega) only [go_sem, Nat.reduceBEq, Nat.reduceLT, ↓reduceIte, Nat.reduceAdd, Nat.reduceSub, Nat.reduceMul, Nat.reduceLeDiff, Nat.reduceEqDiff, reduceCtorEq, Int.reduceEq, Int.reduceLT, Int.reduceLE, Int.reduceNeg, Int.reduceToNat, Int.reduceAdd, Int.reduceSub, mC])
      refine i_code (by unfold a51_l0; exact rfl) ?_
      repeat' (first | (simp (disch := omega) only [go_sem, Nat.reduceBEq, Nat.reduceLT, ↓reduceIte, Nat.reduceAdd, Nat.reduceSub, Nat.reduceMul, Nat.reduceLeDiff, Nat.reduceEqDiff, reduceCtorEq, Int.reduceEq, Int.reduceLT, Int.reduceLE, Int.reduceNeg, Int.reduceToNat, Int.reduceAdd, Int.reduceSub, mC, ho, hr2]) | (apply x_pure; (iterate 2 ((try simp (disch := omega) only [go_sem, Nat.reduceBEq, Nat.reduceLT, ↓reduceIte, Nat.reduceAdd, Nat.reduceSub, Nat.reduceMul, Nat.reduceLeDiff, Nat.reduceEqDiff, reduceCtorEq, Int.reduceEq, Int.reduceLT, Int.reduceLE, Int.reduceNeg, Int.reduceToNat, Int.reduceAdd, Int.reduceSub, mC, ho, hr2]) <;> with_reducible exact rfl)); exact ps29 m f hm.toMIn; (iterate 2 ((try simp (disch := omega) only [go_sem, Nat.reduceBEq, Nat.reduceLT, ↓reduceIte, Nat.reduceAdd, Nat.reduceSub, Nat.reduceMul, Nat.reduceLeDiff, Nat.reduceEqDiff, reduceCtorEq, Int.reduceEq, Int.reduceLT, Int.reduceLE, Int.reduceNeg, Int.reduceToNat, Int.reduceAdd, Int.reduceSub, mC, ho, hr2]) <;> with_reducible exact rfl))) | ((first | apply x_split_cond | apply x_split_guard); all_goals (intro hb; (try simp only [Bool.not_eq_true', Bool.not_eq_false'] at hb); (simp (disch := omega) only [go_sem, Nat.reduceBEq, Nat.reduceLT, ↓reduceIte, Nat.reduceAdd, Nat.reduceSub, Nat.reduceMul, Nat.reduceLeDiff, Nat.reduceEqDiff, reduceCtorEq, Int.reduceEq, Int.reduceLT, Int.reduceLE, Int.reduceNeg, Int.reduceToNat, Int.reduceAdd, Int.reduceSub, mC, ho, hr2, hb]); (try simp only [decide_eq_true_eq, decide_eq_false_iff_not, beq_iff_eq, beq_eq_false_iff_ne, ne_eq, bne_iff_ne, bne_eq_false_iff_eq, Decidable.not_not] at hb))))
      all_goals rfl
  · have he : beatsOf m = [] := if_neg fun h => ho h.1
    have ho2 : okM m = false := by simpa using ho
    rw [he]
    refine W_round ?_
    (try simp (disch := omega) only [go_sem, Nat.reduceBEq, Nat.reduceLT, ↓reduceIte, Nat.reduceAdd, Nat.reduceSub, Nat.reduceMul, Nat.reduceLeDiff, Nat.reduceEqDiff, reduceCtorEq, Int.reduceEq, Int.reduceLT, Int.reduceLE, Int.reduceNeg, Int.reduceToNat, Int.reduceAdd, Int.reduceSub, mC])
    refine i_code (by unfold a51_l0; exact rfl) ?_
    repeat' (first | (simp (disch := omega) only [go_sem, Nat.reduceBEq, Nat.reduceLT, ↓reduceIte, Nat.reduceAdd, Nat.reduceSub, Nat.reduceMul, Nat.reduceLeDiff, Nat.reduceEqDiff, reduceCtorEq, Int.reduceEq, Int.reduceLT, Int.reduceLE, Int.reduceNeg, Int.reduceToNat, Int.reduceAdd, Int.reduceSub, mC, ho2]) | (apply x_pure; (iterate 2 ((try simp (disch := omega) only [go_sem, Nat.reduceBEq, Nat.reduceLT, ↓reduceIte, Nat.reduceAdd, Nat.reduceSub, Nat.reduceMul, Nat.reduceLeDiff, Nat.reduceEqDiff, reduceCtorEq, Int.reduceEq, Int.reduceLT, Int.reduceLE, Int.reduceNeg, Int.reduceToNat, Int.reduceAdd, Int.reduceSub, mC, ho2]) <;> with_reducible exact rfl)); exact ps29 m f hm.toMIn; (iterate 2 ((try simp (disch := omega) only [go_sem, Nat.reduceBEq, Nat.reduceLT, ↓reduceIte, Nat.reduceAdd, Nat.reduceSub, Nat.reduceMul, Nat.reduceLeDiff, Nat.reduceEqDiff, reduceCtorEq, Int.reduceEq, Int.reduceLT, Int.reduceLE, Int.reduceNeg, Int.reduceToNat, Int.reduceAdd, Int.reduceSub, mC, ho2]) <;> with_reducible exact rfl))) | ((first | apply x_split_cond | apply x_split_guard); all_goals (intro hb; (try simp only [Bool.not_eq_true', Bool.not_eq_false'] at hb); (simp (disch := omega) only [go_sem, Nat.reduceBEq, Nat.reduceLT, ↓reduceIte, Nat.reduceAdd, Nat.reduceSub, Nat.reduceMul, Nat.reduceLeDiff, Nat.reduceEqDiff, reduceCtorEq, Int.reduceEq, Int.reduceLT, Int.reduceLE, Int.reduceNeg, Int.reduceToNat, Int.reduceAdd, Int.reduceSub, mC, ho2, hb]); (try simp only [decide_eq_true_eq, decide_eq_false_iff_not, beq_iff_eq, beq_eq_false_iff_ne, ne_eq, bne_iff_ne, bne_eq_false_iff_eq, Decidable.not_not] at hb))))
    all_goals rfl

theorem beats_items (m : M) (k : Nat) : ∀ x ∈ beats m k, x.items.length ≤ m.log.length := by
  induction k with
  | zero => simp [beats]
  | succ k ih =>
    intro x hx
    simp only [beats] at hx
    split at hx
    · exact ih x hx
    · rcases List.mem_append.1 hx with hx | hx
      · exact ih x hx
      · simp only [List.mem_singleton] at hx; subst hx; simp [beat]

theorem beatsOf_small {m : M} (hm : MFew m) : (beatsOf m).length ≤ 140737488355328 ∧ ∀ x ∈ beatsOf m, x.items.length ≤ 140737488355328 := by
  have := hm.few1
  unfold beatsOf
  split
  · rename_i h
    obtain ⟨f1, f2, f3, f4, f5, f6, f7⟩ := lead_facts h.1 h.2
    refine ⟨Nat.le_trans (beats_length m _) (by omega), fun x hx => Nat.le_trans (beats_items m _ x hx) (by omega)⟩
  · simp

theorem walkReplicateBeats {u : List PV} (h : Fits [.int .i64, .int .i64, .int .i64, .int .i64, .slice [.int .i64, .str], .int .i64, .int .i64, .slice [.int .i64], .slice [.int .i64], .slice [.int .i64]] u) :
    PS tb 10 [.agg u] (.bool true) := by
  obtain ⟨m, f, rfl, hr⟩ := fit_member h
  refine PS_of (af := a10) rfl rfl ?_
  unfold a10
  dsimp only [List.map, ofPV, initEnv]
  cases hf : few m zeroX with
  | false =>
    repeat' (first | (simp (disch := omega) only [go_sem, Nat.reduceBEq, Nat.reduceLT, ↓reduceIte, Nat.reduceAdd, Nat.reduceSub, Nat.reduceMul, Nat.reduceLeDiff, Nat.reduceEqDiff, reduceCtorEq, Int.reduceEq, Int.reduceLT, Int.reduceLE, Int.reduceNeg, Int.reduceToNat, Int.reduceAdd, Int.reduceSub, mC, hf]) | (apply x_pure; (iterate 2 ((try simp (disch := omega) only [go_sem, Nat.reduceBEq, Nat.reduceLT, ↓reduceIte, Nat.reduceAdd, Nat.reduceSub, Nat.reduceMul, Nat.reduceLeDiff, Nat.reduceEqDiff, reduceCtorEq, Int.reduceEq, Int.reduceLT, Int.reduceLE, Int.reduceNeg, Int.reduceToNat, Int.reduceAdd, Int.reduceSub, mC, hf]) <;> with_reducible exact rfl)); exact ps45 m f zeroX true; (iterate 2 ((try simp (disch := omega) only [go_sem, Nat.reduceBEq, Nat.reduceLT, ↓reduceIte, Nat.reduceAdd, Nat.reduceSub, Nat.reduceMul, Nat.reduceLeDiff, Nat.reduceEqDiff, reduceCtorEq, Int.reduceEq, Int.reduceLT, Int.reduceLE, Int.reduceNeg, Int.reduceToNat, Int.reduceAdd, Int.reduceSub, mC, hf]) <;> with_reducible exact rfl))) | (apply x_pure; (iterate 2 ((try simp (disch := omega) only [go_sem, Nat.reduceBEq, Nat.reduceLT, ↓reduceIte, Nat.reduceAdd, Nat.reduceSub, Nat.reduceMul, Nat.reduceLeDiff, Nat.reduceEqDiff, reduceCtorEq, Int.reduceEq, Int.reduceLT, Int.reduceLE, Int.reduceNeg, Int.reduceToNat, Int.reduceAdd, Int.reduceSub, mC, hf]) <;> with_reducible exact rfl)); exact ps46; (iterate 2 ((try simp (disch := omega) only [go_sem, Nat.reduceBEq, Nat.reduceLT, ↓reduceIte, Nat.reduceAdd, Nat.reduceSub, Nat.reduceMul, Nat.reduceLeDiff, Nat.reduceEqDiff, reduceCtorEq, Int.reduceEq, Int.reduceLT, Int.reduceLE, Int.reduceNeg, Int.reduceToNat, Int.reduceAdd, Int.reduceSub, mC, hf]) <;> with_reducible exact rfl))) | ((first | apply x_split_cond | apply x_split_guard); all_goals (intro hb; (try simp only [Bool.not_eq_true', Bool.not_eq_false'] at hb); (simp (disch := omega) only [go_sem, Nat.reduceBEq, Nat.reduceLT, ↓reduceIte, Nat.reduceAdd, Nat.reduceSub, Nat.reduceMul, Nat.reduceLeDiff, Nat.reduceEqDiff, reduceCtorEq, Int.reduceEq, Int.reduceLT, Int.reduceLE, Int.reduceNeg, Int.reduceToNat, Int.reduceAdd, Int.reduceSub, mC, hf, hb]); (try simp only [decide_eq_true_eq, decide_eq_false_iff_not, beq_iff_eq, beq_eq_false_iff_ne, ne_eq, bne_iff_ne, bne_eq_false_iff_eq, Decidable.not_not] at hb))))
    all_goals rfl
  | true =>
    have hm := few_MFew hr hf
    obtain ⟨g1, q1⟩ := ps50 m f hm
    obtain ⟨g2, q2⟩ := ps51 m f hm
    repeat' (first | (simp (disch := omega) only [go_sem, Nat.reduceBEq, Nat.reduceLT, ↓reduceIte, Nat.reduceAdd, Nat.reduceSub, Nat.reduceMul, Nat.reduceLeDiff, Nat.reduceEqDiff, reduceCtorEq, Int.reduceEq, Int.reduceLT, Int.reduceLE, Int.reduceNeg, Int.reduceToNat, Int.reduceAdd, Int.reduceSub, mC, hf]) | (apply x_pure; (iterate 2 ((try simp (disch := omega) only [go_sem, Nat.reduceBEq, Nat.reduceLT, ↓reduceIte, Nat.reduceAdd, Nat.reduceSub, Nat.reduceMul, Nat.reduceLeDiff, Nat.reduceEqDiff, reduceCtorEq, Int.reduceEq, Int.reduceLT, Int.reduceLE, Int.reduceNeg, Int.reduceToNat, Int.reduceAdd, Int.reduceSub, mC, hf]) <;> with_reducible exact rfl)); exact ps45 m f zeroX true; (iterate 2 ((try simp (disch := omega) only [go_sem, Nat.reduceBEq, Nat.reduceLT, ↓reduceIte, Nat.reduceAdd, Nat.reduceSub, Nat.reduceMul, Nat.reduceLeDiff, Nat.reduceEqDiff, reduceCtorEq, Int.reduceEq, Int.reduceLT, Int.reduceLE, Int.reduceNeg, Int.reduceToNat, Int.reduceAdd, Int.reduceSub, mC, hf]) <;> with_reducible exact rfl))) | (apply x_pure; (iterate 2 ((try simp (disch := omega) only [go_sem, Nat.reduceBEq, Nat.reduceLT, ↓reduceIte, Nat.reduceAdd, Nat.reduceSub, Nat.reduceMul, Nat.reduceLeDiff, Nat.reduceEqDiff, reduceCtorEq, Int.reduceEq, Int.reduceLT, Int.reduceLE, Int.reduceNeg, Int.reduceToNat, Int.reduceAdd, Int.reduceSub, mC, hf]) <;> with_reducible exact rfl)); exact ps46; (iterate 2 ((try simp (disch := omega) only [go_sem, Nat.reduceBEq, Nat.reduceLT, ↓reduceIte, Nat.reduceAdd, Nat.reduceSub, Nat.reduceMul, Nat.reduceLeDiff, Nat.reduceEqDiff, reduceCtorEq, Int.reduceEq, Int.reduceLT, Int.reduceLE, Int.reduceNeg, Int.reduceToNat, Int.reduceAdd, Int.reduceSub, mC, hf]) <;> with_reducible exact rfl))) | (apply x_pure; (iterate 2 ((try simp (disch := omega) only [go_sem, Nat.reduceBEq, Nat.reduceLT, ↓reduceIte, Nat.reduceAdd, Nat.reduceSub, Nat.reduceMul, Nat.reduceLeDiff, Nat.reduceEqDiff, reduceCtorEq, Int.reduceEq, Int.reduceLT, Int.reduceLE, Int.reduceNeg, Int.reduceToNat, Int.reduceAdd, Int.reduceSub, mC, hf]) <;> with_reducible exact rfl)); exact q1; (iterate 2 ((try simp (disch := omega) only [go_sem, Nat.reduceBEq, Nat.reduceLT, ↓reduceIte, Nat.reduceAdd, Nat.reduceSub, Nat.reduceMul, Nat.reduceLeDiff, Nat.reduceEqDiff, reduceCtorEq, Int.reduceEq, Int.reduceLT, Int.reduceLE, Int.reduceNeg, Int.reduceToNat, Int.reduceAdd, Int.reduceSub, mC, hf]) <;> with_reducible exact rfl))) | (apply x_pure; (iterate 2 ((try simp (disch := omega) only [go_sem, Nat.reduceBEq, Nat.reduceLT, ↓reduceIte, Nat.reduceAdd, Nat.reduceSub, Nat.reduceMul, Nat.reduceLeDiff, Nat.reduceEqDiff, reduceCtorEq, Int.reduceEq, Int.reduceLT, Int.reduceLE, Int.reduceNeg, Int.reduceToNat, Int.reduceAdd, Int.reduceSub, mC, hf]) <;> with_reducible exact rfl)); exact q2; (iterate 2 ((try simp (disch := omega) only [go_sem, Nat.reduceBEq, Nat.reduceLT, ↓reduceIte, Nat.reduceAdd, Nat.reduceSub, Nat.reduceMul, Nat.reduceLeDiff, Nat.reduceEqDiff, reduceCtorEq, Int.reduceEq, Int.reduceLT, Int.reduceLE, Int.reduceNeg, Int.reduceToNat, Int.reduceAdd, Int.reduceSub, mC, hf]) <;> with_reducible exact rfl))) | (apply x_pure; (iterate 2 ((try simp (disch := omega) only [go_sem, Nat.reduceBEq, Nat.reduceLT, ↓reduceIte, Nat.reduceAdd, Nat.reduceSub, Nat.reduceMul, Nat.reduceLeDiff, Nat.reduceEqDiff, reduceCtorEq, Int.reduceEq, Int.reduceLT, Int.reduceLE, Int.reduceNeg, Int.reduceToNat, Int.reduceAdd, Int.reduceSub, mC, hf]) <;> with_reducible exact rfl)); exact ps49 (beatsOf m) g1 g2 (beatsOf_small hm).1 (beatsOf_small hm).2; (iterate 2 ((try simp (disch := omega) only [go_sem, Nat.reduceBEq, Nat.reduceLT, ↓reduceIte, Nat.reduceAdd, Nat.reduceSub, Nat.reduceMul, Nat.reduceLeDiff, Nat.reduceEqDiff, reduceCtorEq, Int.reduceEq, Int.reduceLT, Int.reduceLE, Int.reduceNeg, Int.reduceToNat, Int.reduceAdd, Int.reduceSub, mC, hf]) <;> with_reducible exact rfl))) | ((first | apply x_split_cond | apply x_split_guard); all_goals (intro hb; (try simp only [Bool.not_eq_true', Bool.not_eq_false'] at hb); (simp (disch := omega) only [go_sem, Nat.reduceBEq, Nat.reduceLT, ↓reduceIte, Nat.reduceAdd, Nat.reduceSub, Nat.reduceMul, Nat.reduceLeDiff, Nat.reduceEqDiff, reduceCtorEq, Int.reduceEq, Int.reduceLT, Int.reduceLE, Int.reduceNeg, Int.reduceToNat, Int.reduceAdd, Int.reduceSub, mC, hf, hb]); (try simp only [decide_eq_true_eq, decide_eq_false_iff_not, beq_iff_eq, beq_eq_false_iff_ne, ne_eq, bne_iff_ne, bne_eq_false_iff_eq, Decidable.not_not] at hb))))
    all_goals rfl

end Go.Dv.Try
