/-
  Specifications, part 12: Propose (both texts).
-/
import Derived.Test.YtjnigloanggmmaaS11
set_option linter.unusedVariables false
set_option linter.unusedSimpArgs false
set_option maxRecDepth 100000
set_option maxHeartbeats 4000000
namespace Go.Dv.Try
open Go Go.Dv

/-- A member that is small enough, with what is sure of any. -/
structure MFew (m : M) : Prop extends MIn m where
  few1 : m.log.length ≤ 300
  few2 : m.votes.length ≤ 40
  few3 : m.next.length ≤ 40
  few4 : m.mtch.length ≤ 40

theorem fresh_of {H : Heap} {n : Nat} (h : H.all (fun x => decide (x.1 < n)) = true) : ∀ j, n ≤ j → aget H j = none := by
  intro j hj
  cases hx : aget H j with
  | none => rfl
  | some b =>
    have := List.all_eq_true.1 h _ (aget_mem _ _ _ hx)
    simp at this; omega

def zeroM : M := ⟨0, 0, 0, 0, [], 0, 0, [], [], []⟩
theorem zC_eq : zC = mC zeroM ⟨true, true, true, true⟩ := rfl

def withItem (m : M) (d : ByteArray) : M := { m with log := m.log ++ [(m.term, d)], next := m.next.set (m.id - 1).toNat (m.log.length + 1 : Nat), mtch := m.mtch.set (m.id - 1).toNat (m.log.length + 1 : Nat) }
def proposed (m : M) (d : ByteArray) : M := { withItem m d with commit := commOf (withItem m d) }
def errP (m : M) (d : ByteArray) : Int := if okM m = false then 1 else if m.role ≠ 3 then 21 else if 4096 < (d.size : Int) then 2 else if 256 ≤ (m.log.length : Int) then 17 else 0
def resP (m : M) (d : ByteArray) : M := if errP m d = 0 then proposed m d else zeroM

theorem lead_facts {m : M} (h : okM m = true) (hr : m.role = 3) : 1 ≤ m.id ∧ m.id ≤ m.members ∧ m.members ≤ 7 ∧ (m.next.length : Int) = m.members ∧ (m.mtch.length : Int) = m.members ∧ 0 ≤ m.commit ∧ m.commit ≤ m.log.length := by
  simp only [okM, okHead, okMid, okRole, okProg, hr, Bool.and_eq_true, decide_eq_true_eq, if_true, show ¬ (3 : Int) = 1 by decide, show ¬ (3 : Int) = 2 by decide, if_false] at h
  omega

theorem ps47 (m : M) (f : Fl) (d : ByteArray) (hm : MFew m) : ∃ g, PS tb 47 [.agg (mC m f), .str d] (.tuple [.agg (mC (resP m d) g), .int .i64 (errP m d)]) := by
  have := hm.few1; have := hm.few2; have := hm.few3; have := hm.few4
  by_cases h1 : ¬ okM m = true
  · refine ⟨⟨true, true, true, true⟩, PS_of (af := a47) rfl rfl ?_⟩
    have he : errP m d = 1 := by simp [errP, h1]
    have hr : resP m d = zeroM := by simp [resP, he]
    rw [he, hr]
    unfold a47
    dsimp only [List.map, ofPV, initEnv]
    repeat' (first | (simp (disch := omega) only [go_sem, Nat.reduceBEq, Nat.reduceLT, ↓reduceIte, Nat.reduceAdd, Nat.reduceSub, Nat.reduceMul, Nat.reduceLeDiff, Nat.reduceEqDiff, reduceCtorEq, Int.reduceEq, Int.reduceLT, Int.reduceLE, Int.reduceNeg, Int.reduceToNat, Int.reduceAdd, Int.reduceSub, mC, h1]) | (apply x_pure; (iterate 2 ((try simp (disch := omega) only [go_sem, Nat.reduceBEq, Nat.reduceLT, ↓reduceIte, Nat.reduceAdd, Nat.reduceSub, Nat.reduceMul, Nat.reduceLeDiff, Nat.reduceEqDiff, reduceCtorEq, Int.reduceEq, Int.reduceLT, Int.reduceLE, Int.reduceNeg, Int.reduceToNat, Int.reduceAdd, Int.reduceSub, mC, h1]) <;> with_reducible exact rfl)); exact ps28 m f hm.toMIn; (iterate 2 ((try simp (disch := omega) only [go_sem, Nat.reduceBEq, Nat.reduceLT, ↓reduceIte, Nat.reduceAdd, Nat.reduceSub, Nat.reduceMul, Nat.reduceLeDiff, Nat.reduceEqDiff, reduceCtorEq, Int.reduceEq, Int.reduceLT, Int.reduceLE, Int.reduceNeg, Int.reduceToNat, Int.reduceAdd, Int.reduceSub, mC, h1]) <;> with_reducible exact rfl))) | ((first | apply x_split_cond | apply x_split_guard); all_goals (intro hb; (try simp only [Bool.not_eq_true', Bool.not_eq_false'] at hb); (simp (disch := omega) only [go_sem, Nat.reduceBEq, Nat.reduceLT, ↓reduceIte, Nat.reduceAdd, Nat.reduceSub, Nat.reduceMul, Nat.reduceLeDiff, Nat.reduceEqDiff, reduceCtorEq, Int.reduceEq, Int.reduceLT, Int.reduceLE, Int.reduceNeg, Int.reduceToNat, Int.reduceAdd, Int.reduceSub, mC, h1, hb]); (try simp only [decide_eq_true_eq, decide_eq_false_iff_not, beq_iff_eq, beq_eq_false_iff_ne, ne_eq, bne_iff_ne, bne_eq_false_iff_eq, Decidable.not_not] at hb))))
    all_goals rfl
  have h1 := Decidable.not_not.1 h1
  by_cases h2 : ¬ m.role = 3
  · refine ⟨⟨true, true, true, true⟩, PS_of (af := a47) rfl rfl ?_⟩
    have he : errP m d = 21 := by simp [errP, h1, h2]
    have hr : resP m d = zeroM := by simp [resP, he]
    have h2b : (m.role != 3) = true := by simpa using h2
    rw [he, hr]
    unfold a47
    dsimp only [List.map, ofPV, initEnv]
    repeat' (first | (simp (disch := omega) only [go_sem, Nat.reduceBEq, Nat.reduceLT, ↓reduceIte, Nat.reduceAdd, Nat.reduceSub, Nat.reduceMul, Nat.reduceLeDiff, Nat.reduceEqDiff, reduceCtorEq, Int.reduceEq, Int.reduceLT, Int.reduceLE, Int.reduceNeg, Int.reduceToNat, Int.reduceAdd, Int.reduceSub, mC, h1, h2b]) | (apply x_pure; (iterate 2 ((try simp (disch := omega) only [go_sem, Nat.reduceBEq, Nat.reduceLT, ↓reduceIte, Nat.reduceAdd, Nat.reduceSub, Nat.reduceMul, Nat.reduceLeDiff, Nat.reduceEqDiff, reduceCtorEq, Int.reduceEq, Int.reduceLT, Int.reduceLE, Int.reduceNeg, Int.reduceToNat, Int.reduceAdd, Int.reduceSub, mC, h1, h2b]) <;> with_reducible exact rfl)); exact ps28 m f hm.toMIn; (iterate 2 ((try simp (disch := omega) only [go_sem, Nat.reduceBEq, Nat.reduceLT, ↓reduceIte, Nat.reduceAdd, Nat.reduceSub, Nat.reduceMul, Nat.reduceLeDiff, Nat.reduceEqDiff, reduceCtorEq, Int.reduceEq, Int.reduceLT, Int.reduceLE, Int.reduceNeg, Int.reduceToNat, Int.reduceAdd, Int.reduceSub, mC, h1, h2b]) <;> with_reducible exact rfl))) | ((first | apply x_split_cond | apply x_split_guard); all_goals (intro hb; (try simp only [Bool.not_eq_true', Bool.not_eq_false'] at hb); (simp (disch := omega) only [go_sem, Nat.reduceBEq, Nat.reduceLT, ↓reduceIte, Nat.reduceAdd, Nat.reduceSub, Nat.reduceMul, Nat.reduceLeDiff, Nat.reduceEqDiff, reduceCtorEq, Int.reduceEq, Int.reduceLT, Int.reduceLE, Int.reduceNeg, Int.reduceToNat, Int.reduceAdd, Int.reduceSub, mC, h1, h2b, hb]); (try simp only [decide_eq_true_eq, decide_eq_false_iff_not, beq_iff_eq, beq_eq_false_iff_ne, ne_eq, bne_iff_ne, bne_eq_false_iff_eq, Decidable.not_not] at hb))))
    all_goals rfl
  have h2 := Decidable.not_not.1 h2
  have h2c : (m.role != 3) = false := by simp [h2]
  by_cases h3 : 4096 < (d.size : Int)
  · refine ⟨⟨true, true, true, true⟩, PS_of (af := a47) rfl rfl ?_⟩
    have he : errP m d = 2 := by simp [errP, h1, h2, h3]
    have hr : resP m d = zeroM := by simp [resP, he]
    rw [he, hr]
    unfold a47
    dsimp only [List.map, ofPV, initEnv]
    repeat' (first | (simp (disch := omega) only [go_sem, Nat.reduceBEq, Nat.reduceLT, ↓reduceIte, Nat.reduceAdd, Nat.reduceSub, Nat.reduceMul, Nat.reduceLeDiff, Nat.reduceEqDiff, reduceCtorEq, Int.reduceEq, Int.reduceLT, Int.reduceLE, Int.reduceNeg, Int.reduceToNat, Int.reduceAdd, Int.reduceSub, mC, h1, h2c, h3]) | (apply x_pure; (iterate 2 ((try simp (disch := omega) only [go_sem, Nat.reduceBEq, Nat.reduceLT, ↓reduceIte, Nat.reduceAdd, Nat.reduceSub, Nat.reduceMul, Nat.reduceLeDiff, Nat.reduceEqDiff, reduceCtorEq, Int.reduceEq, Int.reduceLT, Int.reduceLE, Int.reduceNeg, Int.reduceToNat, Int.reduceAdd, Int.reduceSub, mC, h1, h2c, h3]) <;> with_reducible exact rfl)); exact ps28 m f hm.toMIn; (iterate 2 ((try simp (disch := omega) only [go_sem, Nat.reduceBEq, Nat.reduceLT, ↓reduceIte, Nat.reduceAdd, Nat.reduceSub, Nat.reduceMul, Nat.reduceLeDiff, Nat.reduceEqDiff, reduceCtorEq, Int.reduceEq, Int.reduceLT, Int.reduceLE, Int.reduceNeg, Int.reduceToNat, Int.reduceAdd, Int.reduceSub, mC, h1, h2c, h3]) <;> with_reducible exact rfl))) | ((first | apply x_split_cond | apply x_split_guard); all_goals (intro hb; (try simp only [Bool.not_eq_true', Bool.not_eq_false'] at hb); (simp (disch := omega) only [go_sem, Nat.reduceBEq, Nat.reduceLT, ↓reduceIte, Nat.reduceAdd, Nat.reduceSub, Nat.reduceMul, Nat.reduceLeDiff, Nat.reduceEqDiff, reduceCtorEq, Int.reduceEq, Int.reduceLT, Int.reduceLE, Int.reduceNeg, Int.reduceToNat, Int.reduceAdd, Int.reduceSub, mC, h1, h2c, h3, hb]); (try simp only [decide_eq_true_eq, decide_eq_false_iff_not, beq_iff_eq, beq_eq_false_iff_ne, ne_eq, bne_iff_ne, bne_eq_false_iff_eq, Decidable.not_not] at hb))))
    all_goals rfl
  by_cases h4 : 256 ≤ (m.log.length : Int)
  · refine ⟨⟨true, true, true, true⟩, PS_of (af := a47) rfl rfl ?_⟩
    have he : errP m d = 17 := by simp [errP, h1, h2, h3, h4]
    have hr : resP m d = zeroM := by simp [resP, he]
    rw [he, hr]
    unfold a47
    dsimp only [List.map, ofPV, initEnv]
    repeat' (first | (simp (disch := omega) only [go_sem, Nat.reduceBEq, Nat.reduceLT, ↓reduceIte, Nat.reduceAdd, Nat.reduceSub, Nat.reduceMul, Nat.reduceLeDiff, Nat.reduceEqDiff, reduceCtorEq, Int.reduceEq, Int.reduceLT, Int.reduceLE, Int.reduceNeg, Int.reduceToNat, Int.reduceAdd, Int.reduceSub, mC, h1, h2c, h3, h4, itemsPV_length]) | (apply x_pure; (iterate 2 ((try simp (disch := omega) only [go_sem, Nat.reduceBEq, Nat.reduceLT, ↓reduceIte, Nat.reduceAdd, Nat.reduceSub, Nat.reduceMul, Nat.reduceLeDiff, Nat.reduceEqDiff, reduceCtorEq, Int.reduceEq, Int.reduceLT, Int.reduceLE, Int.reduceNeg, Int.reduceToNat, Int.reduceAdd, Int.reduceSub, mC, h1, h2c, h3, h4, itemsPV_length]) <;> with_reducible exact rfl)); exact ps28 m f hm.toMIn; (iterate 2 ((try simp (disch := omega) only [go_sem, Nat.reduceBEq, Nat.reduceLT, ↓reduceIte, Nat.reduceAdd, Nat.reduceSub, Nat.reduceMul, Nat.reduceLeDiff, Nat.reduceEqDiff, reduceCtorEq, Int.reduceEq, Int.reduceLT, Int.reduceLE, Int.reduceNeg, Int.reduceToNat, Int.reduceAdd, Int.reduceSub, mC, h1, h2c, h3, h4, itemsPV_length]) <;> with_reducible exact rfl))) | ((first | apply x_split_cond | apply x_split_guard); all_goals (intro hb; (try simp only [Bool.not_eq_true', Bool.not_eq_false'] at hb); (simp (disch := omega) only [go_sem, Nat.reduceBEq, Nat.reduceLT, ↓reduceIte, Nat.reduceAdd, Nat.reduceSub, Nat.reduceMul, Nat.reduceLeDiff, Nat.reduceEqDiff, reduceCtorEq, Int.reduceEq, Int.reduceLT, Int.reduceLE, Int.reduceNeg, Int.reduceToNat, Int.reduceAdd, Int.reduceSub, mC, h1, h2c, h3, h4, itemsPV_length, hb]); (try simp only [decide_eq_true_eq, decide_eq_false_iff_not, beq_iff_eq, beq_eq_false_iff_ne, ne_eq, bne_iff_ne, bne_eq_false_iff_eq, Decidable.not_not] at hb))))
    all_goals rfl
  refine ⟨⟨false, false, false, false⟩, PS_of (af := a47) rfl rfl ?_⟩
  have he : errP m d = 0 := by simp [errP, h1, h2, h3, h4]
  have hr : resP m d = proposed m d := by simp [resP, he]
  obtain ⟨f1, f2, f3, f4, f5, f6, f7⟩ := lead_facts h1 h2
  have g1 : (0 : Int) ≤ m.id - 1 := by omega
  have g2 := intsPV_getD m.next (m.id - 1).toNat (by omega)
  have g3 := intsPV_getD m.mtch (m.id - 1).toNat (by omega)
  have g4 : m.id - 1 < (m.next.length : Int) := by omega
  have g5 : m.id - 1 < (m.mtch.length : Int) := by omega
  rw [he, hr]
  unfold a47
  dsimp only [List.map, ofPV, initEnv]
  have t1 : (m.log ++ [(m.term, d)]).take (m.log.length + 1) = m.log ++ [(m.term, d)] := List.take_of_length_le (by simp)
  have t2 : ∀ (i : Nat) (x : Int), (m.next.set i x).take m.next.length = m.next.set i x := fun i x => List.take_of_length_le (by simp)
  have t3 : ∀ (i : Nat) (x : Int), (m.mtch.set i x).take m.mtch.length = m.mtch.set i x := fun i x => List.take_of_length_le (by simp)
  have c1 : 0 ≤ (withItem m d).commit := f6
  have c2 : (withItem m d).log.length ≤ 140737488355328 := by simp [withItem]; omega
  have c3 : (withItem m d).mtch.length ≤ 140737488355328 := by simp [withItem]; omega
  have c4 : (withItem m d).members ≤ 9223372036854775807 := hm.me2
  repeat' (first | (simp (disch := omega) only [go_sem, Nat.reduceBEq, Nat.reduceLT, ↓reduceIte, Nat.reduceAdd, Nat.reduceSub, Nat.reduceMul, Nat.reduceLeDiff, Nat.reduceEqDiff, reduceCtorEq, Int.reduceEq, Int.reduceLT, Int.reduceLE, Int.reduceNeg, Int.reduceToNat, Int.reduceAdd, Int.reduceSub, mC, rC, intPV, h1, h2c, h3, h4, g1, g2, g3, g4, g5, t1, t2, t3, itemsPV_length, intsPV_length, itemsPV_sing, itemsPV_append, itemsPV_sz, itemsPV_take, intsPV_take, intsPV_set, List.length_append, List.length_set, List.take_length, maxB]) | (apply x_pure; (iterate 2 ((try simp (disch := omega) only [go_sem, Nat.reduceBEq, Nat.reduceLT, ↓reduceIte, Nat.reduceAdd, Nat.reduceSub, Nat.reduceMul, Nat.reduceLeDiff, Nat.reduceEqDiff, reduceCtorEq, Int.reduceEq, Int.reduceLT, Int.reduceLE, Int.reduceNeg, Int.reduceToNat, Int.reduceAdd, Int.reduceSub, mC, rC, intPV, h1, h2c, h3, h4, g1, g2, g3, g4, g5, t1, t2, t3, itemsPV_length, intsPV_length, itemsPV_sing, itemsPV_append, itemsPV_sz, itemsPV_take, intsPV_take, intsPV_set, List.length_append, List.length_set, List.take_length, maxB]) <;> with_reducible exact rfl)); exact ps28 m f hm.toMIn; (iterate 2 ((try simp (disch := omega) only [go_sem, Nat.reduceBEq, Nat.reduceLT, ↓reduceIte, Nat.reduceAdd, Nat.reduceSub, Nat.reduceMul, Nat.reduceLeDiff, Nat.reduceEqDiff, reduceCtorEq, Int.reduceEq, Int.reduceLT, Int.reduceLE, Int.reduceNeg, Int.reduceToNat, Int.reduceAdd, Int.reduceSub, mC, rC, intPV, h1, h2c, h3, h4, g1, g2, g3, g4, g5, t1, t2, t3, itemsPV_length, intsPV_length, itemsPV_sing, itemsPV_append, itemsPV_sz, itemsPV_take, intsPV_take, intsPV_set, List.length_append, List.length_set, List.take_length, maxB]) <;> with_reducible exact rfl))) | (apply x_byref; ((try simp (disch := omega) only [go_sem, Nat.reduceBEq, Nat.reduceLT, ↓reduceIte, Nat.reduceAdd, Nat.reduceSub, Nat.reduceMul, Nat.reduceLeDiff, Nat.reduceEqDiff, reduceCtorEq, Int.reduceEq, Int.reduceLT, Int.reduceLE, Int.reduceNeg, Int.reduceToNat, Int.reduceAdd, Int.reduceSub, mC, rC, intPV, h1, h2c, h3, h4, g1, g2, g3, g4, g5, t1, t2, t3, itemsPV_length, intsPV_length, itemsPV_sing, itemsPV_append, itemsPV_sz, itemsPV_take, intsPV_take, intsPV_set, List.length_append, List.length_set, List.take_length, maxB]) <;> with_reducible exact rfl); exact bs101 m f _ _ (fresh_of rfl) (by omega) (by omega) (by omega) (by omega); ((try simp (disch := omega) only [go_sem, Nat.reduceBEq, Nat.reduceLT, ↓reduceIte, Nat.reduceAdd, Nat.reduceSub, Nat.reduceMul, Nat.reduceLeDiff, Nat.reduceEqDiff, reduceCtorEq, Int.reduceEq, Int.reduceLT, Int.reduceLE, Int.reduceNeg, Int.reduceToNat, Int.reduceAdd, Int.reduceSub, mC, rC, intPV, h1, h2c, h3, h4, g1, g2, g3, g4, g5, t1, t2, t3, itemsPV_length, intsPV_length, itemsPV_sing, itemsPV_append, itemsPV_sz, itemsPV_take, intsPV_take, intsPV_set, List.length_append, List.length_set, List.take_length, maxB]) <;> with_reducible exact rfl)) | (apply x_pure; (iterate 2 ((try simp (disch := omega) only [go_sem, Nat.reduceBEq, Nat.reduceLT, ↓reduceIte, Nat.reduceAdd, Nat.reduceSub, Nat.reduceMul, Nat.reduceLeDiff, Nat.reduceEqDiff, reduceCtorEq, Int.reduceEq, Int.reduceLT, Int.reduceLE, Int.reduceNeg, Int.reduceToNat, Int.reduceAdd, Int.reduceSub, mC, rC, intPV, h1, h2c, h3, h4, g1, g2, g3, g4, g5, t1, t2, t3, itemsPV_length, intsPV_length, itemsPV_sing, itemsPV_append, itemsPV_sz, itemsPV_take, intsPV_take, intsPV_set, List.length_append, List.length_set, List.take_length, maxB]) <;> with_reducible exact rfl)); exact ps102 (withItem m d) ⟨false, false, false, false⟩ c2 c3 c4 c1; (iterate 2 ((try simp (disch := omega) only [go_sem, Nat.reduceBEq, Nat.reduceLT, ↓reduceIte, Nat.reduceAdd, Nat.reduceSub, Nat.reduceMul, Nat.reduceLeDiff, Nat.reduceEqDiff, reduceCtorEq, Int.reduceEq, Int.reduceLT, Int.reduceLE, Int.reduceNeg, Int.reduceToNat, Int.reduceAdd, Int.reduceSub, mC, rC, intPV, h1, h2c, h3, h4, g1, g2, g3, g4, g5, t1, t2, t3, itemsPV_length, intsPV_length, itemsPV_sing, itemsPV_append, itemsPV_sz, itemsPV_take, intsPV_take, intsPV_set, List.length_append, List.length_set, List.take_length, maxB]) <;> with_reducible exact rfl))) | ((first | apply x_split_cond | apply x_split_guard); all_goals (intro hb; (try simp only [Bool.not_eq_true', Bool.not_eq_false'] at hb); (simp (disch := omega) only [go_sem, Nat.reduceBEq, Nat.reduceLT, ↓reduceIte, Nat.reduceAdd, Nat.reduceSub, Nat.reduceMul, Nat.reduceLeDiff, Nat.reduceEqDiff, reduceCtorEq, Int.reduceEq, Int.reduceLT, Int.reduceLE, Int.reduceNeg, Int.reduceToNat, Int.reduceAdd, Int.reduceSub, mC, rC, intPV, h1, h2c, h3, h4, g1, g2, g3, g4, g5, t1, t2, t3, itemsPV_length, intsPV_length, itemsPV_sing, itemsPV_append, itemsPV_sz, itemsPV_take, intsPV_take, intsPV_set, List.length_append, List.length_set, List.take_length, maxB, hb]); (try simp only [decide_eq_true_eq, decide_eq_false_iff_not, beq_iff_eq, beq_eq_false_iff_ne, ne_eq, bne_iff_ne, bne_eq_false_iff_eq, Decidable.not_not] at hb))))
  (simp (disch := omega) only [go_sem, Nat.reduceBEq, Nat.reduceLT, ↓reduceIte, Nat.reduceAdd, Nat.reduceSub, Nat.reduceMul, Nat.reduceLeDiff, Nat.reduceEqDiff, reduceCtorEq, Int.reduceEq, Int.reduceLT, Int.reduceLE, Int.reduceNeg, Int.reduceToNat, Int.reduceAdd, Int.reduceSub, mC, proposed, withItem, itemsPV_length, intsPV_length, itemsPV_take, intsPV_take, List.length_append, List.length_set, t1, t2, t3, List.take_length])

theorem ps104' (l : List Int) (b : Bool) (i : Int) (n : Int) (h0 : 0 ≤ i) (hi : i < (l.length : Int)) (hl : l.length ≤ 100000) :
    PS tb 104 [.slice b (intsPV l), .int .i64 i, .int .i64 n] (.slice false (intsPV (l.set i.toNat n))) := by
  obtain ⟨k, rfl⟩ := Int.eq_ofNat_of_zero_le h0
  exact ps104 l b k n (by omega) hl

theorem ps48 (m : M) (f : Fl) (d : ByteArray) (hm : MFew m) : ∃ g, PS tb 48 [.agg (mC m f), .str d] (.tuple [.agg (mC (resP m d) g), .int .i64 (errP m d)]) := by
  have := hm.few1; have := hm.few2; have := hm.few3; have := hm.few4
  by_cases h1 : ¬ okM m = true
  · refine ⟨⟨true, true, true, true⟩, PS_of (af := a48) rfl rfl ?_⟩
    have he : errP m d = 1 := by simp [errP, h1]
    have hr : resP m d = zeroM := by simp [resP, he]
    rw [he, hr]
    unfold a48
    dsimp only [List.map, ofPV, initEnv]
    repeat' (first | (simp (disch := omega) only [go_sem, Nat.reduceBEq, Nat.reduceLT, ↓reduceIte, Nat.reduceAdd, Nat.reduceSub, Nat.reduceMul, Nat.reduceLeDiff, Nat.reduceEqDiff, reduceCtorEq, Int.reduceEq, Int.reduceLT, Int.reduceLE, Int.reduceNeg, Int.reduceToNat, Int.reduceAdd, Int.reduceSub, mC, h1]) | (apply x_pure; (iterate 2 ((try simp (disch := omega) only [go_sem, Nat.reduceBEq, Nat.reduceLT, ↓reduceIte, Nat.reduceAdd, Nat.reduceSub, Nat.reduceMul, Nat.reduceLeDiff, Nat.reduceEqDiff, reduceCtorEq, Int.reduceEq, Int.reduceLT, Int.reduceLE, Int.reduceNeg, Int.reduceToNat, Int.reduceAdd, Int.reduceSub, mC, h1]) <;> with_reducible exact rfl)); exact ps29 m f hm.toMIn; (iterate 2 ((try simp (disch := omega) only [go_sem, Nat.reduceBEq, Nat.reduceLT, ↓reduceIte, Nat.reduceAdd, Nat.reduceSub, Nat.reduceMul, Nat.reduceLeDiff, Nat.reduceEqDiff, reduceCtorEq, Int.reduceEq, Int.reduceLT, Int.reduceLE, Int.reduceNeg, Int.reduceToNat, Int.reduceAdd, Int.reduceSub, mC, h1]) <;> with_reducible exact rfl))) | ((first | apply x_split_cond | apply x_split_guard); all_goals (intro hb; (try simp only [Bool.not_eq_true', Bool.not_eq_false'] at hb); (simp (disch := omega) only [go_sem, Nat.reduceBEq, Nat.reduceLT, ↓reduceIte, Nat.reduceAdd, Nat.reduceSub, Nat.reduceMul, Nat.reduceLeDiff, Nat.reduceEqDiff, reduceCtorEq, Int.reduceEq, Int.reduceLT, Int.reduceLE, Int.reduceNeg, Int.reduceToNat, Int.reduceAdd, Int.reduceSub, mC, h1, hb]); (try simp only [decide_eq_true_eq, decide_eq_false_iff_not, beq_iff_eq, beq_eq_false_iff_ne, ne_eq, bne_iff_ne, bne_eq_false_iff_eq, Decidable.not_not] at hb))))
    all_goals rfl
  have h1 := Decidable.not_not.1 h1
  by_cases h2 : ¬ m.role = 3
  · refine ⟨⟨true, true, true, true⟩, PS_of (af := a48) rfl rfl ?_⟩
    have he : errP m d = 21 := by simp [errP, h1, h2]
    have hr : resP m d = zeroM := by simp [resP, he]
    have h2b : (m.role != 3) = true := by simpa using h2
    rw [he, hr]
    unfold a48
    dsimp only [List.map, ofPV, initEnv]
    repeat' (first | (simp (disch := omega) only [go_sem, Nat.reduceBEq, Nat.reduceLT, ↓reduceIte, Nat.reduceAdd, Nat.reduceSub, Nat.reduceMul, Nat.reduceLeDiff, Nat.reduceEqDiff, reduceCtorEq, Int.reduceEq, Int.reduceLT, Int.reduceLE, Int.reduceNeg, Int.reduceToNat, Int.reduceAdd, Int.reduceSub, mC, h1, h2b]) | (apply x_pure; (iterate 2 ((try simp (disch := omega) only [go_sem, Nat.reduceBEq, Nat.reduceLT, ↓reduceIte, Nat.reduceAdd, Nat.reduceSub, Nat.reduceMul, Nat.reduceLeDiff, Nat.reduceEqDiff, reduceCtorEq, Int.reduceEq, Int.reduceLT, Int.reduceLE, Int.reduceNeg, Int.reduceToNat, Int.reduceAdd, Int.reduceSub, mC, h1, h2b]) <;> with_reducible exact rfl)); exact ps29 m f hm.toMIn; (iterate 2 ((try simp (disch := omega) only [go_sem, Nat.reduceBEq, Nat.reduceLT, ↓reduceIte, Nat.reduceAdd, Nat.reduceSub, Nat.reduceMul, Nat.reduceLeDiff, Nat.reduceEqDiff, reduceCtorEq, Int.reduceEq, Int.reduceLT, Int.reduceLE, Int.reduceNeg, Int.reduceToNat, Int.reduceAdd, Int.reduceSub, mC, h1, h2b]) <;> with_reducible exact rfl))) | ((first | apply x_split_cond | apply x_split_guard); all_goals (intro hb; (try simp only [Bool.not_eq_true', Bool.not_eq_false'] at hb); (simp (disch := omega) only [go_sem, Nat.reduceBEq, Nat.reduceLT, ↓reduceIte, Nat.reduceAdd, Nat.reduceSub, Nat.reduceMul, Nat.reduceLeDiff, Nat.reduceEqDiff, reduceCtorEq, Int.reduceEq, Int.reduceLT, Int.reduceLE, Int.reduceNeg, Int.reduceToNat, Int.reduceAdd, Int.reduceSub, mC, h1, h2b, hb]); (try simp only [decide_eq_true_eq, decide_eq_false_iff_not, beq_iff_eq, beq_eq_false_iff_ne, ne_eq, bne_iff_ne, bne_eq_false_iff_eq, Decidable.not_not] at hb))))
    all_goals rfl
  have h2 := Decidable.not_not.1 h2
  have h2c : (m.role != 3) = false := by simp [h2]
  by_cases h3 : 4096 < (d.size : Int)
  · refine ⟨⟨true, true, true, true⟩, PS_of (af := a48) rfl rfl ?_⟩
    have he : errP m d = 2 := by simp [errP, h1, h2, h3]
    have hr : resP m d = zeroM := by simp [resP, he]
    rw [he, hr]
    unfold a48
    dsimp only [List.map, ofPV, initEnv]
    repeat' (first | (simp (disch := omega) only [go_sem, Nat.reduceBEq, Nat.reduceLT, ↓reduceIte, Nat.reduceAdd, Nat.reduceSub, Nat.reduceMul, Nat.reduceLeDiff, Nat.reduceEqDiff, reduceCtorEq, Int.reduceEq, Int.reduceLT, Int.reduceLE, Int.reduceNeg, Int.reduceToNat, Int.reduceAdd, Int.reduceSub, mC, h1, h2c, h3]) | (apply x_pure; (iterate 2 ((try simp (disch := omega) only [go_sem, Nat.reduceBEq, Nat.reduceLT, ↓reduceIte, Nat.reduceAdd, Nat.reduceSub, Nat.reduceMul, Nat.reduceLeDiff, Nat.reduceEqDiff, reduceCtorEq, Int.reduceEq, Int.reduceLT, Int.reduceLE, Int.reduceNeg, Int.reduceToNat, Int.reduceAdd, Int.reduceSub, mC, h1, h2c, h3]) <;> with_reducible exact rfl)); exact ps29 m f hm.toMIn; (iterate 2 ((try simp (disch := omega) only [go_sem, Nat.reduceBEq, Nat.reduceLT, ↓reduceIte, Nat.reduceAdd, Nat.reduceSub, Nat.reduceMul, Nat.reduceLeDiff, Nat.reduceEqDiff, reduceCtorEq, Int.reduceEq, Int.reduceLT, Int.reduceLE, Int.reduceNeg, Int.reduceToNat, Int.reduceAdd, Int.reduceSub, mC, h1, h2c, h3]) <;> with_reducible exact rfl))) | ((first | apply x_split_cond | apply x_split_guard); all_goals (intro hb; (try simp only [Bool.not_eq_true', Bool.not_eq_false'] at hb); (simp (disch := omega) only [go_sem, Nat.reduceBEq, Nat.reduceLT, ↓reduceIte, Nat.reduceAdd, Nat.reduceSub, Nat.reduceMul, Nat.reduceLeDiff, Nat.reduceEqDiff, reduceCtorEq, Int.reduceEq, Int.reduceLT, Int.reduceLE, Int.reduceNeg, Int.reduceToNat, Int.reduceAdd, Int.reduceSub, mC, h1, h2c, h3, hb]); (try simp only [decide_eq_true_eq, decide_eq_false_iff_not, beq_iff_eq, beq_eq_false_iff_ne, ne_eq, bne_iff_ne, bne_eq_false_iff_eq, Decidable.not_not] at hb))))
    all_goals rfl
  by_cases h4 : 256 ≤ (m.log.length : Int)
  · refine ⟨⟨true, true, true, true⟩, PS_of (af := a48) rfl rfl ?_⟩
    have he : errP m d = 17 := by simp [errP, h1, h2, h3, h4]
    have hr : resP m d = zeroM := by simp [resP, he]
    rw [he, hr]
    unfold a48
    dsimp only [List.map, ofPV, initEnv]
    repeat' (first | (simp (disch := omega) only [go_sem, Nat.reduceBEq, Nat.reduceLT, ↓reduceIte, Nat.reduceAdd, Nat.reduceSub, Nat.reduceMul, Nat.reduceLeDiff, Nat.reduceEqDiff, reduceCtorEq, Int.reduceEq, Int.reduceLT, Int.reduceLE, Int.reduceNeg, Int.reduceToNat, Int.reduceAdd, Int.reduceSub, mC, h1, h2c, h3, h4, itemsPV_length]) | (apply x_pure; (iterate 2 ((try simp (disch := omega) only [go_sem, Nat.reduceBEq, Nat.reduceLT, ↓reduceIte, Nat.reduceAdd, Nat.reduceSub, Nat.reduceMul, Nat.reduceLeDiff, Nat.reduceEqDiff, reduceCtorEq, Int.reduceEq, Int.reduceLT, Int.reduceLE, Int.reduceNeg, Int.reduceToNat, Int.reduceAdd, Int.reduceSub, mC, h1, h2c, h3, h4, itemsPV_length]) <;> with_reducible exact rfl)); exact ps29 m f hm.toMIn; (iterate 2 ((try simp (disch := omega) only [go_sem, Nat.reduceBEq, Nat.reduceLT, ↓reduceIte, Nat.reduceAdd, Nat.reduceSub, Nat.reduceMul, Nat.reduceLeDiff, Nat.reduceEqDiff, reduceCtorEq, Int.reduceEq, Int.reduceLT, Int.reduceLE, Int.reduceNeg, Int.reduceToNat, Int.reduceAdd, Int.reduceSub, mC, h1, h2c, h3, h4, itemsPV_length]) <;> with_reducible exact rfl))) | ((first | apply x_split_cond | apply x_split_guard); all_goals (intro hb; (try simp only [Bool.not_eq_true', Bool.not_eq_false'] at hb); (simp (disch := omega) only [go_sem, Nat.reduceBEq, Nat.reduceLT, ↓reduceIte, Nat.reduceAdd, Nat.reduceSub, Nat.reduceMul, Nat.reduceLeDiff, Nat.reduceEqDiff, reduceCtorEq, Int.reduceEq, Int.reduceLT, Int.reduceLE, Int.reduceNeg, Int.reduceToNat, Int.reduceAdd, Int.reduceSub, mC, h1, h2c, h3, h4, itemsPV_length, hb]); (try simp only [decide_eq_true_eq, decide_eq_false_iff_not, beq_iff_eq, beq_eq_false_iff_ne, ne_eq, bne_iff_ne, bne_eq_false_iff_eq, Decidable.not_not] at hb))))
    all_goals rfl
  refine ⟨⟨false, f.b, false, false⟩, PS_of (af := a48) rfl rfl ?_⟩
  have he : errP m d = 0 := by simp [errP, h1, h2, h3, h4]
  have hr : resP m d = proposed m d := by simp [resP, he]
  obtain ⟨f1, f2, f3, f4, f5, f6, f7⟩ := lead_facts h1 h2
  have g1 : (0 : Int) ≤ m.id - 1 := by omega
  rw [he, hr]
  unfold a48
  dsimp only [List.map, ofPV, initEnv]
  have c1 : 0 ≤ (withItem m d).commit := f6
  have c2 : (withItem m d).log.length ≤ 140737488355328 := by simp [withItem]; omega
  have c3 : (withItem m d).mtch.length ≤ 140737488355328 := by simp [withItem]; omega
  have c4 : (withItem m d).members ≤ 9223372036854775807 := hm.me2
  repeat' (first | (simp (disch := omega) only [go_sem, Nat.reduceBEq, Nat.reduceLT, ↓reduceIte, Nat.reduceAdd, Nat.reduceSub, Nat.reduceMul, Nat.reduceLeDiff, Nat.reduceEqDiff, reduceCtorEq, Int.reduceEq, Int.reduceLT, Int.reduceLE, Int.reduceNeg, Int.reduceToNat, Int.reduceAdd, Int.reduceSub, mC, h1, h2c, h3, h4, itemsPV_length, intsPV_length, itemsPV_sing, List.length_append, List.length_set, List.take_length]) | (apply x_pure; (iterate 2 ((try simp (disch := omega) only [go_sem, Nat.reduceBEq, Nat.reduceLT, ↓reduceIte, Nat.reduceAdd, Nat.reduceSub, Nat.reduceMul, Nat.reduceLeDiff, Nat.reduceEqDiff, reduceCtorEq, Int.reduceEq, Int.reduceLT, Int.reduceLE, Int.reduceNeg, Int.reduceToNat, Int.reduceAdd, Int.reduceSub, mC, h1, h2c, h3, h4, itemsPV_length, intsPV_length, itemsPV_sing, List.length_append, List.length_set, List.take_length]) <;> with_reducible exact rfl)); exact ps29 m f hm.toMIn; (iterate 2 ((try simp (disch := omega) only [go_sem, Nat.reduceBEq, Nat.reduceLT, ↓reduceIte, Nat.reduceAdd, Nat.reduceSub, Nat.reduceMul, Nat.reduceLeDiff, Nat.reduceEqDiff, reduceCtorEq, Int.reduceEq, Int.reduceLT, Int.reduceLE, Int.reduceNeg, Int.reduceToNat, Int.reduceAdd, Int.reduceSub, mC, h1, h2c, h3, h4, itemsPV_length, intsPV_length, itemsPV_sing, List.length_append, List.length_set, List.take_length]) <;> with_reducible exact rfl))) | (apply x_pure; (iterate 2 ((try simp (disch := omega) only [go_sem, Nat.reduceBEq, Nat.reduceLT, ↓reduceIte, Nat.reduceAdd, Nat.reduceSub, Nat.reduceMul, Nat.reduceLeDiff, Nat.reduceEqDiff, reduceCtorEq, Int.reduceEq, Int.reduceLT, Int.reduceLE, Int.reduceNeg, Int.reduceToNat, Int.reduceAdd, Int.reduceSub, mC, h1, h2c, h3, h4, itemsPV_length, intsPV_length, itemsPV_sing, List.length_append, List.length_set, List.take_length]) <;> with_reducible exact rfl)); exact ps103 m.log [(m.term, d)] _ _ m.log.length (Nat.le_refl _) (by omega) (by simp); (iterate 2 ((try simp (disch := omega) only [go_sem, Nat.reduceBEq, Nat.reduceLT, ↓reduceIte, Nat.reduceAdd, Nat.reduceSub, Nat.reduceMul, Nat.reduceLeDiff, Nat.reduceEqDiff, reduceCtorEq, Int.reduceEq, Int.reduceLT, Int.reduceLE, Int.reduceNeg, Int.reduceToNat, Int.reduceAdd, Int.reduceSub, mC, h1, h2c, h3, h4, itemsPV_length, intsPV_length, itemsPV_sing, List.length_append, List.length_set, List.take_length]) <;> with_reducible exact rfl))) | (apply x_pure; (iterate 2 ((try simp (disch := omega) only [go_sem, Nat.reduceBEq, Nat.reduceLT, ↓reduceIte, Nat.reduceAdd, Nat.reduceSub, Nat.reduceMul, Nat.reduceLeDiff, Nat.reduceEqDiff, reduceCtorEq, Int.reduceEq, Int.reduceLT, Int.reduceLE, Int.reduceNeg, Int.reduceToNat, Int.reduceAdd, Int.reduceSub, mC, h1, h2c, h3, h4, itemsPV_length, intsPV_length, itemsPV_sing, List.length_append, List.length_set, List.take_length]) <;> with_reducible exact rfl)); exact ps104' m.next _ _ _ g1 (by omega) (by omega); (iterate 2 ((try simp (disch := omega) only [go_sem, Nat.reduceBEq, Nat.reduceLT, ↓reduceIte, Nat.reduceAdd, Nat.reduceSub, Nat.reduceMul, Nat.reduceLeDiff, Nat.reduceEqDiff, reduceCtorEq, Int.reduceEq, Int.reduceLT, Int.reduceLE, Int.reduceNeg, Int.reduceToNat, Int.reduceAdd, Int.reduceSub, mC, h1, h2c, h3, h4, itemsPV_length, intsPV_length, itemsPV_sing, List.length_append, List.length_set, List.take_length]) <;> with_reducible exact rfl))) | (apply x_pure; (iterate 2 ((try simp (disch := omega) only [go_sem, Nat.reduceBEq, Nat.reduceLT, ↓reduceIte, Nat.reduceAdd, Nat.reduceSub, Nat.reduceMul, Nat.reduceLeDiff, Nat.reduceEqDiff, reduceCtorEq, Int.reduceEq, Int.reduceLT, Int.reduceLE, Int.reduceNeg, Int.reduceToNat, Int.reduceAdd, Int.reduceSub, mC, h1, h2c, h3, h4, itemsPV_length, intsPV_length, itemsPV_sing, List.length_append, List.length_set, List.take_length]) <;> with_reducible exact rfl)); exact ps104' m.mtch _ _ _ g1 (by omega) (by omega); (iterate 2 ((try simp (disch := omega) only [go_sem, Nat.reduceBEq, Nat.reduceLT, ↓reduceIte, Nat.reduceAdd, Nat.reduceSub, Nat.reduceMul, Nat.reduceLeDiff, Nat.reduceEqDiff, reduceCtorEq, Int.reduceEq, Int.reduceLT, Int.reduceLE, Int.reduceNeg, Int.reduceToNat, Int.reduceAdd, Int.reduceSub, mC, h1, h2c, h3, h4, itemsPV_length, intsPV_length, itemsPV_sing, List.length_append, List.length_set, List.take_length]) <;> with_reducible exact rfl))) | (apply x_pure; (iterate 2 ((try simp (disch := omega) only [go_sem, Nat.reduceBEq, Nat.reduceLT, ↓reduceIte, Nat.reduceAdd, Nat.reduceSub, Nat.reduceMul, Nat.reduceLeDiff, Nat.reduceEqDiff, reduceCtorEq, Int.reduceEq, Int.reduceLT, Int.reduceLE, Int.reduceNeg, Int.reduceToNat, Int.reduceAdd, Int.reduceSub, mC, h1, h2c, h3, h4, itemsPV_length, intsPV_length, itemsPV_sing, List.length_append, List.length_set, List.take_length]) <;> with_reducible exact rfl)); exact ps105 (withItem m d) ⟨false, f.b, false, false⟩ c2 c3 c4 c1; (iterate 2 ((try simp (disch := omega) only [go_sem, Nat.reduceBEq, Nat.reduceLT, ↓reduceIte, Nat.reduceAdd, Nat.reduceSub, Nat.reduceMul, Nat.reduceLeDiff, Nat.reduceEqDiff, reduceCtorEq, Int.reduceEq, Int.reduceLT, Int.reduceLE, Int.reduceNeg, Int.reduceToNat, Int.reduceAdd, Int.reduceSub, mC, h1, h2c, h3, h4, itemsPV_length, intsPV_length, itemsPV_sing, List.length_append, List.length_set, List.take_length]) <;> with_reducible exact rfl))) | ((first | apply x_split_cond | apply x_split_guard); all_goals (intro hb; (try simp only [Bool.not_eq_true', Bool.not_eq_false'] at hb); (simp (disch := omega) only [go_sem, Nat.reduceBEq, Nat.reduceLT, ↓reduceIte, Nat.reduceAdd, Nat.reduceSub, Nat.reduceMul, Nat.reduceLeDiff, Nat.reduceEqDiff, reduceCtorEq, Int.reduceEq, Int.reduceLT, Int.reduceLE, Int.reduceNeg, Int.reduceToNat, Int.reduceAdd, Int.reduceSub, mC, h1, h2c, h3, h4, itemsPV_length, intsPV_length, itemsPV_sing, List.length_append, List.length_set, List.take_length, hb]); (try simp only [decide_eq_true_eq, decide_eq_false_iff_not, beq_iff_eq, beq_eq_false_iff_ne, ne_eq, bne_iff_ne, bne_eq_false_iff_eq, Decidable.not_not] at hb))))
  (simp (disch := omega) only [go_sem, Nat.reduceBEq, Nat.reduceLT, ↓reduceIte, Nat.reduceAdd, Nat.reduceSub, Nat.reduceMul, Nat.reduceLeDiff, Nat.reduceEqDiff, reduceCtorEq, Int.reduceEq, Int.reduceLT, Int.reduceLE, Int.reduceNeg, Int.reduceToNat, Int.reduceAdd, Int.reduceSub, mC, proposed, withItem])

end Go.Dv.Try
