/-
  Specifications, part 10: the commit rule in the second text; lists with another element, longer logs.
-/
import Derived.Test.YtjnigloanggmmaaS9
set_option linter.unusedVariables false
set_option linter.unusedSimpArgs false
set_option maxRecDepth 100000
set_option maxHeartbeats 4000000
namespace Go.Dv.Try
open Go Go.Dv

/-- A member of zeros. -/
def zC : List PV := [.int .i64 0, .int .i64 0, .int .i64 0, .int .i64 0, .slice true [], .int .i64 0, .int .i64 0, .slice true [], .slice true [], .slice true []]

theorem l105a (m : M) (f : Fl) (x : Int) (hl : m.mtch.length ≤ 140737488355328) (K : Ex → St → Prop)
    (hx : K (.exit 2) ⟨[(1, .ptr 0 0), (2, .ptr 1 0), (3, .p (.int .i64 x)), (4, .p (.int .i64 (cnt m.mtch x)))], [(1, .var false (zC.map .p)), (0, .var false ((mC m f).map .p))], 2, [0]⟩) : ∀ (n i : Nat), i + n = m.mtch.length →
    W tb a105_l0 ⟨[(1, .ptr 0 0), (2, .ptr 1 0), (3, .p (.int .i64 x)), (4, .p (.int .i64 (cnt (m.mtch.take i) x))), (5, .p (.int .i64 i))], [(1, .var false (zC.map .p)), (0, .var false ((mC m f).map .p))], 2, [0]⟩ (LK tb (.ghost .lower a105_l0) K) := by
  intro n
  induction n with
  | zero =>
    intro i hi
    have h1 : ¬ (i : Int) < m.mtch.length := by omega
    refine i_code (by unfold a105_l0; exact rfl) ?_
    rw [List.take_of_length_le (by omega)]
    repeat' (first | (simp (disch := omega) only [go_sem, Nat.reduceBEq, Nat.reduceLT, ↓reduceIte, Nat.reduceAdd, Nat.reduceSub, Nat.reduceMul, Nat.reduceLeDiff, Nat.reduceEqDiff, reduceCtorEq, Int.reduceEq, Int.reduceLT, Int.reduceLE, Int.reduceNeg, Int.reduceToNat, Int.reduceAdd, Int.reduceSub, h1, intsPV_length, mC, zC]) | ((first | apply x_split_cond | apply x_split_guard); all_goals (intro hb; (try simp only [Bool.not_eq_true', Bool.not_eq_false'] at hb); (simp (disch := omega) only [go_sem, Nat.reduceBEq, Nat.reduceLT, ↓reduceIte, Nat.reduceAdd, Nat.reduceSub, Nat.reduceMul, Nat.reduceLeDiff, Nat.reduceEqDiff, reduceCtorEq, Int.reduceEq, Int.reduceLT, Int.reduceLE, Int.reduceNeg, Int.reduceToNat, Int.reduceAdd, Int.reduceSub, h1, intsPV_length, mC, zC, hb]); (try simp only [decide_eq_true_eq, decide_eq_false_iff_not, beq_iff_eq, beq_eq_false_iff_ne, ne_eq, bne_iff_ne, bne_eq_false_iff_eq, Decidable.not_not] at hb))))
    exact hx
  | succ n ih =>
    intro i hi
    have h1 : (i : Int) < m.mtch.length := by omega
    have h2 : i < m.mtch.length := by omega
    have h3 := intsPV_get m.mtch i h2
    have h4 : (0 : Int) ≤ i := by omega
    have h5 := cnt_step m.mtch x i h2
    have h6 := cnt_le (m.mtch.take i) x
    have h7 : (m.mtch.take i).length ≤ i := List.length_take_le ..
    refine i_code (by unfold a105_l0; exact rfl) ?_
    repeat' (first | (simp (disch := omega) only [go_sem, Nat.reduceBEq, Nat.reduceLT, ↓reduceIte, Nat.reduceAdd, Nat.reduceSub, Nat.reduceMul, Nat.reduceLeDiff, Nat.reduceEqDiff, reduceCtorEq, Int.reduceEq, Int.reduceLT, Int.reduceLE, Int.reduceNeg, Int.reduceToNat, Int.reduceAdd, Int.reduceSub, h1, h3, h4, intPV, intsPV_length, mC, zC]) | ((first | apply x_split_cond | apply x_split_guard); all_goals (intro hb; (try simp only [Bool.not_eq_true', Bool.not_eq_false'] at hb); (simp (disch := omega) only [go_sem, Nat.reduceBEq, Nat.reduceLT, ↓reduceIte, Nat.reduceAdd, Nat.reduceSub, Nat.reduceMul, Nat.reduceLeDiff, Nat.reduceEqDiff, reduceCtorEq, Int.reduceEq, Int.reduceLT, Int.reduceLE, Int.reduceNeg, Int.reduceToNat, Int.reduceAdd, Int.reduceSub, h1, h3, h4, intPV, intsPV_length, mC, zC, hb]); (try simp only [decide_eq_true_eq, decide_eq_false_iff_not, beq_iff_eq, beq_eq_false_iff_ne, ne_eq, bne_iff_ne, bne_eq_false_iff_eq, Decidable.not_not] at hb))))
    · refine i_lk (W_round ?_)
      (try simp (disch := omega) only [go_sem, Nat.reduceBEq, Nat.reduceLT, ↓reduceIte, Nat.reduceAdd, Nat.reduceSub, Nat.reduceMul, Nat.reduceLeDiff, Nat.reduceEqDiff, reduceCtorEq, Int.reduceEq, Int.reduceLT, Int.reduceLE, Int.reduceNeg, Int.reduceToNat, Int.reduceAdd, Int.reduceSub, mC, zC])
      rw [if_pos hb] at h5
      have := ih (i + 1) (by omega)
      rw [h5] at this
      exact this
    · refine i_lk (W_round ?_)
      (try simp (disch := omega) only [go_sem, Nat.reduceBEq, Nat.reduceLT, ↓reduceIte, Nat.reduceAdd, Nat.reduceSub, Nat.reduceMul, Nat.reduceLeDiff, Nat.reduceEqDiff, reduceCtorEq, Int.reduceEq, Int.reduceLT, Int.reduceLE, Int.reduceNeg, Int.reduceToNat, Int.reduceAdd, Int.reduceSub, mC, zC])
      rw [if_neg hb] at h5
      have := ih (i + 1) (by omega)
      rw [h5] at this
      exact this

theorem l105 (m : M) (f : Fl) (hl : m.log.length ≤ 140737488355328) (hq : m.mtch.length ≤ 140737488355328) (hm : m.members ≤ 9223372036854775807) (hc : 0 ≤ m.commit) (K : Ex → St → Prop)
    (hx : commOf m = m.commit → K (.exit 0) ⟨[(1, .ptr 0 0), (2, .ptr 1 0)], [(1, .var false (zC.map .p)), (0, .var false ((mC m f).map .p))], 2, [0]⟩)
    (hr : ∀ s c, aget s.env 2 = some (.ptr 1 0) → aget s.heap 1 = some (.var c ((mC { m with commit := commOf m } f).map .p)) → K .ret s) :
    ∀ (n : Nat), n ≤ m.log.length → comm m n = commOf m →
    W tb a105_l1 ⟨[(1, .ptr 0 0), (2, .ptr 1 0), (3, .p (.int .i64 n))], [(1, .var false (zC.map .p)), (0, .var false ((mC m f).map .p))], 2, [0]⟩ (LK tb (.ghost .lower a105_l1) K) := by
  intro n
  induction n with
  | zero =>
    intro hi he
    have h1 : ¬ m.commit < ((0 : Nat) : Int) := by omega
    refine i_code (by unfold a105_l1; exact rfl) ?_
    repeat' (first | (simp (disch := omega) only [go_sem, Nat.reduceBEq, Nat.reduceLT, ↓reduceIte, Nat.reduceAdd, Nat.reduceSub, Nat.reduceMul, Nat.reduceLeDiff, Nat.reduceEqDiff, reduceCtorEq, Int.reduceEq, Int.reduceLT, Int.reduceLE, Int.reduceNeg, Int.reduceToNat, Int.reduceAdd, Int.reduceSub, h1, intsPV_length, mC, zC]) | ((first | apply x_split_cond | apply x_split_guard); all_goals (intro hb; (try simp only [Bool.not_eq_true', Bool.not_eq_false'] at hb); (simp (disch := omega) only [go_sem, Nat.reduceBEq, Nat.reduceLT, ↓reduceIte, Nat.reduceAdd, Nat.reduceSub, Nat.reduceMul, Nat.reduceLeDiff, Nat.reduceEqDiff, reduceCtorEq, Int.reduceEq, Int.reduceLT, Int.reduceLE, Int.reduceNeg, Int.reduceToNat, Int.reduceAdd, Int.reduceSub, h1, intsPV_length, mC, zC, hb]); (try simp only [decide_eq_true_eq, decide_eq_false_iff_not, beq_iff_eq, beq_eq_false_iff_ne, ne_eq, bne_iff_ne, bne_eq_false_iff_eq, Decidable.not_not] at hb))))
    exact hx (he ▸ rfl)
  | succ n ih =>
    intro hi he
    refine i_code (by unfold a105_l1; exact rfl) ?_
    by_cases h1 : m.commit < ((n + 1 : Nat) : Int)
    · have h2 : n < m.log.length := by omega
      have h3 := itemsPV_get m.log n h2
      have h6 : ((n + 1 : Nat) : Int) - 1 = (n : Nat) := by omega
      have h7 : (0 : Int) ≤ (n : Nat) := by omega
      rw [comm, itTerm_eq _ _ h2] at he
      (try simp (disch := omega) only [go_sem, Nat.reduceBEq, Nat.reduceLT, ↓reduceIte, Nat.reduceAdd, Nat.reduceSub, Nat.reduceMul, Nat.reduceLeDiff, Nat.reduceEqDiff, reduceCtorEq, Int.reduceEq, Int.reduceLT, Int.reduceLE, Int.reduceNeg, Int.reduceToNat, Int.reduceAdd, Int.reduceSub, h1, h3, h6, h7, itemPV, itemsPV_length, mC, zC])
      refine W_round ?_
      (try simp (disch := omega) only [go_sem, Nat.reduceBEq, Nat.reduceLT, ↓reduceIte, Nat.reduceAdd, Nat.reduceSub, Nat.reduceMul, Nat.reduceLeDiff, Nat.reduceEqDiff, reduceCtorEq, Int.reduceEq, Int.reduceLT, Int.reduceLE, Int.reduceNeg, Int.reduceToNat, Int.reduceAdd, Int.reduceSub, mC, zC])
      refine l105a m f _ hq _ ?_ m.mtch.length 0 (by omega)
      repeat' (first | (simp (disch := omega) only [go_sem, Nat.reduceBEq, Nat.reduceLT, ↓reduceIte, Nat.reduceAdd, Nat.reduceSub, Nat.reduceMul, Nat.reduceLeDiff, Nat.reduceEqDiff, reduceCtorEq, Int.reduceEq, Int.reduceLT, Int.reduceLE, Int.reduceNeg, Int.reduceToNat, Int.reduceAdd, Int.reduceSub, h1, h3, h6, h7, itemPV, itemsPV_length, mC, zC]) | (apply x_pure; (iterate 2 ((try simp (disch := omega) only [go_sem, Nat.reduceBEq, Nat.reduceLT, ↓reduceIte, Nat.reduceAdd, Nat.reduceSub, Nat.reduceMul, Nat.reduceLeDiff, Nat.reduceEqDiff, reduceCtorEq, Int.reduceEq, Int.reduceLT, Int.reduceLE, Int.reduceNeg, Int.reduceToNat, Int.reduceAdd, Int.reduceSub, h1, h3, h6, h7, itemPV, itemsPV_length, mC, zC]) <;> with_reducible exact rfl)); exact ps26 _ hm; (iterate 2 ((try simp (disch := omega) only [go_sem, Nat.reduceBEq, Nat.reduceLT, ↓reduceIte, Nat.reduceAdd, Nat.reduceSub, Nat.reduceMul, Nat.reduceLeDiff, Nat.reduceEqDiff, reduceCtorEq, Int.reduceEq, Int.reduceLT, Int.reduceLE, Int.reduceNeg, Int.reduceToNat, Int.reduceAdd, Int.reduceSub, h1, h3, h6, h7, itemPV, itemsPV_length, mC, zC]) <;> with_reducible exact rfl))) | ((first | apply x_split_cond | apply x_split_guard); all_goals (intro hb; (try simp only [Bool.not_eq_true', Bool.not_eq_false'] at hb); (simp (disch := omega) only [go_sem, Nat.reduceBEq, Nat.reduceLT, ↓reduceIte, Nat.reduceAdd, Nat.reduceSub, Nat.reduceMul, Nat.reduceLeDiff, Nat.reduceEqDiff, reduceCtorEq, Int.reduceEq, Int.reduceLT, Int.reduceLE, Int.reduceNeg, Int.reduceToNat, Int.reduceAdd, Int.reduceSub, h1, h3, h6, h7, itemPV, itemsPV_length, mC, zC, hb]); (try simp only [decide_eq_true_eq, decide_eq_false_iff_not, beq_iff_eq, beq_eq_false_iff_ne, ne_eq, bne_iff_ne, bne_eq_false_iff_eq, Decidable.not_not] at hb))))
      · rename_i hb0
        rw [if_pos (by grind)] at he
        refine hr _ false rfl ?_
        rw [← he]; rfl
      · refine i_lk (W_round ?_)
        (try simp (disch := omega) only [go_sem, Nat.reduceBEq, Nat.reduceLT, ↓reduceIte, Nat.reduceAdd, Nat.reduceSub, Nat.reduceMul, Nat.reduceLeDiff, Nat.reduceEqDiff, reduceCtorEq, Int.reduceEq, Int.reduceLT, Int.reduceLE, Int.reduceNeg, Int.reduceToNat, Int.reduceAdd, Int.reduceSub, mC, zC])
        exact ih (by omega) (by rw [if_neg (by grind)] at he; exact he)
      · refine i_lk (W_round ?_)
        (try simp (disch := omega) only [go_sem, Nat.reduceBEq, Nat.reduceLT, ↓reduceIte, Nat.reduceAdd, Nat.reduceSub, Nat.reduceMul, Nat.reduceLeDiff, Nat.reduceEqDiff, reduceCtorEq, Int.reduceEq, Int.reduceLT, Int.reduceLE, Int.reduceNeg, Int.reduceToNat, Int.reduceAdd, Int.reduceSub, mC, zC])
        exact ih (by omega) (by rw [if_neg (by grind)] at he; exact he)
    · repeat' (first | (simp (disch := omega) only [go_sem, Nat.reduceBEq, Nat.reduceLT, ↓reduceIte, Nat.reduceAdd, Nat.reduceSub, Nat.reduceMul, Nat.reduceLeDiff, Nat.reduceEqDiff, reduceCtorEq, Int.reduceEq, Int.reduceLT, Int.reduceLE, Int.reduceNeg, Int.reduceToNat, Int.reduceAdd, Int.reduceSub, h1, intsPV_length, mC, zC]) | ((first | apply x_split_cond | apply x_split_guard); all_goals (intro hb; (try simp only [Bool.not_eq_true', Bool.not_eq_false'] at hb); (simp (disch := omega) only [go_sem, Nat.reduceBEq, Nat.reduceLT, ↓reduceIte, Nat.reduceAdd, Nat.reduceSub, Nat.reduceMul, Nat.reduceLeDiff, Nat.reduceEqDiff, reduceCtorEq, Int.reduceEq, Int.reduceLT, Int.reduceLE, Int.reduceNeg, Int.reduceToNat, Int.reduceAdd, Int.reduceSub, h1, intsPV_length, mC, zC, hb]); (try simp only [decide_eq_true_eq, decide_eq_false_iff_not, beq_iff_eq, beq_eq_false_iff_ne, ne_eq, bne_iff_ne, bne_eq_false_iff_eq, Decidable.not_not] at hb))))
      exact hx (by rw [← he, comm_low m _ (by omega)])

theorem ps105 (m : M) (f : Fl) (hl : m.log.length ≤ 140737488355328) (hq : m.mtch.length ≤ 140737488355328) (hm : m.members ≤ 9223372036854775807) (hc : 0 ≤ m.commit) : PS tb 105 [.agg (mC m f)] (.agg (mC { m with commit := commOf m } f)) := by
  refine PS_of (af := a105) rfl rfl ?_
  unfold a105
  dsimp only [List.map, ofPV, initEnv]
  repeat' (first | (simp (disch := omega) only [go_sem, Nat.reduceBEq, Nat.reduceLT, ↓reduceIte, Nat.reduceAdd, Nat.reduceSub, Nat.reduceMul, Nat.reduceLeDiff, Nat.reduceEqDiff, reduceCtorEq, Int.reduceEq, Int.reduceLT, Int.reduceLE, Int.reduceNeg, Int.reduceToNat, Int.reduceAdd, Int.reduceSub, mC, itemsPV_length]) | ((first | apply x_split_cond | apply x_split_guard); all_goals (intro hb; (try simp only [Bool.not_eq_true', Bool.not_eq_false'] at hb); (simp (disch := omega) only [go_sem, Nat.reduceBEq, Nat.reduceLT, ↓reduceIte, Nat.reduceAdd, Nat.reduceSub, Nat.reduceMul, Nat.reduceLeDiff, Nat.reduceEqDiff, reduceCtorEq, Int.reduceEq, Int.reduceLT, Int.reduceLE, Int.reduceNeg, Int.reduceToNat, Int.reduceAdd, Int.reduceSub, mC, itemsPV_length, hb]); (try simp only [decide_eq_true_eq, decide_eq_false_iff_not, beq_iff_eq, beq_eq_false_iff_ne, ne_eq, bne_iff_ne, bne_eq_false_iff_eq, Decidable.not_not] at hb))))
  refine W_round ?_
  (try simp (disch := omega) only [go_sem, Nat.reduceBEq, Nat.reduceLT, ↓reduceIte, Nat.reduceAdd, Nat.reduceSub, Nat.reduceMul, Nat.reduceLeDiff, Nat.reduceEqDiff, reduceCtorEq, Int.reduceEq, Int.reduceLT, Int.reduceLE, Int.reduceNeg, Int.reduceToNat, Int.reduceAdd, Int.reduceSub])
  refine l105 m f hl hq hm hc _ ?_ ?_ m.log.length (Nat.le_refl _) rfl
  · intro ha
    (try simp (disch := omega) only [go_sem, Nat.reduceBEq, Nat.reduceLT, ↓reduceIte, Nat.reduceAdd, Nat.reduceSub, Nat.reduceMul, Nat.reduceLeDiff, Nat.reduceEqDiff, reduceCtorEq, Int.reduceEq, Int.reduceLT, Int.reduceLE, Int.reduceNeg, Int.reduceToNat, Int.reduceAdd, Int.reduceSub, mC, zC])
    all_goals simp [pur, dep, mapO, mC, ha]
  · intro s c hs hh
    (try simp (disch := omega) only [go_sem, Nat.reduceBEq, Nat.reduceLT, ↓reduceIte, Nat.reduceAdd, Nat.reduceSub, Nat.reduceMul, Nat.reduceLeDiff, Nat.reduceEqDiff, reduceCtorEq, Int.reduceEq, Int.reduceLT, Int.reduceLE, Int.reduceNeg, Int.reduceToNat, Int.reduceAdd, Int.reduceSub, hs, hh, mC])
    all_goals simp [pur, dep, mapO, mC]

theorem itemsPV_append (a b : List (Int × ByteArray)) : itemsPV a ++ itemsPV b = itemsPV (a ++ b) := by simp [itemsPV]
theorem itemsPV_take (a : List (Int × ByteArray)) (n : Nat) : (itemsPV a).take n = itemsPV (a.take n) := by simp [itemsPV, List.map_take]
theorem itemsPV_drop (a : List (Int × ByteArray)) (n : Nat) : (itemsPV a).drop n = itemsPV (a.drop n) := by simp [itemsPV, List.map_drop]
theorem itemsPV_nil : itemsPV [] = [] := rfl
theorem itemsPV_isEmpty (a : List (Int × ByteArray)) : (itemsPV a).isEmpty = a.isEmpty := by cases a <;> rfl
theorem itemsPV_sz (a : List (Int × ByteArray)) : allSz 2 (itemsPV a) = true := by simp [allSz, itemsPV, itemPV]
theorem intsPV_append (a b : List Int) : intsPV a ++ intsPV b = intsPV (a ++ b) := by simp [intsPV]
theorem intsPV_take (a : List Int) (n : Nat) : (intsPV a).take n = intsPV (a.take n) := by simp [intsPV, List.map_take]
theorem intsPV_drop (a : List Int) (n : Nat) : (intsPV a).drop n = intsPV (a.drop n) := by simp [intsPV, List.map_drop]
theorem intsPV_nil : intsPV [] = [] := rfl
theorem intsPV_isEmpty (a : List Int) : (intsPV a).isEmpty = a.isEmpty := by cases a <;> rfl
theorem intsPV_sz (a : List Int) : allSz 1 (intsPV a) = true := by simp [allSz, intsPV, intPV]
theorem maxB (n : Nat) (h : n ≤ 140737488355328) : (n ≤ maxBytes) = True := by simp [maxBytes, h]

theorem takeApp {α : Type} (a b : List α) : (a ++ b).take (a.length + b.length) = a ++ b := List.take_of_length_le (by simp)

theorem ps103 (l more : List (Int × ByteArray)) (b c : Bool) (n : Nat) (hn : n ≤ l.length) (hl : l.length ≤ 100000) (hm : more.length ≤ 100000) :
    PS tb 103 [.slice b (itemsPV l), .int .i64 n, .slice c (itemsPV more)] (.slice false (itemsPV (l.take n ++ more))) := by
  have h0 : (0 : Int) ≤ n := by omega
  have h1 : (n : Int) ≤ l.length := by omega
  have h2 : (l.take n).length ≤ 100000 := by simp; omega
  refine PS_of (af := a103) rfl rfl ?_
  unfold a103
  dsimp only [List.map, ofPV, initEnv]
  (try simp (disch := omega) only [go_sem, Nat.reduceBEq, Nat.reduceLT, ↓reduceIte, Nat.reduceAdd, Nat.reduceSub, Nat.reduceMul, Nat.reduceLeDiff, Nat.reduceEqDiff, reduceCtorEq, Int.reduceEq, Int.reduceLT, Int.reduceLE, Int.reduceNeg, Int.reduceToNat, Int.reduceAdd, Int.reduceSub, itemsPV_sz, itemsPV_length, itemsPV_take, itemsPV_drop, itemsPV_append, itemsPV_nil, h0, h1, maxB, List.length_append, takeApp])

end Go.Dv.Try
