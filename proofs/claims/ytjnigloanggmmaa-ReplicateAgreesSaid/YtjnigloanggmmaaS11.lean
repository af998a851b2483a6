/-
  Specifications, part 11: lists with another element; copies of a member.
-/
import Derived.Test.YtjnigloanggmmaaS10
set_option linter.unusedVariables false
set_option linter.unusedSimpArgs false
set_option maxRecDepth 100000
set_option maxHeartbeats 4000000
namespace Go.Dv.Try
open Go Go.Dv

theorem intsPV_sing (n : Int) : [[PV.int .i64 n]] = intsPV [n] := rfl
theorem intsPV_set (l : List Int) (i : Nat) (n : Int) : (intsPV l).set i [.int .i64 n] = intsPV (l.set i n) := by simp [intsPV, List.map_set, intPV]
theorem itemsPV_sing (n : Int) (d : ByteArray) : [[PV.int .i64 n, PV.str d]] = itemsPV [(n, d)] := rfl

theorem ps104 (l : List Int) (b : Bool) (i : Nat) (n : Int) (hi : i < l.length) (hl : l.length ≤ 100000) :
    PS tb 104 [.slice b (intsPV l), .int .i64 i, .int .i64 n] (.slice false (intsPV (l.set i n))) := by
  have h0 : (0 : Int) ≤ i := by omega
  have h1 : (i : Int) ≤ l.length := by omega
  have h2 : (l.take i).length ≤ 100000 := by simp; omega
  have h3 : (0 : Int) ≤ (i + 1 : Nat) := by omega
  have h4 : ((i + 1 : Nat) : Int) ≤ l.length := by omega
  have h5 : (l.drop (i + 1)).length ≤ 100000 := by simp; omega
  have h6 : (l.take i).length + ((l.drop (i + 1)).length + 1) ≤ 100000 := by simp; omega
  have he : l.set i n = l.take i ++ n :: l.drop (i + 1) := List.set_eq_take_append_cons_drop.trans (if_pos hi)
  have h7 : List.take l.length l = l := List.take_of_length_le (Nat.le_refl _)
  have t0 : (l.take i ++ ([n] ++ l.drop (i + 1))).take ((l.take i).length + 1 + (l.drop (i + 1)).length) = l.take i ++ ([n] ++ l.drop (i + 1)) := List.take_of_length_le (by simp; omega)
  refine PS_of (af := a104) rfl rfl ?_
  unfold a104
  dsimp only [List.map, ofPV, initEnv]
  rw [he]
  (try simp (disch := omega) only [go_sem, Nat.reduceBEq, Nat.reduceLT, ↓reduceIte, Nat.reduceAdd, Nat.reduceSub, Nat.reduceMul, Nat.reduceLeDiff, Nat.reduceEqDiff, reduceCtorEq, Int.reduceEq, Int.reduceLT, Int.reduceLE, Int.reduceNeg, Int.reduceToNat, Int.reduceAdd, Int.reduceSub, intsPV_sing, intsPV_sz, intsPV_length, intsPV_take, intsPV_drop, intsPV_append, intsPV_nil, List.append_assoc, List.length_append, h0, h1, h3, h4, h7, maxB])
  rw [if_pos (by omega)]
  simp only [List.cons_append, List.nil_append] at t0
  rw [t0]

theorem BS_out {T : Tab} {f : FuncId} {l : List DV} {H : Heap} {nx : Nat} {r : DV} {H' : Heap} {nx' : Nat} (h : T.A f = none) (hx : T.X.byref f l H nx = some (r, H', nx')) : BS T f l H nx r H' nx' := ⟨0, by simp only [cfs, h, hx]⟩

theorem bs97 (l : List (Int × ByteArray)) (b : Bool) (H : Heap) (nx : Nat) (h : l.length ≤ 100000) : BS tb 97 [.p (.slice b (itemsPV l))] H nx (.ref nx l.length 0 l.length) ((nx, .row false 2 (itemsPV l)) :: H) (nx + 1) := by
  refine BS_out (show tab 97 = none from rfl) ?_
  show outside.byref 97 _ _ _ = _
  simp [outside, cloneOf, itemsPV_sz, itemsPV_length, maxBytes]
  omega
theorem bs129 (l : List Int) (b : Bool) (H : Heap) (nx : Nat) (h : l.length ≤ 100000) : BS tb 129 [.p (.slice b (intsPV l))] H nx (.ref nx l.length 0 l.length) ((nx, .row false 1 (intsPV l)) :: H) (nx + 1) := by
  refine BS_out (show tab 129 = none from rfl) ?_
  show outside.byref 129 _ _ _ = _
  simp [outside, cloneOf, intsPV_sz, intsPV_length, maxBytes]
  omega

/-- A copied member's cells; its rows begin at a number. -/
def rC (m : M) (k : Nat) : List DV := [.p (.int .i64 m.id), .p (.int .i64 m.members), .p (.int .i64 m.term), .p (.int .i64 m.vote), .ref (k + 2) m.log.length 0 m.log.length, .p (.int .i64 m.role), .p (.int .i64 m.commit),
  .ref (k + 3) m.votes.length 0 m.votes.length, .ref (k + 4) m.next.length 0 m.next.length, .ref (k + 5) m.mtch.length 0 m.mtch.length]

theorem beqA (a b n : Nat) : (n + a == n + b) = (a == b) := by
  cases h : (a == b)
  · have : a ≠ b := by intro e; subst e; simp at h
    exact beq_false_of_ne (by omega)
  · have := eq_of_beq h; subst this; exact beq_self_eq_true _
theorem beqB (a n : Nat) : (n + (a + 1) == n) = false := beq_false_of_ne (by omega)
theorem beqC (a n : Nat) : (n == n + (a + 1)) = false := beq_false_of_ne (by omega)
theorem freshA {H : Heap} {n : Nat} (h : ∀ j, n ≤ j → aget H j = none) (k : Nat) : aget H (n + k) = none := h _ (by omega)
theorem freshB {H : Heap} {n : Nat} (h : ∀ j, n ≤ j → aget H j = none) : aget H n = none := h _ (by omega)

theorem bs101 (m : M) (f : Fl) (H : Heap) (nx : Nat) (hf : ∀ j, nx ≤ j → aget H j = none) (h1 : m.log.length ≤ 100000) (h2 : m.votes.length ≤ 100000) (h3 : m.next.length ≤ 100000) (h4 : m.mtch.length ≤ 100000) :
    BS tb 101 [.agg ((mC m f).map .p)] H nx (.agg (rC m nx)) ((nx + 5, .row false 1 (intsPV m.mtch)) :: (nx + 4, .row false 1 (intsPV m.next)) :: (nx + 3, .row false 1 (intsPV m.votes)) :: (nx + 2, .row false 2 (itemsPV m.log)) ::
      (nx + 1, .var false (rC m nx)) :: (nx, .var false (rC m nx)) :: H) (nx + 6) := by
  have e0 := freshB hf
  have e1 := freshA hf 1
  have q1 : (nx == nx + 1) = false := beqC 0 nx
  have q2 : (nx + 1 == nx) = false := beqB 0 nx
  have q3 : (nx + 2 == nx) = false := beqB 1 nx
  have q4 : (nx + 3 == nx) = false := beqB 2 nx
  have q5 : (nx + 4 == nx) = false := beqB 3 nx
  have q6 : (nx + 5 == nx) = false := beqB 4 nx
  refine BS_of (af := a101) rfl rfl ?_
  unfold a101
  dsimp only [List.map, ofPV, initEnv]
  repeat' (first | (simp (disch := omega) only [go_sem, Nat.reduceBEq, Nat.reduceLT, ↓reduceIte, Nat.reduceAdd, Nat.reduceSub, Nat.reduceMul, Nat.reduceLeDiff, Nat.reduceEqDiff, reduceCtorEq, Int.reduceEq, Int.reduceLT, Int.reduceLE, Int.reduceNeg, Int.reduceToNat, Int.reduceAdd, Int.reduceSub, mC, e0, e1, beqA, q1, q2, q3, q4, q5, q6, Nat.add_assoc]) | (apply x_byref; ((try simp (disch := omega) only [go_sem, Nat.reduceBEq, Nat.reduceLT, ↓reduceIte, Nat.reduceAdd, Nat.reduceSub, Nat.reduceMul, Nat.reduceLeDiff, Nat.reduceEqDiff, reduceCtorEq, Int.reduceEq, Int.reduceLT, Int.reduceLE, Int.reduceNeg, Int.reduceToNat, Int.reduceAdd, Int.reduceSub, mC, e0, e1, beqA, q1, q2, q3, q4, q5, q6, Nat.add_assoc]) <;> with_reducible exact rfl); exact bs97 _ _ _ _ h1; ((try simp (disch := omega) only [go_sem, Nat.reduceBEq, Nat.reduceLT, ↓reduceIte, Nat.reduceAdd, Nat.reduceSub, Nat.reduceMul, Nat.reduceLeDiff, Nat.reduceEqDiff, reduceCtorEq, Int.reduceEq, Int.reduceLT, Int.reduceLE, Int.reduceNeg, Int.reduceToNat, Int.reduceAdd, Int.reduceSub, mC, e0, e1, beqA, q1, q2, q3, q4, q5, q6, Nat.add_assoc]) <;> with_reducible exact rfl)) | (apply x_byref; ((try simp (disch := omega) only [go_sem, Nat.reduceBEq, Nat.reduceLT, ↓reduceIte, Nat.reduceAdd, Nat.reduceSub, Nat.reduceMul, Nat.reduceLeDiff, Nat.reduceEqDiff, reduceCtorEq, Int.reduceEq, Int.reduceLT, Int.reduceLE, Int.reduceNeg, Int.reduceToNat, Int.reduceAdd, Int.reduceSub, mC, e0, e1, beqA, q1, q2, q3, q4, q5, q6, Nat.add_assoc]) <;> with_reducible exact rfl); exact bs129 _ _ _ _ (by assumption); ((try simp (disch := omega) only [go_sem, Nat.reduceBEq, Nat.reduceLT, ↓reduceIte, Nat.reduceAdd, Nat.reduceSub, Nat.reduceMul, Nat.reduceLeDiff, Nat.reduceEqDiff, reduceCtorEq, Int.reduceEq, Int.reduceLT, Int.reduceLE, Int.reduceNeg, Int.reduceToNat, Int.reduceAdd, Int.reduceSub, mC, e0, e1, beqA, q1, q2, q3, q4, q5, q6, Nat.add_assoc]) <;> with_reducible exact rfl)) | ((first | apply x_split_cond | apply x_split_guard); all_goals (intro hb; (try simp only [Bool.not_eq_true', Bool.not_eq_false'] at hb); (simp (disch := omega) only [go_sem, Nat.reduceBEq, Nat.reduceLT, ↓reduceIte, Nat.reduceAdd, Nat.reduceSub, Nat.reduceMul, Nat.reduceLeDiff, Nat.reduceEqDiff, reduceCtorEq, Int.reduceEq, Int.reduceLT, Int.reduceLE, Int.reduceNeg, Int.reduceToNat, Int.reduceAdd, Int.reduceSub, mC, e0, e1, beqA, q1, q2, q3, q4, q5, q6, Nat.add_assoc, hb]); (try simp only [decide_eq_true_eq, decide_eq_false_iff_not, beq_iff_eq, beq_eq_false_iff_ne, ne_eq, bne_iff_ne, bne_eq_false_iff_eq, Decidable.not_not] at hb))))
  simp [rC]

end Go.Dv.Try
