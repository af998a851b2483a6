/-
  Specifications, part 14: terms of items, messages of a leader, equal messages.
-/
import Derived.Test.YtjnigloanggmmaaS13
set_option linter.unusedVariables false
set_option linter.unusedSimpArgs false
set_option maxRecDepth 100000
set_option maxHeartbeats 4000000
namespace Go.Dv.Try
open Go Go.Dv

def termN (l : List (Int × ByteArray)) (n : Int) : Int := if n = 0 then 0 else itTerm l (n - 1).toNat

theorem itemsPV_getT (l : List (Int × ByteArray)) (i : Nat) (h : i < l.length) : ∃ s, (itemsPV l)[i]? = some [.int .i64 (itTerm l i), .str s] := by
  rw [itemsPV_get l i h, itTerm_eq l i h]
  exact ⟨l[i].2, rfl⟩

theorem ps106 (m : M) (f : Fl) (n : Int) (h0 : 0 ≤ n) (h1 : n ≤ m.log.length) (hl : m.log.length ≤ 100000) : PS tb 106 [.agg (mC m f), .int .i64 n] (.int .i64 (termN m.log n)) := by
  refine PS_of (af := a106) rfl rfl ?_
  unfold a106
  dsimp only [List.map, ofPV, initEnv]
  by_cases h : n = 0
  · subst h
    repeat' (first | (simp (disch := omega) only [go_sem, Nat.reduceBEq, Nat.reduceLT, ↓reduceIte, Nat.reduceAdd, Nat.reduceSub, Nat.reduceMul, Nat.reduceLeDiff, Nat.reduceEqDiff, reduceCtorEq, Int.reduceEq, Int.reduceLT, Int.reduceLE, Int.reduceNeg, Int.reduceToNat, Int.reduceAdd, Int.reduceSub, mC]) | ((first | apply x_split_cond | apply x_split_guard); all_goals (intro hb; (try simp only [Bool.not_eq_true', Bool.not_eq_false'] at hb); (simp (disch := omega) only [go_sem, Nat.reduceBEq, Nat.reduceLT, ↓reduceIte, Nat.reduceAdd, Nat.reduceSub, Nat.reduceMul, Nat.reduceLeDiff, Nat.reduceEqDiff, reduceCtorEq, Int.reduceEq, Int.reduceLT, Int.reduceLE, Int.reduceNeg, Int.reduceToNat, Int.reduceAdd, Int.reduceSub, mC, hb]); (try simp only [decide_eq_true_eq, decide_eq_false_iff_not, beq_iff_eq, beq_eq_false_iff_ne, ne_eq, bne_iff_ne, bne_eq_false_iff_eq, Decidable.not_not] at hb))))
    all_goals rfl
  · have e1 : (0 : Int) ≤ n - 1 := by omega
    have e2 : (n == 0) = false := by simpa using h
    obtain ⟨s, e3⟩ := itemsPV_getT m.log (n - 1).toNat (by omega)
    have e4 : termN m.log n = itTerm m.log (n - 1).toNat := if_neg h
    repeat' (first | (simp (disch := omega) only [go_sem, Nat.reduceBEq, Nat.reduceLT, ↓reduceIte, Nat.reduceAdd, Nat.reduceSub, Nat.reduceMul, Nat.reduceLeDiff, Nat.reduceEqDiff, reduceCtorEq, Int.reduceEq, Int.reduceLT, Int.reduceLE, Int.reduceNeg, Int.reduceToNat, Int.reduceAdd, Int.reduceSub, mC, e1, e2, e3, e4]) | ((first | apply x_split_cond | apply x_split_guard); all_goals (intro hb; (try simp only [Bool.not_eq_true', Bool.not_eq_false'] at hb); (simp (disch := omega) only [go_sem, Nat.reduceBEq, Nat.reduceLT, ↓reduceIte, Nat.reduceAdd, Nat.reduceSub, Nat.reduceMul, Nat.reduceLeDiff, Nat.reduceEqDiff, reduceCtorEq, Int.reduceEq, Int.reduceLT, Int.reduceLE, Int.reduceNeg, Int.reduceToNat, Int.reduceAdd, Int.reduceSub, mC, e1, e2, e3, e4, hb]); (try simp only [decide_eq_true_eq, decide_eq_false_iff_not, beq_iff_eq, beq_eq_false_iff_ne, ne_eq, bne_iff_ne, bne_eq_false_iff_eq, Decidable.not_not] at hb))))
    all_goals rfl

theorem ps107 (l : List (Int × ByteArray)) (b : Bool) (n : Int) (h0 : 0 ≤ n) (h1 : n ≤ l.length) (hl : l.length ≤ 100000) : PS tb 107 [.slice b (itemsPV l), .int .i64 n] (.int .i64 (termN l n)) := by
  refine PS_of (af := a107) rfl rfl ?_
  unfold a107
  dsimp only [List.map, ofPV, initEnv]
  by_cases h : n = 0
  · subst h
    repeat' (first | (simp (disch := omega) only [go_sem, Nat.reduceBEq, Nat.reduceLT, ↓reduceIte, Nat.reduceAdd, Nat.reduceSub, Nat.reduceMul, Nat.reduceLeDiff, Nat.reduceEqDiff, reduceCtorEq, Int.reduceEq, Int.reduceLT, Int.reduceLE, Int.reduceNeg, Int.reduceToNat, Int.reduceAdd, Int.reduceSub, mC]) | ((first | apply x_split_cond | apply x_split_guard); all_goals (intro hb; (try simp only [Bool.not_eq_true', Bool.not_eq_false'] at hb); (simp (disch := omega) only [go_sem, Nat.reduceBEq, Nat.reduceLT, ↓reduceIte, Nat.reduceAdd, Nat.reduceSub, Nat.reduceMul, Nat.reduceLeDiff, Nat.reduceEqDiff, reduceCtorEq, Int.reduceEq, Int.reduceLT, Int.reduceLE, Int.reduceNeg, Int.reduceToNat, Int.reduceAdd, Int.reduceSub, mC, hb]); (try simp only [decide_eq_true_eq, decide_eq_false_iff_not, beq_iff_eq, beq_eq_false_iff_ne, ne_eq, bne_iff_ne, bne_eq_false_iff_eq, Decidable.not_not] at hb))))
    all_goals rfl
  · have e1 : (0 : Int) ≤ n - 1 := by omega
    have e2 : (n == 0) = false := by simpa using h
    obtain ⟨s, e3⟩ := itemsPV_getT l (n - 1).toNat (by omega)
    have e4 : termN l n = itTerm l (n - 1).toNat := if_neg h
    repeat' (first | (simp (disch := omega) only [go_sem, Nat.reduceBEq, Nat.reduceLT, ↓reduceIte, Nat.reduceAdd, Nat.reduceSub, Nat.reduceMul, Nat.reduceLeDiff, Nat.reduceEqDiff, reduceCtorEq, Int.reduceEq, Int.reduceLT, Int.reduceLE, Int.reduceNeg, Int.reduceToNat, Int.reduceAdd, Int.reduceSub, mC, e1, e2, e3, e4]) | ((first | apply x_split_cond | apply x_split_guard); all_goals (intro hb; (try simp only [Bool.not_eq_true', Bool.not_eq_false'] at hb); (simp (disch := omega) only [go_sem, Nat.reduceBEq, Nat.reduceLT, ↓reduceIte, Nat.reduceAdd, Nat.reduceSub, Nat.reduceMul, Nat.reduceLeDiff, Nat.reduceEqDiff, reduceCtorEq, Int.reduceEq, Int.reduceLT, Int.reduceLE, Int.reduceNeg, Int.reduceToNat, Int.reduceAdd, Int.reduceSub, mC, e1, e2, e3, e4, hb]); (try simp only [decide_eq_true_eq, decide_eq_false_iff_not, beq_iff_eq, beq_eq_false_iff_ne, ne_eq, bne_iff_ne, bne_eq_false_iff_eq, Decidable.not_not] at hb))))
    all_goals rfl

theorem PS_out {T : Tab} {f : FuncId} {l : List PV} {r : PV} (h : T.A f = none) (hx : T.X.pure f l = some r) : PS T f l r := ⟨0, by simp only [cfs, h, hx]⟩
theorem ps97 (l : List (Int × ByteArray)) (b : Bool) (h : l.length ≤ 100000) : PS tb 97 [.slice b (itemsPV l)] (.slice false (itemsPV l)) := by
  refine PS_out (show tab 97 = none from rfl) ?_
  show outside.pure 97 _ = _
  simp [outside, cloneOf, itemsPV_sz, itemsPV_length, maxBytes]
  omega
theorem ps129 (l : List Int) (b : Bool) (h : l.length ≤ 100000) : PS tb 129 [.slice b (intsPV l)] (.slice false (intsPV l)) := by
  refine PS_out (show tab 129 = none from rfl) ?_
  show outside.pure 129 _ = _
  simp [outside, cloneOf, intsPV_sz, intsPV_length, maxBytes]
  omega

/-! ### messages -/

def msgPV (x : X) : List PV := xC x false
def msgsPV (l : List X) : List (List PV) := l.map msgPV
theorem msgsPV_length (l : List X) : (msgsPV l).length = l.length := by simp [msgsPV]
theorem msgsPV_sz (l : List X) : allSz 9 (msgsPV l) = true := by simp [allSz, msgsPV, msgPV, xC]
theorem msgsPV_get (l : List X) (i : Nat) (h : i < l.length) : (msgsPV l)[i]? = some (msgPV l[i]) := by simp [msgsPV, h]
theorem msgsPV_append (a b : List X) : msgsPV a ++ msgsPV b = msgsPV (a ++ b) := by simp [msgsPV]
theorem msgsPV_take (a : List X) (n : Nat) : (msgsPV a).take n = msgsPV (a.take n) := by simp [msgsPV, List.map_take]
theorem msgsPV_sing (a b c d e f g : Int) (o : Bool) (l : List (Int × ByteArray)) : [[PV.int .i64 a, .int .i64 b, .int .i64 c, .int .i64 d, .int .i64 e, .int .i64 f, .int .i64 g, .bool o, .slice false (itemsPV l)]] = msgsPV [⟨a, b, c, d, e, f, g, o, l⟩] := rfl

theorem l87 (x : X) (p q : Bool) (hl : x.items.length ≤ 140737488355328) (K : Ex → St → Prop)
    (hx : K (.exit 0) ⟨[], [], 0, [0]⟩) : ∀ (n i : Nat), i + n = x.items.length →
    W tb a87_l0 ⟨[(2, .ptr 0 0), (3, .ptr 1 0), (5, .p (.int .i64 i))], [(1, .var false ((xC x q).map .p)), (0, .var false ((xC x p).map .p))], 2, [0]⟩ (LK tb (.ghost .lower a87_l0) K) := by
  intro n
  induction n with
  | zero =>
    intro i hi
    have h1 : ¬ (i : Int) < x.items.length := by omega
    refine i_code (by unfold a87_l0; exact rfl) ?_
    repeat' (first | (simp (disch := omega) only [go_sem, Nat.reduceBEq, Nat.reduceLT, ↓reduceIte, Nat.reduceAdd, Nat.reduceSub, Nat.reduceMul, Nat.reduceLeDiff, Nat.reduceEqDiff, reduceCtorEq, Int.reduceEq, Int.reduceLT, Int.reduceLE, Int.reduceNeg, Int.reduceToNat, Int.reduceAdd, Int.reduceSub, h1, xC, itemsPV_length]) | ((first | apply x_split_cond | apply x_split_guard); all_goals (intro hb; (try simp only [Bool.not_eq_true', Bool.not_eq_false'] at hb); (simp (disch := omega) only [go_sem, Nat.reduceBEq, Nat.reduceLT, ↓reduceIte, Nat.reduceAdd, Nat.reduceSub, Nat.reduceMul, Nat.reduceLeDiff, Nat.reduceEqDiff, reduceCtorEq, Int.reduceEq, Int.reduceLT, Int.reduceLE, Int.reduceNeg, Int.reduceToNat, Int.reduceAdd, Int.reduceSub, h1, xC, itemsPV_length, hb]); (try simp only [decide_eq_true_eq, decide_eq_false_iff_not, beq_iff_eq, beq_eq_false_iff_ne, ne_eq, bne_iff_ne, bne_eq_false_iff_eq, Decidable.not_not] at hb))))
    exact hx
  | succ n ih =>
    intro i hi
    have h1 : (i : Int) < x.items.length := by omega
    have h2 : i < x.items.length := by omega
    have h3 := itemsPV_get x.items i h2
    have h4 : (0 : Int) ≤ i := by omega
    refine i_code (by unfold a87_l0; exact rfl) ?_
    repeat' (first | (simp (disch := omega) only [go_sem, Nat.reduceBEq, Nat.reduceLT, ↓reduceIte, Nat.reduceAdd, Nat.reduceSub, Nat.reduceMul, Nat.reduceLeDiff, Nat.reduceEqDiff, reduceCtorEq, Int.reduceEq, Int.reduceLT, Int.reduceLE, Int.reduceNeg, Int.reduceToNat, Int.reduceAdd, Int.reduceSub, h1, h3, h4, xC, itemPV, itemsPV_length]) | ((first | apply x_split_cond | apply x_split_guard); all_goals (intro hb; (try simp only [Bool.not_eq_true', Bool.not_eq_false'] at hb); (simp (disch := omega) only [go_sem, Nat.reduceBEq, Nat.reduceLT, ↓reduceIte, Nat.reduceAdd, Nat.reduceSub, Nat.reduceMul, Nat.reduceLeDiff, Nat.reduceEqDiff, reduceCtorEq, Int.reduceEq, Int.reduceLT, Int.reduceLE, Int.reduceNeg, Int.reduceToNat, Int.reduceAdd, Int.reduceSub, h1, h3, h4, xC, itemPV, itemsPV_length, hb]); (try simp only [decide_eq_true_eq, decide_eq_false_iff_not, beq_iff_eq, beq_eq_false_iff_ne, ne_eq, bne_iff_ne, bne_eq_false_iff_eq, Decidable.not_not] at hb))))
    refine i_lk (W_round ?_)
    (try simp (disch := omega) only [go_sem, Nat.reduceBEq, Nat.reduceLT, ↓reduceIte, Nat.reduceAdd, Nat.reduceSub, Nat.reduceMul, Nat.reduceLeDiff, Nat.reduceEqDiff, reduceCtorEq, Int.reduceEq, Int.reduceLT, Int.reduceLE, Int.reduceNeg, Int.reduceToNat, Int.reduceAdd, Int.reduceSub, xC])
    exact ih (i + 1) (by omega)

theorem ps87 (x : X) (p q : Bool) (hl : x.items.length ≤ 140737488355328) : PS tb 87 [.agg (xC x p), .agg (xC x q)] (.bool true) := by
  refine PS_of (af := a87) rfl rfl ?_
  unfold a87
  dsimp only [List.map, ofPV, initEnv]
  repeat' (first | (simp (disch := omega) only [go_sem, Nat.reduceBEq, Nat.reduceLT, ↓reduceIte, Nat.reduceAdd, Nat.reduceSub, Nat.reduceMul, Nat.reduceLeDiff, Nat.reduceEqDiff, reduceCtorEq, Int.reduceEq, Int.reduceLT, Int.reduceLE, Int.reduceNeg, Int.reduceToNat, Int.reduceAdd, Int.reduceSub, xC, itemsPV_length]) | ((first | apply x_split_cond | apply x_split_guard); all_goals (intro hb; (try simp only [Bool.not_eq_true', Bool.not_eq_false'] at hb); (simp (disch := omega) only [go_sem, Nat.reduceBEq, Nat.reduceLT, ↓reduceIte, Nat.reduceAdd, Nat.reduceSub, Nat.reduceMul, Nat.reduceLeDiff, Nat.reduceEqDiff, reduceCtorEq, Int.reduceEq, Int.reduceLT, Int.reduceLE, Int.reduceNeg, Int.reduceToNat, Int.reduceAdd, Int.reduceSub, xC, itemsPV_length, hb]); (try simp only [decide_eq_true_eq, decide_eq_false_iff_not, beq_iff_eq, beq_eq_false_iff_ne, ne_eq, bne_iff_ne, bne_eq_false_iff_eq, Decidable.not_not] at hb))))
  refine W_round ?_
  (try simp (disch := omega) only [go_sem, Nat.reduceBEq, Nat.reduceLT, ↓reduceIte, Nat.reduceAdd, Nat.reduceSub, Nat.reduceMul, Nat.reduceLeDiff, Nat.reduceEqDiff, reduceCtorEq, Int.reduceEq, Int.reduceLT, Int.reduceLE, Int.reduceNeg, Int.reduceToNat, Int.reduceAdd, Int.reduceSub, xC])
  refine l87 x p q hl _ ?_ x.items.length 0 (by omega)
  (try simp (disch := omega) only [go_sem, Nat.reduceBEq, Nat.reduceLT, ↓reduceIte, Nat.reduceAdd, Nat.reduceSub, Nat.reduceMul, Nat.reduceLeDiff, Nat.reduceEqDiff, reduceCtorEq, Int.reduceEq, Int.reduceLT, Int.reduceLE, Int.reduceNeg, Int.reduceToNat, Int.reduceAdd, Int.reduceSub])
  all_goals simp [pur, dep]

theorem l49 (l : List X) (b c : Bool) (hl : l.length ≤ 140737488355328) (hi : ∀ x ∈ l, x.items.length ≤ 140737488355328) (K : Ex → St → Prop)
    (hx : K (.exit 0) ⟨[], [], 0, [0]⟩) : ∀ (n i : Nat), i + n = l.length →
    W tb a49_l0 ⟨[(0, .p (.slice b (msgsPV l))), (1, .p (.slice c (msgsPV l))), (5, .p (.int .i64 i))], [], 0, [0]⟩ (LK tb (.ghost .lower a49_l0) K) := by
  intro n
  induction n with
  | zero =>
    intro i hi
    have h1 : ¬ (i : Int) < l.length := by omega
    refine i_code (by unfold a49_l0; exact rfl) ?_
    repeat' (first | (simp (disch := omega) only [go_sem, Nat.reduceBEq, Nat.reduceLT, ↓reduceIte, Nat.reduceAdd, Nat.reduceSub, Nat.reduceMul, Nat.reduceLeDiff, Nat.reduceEqDiff, reduceCtorEq, Int.reduceEq, Int.reduceLT, Int.reduceLE, Int.reduceNeg, Int.reduceToNat, Int.reduceAdd, Int.reduceSub, h1, msgsPV_length]) | ((first | apply x_split_cond | apply x_split_guard); all_goals (intro hb; (try simp only [Bool.not_eq_true', Bool.not_eq_false'] at hb); (simp (disch := omega) only [go_sem, Nat.reduceBEq, Nat.reduceLT, ↓reduceIte, Nat.reduceAdd, Nat.reduceSub, Nat.reduceMul, Nat.reduceLeDiff, Nat.reduceEqDiff, reduceCtorEq, Int.reduceEq, Int.reduceLT, Int.reduceLE, Int.reduceNeg, Int.reduceToNat, Int.reduceAdd, Int.reduceSub, h1, msgsPV_length, hb]); (try simp only [decide_eq_true_eq, decide_eq_false_iff_not, beq_iff_eq, beq_eq_false_iff_ne, ne_eq, bne_iff_ne, bne_eq_false_iff_eq, Decidable.not_not] at hb))))
    exact hx
  | succ n ih =>
    intro i hn
    have h1 : (i : Int) < l.length := by omega
    have h2 : i < l.length := by omega
    have h3 := msgsPV_get l i h2
    have h4 : (0 : Int) ≤ i := by omega
    have h5 := hi _ (List.getElem_mem h2)
    refine i_code (by unfold a49_l0; exact rfl) ?_
    repeat' (first | (simp (disch := omega) only [go_sem, Nat.reduceBEq, Nat.reduceLT, ↓reduceIte, Nat.reduceAdd, Nat.reduceSub, Nat.reduceMul, Nat.reduceLeDiff, Nat.reduceEqDiff, reduceCtorEq, Int.reduceEq, Int.reduceLT, Int.reduceLE, Int.reduceNeg, Int.reduceToNat, Int.reduceAdd, Int.reduceSub, h1, h3, h4, msgPV, xC, msgsPV_length]) | (apply x_pure; (iterate 2 ((try simp (disch := omega) only [go_sem, Nat.reduceBEq, Nat.reduceLT, ↓reduceIte, Nat.reduceAdd, Nat.reduceSub, Nat.reduceMul, Nat.reduceLeDiff, Nat.reduceEqDiff, reduceCtorEq, Int.reduceEq, Int.reduceLT, Int.reduceLE, Int.reduceNeg, Int.reduceToNat, Int.reduceAdd, Int.reduceSub, h1, h3, h4, msgPV, xC, msgsPV_length]) <;> with_reducible exact rfl)); exact ps87 l[i] false false h5; (iterate 2 ((try simp (disch := omega) only [go_sem, Nat.reduceBEq, Nat.reduceLT, ↓reduceIte, Nat.reduceAdd, Nat.reduceSub, Nat.reduceMul, Nat.reduceLeDiff, Nat.reduceEqDiff, reduceCtorEq, Int.reduceEq, Int.reduceLT, Int.reduceLE, Int.reduceNeg, Int.reduceToNat, Int.reduceAdd, Int.reduceSub, h1, h3, h4, msgPV, xC, msgsPV_length]) <;> with_reducible exact rfl))) | ((first | apply x_split_cond | apply x_split_guard); all_goals (intro hb; (try simp only [Bool.not_eq_true', Bool.not_eq_false'] at hb); (simp (disch := omega) only [go_sem, Nat.reduceBEq, Nat.reduceLT, ↓reduceIte, Nat.reduceAdd, Nat.reduceSub, Nat.reduceMul, Nat.reduceLeDiff, Nat.reduceEqDiff, reduceCtorEq, Int.reduceEq, Int.reduceLT, Int.reduceLE, Int.reduceNeg, Int.reduceToNat, Int.reduceAdd, Int.reduceSub, h1, h3, h4, msgPV, xC, msgsPV_length, hb]); (try simp only [decide_eq_true_eq, decide_eq_false_iff_not, beq_iff_eq, beq_eq_false_iff_ne, ne_eq, bne_iff_ne, bne_eq_false_iff_eq, Decidable.not_not] at hb))))
    refine i_lk (W_round ?_)
    (try simp (disch := omega) only [go_sem, Nat.reduceBEq, Nat.reduceLT, ↓reduceIte, Nat.reduceAdd, Nat.reduceSub, Nat.reduceMul, Nat.reduceLeDiff, Nat.reduceEqDiff, reduceCtorEq, Int.reduceEq, Int.reduceLT, Int.reduceLE, Int.reduceNeg, Int.reduceToNat, Int.reduceAdd, Int.reduceSub])
    exact ih (i + 1) (by omega)

theorem ps49 (l : List X) (b c : Bool) (hl : l.length ≤ 140737488355328) (hi : ∀ x ∈ l, x.items.length ≤ 140737488355328) : PS tb 49 [.slice b (msgsPV l), .slice c (msgsPV l)] (.bool true) := by
  refine PS_of (af := a49) rfl rfl ?_
  unfold a49
  dsimp only [List.map, ofPV, initEnv]
  repeat' (first | (simp (disch := omega) only [go_sem, Nat.reduceBEq, Nat.reduceLT, ↓reduceIte, Nat.reduceAdd, Nat.reduceSub, Nat.reduceMul, Nat.reduceLeDiff, Nat.reduceEqDiff, reduceCtorEq, Int.reduceEq, Int.reduceLT, Int.reduceLE, Int.reduceNeg, Int.reduceToNat, Int.reduceAdd, Int.reduceSub, msgsPV_length]) | ((first | apply x_split_cond | apply x_split_guard); all_goals (intro hb; (try simp only [Bool.not_eq_true', Bool.not_eq_false'] at hb); (simp (disch := omega) only [go_sem, Nat.reduceBEq, Nat.reduceLT, ↓reduceIte, Nat.reduceAdd, Nat.reduceSub, Nat.reduceMul, Nat.reduceLeDiff, Nat.reduceEqDiff, reduceCtorEq, Int.reduceEq, Int.reduceLT, Int.reduceLE, Int.reduceNeg, Int.reduceToNat, Int.reduceAdd, Int.reduceSub, msgsPV_length, hb]); (try simp only [decide_eq_true_eq, decide_eq_false_iff_not, beq_iff_eq, beq_eq_false_iff_ne, ne_eq, bne_iff_ne, bne_eq_false_iff_eq, Decidable.not_not] at hb))))
  refine W_round ?_
  (try simp (disch := omega) only [go_sem, Nat.reduceBEq, Nat.reduceLT, ↓reduceIte, Nat.reduceAdd, Nat.reduceSub, Nat.reduceMul, Nat.reduceLeDiff, Nat.reduceEqDiff, reduceCtorEq, Int.reduceEq, Int.reduceLT, Int.reduceLE, Int.reduceNeg, Int.reduceToNat, Int.reduceAdd, Int.reduceSub])
  refine l49 l b c hl hi _ ?_ l.length 0 (by omega)
  (try simp (disch := omega) only [go_sem, Nat.reduceBEq, Nat.reduceLT, ↓reduceIte, Nat.reduceAdd, Nat.reduceSub, Nat.reduceMul, Nat.reduceLeDiff, Nat.reduceEqDiff, reduceCtorEq, Int.reduceEq, Int.reduceLT, Int.reduceLE, Int.reduceNeg, Int.reduceToNat, Int.reduceAdd, Int.reduceSub])
  all_goals simp [pur, dep]

end Go.Dv.Try
