/-
  Specifications, part 3: members; valid votes (both texts).
-/
import Derived.Test.YtjnigloanggmmaaS2
set_option linter.unusedVariables false
set_option linter.unusedSimpArgs false
set_option maxRecDepth 100000
set_option maxHeartbeats 4000000
namespace Go.Dv.Try
open Go Go.Dv

structure M where
  id : Int
  members : Int
  term : Int
  vote : Int
  log : List (Int × ByteArray)
  role : Int
  commit : Int
  votes : List Int
  next : List Int
  mtch : List Int

/-- Which slices have no room behind. -/
structure Fl where
  a : Bool
  b : Bool
  c : Bool
  d : Bool

def mC (m : M) (f : Fl) : List PV := [.int .i64 m.id, .int .i64 m.members, .int .i64 m.term, .int .i64 m.vote, .slice f.a (itemsPV m.log), .int .i64 m.role, .int .i64 m.commit, .slice f.b (intsPV m.votes), .slice f.c (intsPV m.next), .slice f.d (intsPV m.mtch)]

theorem ra_step {p : Nat → Bool} {i : Nat} (ht : (List.range i).all p = true) (hp : p i = true) : (List.range (i + 1)).all p = true := by
  rw [List.range_succ, List.all_append, ht]; simp [hp]

theorem ra_no {p : Nat → Bool} {i n : Nat} (h : i < n) (hp : p i = false) : (List.range n).all p = false := by
  rw [List.all_eq_false]
  exact ⟨i, List.mem_range.2 h, by simp [hp]⟩

def vOK (mem : Int) (l : List Int) (i : Nat) : Bool := decide (1 ≤ l.getD i 0) && decide (l.getD i 0 ≤ mem) && (decide (i = 0) || decide (l.getD (i - 1) 0 < l.getD i 0))

def okVotes (m : M) : Bool := (List.range m.votes.length).all (vOK m.members m.votes) && m.votes.any (· == m.id) && decide ((m.votes.length : Int) < maj m.members)

theorem getD_eq (l : List Int) (i : Nat) (h : i < l.length) : l.getD i 0 = l[i] := by simp [List.getD, h]

theorem vOK_no {mem : Int} {l : List Int} {i : Nat} (h : i < l.length) (c : l[i] < 1 ∨ mem < l[i] ∨ (0 < i ∧ l[i] ≤ l.getD (i - 1) 0)) : vOK mem l i = false := by
  unfold vOK
  rw [getD_eq l i h]
  generalize l.getD (i - 1) 0 = y at c ⊢
  simp only [Bool.and_eq_false_iff, Bool.or_eq_false_iff, decide_eq_false_iff_not]
  omega

theorem vOK_yes {mem : Int} {l : List Int} {i : Nat} (h : i < l.length) (c1 : ¬ l[i] < 1) (c2 : ¬ mem < l[i]) (c3 : i = 0 ∨ ¬ l[i] ≤ l.getD (i - 1) 0) : vOK mem l i = true := by
  unfold vOK
  rw [getD_eq l i h]
  generalize l.getD (i - 1) 0 = y at c3 ⊢
  simp only [Bool.and_eq_true, Bool.or_eq_true, decide_eq_true_eq]
  omega

theorem any_step (l : List Int) (x : Int) (i : Nat) (h : i < l.length) : (l.take (i + 1)).any (· == x) = ((l.take i).any (· == x) || l[i] == x) := by
  rw [List.take_add_one, List.any_append, List.getElem?_eq_getElem h]; simp

def st76 (m : M) (f : Fl) (i : Nat) (own : Bool) : St := ⟨[(1, .ptr 0 0), (3, .p (.bool own)), (8, .p (.slice f.b (intsPV m.votes))), (9, .p (.int .i64 m.votes.length)), (10, .p (.int .i64 i))], [(0, .var false ((mC m f).map .p))], 1, [0]⟩

theorem l76 (m : M) (f : Fl) (hl : m.votes.length ≤ 140737488355328) (K : Ex → St → Prop)
    (hx : (List.range m.votes.length).all (vOK m.members m.votes) = true → K (.exit 0) ⟨[(1, .ptr 0 0), (3, .p (.bool (m.votes.any (· == m.id))))], [(0, .var false ((mC m f).map .p))], 1, [0]⟩)
    (hr : (List.range m.votes.length).all (vOK m.members m.votes) = false → ∀ s, aget s.env 2 = some (.p (.bool false)) → K .ret s) :
    ∀ (n i : Nat), i + n = m.votes.length → (List.range i).all (vOK m.members m.votes) = true →
    W tb a76_l0 (st76 m f i ((m.votes.take i).any (· == m.id))) (LK tb (.ghost .lower a76_l0) K) := by
  intro n
  induction n with
  | zero =>
    intro i hi ht
    have h1 : ¬ (i : Int) < m.votes.length := by omega
    have he : i = m.votes.length := by omega
    rw [List.take_of_length_le (by omega)]
    unfold st76
    refine i_code (by unfold a76_l0; exact rfl) ?_
    repeat' (first | (simp (disch := omega) only [go_sem, Nat.reduceBEq, Nat.reduceBNe, Nat.reduceLT, ↓reduceIte, Nat.reduceAdd, Nat.reduceSub, Nat.reduceMul, Nat.reduceLeDiff, Nat.reduceEqDiff, reduceCtorEq, Int.reduceEq, Int.reduceLT, Int.reduceLE, Int.reduceNeg, Int.reduceToNat, Int.reduceAdd, Int.reduceSub, Int.reduceBEq, Int.reduceBNe, h1, intsPV_length, mC]) | ((first | apply x_split_cond | apply x_split_guard); all_goals (intro hb; (try simp only [Bool.not_eq_true', Bool.not_eq_false'] at hb); (simp (disch := omega) only [go_sem, Nat.reduceBEq, Nat.reduceBNe, Nat.reduceLT, ↓reduceIte, Nat.reduceAdd, Nat.reduceSub, Nat.reduceMul, Nat.reduceLeDiff, Nat.reduceEqDiff, reduceCtorEq, Int.reduceEq, Int.reduceLT, Int.reduceLE, Int.reduceNeg, Int.reduceToNat, Int.reduceAdd, Int.reduceSub, Int.reduceBEq, Int.reduceBNe, h1, intsPV_length, mC, hb]); (try simp only [decide_eq_true_eq, decide_eq_false_iff_not, beq_iff_eq, beq_eq_false_iff_ne, ne_eq, bne_iff_ne, bne_eq_false_iff_eq, Decidable.not_not] at hb))))
    rw [he] at ht
    exact hx ht
  | succ n ih =>
    intro i hi ht
    have h1 : (i : Int) < m.votes.length := by omega
    have h2 : i < m.votes.length := by omega
    have h3 := intsPV_get m.votes i h2
    have h4 : (0 : Int) ≤ i := by omega
    unfold st76
    refine i_code (by unfold a76_l0; exact rfl) ?_
    have back : ∀ (o : Bool), (m.votes.take (i + 1)).any (· == m.id) = o → vOK m.members m.votes i = true → LK tb (.ghost .lower a76_l0) K .normal ⟨[(1, .ptr 0 0), (3, .p (.bool o)), (8, .p (.slice f.b (intsPV m.votes))), (9, .p (.int .i64 m.votes.length)), (10, .p (.int .i64 ((i + 1 : Nat) : Int)))], [(0, .var false ((mC m f).map .p))], 1, [0]⟩ := by
      intro o ho hv
      refine i_lk (W_round ?_)
      (try simp (disch := omega) only [go_sem, Nat.reduceBEq, Nat.reduceBNe, Nat.reduceLT, ↓reduceIte, Nat.reduceAdd, Nat.reduceSub, Nat.reduceMul, Nat.reduceLeDiff, Nat.reduceEqDiff, reduceCtorEq, Int.reduceEq, Int.reduceLT, Int.reduceLE, Int.reduceNeg, Int.reduceToNat, Int.reduceAdd, Int.reduceSub, Int.reduceBEq, Int.reduceBNe, mC])
      subst ho
      exact ih (i + 1) (by omega) (ra_step ht hv)
    have own : (m.votes.take (i + 1)).any (· == m.id) = ((m.votes.take i).any (· == m.id) || m.votes[i] == m.id) := any_step m.votes m.id i h2
    by_cases h0 : i = 0
    · have h5 : ¬ (0 : Int) < i := by omega
      repeat' (first | (simp (disch := omega) only [go_sem, Nat.reduceBEq, Nat.reduceBNe, Nat.reduceLT, ↓reduceIte, Nat.reduceAdd, Nat.reduceSub, Nat.reduceMul, Nat.reduceLeDiff, Nat.reduceEqDiff, reduceCtorEq, Int.reduceEq, Int.reduceLT, Int.reduceLE, Int.reduceNeg, Int.reduceToNat, Int.reduceAdd, Int.reduceSub, Int.reduceBEq, Int.reduceBNe, h1, h3, h4, h5, intPV, intsPV_length, mC]) | ((first | apply x_split_cond | apply x_split_guard); all_goals (intro hb; (try simp only [Bool.not_eq_true', Bool.not_eq_false'] at hb); (simp (disch := omega) only [go_sem, Nat.reduceBEq, Nat.reduceBNe, Nat.reduceLT, ↓reduceIte, Nat.reduceAdd, Nat.reduceSub, Nat.reduceMul, Nat.reduceLeDiff, Nat.reduceEqDiff, reduceCtorEq, Int.reduceEq, Int.reduceLT, Int.reduceLE, Int.reduceNeg, Int.reduceToNat, Int.reduceAdd, Int.reduceSub, Int.reduceBEq, Int.reduceBNe, h1, h3, h4, h5, intPV, intsPV_length, mC, hb]); (try simp only [decide_eq_true_eq, decide_eq_false_iff_not, beq_iff_eq, beq_eq_false_iff_ne, ne_eq, bne_iff_ne, bne_eq_false_iff_eq, Decidable.not_not] at hb))))
      all_goals first
        | exact hr (ra_no h2 (vOK_no h2 (by omega))) _ rfl
        | exact back _ (by rw [own]; simp only [hb, Bool.true_or, Bool.false_or]) (vOK_yes h2 (by assumption) (by assumption) (.inl h0))
    · have h5 : (0 : Int) < i := by omega
      have h6 : (0 : Int) ≤ i - 1 := by omega
      have h7 : ((i : Int) - 1).toNat = i - 1 := by omega
      have h8 := intsPV_get m.votes (i - 1) (by omega)
      have h9 : m.votes.getD (i - 1) 0 = m.votes[i - 1] := getD_eq m.votes (i - 1) (by omega)
      repeat' (first | (simp (disch := omega) only [go_sem, Nat.reduceBEq, Nat.reduceBNe, Nat.reduceLT, ↓reduceIte, Nat.reduceAdd, Nat.reduceSub, Nat.reduceMul, Nat.reduceLeDiff, Nat.reduceEqDiff, reduceCtorEq, Int.reduceEq, Int.reduceLT, Int.reduceLE, Int.reduceNeg, Int.reduceToNat, Int.reduceAdd, Int.reduceSub, Int.reduceBEq, Int.reduceBNe, h1, h3, h4, h5, h6, h7, h8, intPV, intsPV_length, mC]) | ((first | apply x_split_cond | apply x_split_guard); all_goals (intro hb; (try simp only [Bool.not_eq_true', Bool.not_eq_false'] at hb); (simp (disch := omega) only [go_sem, Nat.reduceBEq, Nat.reduceBNe, Nat.reduceLT, ↓reduceIte, Nat.reduceAdd, Nat.reduceSub, Nat.reduceMul, Nat.reduceLeDiff, Nat.reduceEqDiff, reduceCtorEq, Int.reduceEq, Int.reduceLT, Int.reduceLE, Int.reduceNeg, Int.reduceToNat, Int.reduceAdd, Int.reduceSub, Int.reduceBEq, Int.reduceBNe, h1, h3, h4, h5, h6, h7, h8, intPV, intsPV_length, mC, hb]); (try simp only [decide_eq_true_eq, decide_eq_false_iff_not, beq_iff_eq, beq_eq_false_iff_ne, ne_eq, bne_iff_ne, bne_eq_false_iff_eq, Decidable.not_not] at hb))))
      all_goals first
        | exact hr (ra_no h2 (vOK_no h2 (by omega))) _ rfl
        | exact back _ (by rw [own]; simp only [hb, Bool.true_or, Bool.false_or]) (vOK_yes h2 (by assumption) (by assumption) (.inr (by rw [h9]; assumption)))

theorem ps76 (m : M) (f : Fl) (hl : m.votes.length ≤ 140737488355328) (hm : m.members ≤ 9223372036854775807) : PS tb 76 [.agg (mC m f)] (.bool (okVotes m)) := by
  refine PS_of (af := a76) rfl rfl ?_
  unfold a76
  dsimp only [List.map, ofPV, initEnv]
  (try simp (disch := omega) only [go_sem, Nat.reduceBEq, Nat.reduceBNe, Nat.reduceLT, ↓reduceIte, Nat.reduceAdd, Nat.reduceSub, Nat.reduceMul, Nat.reduceLeDiff, Nat.reduceEqDiff, reduceCtorEq, Int.reduceEq, Int.reduceLT, Int.reduceLE, Int.reduceNeg, Int.reduceToNat, Int.reduceAdd, Int.reduceSub, Int.reduceBEq, Int.reduceBNe, mC, intsPV_length])
  refine W_round ?_
  (try simp (disch := omega) only [go_sem, Nat.reduceBEq, Nat.reduceBNe, Nat.reduceLT, ↓reduceIte, Nat.reduceAdd, Nat.reduceSub, Nat.reduceMul, Nat.reduceLeDiff, Nat.reduceEqDiff, reduceCtorEq, Int.reduceEq, Int.reduceLT, Int.reduceLE, Int.reduceNeg, Int.reduceToNat, Int.reduceAdd, Int.reduceSub, Int.reduceBEq, Int.reduceBNe])
  refine l76 m f hl _ ?_ ?_ m.votes.length 0 (by omega) (by simp)
  · intro ha
    repeat' (first | (simp (disch := omega) only [go_sem, Nat.reduceBEq, Nat.reduceBNe, Nat.reduceLT, ↓reduceIte, Nat.reduceAdd, Nat.reduceSub, Nat.reduceMul, Nat.reduceLeDiff, Nat.reduceEqDiff, reduceCtorEq, Int.reduceEq, Int.reduceLT, Int.reduceLE, Int.reduceNeg, Int.reduceToNat, Int.reduceAdd, Int.reduceSub, Int.reduceBEq, Int.reduceBNe, mC, intsPV_length]) | (apply x_pure; iterate 5 (first | exact ps25 _ hm | ((try simp (disch := omega) only [go_sem, Nat.reduceBEq, Nat.reduceBNe, Nat.reduceLT, ↓reduceIte, Nat.reduceAdd, Nat.reduceSub, Nat.reduceMul, Nat.reduceLeDiff, Nat.reduceEqDiff, reduceCtorEq, Int.reduceEq, Int.reduceLT, Int.reduceLE, Int.reduceNeg, Int.reduceToNat, Int.reduceAdd, Int.reduceSub, Int.reduceBEq, Int.reduceBNe, mC, intsPV_length]) <;> with_reducible exact rfl))) | ((first | apply x_split_cond | apply x_split_guard); all_goals (intro hb; (try simp only [Bool.not_eq_true', Bool.not_eq_false'] at hb); (simp (disch := omega) only [go_sem, Nat.reduceBEq, Nat.reduceBNe, Nat.reduceLT, ↓reduceIte, Nat.reduceAdd, Nat.reduceSub, Nat.reduceMul, Nat.reduceLeDiff, Nat.reduceEqDiff, reduceCtorEq, Int.reduceEq, Int.reduceLT, Int.reduceLE, Int.reduceNeg, Int.reduceToNat, Int.reduceAdd, Int.reduceSub, Int.reduceBEq, Int.reduceBNe, mC, intsPV_length, hb]); (try simp only [decide_eq_true_eq, decide_eq_false_iff_not, beq_iff_eq, beq_eq_false_iff_ne, ne_eq, bne_iff_ne, bne_eq_false_iff_eq, Decidable.not_not] at hb))))
    all_goals simp [okVotes, ha, hb, pur, dep]
  · intro ha s hs
    (try simp (disch := omega) only [go_sem, Nat.reduceBEq, Nat.reduceBNe, Nat.reduceLT, ↓reduceIte, Nat.reduceAdd, Nat.reduceSub, Nat.reduceMul, Nat.reduceLeDiff, Nat.reduceEqDiff, reduceCtorEq, Int.reduceEq, Int.reduceLT, Int.reduceLE, Int.reduceNeg, Int.reduceToNat, Int.reduceAdd, Int.reduceSub, Int.reduceBEq, Int.reduceBNe, hs])
    simp [okVotes, ha, pur, dep]

end Go.Dv.Try
