/-
  Specifications of the functions of this claim, parts 37, 38, 41, 39, 40.
-/
import Derived.Test.YtjnigloanggmmaaTab
import Derived.Test.YtjnigloanggmmaaStep
import Derived.Test.YtjnigloanggmmaaS1
import Derived.Test.YtjnigloanggmmaaS7
import Derived.Test.YtjnigloanggmmaaS8
import Derived.Test.YtjnigloanggmmaaS12
import Derived.Test.YtjnigloanggmmaaS16
import Derived.Test.YtjnigloanggmmaaS24
import Derived.Test.YtjnigloanggmmaaS29
import Derived.Test.YtjnigloanggmmaaS30
import Derived.Test.YtjnigloanggmmaaS32
import Derived.Test.YtjnigloanggmmaaS33
import Derived.Test.YtjnigloanggmmaaS35
import Derived.Test.YtjnigloanggmmaaS36
set_option linter.unusedVariables false
set_option linter.unusedSimpArgs false
set_option maxRecDepth 100000
set_option maxHeartbeats 16000000
namespace Go.Dv.Try
open Go Go.Dv

/-- Messages with how their items lie, in two lists. -/
def rowsP (l : List (X × Bool × Bool)) : List (List PV) := l.map fun t => xC t.1 t.2.1

def rowsQ (l : List (X × Bool × Bool)) : List (List PV) := l.map fun t => xC t.1 t.2.2

theorem l34g (l : List (X × Bool × Bool)) (b c : Bool) (hl : l.length ≤ 140737488355328) (hi : ∀ x ∈ l, x.1.items.length ≤ 140737488355328) (K : Ex → St → Prop)
    (hx : K (.exit 0) ⟨[], [], 0, [0]⟩) : ∀ (n i : Nat), i + n = l.length →
    W tb a34_l0 ⟨[(0, .p (.slice b (rowsP l))), (1, .p (.slice c (rowsQ l))), (5, .p (.int .i64 i))], [], 0, [0]⟩ (LK tb (.ghost .lower a34_l0) K) := by
  have q1 : (rowsP l).length = l.length := by simp [rowsP]
  have q2 : (rowsQ l).length = l.length := by simp [rowsQ]
  intro n
  induction n with
  | zero =>
    intro i hn
    have h1 : ¬ (i : Int) < l.length := by omega
    refine i_code (by unfold a34_l0; exact rfl) ?_
    repeat' (first | (simp (disch := omega) only [go_sem, seval, reduceCtorEq, h1, q1, q2]) | ((first | apply x_split_cond | apply x_split_guard); all_goals (intro hb; (try simp only [Bool.not_eq_true', Bool.not_eq_false'] at hb); (simp (disch := omega) only [go_sem, seval, reduceCtorEq, h1, q1, q2, hb]); (try simp only [decide_eq_true_eq, decide_eq_false_iff_not, beq_iff_eq, beq_eq_false_iff_ne, ne_eq, bne_iff_ne, bne_eq_false_iff_eq, Decidable.not_not] at hb))))
    exact hx
  | succ n ih =>
    intro i hn
    have h1 : (i : Int) < l.length := by omega
    have h2 : i < l.length := by omega
    have h3 : (rowsP l)[i]? = some (xC l[i].1 l[i].2.1) := by simp [rowsP, h2]
    have h6 : (rowsQ l)[i]? = some (xC l[i].1 l[i].2.2) := by simp [rowsQ, h2]
    have h4 : (0 : Int) ≤ i := by omega
    have h5 := hi _ (List.getElem_mem h2)
    refine i_code (by unfold a34_l0; exact rfl) ?_
    repeat' (first | (simp (disch := omega) only [go_sem, seval, reduceCtorEq, h1, h3, h4, h6, xC, q1, q2]) | (apply x_pure; iterate 5 (first | exact ps87 l[i].1 l[i].2.1 l[i].2.2 h5 | ((try simp (disch := omega) only [go_sem, seval, reduceCtorEq, h1, h3, h4, h6, xC, q1, q2]) <;> with_reducible exact rfl))) | ((first | apply x_split_cond | apply x_split_guard); all_goals (intro hb; (try simp only [Bool.not_eq_true', Bool.not_eq_false'] at hb); (simp (disch := omega) only [go_sem, seval, reduceCtorEq, h1, h3, h4, h6, xC, q1, q2, hb]); (try simp only [decide_eq_true_eq, decide_eq_false_iff_not, beq_iff_eq, beq_eq_false_iff_ne, ne_eq, bne_iff_ne, bne_eq_false_iff_eq, Decidable.not_not] at hb))))
    refine i_lk (W_round ?_)
    (try simp (disch := omega) only [go_sem, seval, reduceCtorEq])
    exact ih (i + 1) (by omega)

theorem ps34g (l : List (X × Bool × Bool)) (b c : Bool) (hl : l.length ≤ 140737488355328) (hi : ∀ x ∈ l, x.1.items.length ≤ 140737488355328) : PS tb 34 [.slice b (rowsP l), .slice c (rowsQ l)] (.bool true) := by
  have q1 : (rowsP l).length = l.length := by simp [rowsP]
  have q2 : (rowsQ l).length = l.length := by simp [rowsQ]
  refine PS_of (af := a34) rfl rfl ?_
  unfold a34
  dsimp only [List.map, ofPV, initEnv]
  repeat' (first | (simp (disch := omega) only [go_sem, seval, reduceCtorEq, q1, q2]) | ((first | apply x_split_cond | apply x_split_guard); all_goals (intro hb; (try simp only [Bool.not_eq_true', Bool.not_eq_false'] at hb); (simp (disch := omega) only [go_sem, seval, reduceCtorEq, q1, q2, hb]); (try simp only [decide_eq_true_eq, decide_eq_false_iff_not, beq_iff_eq, beq_eq_false_iff_ne, ne_eq, bne_iff_ne, bne_eq_false_iff_eq, Decidable.not_not] at hb))))
  refine W_round ?_
  (try simp (disch := omega) only [go_sem, seval, reduceCtorEq])
  refine l34g l b c hl hi _ ?_ l.length 0 (by omega)
  (try simp (disch := omega) only [go_sem, seval, reduceCtorEq])
  all_goals simp [pur, dep]

theorem rowsT_P (l : List X) : rowsP (l.map fun y => (y, true, true)) = rowsT l := by simp [rowsP, rowsT]

theorem rowsT_Q (l : List X) : rowsQ (l.map fun y => (y, true, true)) = rowsT l := by simp [rowsQ, rowsT]

theorem ps34T (l : List X) (b c : Bool) (hl : l.length ≤ 140737488355328) (hi : ∀ x ∈ l, x.items = []) : PS tb 34 [.slice b (rowsT l), .slice c (rowsT l)] (.bool true) := by
  have := ps34g (l.map fun y => (y, true, true)) b c (by simpa using hl) (by
    intro x hx
    obtain ⟨y, hy, rfl⟩ := List.mem_map.1 hx
    simp [hi y hy])
  rw [rowsT_P, rowsT_Q] at this
  exact this

theorem asksN_items {m : M} {k : Nat} : ∀ y ∈ asksN m k, y.items = [] := by
  induction k with
  | zero => simp [asksN]
  | succ k ih =>
    intro y hy
    simp only [asksN] at hy
    split at hy
    · exact ih y hy
    · rcases List.mem_append.1 hy with h | h
      · exact ih y h
      · simp at h; subst h; rfl

theorem timeout_msgs {m : M} (h : m.members ≤ 9223372036854775807) : (timeoutR m).2.length ≤ 140737488355328 ∧ ∀ y ∈ (timeoutR m).2, y.items = [] := by
  unfold timeoutR
  split
  · rename_i hc
    obtain ⟨hh, _⟩ := (okM_iff m).1 hc.1
    have al := asksN_length (candM m) m.members.toNat
    have me := hh.me2
    refine ⟨?_, asksN_items⟩
    show (asksN (candM m) m.members.toNat).length ≤ _
    omega
  · simp

/-- What is sure of a member that a step gives. -/
theorem keeps_MIn {m a : M} (hm : MFew m) (h : okM m = true → Keeps m a) (h' : okM m = false → a = m) (v : a.votes.length ≤ 40) (n : a.next.length ≤ 40) (k : a.mtch.length ≤ 40) : MIn a := by
  have := hm.few1
  cases ho : okM m with
  | false => rw [h' ho]; exact hm.toMIn
  | true =>
    have q := h ho
    exact ⟨by rw [q.id]; exact hm.id1, by rw [q.id]; exact hm.id2, by rw [q.mem]; exact hm.me1, by rw [q.mem]; exact hm.me2, by rw [q.log]; omega, by omega, by omega, by omega⟩

theorem lists_of {a : M} (h : okM a = true) : a.votes.length ≤ 40 ∧ a.next.length ≤ 40 ∧ a.mtch.length ≤ 40 := by
  obtain ⟨hh, hr⟩ := (okM_iff a).1 h
  have := hh.me1; have := hh.me2
  rcases hr with ⟨_, h1, h2, h3⟩ | ⟨_, _, _, h1, h2, h3⟩ | ⟨_, _, _, h1, h2⟩
  · rw [h1, h2, h3]; simp
  · rw [h2, h3]
    simp only [okVotes, Bool.and_eq_true, decide_eq_true_eq] at h1
    have : maj a.members ≤ 4 := by unfold maj; split <;> omega
    have : a.votes.length ≤ 40 := by omega
    simp [this]
  · rw [h1]
    simp only [okProg, Bool.and_eq_true, decide_eq_true_eq] at h2
    simp; omega

theorem step_MIn {m a : M} (hm : MFew m) (h : okM m = true → Keeps m a) (h' : okM m = false → a = m) : MIn a := by
  cases ho : okM m with
  | false => rw [h' ho]; exact hm.toMIn
  | true =>
    obtain ⟨v, n, k⟩ := lists_of (h ho).ok
    exact keeps_MIn hm h h' v n k

theorem stay_vote {m : M} {x : X} (h : okM m = false) : (voteR m x).1 = m := by simp [voteR, concernsX, h]

theorem stay_count {m : M} {x : X} (h : okM m = false) : countR m x = m := by simp [countR, concernsX, h]

theorem stay_timeout {m : M} (h : okM m = false) : (timeoutR m).1 = m := by simp [timeoutR, h]

theorem stay_restart {m : M} (h : okM m = false) : restartR m = m := by simp [restartR, h]

theorem walkElectionTimeouts {u : List PV} (h : Fits [.int .i64, .int .i64, .int .i64, .int .i64, .slice [.int .i64, .str], .int .i64, .int .i64, .slice [.int .i64], .slice [.int .i64], .slice [.int .i64]] u) : PS tb 4 [.agg u] (.bool true) := by
  obtain ⟨m, f, rfl, hr⟩ := fit_member h
  refine PS_of (af := a4) rfl rfl ?_
  unfold a4
  dsimp only [List.map, ofPV, initEnv]
  cases hf : few21 m with
  | false =>
    repeat' (first | (simp (config := { maxSteps := 2000000 }) (disch := omega) only [go_sem, seval, reduceCtorEq, mC, hf]) | (apply x_pure; iterate 5 (first | exact ps21 m f | exact ps22 | ((try simp (config := { maxSteps := 2000000 }) (disch := omega) only [go_sem, seval, reduceCtorEq, mC, hf]) <;> with_reducible exact rfl))) | ((first | apply x_split_cond | apply x_split_guard); all_goals (intro hb; (try simp only [Bool.not_eq_true', Bool.not_eq_false'] at hb); (simp (config := { maxSteps := 2000000 }) (disch := omega) only [go_sem, seval, reduceCtorEq, mC, hf, hb]); (try simp only [decide_eq_true_eq, decide_eq_false_iff_not, beq_iff_eq, beq_eq_false_iff_ne, ne_eq, bne_iff_ne, bne_eq_false_iff_eq, Decidable.not_not] at hb))))
    all_goals rfl
  | true =>
    have hm := few21_MFew hr hf
    obtain ⟨g1, b1, q1⟩ := ps32 m f hm
    obtain ⟨g2, b2, q2⟩ := ps33 m f hm
    have q3 := ps27 (timeoutR m).1 g1 g2 (step_MIn hm keeps_timeout stay_timeout)
    have ms := timeout_msgs (m := m) hr.me2
    have q4 := ps34T (timeoutR m).2 b1 b2 ms.1 ms.2
    generalize timeoutR m = r at q1 q2 q3 q4
    repeat' (first | (simp (config := { maxSteps := 2000000 }) (disch := omega) only [go_sem, seval, reduceCtorEq, mC, hf]) | (apply x_pure; iterate 5 (first | exact ps21 m f | exact ps22 | exact q1 | exact q2 | exact q3 | exact q4 | ((try simp (config := { maxSteps := 2000000 }) (disch := omega) only [go_sem, seval, reduceCtorEq, mC, hf]) <;> with_reducible exact rfl))) | ((first | apply x_split_cond | apply x_split_guard); all_goals (intro hb; (try simp only [Bool.not_eq_true', Bool.not_eq_false'] at hb); (simp (config := { maxSteps := 2000000 }) (disch := omega) only [go_sem, seval, reduceCtorEq, mC, hf, hb]); (try simp only [decide_eq_true_eq, decide_eq_false_iff_not, beq_iff_eq, beq_eq_false_iff_ne, ne_eq, bne_iff_ne, bne_eq_false_iff_eq, Decidable.not_not] at hb))))
    all_goals rfl

theorem fit_msg {u : List PV} (h : Fits [.int .i64, .int .i64, .int .i64, .int .i64, .int .i64, .int .i64, .int .i64, .bool, .slice [.int .i64, .str]] u) : ∃ x, u = xC x false := by
  obtain ⟨y0, u0, rfl, e0, h⟩ := h.cons
  obtain ⟨y1, u1, rfl, e1, h⟩ := h.cons
  obtain ⟨y2, u2, rfl, e2, h⟩ := h.cons
  obtain ⟨y3, u3, rfl, e3, h⟩ := h.cons
  obtain ⟨y4, u4, rfl, e4, h⟩ := h.cons
  obtain ⟨y5, u5, rfl, e5, h⟩ := h.cons
  obtain ⟨y6, u6, rfl, e6, h⟩ := h.cons
  obtain ⟨y7, u7, rfl, e7, h⟩ := h.cons
  obtain ⟨y8, u8, rfl, e8, h⟩ := h.cons
  have hn := h.nil
  subst hn
  obtain ⟨n0, rfl, _⟩ := fit_int e0
  obtain ⟨n1, rfl, _⟩ := fit_int e1
  obtain ⟨n2, rfl, _⟩ := fit_int e2
  obtain ⟨n3, rfl, _⟩ := fit_int e3
  obtain ⟨n4, rfl, _⟩ := fit_int e4
  obtain ⟨n5, rfl, _⟩ := fit_int e5
  obtain ⟨n6, rfl, _⟩ := fit_int e6
  obtain ⟨n7, rfl⟩ := fit_bool e7
  obtain ⟨n8, rfl⟩ := fit_items e8
  exact ⟨⟨n0, n1, n2, n3, n4, n5, n6, n7, n8⟩, rfl⟩

theorem msg34 {m : M} {x : X} : PS tb 34 [.slice true (optR true (voteR m x).2), .slice true (optR true (voteR m x).2)] (.bool true) := by
  cases h : (voteR m x).2 with
  | none => exact ps34T [] true true (by simp) (by simp)
  | some y =>
    have hy : y.items = [] := by
      unfold voteR at h
      split at h
      · simp only [Option.some.injEq] at h; rw [← h]; rfl
      · cases h
    exact ps34T [y] true true (by simp) (by simp [hy])

theorem walkElectionVotes {u v : List PV} (h : Fits [.int .i64, .int .i64, .int .i64, .int .i64, .slice [.int .i64, .str], .int .i64, .int .i64, .slice [.int .i64], .slice [.int .i64], .slice [.int .i64]] u) (h' : Fits [.int .i64, .int .i64, .int .i64, .int .i64, .int .i64, .int .i64, .int .i64, .bool, .slice [.int .i64, .str]] v) : PS tb 5 [.agg u, .agg v] (.bool true) := by
  obtain ⟨m, f, rfl, hr⟩ := fit_member h
  obtain ⟨x, rfl⟩ := fit_msg h'
  refine PS_of (af := a5) rfl rfl ?_
  unfold a5
  dsimp only [List.map, ofPV, initEnv]
  cases hf : few21 m with
  | false =>
    repeat' (first | (simp (config := { maxSteps := 2000000 }) (disch := omega) only [go_sem, seval, reduceCtorEq, mC, xC, hf]) | (apply x_pure; iterate 5 (first | exact ps21 m f | exact ps22 | exact ps35 _ _ | ((try simp (config := { maxSteps := 2000000 }) (disch := omega) only [go_sem, seval, reduceCtorEq, mC, xC, hf]) <;> with_reducible exact rfl))) | ((first | apply x_split_cond | apply x_split_guard); all_goals (intro hb; (try simp only [Bool.not_eq_true', Bool.not_eq_false'] at hb); (simp (config := { maxSteps := 2000000 }) (disch := omega) only [go_sem, seval, reduceCtorEq, mC, xC, hf, hb]); (try simp only [decide_eq_true_eq, decide_eq_false_iff_not, beq_iff_eq, beq_eq_false_iff_ne, ne_eq, bne_iff_ne, bne_eq_false_iff_eq, Decidable.not_not] at hb))))
    all_goals rfl
  | true =>
    cases hx : few35 x.items with
    | false =>
      repeat' (first | (simp (config := { maxSteps := 2000000 }) (disch := omega) only [go_sem, seval, reduceCtorEq, mC, xC, hf, hx]) | (apply x_pure; iterate 5 (first | exact ps21 m f | exact ps22 | exact ps35 _ _ | ((try simp (config := { maxSteps := 2000000 }) (disch := omega) only [go_sem, seval, reduceCtorEq, mC, xC, hf, hx]) <;> with_reducible exact rfl))) | ((first | apply x_split_cond | apply x_split_guard); all_goals (intro hb; (try simp only [Bool.not_eq_true', Bool.not_eq_false'] at hb); (simp (config := { maxSteps := 2000000 }) (disch := omega) only [go_sem, seval, reduceCtorEq, mC, xC, hf, hx, hb]); (try simp only [decide_eq_true_eq, decide_eq_false_iff_not, beq_iff_eq, beq_eq_false_iff_ne, ne_eq, bne_iff_ne, bne_eq_false_iff_eq, Decidable.not_not] at hb))))
      all_goals rfl
    | true =>
      have hm := few21_MFew hr hf
      have hi : x.items.length ≤ 300 := by
        simp only [few35, Bool.and_eq_true, decide_eq_true_eq] at hx
        omega
      obtain ⟨g1, q1⟩ := ps36 m f x false hm hi
      obtain ⟨g2, q2⟩ := ps37 m f x false hm hi
      have q3 := ps27 (voteR m x).1 g1 g2 (step_MIn hm keeps_vote stay_vote)
      have q4 := msg34 (m := m) (x := x)
      generalize voteR m x = r at q1 q2 q3 q4
      repeat' (first | (simp (config := { maxSteps := 2000000 }) (disch := omega) only [go_sem, seval, reduceCtorEq, mC, xC, hf, hx]) | (apply x_pure; iterate 5 (first | exact ps21 m f | exact ps22 | exact ps35 _ _ | exact q1 | exact q2 | exact q3 | exact q4 | ((try simp (config := { maxSteps := 2000000 }) (disch := omega) only [go_sem, seval, reduceCtorEq, mC, xC, hf, hx]) <;> with_reducible exact rfl))) | ((first | apply x_split_cond | apply x_split_guard); all_goals (intro hb; (try simp only [Bool.not_eq_true', Bool.not_eq_false'] at hb); (simp (config := { maxSteps := 2000000 }) (disch := omega) only [go_sem, seval, reduceCtorEq, mC, xC, hf, hx, hb]); (try simp only [decide_eq_true_eq, decide_eq_false_iff_not, beq_iff_eq, beq_eq_false_iff_ne, ne_eq, bne_iff_ne, bne_eq_false_iff_eq, Decidable.not_not] at hb))))
      all_goals rfl

theorem walkElectionCounts {u v : List PV} (h : Fits [.int .i64, .int .i64, .int .i64, .int .i64, .slice [.int .i64, .str], .int .i64, .int .i64, .slice [.int .i64], .slice [.int .i64], .slice [.int .i64]] u) (h' : Fits [.int .i64, .int .i64, .int .i64, .int .i64, .int .i64, .int .i64, .int .i64, .bool, .slice [.int .i64, .str]] v) : PS tb 7 [.agg u, .agg v] (.bool true) := by
  obtain ⟨m, f, rfl, hr⟩ := fit_member h
  obtain ⟨x, rfl⟩ := fit_msg h'
  refine PS_of (af := a7) rfl rfl ?_
  unfold a7
  dsimp only [List.map, ofPV, initEnv]
  cases hf : few21 m with
  | false =>
    repeat' (first | (simp (config := { maxSteps := 2000000 }) (disch := omega) only [go_sem, seval, reduceCtorEq, mC, xC, hf]) | (apply x_pure; iterate 5 (first | exact ps21 m f | exact ps22 | exact ps35 _ _ | ((try simp (config := { maxSteps := 2000000 }) (disch := omega) only [go_sem, seval, reduceCtorEq, mC, xC, hf]) <;> with_reducible exact rfl))) | ((first | apply x_split_cond | apply x_split_guard); all_goals (intro hb; (try simp only [Bool.not_eq_true', Bool.not_eq_false'] at hb); (simp (config := { maxSteps := 2000000 }) (disch := omega) only [go_sem, seval, reduceCtorEq, mC, xC, hf, hb]); (try simp only [decide_eq_true_eq, decide_eq_false_iff_not, beq_iff_eq, beq_eq_false_iff_ne, ne_eq, bne_iff_ne, bne_eq_false_iff_eq, Decidable.not_not] at hb))))
    all_goals rfl
  | true =>
    cases hx : few35 x.items with
    | false =>
      repeat' (first | (simp (config := { maxSteps := 2000000 }) (disch := omega) only [go_sem, seval, reduceCtorEq, mC, xC, hf, hx]) | (apply x_pure; iterate 5 (first | exact ps21 m f | exact ps22 | exact ps35 _ _ | ((try simp (config := { maxSteps := 2000000 }) (disch := omega) only [go_sem, seval, reduceCtorEq, mC, xC, hf, hx]) <;> with_reducible exact rfl))) | ((first | apply x_split_cond | apply x_split_guard); all_goals (intro hb; (try simp only [Bool.not_eq_true', Bool.not_eq_false'] at hb); (simp (config := { maxSteps := 2000000 }) (disch := omega) only [go_sem, seval, reduceCtorEq, mC, xC, hf, hx, hb]); (try simp only [decide_eq_true_eq, decide_eq_false_iff_not, beq_iff_eq, beq_eq_false_iff_ne, ne_eq, bne_iff_ne, bne_eq_false_iff_eq, Decidable.not_not] at hb))))
      all_goals rfl
    | true =>
      have hm := few21_MFew hr hf
      have hi : x.items.length ≤ 300 := by
        simp only [few35, Bool.and_eq_true, decide_eq_true_eq] at hx
        omega
      obtain ⟨g1, q1⟩ := ps41 m f x false hm hi
      obtain ⟨g2, q2⟩ := ps42 m f x false hm hi
      have q3 := ps27 (countR m x) g1 g2 (step_MIn hm keeps_count stay_count)
      obtain ⟨g3, q4⟩ := ps43 m f hm
      obtain ⟨g4, q5⟩ := ps44 m f hm.toMIn
      have q6 := ps27 (restartR m) g3 g4 (step_MIn hm keeps_restart stay_restart)
      have n00 : (((0 : Nat) : Int) == 0) = true := rfl
      generalize countR m x = r at q1 q2 q3
      generalize restartR m = s at q4 q5 q6
      repeat' (first | (simp (config := { maxSteps := 2000000 }) (disch := omega) only [go_sem, seval, reduceCtorEq, mC, xC, hf, hx, n00]) | (apply x_pure; iterate 5 (first | exact ps21 m f | exact ps22 | exact ps35 _ _ | exact q1 | exact q2 | exact q3 | exact q4 | exact q5 | exact q6 | ((try simp (config := { maxSteps := 2000000 }) (disch := omega) only [go_sem, seval, reduceCtorEq, mC, xC, hf, hx, n00]) <;> with_reducible exact rfl))) | ((first | apply x_split_cond | apply x_split_guard); all_goals (intro hb; (try simp only [Bool.not_eq_true', Bool.not_eq_false'] at hb); (simp (config := { maxSteps := 2000000 }) (disch := omega) only [go_sem, seval, reduceCtorEq, mC, xC, hf, hx, n00, hb]); (try simp only [decide_eq_true_eq, decide_eq_false_iff_not, beq_iff_eq, beq_eq_false_iff_ne, ne_eq, bne_iff_ne, bne_eq_false_iff_eq, Decidable.not_not] at hb))))
      all_goals rfl

end Go.Dv.Try
