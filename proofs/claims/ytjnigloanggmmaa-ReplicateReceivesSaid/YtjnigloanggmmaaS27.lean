/-
  Specifications of the functions of this claim, parts 27, 28.
-/
import Derived.Test.YtjnigloanggmmaaTab
import Derived.Test.YtjnigloanggmmaaStep
import Derived.Test.YtjnigloanggmmaaS1
import Derived.Test.YtjnigloanggmmaaS8
import Derived.Test.YtjnigloanggmmaaS16
import Derived.Test.YtjnigloanggmmaaS24
set_option linter.unusedVariables false
set_option linter.unusedSimpArgs false
set_option maxRecDepth 100000
set_option maxHeartbeats 16000000
namespace Go.Dv.Try
open Go Go.Dv

def idxF (v : Int) : List Int → Int → Int
  | [], _ => -1
  | x :: r, i => if v = x then i else idxF v r (i + 1)

theorem idxF_ge (v : Int) : ∀ (l : List Int) (i : Int), 0 ≤ i → (0 ≤ idxF v l i ↔ v ∈ l)
  | [], i, h => by simp [idxF]
  | x :: r, i, h => by
    simp only [idxF]
    split
    · rename_i e; subst e; simp [h]
    · rename_i e
      rw [idxF_ge v r (i + 1) (by omega)]
      simp [e]

theorem l132 (l : List Int) (v : Int) (b : Bool) (hl : l.length ≤ 100000) (K : Ex → St → Prop)
    (hx : idxF v l 0 = -1 → K (.exit 0) ⟨[], [], 0, [0]⟩) (hr : ∀ s, aget s.env 4 = some (.p (.int .i64 (idxF v l 0))) → K .ret s) : ∀ (n i : Nat), i + n = l.length → idxF v l 0 = idxF v (l.drop i) i →
    W tb a132_l0 ⟨[(0, .p (.slice b (intsPV l))), (1, .p (.int .i64 v)), (7, .p (.int .i64 l.length)), (8, .p (.int .i64 i))], [], 0, [0]⟩ (LK tb (.ghost .lower a132_l0) K) := by
  intro n
  induction n with
  | zero =>
    intro i hi he
    have h1 : ¬ (i : Int) < l.length := by omega
    rw [List.drop_eq_nil_of_le (by omega)] at he
    refine i_code (by unfold a132_l0; exact rfl) ?_
    repeat' (first | (simp (disch := omega) only [go_sem, seval, reduceCtorEq, h1, intsPV_length]) | ((first | apply x_split_cond | apply x_split_guard); all_goals (intro hb; (try simp only [Bool.not_eq_true', Bool.not_eq_false'] at hb); (simp (disch := omega) only [go_sem, seval, reduceCtorEq, h1, intsPV_length, hb]); (try simp only [decide_eq_true_eq, decide_eq_false_iff_not, beq_iff_eq, beq_eq_false_iff_ne, ne_eq, bne_iff_ne, bne_eq_false_iff_eq, Decidable.not_not] at hb))))
    exact hx he
  | succ n ih =>
    intro i hi he
    have h1 : (i : Int) < l.length := by omega
    have h2 : i < l.length := by omega
    have h3 := intsPV_get l i h2
    have h4 : (0 : Int) ≤ i := by omega
    have hd : l.drop i = l[i] :: l.drop (i + 1) := (List.getElem_cons_drop ..).symm
    rw [hd, idxF] at he
    refine i_code (by unfold a132_l0; exact rfl) ?_
    by_cases hv : v = l[i]
    · rw [if_pos hv] at he
      have h5 : (v == l[i]) = true := by simpa using hv
      rw [he] at hr
      repeat' (first | (simp (disch := omega) only [go_sem, seval, reduceCtorEq, h1, h3, h4, h5, intPV, intsPV_length]) | ((first | apply x_split_cond | apply x_split_guard); all_goals (intro hb; (try simp only [Bool.not_eq_true', Bool.not_eq_false'] at hb); (simp (disch := omega) only [go_sem, seval, reduceCtorEq, h1, h3, h4, h5, intPV, intsPV_length, hb]); (try simp only [decide_eq_true_eq, decide_eq_false_iff_not, beq_iff_eq, beq_eq_false_iff_ne, ne_eq, bne_iff_ne, bne_eq_false_iff_eq, Decidable.not_not] at hb))))
      exact hr _ rfl
    · rw [if_neg hv] at he
      have h5 : (v == l[i]) = false := by simpa using hv
      repeat' (first | (simp (disch := omega) only [go_sem, seval, reduceCtorEq, h1, h3, h4, h5, intPV, intsPV_length]) | ((first | apply x_split_cond | apply x_split_guard); all_goals (intro hb; (try simp only [Bool.not_eq_true', Bool.not_eq_false'] at hb); (simp (disch := omega) only [go_sem, seval, reduceCtorEq, h1, h3, h4, h5, intPV, intsPV_length, hb]); (try simp only [decide_eq_true_eq, decide_eq_false_iff_not, beq_iff_eq, beq_eq_false_iff_ne, ne_eq, bne_iff_ne, bne_eq_false_iff_eq, Decidable.not_not] at hb))))
      refine i_lk (W_round ?_)
      (try simp (disch := omega) only [go_sem, seval, reduceCtorEq])
      exact ih (i + 1) (by omega) he

theorem ps132 (l : List Int) (v : Int) (b : Bool) (hl : l.length ≤ 100000) : PS tb 132 [.slice b (intsPV l), .int .i64 v] (.int .i64 (idxF v l 0)) := by
  refine PS_of (af := a132) rfl rfl ?_
  unfold a132
  dsimp only [List.map, ofPV, initEnv]
  repeat' (first | (simp (disch := omega) only [go_sem, seval, reduceCtorEq, intsPV_length]) | ((first | apply x_split_cond | apply x_split_guard); all_goals (intro hb; (try simp only [Bool.not_eq_true', Bool.not_eq_false'] at hb); (simp (disch := omega) only [go_sem, seval, reduceCtorEq, intsPV_length, hb]); (try simp only [decide_eq_true_eq, decide_eq_false_iff_not, beq_iff_eq, beq_eq_false_iff_ne, ne_eq, bne_iff_ne, bne_eq_false_iff_eq, Decidable.not_not] at hb))))
  refine W_round ?_
  (try simp (disch := omega) only [go_sem, seval, reduceCtorEq])
  refine l132 l v b hl _ ?_ ?_ l.length 0 (by omega) (by simp)
  · intro he
    (try simp (disch := omega) only [go_sem, seval, reduceCtorEq])
    all_goals simp [pur, dep, he]
  · intro s hs
    (try simp (disch := omega) only [go_sem, seval, reduceCtorEq, hs])
    all_goals simp [pur, dep]

theorem ps94 (l : List Int) (v : Int) (b : Bool) (hl : l.length ≤ 100000) : PS tb 94 [.slice b (intsPV l), .int .i64 v] (.bool (decide (v ∈ l))) := by
  refine PS_of (af := a94) rfl rfl ?_
  unfold a94
  dsimp only [List.map, ofPV, initEnv]
  have h := idxF_ge v l 0 (Int.le_refl _)
  have e : decide (v ∈ l) = decide (0 ≤ idxF v l 0) := by simp [h]
  rw [e]
  repeat' (first | (simp (disch := omega) only [go_sem, seval, reduceCtorEq]) | (apply x_pure; iterate 5 (first | exact ps132 l v b hl | ((try simp (disch := omega) only [go_sem, seval, reduceCtorEq]) <;> with_reducible exact rfl))) | ((first | apply x_split_cond | apply x_split_guard); all_goals (intro hb; (try simp only [Bool.not_eq_true', Bool.not_eq_false'] at hb); (simp (disch := omega) only [go_sem, seval, reduceCtorEq, hb]); (try simp only [decide_eq_true_eq, decide_eq_false_iff_not, beq_iff_eq, beq_eq_false_iff_ne, ne_eq, bne_iff_ne, bne_eq_false_iff_eq, Decidable.not_not] at hb))))
  all_goals simp [pur, dep]

theorem l96 (l : List Int) (v : Int) (b : Bool) (hl : l.length ≤ 10000) (K : Ex → St → Prop)
    (hx : ∀ (o : List Int) (d : Bool), insGo v l false = o ++ insGo v [] d → o.length ≤ 2 * l.length → K (.exit 0) ⟨[(1, .p (.int .i64 v)), (5, .ref 0 o.length 0 o.length), (6, .p (.bool d))], [(0, .row false 1 (intsPV o))], 1, [0]⟩) :
    ∀ (n i : Nat) (o : List Int) (d : Bool), i + n = l.length → insGo v l false = o ++ insGo v (l.drop i) d → o.length ≤ 2 * i →
    W tb a96_l0 ⟨[(0, .p (.slice b (intsPV l))), (1, .p (.int .i64 v)), (5, .ref 0 o.length 0 o.length), (6, .p (.bool d)), (7, .p (.int .i64 i))], [(0, .row false 1 (intsPV o))], 1, [0]⟩ (LK tb (.ghost .lower a96_l0) K) := by
  intro n
  induction n with
  | zero =>
    intro i o d hi he ho
    have h1 : ¬ (i : Int) < l.length := by omega
    rw [List.drop_eq_nil_of_le (by omega)] at he
    refine i_code (by unfold a96_l0; exact rfl) ?_
    repeat' (first | (simp (disch := omega) only [go_sem, seval, reduceCtorEq, h1, intsPV_length]) | ((first | apply x_split_cond | apply x_split_guard); all_goals (intro hb; (try simp only [Bool.not_eq_true', Bool.not_eq_false'] at hb); (simp (disch := omega) only [go_sem, seval, reduceCtorEq, h1, intsPV_length, hb]); (try simp only [decide_eq_true_eq, decide_eq_false_iff_not, beq_iff_eq, beq_eq_false_iff_ne, ne_eq, bne_iff_ne, bne_eq_false_iff_eq, Decidable.not_not] at hb))))
    exact hx o d he (by omega)
  | succ n ih =>
    intro i o d hi he ho
    have h1 : (i : Int) < l.length := by omega
    have h2 : i < l.length := by omega
    have h3 := intsPV_get l i h2
    have h4 : (0 : Int) ≤ i := by omega
    have hd : l.drop i = l[i] :: l.drop (i + 1) := (List.getElem_cons_drop ..).symm
    rw [hd, insGo] at he
    refine i_code (by unfold a96_l0; exact rfl) ?_
    cases d with
    | true =>
      by_cases e : l[i] = v
      · have e1 : (l[i] != v) = false := by simpa using e
        have e2 : ((i : Int) + 1) = ((i + 1 : Nat) : Int) := rfl
        rw [if_pos e] at he
        simp only [Bool.not_true, Bool.false_and, Bool.false_eq_true, if_false, Bool.true_or, List.nil_append] at he
        repeat' (first | (simp (disch := omega) only [go_sem, seval, reduceCtorEq, h1, h3, h4, e1, intPV, intsPV_length, Bool.not_true]) | ((first | apply x_split_cond | apply x_split_guard); all_goals (intro hb; (try simp only [Bool.not_eq_true', Bool.not_eq_false'] at hb); (simp (disch := omega) only [go_sem, seval, reduceCtorEq, h1, h3, h4, e1, intPV, intsPV_length, Bool.not_true, hb]); (try simp only [decide_eq_true_eq, decide_eq_false_iff_not, beq_iff_eq, beq_eq_false_iff_ne, ne_eq, bne_iff_ne, bne_eq_false_iff_eq, Decidable.not_not] at hb))))
        refine i_lk (W_round ?_)
        (try simp (disch := omega) only [go_sem, seval, reduceCtorEq])
        exact ih (i + 1) o true (by omega) he (by omega)
      · have e1 : (l[i] != v) = true := by simpa using e
        rw [if_neg e] at he
        simp only [Bool.not_true, Bool.false_and, Bool.false_eq_true, if_false, Bool.true_or, List.nil_append] at he
        repeat' (first | (simp (disch := omega) only [go_sem, seval, reduceCtorEq, h1, h3, h4, e1, intPV, intsPV_length, intsPV_sing, intsPV_sz, intsPV_append, List.take_length, List.length_append, maxB, Bool.not_true]) | ((first | apply x_split_cond | apply x_split_guard); all_goals (intro hb; (try simp only [Bool.not_eq_true', Bool.not_eq_false'] at hb); (simp (disch := omega) only [go_sem, seval, reduceCtorEq, h1, h3, h4, e1, intPV, intsPV_length, intsPV_sing, intsPV_sz, intsPV_append, List.take_length, List.length_append, maxB, Bool.not_true, hb]); (try simp only [decide_eq_true_eq, decide_eq_false_iff_not, beq_iff_eq, beq_eq_false_iff_ne, ne_eq, bne_iff_ne, bne_eq_false_iff_eq, Decidable.not_not] at hb))))
        refine i_lk (W_round ?_)
        (try simp (disch := omega) only [go_sem, seval, reduceCtorEq])
        have := ih (i + 1) (o ++ [l[i]]) true (by omega) (by rw [he]; simp) (by simp; omega)
        simp only [List.length_append, List.length_cons, List.length_nil, Nat.zero_add] at this
        exact this
    | false =>
      by_cases g : v ≤ l[i]
      · by_cases e : l[i] = v
        · have e1 : (l[i] != v) = false := by simpa using e
          rw [if_pos e] at he
          simp only [Bool.not_false, Bool.true_and, decide_eq_true_eq, g, if_true, Bool.false_or, decide_true, List.nil_append] at he
          repeat' (first | (simp (disch := omega) only [go_sem, seval, reduceCtorEq, h1, h3, h4, e1, g, intPV, intsPV_length, intsPV_sing, intsPV_sz, intsPV_append, List.take_length, List.length_append, maxB, Bool.not_false]) | ((first | apply x_split_cond | apply x_split_guard); all_goals (intro hb; (try simp only [Bool.not_eq_true', Bool.not_eq_false'] at hb); (simp (disch := omega) only [go_sem, seval, reduceCtorEq, h1, h3, h4, e1, g, intPV, intsPV_length, intsPV_sing, intsPV_sz, intsPV_append, List.take_length, List.length_append, maxB, Bool.not_false, hb]); (try simp only [decide_eq_true_eq, decide_eq_false_iff_not, beq_iff_eq, beq_eq_false_iff_ne, ne_eq, bne_iff_ne, bne_eq_false_iff_eq, Decidable.not_not] at hb))))
          refine i_lk (W_round ?_)
          (try simp (disch := omega) only [go_sem, seval, reduceCtorEq])
          have := ih (i + 1) (o ++ [v]) true (by omega) (by rw [he]; simp) (by simp; omega)
          simp only [List.length_append, List.length_cons, List.length_nil, Nat.zero_add] at this
          exact this
        · have e1 : (l[i] != v) = true := by simpa using e
          rw [if_neg e] at he
          simp only [Bool.not_false, Bool.true_and, decide_eq_true_eq, g, if_true, Bool.false_or, decide_true] at he
          repeat' (first | (simp (disch := omega) only [go_sem, seval, reduceCtorEq, h1, h3, h4, e1, g, intPV, intsPV_length, intsPV_sing, intsPV_sz, intsPV_append, List.take_length, List.length_append, maxB, Bool.not_false]) | ((first | apply x_split_cond | apply x_split_guard); all_goals (intro hb; (try simp only [Bool.not_eq_true', Bool.not_eq_false'] at hb); (simp (disch := omega) only [go_sem, seval, reduceCtorEq, h1, h3, h4, e1, g, intPV, intsPV_length, intsPV_sing, intsPV_sz, intsPV_append, List.take_length, List.length_append, maxB, Bool.not_false, hb]); (try simp only [decide_eq_true_eq, decide_eq_false_iff_not, beq_iff_eq, beq_eq_false_iff_ne, ne_eq, bne_iff_ne, bne_eq_false_iff_eq, Decidable.not_not] at hb))))
          refine i_lk (W_round ?_)
          (try simp (disch := omega) only [go_sem, seval, reduceCtorEq])
          have := ih (i + 1) (o ++ [v] ++ [l[i]]) true (by omega) (by rw [he]; simp) (by simp; omega)
          simp only [List.length_append, List.length_cons, List.length_nil, Nat.zero_add] at this
          exact this
      · have e : ¬ l[i] = v := by omega
        have e1 : (l[i] != v) = true := by simpa using e
        rw [if_neg e] at he
        simp only [Bool.not_false, Bool.true_and, decide_eq_true_eq, g, if_false, Bool.false_or, decide_false, List.nil_append] at he
        repeat' (first | (simp (disch := omega) only [go_sem, seval, reduceCtorEq, h1, h3, h4, e1, g, intPV, intsPV_length, intsPV_sing, intsPV_sz, intsPV_append, List.take_length, List.length_append, maxB, Bool.not_false]) | ((first | apply x_split_cond | apply x_split_guard); all_goals (intro hb; (try simp only [Bool.not_eq_true', Bool.not_eq_false'] at hb); (simp (disch := omega) only [go_sem, seval, reduceCtorEq, h1, h3, h4, e1, g, intPV, intsPV_length, intsPV_sing, intsPV_sz, intsPV_append, List.take_length, List.length_append, maxB, Bool.not_false, hb]); (try simp only [decide_eq_true_eq, decide_eq_false_iff_not, beq_iff_eq, beq_eq_false_iff_ne, ne_eq, bne_iff_ne, bne_eq_false_iff_eq, Decidable.not_not] at hb))))
        refine i_lk (W_round ?_)
        (try simp (disch := omega) only [go_sem, seval, reduceCtorEq])
        have := ih (i + 1) (o ++ [l[i]]) false (by omega) (by rw [he]; simp) (by simp; omega)
        simp only [List.length_append, List.length_cons, List.length_nil, Nat.zero_add] at this
        exact this

theorem ps96 (l : List Int) (v : Int) (b : Bool) (hl : l.length ≤ 10000) : PS tb 96 [.slice b (intsPV l), .int .i64 v] (.slice false (intsPV (insGo v l false))) := by
  refine PS_of (af := a96) rfl rfl ?_
  unfold a96
  dsimp only [List.map, ofPV, initEnv]
  repeat' (first | (simp (disch := omega) only [go_sem, seval, reduceCtorEq, intsPV_length]) | ((first | apply x_split_cond | apply x_split_guard); all_goals (intro hb; (try simp only [Bool.not_eq_true', Bool.not_eq_false'] at hb); (simp (disch := omega) only [go_sem, seval, reduceCtorEq, intsPV_length, hb]); (try simp only [decide_eq_true_eq, decide_eq_false_iff_not, beq_iff_eq, beq_eq_false_iff_ne, ne_eq, bne_iff_ne, bne_eq_false_iff_eq, Decidable.not_not] at hb))))
  refine W_round ?_
  (try simp (disch := omega) only [go_sem, seval, reduceCtorEq])
  refine l96 l v b hl _ ?_ l.length 0 [] false (by omega) (by simp) (by simp)
  intro o d he ho
  rw [he]
  cases d with
  | true =>
    (try simp (disch := omega) only [go_sem, seval, reduceCtorEq, intsPV_sing, intsPV_sz, intsPV_length, intsPV_append, List.length_append, List.take_length, maxB, Bool.not_true])
    all_goals simp [pur, dep, insGo, intsPV_take]
  | false =>
    (try simp (disch := omega) only [go_sem, seval, reduceCtorEq, intsPV_sing, intsPV_sz, intsPV_length, intsPV_append, List.length_append, List.take_length, maxB, Bool.not_false])
    all_goals simp [pur, dep, insGo, intsPV_take, List.take_of_length_le]

theorem ps85 (m : M) (f : Fl) (term : Int) : PS tb 85 [.agg (mC m f), .int .i64 term] (.agg (mC (followM m term) ⟨f.a, true, true, true⟩)) := by
  refine PS_of (af := a85) rfl rfl ?_
  unfold a85
  dsimp only [List.map, ofPV, initEnv]
  repeat' (first | (simp (disch := omega) only [go_sem, seval, reduceCtorEq, mC]) | ((first | apply x_split_cond | apply x_split_guard); all_goals (intro hb; (try simp only [Bool.not_eq_true', Bool.not_eq_false'] at hb); (simp (disch := omega) only [go_sem, seval, reduceCtorEq, mC, hb]); (try simp only [decide_eq_true_eq, decide_eq_false_iff_not, beq_iff_eq, beq_eq_false_iff_ne, ne_eq, bne_iff_ne, bne_eq_false_iff_eq, Decidable.not_not] at hb))))
  all_goals rfl

def leadNx (m : M) (k : Nat) : List Int := List.replicate k (m.log.length : Int)

def leadMt (m : M) (k : Nat) : List Int := (List.range k).map fun j => if ((j + 1 : Nat) : Int) = m.id then (m.log.length : Int) else 0

theorem leadNx_len (m : M) (k : Nat) : (leadNx m k).length = k := by simp [leadNx]

theorem leadMt_len (m : M) (k : Nat) : (leadMt m k).length = k := by simp [leadMt]

theorem leadNx_succ (m : M) (k : Nat) : leadNx m (k + 1) = leadNx m k ++ [(m.log.length : Int)] := by simp [leadNx, List.replicate_succ']

theorem leadMt_succ (m : M) (k : Nat) : leadMt m (k + 1) = leadMt m k ++ [if ((k + 1 : Nat) : Int) = m.id then (m.log.length : Int) else 0] := by simp [leadMt, List.range_succ]

theorem leadMt_eq (m : M) (h : 1 ≤ m.id) : leadMt m m.members.toNat = (List.replicate m.members.toNat (0 : Int)).set (m.id - 1).toNat m.log.length := by
  refine List.ext_getElem (by simp [leadMt]) ?_
  intro i h1 h2
  simp only [leadMt, List.getElem_map, List.getElem_range, List.getElem_set, List.getElem_replicate]
  by_cases e : (m.id - 1).toNat = i
  · have : ((i + 1 : Nat) : Int) = m.id := by omega
    rw [if_pos this, if_pos e]
  · have : ¬ ((i + 1 : Nat) : Int) = m.id := by omega
    rw [if_neg this, if_neg e]

/-- The cells of a leader in the making. -/
def leC (m : M) (f : Fl) (k : Nat) : List DV := [.p (.int .i64 m.id), .p (.int .i64 m.members), .p (.int .i64 m.term), .p (.int .i64 m.vote), .p (.slice f.a (itemsPV m.log)), .p (.int .i64 3), .p (.int .i64 m.commit), .p (.slice true []), .ref 3 k 0 k, .ref 4 k 0 k]

def leH (m : M) (f : Fl) (k : Nat) : Heap := [(4, .row false 1 (intsPV (leadMt m k))), (3, .row false 1 (intsPV (leadNx m k))), (2, .var false (leC m f k)), (1, .var false (zC.map .p)), (0, .var false ((mC m f).map .p))]

def leE (m : M) (f : Fl) (k : Nat) : Heap := [(4, .row false 1 (intsPV (leadMt m k))), (3, .row false 1 (intsPV (leadNx m k))), (2, .var false (leC m f k)), (1, .var false (zC.map .p))]

theorem l130 (m : M) (f : Fl) (hm : m.members ≤ 10000) (hl : m.log.length ≤ 140737488355328) (K : Ex → St → Prop)
    (hx : K (.exit 0) ⟨[(2, .ptr 1 0), (3, .ptr 2 0)], leE m f m.members.toNat, 5, [0]⟩) : ∀ (n k : Nat), 1 ≤ k → k + n = m.members.toNat →
    W tb a130_l0 ⟨[(1, .ptr 0 0), (2, .ptr 1 0), (3, .ptr 2 0), (4, .p (.int .i64 (k + 1 : Nat)))], leH m f k, 5, [0]⟩ (LK tb (.ghost .lower a130_l0) K) := by
  intro n
  induction n with
  | zero =>
    intro k hk0 hk
    have h1 : ¬ ((k + 1 : Nat) : Int) ≤ m.members := by omega
    have e : k = m.members.toNat := by omega
    refine i_code (by unfold a130_l0; exact rfl) ?_
    repeat' (first | (simp (disch := omega) only [go_sem, seval, reduceCtorEq, h1, mC, zC, leH, leC]) | ((first | apply x_split_cond | apply x_split_guard); all_goals (intro hb; (try simp only [Bool.not_eq_true', Bool.not_eq_false'] at hb); (simp (disch := omega) only [go_sem, seval, reduceCtorEq, h1, mC, zC, leH, leC, hb]); (try simp only [decide_eq_true_eq, decide_eq_false_iff_not, beq_iff_eq, beq_eq_false_iff_ne, ne_eq, bne_iff_ne, bne_eq_false_iff_eq, Decidable.not_not] at hb))))
    subst e
    exact hx
  | succ n ih =>
    intro k hk0 hk
    have h1 : ((k + 1 : Nat) : Int) ≤ m.members := by omega
    have q1 := leadNx_len m k
    have q2 := leadMt_len m k
    have := ih (k + 1) (by omega) (by omega)
    simp only [leH, leC, leadNx_succ, leadMt_succ] at this
    refine i_code (by unfold a130_l0; exact rfl) ?_
    by_cases e : ((k + 1 : Nat) : Int) = m.id
    · have e1 : (((k + 1 : Nat) : Int) == m.id) = true := by simpa using e
      rw [if_pos e] at this
      repeat' (first | (simp (disch := omega) only [go_sem, seval, reduceCtorEq, h1, e1, mC, zC, leH, leC, q1, q2, itemsPV_length, intsPV_length, intsPV_sing, intsPV_sz, intsPV_append, List.take_length, List.length_append, maxB]) | ((first | apply x_split_cond | apply x_split_guard); all_goals (intro hb; (try simp only [Bool.not_eq_true', Bool.not_eq_false'] at hb); (simp (disch := omega) only [go_sem, seval, reduceCtorEq, h1, e1, mC, zC, leH, leC, q1, q2, itemsPV_length, intsPV_length, intsPV_sing, intsPV_sz, intsPV_append, List.take_length, List.length_append, maxB, hb]); (try simp only [decide_eq_true_eq, decide_eq_false_iff_not, beq_iff_eq, beq_eq_false_iff_ne, ne_eq, bne_iff_ne, bne_eq_false_iff_eq, Decidable.not_not] at hb))))
      refine i_lk (W_round ?_)
      (try simp (disch := omega) only [go_sem, seval, reduceCtorEq, mC, zC])
      exact this
    · have e1 : (((k + 1 : Nat) : Int) == m.id) = false := by simpa using e
      rw [if_neg e] at this
      repeat' (first | (simp (disch := omega) only [go_sem, seval, reduceCtorEq, h1, e1, mC, zC, leH, leC, q1, q2, itemsPV_length, intsPV_length, intsPV_sing, intsPV_sz, intsPV_append, List.take_length, List.length_append, maxB]) | ((first | apply x_split_cond | apply x_split_guard); all_goals (intro hb; (try simp only [Bool.not_eq_true', Bool.not_eq_false'] at hb); (simp (disch := omega) only [go_sem, seval, reduceCtorEq, h1, e1, mC, zC, leH, leC, q1, q2, itemsPV_length, intsPV_length, intsPV_sing, intsPV_sz, intsPV_append, List.take_length, List.length_append, maxB, hb]); (try simp only [decide_eq_true_eq, decide_eq_false_iff_not, beq_iff_eq, beq_eq_false_iff_ne, ne_eq, bne_iff_ne, bne_eq_false_iff_eq, Decidable.not_not] at hb))))
      refine i_lk (W_round ?_)
      (try simp (disch := omega) only [go_sem, seval, reduceCtorEq, mC, zC])
      exact this

theorem ps130 (m : M) (f : Fl) (hi : 1 ≤ m.id) (hm : m.members ≤ 10000) (hl : m.log.length ≤ 140737488355328) (hc : 1 ≤ m.members) : PS tb 130 [.agg (mC m f)] (.agg (mC (leadM m) ⟨f.a, true, false, false⟩)) := by
  have q1 := leadNx_len m m.members.toNat
  have q2 := leadMt_len m m.members.toNat
  have h1 : (1 : Int) ≤ m.members := hc
  have q3 : (leadNx m m.members.toNat).take m.members.toNat = leadNx m m.members.toNat := List.take_of_length_le (by omega)
  have q4 : (leadMt m m.members.toNat).take m.members.toNat = leadMt m m.members.toNat := List.take_of_length_le (by omega)
  have hL : leadM m = { m with role := 3, votes := [], next := leadNx m m.members.toNat, mtch := leadMt m m.members.toNat } := by rw [leadMt_eq m hi]; rfl
  have fin : ∀ (K : Ex → St → Prop) (H : Heap), K (.exit 0) ⟨[(2, .ptr 1 0), (3, .ptr 2 0)], leE m f m.members.toNat, 5, [0]⟩ → leH m f 1 = H →
      W tb a130_l0 ⟨[(1, .ptr 0 0), (2, .ptr 1 0), (3, .ptr 2 0), (4, .p (.int .i64 2))], H, 5, [0]⟩ (LK tb (.ghost .lower a130_l0) K) := by
    intro K H g1 g2
    subst g2
    exact l130 m f hm hl K g1 (m.members.toNat - 1) 1 (by omega) (by omega)
  refine PS_of (af := a130) rfl rfl ?_
  unfold a130
  dsimp only [List.map, ofPV, initEnv]
  rw [hL]
  repeat' (first | (simp (disch := omega) only [go_sem, seval, reduceCtorEq, mC, itemsPV_length]) | ((first | apply x_split_cond | apply x_split_guard); all_goals (intro hb; (try simp only [Bool.not_eq_true', Bool.not_eq_false'] at hb); (simp (disch := omega) only [go_sem, seval, reduceCtorEq, mC, itemsPV_length, hb]); (try simp only [decide_eq_true_eq, decide_eq_false_iff_not, beq_iff_eq, beq_eq_false_iff_ne, ne_eq, bne_iff_ne, bne_eq_false_iff_eq, Decidable.not_not] at hb))))
  refine W_round ?_
  (try simp (disch := omega) only [go_sem, seval, reduceCtorEq, mC, zC])
  refine i_code (by unfold a130_l0; exact rfl) ?_
  by_cases e : (1 : Int) = m.id
  · have e1 : ((1 : Int) == m.id) = true := by simpa using e
    have m1 : leadMt m 1 = [(m.log.length : Int)] := by simp [leadMt, e]
    repeat' (first | (simp (disch := omega) only [go_sem, seval, reduceCtorEq, h1, e1, mC, zC, itemsPV_length, intsPV_length, intsPV_sing, intsPV_sz, intsPV_append, List.take_length, List.length_append, maxB]) | ((first | apply x_split_cond | apply x_split_guard); all_goals (intro hb; (try simp only [Bool.not_eq_true', Bool.not_eq_false'] at hb); (simp (disch := omega) only [go_sem, seval, reduceCtorEq, h1, e1, mC, zC, itemsPV_length, intsPV_length, intsPV_sing, intsPV_sz, intsPV_append, List.take_length, List.length_append, maxB, hb]); (try simp only [decide_eq_true_eq, decide_eq_false_iff_not, beq_iff_eq, beq_eq_false_iff_ne, ne_eq, bne_iff_ne, bne_eq_false_iff_eq, Decidable.not_not] at hb))))
    refine i_lk (W_round ?_)
    (try simp (disch := omega) only [go_sem, seval, reduceCtorEq, mC, zC])
    refine fin _ _ ?_ (by simp only [leH, leC, m1]; rfl)
    · (try simp (disch := omega) only [go_sem, seval, reduceCtorEq, mC, zC, leE, leC])
      (simp (disch := omega) only [go_sem, seval, reduceCtorEq, q1, q2, q3, q4, leadM, intsPV_length, intsPV_take, List.take_length, intsPV_nil])
  · have e1 : ((1 : Int) == m.id) = false := by simpa using e
    have m1 : leadMt m 1 = [0] := by simp [leadMt, e]
    repeat' (first | (simp (disch := omega) only [go_sem, seval, reduceCtorEq, h1, e1, mC, zC, itemsPV_length, intsPV_length, intsPV_sing, intsPV_sz, intsPV_append, List.take_length, List.length_append, maxB]) | ((first | apply x_split_cond | apply x_split_guard); all_goals (intro hb; (try simp only [Bool.not_eq_true', Bool.not_eq_false'] at hb); (simp (disch := omega) only [go_sem, seval, reduceCtorEq, h1, e1, mC, zC, itemsPV_length, intsPV_length, intsPV_sing, intsPV_sz, intsPV_append, List.take_length, List.length_append, maxB, hb]); (try simp only [decide_eq_true_eq, decide_eq_false_iff_not, beq_iff_eq, beq_eq_false_iff_ne, ne_eq, bne_iff_ne, bne_eq_false_iff_eq, Decidable.not_not] at hb))))
    refine i_lk (W_round ?_)
    (try simp (disch := omega) only [go_sem, seval, reduceCtorEq, mC, zC])
    refine fin _ _ ?_ (by simp only [leH, leC, m1]; rfl)
    · (try simp (disch := omega) only [go_sem, seval, reduceCtorEq, mC, zC, leE, leC])
      (simp (disch := omega) only [go_sem, seval, reduceCtorEq, q1, q2, q3, q4, leadM, intsPV_length, intsPV_take, List.take_length, intsPV_nil])

theorem ps86 (m : M) (f : Fl) (hi : 1 ≤ m.id) (hm : m.members ≤ 10000) (hl : m.log.length ≤ 140737488355328) (hv : m.votes.length ≤ 140737488355328) (hc : 1 ≤ m.members) : ∃ g, PS tb 86 [.agg (mC m f)] (.agg (mC (wonM m) g)) := by
  by_cases h : maj m.members ≤ (m.votes.length : Int)
  · refine ⟨⟨f.a, true, false, false⟩, PS_of (af := a86) rfl rfl ?_⟩
    have hw : wonM m = leadM m := if_pos h
    have q := ps130 m f hi hm hl hc
    rw [hw]
    unfold a86
    dsimp only [List.map, ofPV, initEnv]
    repeat' (first | (simp (disch := omega) only [go_sem, seval, reduceCtorEq, mC, h, intsPV_length]) | (apply x_pure; iterate 5 (first | exact ps26 m.members (by omega) | exact q | ((try simp (disch := omega) only [go_sem, seval, reduceCtorEq, mC, h, intsPV_length]) <;> with_reducible exact rfl))) | ((first | apply x_split_cond | apply x_split_guard); all_goals (intro hb; (try simp only [Bool.not_eq_true', Bool.not_eq_false'] at hb); (simp (disch := omega) only [go_sem, seval, reduceCtorEq, mC, h, intsPV_length, hb]); (try simp only [decide_eq_true_eq, decide_eq_false_iff_not, beq_iff_eq, beq_eq_false_iff_ne, ne_eq, bne_iff_ne, bne_eq_false_iff_eq, Decidable.not_not] at hb))))
    all_goals rfl
  · refine ⟨f, PS_of (af := a86) rfl rfl ?_⟩
    have hw : wonM m = m := if_neg h
    rw [hw]
    unfold a86
    dsimp only [List.map, ofPV, initEnv]
    repeat' (first | (simp (disch := omega) only [go_sem, seval, reduceCtorEq, mC, h, intsPV_length]) | (apply x_pure; iterate 5 (first | exact ps26 m.members (by omega) | ((try simp (disch := omega) only [go_sem, seval, reduceCtorEq, mC, h, intsPV_length]) <;> with_reducible exact rfl))) | ((first | apply x_split_cond | apply x_split_guard); all_goals (intro hb; (try simp only [Bool.not_eq_true', Bool.not_eq_false'] at hb); (simp (disch := omega) only [go_sem, seval, reduceCtorEq, mC, h, intsPV_length, hb]); (try simp only [decide_eq_true_eq, decide_eq_false_iff_not, beq_iff_eq, beq_eq_false_iff_ne, ne_eq, bne_iff_ne, bne_eq_false_iff_eq, Decidable.not_not] at hb))))
    all_goals rfl

end Go.Dv.Try
