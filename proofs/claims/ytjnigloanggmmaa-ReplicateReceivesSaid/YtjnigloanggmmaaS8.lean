/-
  Specifications of the functions of this claim, parts 8, 9, 10, 11.
-/
import Derived.Test.YtjnigloanggmmaaTab
import Derived.Test.YtjnigloanggmmaaStep
import Derived.Test.YtjnigloanggmmaaS1
import Derived.Test.YtjnigloanggmmaaS7
set_option linter.unusedVariables false
set_option linter.unusedSimpArgs false
set_option maxRecDepth 100000
set_option maxHeartbeats 16000000
namespace Go.Dv.Try
open Go Go.Dv

theorem l39 (l : List (Int × ByteArray)) (b c : Bool) (hl : l.length ≤ 140737488355328) (K : Ex → St → Prop)
    (hx : K (.exit 0) ⟨[], [], 0, [0]⟩) : ∀ (n i : Nat), i + n = l.length →
    W tb a39_l0 ⟨[(0, .p (.slice b (itemsPV l))), (1, .p (.slice c (itemsPV l))), (5, .p (.int .i64 i))], [], 0, [0]⟩ (LK tb (.ghost .lower a39_l0) K) := by
  intro n
  induction n with
  | zero =>
    intro i hi
    have h1 : ¬ (i : Int) < l.length := by omega
    refine i_code (by unfold a39_l0; exact rfl) ?_
    repeat' (first | (simp (disch := omega) only [go_sem, seval, reduceCtorEq, h1, itemsPV_length]) | ((first | apply x_split_cond | apply x_split_guard); all_goals (intro hb; (try simp only [Bool.not_eq_true', Bool.not_eq_false'] at hb); (simp (disch := omega) only [go_sem, seval, reduceCtorEq, h1, itemsPV_length, hb]); (try simp only [decide_eq_true_eq, decide_eq_false_iff_not, beq_iff_eq, beq_eq_false_iff_ne, ne_eq, bne_iff_ne, bne_eq_false_iff_eq, Decidable.not_not] at hb))))
    exact hx
  | succ n ih =>
    intro i hi
    have h1 : (i : Int) < l.length := by omega
    have h2 : i < l.length := by omega
    have h3 := itemsPV_get l i h2
    have h4 : (0 : Int) ≤ i := by omega
    refine i_code (by unfold a39_l0; exact rfl) ?_
    repeat' (first | (simp (disch := omega) only [go_sem, seval, reduceCtorEq, h1, h3, h4, itemPV, itemsPV_length]) | ((first | apply x_split_cond | apply x_split_guard); all_goals (intro hb; (try simp only [Bool.not_eq_true', Bool.not_eq_false'] at hb); (simp (disch := omega) only [go_sem, seval, reduceCtorEq, h1, h3, h4, itemPV, itemsPV_length, hb]); (try simp only [decide_eq_true_eq, decide_eq_false_iff_not, beq_iff_eq, beq_eq_false_iff_ne, ne_eq, bne_iff_ne, bne_eq_false_iff_eq, Decidable.not_not] at hb))))
    refine i_lk (W_round ?_)
    (try simp (disch := omega) only [go_sem, seval, reduceCtorEq])
    exact ih (i + 1) (by omega)

theorem ps39 (l : List (Int × ByteArray)) (b c : Bool) (hl : l.length ≤ 140737488355328) : PS tb 39 [.slice b (itemsPV l), .slice c (itemsPV l)] (.bool true) := by
  refine PS_of (af := a39) rfl rfl ?_
  unfold a39
  dsimp only [List.map, ofPV, initEnv]
  repeat' (first | (simp (disch := omega) only [go_sem, seval, reduceCtorEq, itemsPV_length]) | ((first | apply x_split_cond | apply x_split_guard); all_goals (intro hb; (try simp only [Bool.not_eq_true', Bool.not_eq_false'] at hb); (simp (disch := omega) only [go_sem, seval, reduceCtorEq, itemsPV_length, hb]); (try simp only [decide_eq_true_eq, decide_eq_false_iff_not, beq_iff_eq, beq_eq_false_iff_ne, ne_eq, bne_iff_ne, bne_eq_false_iff_eq, Decidable.not_not] at hb))))
  refine W_round ?_
  (try simp (disch := omega) only [go_sem, seval, reduceCtorEq])
  refine l39 l b c hl _ ?_ l.length 0 (by omega)
  (try simp (disch := omega) only [go_sem, seval, reduceCtorEq])
  all_goals simp [pur, dep]

theorem l74 (l : List Int) (b c : Bool) (hl : l.length ≤ 140737488355328) (K : Ex → St → Prop)
    (hx : K (.exit 0) ⟨[], [], 0, [0]⟩) : ∀ (n i : Nat), i + n = l.length →
    W tb a74_l0 ⟨[(0, .p (.slice b (intsPV l))), (1, .p (.slice c (intsPV l))), (5, .p (.int .i64 i))], [], 0, [0]⟩ (LK tb (.ghost .lower a74_l0) K) := by
  intro n
  induction n with
  | zero =>
    intro i hi
    have h1 : ¬ (i : Int) < l.length := by omega
    refine i_code (by unfold a74_l0; exact rfl) ?_
    repeat' (first | (simp (disch := omega) only [go_sem, seval, reduceCtorEq, h1, intsPV_length]) | ((first | apply x_split_cond | apply x_split_guard); all_goals (intro hb; (try simp only [Bool.not_eq_true', Bool.not_eq_false'] at hb); (simp (disch := omega) only [go_sem, seval, reduceCtorEq, h1, intsPV_length, hb]); (try simp only [decide_eq_true_eq, decide_eq_false_iff_not, beq_iff_eq, beq_eq_false_iff_ne, ne_eq, bne_iff_ne, bne_eq_false_iff_eq, Decidable.not_not] at hb))))
    exact hx
  | succ n ih =>
    intro i hi
    have h1 : (i : Int) < l.length := by omega
    have h2 : i < l.length := by omega
    have h3 := intsPV_get l i h2
    have h4 : (0 : Int) ≤ i := by omega
    refine i_code (by unfold a74_l0; exact rfl) ?_
    repeat' (first | (simp (disch := omega) only [go_sem, seval, reduceCtorEq, h1, h3, h4, intPV, intsPV_length]) | ((first | apply x_split_cond | apply x_split_guard); all_goals (intro hb; (try simp only [Bool.not_eq_true', Bool.not_eq_false'] at hb); (simp (disch := omega) only [go_sem, seval, reduceCtorEq, h1, h3, h4, intPV, intsPV_length, hb]); (try simp only [decide_eq_true_eq, decide_eq_false_iff_not, beq_iff_eq, beq_eq_false_iff_ne, ne_eq, bne_iff_ne, bne_eq_false_iff_eq, Decidable.not_not] at hb))))
    refine i_lk (W_round ?_)
    (try simp (disch := omega) only [go_sem, seval, reduceCtorEq])
    exact ih (i + 1) (by omega)

theorem ps74 (l : List Int) (b c : Bool) (hl : l.length ≤ 140737488355328) : PS tb 74 [.slice b (intsPV l), .slice c (intsPV l)] (.bool true) := by
  refine PS_of (af := a74) rfl rfl ?_
  unfold a74
  dsimp only [List.map, ofPV, initEnv]
  repeat' (first | (simp (disch := omega) only [go_sem, seval, reduceCtorEq, intsPV_length]) | ((first | apply x_split_cond | apply x_split_guard); all_goals (intro hb; (try simp only [Bool.not_eq_true', Bool.not_eq_false'] at hb); (simp (disch := omega) only [go_sem, seval, reduceCtorEq, intsPV_length, hb]); (try simp only [decide_eq_true_eq, decide_eq_false_iff_not, beq_iff_eq, beq_eq_false_iff_ne, ne_eq, bne_iff_ne, bne_eq_false_iff_eq, Decidable.not_not] at hb))))
  refine W_round ?_
  (try simp (disch := omega) only [go_sem, seval, reduceCtorEq])
  refine l74 l b c hl _ ?_ l.length 0 (by omega)
  (try simp (disch := omega) only [go_sem, seval, reduceCtorEq])
  all_goals simp [pur, dep]

theorem ps27 (m : M) (f g : Fl) (hm : MIn m) : PS tb 27 [.agg (mC m f), .agg (mC m g)] (.bool true) := by
  have := hm.lo; have := hm.vo; have := hm.ne; have := hm.ma
  refine PS_of (af := a27) rfl rfl ?_
  unfold a27
  dsimp only [List.map, ofPV, initEnv]
  repeat' (first | (simp (disch := omega) only [go_sem, seval, reduceCtorEq, mC]) | (apply x_pure; iterate 5 (first | exact ps39 _ _ _ (by omega) | exact ps74 _ _ _ (by omega) | ((try simp (disch := omega) only [go_sem, seval, reduceCtorEq, mC]) <;> with_reducible exact rfl))) | ((first | apply x_split_cond | apply x_split_guard); all_goals (intro hb; (try simp only [Bool.not_eq_true', Bool.not_eq_false'] at hb); (simp (disch := omega) only [go_sem, seval, reduceCtorEq, mC, hb]); (try simp only [decide_eq_true_eq, decide_eq_false_iff_not, beq_iff_eq, beq_eq_false_iff_ne, ne_eq, bne_iff_ne, bne_eq_false_iff_eq, Decidable.not_not] at hb))))
  all_goals simp [pur, dep]

structure X where
  kind : Int
  frm : Int
  to : Int
  term : Int
  index : Int
  logTerm : Int
  commit : Int
  ok : Bool
  items : List (Int × ByteArray)

def xC (x : X) (f : Bool) : List PV := [.int .i64 x.kind, .int .i64 x.frm, .int .i64 x.to, .int .i64 x.term, .int .i64 x.index, .int .i64 x.logTerm, .int .i64 x.commit, .bool x.ok, .slice f (itemsPV x.items)]

def few (m : M) (x : X) : Bool := few98 m.log && few98 x.items && decide (m.votes.length ≤ 40) && decide (m.next.length ≤ 40) && decide (m.mtch.length ≤ 40)

theorem ps45 (m : M) (f : Fl) (x : X) (g : Bool) : PS tb 45 [.agg (mC m f), .agg (xC x g)] (.bool (few m x)) := by
  refine PS_of (af := a45) rfl rfl ?_
  unfold a45
  dsimp only [List.map, ofPV, initEnv]
  repeat' (first | (simp (disch := omega) only [go_sem, seval, reduceCtorEq, mC, xC, itemsPV_length, intsPV_length]) | (apply x_pure; iterate 5 (first | exact ps98 _ _ | ((try simp (disch := omega) only [go_sem, seval, reduceCtorEq, mC, xC, itemsPV_length, intsPV_length]) <;> with_reducible exact rfl))) | ((first | apply x_split_cond | apply x_split_guard); all_goals (intro hb; (try simp only [Bool.not_eq_true', Bool.not_eq_false'] at hb); (simp (disch := omega) only [go_sem, seval, reduceCtorEq, mC, xC, itemsPV_length, intsPV_length, hb]); (try simp only [decide_eq_true_eq, decide_eq_false_iff_not, beq_iff_eq, beq_eq_false_iff_ne, ne_eq, bne_iff_ne, bne_eq_false_iff_eq, Decidable.not_not] at hb))))
  all_goals (simp only [pur, dep, Option.some.injEq, PV.bool.injEq, PV.int.injEq, true_and] <;> grind [few])

def cnt (l : List Int) (n : Int) : Nat := l.countP (fun x => decide (n ≤ x))

theorem cnt_step (l : List Int) (n : Int) (i : Nat) (h : i < l.length) : cnt (l.take (i + 1)) n = cnt (l.take i) n + if n ≤ l[i] then 1 else 0 := by
  rw [cnt, List.take_add_one, List.getElem?_eq_getElem h, List.countP_append]
  simp [cnt]

theorem cnt_le (l : List Int) (n : Int) : cnt l n ≤ l.length := List.countP_le_length

theorem l135 (l : List Int) (b : Bool) (x : Int) (hl : l.length ≤ 140737488355328) (K : Ex → St → Prop)
    (hx : K (.exit 0) ⟨[(5, .p (.int .i64 (cnt l x)))], [], 0, [0]⟩) : ∀ (n i : Nat), i + n = l.length →
    W tb a135_l0 ⟨[(1, .p (.int .i64 x)), (5, .p (.int .i64 (cnt (l.take i) x))), (9, .p (.slice b (intsPV l))), (10, .p (.int .i64 l.length)), (11, .p (.int .i64 i))], [], 0, [0]⟩ (LK tb (.ghost (.free [2]) (.ghost .lower a135_l0)) K) := by
  intro n
  induction n with
  | zero =>
    intro i hi
    have h1 : ¬ (i : Int) < l.length := by omega
    refine i_code (by unfold a135_l0; exact rfl) ?_
    rw [List.take_of_length_le (by omega)]
    repeat' (first | (simp (disch := omega) only [go_sem, seval, reduceCtorEq, h1, intsPV_length]) | ((first | apply x_split_cond | apply x_split_guard); all_goals (intro hb; (try simp only [Bool.not_eq_true', Bool.not_eq_false'] at hb); (simp (disch := omega) only [go_sem, seval, reduceCtorEq, h1, intsPV_length, hb]); (try simp only [decide_eq_true_eq, decide_eq_false_iff_not, beq_iff_eq, beq_eq_false_iff_ne, ne_eq, bne_iff_ne, bne_eq_false_iff_eq, Decidable.not_not] at hb))))
    exact hx
  | succ n ih =>
    intro i hi
    have h1 : (i : Int) < l.length := by omega
    have h2 : i < l.length := by omega
    have h3 := intsPV_get l i h2
    have h4 : (0 : Int) ≤ i := by omega
    have h5 := cnt_step l x i h2
    have h6 := cnt_le (l.take i) x
    have h7 : (l.take i).length ≤ i := List.length_take_le ..
    refine i_code (by unfold a135_l0; exact rfl) ?_
    repeat' (first | (simp (disch := omega) only [go_sem, seval, reduceCtorEq, h1, h3, h4, intPV, intsPV_length]) | ((first | apply x_split_cond | apply x_split_guard); all_goals (intro hb; (try simp only [Bool.not_eq_true', Bool.not_eq_false'] at hb); (simp (disch := omega) only [go_sem, seval, reduceCtorEq, h1, h3, h4, intPV, intsPV_length, hb]); (try simp only [decide_eq_true_eq, decide_eq_false_iff_not, beq_iff_eq, beq_eq_false_iff_ne, ne_eq, bne_iff_ne, bne_eq_false_iff_eq, Decidable.not_not] at hb))))
    · refine i_lk (W_round ?_)
      (try simp (disch := omega) only [go_sem, seval, reduceCtorEq])
      rw [if_pos hb] at h5
      have := ih (i + 1) (by omega)
      rw [h5] at this
      exact this
    · refine i_lk (W_round ?_)
      (try simp (disch := omega) only [go_sem, seval, reduceCtorEq])
      rw [if_neg hb] at h5
      have := ih (i + 1) (by omega)
      rw [h5] at this
      exact this

theorem ps135 (m : M) (f : Fl) (x : Int) (hl : m.mtch.length ≤ 140737488355328) : PS tb 135 [.agg (mC m f), .int .i64 x] (.int .i64 (cnt m.mtch x)) := by
  refine PS_of (af := a135) rfl rfl ?_
  unfold a135
  dsimp only [List.map, ofPV, initEnv]
  repeat' (first | (simp (disch := omega) only [go_sem, seval, reduceCtorEq, mC, intsPV_length]) | ((first | apply x_split_cond | apply x_split_guard); all_goals (intro hb; (try simp only [Bool.not_eq_true', Bool.not_eq_false'] at hb); (simp (disch := omega) only [go_sem, seval, reduceCtorEq, mC, intsPV_length, hb]); (try simp only [decide_eq_true_eq, decide_eq_false_iff_not, beq_iff_eq, beq_eq_false_iff_ne, ne_eq, bne_iff_ne, bne_eq_false_iff_eq, Decidable.not_not] at hb))))
  refine W_round ?_
  (try simp (disch := omega) only [go_sem, seval, reduceCtorEq])
  refine l135 m.mtch f.d x hl _ ?_ m.mtch.length 0 (by omega)
  (try simp (disch := omega) only [go_sem, seval, reduceCtorEq])
  all_goals simp [pur, dep]

def itTerm (l : List (Int × ByteArray)) (i : Nat) : Int := (l.getD i (0, ByteArray.empty)).1

theorem itTerm_eq (l : List (Int × ByteArray)) (i : Nat) (h : i < l.length) : itTerm l i = l[i].1 := by simp [itTerm, List.getD, h]

/-- The commit rule, from so many items downwards. -/
def comm (m : M) : Nat → Int
  | 0 => m.commit
  | k + 1 => if m.commit < (k + 1 : Nat) ∧ itTerm m.log k = m.term ∧ maj m.members ≤ cnt m.mtch (k + 1 : Nat) then (k + 1 : Nat) else comm m k

def commOf (m : M) : Int := comm m m.log.length

theorem comm_low (m : M) (k : Nat) (h : (k : Int) ≤ m.commit) : comm m k = m.commit := by
  induction k with
  | zero => rfl
  | succ k ih => rw [comm, if_neg (by omega), ih (by omega)]

theorem l102 (m : M) (f : Fl) (hl : m.log.length ≤ 140737488355328) (hq : m.mtch.length ≤ 140737488355328) (hm : m.members ≤ 9223372036854775807) (hc : 0 ≤ m.commit) (K : Ex → St → Prop)
    (hx : commOf m = m.commit → K (.exit 0) ⟨[(1, .ptr 0 0)], [(0, .var false ((mC m f).map .p))], 1, [0]⟩)
    (hr : ∀ s, aget s.env 2 = some (.p (.int .i64 (commOf m))) → K .ret s) :
    ∀ (n : Nat), n ≤ m.log.length → comm m n = commOf m →
    W tb a102_l0 ⟨[(1, .ptr 0 0), (3, .p (.int .i64 n))], [(0, .var false ((mC m f).map .p))], 1, [0]⟩ (LK tb (.ghost .lower a102_l0) K) := by
  intro n
  induction n with
  | zero =>
    intro hi he
    have h1 : ¬ m.commit < 0 := by omega
    refine i_code (by unfold a102_l0; exact rfl) ?_
    repeat' (first | (simp (disch := omega) only [go_sem, seval, reduceCtorEq, h1, intsPV_length, mC]) | ((first | apply x_split_cond | apply x_split_guard); all_goals (intro hb; (try simp only [Bool.not_eq_true', Bool.not_eq_false'] at hb); (simp (disch := omega) only [go_sem, seval, reduceCtorEq, h1, intsPV_length, mC, hb]); (try simp only [decide_eq_true_eq, decide_eq_false_iff_not, beq_iff_eq, beq_eq_false_iff_ne, ne_eq, bne_iff_ne, bne_eq_false_iff_eq, Decidable.not_not] at hb))))
    exact hx (he ▸ rfl)
  | succ n ih =>
    intro hi he
    refine i_code (by unfold a102_l0; exact rfl) ?_
    by_cases h1 : m.commit < ((n + 1 : Nat) : Int)
    · have h2 : n < m.log.length := by omega
      have h3 := itemsPV_get m.log n h2
      have h4 : (0 : Int) ≤ ((n + 1 : Nat) : Int) - 1 := by omega
      have h5 : (((n + 1 : Nat) : Int) - 1).toNat = n := by omega
      have h6 : ((n + 1 : Nat) : Int) - 1 = (n : Nat) := by omega
      have h7 : (0 : Int) ≤ (n : Nat) := by omega
      rw [comm, itTerm_eq _ _ h2] at he
      repeat' (first | (simp (disch := omega) only [go_sem, seval, reduceCtorEq, h1, h3, h5, h6, h7, itemPV, itemsPV_length, mC]) | (apply x_pure; iterate 5 (first | exact ps135 m f _ hq | exact ps25 _ hm | ((try simp (disch := omega) only [go_sem, seval, reduceCtorEq, h1, h3, h5, h6, h7, itemPV, itemsPV_length, mC]) <;> with_reducible exact rfl))) | ((first | apply x_split_cond | apply x_split_guard); all_goals (intro hb; (try simp only [Bool.not_eq_true', Bool.not_eq_false'] at hb); (simp (disch := omega) only [go_sem, seval, reduceCtorEq, h1, h3, h5, h6, h7, itemPV, itemsPV_length, mC, hb]); (try simp only [decide_eq_true_eq, decide_eq_false_iff_not, beq_iff_eq, beq_eq_false_iff_ne, ne_eq, bne_iff_ne, bne_eq_false_iff_eq, Decidable.not_not] at hb))))
      · rename_i hb0
        refine hr _ ?_
        rw [if_pos (by grind)] at he
        rw [← he]; rfl
      · refine i_lk (W_round ?_)
        (try simp (disch := omega) only [go_sem, seval, reduceCtorEq, mC])
        exact ih (by omega) (by rw [if_neg (by grind)] at he; exact he)
      · refine i_lk (W_round ?_)
        (try simp (disch := omega) only [go_sem, seval, reduceCtorEq, mC])
        exact ih (by omega) (by rw [if_neg (by grind)] at he; exact he)
    · repeat' (first | (simp (disch := omega) only [go_sem, seval, reduceCtorEq, h1, intsPV_length, mC]) | ((first | apply x_split_cond | apply x_split_guard); all_goals (intro hb; (try simp only [Bool.not_eq_true', Bool.not_eq_false'] at hb); (simp (disch := omega) only [go_sem, seval, reduceCtorEq, h1, intsPV_length, mC, hb]); (try simp only [decide_eq_true_eq, decide_eq_false_iff_not, beq_iff_eq, beq_eq_false_iff_ne, ne_eq, bne_iff_ne, bne_eq_false_iff_eq, Decidable.not_not] at hb))))
      exact hx (by rw [← he, comm_low m _ (by omega)])

theorem ps102 (m : M) (f : Fl) (hl : m.log.length ≤ 140737488355328) (hq : m.mtch.length ≤ 140737488355328) (hm : m.members ≤ 9223372036854775807) (hc : 0 ≤ m.commit) : PS tb 102 [.agg (mC m f)] (.int .i64 (commOf m)) := by
  refine PS_of (af := a102) rfl rfl ?_
  unfold a102
  dsimp only [List.map, ofPV, initEnv]
  repeat' (first | (simp (disch := omega) only [go_sem, seval, reduceCtorEq, mC, itemsPV_length]) | ((first | apply x_split_cond | apply x_split_guard); all_goals (intro hb; (try simp only [Bool.not_eq_true', Bool.not_eq_false'] at hb); (simp (disch := omega) only [go_sem, seval, reduceCtorEq, mC, itemsPV_length, hb]); (try simp only [decide_eq_true_eq, decide_eq_false_iff_not, beq_iff_eq, beq_eq_false_iff_ne, ne_eq, bne_iff_ne, bne_eq_false_iff_eq, Decidable.not_not] at hb))))
  refine W_round ?_
  (try simp (disch := omega) only [go_sem, seval, reduceCtorEq])
  refine l102 m f hl hq hm hc _ ?_ ?_ m.log.length (Nat.le_refl _) rfl
  · intro ha
    (try simp (disch := omega) only [go_sem, seval, reduceCtorEq, mC])
    all_goals simp [pur, dep, ha]
  · intro s hs
    (try simp (disch := omega) only [go_sem, seval, reduceCtorEq, hs])
    all_goals simp [pur, dep]

/-- A member of zeros. -/
def zC : List PV := [.int .i64 0, .int .i64 0, .int .i64 0, .int .i64 0, .slice true [], .int .i64 0, .int .i64 0, .slice true [], .slice true [], .slice true []]

theorem l105a (m : M) (f : Fl) (x : Int) (hl : m.mtch.length ≤ 140737488355328) (K : Ex → St → Prop)
    (hx : K (.exit 2) ⟨[(1, .ptr 0 0), (2, .ptr 1 0), (3, .p (.int .i64 x)), (4, .p (.int .i64 (cnt m.mtch x)))], [(1, .var false (zC.map .p)), (0, .var false ((mC m f).map .p))], 2, [0]⟩) : ∀ (n i : Nat), i + n = m.mtch.length →
    W tb a105_l0 ⟨[(1, .ptr 0 0), (2, .ptr 1 0), (3, .p (.int .i64 x)), (4, .p (.int .i64 (cnt (m.mtch.take i) x))), (5, .p (.int .i64 i))], [(1, .var false (zC.map .p)), (0, .var false ((mC m f).map .p))], 2, [0]⟩ (LK tb (.ghost .lower a105_l0) K) := by
  intro n
  induction n with
  | zero =>
    intro i hi
    have h1 : ¬ (i : Int) < m.mtch.length := by omega
    refine i_code (by unfold a105_l0; exact rfl) ?_
    rw [List.take_of_length_le (by omega)]
    repeat' (first | (simp (disch := omega) only [go_sem, seval, reduceCtorEq, h1, intsPV_length, mC, zC]) | ((first | apply x_split_cond | apply x_split_guard); all_goals (intro hb; (try simp only [Bool.not_eq_true', Bool.not_eq_false'] at hb); (simp (disch := omega) only [go_sem, seval, reduceCtorEq, h1, intsPV_length, mC, zC, hb]); (try simp only [decide_eq_true_eq, decide_eq_false_iff_not, beq_iff_eq, beq_eq_false_iff_ne, ne_eq, bne_iff_ne, bne_eq_false_iff_eq, Decidable.not_not] at hb))))
    exact hx
  | succ n ih =>
    intro i hi
    have h1 : (i : Int) < m.mtch.length := by omega
    have h2 : i < m.mtch.length := by omega
    have h3 := intsPV_get m.mtch i h2
    have h4 : (0 : Int) ≤ i := by omega
    have h5 := cnt_step m.mtch x i h2
    have h6 := cnt_le (m.mtch.take i) x
    have h7 : (m.mtch.take i).length ≤ i := List.length_take_le ..
    refine i_code (by unfold a105_l0; exact rfl) ?_
    repeat' (first | (simp (disch := omega) only [go_sem, seval, reduceCtorEq, h1, h3, h4, intPV, intsPV_length, mC, zC]) | ((first | apply x_split_cond | apply x_split_guard); all_goals (intro hb; (try simp only [Bool.not_eq_true', Bool.not_eq_false'] at hb); (simp (disch := omega) only [go_sem, seval, reduceCtorEq, h1, h3, h4, intPV, intsPV_length, mC, zC, hb]); (try simp only [decide_eq_true_eq, decide_eq_false_iff_not, beq_iff_eq, beq_eq_false_iff_ne, ne_eq, bne_iff_ne, bne_eq_false_iff_eq, Decidable.not_not] at hb))))
    · refine i_lk (W_round ?_)
      (try simp (disch := omega) only [go_sem, seval, reduceCtorEq, mC, zC])
      rw [if_pos hb] at h5
      have := ih (i + 1) (by omega)
      rw [h5] at this
      exact this
    · refine i_lk (W_round ?_)
      (try simp (disch := omega) only [go_sem, seval, reduceCtorEq, mC, zC])
      rw [if_neg hb] at h5
      have := ih (i + 1) (by omega)
      rw [h5] at this
      exact this

theorem l105 (m : M) (f : Fl) (hl : m.log.length ≤ 140737488355328) (hq : m.mtch.length ≤ 140737488355328) (hm : m.members ≤ 9223372036854775807) (hc : 0 ≤ m.commit) (K : Ex → St → Prop)
    (hx : commOf m = m.commit → K (.exit 0) ⟨[(1, .ptr 0 0), (2, .ptr 1 0)], [(1, .var false (zC.map .p)), (0, .var false ((mC m f).map .p))], 2, [0]⟩)
    (hr : ∀ s c, aget s.env 2 = some (.ptr 1 0) → aget s.heap 1 = some (.var c ((mC { m with commit := commOf m } f).map .p)) → K .ret s) :
    ∀ (n : Nat), n ≤ m.log.length → comm m n = commOf m →
    W tb a105_l1 ⟨[(1, .ptr 0 0), (2, .ptr 1 0), (3, .p (.int .i64 n))], [(1, .var false (zC.map .p)), (0, .var false ((mC m f).map .p))], 2, [0]⟩ (LK tb (.ghost .lower a105_l1) K) := by
  intro n
  induction n with
  | zero =>
    intro hi he
    have h1 : ¬ m.commit < 0 := by omega
    refine i_code (by unfold a105_l1; exact rfl) ?_
    repeat' (first | (simp (disch := omega) only [go_sem, seval, reduceCtorEq, h1, intsPV_length, mC, zC]) | ((first | apply x_split_cond | apply x_split_guard); all_goals (intro hb; (try simp only [Bool.not_eq_true', Bool.not_eq_false'] at hb); (simp (disch := omega) only [go_sem, seval, reduceCtorEq, h1, intsPV_length, mC, zC, hb]); (try simp only [decide_eq_true_eq, decide_eq_false_iff_not, beq_iff_eq, beq_eq_false_iff_ne, ne_eq, bne_iff_ne, bne_eq_false_iff_eq, Decidable.not_not] at hb))))
    exact hx (he ▸ rfl)
  | succ n ih =>
    intro hi he
    refine i_code (by unfold a105_l1; exact rfl) ?_
    by_cases h1 : m.commit < ((n + 1 : Nat) : Int)
    · have h2 : n < m.log.length := by omega
      have h3 := itemsPV_get m.log n h2
      have h6 : ((n + 1 : Nat) : Int) - 1 = (n : Nat) := by omega
      have h7 : (0 : Int) ≤ (n : Nat) := by omega
      rw [comm, itTerm_eq _ _ h2] at he
      (try simp (disch := omega) only [go_sem, seval, reduceCtorEq, h1, h3, h6, h7, itemPV, itemsPV_length, mC, zC])
      refine W_round ?_
      (try simp (disch := omega) only [go_sem, seval, reduceCtorEq, mC, zC])
      refine l105a m f _ hq _ ?_ m.mtch.length 0 (by omega)
      repeat' (first | (simp (disch := omega) only [go_sem, seval, reduceCtorEq, h1, h3, h6, h7, itemPV, itemsPV_length, mC, zC]) | (apply x_pure; iterate 5 (first | exact ps26 _ hm | ((try simp (disch := omega) only [go_sem, seval, reduceCtorEq, h1, h3, h6, h7, itemPV, itemsPV_length, mC, zC]) <;> with_reducible exact rfl))) | ((first | apply x_split_cond | apply x_split_guard); all_goals (intro hb; (try simp only [Bool.not_eq_true', Bool.not_eq_false'] at hb); (simp (disch := omega) only [go_sem, seval, reduceCtorEq, h1, h3, h6, h7, itemPV, itemsPV_length, mC, zC, hb]); (try simp only [decide_eq_true_eq, decide_eq_false_iff_not, beq_iff_eq, beq_eq_false_iff_ne, ne_eq, bne_iff_ne, bne_eq_false_iff_eq, Decidable.not_not] at hb))))
      · rename_i hb0
        rw [if_pos (by grind)] at he
        refine hr _ false rfl ?_
        rw [← he]; rfl
      · refine i_lk (W_round ?_)
        (try simp (disch := omega) only [go_sem, seval, reduceCtorEq, mC, zC])
        exact ih (by omega) (by rw [if_neg (by grind)] at he; exact he)
      · refine i_lk (W_round ?_)
        (try simp (disch := omega) only [go_sem, seval, reduceCtorEq, mC, zC])
        exact ih (by omega) (by rw [if_neg (by grind)] at he; exact he)
    · repeat' (first | (simp (disch := omega) only [go_sem, seval, reduceCtorEq, h1, intsPV_length, mC, zC]) | ((first | apply x_split_cond | apply x_split_guard); all_goals (intro hb; (try simp only [Bool.not_eq_true', Bool.not_eq_false'] at hb); (simp (disch := omega) only [go_sem, seval, reduceCtorEq, h1, intsPV_length, mC, zC, hb]); (try simp only [decide_eq_true_eq, decide_eq_false_iff_not, beq_iff_eq, beq_eq_false_iff_ne, ne_eq, bne_iff_ne, bne_eq_false_iff_eq, Decidable.not_not] at hb))))
      exact hx (by rw [← he, comm_low m _ (by omega)])

theorem ps105 (m : M) (f : Fl) (hl : m.log.length ≤ 140737488355328) (hq : m.mtch.length ≤ 140737488355328) (hm : m.members ≤ 9223372036854775807) (hc : 0 ≤ m.commit) : PS tb 105 [.agg (mC m f)] (.agg (mC { m with commit := commOf m } f)) := by
  refine PS_of (af := a105) rfl rfl ?_
  unfold a105
  dsimp only [List.map, ofPV, initEnv]
  repeat' (first | (simp (disch := omega) only [go_sem, seval, reduceCtorEq, mC, itemsPV_length]) | ((first | apply x_split_cond | apply x_split_guard); all_goals (intro hb; (try simp only [Bool.not_eq_true', Bool.not_eq_false'] at hb); (simp (disch := omega) only [go_sem, seval, reduceCtorEq, mC, itemsPV_length, hb]); (try simp only [decide_eq_true_eq, decide_eq_false_iff_not, beq_iff_eq, beq_eq_false_iff_ne, ne_eq, bne_iff_ne, bne_eq_false_iff_eq, Decidable.not_not] at hb))))
  refine W_round ?_
  (try simp (disch := omega) only [go_sem, seval, reduceCtorEq])
  refine l105 m f hl hq hm hc _ ?_ ?_ m.log.length (Nat.le_refl _) rfl
  · intro ha
    (try simp (disch := omega) only [go_sem, seval, reduceCtorEq, mC, zC])
    all_goals simp [pur, dep, mapO, mC, ha]
  · intro s c hs hh
    (try simp (disch := omega) only [go_sem, seval, reduceCtorEq, hs, hh, mC])
    all_goals simp [pur, dep, mapO, mC]

theorem itemsPV_append (a b : List (Int × ByteArray)) : itemsPV a ++ itemsPV b = itemsPV (a ++ b) := by simp [itemsPV]

theorem itemsPV_take (a : List (Int × ByteArray)) (n : Nat) : (itemsPV a).take n = itemsPV (a.take n) := by simp [itemsPV, List.map_take]

theorem itemsPV_drop (a : List (Int × ByteArray)) (n : Nat) : (itemsPV a).drop n = itemsPV (a.drop n) := by simp [itemsPV, List.map_drop]

theorem itemsPV_nil : itemsPV [] = [] := rfl

theorem itemsPV_isEmpty (a : List (Int × ByteArray)) : (itemsPV a).isEmpty = a.isEmpty := by cases a <;> rfl

theorem itemsPV_sz (a : List (Int × ByteArray)) : allSz 2 (itemsPV a) = true := by simp [allSz, itemsPV, itemPV]

theorem intsPV_append (a b : List Int) : intsPV a ++ intsPV b = intsPV (a ++ b) := by simp [intsPV]

theorem intsPV_take (a : List Int) (n : Nat) : (intsPV a).take n = intsPV (a.take n) := by simp [intsPV, List.map_take]

theorem intsPV_drop (a : List Int) (n : Nat) : (intsPV a).drop n = intsPV (a.drop n) := by simp [intsPV, List.map_drop]

theorem intsPV_nil : intsPV [] = [] := rfl

theorem intsPV_sz (a : List Int) : allSz 1 (intsPV a) = true := by simp [allSz, intsPV, intPV]

theorem maxB (n : Nat) (h : n ≤ 140737488355328) : (n ≤ maxBytes) = True := by simp [maxBytes, h]

theorem takeApp {α : Type} (a b : List α) : (a ++ b).take (a.length + b.length) = a ++ b := List.take_of_length_le (by simp)

theorem ps103 (l more : List (Int × ByteArray)) (b c : Bool) (n : Nat) (hn : n ≤ l.length) (hl : l.length ≤ 100000) (hm : more.length ≤ 100000) :
    PS tb 103 [.slice b (itemsPV l), .int .i64 n, .slice c (itemsPV more)] (.slice false (itemsPV (l.take n ++ more))) := by
  have h0 : (0 : Int) ≤ n := by omega
  have h1 : (n : Int) ≤ l.length := by omega
  have h2 : (l.take n).length ≤ 100000 := by simp; omega
  refine PS_of (af := a103) rfl rfl ?_
  unfold a103
  dsimp only [List.map, ofPV, initEnv]
  (try simp (disch := omega) only [go_sem, seval, reduceCtorEq, itemsPV_sz, itemsPV_length, itemsPV_take, itemsPV_drop, itemsPV_append, itemsPV_nil, h0, h1, maxB, List.length_append, takeApp])

theorem intsPV_sing (n : Int) : [[PV.int .i64 n]] = intsPV [n] := rfl

theorem intsPV_set (l : List Int) (i : Nat) (n : Int) : (intsPV l).set i [.int .i64 n] = intsPV (l.set i n) := by simp [intsPV, List.map_set, intPV]

theorem itemsPV_sing (n : Int) (d : ByteArray) : [[PV.int .i64 n, PV.str d]] = itemsPV [(n, d)] := rfl

theorem ps104 (l : List Int) (b : Bool) (i : Nat) (n : Int) (hi : i < l.length) (hl : l.length ≤ 100000) :
    PS tb 104 [.slice b (intsPV l), .int .i64 i, .int .i64 n] (.slice false (intsPV (l.set i n))) := by
  have h0 : (0 : Int) ≤ i := by omega
  have h1 : (i : Int) ≤ l.length := by omega
  have h2 : (l.take i).length ≤ 100000 := by simp; omega
  have h3 : (0 : Int) ≤ (i + 1 : Nat) := by omega
  have h4 : ((i + 1 : Nat) : Int) ≤ l.length := by omega
  have h5 : (l.drop (i + 1)).length ≤ 100000 := by simp; omega
  have h6 : (l.take i).length + ((l.drop (i + 1)).length + 1) ≤ 100000 := by simp; omega
  have he : l.set i n = l.take i ++ n :: l.drop (i + 1) := List.set_eq_take_append_cons_drop.trans (if_pos hi)
  have h7 : List.take l.length l = l := List.take_of_length_le (Nat.le_refl _)
  have t0 : (l.take i ++ ([n] ++ l.drop (i + 1))).take ((l.take i).length + 1 + (l.drop (i + 1)).length) = l.take i ++ ([n] ++ l.drop (i + 1)) := List.take_of_length_le (by simp; omega)
  refine PS_of (af := a104) rfl rfl ?_
  unfold a104
  dsimp only [List.map, ofPV, initEnv]
  rw [he]
  (try simp (disch := omega) only [go_sem, seval, reduceCtorEq, intsPV_sing, intsPV_sz, intsPV_length, intsPV_take, intsPV_drop, intsPV_append, intsPV_nil, List.append_assoc, List.length_append, h0, h1, h3, h4, h7, maxB])
  rw [if_pos (by omega)]
  simp only [List.cons_append, List.nil_append] at t0
  rw [t0]

theorem BS_out {T : Tab} {f : FuncId} {l : List DV} {H : Heap} {nx : Nat} {r : DV} {H' : Heap} {nx' : Nat} (h : T.A f = none) (hx : T.X.byref f l H nx = some (r, H', nx')) : BS T f l H nx r H' nx' := ⟨0, by simp only [cfs, h, hx]⟩

theorem bs97 (l : List (Int × ByteArray)) (b : Bool) (H : Heap) (nx : Nat) (h : l.length ≤ 100000) : BS tb 97 [.p (.slice b (itemsPV l))] H nx (.ref nx l.length 0 l.length) ((nx, .row false 2 (itemsPV l)) :: H) (nx + 1) := by
  refine BS_out (show tab 97 = none from rfl) ?_
  show outside.byref 97 _ _ _ = _
  simp [outside, cloneOf, itemsPV_sz, itemsPV_length, maxBytes]
  omega

theorem bs129 (l : List Int) (b : Bool) (H : Heap) (nx : Nat) (h : l.length ≤ 100000) : BS tb 129 [.p (.slice b (intsPV l))] H nx (.ref nx l.length 0 l.length) ((nx, .row false 1 (intsPV l)) :: H) (nx + 1) := by
  refine BS_out (show tab 129 = none from rfl) ?_
  show outside.byref 129 _ _ _ = _
  simp [outside, cloneOf, intsPV_sz, intsPV_length, maxBytes]
  omega

/-- A copied member's cells; its rows begin at a number. -/
def rC (m : M) (k : Nat) : List DV := [.p (.int .i64 m.id), .p (.int .i64 m.members), .p (.int .i64 m.term), .p (.int .i64 m.vote), .ref (k + 2) m.log.length 0 m.log.length, .p (.int .i64 m.role), .p (.int .i64 m.commit),
  .ref (k + 3) m.votes.length 0 m.votes.length, .ref (k + 4) m.next.length 0 m.next.length, .ref (k + 5) m.mtch.length 0 m.mtch.length]

theorem beqA (a b n : Nat) : (n + a == n + b) = (a == b) := by
  cases h : (a == b)
  · have : a ≠ b := by intro e; subst e; simp at h
    exact beq_false_of_ne (by omega)
  · have := eq_of_beq h; subst this; exact beq_self_eq_true _

theorem beqB (a n : Nat) : (n + (a + 1) == n) = false := beq_false_of_ne (by omega)

theorem beqC (a n : Nat) : (n == n + (a + 1)) = false := beq_false_of_ne (by omega)

theorem freshA {H : Heap} {n : Nat} (h : ∀ j, n ≤ j → aget H j = none) (k : Nat) : aget H (n + k) = none := h _ (by omega)

theorem freshB {H : Heap} {n : Nat} (h : ∀ j, n ≤ j → aget H j = none) : aget H n = none := h _ (by omega)

theorem bs101 (m : M) (f : Fl) (H : Heap) (nx : Nat) (hf : ∀ j, nx ≤ j → aget H j = none) (h1 : m.log.length ≤ 100000) (h2 : m.votes.length ≤ 100000) (h3 : m.next.length ≤ 100000) (h4 : m.mtch.length ≤ 100000) :
    BS tb 101 [.agg ((mC m f).map .p)] H nx (.agg (rC m nx)) ((nx + 5, .row false 1 (intsPV m.mtch)) :: (nx + 4, .row false 1 (intsPV m.next)) :: (nx + 3, .row false 1 (intsPV m.votes)) :: (nx + 2, .row false 2 (itemsPV m.log)) ::
      (nx + 1, .var false (rC m nx)) :: (nx, .var false (rC m nx)) :: H) (nx + 6) := by
  have e0 := freshB hf
  have e1 := freshA hf 1
  have q1 : (nx == nx + 1) = false := beqC 0 nx
  have q2 : (nx + 1 == nx) = false := beqB 0 nx
  have q3 : (nx + 2 == nx) = false := beqB 1 nx
  have q4 : (nx + 3 == nx) = false := beqB 2 nx
  have q5 : (nx + 4 == nx) = false := beqB 3 nx
  have q6 : (nx + 5 == nx) = false := beqB 4 nx
  refine BS_of (af := a101) rfl rfl ?_
  unfold a101
  dsimp only [List.map, ofPV, initEnv]
  repeat' (first | (simp (disch := omega) only [go_sem, seval, reduceCtorEq, mC, e0, e1, beqA, q1, q2, q3, q4, q5, q6, Nat.add_assoc]) | (apply x_byref; iterate 3 (first | exact bs97 _ _ _ _ h1 | exact bs129 _ _ _ _ (by assumption) | ((try simp (disch := omega) only [go_sem, seval, reduceCtorEq, mC, e0, e1, beqA, q1, q2, q3, q4, q5, q6, Nat.add_assoc]) <;> with_reducible exact rfl))) | ((first | apply x_split_cond | apply x_split_guard); all_goals (intro hb; (try simp only [Bool.not_eq_true', Bool.not_eq_false'] at hb); (simp (disch := omega) only [go_sem, seval, reduceCtorEq, mC, e0, e1, beqA, q1, q2, q3, q4, q5, q6, Nat.add_assoc, hb]); (try simp only [decide_eq_true_eq, decide_eq_false_iff_not, beq_iff_eq, beq_eq_false_iff_ne, ne_eq, bne_iff_ne, bne_eq_false_iff_eq, Decidable.not_not] at hb))))
  simp [rC]

end Go.Dv.Try
