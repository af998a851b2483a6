/-
  Specifications of the functions of this claim, parts 8, 9, 10, 11, 12, 13, 14.
-/
import Derived.Test.YtjnigloanggmmaaTab
import Derived.Test.YtjnigloanggmmaaStep
import Derived.Test.YtjnigloanggmmaaS1
import Derived.Test.YtjnigloanggmmaaS7
import Derived.Test.YtjnigloanggmmaaBridge
set_option linter.unusedVariables false
set_option linter.unusedSimpArgs false
set_option maxRecDepth 100000
set_option maxHeartbeats 16000000
namespace Go.Dv.Try
open Go Go.Dv

theorem l39 (l : List (Int × ByteArray)) (b c : Bool) (hl : l.length ≤ 140737488355328) (K : Ex → St → Prop)
    (hx : K (.exit 0) ⟨[], [], 0, [0]⟩) : ∀ (n i : Nat), i + n = l.length →
    W tb a39_l0 ⟨[(0, .p (.slice b (itemsPV l))), (1, .p (.slice c (itemsPV l))), (5, .p (.int .i64 i))], [], 0, [0]⟩ (LK tb (.ghost .lower a39_l0) K) := by
  intro n
  induction n with
  | zero =>
    intro i hi
    have h1 : ¬ (i : Int) < l.length := by omega
    refine i_code (by unfold a39_l0; exact rfl) ?_
    repeat' (first | (simp (disch := omega) only [go_sem, seval, reduceCtorEq, h1, itemsPV_length]) | ((first | apply x_split_cond | apply x_split_guard); all_goals (intro hb; (try simp only [Bool.not_eq_true', Bool.not_eq_false'] at hb); (simp (disch := omega) only [go_sem, seval, reduceCtorEq, h1, itemsPV_length, hb]); (try simp only [decide_eq_true_eq, decide_eq_false_iff_not, beq_iff_eq, beq_eq_false_iff_ne, ne_eq, bne_iff_ne, bne_eq_false_iff_eq, Decidable.not_not] at hb))))
    exact hx
  | succ n ih =>
    intro i hi
    have h1 : (i : Int) < l.length := by omega
    have h2 : i < l.length := by omega
    have h3 := itemsPV_get l i h2
    have h4 : (0 : Int) ≤ i := by omega
    refine i_code (by unfold a39_l0; exact rfl) ?_
    repeat' (first | (simp (disch := omega) only [go_sem, seval, reduceCtorEq, h1, h3, h4, itemPV, itemsPV_length]) | ((first | apply x_split_cond | apply x_split_guard); all_goals (intro hb; (try simp only [Bool.not_eq_true', Bool.not_eq_false'] at hb); (simp (disch := omega) only [go_sem, seval, reduceCtorEq, h1, h3, h4, itemPV, itemsPV_length, hb]); (try simp only [decide_eq_true_eq, decide_eq_false_iff_not, beq_iff_eq, beq_eq_false_iff_ne, ne_eq, bne_iff_ne, bne_eq_false_iff_eq, Decidable.not_not] at hb))))
    refine i_lk (W_round ?_)
    (try simp (disch := omega) only [go_sem, seval, reduceCtorEq])
    exact ih (i + 1) (by omega)

theorem ps39 (l : List (Int × ByteArray)) (b c : Bool) (hl : l.length ≤ 140737488355328) : PS tb 39 [.slice b (itemsPV l), .slice c (itemsPV l)] (.bool true) := by
  refine PS_of (af := a39) rfl rfl ?_
  unfold a39
  dsimp only [List.map, ofPV, initEnv]
  repeat' (first | (simp (disch := omega) only [go_sem, seval, reduceCtorEq, itemsPV_length]) | ((first | apply x_split_cond | apply x_split_guard); all_goals (intro hb; (try simp only [Bool.not_eq_true', Bool.not_eq_false'] at hb); (simp (disch := omega) only [go_sem, seval, reduceCtorEq, itemsPV_length, hb]); (try simp only [decide_eq_true_eq, decide_eq_false_iff_not, beq_iff_eq, beq_eq_false_iff_ne, ne_eq, bne_iff_ne, bne_eq_false_iff_eq, Decidable.not_not] at hb))))
  refine W_round ?_
  (try simp (disch := omega) only [go_sem, seval, reduceCtorEq])
  refine l39 l b c hl _ ?_ l.length 0 (by omega)
  (try simp (disch := omega) only [go_sem, seval, reduceCtorEq])
  all_goals simp [pur, dep]

structure X where
  kind : Int
  frm : Int
  to : Int
  term : Int
  index : Int
  logTerm : Int
  commit : Int
  ok : Bool
  items : List (Int × ByteArray)

def xC (x : X) (f : Bool) : List PV := [.int .i64 x.kind, .int .i64 x.frm, .int .i64 x.to, .int .i64 x.term, .int .i64 x.index, .int .i64 x.logTerm, .int .i64 x.commit, .bool x.ok, .slice f (itemsPV x.items)]

def few (m : M) (x : X) : Bool := few98 m.log && few98 x.items && decide (m.votes.length ≤ 40) && decide (m.next.length ≤ 40) && decide (m.mtch.length ≤ 40)

theorem ps45 (m : M) (f : Fl) (x : X) (g : Bool) : PS tb 45 [.agg (mC m f), .agg (xC x g)] (.bool (few m x)) := by
  refine PS_of (af := a45) rfl rfl ?_
  unfold a45
  dsimp only [List.map, ofPV, initEnv]
  repeat' (first | (simp (disch := omega) only [go_sem, seval, reduceCtorEq, mC, xC, itemsPV_length, intsPV_length]) | (apply x_pure; iterate 5 (first | exact ps98 _ _ | ((try simp (disch := omega) only [go_sem, seval, reduceCtorEq, mC, xC, itemsPV_length, intsPV_length]) <;> with_reducible exact rfl))) | ((first | apply x_split_cond | apply x_split_guard); all_goals (intro hb; (try simp only [Bool.not_eq_true', Bool.not_eq_false'] at hb); (simp (disch := omega) only [go_sem, seval, reduceCtorEq, mC, xC, itemsPV_length, intsPV_length, hb]); (try simp only [decide_eq_true_eq, decide_eq_false_iff_not, beq_iff_eq, beq_eq_false_iff_ne, ne_eq, bne_iff_ne, bne_eq_false_iff_eq, Decidable.not_not] at hb))))
  all_goals (simp only [pur, dep, Option.some.injEq, PV.bool.injEq, PV.int.injEq, true_and] <;> grind [few])

def cnt (l : List Int) (n : Int) : Nat := l.countP (fun x => decide (n ≤ x))

theorem cnt_step (l : List Int) (n : Int) (i : Nat) (h : i < l.length) : cnt (l.take (i + 1)) n = cnt (l.take i) n + if n ≤ l[i] then 1 else 0 := by
  rw [cnt, List.take_add_one, List.getElem?_eq_getElem h, List.countP_append]
  simp [cnt]

theorem cnt_le (l : List Int) (n : Int) : cnt l n ≤ l.length := List.countP_le_length

theorem l135 (l : List Int) (b : Bool) (x : Int) (hl : l.length ≤ 140737488355328) (K : Ex → St → Prop)
    (hx : K (.exit 0) ⟨[(5, .p (.int .i64 (cnt l x)))], [], 0, [0]⟩) : ∀ (n i : Nat), i + n = l.length →
    W tb a135_l0 ⟨[(1, .p (.int .i64 x)), (5, .p (.int .i64 (cnt (l.take i) x))), (9, .p (.slice b (intsPV l))), (10, .p (.int .i64 l.length)), (11, .p (.int .i64 i))], [], 0, [0]⟩ (LK tb (.ghost (.free [2]) (.ghost .lower a135_l0)) K) := by
  intro n
  induction n with
  | zero =>
    intro i hi
    have h1 : ¬ (i : Int) < l.length := by omega
    refine i_code (by unfold a135_l0; exact rfl) ?_
    rw [List.take_of_length_le (by omega)]
    repeat' (first | (simp (disch := omega) only [go_sem, seval, reduceCtorEq, h1, intsPV_length]) | ((first | apply x_split_cond | apply x_split_guard); all_goals (intro hb; (try simp only [Bool.not_eq_true', Bool.not_eq_false'] at hb); (simp (disch := omega) only [go_sem, seval, reduceCtorEq, h1, intsPV_length, hb]); (try simp only [decide_eq_true_eq, decide_eq_false_iff_not, beq_iff_eq, beq_eq_false_iff_ne, ne_eq, bne_iff_ne, bne_eq_false_iff_eq, Decidable.not_not] at hb))))
    exact hx
  | succ n ih =>
    intro i hi
    have h1 : (i : Int) < l.length := by omega
    have h2 : i < l.length := by omega
    have h3 := intsPV_get l i h2
    have h4 : (0 : Int) ≤ i := by omega
    have h5 := cnt_step l x i h2
    have h6 := cnt_le (l.take i) x
    have h7 : (l.take i).length ≤ i := List.length_take_le ..
    refine i_code (by unfold a135_l0; exact rfl) ?_
    repeat' (first | (simp (disch := omega) only [go_sem, seval, reduceCtorEq, h1, h3, h4, intPV, intsPV_length]) | ((first | apply x_split_cond | apply x_split_guard); all_goals (intro hb; (try simp only [Bool.not_eq_true', Bool.not_eq_false'] at hb); (simp (disch := omega) only [go_sem, seval, reduceCtorEq, h1, h3, h4, intPV, intsPV_length, hb]); (try simp only [decide_eq_true_eq, decide_eq_false_iff_not, beq_iff_eq, beq_eq_false_iff_ne, ne_eq, bne_iff_ne, bne_eq_false_iff_eq, Decidable.not_not] at hb))))
    · refine i_lk (W_round ?_)
      (try simp (disch := omega) only [go_sem, seval, reduceCtorEq])
      rw [if_pos hb] at h5
      have := ih (i + 1) (by omega)
      rw [h5] at this
      exact this
    · refine i_lk (W_round ?_)
      (try simp (disch := omega) only [go_sem, seval, reduceCtorEq])
      rw [if_neg hb] at h5
      have := ih (i + 1) (by omega)
      rw [h5] at this
      exact this

theorem ps135 (m : M) (f : Fl) (x : Int) (hl : m.mtch.length ≤ 140737488355328) : PS tb 135 [.agg (mC m f), .int .i64 x] (.int .i64 (cnt m.mtch x)) := by
  refine PS_of (af := a135) rfl rfl ?_
  unfold a135
  dsimp only [List.map, ofPV, initEnv]
  repeat' (first | (simp (disch := omega) only [go_sem, seval, reduceCtorEq, mC, intsPV_length]) | ((first | apply x_split_cond | apply x_split_guard); all_goals (intro hb; (try simp only [Bool.not_eq_true', Bool.not_eq_false'] at hb); (simp (disch := omega) only [go_sem, seval, reduceCtorEq, mC, intsPV_length, hb]); (try simp only [decide_eq_true_eq, decide_eq_false_iff_not, beq_iff_eq, beq_eq_false_iff_ne, ne_eq, bne_iff_ne, bne_eq_false_iff_eq, Decidable.not_not] at hb))))
  refine W_round ?_
  (try simp (disch := omega) only [go_sem, seval, reduceCtorEq])
  refine l135 m.mtch f.d x hl _ ?_ m.mtch.length 0 (by omega)
  (try simp (disch := omega) only [go_sem, seval, reduceCtorEq])
  all_goals simp [pur, dep]

def itTerm (l : List (Int × ByteArray)) (i : Nat) : Int := (l.getD i (0, ByteArray.empty)).1

theorem itTerm_eq (l : List (Int × ByteArray)) (i : Nat) (h : i < l.length) : itTerm l i = l[i].1 := by simp [itTerm, List.getD, h]

/-- The commit rule, from so many items downwards. -/
def comm (m : M) : Nat → Int
  | 0 => m.commit
  | k + 1 => if m.commit < (k + 1 : Nat) ∧ itTerm m.log k = m.term ∧ maj m.members ≤ cnt m.mtch (k + 1 : Nat) then (k + 1 : Nat) else comm m k

def commOf (m : M) : Int := comm m m.log.length

theorem comm_low (m : M) (k : Nat) (h : (k : Int) ≤ m.commit) : comm m k = m.commit := by
  induction k with
  | zero => rfl
  | succ k ih => rw [comm, if_neg (by omega), ih (by omega)]

theorem l102 (m : M) (f : Fl) (hl : m.log.length ≤ 140737488355328) (hq : m.mtch.length ≤ 140737488355328) (hm : m.members ≤ 9223372036854775807) (hc : 0 ≤ m.commit) (K : Ex → St → Prop)
    (hx : commOf m = m.commit → K (.exit 0) ⟨[(1, .ptr 0 0)], [(0, .var false ((mC m f).map .p))], 1, [0]⟩)
    (hr : ∀ s, aget s.env 2 = some (.p (.int .i64 (commOf m))) → K .ret s) :
    ∀ (n : Nat), n ≤ m.log.length → comm m n = commOf m →
    W tb a102_l0 ⟨[(1, .ptr 0 0), (3, .p (.int .i64 n))], [(0, .var false ((mC m f).map .p))], 1, [0]⟩ (LK tb (.ghost .lower a102_l0) K) := by
  intro n
  induction n with
  | zero =>
    intro hi he
    have h1 : ¬ m.commit < 0 := by omega
    refine i_code (by unfold a102_l0; exact rfl) ?_
    repeat' (first | (simp (disch := omega) only [go_sem, seval, reduceCtorEq, h1, intsPV_length, mC]) | ((first | apply x_split_cond | apply x_split_guard); all_goals (intro hb; (try simp only [Bool.not_eq_true', Bool.not_eq_false'] at hb); (simp (disch := omega) only [go_sem, seval, reduceCtorEq, h1, intsPV_length, mC, hb]); (try simp only [decide_eq_true_eq, decide_eq_false_iff_not, beq_iff_eq, beq_eq_false_iff_ne, ne_eq, bne_iff_ne, bne_eq_false_iff_eq, Decidable.not_not] at hb))))
    exact hx (he ▸ rfl)
  | succ n ih =>
    intro hi he
    refine i_code (by unfold a102_l0; exact rfl) ?_
    by_cases h1 : m.commit < ((n + 1 : Nat) : Int)
    · have h2 : n < m.log.length := by omega
      have h3 := itemsPV_get m.log n h2
      have h4 : (0 : Int) ≤ ((n + 1 : Nat) : Int) - 1 := by omega
      have h5 : (((n + 1 : Nat) : Int) - 1).toNat = n := by omega
      have h6 : ((n + 1 : Nat) : Int) - 1 = (n : Nat) := by omega
      have h7 : (0 : Int) ≤ (n : Nat) := by omega
      rw [comm, itTerm_eq _ _ h2] at he
      repeat' (first | (simp (disch := omega) only [go_sem, seval, reduceCtorEq, h1, h3, h5, h6, h7, itemPV, itemsPV_length, mC]) | (apply x_pure; iterate 5 (first | exact ps135 m f _ hq | exact ps25 _ hm | ((try simp (disch := omega) only [go_sem, seval, reduceCtorEq, h1, h3, h5, h6, h7, itemPV, itemsPV_length, mC]) <;> with_reducible exact rfl))) | ((first | apply x_split_cond | apply x_split_guard); all_goals (intro hb; (try simp only [Bool.not_eq_true', Bool.not_eq_false'] at hb); (simp (disch := omega) only [go_sem, seval, reduceCtorEq, h1, h3, h5, h6, h7, itemPV, itemsPV_length, mC, hb]); (try simp only [decide_eq_true_eq, decide_eq_false_iff_not, beq_iff_eq, beq_eq_false_iff_ne, ne_eq, bne_iff_ne, bne_eq_false_iff_eq, Decidable.not_not] at hb))))
      · rename_i hb0
        refine hr _ ?_
        rw [if_pos (by grind)] at he
        rw [← he]; rfl
      · refine i_lk (W_round ?_)
        (try simp (disch := omega) only [go_sem, seval, reduceCtorEq, mC])
        exact ih (by omega) (by rw [if_neg (by grind)] at he; exact he)
      · refine i_lk (W_round ?_)
        (try simp (disch := omega) only [go_sem, seval, reduceCtorEq, mC])
        exact ih (by omega) (by rw [if_neg (by grind)] at he; exact he)
    · repeat' (first | (simp (disch := omega) only [go_sem, seval, reduceCtorEq, h1, intsPV_length, mC]) | ((first | apply x_split_cond | apply x_split_guard); all_goals (intro hb; (try simp only [Bool.not_eq_true', Bool.not_eq_false'] at hb); (simp (disch := omega) only [go_sem, seval, reduceCtorEq, h1, intsPV_length, mC, hb]); (try simp only [decide_eq_true_eq, decide_eq_false_iff_not, beq_iff_eq, beq_eq_false_iff_ne, ne_eq, bne_iff_ne, bne_eq_false_iff_eq, Decidable.not_not] at hb))))
      exact hx (by rw [← he, comm_low m _ (by omega)])

theorem ps102 (m : M) (f : Fl) (hl : m.log.length ≤ 140737488355328) (hq : m.mtch.length ≤ 140737488355328) (hm : m.members ≤ 9223372036854775807) (hc : 0 ≤ m.commit) : PS tb 102 [.agg (mC m f)] (.int .i64 (commOf m)) := by
  refine PS_of (af := a102) rfl rfl ?_
  unfold a102
  dsimp only [List.map, ofPV, initEnv]
  repeat' (first | (simp (disch := omega) only [go_sem, seval, reduceCtorEq, mC, itemsPV_length]) | ((first | apply x_split_cond | apply x_split_guard); all_goals (intro hb; (try simp only [Bool.not_eq_true', Bool.not_eq_false'] at hb); (simp (disch := omega) only [go_sem, seval, reduceCtorEq, mC, itemsPV_length, hb]); (try simp only [decide_eq_true_eq, decide_eq_false_iff_not, beq_iff_eq, beq_eq_false_iff_ne, ne_eq, bne_iff_ne, bne_eq_false_iff_eq, Decidable.not_not] at hb))))
  refine W_round ?_
  (try simp (disch := omega) only [go_sem, seval, reduceCtorEq])
  refine l102 m f hl hq hm hc _ ?_ ?_ m.log.length (Nat.le_refl _) rfl
  · intro ha
    (try simp (disch := omega) only [go_sem, seval, reduceCtorEq, mC])
    all_goals simp [pur, dep, ha]
  · intro s hs
    (try simp (disch := omega) only [go_sem, seval, reduceCtorEq, hs])
    all_goals simp [pur, dep]

/-- A member of zeros. -/
def zC : List PV := [.int .i64 0, .int .i64 0, .int .i64 0, .int .i64 0, .slice true [], .int .i64 0, .int .i64 0, .slice true [], .slice true [], .slice true []]

theorem itemsPV_append (a b : List (Int × ByteArray)) : itemsPV a ++ itemsPV b = itemsPV (a ++ b) := by simp [itemsPV]

theorem itemsPV_take (a : List (Int × ByteArray)) (n : Nat) : (itemsPV a).take n = itemsPV (a.take n) := by simp [itemsPV, List.map_take]

theorem itemsPV_drop (a : List (Int × ByteArray)) (n : Nat) : (itemsPV a).drop n = itemsPV (a.drop n) := by simp [itemsPV, List.map_drop]

theorem itemsPV_nil : itemsPV [] = [] := rfl

theorem itemsPV_isEmpty (a : List (Int × ByteArray)) : (itemsPV a).isEmpty = a.isEmpty := by cases a <;> rfl

theorem itemsPV_sz (a : List (Int × ByteArray)) : allSz 2 (itemsPV a) = true := by simp [allSz, itemsPV, itemPV]

theorem intsPV_append (a b : List Int) : intsPV a ++ intsPV b = intsPV (a ++ b) := by simp [intsPV]

theorem intsPV_take (a : List Int) (n : Nat) : (intsPV a).take n = intsPV (a.take n) := by simp [intsPV, List.map_take]

theorem intsPV_nil : intsPV [] = [] := rfl

theorem intsPV_sz (a : List Int) : allSz 1 (intsPV a) = true := by simp [allSz, intsPV, intPV]

theorem maxB (n : Nat) (h : n ≤ 140737488355328) : (n ≤ maxBytes) = True := by simp [maxBytes, h]

theorem takeApp {α : Type} (a b : List α) : (a ++ b).take (a.length + b.length) = a ++ b := List.take_of_length_le (by simp)

theorem intsPV_sing (n : Int) : [[PV.int .i64 n]] = intsPV [n] := rfl

theorem intsPV_set (l : List Int) (i : Nat) (n : Int) : (intsPV l).set i [.int .i64 n] = intsPV (l.set i n) := by simp [intsPV, List.map_set, intPV]

theorem itemsPV_sing (n : Int) (d : ByteArray) : [[PV.int .i64 n, PV.str d]] = itemsPV [(n, d)] := rfl

theorem BS_out {T : Tab} {f : FuncId} {l : List DV} {H : Heap} {nx : Nat} {r : DV} {H' : Heap} {nx' : Nat} (h : T.A f = none) (hx : T.X.byref f l H nx = some (r, H', nx')) : BS T f l H nx r H' nx' := ⟨0, by simp only [cfs, h, hx]⟩

theorem bs97 (l : List (Int × ByteArray)) (b : Bool) (H : Heap) (nx : Nat) (h : l.length ≤ 100000) : BS tb 97 [.p (.slice b (itemsPV l))] H nx (.ref nx l.length 0 l.length) ((nx, .row false 2 (itemsPV l)) :: H) (nx + 1) := by
  refine BS_out (show tab 97 = none from rfl) ?_
  show outside.byref 97 _ _ _ = _
  simp [outside, cloneOf, itemsPV_sz, itemsPV_length, maxBytes]
  omega

theorem bs129 (l : List Int) (b : Bool) (H : Heap) (nx : Nat) (h : l.length ≤ 100000) : BS tb 129 [.p (.slice b (intsPV l))] H nx (.ref nx l.length 0 l.length) ((nx, .row false 1 (intsPV l)) :: H) (nx + 1) := by
  refine BS_out (show tab 129 = none from rfl) ?_
  show outside.byref 129 _ _ _ = _
  simp [outside, cloneOf, intsPV_sz, intsPV_length, maxBytes]
  omega

/-- A copied member's cells; its rows begin at a number. -/
def rC (m : M) (k : Nat) : List DV := [.p (.int .i64 m.id), .p (.int .i64 m.members), .p (.int .i64 m.term), .p (.int .i64 m.vote), .ref (k + 2) m.log.length 0 m.log.length, .p (.int .i64 m.role), .p (.int .i64 m.commit),
  .ref (k + 3) m.votes.length 0 m.votes.length, .ref (k + 4) m.next.length 0 m.next.length, .ref (k + 5) m.mtch.length 0 m.mtch.length]

theorem beqA (a b n : Nat) : (n + a == n + b) = (a == b) := by
  cases h : (a == b)
  · have : a ≠ b := by intro e; subst e; simp at h
    exact beq_false_of_ne (by omega)
  · have := eq_of_beq h; subst this; exact beq_self_eq_true _

theorem beqB (a n : Nat) : (n + (a + 1) == n) = false := beq_false_of_ne (by omega)

theorem beqC (a n : Nat) : (n == n + (a + 1)) = false := beq_false_of_ne (by omega)

theorem freshA {H : Heap} {n : Nat} (h : ∀ j, n ≤ j → aget H j = none) (k : Nat) : aget H (n + k) = none := h _ (by omega)

theorem freshB {H : Heap} {n : Nat} (h : ∀ j, n ≤ j → aget H j = none) : aget H n = none := h _ (by omega)

theorem bs101 (m : M) (f : Fl) (H : Heap) (nx : Nat) (hf : ∀ j, nx ≤ j → aget H j = none) (h1 : m.log.length ≤ 100000) (h2 : m.votes.length ≤ 100000) (h3 : m.next.length ≤ 100000) (h4 : m.mtch.length ≤ 100000) :
    BS tb 101 [.agg ((mC m f).map .p)] H nx (.agg (rC m nx)) ((nx + 5, .row false 1 (intsPV m.mtch)) :: (nx + 4, .row false 1 (intsPV m.next)) :: (nx + 3, .row false 1 (intsPV m.votes)) :: (nx + 2, .row false 2 (itemsPV m.log)) ::
      (nx + 1, .var false (rC m nx)) :: (nx, .var false (rC m nx)) :: H) (nx + 6) := by
  have e0 := freshB hf
  have e1 := freshA hf 1
  have q1 : (nx == nx + 1) = false := beqC 0 nx
  have q2 : (nx + 1 == nx) = false := beqB 0 nx
  have q3 : (nx + 2 == nx) = false := beqB 1 nx
  have q4 : (nx + 3 == nx) = false := beqB 2 nx
  have q5 : (nx + 4 == nx) = false := beqB 3 nx
  have q6 : (nx + 5 == nx) = false := beqB 4 nx
  refine BS_of (af := a101) rfl rfl ?_
  unfold a101
  dsimp only [List.map, ofPV, initEnv]
  repeat' (first | (simp (disch := omega) only [go_sem, seval, reduceCtorEq, mC, e0, e1, beqA, q1, q2, q3, q4, q5, q6, Nat.add_assoc]) | (apply x_byref; iterate 3 (first | exact bs97 _ _ _ _ h1 | exact bs129 _ _ _ _ (by assumption) | ((try simp (disch := omega) only [go_sem, seval, reduceCtorEq, mC, e0, e1, beqA, q1, q2, q3, q4, q5, q6, Nat.add_assoc]) <;> with_reducible exact rfl))) | ((first | apply x_split_cond | apply x_split_guard); all_goals (intro hb; (try simp only [Bool.not_eq_true', Bool.not_eq_false'] at hb); (simp (disch := omega) only [go_sem, seval, reduceCtorEq, mC, e0, e1, beqA, q1, q2, q3, q4, q5, q6, Nat.add_assoc, hb]); (try simp only [decide_eq_true_eq, decide_eq_false_iff_not, beq_iff_eq, beq_eq_false_iff_ne, ne_eq, bne_iff_ne, bne_eq_false_iff_eq, Decidable.not_not] at hb))))
  simp [rC]

/-- A member that is small enough, with what is sure of any. -/
structure MFew (m : M) : Prop extends MIn m where
  few1 : m.log.length ≤ 300
  few2 : m.votes.length ≤ 40
  few3 : m.next.length ≤ 40
  few4 : m.mtch.length ≤ 40

theorem fresh_of {H : Heap} {n : Nat} (h : H.all (fun x => decide (x.1 < n)) = true) : ∀ j, n ≤ j → aget H j = none := by
  intro j hj
  cases hx : aget H j with
  | none => rfl
  | some b =>
    have := List.all_eq_true.1 h _ (aget_mem _ _ _ hx)
    simp at this; omega

def zeroM : M := ⟨0, 0, 0, 0, [], 0, 0, [], [], []⟩

def withItem (m : M) (d : ByteArray) : M := { m with log := m.log ++ [(m.term, d)], next := m.next.set (m.id - 1).toNat (m.log.length + 1 : Nat), mtch := m.mtch.set (m.id - 1).toNat (m.log.length + 1 : Nat) }

def proposed (m : M) (d : ByteArray) : M := { withItem m d with commit := commOf (withItem m d) }

def errP (m : M) (d : ByteArray) : Int := if okM m = false then 1 else if m.role ≠ 3 then 21 else if 4096 < (d.size : Int) then 2 else if 256 ≤ (m.log.length : Int) then 17 else 0

def resP (m : M) (d : ByteArray) : M := if errP m d = 0 then proposed m d else zeroM

theorem lead_facts {m : M} (h : okM m = true) (hr : m.role = 3) : 1 ≤ m.id ∧ m.id ≤ m.members ∧ m.members ≤ 7 ∧ (m.next.length : Int) = m.members ∧ (m.mtch.length : Int) = m.members ∧ 0 ≤ m.commit ∧ m.commit ≤ m.log.length := by
  simp only [okM, okHead, okMid, okRole, okProg, hr, Bool.and_eq_true, decide_eq_true_eq, if_true, show ¬ (3 : Int) = 1 by decide, show ¬ (3 : Int) = 2 by decide, if_false] at h
  omega

theorem ps47 (m : M) (f : Fl) (d : ByteArray) (hm : MFew m) : ∃ g, PS tb 47 [.agg (mC m f), .str d] (.tuple [.agg (mC (resP m d) g), .int .i64 (errP m d)]) := by
  have := hm.few1; have := hm.few2; have := hm.few3; have := hm.few4
  by_cases h1 : ¬ okM m = true
  · refine ⟨⟨true, true, true, true⟩, PS_of (af := a47) rfl rfl ?_⟩
    have he : errP m d = 1 := by simp [errP, h1]
    have hr : resP m d = zeroM := by simp [resP, he]
    rw [he, hr]
    unfold a47
    dsimp only [List.map, ofPV, initEnv]
    repeat' (first | (simp (disch := omega) only [go_sem, seval, reduceCtorEq, mC, h1]) | (apply x_pure; iterate 5 (first | exact ps28 m f hm.toMIn | ((try simp (disch := omega) only [go_sem, seval, reduceCtorEq, mC, h1]) <;> with_reducible exact rfl))) | ((first | apply x_split_cond | apply x_split_guard); all_goals (intro hb; (try simp only [Bool.not_eq_true', Bool.not_eq_false'] at hb); (simp (disch := omega) only [go_sem, seval, reduceCtorEq, mC, h1, hb]); (try simp only [decide_eq_true_eq, decide_eq_false_iff_not, beq_iff_eq, beq_eq_false_iff_ne, ne_eq, bne_iff_ne, bne_eq_false_iff_eq, Decidable.not_not] at hb))))
    all_goals rfl
  have h1 := Decidable.not_not.1 h1
  by_cases h2 : ¬ m.role = 3
  · refine ⟨⟨true, true, true, true⟩, PS_of (af := a47) rfl rfl ?_⟩
    have he : errP m d = 21 := by simp [errP, h1, h2]
    have hr : resP m d = zeroM := by simp [resP, he]
    have h2b : (m.role != 3) = true := by simpa using h2
    rw [he, hr]
    unfold a47
    dsimp only [List.map, ofPV, initEnv]
    repeat' (first | (simp (disch := omega) only [go_sem, seval, reduceCtorEq, mC, h1, h2b]) | (apply x_pure; iterate 5 (first | exact ps28 m f hm.toMIn | ((try simp (disch := omega) only [go_sem, seval, reduceCtorEq, mC, h1, h2b]) <;> with_reducible exact rfl))) | ((first | apply x_split_cond | apply x_split_guard); all_goals (intro hb; (try simp only [Bool.not_eq_true', Bool.not_eq_false'] at hb); (simp (disch := omega) only [go_sem, seval, reduceCtorEq, mC, h1, h2b, hb]); (try simp only [decide_eq_true_eq, decide_eq_false_iff_not, beq_iff_eq, beq_eq_false_iff_ne, ne_eq, bne_iff_ne, bne_eq_false_iff_eq, Decidable.not_not] at hb))))
    all_goals rfl
  have h2 := Decidable.not_not.1 h2
  have h2c : (m.role != 3) = false := by simp [h2]
  by_cases h3 : 4096 < (d.size : Int)
  · refine ⟨⟨true, true, true, true⟩, PS_of (af := a47) rfl rfl ?_⟩
    have he : errP m d = 2 := by simp [errP, h1, h2, h3]
    have hr : resP m d = zeroM := by simp [resP, he]
    rw [he, hr]
    unfold a47
    dsimp only [List.map, ofPV, initEnv]
    repeat' (first | (simp (disch := omega) only [go_sem, seval, reduceCtorEq, mC, h1, h2c, h3]) | (apply x_pure; iterate 5 (first | exact ps28 m f hm.toMIn | ((try simp (disch := omega) only [go_sem, seval, reduceCtorEq, mC, h1, h2c, h3]) <;> with_reducible exact rfl))) | ((first | apply x_split_cond | apply x_split_guard); all_goals (intro hb; (try simp only [Bool.not_eq_true', Bool.not_eq_false'] at hb); (simp (disch := omega) only [go_sem, seval, reduceCtorEq, mC, h1, h2c, h3, hb]); (try simp only [decide_eq_true_eq, decide_eq_false_iff_not, beq_iff_eq, beq_eq_false_iff_ne, ne_eq, bne_iff_ne, bne_eq_false_iff_eq, Decidable.not_not] at hb))))
    all_goals rfl
  by_cases h4 : 256 ≤ (m.log.length : Int)
  · refine ⟨⟨true, true, true, true⟩, PS_of (af := a47) rfl rfl ?_⟩
    have he : errP m d = 17 := by simp [errP, h1, h2, h3, h4]
    have hr : resP m d = zeroM := by simp [resP, he]
    rw [he, hr]
    unfold a47
    dsimp only [List.map, ofPV, initEnv]
    repeat' (first | (simp (disch := omega) only [go_sem, seval, reduceCtorEq, mC, h1, h2c, h3, h4, itemsPV_length]) | (apply x_pure; iterate 5 (first | exact ps28 m f hm.toMIn | ((try simp (disch := omega) only [go_sem, seval, reduceCtorEq, mC, h1, h2c, h3, h4, itemsPV_length]) <;> with_reducible exact rfl))) | ((first | apply x_split_cond | apply x_split_guard); all_goals (intro hb; (try simp only [Bool.not_eq_true', Bool.not_eq_false'] at hb); (simp (disch := omega) only [go_sem, seval, reduceCtorEq, mC, h1, h2c, h3, h4, itemsPV_length, hb]); (try simp only [decide_eq_true_eq, decide_eq_false_iff_not, beq_iff_eq, beq_eq_false_iff_ne, ne_eq, bne_iff_ne, bne_eq_false_iff_eq, Decidable.not_not] at hb))))
    all_goals rfl
  refine ⟨⟨false, false, false, false⟩, PS_of (af := a47) rfl rfl ?_⟩
  have he : errP m d = 0 := by simp [errP, h1, h2, h3, h4]
  have hr : resP m d = proposed m d := by simp [resP, he]
  obtain ⟨f1, f2, f3, f4, f5, f6, f7⟩ := lead_facts h1 h2
  have g1 : (0 : Int) ≤ m.id - 1 := by omega
  have g2 := intsPV_getD m.next (m.id - 1).toNat (by omega)
  have g3 := intsPV_getD m.mtch (m.id - 1).toNat (by omega)
  have g4 : m.id - 1 < (m.next.length : Int) := by omega
  have g5 : m.id - 1 < (m.mtch.length : Int) := by omega
  rw [he, hr]
  unfold a47
  dsimp only [List.map, ofPV, initEnv]
  have t1 : (m.log ++ [(m.term, d)]).take (m.log.length + 1) = m.log ++ [(m.term, d)] := List.take_of_length_le (by simp)
  have t2 : ∀ (i : Nat) (x : Int), (m.next.set i x).take m.next.length = m.next.set i x := fun i x => List.take_of_length_le (by simp)
  have t3 : ∀ (i : Nat) (x : Int), (m.mtch.set i x).take m.mtch.length = m.mtch.set i x := fun i x => List.take_of_length_le (by simp)
  have c1 : 0 ≤ (withItem m d).commit := f6
  have c2 : (withItem m d).log.length ≤ 140737488355328 := by simp [withItem]; omega
  have c3 : (withItem m d).mtch.length ≤ 140737488355328 := by simp [withItem]; omega
  have c4 : (withItem m d).members ≤ 9223372036854775807 := hm.me2
  repeat' (first | (simp (disch := omega) only [go_sem, seval, reduceCtorEq, mC, rC, intPV, h1, h2c, h3, h4, g1, g2, g3, g4, g5, t1, t2, t3, itemsPV_length, intsPV_length, itemsPV_sing, itemsPV_append, itemsPV_sz, itemsPV_take, intsPV_take, intsPV_set, List.length_append, List.length_set, List.take_length, maxB]) | (apply x_pure; iterate 5 (first | exact ps28 m f hm.toMIn | exact ps102 (withItem m d) ⟨false, false, false, false⟩ c2 c3 c4 c1 | ((try simp (disch := omega) only [go_sem, seval, reduceCtorEq, mC, rC, intPV, h1, h2c, h3, h4, g1, g2, g3, g4, g5, t1, t2, t3, itemsPV_length, intsPV_length, itemsPV_sing, itemsPV_append, itemsPV_sz, itemsPV_take, intsPV_take, intsPV_set, List.length_append, List.length_set, List.take_length, maxB]) <;> with_reducible exact rfl))) | (apply x_byref; iterate 3 (first | exact bs101 m f _ _ (fresh_of rfl) (by omega) (by omega) (by omega) (by omega) | ((try simp (disch := omega) only [go_sem, seval, reduceCtorEq, mC, rC, intPV, h1, h2c, h3, h4, g1, g2, g3, g4, g5, t1, t2, t3, itemsPV_length, intsPV_length, itemsPV_sing, itemsPV_append, itemsPV_sz, itemsPV_take, intsPV_take, intsPV_set, List.length_append, List.length_set, List.take_length, maxB]) <;> with_reducible exact rfl))) | ((first | apply x_split_cond | apply x_split_guard); all_goals (intro hb; (try simp only [Bool.not_eq_true', Bool.not_eq_false'] at hb); (simp (disch := omega) only [go_sem, seval, reduceCtorEq, mC, rC, intPV, h1, h2c, h3, h4, g1, g2, g3, g4, g5, t1, t2, t3, itemsPV_length, intsPV_length, itemsPV_sing, itemsPV_append, itemsPV_sz, itemsPV_take, intsPV_take, intsPV_set, List.length_append, List.length_set, List.take_length, maxB, hb]); (try simp only [decide_eq_true_eq, decide_eq_false_iff_not, beq_iff_eq, beq_eq_false_iff_ne, ne_eq, bne_iff_ne, bne_eq_false_iff_eq, Decidable.not_not] at hb))))
  (simp (disch := omega) only [go_sem, seval, reduceCtorEq, mC, proposed, withItem, itemsPV_length, intsPV_length, itemsPV_take, intsPV_take, List.length_append, List.length_set, t1, t2, t3, List.take_length])

theorem fit_int {y : PV} (h : Fit (.int .i64) y) : ∃ n, y = .int .i64 n ∧ -9223372036854775808 ≤ n ∧ n ≤ 9223372036854775807 := by
  cases h with
  | int k n h =>
    refine ⟨n, rfl, ?_⟩
    simp [Lit.wf, IntKind.min, IntKind.max, IntKind.signed, IntKind.bits] at h
    omega

theorem fit_str {y : PV} (h : Fit .str y) : ∃ s, y = .str s := by
  cases h with
  | str s h => exact ⟨s, rfl⟩

theorem fit_bool {y : PV} (h : Fit .bool y) : ∃ s, y = .bool s := by
  cases h with
  | bool s => exact ⟨s, rfl⟩

theorem fit_ints {y : PV} (h : Fit (.slice [.int .i64]) y) : ∃ l, y = .slice false (intsPV l) := by
  cases h with
  | slice l xs h hl hr =>
    have : ∀ xs : List (List PV), (∀ x ∈ xs, ∃ n, x = intPV n) → ∃ l, xs = intsPV l := by
      intro xs
      induction xs with
      | nil => intro _; exact ⟨[], rfl⟩
      | cons x xs ih =>
        intro hx
        obtain ⟨n, hn⟩ := hx x (by simp)
        obtain ⟨l, hl⟩ := ih fun y hy => hx y (by simp [hy])
        exact ⟨n :: l, by rw [hn, hl]; rfl⟩
    obtain ⟨l, e⟩ := this xs fun x hx => by
      have h1 := hl x hx
      obtain ⟨i, hi⟩ := List.mem_iff_getElem?.1 hx
      cases x with
      | nil => simp at h1
      | cons a r =>
        have h2 : r = [] := by simpa using h1
        subst h2
        obtain ⟨n, rfl, _⟩ := fit_int (hr i _ 0 _ _ hi rfl rfl)
        exact ⟨n, rfl⟩
    exact ⟨l, by rw [e]⟩

theorem fit_items {y : PV} (h : Fit (.slice [.int .i64, .str]) y) : ∃ l, y = .slice false (itemsPV l) := by
  cases h with
  | slice l xs h hl hr =>
    have : ∀ xs : List (List PV), (∀ x ∈ xs, ∃ n, x = itemPV n) → ∃ l, xs = itemsPV l := by
      intro xs
      induction xs with
      | nil => intro _; exact ⟨[], rfl⟩
      | cons x xs ih =>
        intro hx
        obtain ⟨n, hn⟩ := hx x (by simp)
        obtain ⟨l, hl⟩ := ih fun y hy => hx y (by simp [hy])
        exact ⟨n :: l, by rw [hn, hl]; rfl⟩
    obtain ⟨l, e⟩ := this xs fun x hx => by
      have h1 := hl x hx
      obtain ⟨i, hi⟩ := List.mem_iff_getElem?.1 hx
      match x, h1 with
      | [a, c], _ =>
        obtain ⟨n, rfl, _⟩ := fit_int (hr i _ 0 _ _ hi rfl rfl)
        obtain ⟨s, rfl⟩ := fit_str (hr i _ 1 _ _ hi rfl rfl)
        exact ⟨(n, s), rfl⟩
    exact ⟨l, by rw [e]⟩

/-- What is sure of a member that came in. -/
structure MRan (m : M) : Prop where
  id1 : -9223372036854775808 ≤ m.id
  id2 : m.id ≤ 9223372036854775807
  me1 : -9223372036854775808 ≤ m.members
  me2 : m.members ≤ 9223372036854775807

theorem fit_member {u : List PV} (h : Fits [.int .i64, .int .i64, .int .i64, .int .i64, .slice [.int .i64, .str], .int .i64, .int .i64, .slice [.int .i64], .slice [.int .i64], .slice [.int .i64]] u) : ∃ m f, u = mC m f ∧ MRan m := by
  obtain ⟨y0, u0, rfl, e0, h⟩ := h.cons
  obtain ⟨y1, u1, rfl, e1, h⟩ := h.cons
  obtain ⟨y2, u2, rfl, e2, h⟩ := h.cons
  obtain ⟨y3, u3, rfl, e3, h⟩ := h.cons
  obtain ⟨y4, u4, rfl, e4, h⟩ := h.cons
  obtain ⟨y5, u5, rfl, e5, h⟩ := h.cons
  obtain ⟨y6, u6, rfl, e6, h⟩ := h.cons
  obtain ⟨y7, u7, rfl, e7, h⟩ := h.cons
  obtain ⟨y8, u8, rfl, e8, h⟩ := h.cons
  obtain ⟨y9, u9, rfl, e9, h⟩ := h.cons
  have hn := h.nil
  subst hn
  obtain ⟨n0, rfl, a0, b0⟩ := fit_int e0
  obtain ⟨n1, rfl, a1, b1⟩ := fit_int e1
  obtain ⟨n2, rfl, _⟩ := fit_int e2
  obtain ⟨n3, rfl, _⟩ := fit_int e3
  obtain ⟨n4, rfl⟩ := fit_items e4
  obtain ⟨n5, rfl, _⟩ := fit_int e5
  obtain ⟨n6, rfl, _⟩ := fit_int e6
  obtain ⟨n7, rfl⟩ := fit_ints e7
  obtain ⟨n8, rfl⟩ := fit_ints e8
  obtain ⟨n9, rfl⟩ := fit_ints e9
  exact ⟨⟨n0, n1, n2, n3, n4, n5, n6, n7, n8, n9⟩, ⟨false, false, false, false⟩, rfl, ⟨a0, b0, a1, b1⟩⟩

def zeroX : X := ⟨0, 0, 0, 0, 0, 0, 0, false, []⟩

theorem few_MFew {m : M} {x : X} (hm : MRan m) (h : few m x = true) : MFew m := by
  simp only [few, few98, Bool.and_eq_true, decide_eq_true_eq] at h
  exact ⟨⟨hm.id1, hm.id2, hm.me1, hm.me2, by omega, by omega, by omega, by omega⟩, by omega, by omega, by omega, by omega⟩

theorem works_run : ((cfs tb.A tb.X 12).pure 46 []) = some (.bool true) := by kernel_rfl

theorem ps46 : PS tb 46 [] (.bool true) := ⟨12, works_run⟩

def termN (l : List (Int × ByteArray)) (n : Int) : Int := if n = 0 then 0 else itTerm l (n - 1).toNat

theorem itemsPV_getT (l : List (Int × ByteArray)) (i : Nat) (h : i < l.length) : ∃ s, (itemsPV l)[i]? = some [.int .i64 (itTerm l i), .str s] := by
  rw [itemsPV_get l i h, itTerm_eq l i h]
  exact ⟨l[i].2, rfl⟩

theorem ps106 (m : M) (f : Fl) (n : Int) (h0 : 0 ≤ n) (h1 : n ≤ m.log.length) (hl : m.log.length ≤ 100000) : PS tb 106 [.agg (mC m f), .int .i64 n] (.int .i64 (termN m.log n)) := by
  refine PS_of (af := a106) rfl rfl ?_
  unfold a106
  dsimp only [List.map, ofPV, initEnv]
  by_cases h : n = 0
  · subst h
    repeat' (first | (simp (disch := omega) only [go_sem, seval, reduceCtorEq, mC]) | ((first | apply x_split_cond | apply x_split_guard); all_goals (intro hb; (try simp only [Bool.not_eq_true', Bool.not_eq_false'] at hb); (simp (disch := omega) only [go_sem, seval, reduceCtorEq, mC, hb]); (try simp only [decide_eq_true_eq, decide_eq_false_iff_not, beq_iff_eq, beq_eq_false_iff_ne, ne_eq, bne_iff_ne, bne_eq_false_iff_eq, Decidable.not_not] at hb))))
    all_goals rfl
  · have e1 : (0 : Int) ≤ n - 1 := by omega
    have e2 : (n == 0) = false := by simpa using h
    obtain ⟨s, e3⟩ := itemsPV_getT m.log (n - 1).toNat (by omega)
    have e4 : termN m.log n = itTerm m.log (n - 1).toNat := if_neg h
    repeat' (first | (simp (disch := omega) only [go_sem, seval, reduceCtorEq, mC, e1, e2, e3, e4]) | ((first | apply x_split_cond | apply x_split_guard); all_goals (intro hb; (try simp only [Bool.not_eq_true', Bool.not_eq_false'] at hb); (simp (disch := omega) only [go_sem, seval, reduceCtorEq, mC, e1, e2, e3, e4, hb]); (try simp only [decide_eq_true_eq, decide_eq_false_iff_not, beq_iff_eq, beq_eq_false_iff_ne, ne_eq, bne_iff_ne, bne_eq_false_iff_eq, Decidable.not_not] at hb))))
    all_goals rfl

theorem PS_out {T : Tab} {f : FuncId} {l : List PV} {r : PV} (h : T.A f = none) (hx : T.X.pure f l = some r) : PS T f l r := ⟨0, by simp only [cfs, h, hx]⟩

theorem ps97 (l : List (Int × ByteArray)) (b : Bool) (h : l.length ≤ 100000) : PS tb 97 [.slice b (itemsPV l)] (.slice false (itemsPV l)) := by
  refine PS_out (show tab 97 = none from rfl) ?_
  show outside.pure 97 _ = _
  simp [outside, cloneOf, itemsPV_sz, itemsPV_length, maxBytes]
  omega

def msgPV (x : X) : List PV := xC x false

def msgsPV (l : List X) : List (List PV) := l.map msgPV

theorem msgsPV_length (l : List X) : (msgsPV l).length = l.length := by simp [msgsPV]

theorem msgsPV_sz (l : List X) : allSz 9 (msgsPV l) = true := by simp [allSz, msgsPV, msgPV, xC]

theorem msgsPV_append (a b : List X) : msgsPV a ++ msgsPV b = msgsPV (a ++ b) := by simp [msgsPV]

theorem msgsPV_sing (a b c d e f g : Int) (o : Bool) (l : List (Int × ByteArray)) : [[PV.int .i64 a, .int .i64 b, .int .i64 c, .int .i64 d, .int .i64 e, .int .i64 f, .int .i64 g, .bool o, .slice false (itemsPV l)]] = msgsPV [⟨a, b, c, d, e, f, g, o, l⟩] := rfl

end Go.Dv.Try
