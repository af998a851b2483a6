/-
  Specifications of the functions of this claim, parts 1, 2, 3, 4, 5, 6.
-/
import Derived.Test.YtphkbgjnhfidlaaGreatTab
import Derived.Test.YtphkbgjnhfidlaaGreatStep
set_option linter.unusedVariables false
set_option linter.unusedSimpArgs false
set_option maxRecDepth 100000
set_option maxHeartbeats 16000000
namespace Go.Dv.Tryz
open Go Go.Dv

def itemPV (x : Int × ByteArray) : List PV := [.int .i64 x.1, .str x.2]

def itemsPV (l : List (Int × ByteArray)) : List (List PV) := l.map itemPV

def intPV (x : Int) : List PV := [.int .i64 x]

def intsPV (l : List Int) : List (List PV) := l.map intPV

theorem itemsPV_length (l : List (Int × ByteArray)) : (itemsPV l).length = l.length := by simp [itemsPV]

theorem intsPV_length (l : List Int) : (intsPV l).length = l.length := by simp [intsPV]

theorem itemsPV_get (l : List (Int × ByteArray)) (i : Nat) (h : i < l.length) : (itemsPV l)[i]? = some (itemPV l[i]) := by simp [itemsPV, h]

theorem intsPV_get (l : List Int) (i : Nat) (h : i < l.length) : (intsPV l)[i]? = some (intPV l[i]) := by simp [intsPV, h]

def short98 (x : Int × ByteArray) : Bool := decide (x.2.size ≤ 5000)

def few98 (l : List (Int × ByteArray)) : Bool := decide (l.length ≤ 300) && l.all short98

theorem all_step {α : Type} (l : List α) (p : α → Bool) (i : Nat) (h : i < l.length) (ht : (l.take i).all p = true) (hp : p l[i] = true) : (l.take (i + 1)).all p = true := by
  rw [List.take_add_one, List.all_append, ht, List.getElem?_eq_getElem h]
  simp [hp]

theorem all_no {α : Type} (l : List α) (p : α → Bool) (i : Nat) (h : i < l.length) (hp : p l[i] = false) : l.all p = false := by
  rw [List.all_eq_false]
  exact ⟨l[i], List.getElem_mem h, by simp [hp]⟩

def maj (n : Int) : Int := if n < 0 then 1 else n / 2 + 1

theorem ps25 (n : Int) (h : n ≤ 9223372036854775807) : PS tb 95 [.int .i64 n] (.int .i64 (maj n)) := by
  refine PS_of (af := a95) rfl rfl ?_
  unfold a95
  dsimp only [List.map, ofPV, initEnv]
  repeat' (first | (simp (disch := omega) only [go_sem, seval, reduceCtorEq]) | with_reducible exact Ev.mk | ((first | apply x_split | apply x_splitg) <;> intro hβ hb <;> (try simp only [hβ]) <;> clear hβ))
  · simp [maj, hb, pur, dep]
  · have e : n.tdiv 2 = n / 2 := Int.tdiv_eq_ediv_of_nonneg (by omega)
    simp only [pur, dep, maj, if_neg hb, e]
    rw [Go.IntWalk.i64_in (n / 2) (by omega), Go.IntWalk.i64_in _ (by omega)]

theorem ps26 (n : Int) (h : n ≤ 9223372036854775807) : PS tb 96 [.int .i64 n] (.int .i64 (maj n)) := by
  refine PS_of (af := a96) rfl rfl ?_
  unfold a96
  dsimp only [List.map, ofPV, initEnv]
  repeat' (first | (simp (disch := omega) only [go_sem, seval, reduceCtorEq]) | with_reducible exact Ev.mk | ((first | apply x_split | apply x_splitg) <;> intro hβ hb <;> (try simp only [hβ]) <;> clear hβ))
  simp only [pur, dep, maj]
  by_cases hn : n < 0
  · simp only [hn, if_true]; rfl
  · have e : n.tdiv 2 = n / 2 := Int.tdiv_eq_ediv_of_nonneg (by omega)
    have e0 : ¬ (0 : Int) > n := by omega
    simp only [hn, if_false, e]
    rw [Go.IntWalk.i64_in (n / 2) (by omega), Go.IntWalk.i64_in _ (by omega)]

def okItem (x : Int × ByteArray) : Bool := decide (1 ≤ x.1) && decide (x.1 ≤ 1099511627776) && decide (x.2.size ≤ 4096)

def okLog (l : List (Int × ByteArray)) : Bool := decide (l.length ≤ 256) && l.all okItem

theorem okItem_no {x : Int × ByteArray} (h : x.1 < 1 ∨ 1099511627776 < x.1 ∨ (4096 : Int) < x.2.size) : okItem x = false := by
  rcases h with h | h | h
  · simp [okItem, show ¬ 1 ≤ x.1 by omega]
  · simp [okItem, show ¬ x.1 ≤ 1099511627776 by omega]
  · simp [okItem, show ¬ x.2.size ≤ 4096 by omega]

theorem okItem_yes {x : Int × ByteArray} (h1 : ¬ x.1 < 1) (h2 : ¬ 1099511627776 < x.1) (h3 : ¬ (4096 : Int) < x.2.size) : okItem x = true := by
  simp [okItem]; omega

theorem l75 (l : List (Int × ByteArray)) (b : Bool) (hl : l.length ≤ 256) (K : Ex → St → Prop) (hx : l.all okItem = true → K (.exit 0) ⟨[], [], 0, [0]⟩)
    (hr : l.all okItem = false → ∀ s, aget s.env 2 = some (.p (.bool false)) → K .ret s) : ∀ (m i : Nat), i + m = l.length → (l.take i).all okItem = true →
    W tb a50_l0 ⟨[(8, .p (.slice b (itemsPV l))), (9, .p (.int .i64 l.length)), (10, .p (.int .i64 i))], [], 0, [0]⟩ (LK tb (.ghost (.free [4]) (.ghost .lower a50_l0)) K) := by
  intro m
  induction m with
  | zero =>
    intro i hi ht
    have h1 : ¬ (i : Int) < l.length := by omega
    rw [List.take_of_length_le (by omega)] at ht
    refine i_code (by unfold a50_l0; exact rfl) ?_
    repeat' (first | (simp (disch := omega) only [go_sem, seval, reduceCtorEq, h1, itemsPV_length]) | with_reducible exact Ev.mk | ((first | apply x_split | apply x_splitg) <;> intro hβ hb <;> (try simp only [hβ]) <;> clear hβ))
    exact hx ht
  | succ m ih =>
    intro i hi ht
    have h1 : (i : Int) < l.length := by omega
    have h2 : i < l.length := by omega
    have h3 := itemsPV_get l i h2
    have h4 : (0 : Int) ≤ i := by omega
    refine i_code (by unfold a50_l0; exact rfl) ?_
    repeat' (first | (simp (disch := omega) only [go_sem, seval, reduceCtorEq, h1, h3, h4, itemPV, itemsPV_length]) | with_reducible exact Ev.mk | ((first | apply x_split | apply x_splitg) <;> intro hβ hb <;> (try simp only [hβ]) <;> clear hβ))
    all_goals first
      | exact hr (all_no l okItem i h2 (okItem_no (by omega))) _ rfl
      | skip
    refine i_lk (W_round ?_)
    (try simp (disch := omega) only [go_sem, seval, reduceCtorEq])
    exact ih (i + 1) (by omega) (all_step l okItem i h2 ht (okItem_yes (by assumption) (by assumption) (by assumption)))

theorem ps75 (l : List (Int × ByteArray)) (b : Bool) : PS tb 50 [.slice b (itemsPV l)] (.bool (okLog l)) := by
  refine PS_of (af := a50) rfl rfl ?_
  unfold a50
  dsimp only [List.map, ofPV, initEnv]
  repeat' (first | (simp (disch := omega) only [go_sem, seval, reduceCtorEq, itemsPV_length]) | with_reducible exact Ev.mk | ((first | apply x_split | apply x_splitg) <;> intro hβ hb <;> (try simp only [hβ]) <;> clear hβ))
  · have : ¬ l.length ≤ 256 := by omega
    simp [okLog, this, pur, dep]
  · refine W_round ?_
    have hl : l.length ≤ 256 := by omega
    (try simp (disch := omega) only [go_sem, seval, reduceCtorEq])
    refine l75 l b hl _ ?_ ?_ l.length 0 (by omega) (by simp)
    · intro ha
      (try simp (disch := omega) only [go_sem, seval, reduceCtorEq])
      simp [okLog, hl, ha, pur, dep]
    · intro ha s hs
      (try simp (disch := omega) only [go_sem, seval, reduceCtorEq, hs])
      simp [okLog, hl, ha, pur, dep]

theorem l78 (l : List (Int × ByteArray)) (b : Bool) (hl : l.length ≤ 9223372036854775807) (K : Ex → St → Prop) (hx : l.all okItem = true → K (.exit 0) ⟨[(0, .p (.slice b (itemsPV l)))], [], 0, [0]⟩)
    (hr : l.all okItem = false → ∀ s, aget s.env 2 = some (.p (.bool false)) → K .ret s) : ∀ (m i : Nat), i + m = l.length → (l.take i).all okItem = true →
    W tb a56_l0 ⟨[(0, .p (.slice b (itemsPV l))), (3, .p (.int .i64 i))], [], 0, [0]⟩ (LK tb (.ghost .lower a56_l0) K) := by
  intro m
  induction m with
  | zero =>
    intro i hi ht
    have h1 : ¬ (i : Int) < l.length := by omega
    rw [List.take_of_length_le (by omega)] at ht
    refine i_code (by unfold a56_l0; exact rfl) ?_
    repeat' (first | (simp (disch := omega) only [go_sem, seval, reduceCtorEq, h1, itemsPV_length]) | with_reducible exact Ev.mk | ((first | apply x_split | apply x_splitg) <;> intro hβ hb <;> (try simp only [hβ]) <;> clear hβ))
    exact hx ht
  | succ m ih =>
    intro i hi ht
    have h1 : (i : Int) < l.length := by omega
    have h2 : i < l.length := by omega
    have h3 := itemsPV_get l i h2
    have h4 : (0 : Int) ≤ i := by omega
    refine i_code (by unfold a56_l0; exact rfl) ?_
    repeat' (first | (simp (disch := omega) only [go_sem, seval, reduceCtorEq, h1, h3, h4, itemPV, itemsPV_length]) | with_reducible exact Ev.mk | ((first | apply x_split | apply x_splitg) <;> intro hβ hb <;> (try simp only [hβ]) <;> clear hβ))
    all_goals first
      | exact hr (all_no l okItem i h2 (okItem_no (by omega))) _ rfl
      | skip
    refine i_lk (W_round ?_)
    (try simp (disch := omega) only [go_sem, seval, reduceCtorEq])
    exact ih (i + 1) (by omega) (all_step l okItem i h2 ht (okItem_yes (by assumption) (by assumption) (by assumption)))

theorem ps78 (l : List (Int × ByteArray)) (b : Bool) (hl : l.length ≤ 9223372036854775807) : PS tb 56 [.slice b (itemsPV l)] (.bool (okLog l)) := by
  refine PS_of (af := a56) rfl rfl ?_
  unfold a56
  dsimp only [List.map, ofPV, initEnv]
  repeat' (first | (simp (disch := omega) only [go_sem, seval, reduceCtorEq, itemsPV_length]) | with_reducible exact Ev.mk | ((first | apply x_split | apply x_splitg) <;> intro hβ hb <;> (try simp only [hβ]) <;> clear hβ))
  refine W_round ?_
  (try simp (disch := omega) only [go_sem, seval, reduceCtorEq])
  refine l78 l b hl _ ?_ ?_ l.length 0 (by omega) (by simp)
  · intro ha
    (try simp (disch := omega) only [go_sem, seval, reduceCtorEq, itemsPV_length])
    by_cases h : l.length ≤ 256
    · have : (l.length : Int) ≤ 256 := by omega
      simp [okLog, h, this, ha, pur, dep]
    · have : ¬ (l.length : Int) ≤ 256 := by omega
      simp [okLog, h, this, pur, dep]
  · intro ha s hs
    (try simp (disch := omega) only [go_sem, seval, reduceCtorEq, hs])
    simp [okLog, ha, pur, dep]

structure M where
  id : Int
  members : Int
  term : Int
  vote : Int
  log : List (Int × ByteArray)
  role : Int
  commit : Int
  votes : List Int
  next : List Int
  mtch : List Int

structure Fl where
  a : Bool
  b : Bool
  c : Bool
  d : Bool

def mC (m : M) (f : Fl) : List PV := [.int .i64 m.id, .int .i64 m.members, .int .i64 m.term, .int .i64 m.vote, .slice f.a (itemsPV m.log), .int .i64 m.role, .int .i64 m.commit, .slice f.b (intsPV m.votes), .slice f.c (intsPV m.next), .slice f.d (intsPV m.mtch)]

theorem ra_step {p : Nat → Bool} {i : Nat} (ht : (List.range i).all p = true) (hp : p i = true) : (List.range (i + 1)).all p = true := by
  rw [List.range_succ, List.all_append, ht]; simp [hp]

theorem ra_no {p : Nat → Bool} {i n : Nat} (h : i < n) (hp : p i = false) : (List.range n).all p = false := by
  rw [List.all_eq_false]
  exact ⟨i, List.mem_range.2 h, by simp [hp]⟩

def vOK (mem : Int) (l : List Int) (i : Nat) : Bool := decide (1 ≤ l.getD i 0) && decide (l.getD i 0 ≤ mem) && (decide (i = 0) || decide (l.getD (i - 1) 0 < l.getD i 0))

def okVotes (m : M) : Bool := (List.range m.votes.length).all (vOK m.members m.votes) && m.votes.any (· == m.id) && decide ((m.votes.length : Int) < maj m.members)

theorem getD_eq (l : List Int) (i : Nat) (h : i < l.length) : l.getD i 0 = l[i] := by simp [List.getD, h]

theorem vOK_no {mem : Int} {l : List Int} {i : Nat} (h : i < l.length) (c : l[i] < 1 ∨ mem < l[i] ∨ (0 < i ∧ l[i] ≤ l.getD (i - 1) 0)) : vOK mem l i = false := by
  unfold vOK
  rw [getD_eq l i h]
  generalize l.getD (i - 1) 0 = y at c ⊢
  simp only [Bool.and_eq_false_iff, Bool.or_eq_false_iff, decide_eq_false_iff_not]
  omega

theorem vOK_yes {mem : Int} {l : List Int} {i : Nat} (h : i < l.length) (c1 : ¬ l[i] < 1) (c2 : ¬ mem < l[i]) (c3 : i = 0 ∨ ¬ l[i] ≤ l.getD (i - 1) 0) : vOK mem l i = true := by
  unfold vOK
  rw [getD_eq l i h]
  generalize l.getD (i - 1) 0 = y at c3 ⊢
  simp only [Bool.and_eq_true, Bool.or_eq_true, decide_eq_true_eq]
  omega

theorem any_step (l : List Int) (x : Int) (i : Nat) (h : i < l.length) : (l.take (i + 1)).any (· == x) = ((l.take i).any (· == x) || l[i] == x) := by
  rw [List.take_add_one, List.any_append, List.getElem?_eq_getElem h]; simp

def st76 (m : M) (f : Fl) (i : Nat) (own : Bool) : St := ⟨[(1, .ptr 0 0), (3, .p (.bool own)), (8, .p (.slice f.b (intsPV m.votes))), (9, .p (.int .i64 m.votes.length)), (10, .p (.int .i64 i))], [(0, .var false ((mC m f).map .p))], 1, [0]⟩

theorem l76 (m : M) (f : Fl) (hl : m.votes.length ≤ 9223372036854775807) (K : Ex → St → Prop)
    (hx : (List.range m.votes.length).all (vOK m.members m.votes) = true → K (.exit 0) ⟨[(1, .ptr 0 0), (3, .p (.bool (m.votes.any (· == m.id))))], [(0, .var false ((mC m f).map .p))], 1, [0]⟩)
    (hr : (List.range m.votes.length).all (vOK m.members m.votes) = false → ∀ s, aget s.env 2 = some (.p (.bool false)) → K .ret s) :
    ∀ (n i : Nat), i + n = m.votes.length → (List.range i).all (vOK m.members m.votes) = true →
    W tb a51_l0 (st76 m f i ((m.votes.take i).any (· == m.id))) (LK tb (.ghost .lower a51_l0) K) := by
  intro n
  induction n with
  | zero =>
    intro i hi ht
    have h1 : ¬ (i : Int) < m.votes.length := by omega
    have he : i = m.votes.length := by omega
    rw [List.take_of_length_le (by omega)]
    unfold st76
    refine i_code (by unfold a51_l0; exact rfl) ?_
    repeat' (first | (simp (disch := omega) only [go_sem, seval, reduceCtorEq, h1, intsPV_length, mC]) | with_reducible exact Ev.mk | ((first | apply x_split | apply x_splitg) <;> intro hβ hb <;> (try simp only [hβ]) <;> clear hβ))
    rw [he] at ht
    exact hx ht
  | succ n ih =>
    intro i hi ht
    have h1 : (i : Int) < m.votes.length := by omega
    have h2 : i < m.votes.length := by omega
    have h3 := intsPV_get m.votes i h2
    have h4 : (0 : Int) ≤ i := by omega
    unfold st76
    refine i_code (by unfold a51_l0; exact rfl) ?_
    have back : ∀ (o : Bool), (m.votes.take (i + 1)).any (· == m.id) = o → vOK m.members m.votes i = true → LK tb (.ghost .lower a51_l0) K .normal ⟨[(1, .ptr 0 0), (3, .p (.bool o)), (8, .p (.slice f.b (intsPV m.votes))), (9, .p (.int .i64 m.votes.length)), (10, .p (.int .i64 ((i + 1 : Nat) : Int)))], [(0, .var false ((mC m f).map .p))], 1, [0]⟩ := by
      intro o ho hv
      refine i_lk (W_round ?_)
      (try simp (disch := omega) only [go_sem, seval, reduceCtorEq, mC])
      subst ho
      exact ih (i + 1) (by omega) (ra_step ht hv)
    have own : (m.votes.take (i + 1)).any (· == m.id) = ((m.votes.take i).any (· == m.id) || m.votes[i] == m.id) := any_step m.votes m.id i h2
    by_cases h0 : i = 0
    · have h5 : ¬ (0 : Int) < i := by omega
      repeat' (first | (simp (disch := omega) only [go_sem, seval, reduceCtorEq, h1, h3, h4, h5, intPV, intsPV_length, mC]) | with_reducible exact Ev.mk | ((first | apply x_split | apply x_splitg) <;> intro hβ hb <;> (try simp only [hβ]) <;> clear hβ))
      all_goals first
        | exact hr (ra_no h2 (vOK_no h2 (by omega))) _ rfl
        | exact back _ (by rw [own]; simp only [hb, Bool.true_or, Bool.false_or]) (vOK_yes h2 (by assumption) (by assumption) (.inl h0))
    · have h5 : (0 : Int) < i := by omega
      have h6 : (0 : Int) ≤ i - 1 := by omega
      have h7 : ((i : Int) - 1).toNat = i - 1 := by omega
      have h8 := intsPV_get m.votes (i - 1) (by omega)
      have h9 : m.votes.getD (i - 1) 0 = m.votes[i - 1] := getD_eq m.votes (i - 1) (by omega)
      repeat' (first | (simp (disch := omega) only [go_sem, seval, reduceCtorEq, h1, h3, h4, h5, h6, h7, h8, intPV, intsPV_length, mC]) | with_reducible exact Ev.mk | ((first | apply x_split | apply x_splitg) <;> intro hβ hb <;> (try simp only [hβ]) <;> clear hβ))
      all_goals first
        | exact hr (ra_no h2 (vOK_no h2 (by omega))) _ rfl
        | exact back _ (by rw [own]; simp only [hb, Bool.true_or, Bool.false_or]) (vOK_yes h2 (by assumption) (by assumption) (.inr (by rw [h9]; assumption)))

theorem ps76 (m : M) (f : Fl) (hl : m.votes.length ≤ 9223372036854775807) (hm : m.members ≤ 9223372036854775807) : PS tb 51 [.agg (mC m f)] (.bool (okVotes m)) := by
  refine PS_of (af := a51) rfl rfl ?_
  unfold a51
  dsimp only [List.map, ofPV, initEnv]
  (try simp (disch := omega) only [go_sem, seval, reduceCtorEq, mC, intsPV_length])
  refine W_round ?_
  (try simp (disch := omega) only [go_sem, seval, reduceCtorEq])
  refine l76 m f hl _ ?_ ?_ m.votes.length 0 (by omega) (by simp)
  · intro ha
    repeat' (first | exact ps25 _ hm | (simp (disch := omega) only [go_sem, seval, reduceCtorEq, mC, intsPV_length]) | with_reducible exact Ev.mk | apply x_call | ((first | apply x_split | apply x_splitg) <;> intro hβ hb <;> (try simp only [hβ]) <;> clear hβ))
    all_goals simp [okVotes, ha, hb, pur, dep]
  · intro ha s hs
    (try simp (disch := omega) only [go_sem, seval, reduceCtorEq, hs])
    simp [okVotes, ha, pur, dep]

def st79 (m : M) (f : Fl) (i : Nat) (own : Bool) : St := ⟨[(1, .ptr 0 0), (3, .p (.bool own)), (4, .p (.int .i64 i))], [(0, .var false ((mC m f).map .p))], 1, [0]⟩

theorem l79 (m : M) (f : Fl) (hl : m.votes.length ≤ 9223372036854775807) (K : Ex → St → Prop)
    (hx : (List.range m.votes.length).all (vOK m.members m.votes) = true → K (.exit 0) ⟨[(1, .ptr 0 0), (3, .p (.bool (m.votes.any (· == m.id))))], [(0, .var false ((mC m f).map .p))], 1, [0]⟩)
    (hr : (List.range m.votes.length).all (vOK m.members m.votes) = false → ∀ s, aget s.env 2 = some (.p (.bool false)) → K .ret s) :
    ∀ (n i : Nat), i + n = m.votes.length → (List.range i).all (vOK m.members m.votes) = true →
    W tb a57_l0 (st79 m f i ((m.votes.take i).any (· == m.id))) (LK tb (.ghost .lower a57_l0) K) := by
  intro n
  induction n with
  | zero =>
    intro i hi ht
    have h1 : ¬ (i : Int) < m.votes.length := by omega
    have he : i = m.votes.length := by omega
    rw [List.take_of_length_le (by omega)]
    unfold st79
    refine i_code (by unfold a57_l0; exact rfl) ?_
    repeat' (first | (simp (disch := omega) only [go_sem, seval, reduceCtorEq, h1, intsPV_length, mC]) | with_reducible exact Ev.mk | ((first | apply x_split | apply x_splitg) <;> intro hβ hb <;> (try simp only [hβ]) <;> clear hβ))
    rw [he] at ht
    exact hx ht
  | succ n ih =>
    intro i hi ht
    have h1 : (i : Int) < m.votes.length := by omega
    have h2 : i < m.votes.length := by omega
    have h3 := intsPV_get m.votes i h2
    have h4 : (0 : Int) ≤ i := by omega
    unfold st79
    refine i_code (by unfold a57_l0; exact rfl) ?_
    have back : ∀ (o : Bool), (m.votes.take (i + 1)).any (· == m.id) = o → vOK m.members m.votes i = true → LK tb (.ghost .lower a57_l0) K .normal ⟨[(1, .ptr 0 0), (3, .p (.bool o)), (4, .p (.int .i64 ((i + 1 : Nat) : Int)))], [(0, .var false ((mC m f).map .p))], 1, [0]⟩ := by
      intro o ho hv
      refine i_lk (W_round ?_)
      (try simp (disch := omega) only [go_sem, seval, reduceCtorEq, mC])
      subst ho
      exact ih (i + 1) (by omega) (ra_step ht hv)
    have own : (m.votes.take (i + 1)).any (· == m.id) = ((m.votes.take i).any (· == m.id) || m.votes[i] == m.id) := any_step m.votes m.id i h2
    by_cases h0 : i = 0
    · have h5 : ¬ (0 : Int) < i := by omega
      repeat' (first | (simp (disch := omega) only [go_sem, seval, reduceCtorEq, h1, h3, h4, h5, intPV, intsPV_length, mC]) | with_reducible exact Ev.mk | ((first | apply x_split | apply x_splitg) <;> intro hβ hb <;> (try simp only [hβ]) <;> clear hβ))
      all_goals first
        | exact hr (ra_no h2 (vOK_no h2 (by omega))) _ rfl
        | exact back _ (by rw [own]; simp only [hb, Bool.true_or, Bool.false_or]) (vOK_yes h2 (by assumption) (by assumption) (.inl h0))
    · have h5 : (0 : Int) < i := by omega
      have h6 : (0 : Int) ≤ i - 1 := by omega
      have h7 : ((i : Int) - 1).toNat = i - 1 := by omega
      have h8 := intsPV_get m.votes (i - 1) (by omega)
      have h9 : m.votes.getD (i - 1) 0 = m.votes[i - 1] := getD_eq m.votes (i - 1) (by omega)
      repeat' (first | (simp (disch := omega) only [go_sem, seval, reduceCtorEq, h1, h3, h4, h5, h6, h7, h8, intPV, intsPV_length, mC]) | with_reducible exact Ev.mk | ((first | apply x_split | apply x_splitg) <;> intro hβ hb <;> (try simp only [hβ]) <;> clear hβ))
      all_goals first
        | exact hr (ra_no h2 (vOK_no h2 (by omega))) _ rfl
        | exact back _ (by rw [own]; simp only [hb, Bool.true_or, Bool.false_or]) (vOK_yes h2 (by assumption) (by assumption) (.inr (by rw [h9]; assumption)))

theorem ps79 (m : M) (f : Fl) (hl : m.votes.length ≤ 9223372036854775807) (hm : m.members ≤ 9223372036854775807) : PS tb 57 [.agg (mC m f)] (.bool (okVotes m)) := by
  refine PS_of (af := a57) rfl rfl ?_
  unfold a57
  dsimp only [List.map, ofPV, initEnv]
  (try simp (disch := omega) only [go_sem, seval, reduceCtorEq, mC, intsPV_length])
  refine W_round ?_
  (try simp (disch := omega) only [go_sem, seval, reduceCtorEq])
  refine l79 m f hl _ ?_ ?_ m.votes.length 0 (by omega) (by simp)
  · intro ha
    repeat' (first | exact ps26 _ hm | (simp (disch := omega) only [go_sem, seval, reduceCtorEq, mC, intsPV_length]) | with_reducible exact Ev.mk | apply x_call | ((first | apply x_split | apply x_splitg) <;> intro hβ hb <;> (try simp only [hβ]) <;> clear hβ))
    all_goals simp [okVotes, ha, hb, pur, dep]
  · intro ha s hs
    (try simp (disch := omega) only [go_sem, seval, reduceCtorEq, hs])
    simp [okVotes, ha, pur, dep]

def pOK (m : M) (i : Nat) : Bool := decide (0 ≤ m.mtch.getD i 0) && decide (m.mtch.getD i 0 ≤ m.next.getD i 0) && decide (m.next.getD i 0 ≤ m.log.length)

def okProg (m : M) : Bool := decide ((m.next.length : Int) = m.members) && decide ((m.mtch.length : Int) = m.members) && (List.range m.next.length).all (pOK m) && decide (m.next.getD (m.id - 1).toNat 0 = m.log.length) && decide (m.mtch.getD (m.id - 1).toNat 0 = m.log.length)

theorem pOK_no {m : M} {i : Nat} (h : m.mtch.getD i 0 < 0 ∨ m.next.getD i 0 < m.mtch.getD i 0 ∨ (m.log.length : Int) < m.next.getD i 0) : pOK m i = false := by
  unfold pOK
  generalize m.mtch.getD i 0 = y at h ⊢
  generalize m.next.getD i 0 = z at h ⊢
  simp only [Bool.and_eq_false_iff, decide_eq_false_iff_not]
  omega

theorem pOK_yes {m : M} {i : Nat} (h1 : ¬ m.mtch.getD i 0 < 0) (h2 : ¬ m.next.getD i 0 < m.mtch.getD i 0) (h3 : ¬ (m.log.length : Int) < m.next.getD i 0) : pOK m i = true := by
  unfold pOK
  generalize m.mtch.getD i 0 = y at *
  generalize m.next.getD i 0 = z at *
  simp only [Bool.and_eq_true, decide_eq_true_eq]
  omega

theorem intsPV_getD (l : List Int) (i : Nat) (h : i < l.length) : (intsPV l)[i]? = some (intPV (l.getD i 0)) := by
  rw [intsPV_get l i h, getD_eq l i h]

theorem l77 (m : M) (f : Fl) (hl : m.next.length ≤ 9223372036854775807) (hq : m.mtch.length = m.next.length) (K : Ex → St → Prop)
    (hx : (List.range m.next.length).all (pOK m) = true → K (.exit 0) ⟨[(1, .ptr 0 0), (3, .p (.int .i64 m.log.length))], [(0, .var false ((mC m f).map .p))], 1, [0]⟩)
    (hr : (List.range m.next.length).all (pOK m) = false → ∀ s, aget s.env 2 = some (.p (.bool false)) → K .ret s) :
    ∀ (n i : Nat), i + n = m.next.length → (List.range i).all (pOK m) = true →
    W tb a52_l0 ⟨[(1, .ptr 0 0), (3, .p (.int .i64 m.log.length)), (30, .p (.int .i64 m.next.length)), (31, .p (.int .i64 i))], [(0, .var false ((mC m f).map .p))], 1, [0]⟩ (LK tb (.ghost .lower a52_l0) K) := by
  intro n
  induction n with
  | zero =>
    intro i hi ht
    have h1 : ¬ (i : Int) < m.next.length := by omega
    have he : i = m.next.length := by omega
    refine i_code (by unfold a52_l0; exact rfl) ?_
    repeat' (first | (simp (disch := omega) only [go_sem, seval, reduceCtorEq, h1, intsPV_length, mC]) | with_reducible exact Ev.mk | ((first | apply x_split | apply x_splitg) <;> intro hβ hb <;> (try simp only [hβ]) <;> clear hβ))
    rw [he] at ht
    exact hx ht
  | succ n ih =>
    intro i hi ht
    have h1 : (i : Int) < m.next.length := by omega
    have h2 : i < m.next.length := by omega
    have h3 := intsPV_getD m.next i h2
    have h5 := intsPV_getD m.mtch i (by omega)
    have h4 : (0 : Int) ≤ i := by omega
    refine i_code (by unfold a52_l0; exact rfl) ?_
    repeat' (first | (simp (disch := omega) only [go_sem, seval, reduceCtorEq, h1, h3, h4, h5, intPV, intsPV_length, mC]) | with_reducible exact Ev.mk | ((first | apply x_split | apply x_splitg) <;> intro hβ hb <;> (try simp only [hβ]) <;> clear hβ))
    all_goals first
      | exact hr (ra_no h2 (pOK_no (by omega))) _ rfl
      | skip
    refine i_lk (W_round ?_)
    (try simp (disch := omega) only [go_sem, seval, reduceCtorEq, mC])
    exact ih (i + 1) (by omega) (ra_step ht (pOK_yes (by assumption) (by assumption) (by assumption)))

theorem ps77 (m : M) (f : Fl) (hl : m.next.length ≤ 9223372036854775807) (h1 : 1 ≤ m.id) (h2 : m.id ≤ m.members) : PS tb 52 [.agg (mC m f)] (.bool (okProg m)) := by
  refine PS_of (af := a52) rfl rfl ?_
  unfold a52
  dsimp only [List.map, ofPV, initEnv]
  repeat' (first | (simp (disch := omega) only [go_sem, seval, reduceCtorEq, mC, intsPV_length, itemsPV_length]) | with_reducible exact Ev.mk | ((first | apply x_split | apply x_splitg) <;> intro hβ hb <;> (try simp only [hβ]) <;> clear hβ))
  · simp [okProg, hb, pur, dep]
  · rename_i hb0
    refine W_round ?_
    (try simp (disch := omega) only [go_sem, seval, reduceCtorEq, mC])
    refine l77 m f hl (by omega) _ ?_ ?_ m.next.length 0 (by omega) (by simp)
    · intro ha
      have e0 : (0 : Int) ≤ m.id - 1 := by omega
      have e1 := intsPV_getD m.next (m.id - 1).toNat (by omega)
      have e2 := intsPV_getD m.mtch (m.id - 1).toNat (by omega)
      repeat' (first | (simp (disch := omega) only [go_sem, seval, reduceCtorEq, mC, e0, e1, e2, intPV, intsPV_length]) | with_reducible exact Ev.mk | ((first | apply x_split | apply x_splitg) <;> intro hβ hb <;> (try simp only [hβ]) <;> clear hβ))
      all_goals simp [okProg, ha, hb, hb0, pur, dep]
      all_goals (first | rfl | (simp_all; done) | (simp_all; rfl))
    · intro ha s hs
      (try simp (disch := omega) only [go_sem, seval, reduceCtorEq, hs])
      simp [okProg, ha, pur, dep]
  · simp [okProg, hb, pur, dep]

theorem l80 (m : M) (f : Fl) (hl : m.next.length ≤ 9223372036854775807) (hq : m.mtch.length = m.next.length) (hm : (m.next.length : Int) = m.members) (K : Ex → St → Prop)
    (hx : (List.range m.next.length).all (pOK m) = true → K (.exit 0) ⟨[(1, .ptr 0 0), (3, .p (.int .i64 m.log.length))], [(0, .var false ((mC m f).map .p))], 1, [0]⟩)
    (hr : (List.range m.next.length).all (pOK m) = false → ∀ s, aget s.env 2 = some (.p (.bool false)) → K .ret s) :
    ∀ (n i : Nat), i + n = m.next.length → (List.range i).all (pOK m) = true →
    W tb a58_l0 ⟨[(1, .ptr 0 0), (3, .p (.int .i64 m.log.length)), (4, .p (.int .i64 i))], [(0, .var false ((mC m f).map .p))], 1, [0]⟩ (LK tb (.ghost .lower a58_l0) K) := by
  intro n
  induction n with
  | zero =>
    intro i hi ht
    have h1 : ¬ (i : Int) < m.members := by omega
    have he : i = m.next.length := by omega
    refine i_code (by unfold a58_l0; exact rfl) ?_
    repeat' (first | (simp (disch := omega) only [go_sem, seval, reduceCtorEq, h1, intsPV_length, mC]) | with_reducible exact Ev.mk | ((first | apply x_split | apply x_splitg) <;> intro hβ hb <;> (try simp only [hβ]) <;> clear hβ))
    rw [he] at ht
    exact hx ht
  | succ n ih =>
    intro i hi ht
    have h1 : (i : Int) < m.members := by omega
    have h2 : i < m.next.length := by omega
    have h3 := intsPV_getD m.next i h2
    have h5 := intsPV_getD m.mtch i (by omega)
    have h4 : (0 : Int) ≤ i := by omega
    refine i_code (by unfold a58_l0; exact rfl) ?_
    repeat' (first | (simp (disch := omega) only [go_sem, seval, reduceCtorEq, h1, h3, h4, h5, intPV, intsPV_length, mC]) | with_reducible exact Ev.mk | ((first | apply x_split | apply x_splitg) <;> intro hβ hb <;> (try simp only [hβ]) <;> clear hβ))
    all_goals first
      | exact hr (ra_no h2 (pOK_no (by omega))) _ rfl
      | skip
    refine i_lk (W_round ?_)
    (try simp (disch := omega) only [go_sem, seval, reduceCtorEq, mC])
    exact ih (i + 1) (by omega) (ra_step ht (pOK_yes (by assumption) (by assumption) (by assumption)))

theorem ps80 (m : M) (f : Fl) (hl : m.next.length ≤ 9223372036854775807) (h1 : 1 ≤ m.id) (h2 : m.id ≤ m.members) : PS tb 58 [.agg (mC m f)] (.bool (okProg m)) := by
  refine PS_of (af := a58) rfl rfl ?_
  unfold a58
  dsimp only [List.map, ofPV, initEnv]
  repeat' (first | (simp (disch := omega) only [go_sem, seval, reduceCtorEq, mC, intsPV_length, itemsPV_length]) | with_reducible exact Ev.mk | ((first | apply x_split | apply x_splitg) <;> intro hβ hb <;> (try simp only [hβ]) <;> clear hβ))
  · simp [okProg, hb, pur, dep]
  · rename_i hb0
    refine W_round ?_
    (try simp (disch := omega) only [go_sem, seval, reduceCtorEq, mC])
    refine l80 m f hl (by omega) hb0 _ ?_ ?_ m.next.length 0 (by omega) (by simp)
    · intro ha
      have e0 : (0 : Int) ≤ m.id - 1 := by omega
      have e1 := intsPV_getD m.next (m.id - 1).toNat (by omega)
      have e2 := intsPV_getD m.mtch (m.id - 1).toNat (by omega)
      repeat' (first | (simp (disch := omega) only [go_sem, seval, reduceCtorEq, mC, e0, e1, e2, intPV, intsPV_length]) | with_reducible exact Ev.mk | ((first | apply x_split | apply x_splitg) <;> intro hβ hb <;> (try simp only [hβ]) <;> clear hβ))
      all_goals simp [okProg, ha, hb, hb0, pur, dep]
      all_goals (first | rfl | (simp_all; done) | (simp_all; rfl))
    · intro ha s hs
      (try simp (disch := omega) only [go_sem, seval, reduceCtorEq, hs])
      simp [okProg, ha, pur, dep]
  · simp [okProg, hb, pur, dep]

end Go.Dv.Tryz
