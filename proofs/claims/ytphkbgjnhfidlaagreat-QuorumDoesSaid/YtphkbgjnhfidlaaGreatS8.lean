/-
  Specifications of the functions of this claim, parts 8, 9, 10, 14, 1, 11.
-/
import Derived.Test.YtphkbgjnhfidlaaGreatTab
import Derived.Test.YtphkbgjnhfidlaaGreatStep
import Derived.Test.YtphkbgjnhfidlaaGreatS1
import Derived.Test.YtphkbgjnhfidlaaGreatS7
set_option linter.unusedVariables false
set_option linter.unusedSimpArgs false
set_option maxRecDepth 100000
set_option maxHeartbeats 16000000
namespace Go.Dv.Tryz
open Go Go.Dv

theorem l39 (l : List (Int × ByteArray)) (b c : Bool) (hl : l.length ≤ 9223372036854775807) (K : Ex → St → Prop)
    (hx : K (.exit 0) ⟨[], [], 0, [0]⟩) : ∀ (n i : Nat), i + n = l.length →
    W tb a92_l0 ⟨[(0, .p (.slice b (itemsPV l))), (1, .p (.slice c (itemsPV l))), (5, .p (.int .i64 i))], [], 0, [0]⟩ (LK tb (.ghost .lower a92_l0) K) := by
  intro n
  induction n with
  | zero =>
    intro i hi
    have h1 : ¬ (i : Int) < l.length := by omega
    refine i_code (by unfold a92_l0; exact rfl) ?_
    repeat' (first | (simp (disch := omega) only [go_sem, seval, reduceCtorEq, h1, itemsPV_length]) | with_reducible exact Ev.mk | ((first | apply x_split | apply x_splitg) <;> intro hβ hb <;> (try simp only [hβ]) <;> clear hβ))
    exact hx
  | succ n ih =>
    intro i hi
    have h1 : (i : Int) < l.length := by omega
    have h2 : i < l.length := by omega
    have h3 := itemsPV_get l i h2
    have h4 : (0 : Int) ≤ i := by omega
    refine i_code (by unfold a92_l0; exact rfl) ?_
    repeat' (first | (simp (disch := omega) only [go_sem, seval, reduceCtorEq, h1, h3, h4, itemPV, itemsPV_length]) | with_reducible exact Ev.mk | ((first | apply x_split | apply x_splitg) <;> intro hβ hb <;> (try simp only [hβ]) <;> clear hβ))
    refine i_lk (W_round ?_)
    (try simp (disch := omega) only [go_sem, seval, reduceCtorEq])
    exact ih (i + 1) (by omega)

theorem ps39 (l : List (Int × ByteArray)) (b c : Bool) (hl : l.length ≤ 9223372036854775807) : PS tb 92 [.slice b (itemsPV l), .slice c (itemsPV l)] (.bool true) := by
  refine PS_of (af := a92) rfl rfl ?_
  unfold a92
  dsimp only [List.map, ofPV, initEnv]
  repeat' (first | (simp (disch := omega) only [go_sem, seval, reduceCtorEq, itemsPV_length]) | with_reducible exact Ev.mk | ((first | apply x_split | apply x_splitg) <;> intro hβ hb <;> (try simp only [hβ]) <;> clear hβ))
  refine W_round ?_
  (try simp (disch := omega) only [go_sem, seval, reduceCtorEq])
  refine l39 l b c hl _ ?_ l.length 0 (by omega)
  (try simp (disch := omega) only [go_sem, seval, reduceCtorEq])
  all_goals simp [pur, dep]

theorem l74 (l : List Int) (b c : Bool) (hl : l.length ≤ 9223372036854775807) (K : Ex → St → Prop)
    (hx : K (.exit 0) ⟨[], [], 0, [0]⟩) : ∀ (n i : Nat), i + n = l.length →
    W tb a93_l0 ⟨[(0, .p (.slice b (intsPV l))), (1, .p (.slice c (intsPV l))), (5, .p (.int .i64 i))], [], 0, [0]⟩ (LK tb (.ghost .lower a93_l0) K) := by
  intro n
  induction n with
  | zero =>
    intro i hi
    have h1 : ¬ (i : Int) < l.length := by omega
    refine i_code (by unfold a93_l0; exact rfl) ?_
    repeat' (first | (simp (disch := omega) only [go_sem, seval, reduceCtorEq, h1, intsPV_length]) | with_reducible exact Ev.mk | ((first | apply x_split | apply x_splitg) <;> intro hβ hb <;> (try simp only [hβ]) <;> clear hβ))
    exact hx
  | succ n ih =>
    intro i hi
    have h1 : (i : Int) < l.length := by omega
    have h2 : i < l.length := by omega
    have h3 := intsPV_get l i h2
    have h4 : (0 : Int) ≤ i := by omega
    refine i_code (by unfold a93_l0; exact rfl) ?_
    repeat' (first | (simp (disch := omega) only [go_sem, seval, reduceCtorEq, h1, h3, h4, intPV, intsPV_length]) | with_reducible exact Ev.mk | ((first | apply x_split | apply x_splitg) <;> intro hβ hb <;> (try simp only [hβ]) <;> clear hβ))
    refine i_lk (W_round ?_)
    (try simp (disch := omega) only [go_sem, seval, reduceCtorEq])
    exact ih (i + 1) (by omega)

theorem ps74 (l : List Int) (b c : Bool) (hl : l.length ≤ 9223372036854775807) : PS tb 93 [.slice b (intsPV l), .slice c (intsPV l)] (.bool true) := by
  refine PS_of (af := a93) rfl rfl ?_
  unfold a93
  dsimp only [List.map, ofPV, initEnv]
  repeat' (first | (simp (disch := omega) only [go_sem, seval, reduceCtorEq, intsPV_length]) | with_reducible exact Ev.mk | ((first | apply x_split | apply x_splitg) <;> intro hβ hb <;> (try simp only [hβ]) <;> clear hβ))
  refine W_round ?_
  (try simp (disch := omega) only [go_sem, seval, reduceCtorEq])
  refine l74 l b c hl _ ?_ l.length 0 (by omega)
  (try simp (disch := omega) only [go_sem, seval, reduceCtorEq])
  all_goals simp [pur, dep]

theorem ps27 (m : M) (f g : Fl) (hm : MIn m) : PS tb 47 [.agg (mC m f), .agg (mC m g)] (.bool true) := by
  have := hm.lo; have := hm.vo; have := hm.ne; have := hm.ma
  refine PS_of (af := a47) rfl rfl ?_
  unfold a47
  dsimp only [List.map, ofPV, initEnv]
  repeat' (first | exact ps39 _ _ _ (by omega) | exact ps74 _ _ _ (by omega) | (simp (disch := omega) only [go_sem, seval, reduceCtorEq, mC]) | with_reducible exact Ev.mk | apply x_call | ((first | apply x_split | apply x_splitg) <;> intro hβ hb <;> (try simp only [hβ]) <;> clear hβ))
  all_goals simp [pur, dep]

structure X where
  kind : Int
  frm : Int
  to : Int
  term : Int
  index : Int
  logTerm : Int
  commit : Int
  ok : Bool
  items : List (Int × ByteArray)

def xC (x : X) (f : Bool) : List PV := [.int .i64 x.kind, .int .i64 x.frm, .int .i64 x.to, .int .i64 x.term, .int .i64 x.index, .int .i64 x.logTerm, .int .i64 x.commit, .bool x.ok, .slice f (itemsPV x.items)]

def few (m : M) (x : X) : Bool := few98 m.log && few98 x.items && decide (m.votes.length ≤ 40) && decide (m.next.length ≤ 40) && decide (m.mtch.length ≤ 40)

def cnt (l : List Int) (n : Int) : Nat := l.countP (fun x => decide (n ≤ x))

theorem cnt_step (l : List Int) (n : Int) (i : Nat) (h : i < l.length) : cnt (l.take (i + 1)) n = cnt (l.take i) n + if n ≤ l[i] then 1 else 0 := by
  rw [cnt, List.take_add_one, List.getElem?_eq_getElem h, List.countP_append]
  simp [cnt]

theorem cnt_le (l : List Int) (n : Int) : cnt l n ≤ l.length := List.countP_le_length

theorem l135 (l : List Int) (b : Bool) (x : Int) (hl : l.length ≤ 9223372036854775807) (K : Ex → St → Prop)
    (hx : K (.exit 0) ⟨[(5, .p (.int .i64 (cnt l x)))], [], 0, [0]⟩) : ∀ (n i : Nat), i + n = l.length →
    W tb a105_l0 ⟨[(1, .p (.int .i64 x)), (5, .p (.int .i64 (cnt (l.take i) x))), (9, .p (.slice b (intsPV l))), (10, .p (.int .i64 l.length)), (11, .p (.int .i64 i))], [], 0, [0]⟩ (LK tb (.ghost (.free [2]) (.ghost .lower a105_l0)) K) := by
  intro n
  induction n with
  | zero =>
    intro i hi
    have h1 : ¬ (i : Int) < l.length := by omega
    refine i_code (by unfold a105_l0; exact rfl) ?_
    rw [List.take_of_length_le (by omega)]
    repeat' (first | (simp (disch := omega) only [go_sem, seval, reduceCtorEq, h1, intsPV_length]) | with_reducible exact Ev.mk | ((first | apply x_split | apply x_splitg) <;> intro hβ hb <;> (try simp only [hβ]) <;> clear hβ))
    exact hx
  | succ n ih =>
    intro i hi
    have h1 : (i : Int) < l.length := by omega
    have h2 : i < l.length := by omega
    have h3 := intsPV_get l i h2
    have h4 : (0 : Int) ≤ i := by omega
    have h5 := cnt_step l x i h2
    have h6 := cnt_le (l.take i) x
    have h7 : (l.take i).length ≤ i := List.length_take_le ..
    refine i_code (by unfold a105_l0; exact rfl) ?_
    repeat' (first | (simp (disch := omega) only [go_sem, seval, reduceCtorEq, h1, h3, h4, intPV, intsPV_length]) | with_reducible exact Ev.mk | ((first | apply x_split | apply x_splitg) <;> intro hβ hb <;> (try simp only [hβ]) <;> clear hβ))
    · refine i_lk (W_round ?_)
      (try simp (disch := omega) only [go_sem, seval, reduceCtorEq])
      rw [if_pos hb] at h5
      have := ih (i + 1) (by omega)
      rw [h5] at this
      exact this
    · refine i_lk (W_round ?_)
      (try simp (disch := omega) only [go_sem, seval, reduceCtorEq])
      rw [if_neg hb] at h5
      have := ih (i + 1) (by omega)
      rw [h5] at this
      exact this

theorem ps135 (m : M) (f : Fl) (x : Int) (hl : m.mtch.length ≤ 9223372036854775807) : PS tb 105 [.agg (mC m f), .int .i64 x] (.int .i64 (cnt m.mtch x)) := by
  refine PS_of (af := a105) rfl rfl ?_
  unfold a105
  dsimp only [List.map, ofPV, initEnv]
  repeat' (first | (simp (disch := omega) only [go_sem, seval, reduceCtorEq, mC, intsPV_length]) | with_reducible exact Ev.mk | ((first | apply x_split | apply x_splitg) <;> intro hβ hb <;> (try simp only [hβ]) <;> clear hβ))
  refine W_round ?_
  (try simp (disch := omega) only [go_sem, seval, reduceCtorEq])
  refine l135 m.mtch f.d x hl _ ?_ m.mtch.length 0 (by omega)
  (try simp (disch := omega) only [go_sem, seval, reduceCtorEq])
  all_goals simp [pur, dep]

def itTerm (l : List (Int × ByteArray)) (i : Nat) : Int := (l.getD i (0, ByteArray.empty)).1

theorem itTerm_eq (l : List (Int × ByteArray)) (i : Nat) (h : i < l.length) : itTerm l i = l[i].1 := by simp [itTerm, List.getD, h]

def comm (m : M) : Nat → Int
  | 0 => m.commit
  | k + 1 => if m.commit < (k + 1 : Nat) ∧ itTerm m.log k = m.term ∧ maj m.members ≤ cnt m.mtch (k + 1 : Nat) then (k + 1 : Nat) else comm m k

def commOf (m : M) : Int := comm m m.log.length

theorem comm_low (m : M) (k : Nat) (h : (k : Int) ≤ m.commit) : comm m k = m.commit := by
  induction k with
  | zero => rfl
  | succ k ih => rw [comm, if_neg (by omega), ih (by omega)]

theorem l102 (m : M) (f : Fl) (hl : m.log.length ≤ 9223372036854775807) (hq : m.mtch.length ≤ 9223372036854775807) (hm : m.members ≤ 9223372036854775807) (hc : 0 ≤ m.commit) (K : Ex → St → Prop)
    (hx : commOf m = m.commit → K (.exit 0) ⟨[(1, .ptr 0 0)], [(0, .var false ((mC m f).map .p))], 1, [0]⟩)
    (hr : ∀ s, aget s.env 2 = some (.p (.int .i64 (commOf m))) → K .ret s) :
    ∀ (n : Nat), n ≤ m.log.length → comm m n = commOf m →
    W tb a79_l0 ⟨[(1, .ptr 0 0), (3, .p (.int .i64 n))], [(0, .var false ((mC m f).map .p))], 1, [0]⟩ (LK tb (.ghost .lower a79_l0) K) := by
  intro n
  induction n with
  | zero =>
    intro hi he
    have h1 : ¬ m.commit < 0 := by omega
    refine i_code (by unfold a79_l0; exact rfl) ?_
    repeat' (first | (simp (disch := omega) only [go_sem, seval, reduceCtorEq, h1, intsPV_length, mC]) | with_reducible exact Ev.mk | ((first | apply x_split | apply x_splitg) <;> intro hβ hb <;> (try simp only [hβ]) <;> clear hβ))
    exact hx (he ▸ rfl)
  | succ n ih =>
    intro hi he
    refine i_code (by unfold a79_l0; exact rfl) ?_
    by_cases h1 : m.commit < ((n + 1 : Nat) : Int)
    · have h2 : n < m.log.length := by omega
      have h3 := itemsPV_get m.log n h2
      have h4 : (0 : Int) ≤ ((n + 1 : Nat) : Int) - 1 := by omega
      have h5 : (((n + 1 : Nat) : Int) - 1).toNat = n := by omega
      have h6 : ((n + 1 : Nat) : Int) - 1 = (n : Nat) := by omega
      have h7 : (0 : Int) ≤ (n : Nat) := by omega
      rw [comm, itTerm_eq _ _ h2] at he
      repeat' (first | exact ps135 m f _ hq | exact ps25 _ hm | (simp (disch := omega) only [go_sem, seval, reduceCtorEq, h1, h3, h5, h6, h7, itemPV, itemsPV_length, mC]) | with_reducible exact Ev.mk | apply x_call | ((first | apply x_split | apply x_splitg) <;> intro hβ hb <;> (try simp only [hβ]) <;> clear hβ))
      · rename_i hb0
        refine hr _ ?_
        rw [if_pos (by grind)] at he
        rw [← he]; rfl
      · refine i_lk (W_round ?_)
        (try simp (disch := omega) only [go_sem, seval, reduceCtorEq, mC])
        exact ih (by omega) (by rw [if_neg (by grind)] at he; exact he)
      · refine i_lk (W_round ?_)
        (try simp (disch := omega) only [go_sem, seval, reduceCtorEq, mC])
        exact ih (by omega) (by rw [if_neg (by grind)] at he; exact he)
    · repeat' (first | (simp (disch := omega) only [go_sem, seval, reduceCtorEq, h1, intsPV_length, mC]) | with_reducible exact Ev.mk | ((first | apply x_split | apply x_splitg) <;> intro hβ hb <;> (try simp only [hβ]) <;> clear hβ))
      exact hx (by rw [← he, comm_low m _ (by omega)])

theorem ps102 (m : M) (f : Fl) (hl : m.log.length ≤ 9223372036854775807) (hq : m.mtch.length ≤ 9223372036854775807) (hm : m.members ≤ 9223372036854775807) (hc : 0 ≤ m.commit) : PS tb 79 [.agg (mC m f)] (.int .i64 (commOf m)) := by
  refine PS_of (af := a79) rfl rfl ?_
  unfold a79
  dsimp only [List.map, ofPV, initEnv]
  repeat' (first | (simp (disch := omega) only [go_sem, seval, reduceCtorEq, mC, itemsPV_length]) | with_reducible exact Ev.mk | ((first | apply x_split | apply x_splitg) <;> intro hβ hb <;> (try simp only [hβ]) <;> clear hβ))
  refine W_round ?_
  (try simp (disch := omega) only [go_sem, seval, reduceCtorEq])
  refine l102 m f hl hq hm hc _ ?_ ?_ m.log.length (Nat.le_refl _) rfl
  · intro ha
    (try simp (disch := omega) only [go_sem, seval, reduceCtorEq, mC])
    all_goals simp [pur, dep, ha]
  · intro s hs
    (try simp (disch := omega) only [go_sem, seval, reduceCtorEq, hs])
    all_goals simp [pur, dep]

def zC : List PV := [.int .i64 0, .int .i64 0, .int .i64 0, .int .i64 0, .slice true [], .int .i64 0, .int .i64 0, .slice true [], .slice true [], .slice true []]

theorem l105a (m : M) (f : Fl) (x : Int) (hl : m.mtch.length ≤ 9223372036854775807) (K : Ex → St → Prop)
    (hx : K (.exit 2) ⟨[(1, .ptr 0 0), (2, .ptr 1 0), (3, .p (.int .i64 x)), (4, .p (.int .i64 (cnt m.mtch x)))], [(1, .var false (zC.map .p)), (0, .var false ((mC m f).map .p))], 2, [0]⟩) : ∀ (n i : Nat), i + n = m.mtch.length →
    W tb a91_l0 ⟨[(1, .ptr 0 0), (2, .ptr 1 0), (3, .p (.int .i64 x)), (4, .p (.int .i64 (cnt (m.mtch.take i) x))), (5, .p (.int .i64 i))], [(1, .var false (zC.map .p)), (0, .var false ((mC m f).map .p))], 2, [0]⟩ (LK tb (.ghost .lower a91_l0) K) := by
  intro n
  induction n with
  | zero =>
    intro i hi
    have h1 : ¬ (i : Int) < m.mtch.length := by omega
    refine i_code (by unfold a91_l0; exact rfl) ?_
    rw [List.take_of_length_le (by omega)]
    repeat' (first | (simp (disch := omega) only [go_sem, seval, reduceCtorEq, h1, intsPV_length, mC, zC]) | with_reducible exact Ev.mk | ((first | apply x_split | apply x_splitg) <;> intro hβ hb <;> (try simp only [hβ]) <;> clear hβ))
    exact hx
  | succ n ih =>
    intro i hi
    have h1 : (i : Int) < m.mtch.length := by omega
    have h2 : i < m.mtch.length := by omega
    have h3 := intsPV_get m.mtch i h2
    have h4 : (0 : Int) ≤ i := by omega
    have h5 := cnt_step m.mtch x i h2
    have h6 := cnt_le (m.mtch.take i) x
    have h7 : (m.mtch.take i).length ≤ i := List.length_take_le ..
    refine i_code (by unfold a91_l0; exact rfl) ?_
    repeat' (first | (simp (disch := omega) only [go_sem, seval, reduceCtorEq, h1, h3, h4, intPV, intsPV_length, mC, zC]) | with_reducible exact Ev.mk | ((first | apply x_split | apply x_splitg) <;> intro hβ hb <;> (try simp only [hβ]) <;> clear hβ))
    · refine i_lk (W_round ?_)
      (try simp (disch := omega) only [go_sem, seval, reduceCtorEq, mC, zC])
      rw [if_pos hb] at h5
      have := ih (i + 1) (by omega)
      rw [h5] at this
      exact this
    · refine i_lk (W_round ?_)
      (try simp (disch := omega) only [go_sem, seval, reduceCtorEq, mC, zC])
      rw [if_neg hb] at h5
      have := ih (i + 1) (by omega)
      rw [h5] at this
      exact this

theorem l105 (m : M) (f : Fl) (hl : m.log.length ≤ 9223372036854775807) (hq : m.mtch.length ≤ 9223372036854775807) (hm : m.members ≤ 9223372036854775807) (hc : 0 ≤ m.commit) (K : Ex → St → Prop)
    (hx : commOf m = m.commit → K (.exit 0) ⟨[(1, .ptr 0 0), (2, .ptr 1 0)], [(1, .var false (zC.map .p)), (0, .var false ((mC m f).map .p))], 2, [0]⟩)
    (hr : ∀ s c, aget s.env 2 = some (.ptr 1 0) → aget s.heap 1 = some (.var c ((mC { m with commit := commOf m } f).map .p)) → K .ret s) :
    ∀ (n : Nat), n ≤ m.log.length → comm m n = commOf m →
    W tb a91_l1 ⟨[(1, .ptr 0 0), (2, .ptr 1 0), (3, .p (.int .i64 n))], [(1, .var false (zC.map .p)), (0, .var false ((mC m f).map .p))], 2, [0]⟩ (LK tb (.ghost .lower a91_l1) K) := by
  intro n
  induction n with
  | zero =>
    intro hi he
    have h1 : ¬ m.commit < 0 := by omega
    refine i_code (by unfold a91_l1; exact rfl) ?_
    repeat' (first | (simp (disch := omega) only [go_sem, seval, reduceCtorEq, h1, intsPV_length, mC, zC]) | with_reducible exact Ev.mk | ((first | apply x_split | apply x_splitg) <;> intro hβ hb <;> (try simp only [hβ]) <;> clear hβ))
    exact hx (he ▸ rfl)
  | succ n ih =>
    intro hi he
    refine i_code (by unfold a91_l1; exact rfl) ?_
    by_cases h1 : m.commit < ((n + 1 : Nat) : Int)
    · have h2 : n < m.log.length := by omega
      have h3 := itemsPV_get m.log n h2
      have h6 : ((n + 1 : Nat) : Int) - 1 = (n : Nat) := by omega
      have h7 : (0 : Int) ≤ (n : Nat) := by omega
      rw [comm, itTerm_eq _ _ h2] at he
      (try simp (disch := omega) only [go_sem, seval, reduceCtorEq, h1, h3, h6, h7, itemPV, itemsPV_length, mC, zC])
      refine W_round ?_
      (try simp (disch := omega) only [go_sem, seval, reduceCtorEq, mC, zC])
      refine l105a m f _ hq _ ?_ m.mtch.length 0 (by omega)
      repeat' (first | exact ps26 _ hm | (simp (disch := omega) only [go_sem, seval, reduceCtorEq, h1, h3, h6, h7, itemPV, itemsPV_length, mC, zC]) | with_reducible exact Ev.mk | apply x_call | ((first | apply x_split | apply x_splitg) <;> intro hβ hb <;> (try simp only [hβ]) <;> clear hβ))
      · rename_i hb0
        rw [if_pos (by grind)] at he
        refine hr _ false rfl ?_
        rw [← he]; rfl
      · refine i_lk (W_round ?_)
        (try simp (disch := omega) only [go_sem, seval, reduceCtorEq, mC, zC])
        exact ih (by omega) (by rw [if_neg (by grind)] at he; exact he)
      · refine i_lk (W_round ?_)
        (try simp (disch := omega) only [go_sem, seval, reduceCtorEq, mC, zC])
        exact ih (by omega) (by rw [if_neg (by grind)] at he; exact he)
    · repeat' (first | (simp (disch := omega) only [go_sem, seval, reduceCtorEq, h1, intsPV_length, mC, zC]) | with_reducible exact Ev.mk | ((first | apply x_split | apply x_splitg) <;> intro hβ hb <;> (try simp only [hβ]) <;> clear hβ))
      exact hx (by rw [← he, comm_low m _ (by omega)])

theorem ps105 (m : M) (f : Fl) (hl : m.log.length ≤ 9223372036854775807) (hq : m.mtch.length ≤ 9223372036854775807) (hm : m.members ≤ 9223372036854775807) (hc : 0 ≤ m.commit) : PS tb 91 [.agg (mC m f)] (.agg (mC { m with commit := commOf m } f)) := by
  refine PS_of (af := a91) rfl rfl ?_
  unfold a91
  dsimp only [List.map, ofPV, initEnv]
  repeat' (first | (simp (disch := omega) only [go_sem, seval, reduceCtorEq, mC, itemsPV_length]) | with_reducible exact Ev.mk | ((first | apply x_split | apply x_splitg) <;> intro hβ hb <;> (try simp only [hβ]) <;> clear hβ))
  refine W_round ?_
  (try simp (disch := omega) only [go_sem, seval, reduceCtorEq])
  refine l105 m f hl hq hm hc _ ?_ ?_ m.log.length (Nat.le_refl _) rfl
  · intro ha
    (try simp (disch := omega) only [go_sem, seval, reduceCtorEq, mC, zC])
    all_goals simp [pur, dep, mapO, mC, ha]
  · intro s c hs hh
    (try simp (disch := omega) only [go_sem, seval, reduceCtorEq, hs, hh, mC])
    all_goals simp [pur, dep, mapO, mC]

theorem itemsPV_append (a b : List (Int × ByteArray)) : itemsPV a ++ itemsPV b = itemsPV (a ++ b) := by simp [itemsPV]

theorem itemsPV_take (a : List (Int × ByteArray)) (n : Nat) : (itemsPV a).take n = itemsPV (a.take n) := by simp [itemsPV, List.map_take]

theorem itemsPV_drop (a : List (Int × ByteArray)) (n : Nat) : (itemsPV a).drop n = itemsPV (a.drop n) := by simp [itemsPV, List.map_drop]

theorem itemsPV_nil : itemsPV [] = [] := rfl

theorem itemsPV_isEmpty (a : List (Int × ByteArray)) : (itemsPV a).isEmpty = a.isEmpty := by cases a <;> rfl

theorem itemsPV_sz (a : List (Int × ByteArray)) : allSz 2 (itemsPV a) = true := by simp [allSz, itemsPV, itemPV]

theorem intsPV_append (a b : List Int) : intsPV a ++ intsPV b = intsPV (a ++ b) := by simp [intsPV]

theorem intsPV_take (a : List Int) (n : Nat) : (intsPV a).take n = intsPV (a.take n) := by simp [intsPV, List.map_take]

theorem intsPV_drop (a : List Int) (n : Nat) : (intsPV a).drop n = intsPV (a.drop n) := by simp [intsPV, List.map_drop]

theorem intsPV_nil : intsPV [] = [] := rfl

theorem intsPV_sz (a : List Int) : allSz 1 (intsPV a) = true := by simp [allSz, intsPV, intPV]

theorem maxB (n : Nat) (h : n ≤ 140737488355328) : (n ≤ maxBytes) = True := by simp [maxBytes, h]

theorem takeApp {α : Type} (a b : List α) : (a ++ b).take (a.length + b.length) = a ++ b := List.take_of_length_le (by simp)

theorem ps103 (l more : List (Int × ByteArray)) (b c : Bool) (n : Nat) (hn : n ≤ l.length) (hl : l.length ≤ 100000) (hm : more.length ≤ 100000) :
    PS tb 89 [.slice b (itemsPV l), .int .i64 n, .slice c (itemsPV more)] (.slice false (itemsPV (l.take n ++ more))) := by
  have h0 : (0 : Int) ≤ n := by omega
  have h1 : (n : Int) ≤ l.length := by omega
  have h2 : (l.take n).length ≤ 100000 := by simp; omega
  refine PS_of (af := a89) rfl rfl ?_
  unfold a89
  dsimp only [List.map, ofPV, initEnv]
  (try simp (disch := omega) only [go_sem, seval, reduceCtorEq, itemsPV_sz, itemsPV_length, itemsPV_take, itemsPV_drop, itemsPV_append, itemsPV_nil, h0, h1, maxB, List.length_append, takeApp])

def termN (l : List (Int × ByteArray)) (n : Int) : Int := if n = 0 then 0 else itTerm l (n - 1).toNat

theorem itemsPV_getT (l : List (Int × ByteArray)) (i : Nat) (h : i < l.length) : ∃ s, (itemsPV l)[i]? = some [.int .i64 (itTerm l i), .str s] := by
  rw [itemsPV_get l i h, itTerm_eq l i h]
  exact ⟨l[i].2, rfl⟩

theorem ps106 (m : M) (f : Fl) (n : Int) (h0 : 0 ≤ n) (h1 : n ≤ m.log.length) (hl : m.log.length ≤ 100000) : PS tb 76 [.agg (mC m f), .int .i64 n] (.int .i64 (termN m.log n)) := by
  refine PS_of (af := a76) rfl rfl ?_
  unfold a76
  dsimp only [List.map, ofPV, initEnv]
  by_cases h : n = 0
  · subst h
    repeat' (first | (simp (disch := omega) only [go_sem, seval, reduceCtorEq, mC]) | with_reducible exact Ev.mk | ((first | apply x_split | apply x_splitg) <;> intro hβ hb <;> (try simp only [hβ]) <;> clear hβ))
    all_goals rfl
  · have e1 : (0 : Int) ≤ n - 1 := by omega
    have e2 : (n == 0) = false := by simpa using h
    obtain ⟨s, e3⟩ := itemsPV_getT m.log (n - 1).toNat (by omega)
    have e4 : termN m.log n = itTerm m.log (n - 1).toNat := if_neg h
    repeat' (first | (simp (disch := omega) only [go_sem, seval, reduceCtorEq, mC, e1, e2, e3, e4]) | with_reducible exact Ev.mk | ((first | apply x_split | apply x_splitg) <;> intro hβ hb <;> (try simp only [hβ]) <;> clear hβ))
    all_goals rfl

theorem ps107 (l : List (Int × ByteArray)) (b : Bool) (n : Int) (h0 : 0 ≤ n) (h1 : n ≤ l.length) (hl : l.length ≤ 100000) : PS tb 88 [.slice b (itemsPV l), .int .i64 n] (.int .i64 (termN l n)) := by
  refine PS_of (af := a88) rfl rfl ?_
  unfold a88
  dsimp only [List.map, ofPV, initEnv]
  by_cases h : n = 0
  · subst h
    repeat' (first | (simp (disch := omega) only [go_sem, seval, reduceCtorEq, mC]) | with_reducible exact Ev.mk | ((first | apply x_split | apply x_splitg) <;> intro hβ hb <;> (try simp only [hβ]) <;> clear hβ))
    all_goals rfl
  · have e1 : (0 : Int) ≤ n - 1 := by omega
    have e2 : (n == 0) = false := by simpa using h
    obtain ⟨s, e3⟩ := itemsPV_getT l (n - 1).toNat (by omega)
    have e4 : termN l n = itTerm l (n - 1).toNat := if_neg h
    repeat' (first | (simp (disch := omega) only [go_sem, seval, reduceCtorEq, mC, e1, e2, e3, e4]) | with_reducible exact Ev.mk | ((first | apply x_split | apply x_splitg) <;> intro hβ hb <;> (try simp only [hβ]) <;> clear hβ))
    all_goals rfl

theorem PS_out {T : Tab} {f : FuncId} {l : List PV} {r : PV} (h : T.A f = none) (hx : T.X.pure f l = some r) : PS T f l r := ⟨0, by simp only [cfs, h, hx]⟩

theorem ps97 (l : List (Int × ByteArray)) (b : Bool) (h : l.length ≤ 100000) : PS tb 77 [.slice b (itemsPV l)] (.slice false (itemsPV l)) := by
  refine PS_out (show tab 77 = none from rfl) ?_
  show outside.pure 77 _ = _
  simp [outside, clones, cloneOf, itemsPV_sz, itemsPV_length, maxBytes]
  omega

theorem ps129 (l : List Int) (b : Bool) (h : l.length ≤ 100000) : PS tb 104 [.slice b (intsPV l)] (.slice false (intsPV l)) := by
  refine PS_out (show tab 104 = none from rfl) ?_
  show outside.pure 104 _ = _
  simp [outside, clones, cloneOf, intsPV_sz, intsPV_length, maxBytes]
  omega

def msgPV (x : X) : List PV := xC x false

def msgsPV (l : List X) : List (List PV) := l.map msgPV

theorem msgsPV_length (l : List X) : (msgsPV l).length = l.length := by simp [msgsPV]

theorem msgsPV_sz (l : List X) : allSz 9 (msgsPV l) = true := by simp [allSz, msgsPV, msgPV, xC]

theorem msgsPV_append (a b : List X) : msgsPV a ++ msgsPV b = msgsPV (a ++ b) := by simp [msgsPV]

theorem msgsPV_sing (a b c d e f g : Int) (o : Bool) (l : List (Int × ByteArray)) : [[PV.int .i64 a, .int .i64 b, .int .i64 c, .int .i64 d, .int .i64 e, .int .i64 f, .int .i64 g, .bool o, .slice false (itemsPV l)]] = msgsPV [⟨a, b, c, d, e, f, g, o, l⟩] := rfl

theorem l87 (x : X) (p q : Bool) (hl : x.items.length ≤ 9223372036854775807) (K : Ex → St → Prop)
    (hx : K (.exit 0) ⟨[], [], 0, [0]⟩) : ∀ (n i : Nat), i + n = x.items.length →
    W tb a48_l0 ⟨[(2, .ptr 0 0), (3, .ptr 1 0), (5, .p (.int .i64 i))], [(1, .var false ((xC x q).map .p)), (0, .var false ((xC x p).map .p))], 2, [0]⟩ (LK tb (.ghost .lower a48_l0) K) := by
  intro n
  induction n with
  | zero =>
    intro i hi
    have h1 : ¬ (i : Int) < x.items.length := by omega
    refine i_code (by unfold a48_l0; exact rfl) ?_
    repeat' (first | (simp (disch := omega) only [go_sem, seval, reduceCtorEq, h1, xC, itemsPV_length]) | with_reducible exact Ev.mk | ((first | apply x_split | apply x_splitg) <;> intro hβ hb <;> (try simp only [hβ]) <;> clear hβ))
    exact hx
  | succ n ih =>
    intro i hi
    have h1 : (i : Int) < x.items.length := by omega
    have h2 : i < x.items.length := by omega
    have h3 := itemsPV_get x.items i h2
    have h4 : (0 : Int) ≤ i := by omega
    refine i_code (by unfold a48_l0; exact rfl) ?_
    repeat' (first | (simp (disch := omega) only [go_sem, seval, reduceCtorEq, h1, h3, h4, xC, itemPV, itemsPV_length]) | with_reducible exact Ev.mk | ((first | apply x_split | apply x_splitg) <;> intro hβ hb <;> (try simp only [hβ]) <;> clear hβ))
    refine i_lk (W_round ?_)
    (try simp (disch := omega) only [go_sem, seval, reduceCtorEq, xC])
    exact ih (i + 1) (by omega)

theorem ps87 (x : X) (p q : Bool) (hl : x.items.length ≤ 9223372036854775807) : PS tb 48 [.agg (xC x p), .agg (xC x q)] (.bool true) := by
  refine PS_of (af := a48) rfl rfl ?_
  unfold a48
  dsimp only [List.map, ofPV, initEnv]
  repeat' (first | (simp (disch := omega) only [go_sem, seval, reduceCtorEq, xC, itemsPV_length]) | with_reducible exact Ev.mk | ((first | apply x_split | apply x_splitg) <;> intro hβ hb <;> (try simp only [hβ]) <;> clear hβ))
  refine W_round ?_
  (try simp (disch := omega) only [go_sem, seval, reduceCtorEq, xC])
  refine l87 x p q hl _ ?_ x.items.length 0 (by omega)
  (try simp (disch := omega) only [go_sem, seval, reduceCtorEq])
  all_goals simp [pur, dep]

theorem BS_any {T : Tab} {f : FuncId} {af : AFunc} (hA : T.A f = some af) {args : List DV} {H : Heap} {nx : Nat} {P : DV → Heap → Nat → Prop} (hl : args.length = af.nparams)
    (h : W T af.body { env := initEnv 0 args, heap := H, next := nx, marks := [nx] } (Done af.results fun v s => P v s.heap s.next)) : ∃ r H' nx', BS T f args H nx r H' nx' ∧ P r H' nx' := by
  obtain ⟨e, s', h1, hd⟩ := W_sound _ _ _ h
  unfold Done at hd
  obtain ⟨he, v, hv, h4⟩ := hd
  obtain ⟨n, hn⟩ := h1.at
  refine ⟨v, s'.heap, s'.next, ⟨n + 1, ?_⟩, h4⟩
  rw [cfs]
  simp only [hA]
  have hx := dcode_le (CallF.le.refl (cfs T.A T.X n)) (Nat.le_succ n) _ _ _ (hn n (Nat.le_refl _))
  unfold drun
  rw [if_pos hl, hx]
  rcases he with rfl | rfl <;> simp only [hv]

theorem PS_any {T : Tab} {f : FuncId} {af : AFunc} (hA : T.A f = some af) {args : List PV} {P : PV → Prop} (hl : args.length = af.nparams)
    (h : W T af.body { env := initEnv 0 (args.map ofPV), heap := [], next := 0, marks := [0] } (Done af.results fun v s => ∃ p, pur s.heap dep v = some p ∧ P p)) : ∃ p, PS T f args p ∧ P p := by
  obtain ⟨e, s', h1, hd⟩ := W_sound _ _ _ h
  unfold Done at hd
  obtain ⟨he, v, hv, p, hp, h4⟩ := hd
  obtain ⟨n, hn⟩ := h1.at
  refine ⟨p, ⟨n + 1, ?_⟩, h4⟩
  rw [cfs]
  simp only [hA]
  have hx := dcode_le (CallF.le.refl (cfs T.A T.X n)) (Nat.le_succ n) _ _ _ (hn n (Nat.le_refl _))
  unfold prun drun
  rw [if_pos (by simpa using hl), hx]
  rcases he with rfl | rfl <;> simp only [hv, hp]

def netPV (l : List (X × Bool)) : List (List PV) := l.map fun t => xC t.1 t.2

theorem netPV_length (l : List (X × Bool)) : (netPV l).length = l.length := by simp [netPV]

theorem netPV_sz (l : List (X × Bool)) : allSz 9 (netPV l) = true := by simp [allSz, netPV, xC]

theorem netPV_append (a b : List (X × Bool)) : netPV a ++ netPV b = netPV (a ++ b) := by simp [netPV]

theorem netPV_take (a : List (X × Bool)) (n : Nat) : (netPV a).take n = netPV (a.take n) := by simp [netPV, List.map_take]

theorem netPV_drop (a : List (X × Bool)) (n : Nat) : (netPV a).drop n = netPV (a.drop n) := by simp [netPV, List.map_drop]

theorem netPV_get (l : List (X × Bool)) (i : Nat) (h : i < l.length) : (netPV l)[i]? = some (xC l[i].1 l[i].2) := by simp [netPV, h]

theorem netPV_set (l : List (X × Bool)) (i : Nat) (x : X) (b : Bool) : (netPV l).set i [.int .i64 x.kind, .int .i64 x.frm, .int .i64 x.to, .int .i64 x.term, .int .i64 x.index, .int .i64 x.logTerm, .int .i64 x.commit, .bool x.ok, .slice b (itemsPV x.items)] = netPV (l.set i (x, b)) := by simp [netPV, List.map_set, xC]

theorem netPV_sing (x : X) (b : Bool) : [[PV.int .i64 x.kind, .int .i64 x.frm, .int .i64 x.to, .int .i64 x.term, .int .i64 x.index, .int .i64 x.logTerm, .int .i64 x.commit, .bool x.ok, .slice b (itemsPV x.items)]] = netPV [(x, b)] := rfl

theorem netPV_nil : netPV [] = [] := rfl

def clr (l : List (X × Bool)) : List (X × Bool) := l.map fun t => (t.1, false)

theorem clr_length (l : List (X × Bool)) : (clr l).length = l.length := by simp [clr]

theorem clr_step (l : List (X × Bool)) (i : Nat) (h : i < l.length) : (clr (l.take i) ++ l.drop i).set i (l[i].1, false) = clr (l.take (i + 1)) ++ l.drop (i + 1) := by
  have e : (clr (l.take i)).length = i := by simp [clr]; omega
  rw [List.set_append_right _ _ (by omega), e, Nat.sub_self, List.drop_eq_getElem_cons h, List.set_cons_zero, List.take_add_one, List.getElem?_eq_getElem h]
  simp only [clr, List.map_append, List.map_cons, List.map_nil, List.append_assoc, List.cons_append, List.nil_append, Option.toList]

theorem clr_get (l : List (X × Bool)) (i : Nat) (h : i < l.length) : (netPV (clr (l.take i) ++ l.drop i))[i]? = some (xC l[i].1 l[i].2) := by
  have e : (clr (l.take i)).length = i := by simp [clr]; omega
  simp only [netPV, List.getElem?_map]
  rw [List.getElem?_append_right (by omega), e, Nat.sub_self, List.drop_eq_getElem_cons h]
  rfl

def Small (l : List (X × Bool)) : Prop := l.length ≤ 1000 ∧ ∀ t ∈ l, t.1.items.length ≤ 100000

theorem ps_nclone (x : X) (b : Bool) (h : x.items.length ≤ 100000) : PS tb 97 [.agg (xC x b)] (.agg (xC x false)) := by
  refine PS_of (af := a97) rfl rfl ?_
  unfold a97
  dsimp only [List.map, ofPV, initEnv]
  repeat' (first | exact ps97 x.items b h | (simp (disch := omega) only [go_sem, seval, reduceCtorEq, xC]) | with_reducible exact Ev.mk | apply x_call | ((first | apply x_split | apply x_splitg) <;> intro hβ hb <;> (try simp only [hβ]) <;> clear hβ))
  all_goals rfl

theorem l_copied (l : List (X × Bool)) (hs : Small l) (H : Heap) (nx : Nat) (K : Ex → St → Prop) (hx : K (.exit 0) ⟨[(5, .ref nx l.length 0 l.length)], (nx, .row false 9 (netPV (clr l))) :: H, nx + 1, [nx]⟩) : ∀ (m i : Nat), i + m = l.length →
    W tb a103_l0 ⟨[(5, .ref nx l.length 0 l.length), (18, .p (.int .i64 l.length)), (19, .p (.int .i64 i))], (nx, .row false 9 (netPV (clr (l.take i) ++ l.drop i))) :: H, nx + 1, [nx]⟩ (LK tb a103_l0 K) := by
  have h1000 := hs.1
  intro m
  induction m with
  | zero =>
    intro i hi
    have h1 : ¬ (i : Int) < l.length := by omega
    refine i_code (by unfold a103_l0; exact rfl) ?_
    repeat' (first | (simp (disch := omega) only [go_sem, seval, reduceCtorEq, h1]) | with_reducible exact Ev.mk | ((first | apply x_split | apply x_splitg) <;> intro hβ hb <;> (try simp only [hβ]) <;> clear hβ))
    have e : i = l.length := by omega
    subst e
    rw [List.take_length, List.drop_length, List.append_nil]
    exact hx
  | succ m ih =>
    intro i hi
    have h1 : (i : Int) < l.length := by omega
    have h2 : i < l.length := by omega
    have h4 : (0 : Int) ≤ i := by omega
    have h3 := clr_get l i h2
    have h5 : (netPV (clr (l.take i) ++ l.drop i)).length = l.length := by rw [netPV_length, List.length_append, clr_length, List.length_take, List.length_drop]; omega
    have h6 := hs.2 l[i] (List.getElem_mem h2)
    have h7 : (netPV (clr (l.take i) ++ l.drop i)).set i [.int .i64 l[i].1.kind, .int .i64 l[i].1.frm, .int .i64 l[i].1.to, .int .i64 l[i].1.term, .int .i64 l[i].1.index, .int .i64 l[i].1.logTerm, .int .i64 l[i].1.commit, .bool l[i].1.ok, .slice false (itemsPV l[i].1.items)] = netPV (clr (l.take (i + 1)) ++ l.drop (i + 1)) := by rw [netPV_set, clr_step l i h2]
    refine i_code (by unfold a103_l0; exact rfl) ?_
    repeat' (first | exact ps_nclone l[i].1 l[i].2 h6 | (simp (disch := omega) only [go_sem, seval, reduceCtorEq, h1, h3, h4, h5, h2, h7, xC]) | with_reducible exact Ev.mk | apply x_call | ((first | apply x_split | apply x_splitg) <;> intro hβ hb <;> (try simp only [hβ]) <;> clear hβ))
    refine i_lk (W_round ?_)
    exact ih (i + 1) (by omega)

theorem bs_copied (l : List (X × Bool)) (hs : Small l) (b : Bool) (more : Int) (h0 : 0 ≤ more) (h1 : more ≤ 1000) (H : Heap) (nx : Nat) :
    BS tb 103 [.p (.slice b (netPV l)), .p (.int .i64 more)] H nx (.ref nx l.length 0 l.length) ((nx, .row false 9 (netPV (clr l))) :: H) (nx + 1) := by
  have h1000 := hs.1
  refine BS_of (af := a103) rfl rfl ?_
  unfold a103
  dsimp only [initEnv]
  have h3 : (netPV l).take l.length = netPV l := by rw [← netPV_length, List.take_length]
  have h4 : ∀ z : List PV, (List.replicate l.length z).drop l.length = [] := by simp
  have c1 : (0 : Int) ≤ l.length := by omega
  have c2 : (l.length : Int) ≤ l.length + more := by omega
  have c3 : (l.length : Int) + more ≤ 140737488355328 := by omega
  have c4 : ((l.length : Int) + more).toNat * 88 ≤ 140737488355328 := by omega
  repeat' (first | (simp (disch := omega) only [go_sem, seval, reduceCtorEq, netPV_length, netPV_sz, maxB, h3, h4, c1, c2, c3, c4, maxBytes, List.length_replicate]) | with_reducible exact Ev.mk | ((first | apply x_split | apply x_splitg) <;> intro hβ hb <;> (try simp only [hβ]) <;> clear hβ))
  refine W_round ?_
  refine l_copied l hs H nx _ ?_ l.length 0 (by omega)
  (try simp (disch := omega) only [go_sem, seval, reduceCtorEq])

theorem bs_copiedR (l : List (X × Bool)) (hs : Small l) (r : Nat) (fz : Bool) (more : Int) (h0 : 0 ≤ more) (h1 : more ≤ 1000) (H : Heap) (nx : Nat) (hr : aget H r = some (.row fz 9 (netPV l))) (hn : (nx == r) = false) :
    BS tb 103 [.ref r l.length 0 l.length, .p (.int .i64 more)] H nx (.ref nx l.length 0 l.length) ((nx, .row false 9 (netPV (clr l))) :: H) (nx + 1) := by
  have h1000 := hs.1
  refine BS_of (af := a103) rfl rfl ?_
  unfold a103
  dsimp only [initEnv]
  have h3 : (netPV l).take l.length = netPV l := by rw [← netPV_length, List.take_length]
  have h4 : ∀ z : List PV, (List.replicate l.length z).drop l.length = [] := by simp
  have c1 : (0 : Int) ≤ l.length := by omega
  have c2 : (l.length : Int) ≤ l.length + more := by omega
  have c3 : (l.length : Int) + more ≤ 140737488355328 := by omega
  have c4 : ((l.length : Int) + more).toNat * 88 ≤ 140737488355328 := by omega
  repeat' (first | (simp (disch := omega) only [go_sem, seval, reduceCtorEq, netPV_length, netPV_sz, maxB, h3, h4, c1, c2, c3, c4, maxBytes, hr, hn, List.length_replicate]) | with_reducible exact Ev.mk | ((first | apply x_split | apply x_splitg) <;> intro hβ hb <;> (try simp only [hβ]) <;> clear hβ))
  refine W_round ?_
  refine l_copied l hs H nx _ ?_ l.length 0 (by omega)
  (try simp (disch := omega) only [go_sem, seval, reduceCtorEq])

theorem clr_append (a b : List (X × Bool)) : clr (a ++ b) = clr a ++ clr b := by simp [clr]

def cut (l : List (X × Bool)) : List (X × Bool) := l.take (if 256 < l.length then 256 else l.length)

theorem ps_send (l q : List (X × Bool)) (hs : Small l) (hq : Small q) (b c : Bool) : ∃ d, PS tb 72 [.slice b (netPV l), .slice c (netPV q)] (.slice d (netPV (cut (clr (l ++ q))))) := by
  have h1000 := hs.1
  have h1001 := hq.1
  refine ⟨false, ?_⟩
  refine PS_of (af := a72) rfl rfl ?_
  unfold a72
  dsimp only [List.map, ofPV, initEnv]
  have e1 : (clr q).length = q.length := clr_length q
  have e2 : (clr l).length = l.length := clr_length l
  have e5 : (clr q).take q.length = clr q := by rw [← e1, List.take_length]
  have c1 : (l.length + q.length) * 88 ≤ 140737488355328 := by omega
  have c2 : l.length + q.length ≤ 140737488355328 := by omega
  have e6 : (clr l ++ clr q).take (l.length + q.length) = clr l ++ clr q := List.take_of_length_le (by simp [e1, e2])
  have e7 : cut (clr (l ++ q)) = (clr l ++ clr q).take (if 256 < l.length + q.length then 256 else l.length + q.length) := by
    unfold cut
    rw [clr_append, List.length_append, e1, e2]
  by_cases hc : 256 < l.length + q.length
  · have c3 : (256 : Int) < ((l.length + q.length : Nat) : Int) := by omega
    have c4 : (256 : Int) ≤ ((l.length + q.length : Nat) : Int) := by omega
    have c5 : 256 ≤ l.length + q.length := by omega
    rw [if_pos hc] at e7
    repeat' (first | exact bs_copied l hs b q.length (by omega) (by omega) [] 0 | exact bs_copied q hq c 0 (by omega) (by omega) _ 1 | (simp (disch := omega) only [go_sem, seval, reduceCtorEq, netPV_length, netPV_sz, netPV_append, netPV_take, netPV_drop, maxBytes, List.length_append, e1, e2, e5, e6, e7, c1, c2, c3, c4, c5]) | with_reducible exact Ev.mk | apply x_callr | ((first | apply x_split | apply x_splitg) <;> intro hβ hb <;> (try simp only [hβ]) <;> clear hβ))
  · have c4 : (0 : Int) ≤ ((l.length + q.length : Nat) : Int) := by omega
    have c3 : ¬ (256 : Int) < ((l.length + q.length : Nat) : Int) := by omega
    rw [if_neg hc] at e7
    repeat' (first | exact bs_copied l hs b q.length (by omega) (by omega) [] 0 | exact bs_copied q hq c 0 (by omega) (by omega) _ 1 | (simp (disch := omega) only [go_sem, seval, reduceCtorEq, netPV_length, netPV_sz, netPV_append, netPV_take, netPV_drop, maxBytes, List.length_append, e1, e2, e5, e6, e7, c1, c2, c3, c4, Nat.sub_zero]) | with_reducible exact Ev.mk | apply x_callr | ((first | apply x_split | apply x_splitg) <;> intro hβ hb <;> (try simp only [hβ]) <;> clear hβ))

def del (l : List (X × Bool)) (k : Nat) : List (X × Bool) := l.take k ++ l.drop (k + 1)

theorem del_length (l : List (X × Bool)) (k : Nat) (h : k < l.length) : (del l k).length = l.length - 1 := by simp [del]; omega

theorem small_del {l : List (X × Bool)} (h : Small l) (k : Nat) : Small (del l k) := by
  refine ⟨by have := h.1; simp [del]; omega, fun t ht => ?_⟩
  rcases List.mem_append.1 ht with e | e
  · exact h.2 t (List.mem_of_mem_take e)
  · exact h.2 t (List.mem_of_mem_drop e)

theorem ps_without (l : List (X × Bool)) (hs : Small l) (b : Bool) (k : Nat) (hk : k < l.length) : PS tb 98 [.slice b (netPV l), .int .i64 k] (.slice false (netPV (clr (del l k)))) := by
  have h1000 := hs.1
  refine PS_of (af := a98) rfl rfl ?_
  unfold a98
  dsimp only [List.map, ofPV, initEnv]
  have i1 : (l.length : Int) - 1 = ((l.length - 1 : Nat) : Int) := by omega
  have c1 : (0 : Int) ≤ ((l.length - 1 : Nat) : Int) := by omega
  have c2 : ((l.length - 1 : Nat) : Int) ≤ 140737488355328 := by omega
  have c3 : (l.length - 1) * 88 ≤ 140737488355328 := by omega
  have c4 : (0 : Int) ≤ k := by omega
  have c5 : (k : Int) ≤ l.length := by omega
  have c6 : ((k + 1 : Nat) : Int) ≤ l.length := by omega
  have c7 : (k : Int) ≤ ((l.length - 1 : Nat) : Int) := by omega
  have c8 : (0 : Int) ≤ ((k + 1 : Nat) : Int) := by omega
  have d1 : (l.take k).take (l.length - 1) = l.take k := List.take_of_length_le (by simp; omega)
  have d2 : (l.take k).length = k := by simp; omega
  have d3 : ∀ z : List PV, (List.replicate (l.length - 1) z).drop k = List.replicate (l.length - 1 - k) z := fun z => by simp
  have d4 : ∀ z : List PV, (netPV (l.take k) ++ List.replicate (l.length - 1 - k) z).length = l.length - 1 := fun z => by simp [netPV_length]; omega
  have d5 : ∀ z : List PV, (netPV (l.take k) ++ List.replicate (l.length - 1 - k) z).take k = netPV (l.take k) := fun z => by rw [List.take_append_of_le_length (by simp [netPV_length]; omega), List.take_of_length_le (by simp [netPV_length]; omega)]
  have d6 : ∀ z : List PV, (netPV (l.take k) ++ List.replicate (l.length - 1 - k) z).drop (l.length - 1) = [] := fun z => List.drop_of_length_le (by simp [netPV_length]; omega)
  have d7 : (l.drop (k + 1)).length = l.length - 1 - k := by simp; omega
  have d8 : (l.drop (k + 1)).take (l.length - 1 - k) = l.drop (k + 1) := List.take_of_length_le (by simp; omega)
  have d9 : k + (l.length - 1 - k) = l.length - 1 := by omega
  have d10 : l.take k ++ l.drop (k + 1) = del l k := rfl
  have d11 := del_length l k hk
  have d12 : (clr (del l k)).take (l.length - 1) = clr (del l k) := List.take_of_length_le (by rw [clr_length]; omega)
  have q := bs_copiedR (del l k) (small_del hs k) 0 false 0 (by omega) (by omega) [(0, .row false 9 (netPV (del l k)))] 1 rfl rfl
  rw [d11] at q
  repeat' (first | exact q | (simp (disch := omega) only [go_sem, seval, reduceCtorEq, netPV_length, netPV_sz, netPV_take, netPV_drop, netPV_append, maxBytes, i1, c1, c2, c3, c4, c5, c6, c7, c8, d1, d2, d3, d4, d5, d6, d7, d8, d9, d10, d11, d12, clr_length, List.take_length, List.length_replicate]) | with_reducible exact Ev.mk | apply x_callr | ((first | apply x_split | apply x_splitg) <;> intro hβ hb <;> (try simp only [hβ]) <;> clear hβ))

def zeroXF : X := ⟨0, 0, 0, 0, 0, 0, 0, false, []⟩

def getX (l : List (X × Bool)) (k : Nat) : X := (l.getD k (zeroXF, true)).1

theorem getX_get (l : List (X × Bool)) (k : Nat) (h : k < l.length) : getX l k = l[k].1 := by simp [getX, List.getD_eq_getElem?_getD, h]

theorem ps_deliver (l : List (X × Bool)) (hs : Small l) (b : Bool) (k : Nat) (hk : k < l.length) : PS tb 65 [.slice b (netPV l), .int .i64 k] (.tuple [.agg (xC (getX l k) false), .slice false (netPV (clr (del l k))), .int .i64 0]) := by
  refine PS_of (af := a65) rfl rfl ?_
  unfold a65
  dsimp only [List.map, ofPV, initEnv]
  have h1000 := hs.1
  have c1 : ¬ (k : Int) < 0 := by omega
  have c2 : ¬ (l.length : Int) ≤ k := by omega
  have c3 : (0 : Int) ≤ k := by omega
  have h3 := netPV_get l k hk
  have e := getX_get l k hk
  have s := hs.2 l[k] (List.getElem_mem hk)
  repeat' (first | exact ps_nclone l[k].1 l[k].2 s | exact ps_without l hs b k hk | (simp (disch := omega) only [go_sem, seval, reduceCtorEq, netPV_length, netPV_sz, c1, c2, c3, h3, xC, e]) | with_reducible exact Ev.mk | apply x_call | ((first | apply x_split | apply x_splitg) <;> intro hβ hb <;> (try simp only [hβ]) <;> clear hβ))
  all_goals rfl

theorem ps_deliverN (l : List (X × Bool)) (hl : l.length ≤ 1000) (b : Bool) (k : Int) (hk : k < 0 ∨ (l.length : Int) ≤ k) : PS tb 65 [.slice b (netPV l), .int .i64 k] (.tuple [.agg (xC zeroXF true), .slice true [], .int .i64 9]) := by
  refine PS_of (af := a65) rfl rfl ?_
  unfold a65
  dsimp only [List.map, ofPV, initEnv]
  repeat' (first | (simp (disch := omega) only [go_sem, seval, reduceCtorEq, netPV_length, netPV_sz]) | with_reducible exact Ev.mk | ((first | apply x_split | apply x_splitg) <;> intro hβ hb <;> (try simp only [hβ]) <;> clear hβ))
  all_goals first | rfl | (exfalso; omega)

theorem ps_drop (l : List (X × Bool)) (hs : Small l) (b : Bool) (k : Nat) (hk : k < l.length) : PS tb 68 [.slice b (netPV l), .int .i64 k] (.tuple [.slice false (netPV (clr (del l k))), .int .i64 0]) := by
  refine PS_of (af := a68) rfl rfl ?_
  unfold a68
  dsimp only [List.map, ofPV, initEnv]
  have h1000 := hs.1
  have c1 : ¬ (k : Int) < 0 := by omega
  have c2 : ¬ (l.length : Int) ≤ k := by omega
  repeat' (first | exact ps_without l hs b k hk | (simp (disch := omega) only [go_sem, seval, reduceCtorEq, netPV_length, netPV_sz, c1, c2]) | with_reducible exact Ev.mk | apply x_call | ((first | apply x_split | apply x_splitg) <;> intro hβ hb <;> (try simp only [hβ]) <;> clear hβ))

theorem ps_dropN (l : List (X × Bool)) (hl : l.length ≤ 1000) (b : Bool) (k : Int) (hk : k < 0 ∨ (l.length : Int) ≤ k) : PS tb 68 [.slice b (netPV l), .int .i64 k] (.tuple [.slice true [], .int .i64 9]) := by
  refine PS_of (af := a68) rfl rfl ?_
  unfold a68
  dsimp only [List.map, ofPV, initEnv]
  repeat' (first | (simp (disch := omega) only [go_sem, seval, reduceCtorEq, netPV_length, netPV_sz]) | with_reducible exact Ev.mk | ((first | apply x_split | apply x_splitg) <;> intro hβ hb <;> (try simp only [hβ]) <;> clear hβ))
  all_goals first | rfl | (exfalso; omega)

theorem ps_dup (l : List (X × Bool)) (hs : Small l) (b : Bool) (k : Nat) (hk : k < l.length) (h2 : l.length < 256) : PS tb 70 [.slice b (netPV l), .int .i64 k] (.tuple [.slice false (netPV (clr (l ++ [(getX l k, false)]))), .int .i64 0]) := by
  refine PS_of (af := a70) rfl rfl ?_
  unfold a70
  dsimp only [List.map, ofPV, initEnv]
  have h1000 := hs.1
  have c1 : ¬ (k : Int) < 0 := by omega
  have c2 : ¬ (l.length : Int) ≤ k := by omega
  have c3 : (0 : Int) ≤ k := by omega
  have c4 : ¬ (256 : Int) ≤ l.length := by omega
  have h3 := netPV_get l k hk
  have e := getX_get l k hk
  have s := hs.2 l[k] (List.getElem_mem hk)
  have e2 : clr (l ++ [(getX l k, false)]) = clr l ++ [(l[k].1, false)] := by rw [clr_append, e]; rfl
  have m1 : (l.length + 1) * 88 ≤ 140737488355328 := by omega
  have m2 : l.length + 1 ≤ 140737488355328 := by omega
  have e3 : (clr l ++ [(l[k].1, false)]).take (l.length + 1) = clr l ++ [(l[k].1, false)] := List.take_of_length_le (by simp [clr_length])
  rw [e2]
  repeat' (first | exact ps_nclone l[k].1 l[k].2 s | exact bs_copied l hs b 1 (by omega) (by omega) [] 0 | (simp (disch := omega) only [go_sem, seval, reduceCtorEq, netPV_length, netPV_sz, netPV_take, c1, c2, c3, c4, h3, xC, clr_length, maxBytes, m1, m2, netPV_append, netPV_sing, netPV_append, List.length_append, e3]) | with_reducible exact Ev.mk | apply x_call | apply x_callr | ((first | apply x_split | apply x_splitg) <;> intro hβ hb <;> (try simp only [hβ]) <;> clear hβ))

theorem ps_dupN (l : List (X × Bool)) (hl : l.length ≤ 1000) (b : Bool) (k : Int) (hk : (k < 0 ∨ (l.length : Int) ≤ k)) : PS tb 70 [.slice b (netPV l), .int .i64 k] (.tuple [.slice true [], .int .i64 9]) := by
  refine PS_of (af := a70) rfl rfl ?_
  unfold a70
  dsimp only [List.map, ofPV, initEnv]
  repeat' (first | (simp (disch := omega) only [go_sem, seval, reduceCtorEq, netPV_length, netPV_sz]) | with_reducible exact Ev.mk | ((first | apply x_split | apply x_splitg) <;> intro hβ hb <;> (try simp only [hβ]) <;> clear hβ))
  all_goals first | rfl | (exfalso; omega)

theorem ps_dupF (l : List (X × Bool)) (hl : l.length ≤ 1000) (b : Bool) (k : Nat) (hk : k < l.length) (h2 : 256 ≤ l.length) : PS tb 70 [.slice b (netPV l), .int .i64 k] (.tuple [.slice true [], .int .i64 17]) := by
  refine PS_of (af := a70) rfl rfl ?_
  unfold a70
  dsimp only [List.map, ofPV, initEnv]
  have c1 : ¬ (k : Int) < 0 := by omega
  have c2 : ¬ (l.length : Int) ≤ k := by omega
  have c4 : (256 : Int) ≤ l.length := by omega
  repeat' (first | (simp (disch := omega) only [go_sem, seval, reduceCtorEq, netPV_length, netPV_sz, c1, c2, c4]) | with_reducible exact Ev.mk | ((first | apply x_split | apply x_splitg) <;> intro hβ hb <;> (try simp only [hβ]) <;> clear hβ))

theorem intsPV_sing (n : Int) : [[PV.int .i64 n]] = intsPV [n] := rfl

theorem intsPV_set (l : List Int) (i : Nat) (n : Int) : (intsPV l).set i [.int .i64 n] = intsPV (l.set i n) := by simp [intsPV, List.map_set, intPV]

theorem itemsPV_sing (n : Int) (d : ByteArray) : [[PV.int .i64 n, PV.str d]] = itemsPV [(n, d)] := rfl

theorem ps104 (l : List Int) (b : Bool) (i : Nat) (n : Int) (hi : i < l.length) (hl : l.length ≤ 100000) :
    PS tb 90 [.slice b (intsPV l), .int .i64 i, .int .i64 n] (.slice false (intsPV (l.set i n))) := by
  have h0 : (0 : Int) ≤ i := by omega
  have h1 : (i : Int) ≤ l.length := by omega
  have h2 : (l.take i).length ≤ 100000 := by simp; omega
  have h3 : (0 : Int) ≤ (i + 1 : Nat) := by omega
  have h4 : ((i + 1 : Nat) : Int) ≤ l.length := by omega
  have h5 : (l.drop (i + 1)).length ≤ 100000 := by simp; omega
  have h6 : (l.take i).length + ((l.drop (i + 1)).length + 1) ≤ 100000 := by simp; omega
  have he : l.set i n = l.take i ++ n :: l.drop (i + 1) := List.set_eq_take_append_cons_drop.trans (if_pos hi)
  have h7 : List.take l.length l = l := List.take_of_length_le (Nat.le_refl _)
  have t0 : (l.take i ++ ([n] ++ l.drop (i + 1))).take ((l.take i).length + 1 + (l.drop (i + 1)).length) = l.take i ++ ([n] ++ l.drop (i + 1)) := List.take_of_length_le (by simp; omega)
  refine PS_of (af := a90) rfl rfl ?_
  unfold a90
  dsimp only [List.map, ofPV, initEnv]
  rw [he]
  (try simp (disch := omega) only [go_sem, seval, reduceCtorEq, intsPV_sing, intsPV_sz, intsPV_length, intsPV_take, intsPV_drop, intsPV_append, intsPV_nil, List.append_assoc, List.length_append, h0, h1, h3, h4, h7, maxB])
  rw [if_pos (by omega)]
  simp only [List.cons_append, List.nil_append] at t0
  rw [t0]

theorem BS_out {T : Tab} {f : FuncId} {l : List DV} {H : Heap} {nx : Nat} {r : DV} {H' : Heap} {nx' : Nat} (h : T.A f = none) (hx : T.X.byref f l H nx = some (r, H', nx')) : BS T f l H nx r H' nx' := ⟨0, by simp only [cfs, h, hx]⟩

theorem bs97 (l : List (Int × ByteArray)) (b : Bool) (H : Heap) (nx : Nat) (h : l.length ≤ 100000) : BS tb 77 [.p (.slice b (itemsPV l))] H nx (.ref nx l.length 0 l.length) ((nx, .row false 2 (itemsPV l)) :: H) (nx + 1) := by
  refine BS_out (show tab 77 = none from rfl) ?_
  show outside.byref 77 _ _ _ = _
  simp [outside, clones, cloneOf, itemsPV_sz, itemsPV_length, maxBytes]
  omega

theorem bs129 (l : List Int) (b : Bool) (H : Heap) (nx : Nat) (h : l.length ≤ 100000) : BS tb 104 [.p (.slice b (intsPV l))] H nx (.ref nx l.length 0 l.length) ((nx, .row false 1 (intsPV l)) :: H) (nx + 1) := by
  refine BS_out (show tab 104 = none from rfl) ?_
  show outside.byref 104 _ _ _ = _
  simp [outside, clones, cloneOf, intsPV_sz, intsPV_length, maxBytes]
  omega

def rC (m : M) (k : Nat) : List DV := [.p (.int .i64 m.id), .p (.int .i64 m.members), .p (.int .i64 m.term), .p (.int .i64 m.vote), .ref (k + 2) m.log.length 0 m.log.length, .p (.int .i64 m.role), .p (.int .i64 m.commit),
  .ref (k + 3) m.votes.length 0 m.votes.length, .ref (k + 4) m.next.length 0 m.next.length, .ref (k + 5) m.mtch.length 0 m.mtch.length]

theorem beqA (a b n : Nat) : (n + a == n + b) = (a == b) := by
  cases h : (a == b)
  · have : a ≠ b := by intro e; subst e; simp at h
    exact beq_false_of_ne (by omega)
  · have := eq_of_beq h; subst this; exact beq_self_eq_true _

theorem beqB (a n : Nat) : (n + (a + 1) == n) = false := beq_false_of_ne (by omega)

theorem beqC (a n : Nat) : (n == n + (a + 1)) = false := beq_false_of_ne (by omega)

theorem freshA {H : Heap} {n : Nat} (h : ∀ j, n ≤ j → aget H j = none) (k : Nat) : aget H (n + k) = none := h _ (by omega)

theorem freshB {H : Heap} {n : Nat} (h : ∀ j, n ≤ j → aget H j = none) : aget H n = none := h _ (by omega)

theorem bs101 (m : M) (f : Fl) (H : Heap) (nx : Nat) (hf : ∀ j, nx ≤ j → aget H j = none) (h1 : m.log.length ≤ 100000) (h2 : m.votes.length ≤ 100000) (h3 : m.next.length ≤ 100000) (h4 : m.mtch.length ≤ 100000) :
    BS tb 78 [.agg ((mC m f).map .p)] H nx (.agg (rC m nx)) ((nx + 5, .row false 1 (intsPV m.mtch)) :: (nx + 4, .row false 1 (intsPV m.next)) :: (nx + 3, .row false 1 (intsPV m.votes)) :: (nx + 2, .row false 2 (itemsPV m.log)) ::
      (nx + 1, .var false (rC m nx)) :: (nx, .var false (rC m nx)) :: H) (nx + 6) := by
  have e0 := freshB hf
  have e1 := freshA hf 1
  have q1 : (nx == nx + 1) = false := beqC 0 nx
  have q2 : (nx + 1 == nx) = false := beqB 0 nx
  have q3 : (nx + 2 == nx) = false := beqB 1 nx
  have q4 : (nx + 3 == nx) = false := beqB 2 nx
  have q5 : (nx + 4 == nx) = false := beqB 3 nx
  have q6 : (nx + 5 == nx) = false := beqB 4 nx
  refine BS_of (af := a78) rfl rfl ?_
  unfold a78
  dsimp only [List.map, ofPV, initEnv]
  repeat' (first | exact bs97 _ _ _ _ h1 | exact bs129 _ _ _ _ (by assumption) | (simp (disch := omega) only [go_sem, seval, reduceCtorEq, mC, e0, e1, beqA, q1, q2, q3, q4, q5, q6, Nat.add_assoc]) | with_reducible exact Ev.mk | apply x_callr | ((first | apply x_split | apply x_splitg) <;> intro hβ hb <;> (try simp only [hβ]) <;> clear hβ))
  simp [rC]

end Go.Dv.Tryz
