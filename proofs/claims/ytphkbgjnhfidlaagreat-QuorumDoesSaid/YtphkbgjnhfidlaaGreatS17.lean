/-
  Specifications of the functions of this claim, parts 17.
-/
import Derived.Test.YtphkbgjnhfidlaaGreatTab
import Derived.Test.YtphkbgjnhfidlaaGreatStep
import Derived.Test.YtphkbgjnhfidlaaGreatS1
set_option linter.unusedVariables false
set_option linter.unusedSimpArgs false
set_option maxRecDepth 100000
set_option maxHeartbeats 16000000
namespace Go.Dv.Tryz
open Go Go.Dv

def sameIt (y x : Int × ByteArray) : Bool := y.1 == x.1 && y.2.toList == x.2.toList

def sameN (log : List (Int × ByteArray)) : Nat → List (Int × ByteArray) → Nat
  | _, [] => 0
  | k, x :: r => match log[k]? with
    | some y => if sameIt y x then sameN log (k + 1) r + 1 else 0
    | none => 0

theorem sameN_le (log : List (Int × ByteArray)) : ∀ (r : List (Int × ByteArray)) (k : Nat), sameN log k r ≤ r.length
  | [], _ => by simp [sameN]
  | x :: r, k => by
    simp only [sameN]
    split
    · split
      · have := sameN_le log r (k + 1); simp; omega
      · simp
    · simp

theorem sameN_log (log : List (Int × ByteArray)) : ∀ (r : List (Int × ByteArray)) (k : Nat), k ≤ log.length → k + sameN log k r ≤ log.length
  | [], k, h => by simp [sameN, h]
  | x :: r, k, h => by
    simp only [sameN]
    split
    · rename_i y hy
      have hk : k < log.length := by
        rcases Nat.lt_or_ge k log.length with h | h
        · exact h
        · rw [List.getElem?_eq_none h] at hy; cases hy
      split
      · have := sameN_log log r (k + 1) (by omega); omega
      · omega
    · omega

theorem drop_cons {α : Type} (l : List α) (i : Nat) (h : i < l.length) : l.drop i = l[i] :: l.drop (i + 1) := (List.getElem_cons_drop ..).symm

theorem sameN_end {log l : List (Int × ByteArray)} {k i : Nat} (h : l.length ≤ i) : sameN log k (l.drop i) = 0 := by rw [List.drop_eq_nil_of_le h]; rfl

theorem sameN_out {log l : List (Int × ByteArray)} {k i : Nat} (h : log.length ≤ k) : sameN log k (l.drop i) = 0 := by
  cases hd : l.drop i with
  | nil => rfl
  | cons x r => simp only [sameN, List.getElem?_eq_none h]

theorem sameN_no {log l : List (Int × ByteArray)} {k i : Nat} (hk : k < log.length) (hi : i < l.length) (h : sameIt log[k] l[i] = false) : sameN log k (l.drop i) = 0 := by
  rw [drop_cons l i hi]
  simp only [sameN, List.getElem?_eq_getElem hk, h, Bool.false_eq_true, if_false]

theorem sameN_yes {log l : List (Int × ByteArray)} {k i : Nat} (hk : k < log.length) (hi : i < l.length) (h : sameIt log[k] l[i] = true) : sameN log k (l.drop i) = sameN log (k + 1) (l.drop (i + 1)) + 1 := by
  conv => lhs; rw [drop_cons l i hi]
  simp only [sameN, List.getElem?_eq_getElem hk, h, if_true]

theorem l111 (log l : List (Int × ByteArray)) (b c : Bool) (k : Nat) (hk : k ≤ 1099511627776) (hl : l.length ≤ 100000) (hg : log.length ≤ 100000) (K : Ex → St → Prop)
    (hx : K (.exit 0) ⟨[(7, .p (.int .i64 (sameN log k l)))], [], 0, [0]⟩) : ∀ (n i : Nat), i + n = l.length → sameN log k l = i + sameN log (k + i) (l.drop i) →
    W tb a120_l0 ⟨[(0, .p (.slice b (itemsPV log))), (1, .p (.int .i64 k)), (7, .p (.int .i64 i)), (10, .p (.slice c (itemsPV l))), (11, .p (.int .i64 l.length)), (12, .p (.int .i64 i))], [], 0, [0]⟩ (LK tb (.ghost (.free [9]) (.ghost .lower a120_l0)) K) := by
  intro n
  induction n with
  | zero =>
    intro i hi he
    have h1 : ¬ (i : Int) < l.length := by omega
    rw [sameN_end (by omega), Nat.add_zero] at he
    rw [he] at hx
    refine i_code (by unfold a120_l0; exact rfl) ?_
    repeat' (first | (simp (disch := omega) only [go_sem, seval, reduceCtorEq, h1, itemsPV_length]) | with_reducible exact Ev.mk | ((first | apply x_split | apply x_splitg) <;> intro hβ hb <;> (try simp only [hβ]) <;> clear hβ))
    exact hx
  | succ n ih =>
    intro i hi he
    have h1 : (i : Int) < l.length := by omega
    have h2 : i < l.length := by omega
    have h3 := itemsPV_get l i h2
    have h4 : (0 : Int) ≤ i := by omega
    have h5 : (k : Int) + (i : Int) = ((k + i : Nat) : Int) := by omega
    have h6 : (0 : Int) ≤ ((k + i : Nat) : Int) := by omega
    refine i_code (by unfold a120_l0; exact rfl) ?_
    by_cases g : k + i < log.length
    · have g1 : ¬ (log.length : Int) ≤ ((k + i : Nat) : Int) := by omega
      have g2 := itemsPV_get log (k + i) g
      cases hq : (log[k + i].1 == l[i].1) with
      | false =>
        rw [sameN_no g h2 (by simp [sameIt, hq]), Nat.add_zero] at he
        rw [he] at hx
        repeat' (first | (simp (disch := omega) only [go_sem, seval, reduceCtorEq, h1, h3, h4, h5, h6, g1, g2, hq, itemPV, itemsPV_length]) | with_reducible exact Ev.mk | ((first | apply x_split | apply x_splitg) <;> intro hβ hb <;> (try simp only [hβ]) <;> clear hβ))
        exact hx
      | true =>
        cases hw : (log[k + i].2.toList == l[i].2.toList) with
        | false =>
          rw [sameN_no g h2 (by simp only [sameIt, hq, hw]; rfl), Nat.add_zero] at he
          rw [he] at hx
          repeat' (first | (simp (disch := omega) only [go_sem, seval, reduceCtorEq, h1, h3, h4, h5, h6, g1, g2, hq, hw, itemPV, itemsPV_length]) | with_reducible exact Ev.mk | ((first | apply x_split | apply x_splitg) <;> intro hβ hb <;> (try simp only [hβ]) <;> clear hβ))
          exact hx
        | true =>
          rw [sameN_yes g h2 (by simp only [sameIt, hq, hw]; rfl)] at he
          repeat' (first | (simp (disch := omega) only [go_sem, seval, reduceCtorEq, h1, h3, h4, h5, h6, g1, g2, hq, hw, itemPV, itemsPV_length]) | with_reducible exact Ev.mk | ((first | apply x_split | apply x_splitg) <;> intro hβ hb <;> (try simp only [hβ]) <;> clear hβ))
          refine i_lk (W_round ?_)
          (try simp (disch := omega) only [go_sem, seval, reduceCtorEq])
          exact ih (i + 1) (by omega) (by rw [he]; rw [Nat.add_assoc k i 1]; omega)
    · have g1 : (log.length : Int) ≤ ((k + i : Nat) : Int) := by omega
      rw [sameN_out (by omega), Nat.add_zero] at he
      rw [he] at hx
      repeat' (first | (simp (disch := omega) only [go_sem, seval, reduceCtorEq, h1, h3, h4, h5, h6, g1, itemPV, itemsPV_length]) | with_reducible exact Ev.mk | ((first | apply x_split | apply x_splitg) <;> intro hβ hb <;> (try simp only [hβ]) <;> clear hβ))
      exact hx

theorem ps111 (log l : List (Int × ByteArray)) (b c : Bool) (k : Nat) (hk : k ≤ 1099511627776) (hl : l.length ≤ 100000) (hg : log.length ≤ 100000) :
    PS tb 120 [.slice b (itemsPV log), .int .i64 k, .slice c (itemsPV l)] (.int .i64 (sameN log k l)) := by
  refine PS_of (af := a120) rfl rfl ?_
  unfold a120
  dsimp only [List.map, ofPV, initEnv]
  repeat' (first | (simp (disch := omega) only [go_sem, seval, reduceCtorEq, itemsPV_length]) | with_reducible exact Ev.mk | ((first | apply x_split | apply x_splitg) <;> intro hβ hb <;> (try simp only [hβ]) <;> clear hβ))
  refine W_round ?_
  (try simp (disch := omega) only [go_sem, seval, reduceCtorEq])
  refine l111 log l b c k hk hl hg _ ?_ l.length 0 (by omega) (by simp)
  (try simp (disch := omega) only [go_sem, seval, reduceCtorEq])
  all_goals rfl

end Go.Dv.Tryz
