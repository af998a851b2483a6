/-
  Specifications of the functions of this claim, parts 34.
-/
import Derived.Test.YtphkbgjnhfidlaaGreatTab
import Derived.Test.YtphkbgjnhfidlaaGreatStep
import Derived.Test.YtphkbgjnhfidlaaGreatS1
import Derived.Test.YtphkbgjnhfidlaaGreatS8
import Derived.Test.YtphkbgjnhfidlaaGreatS24
import Derived.Test.YtphkbgjnhfidlaaGreatS30
set_option linter.unusedVariables false
set_option linter.unusedSimpArgs false
set_option maxRecDepth 100000
set_option maxHeartbeats 16000000
namespace Go.Dv.Tryz
open Go Go.Dv

theorem ps164 (x : Int) : PS tb 146 [.int .i64 x] (.bool false) := by
  refine PS_of (af := a146) rfl rfl ?_
  unfold a146
  dsimp only [List.map, ofPV, initEnv]
  repeat' (first | (simp (maxSteps := 2000000) (disch := omega) only [go_sem, seval, reduceCtorEq, bne_self_eq_false]) | with_reducible exact Ev.mk | ((first | apply x_split | apply x_splitg) <;> intro hβ hb <;> (try simp only [hβ]) <;> clear hβ))
  all_goals simp [pur, dep]

theorem ps154 (x y : Int) : PS tb 136 [.int .i64 x, .int .i64 y] (.bool (decide (x < y))) := by
  refine PS_of (af := a136) rfl rfl ?_
  unfold a136
  dsimp only [List.map, ofPV, initEnv]
  repeat' (first | exact ps164 _ | (simp (maxSteps := 2000000) (disch := omega) only [go_sem, seval, reduceCtorEq]) | with_reducible exact Ev.mk | apply x_call | ((first | apply x_split | apply x_splitg) <;> intro hβ hb <;> (try simp only [hβ]) <;> clear hβ))
  all_goals simp [pur, dep]

theorem len2 : PS tb 129 [.int .u64 2] (.int .i64 2) := ⟨8, by kernel_rfl⟩

theorem len3 : PS tb 129 [.int .u64 3] (.int .i64 2) := ⟨8, by kernel_rfl⟩

theorem len4 : PS tb 129 [.int .u64 4] (.int .i64 3) := ⟨8, by kernel_rfl⟩

def insAt (u : List Int) (v : Int) (j : Nat) : List Int := u.take j ++ v :: u.drop j

theorem insAt_len (u : List Int) (v : Int) (j : Nat) (h : j ≤ u.length) : (insAt u v j).length = u.length + 1 := by simp [insAt]; omega

theorem insAt_end (u : List Int) (v : Int) : insAt u v u.length = u ++ [v] := by simp [insAt]

theorem insAt_at (u : List Int) (v : Int) (j : Nat) (h : j ≤ u.length) : (insAt u v j)[j]? = some v := by
  rw [insAt, List.getElem?_append_right (by rw [List.length_take]; omega)]
  have e : min j u.length = j := Nat.min_eq_left h
  simp [e]

theorem insAt_low (u : List Int) (v : Int) (j k : Nat) (h : j ≤ u.length) (hk : k < j) : (insAt u v j)[k]? = u[k]? := by
  rw [insAt, List.getElem?_append_left (by simp; omega), List.getElem?_take, if_pos hk]

theorem insAt_set (u : List Int) (v x : Int) (k : Nat) (h : k < u.length) (hx : u[k]? = some x) : ((insAt u v (k + 1)).set (k + 1) x).set k v = insAt u v k := by
  have e : u[k] = x := by rw [List.getElem?_eq_getElem h] at hx; exact Option.some.inj hx
  have h1 : u.take (k + 1) = u.take k ++ [x] := by rw [List.take_add_one, hx]; rfl
  have h2 : u.drop k = x :: u.drop (k + 1) := by rw [← e]; exact (List.getElem_cons_drop ..).symm
  have l1 : (u.take k).length = k := by simp; omega
  unfold insAt
  rw [h1, h2, List.append_assoc, List.set_append_right _ _ (by omega), List.set_append_right _ _ (by omega), l1]
  simp

theorem ints_get? (l : List Int) (i : Nat) (x : Int) (h : l[i]? = some x) : (intsPV l)[i]? = some [.int .i64 x] := by simp [intsPV, h, intPV]

theorem l148a (u : List Int) (v : Int) (hp : u.Pairwise (· < ·)) (hn : v ∉ u) (H : Heap) (r nx : Nat) (z : List (List PV)) (hr : aget H r = some (.row false 1 z)) (hl : u.length ≤ 1000) (i : Int) (K : Ex → St → Prop)
    (hx : K (.exit 2) ⟨[(0, .ref r (u.length + 1) 0 (u.length + 1)), (1, .p (.int .i64 0)), (2, .p (.int .i64 (u.length + 1 : Nat))), (6, .p (.int .i64 i))], hset H r (.row false 1 (intsPV (insGo v u false))), nx, [nx]⟩) :
    ∀ (j : Nat), j ≤ u.length → (∀ x ∈ u.drop j, v < x) →
    W tb a130_l0 ⟨[(0, .ref r (u.length + 1) 0 (u.length + 1)), (1, .p (.int .i64 0)), (2, .p (.int .i64 (u.length + 1 : Nat))), (6, .p (.int .i64 i)), (7, .p (.int .i64 j))], hset H r (.row false 1 (intsPV (insAt u v j))), nx, [nx]⟩ (LK tb a130_l0 K) := by
  have e1 := fun b => aget_hset (c := b) hr
  have e2 := hset_hset H r
  have fin : ∀ j, (∀ x ∈ u.take j, x < v) → (∀ x ∈ u.drop j, v < x) → insAt u v j = insGo v u false := by
    intro j h1 h2
    have := insGo_app v (u.drop j) h2 (u.take j) h1
    rw [List.take_append_drop] at this
    exact this.symm
  intro j
  induction j with
  | zero =>
    intro hj hd
    have h1 : ¬ (0 : Int) < ((0 : Nat) : Int) := by omega
    rw [fin 0 (by simp) hd]
    refine i_code (by unfold a130_l0; exact rfl) ?_
    repeat' (first | (simp (maxSteps := 2000000) (disch := omega) only [go_sem, seval, reduceCtorEq, h1, e1]) | with_reducible exact Ev.mk | ((first | apply x_split | apply x_splitg) <;> intro hβ hb <;> (try simp only [hβ]) <;> clear hβ))
    exact hx
  | succ j ih =>
    intro hj hd
    have h1 : (0 : Int) < ((j + 1 : Nat) : Int) := by omega
    have hj2 : j < u.length := by omega
    have g1 := ints_get? _ _ _ (insAt_at u v (j + 1) hj)
    have g2 := ints_get? _ _ _ ((insAt_low u v (j + 1) j hj (by omega)).trans (List.getElem?_eq_getElem hj2))
    have g3 := insAt_len u v (j + 1) hj
    have g4 : ((j + 1 : Nat) : Int) - 1 = (j : Nat) := by omega
    have g5 : (0 : Int) ≤ (j : Nat) := by omega
    have g6 : (0 : Int) ≤ ((j + 1 : Nat) : Int) := by omega
    have g8 : ((j + 1 : Nat) : Int) < ((u.length + 1 : Nat) : Int) := by omega
    have g9 : ((j : Nat) : Int) < ((u.length + 1 : Nat) : Int) := by omega
    have g7 := insAt_set u v u[j] j hj2 (List.getElem?_eq_getElem hj2)
    have g10 : (intsPV ((insAt u v (j + 1)).set (j + 1) u[j]))[j]? = some [.int .i64 u[j]] := by
      refine ints_get? _ _ _ ?_
      rw [List.getElem?_set_ne (by omega), insAt_low u v (j + 1) j hj (by omega), List.getElem?_eq_getElem hj2]
    refine i_code (by unfold a130_l0; exact rfl) ?_
    by_cases c : v < u[j]
    · repeat' (first | exact ps154 _ _ | (simp (maxSteps := 2000000) (disch := omega) only [go_sem, seval, reduceCtorEq, h1, e1, e2, g1, g2, g3, g4, g5, g6, g7, g8, g9, g10, c, intsPV_length, intsPV_set, List.length_set]) | with_reducible exact Ev.mk | apply x_call | ((first | apply x_split | apply x_splitg) <;> intro hβ hb <;> (try simp only [hβ]) <;> clear hβ))
      refine i_lk (W_round ?_)
      exact ih (by omega) (by
        intro x hx
        rw [← List.getElem_cons_drop hj2] at hx
        rcases List.mem_cons.1 hx with h | h
        · rw [h]; exact c
        · exact hd x h)
    · have hne : u[j] ≠ v := fun e => hn (e ▸ List.getElem_mem hj2)
      rw [fin (j + 1) (by
        intro x hx
        obtain ⟨k, hk, rfl⟩ := List.mem_iff_getElem.1 hx
        have hk2 : k < j + 1 := by simp at hk; omega
        have : u[k] ≤ u[j] := by
          rcases Nat.lt_or_ge k j with h | h
          · have := (List.pairwise_iff_getElem.1 hp) k j (by omega) hj2 h; omega
          · have : k = j := by omega
            subst this; exact Int.le_refl _
        rw [List.getElem_take]
        omega) hd] at *
      repeat' (first | exact ps154 _ _ | (simp (maxSteps := 2000000) (disch := omega) only [go_sem, seval, reduceCtorEq, h1, e1, g1, g2, g3, g4, g5, g6, g8, g9, c, intsPV_length]) | with_reducible exact Ev.mk | apply x_call | ((first | apply x_split | apply x_splitg) <;> intro hβ hb <;> (try simp only [hβ]) <;> clear hβ))
      exact hx

theorem ins_up (u : List Int) (v : Int) (hp : u.Pairwise (· < ·)) (i : Nat) (h0 : 1 ≤ i) (h1 : i < u.length) : ∃ x y, (u ++ [v])[i]? = some x ∧ (u ++ [v])[i - 1]? = some y ∧ ¬ x < y := by
  refine ⟨u[i], u[i - 1], ?_, ?_, ?_⟩
  · rw [List.getElem?_append_left h1, List.getElem?_eq_getElem h1]
  · rw [List.getElem?_append_left (by omega), List.getElem?_eq_getElem (by omega)]
  · have := (List.pairwise_iff_getElem.1 hp) (i - 1) i (by omega) h1 (by omega)
    omega

theorem l148b (u : List Int) (v : Int) (hp : u.Pairwise (· < ·)) (hn : v ∉ u) (hu : 1 ≤ u.length) (H : Heap) (r nx : Nat) (hr : aget H r = some (.row false 1 (intsPV (u ++ [v])))) (hl : u.length ≤ 1000) (K : Ex → St → Prop)
    (hx : K (.exit 0) ⟨[], hset H r (.row false 1 (intsPV (insGo v u false))), nx, [nx]⟩) :
    ∀ (n i : Nat), 1 ≤ i → i + n = u.length →
    W tb a130_l1 ⟨[(0, .ref r (u.length + 1) 0 (u.length + 1)), (1, .p (.int .i64 0)), (2, .p (.int .i64 (u.length + 1 : Nat))), (6, .p (.int .i64 i))], H, nx, [nx]⟩ (LK tb a130_l1 K) := by
  intro n
  induction n with
  | zero =>
    intro i h0 hi
    have e : i = u.length := by omega
    subst e
    have h1 : ((u.length : Nat) : Int) < ((u.length + 1 : Nat) : Int) := by omega
    have h2 : ¬ ((u.length : Nat) : Int) + 1 < ((u.length + 1 : Nat) : Int) := by omega
    have hq : H = hset H r (.row false 1 (intsPV (insAt u v u.length))) := by
      rw [insAt_end]
      clear hx
      induction H with
      | nil => rfl
      | cons x t ih =>
        obtain ⟨k, b⟩ := x
        cases e : (k == r) with
        | true =>
          simp only [aget, e, if_true, Option.some.injEq] at hr
          simp only [hset, e, if_true, hr]
        | false =>
          simp only [aget, e, Bool.false_eq_true, if_false] at hr
          simp only [hset, e, Bool.false_eq_true, if_false]
          rw [← ih hr]
    refine i_code (by unfold a130_l1; exact rfl) ?_
    repeat' (first | (simp (maxSteps := 2000000) (disch := omega) only [go_sem, seval, reduceCtorEq, h1]) | with_reducible exact Ev.mk | ((first | apply x_split | apply x_splitg) <;> intro hβ hb <;> (try simp only [hβ]) <;> clear hβ))
    refine W_round ?_
    rw [hq]
    refine l148a u v hp hn H r nx _ hr hl _ _ ?_ u.length (Nat.le_refl _) (by simp)
    repeat' (first | (simp (maxSteps := 2000000) (disch := omega) only [go_sem, seval, reduceCtorEq]) | with_reducible exact Ev.mk | ((first | apply x_split | apply x_splitg) <;> intro hβ hb <;> (try simp only [hβ]) <;> clear hβ))
    refine i_lk (W_round ?_)
    refine i_code (by unfold a130_l1; exact rfl) ?_
    repeat' (first | (simp (maxSteps := 2000000) (disch := omega) only [go_sem, seval, reduceCtorEq, h2]) | with_reducible exact Ev.mk | ((first | apply x_split | apply x_splitg) <;> intro hβ hb <;> (try simp only [hβ]) <;> clear hβ))
    exact hx
  | succ n ih =>
    intro i h0 hi
    have h1 : ((i : Nat) : Int) < ((u.length + 1 : Nat) : Int) := by omega
    obtain ⟨x, y, q1, q2, q3⟩ := ins_up u v hp i h0 (by omega)
    have g1 := ints_get? _ _ _ q1
    have g2 := ints_get? _ _ _ q2
    have g3 : (u ++ [v]).length = u.length + 1 := by simp
    have g4 : ((i : Nat) : Int) - 1 = ((i - 1 : Nat) : Int) := by omega
    have g5 : (0 : Int) ≤ ((i - 1 : Nat) : Int) := by omega
    have g6 : (0 : Int) ≤ (i : Int) := by omega
    have g7 : (0 : Int) < (i : Int) := by omega
    have g8 : ((i - 1 : Nat) : Int) < ((u.length + 1 : Nat) : Int) := by omega
    refine i_code (by unfold a130_l1; exact rfl) ?_
    repeat' (first | (simp (maxSteps := 2000000) (disch := omega) only [go_sem, seval, reduceCtorEq, h1]) | with_reducible exact Ev.mk | ((first | apply x_split | apply x_splitg) <;> intro hβ hb <;> (try simp only [hβ]) <;> clear hβ))
    refine W_round ?_
    refine i_code (by unfold a130_l0; exact rfl) ?_
    repeat' (first | exact ps154 _ _ | (simp (maxSteps := 2000000) (disch := omega) only [go_sem, seval, reduceCtorEq, hr, h1, g1, g2, g3, g4, g5, g6, g7, g8, q3, intsPV_length]) | with_reducible exact Ev.mk | apply x_call | ((first | apply x_split | apply x_splitg) <;> intro hβ hb <;> (try simp only [hβ]) <;> clear hβ))
    refine i_lk (W_round ?_)
    exact ih (i + 1) (by omega) (by omega)

theorem bs148 (u : List Int) (v : Int) (hp : u.Pairwise (· < ·)) (hn : v ∉ u) (hu : 1 ≤ u.length) (H : Heap) (r nx : Nat) (hr : aget H r = some (.row false 1 (intsPV (u ++ [v])))) (hl : u.length ≤ 1000) :
    BS tb 130 [.ref r (u.length + 1) 0 (u.length + 1), .p (.int .i64 0), .p (.int .i64 (u.length + 1 : Nat))] H nx (.tuple []) (hset H r (.row false 1 (intsPV (insGo v u false)))) nx := by
  refine BS_of (af := a130) rfl rfl ?_
  unfold a130
  dsimp only [List.map, ofPV, initEnv]
  repeat' (first | (simp (maxSteps := 2000000) (disch := omega) only [go_sem, seval, reduceCtorEq]) | with_reducible exact Ev.mk | ((first | apply x_split | apply x_splitg) <;> intro hβ hb <;> (try simp only [hβ]) <;> clear hβ))
  refine W_round ?_
  refine l148b u v hp hn hu H r nx hr hl _ ?_ (u.length - 1) 1 (by omega) (by omega)
  (try simp (maxSteps := 2000000) (disch := omega) only [go_sem, seval, reduceCtorEq])
  all_goals (try simp)

theorem bs133 (u : List Int) (v : Int) (k : PV) (hp : u.Pairwise (· < ·)) (hn : v ∉ u) (hu : 1 ≤ u.length) (H : Heap) (r nx : Nat) (hr : aget H r = some (.row false 1 (intsPV (u ++ [v])))) (hl : u.length ≤ 3) :
    BS tb 128 [.ref r (u.length + 1) 0 (u.length + 1), .p (.int .i64 0), .p (.int .i64 (u.length + 1 : Nat)), .p k] H nx (.tuple []) (hset H r (.row false 1 (intsPV (insGo v u false)))) nx := by
  have h1 : ((u.length + 1 : Nat) : Int) - 0 ≤ 12 := by omega
  have h2 : u.length ≤ 1000 := by omega
  refine BS_of (af := a128) rfl rfl ?_
  unfold a128
  dsimp only [List.map, ofPV, initEnv]
  repeat' (first | (simp (maxSteps := 2000000) (disch := omega) only [go_sem, seval, reduceCtorEq]) | with_reducible exact Ev.mk | ((first | apply x_split | apply x_splitg) <;> intro hβ hb <;> (try simp only [hβ]) <;> clear hβ))
  refine W_round ?_
  refine i_code (by unfold a128_l0; exact rfl) ?_
  repeat' (first | exact bs148 u v hp hn hu H r nx hr h2 | (simp (maxSteps := 2000000) (disch := omega) only [go_sem, seval, reduceCtorEq, h1]) | with_reducible exact Ev.mk | apply x_callr | ((first | apply x_split | apply x_splitg) <;> intro hβ hb <;> (try simp only [hβ]) <;> clear hβ))
  all_goals (try simp)

theorem bs95 (u : List Int) (v : Int) (hp : u.Pairwise (· < ·)) (hn : v ∉ u) (hu : 1 ≤ u.length) (H : Heap) (r nx : Nat) (hr : aget H r = some (.row false 1 (intsPV (u ++ [v])))) (hl : u.length ≤ 3) :
    BS tb 116 [.ref r (u.length + 1) 0 (u.length + 1)] H nx (.tuple []) (hset H r (.row false 1 (intsPV (insGo v u false)))) nx := by
  have g3 : (u ++ [v]).length = u.length + 1 := by simp
  have hk : ∃ k, PS tb 129 [.int .u64 (u.length + 1 : Nat)] (.int .i64 k) := by
    rcases (show u.length = 1 ∨ u.length = 2 ∨ u.length = 3 by omega) with h | h | h <;> rw [h]
    · exact ⟨_, len2⟩
    · exact ⟨_, len3⟩
    · exact ⟨_, len4⟩
  obtain ⟨k, hk⟩ := hk
  have hw : IntKind.u64.wrap ((u.length : Int) + 1) = ((u.length + 1 : Nat) : Int) := by
    rcases (show u.length = 1 ∨ u.length = 2 ∨ u.length = 3 by omega) with h | h | h <;> rw [h] <;> rfl
  refine BS_of (af := a116) rfl rfl ?_
  unfold a116
  dsimp only [List.map, ofPV, initEnv]
  (try simp (maxSteps := 2000000) (disch := omega) only [go_sem, seval, reduceCtorEq, hr, g3, hw, intsPV_length])
  generalize h : IntKind.u64.wrap _ = w
  have hw2 : w = ((u.length + 1 : Nat) : Int) := h.symm.trans hw
  subst hw2
  repeat' (first | exact hk | exact bs133 u v _ hp hn hu H r nx hr hl | (simp (maxSteps := 2000000) (disch := omega) only [go_sem, seval, reduceCtorEq, hr, g3, intsPV_length]) | with_reducible exact Ev.mk | apply x_call | apply x_callr | ((first | apply x_split | apply x_splitg) <;> intro hβ hb <;> (try simp only [hβ]) <;> clear hβ))
  all_goals (try simp)

end Go.Dv.Tryz
