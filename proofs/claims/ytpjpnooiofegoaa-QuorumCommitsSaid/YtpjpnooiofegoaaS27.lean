/-
  Specifications of the functions of this claim, parts 27, 34.
-/
import Derived.Test.YtpjpnooiofegoaaTab
import Derived.Test.YtpjpnooiofegoaaStep
import Derived.Test.YtpjpnooiofegoaaS1
import Derived.Test.YtpjpnooiofegoaaS24
import Derived.Test.YtpjpnooiofegoaaS30
set_option linter.unusedVariables false
set_option linter.unusedSimpArgs false
set_option maxRecDepth 100000
set_option maxHeartbeats 16000000
namespace Go.Dv.Try
open Go Go.Dv

def idxF (v : Int) : List Int → Int → Int
  | [], _ => -1
  | x :: r, i => if v = x then i else idxF v r (i + 1)

theorem idxF_ge (v : Int) : ∀ (l : List Int) (i : Int), 0 ≤ i → (0 ≤ idxF v l i ↔ v ∈ l)
  | [], i, h => by simp [idxF]
  | x :: r, i, h => by
    simp only [idxF]
    split
    · rename_i e; subst e; simp [h]
    · rename_i e
      rw [idxF_ge v r (i + 1) (by omega)]
      simp [e]

theorem l132 (l : List Int) (v : Int) (b : Bool) (hl : l.length ≤ 100000) (K : Ex → St → Prop)
    (hx : idxF v l 0 = -1 → K (.exit 0) ⟨[], [], 0, [0]⟩) (hr : ∀ s, aget s.env 4 = some (.p (.int .i64 (idxF v l 0))) → K .ret s) : ∀ (n i : Nat), i + n = l.length → idxF v l 0 = idxF v (l.drop i) i →
    W tb a101_l0 ⟨[(0, .p (.slice b (intsPV l))), (1, .p (.int .i64 v)), (7, .p (.int .i64 l.length)), (8, .p (.int .i64 i))], [], 0, [0]⟩ (LK tb (.ghost .lower a101_l0) K) := by
  intro n
  induction n with
  | zero =>
    intro i hi he
    have h1 : ¬ (i : Int) < l.length := by omega
    rw [List.drop_eq_nil_of_le (by omega)] at he
    refine i_code (by unfold a101_l0; exact rfl) ?_
    repeat' (first | (simp (disch := omega) only [go_sem, seval, reduceCtorEq, h1, intsPV_length]) | with_reducible exact Ev.mk | ((first | apply x_split | apply x_splitg) <;> intro hβ hb <;> (simp (disch := omega) only [go_sem, seval, reduceCtorEq, h1, intsPV_length, hβ]) <;> clear hβ))
    exact hx he
  | succ n ih =>
    intro i hi he
    have h1 : (i : Int) < l.length := by omega
    have h2 : i < l.length := by omega
    have h3 := intsPV_get l i h2
    have h4 : (0 : Int) ≤ i := by omega
    have hd : l.drop i = l[i] :: l.drop (i + 1) := (List.getElem_cons_drop ..).symm
    rw [hd, idxF] at he
    refine i_code (by unfold a101_l0; exact rfl) ?_
    by_cases hv : v = l[i]
    · rw [if_pos hv] at he
      have h5 : (v == l[i]) = true := by simpa using hv
      rw [he] at hr
      repeat' (first | (simp (disch := omega) only [go_sem, seval, reduceCtorEq, h1, h3, h4, h5, intPV, intsPV_length]) | with_reducible exact Ev.mk | ((first | apply x_split | apply x_splitg) <;> intro hβ hb <;> (simp (disch := omega) only [go_sem, seval, reduceCtorEq, h1, h3, h4, h5, intPV, intsPV_length, hβ]) <;> clear hβ))
      exact hr _ rfl
    · rw [if_neg hv] at he
      have h5 : (v == l[i]) = false := by simpa using hv
      repeat' (first | (simp (disch := omega) only [go_sem, seval, reduceCtorEq, h1, h3, h4, h5, intPV, intsPV_length]) | with_reducible exact Ev.mk | ((first | apply x_split | apply x_splitg) <;> intro hβ hb <;> (simp (disch := omega) only [go_sem, seval, reduceCtorEq, h1, h3, h4, h5, intPV, intsPV_length, hβ]) <;> clear hβ))
      refine i_lk (W_round ?_)
      (try simp (disch := omega) only [go_sem, seval, reduceCtorEq])
      exact ih (i + 1) (by omega) he

theorem ps132 (l : List Int) (v : Int) (b : Bool) (hl : l.length ≤ 100000) : PS tb 101 [.slice b (intsPV l), .int .i64 v] (.int .i64 (idxF v l 0)) := by
  refine PS_of (af := a101) rfl rfl ?_
  unfold a101
  dsimp only [List.map, ofPV, initEnv]
  repeat' (first | (simp (disch := omega) only [go_sem, seval, reduceCtorEq, intsPV_length]) | with_reducible exact Ev.mk | ((first | apply x_split | apply x_splitg) <;> intro hβ hb <;> (simp (disch := omega) only [go_sem, seval, reduceCtorEq, intsPV_length, hβ]) <;> clear hβ))
  refine W_round ?_
  (try simp (disch := omega) only [go_sem, seval, reduceCtorEq])
  refine l132 l v b hl _ ?_ ?_ l.length 0 (by omega) (by simp)
  · intro he
    (try simp (disch := omega) only [go_sem, seval, reduceCtorEq])
    all_goals simp [pur, dep, he]
  · intro s hs
    (try simp (disch := omega) only [go_sem, seval, reduceCtorEq, hs])
    all_goals simp [pur, dep]

theorem ps94 (l : List Int) (v : Int) (b : Bool) (hl : l.length ≤ 100000) : PS tb 95 [.slice b (intsPV l), .int .i64 v] (.bool (decide (v ∈ l))) := by
  refine PS_of (af := a95) rfl rfl ?_
  unfold a95
  dsimp only [List.map, ofPV, initEnv]
  have h := idxF_ge v l 0 (Int.le_refl _)
  have e : decide (v ∈ l) = decide (0 ≤ idxF v l 0) := by simp [h]
  rw [e]
  repeat' (first | exact ps132 l v b hl | (simp (disch := omega) only [go_sem, seval, reduceCtorEq]) | with_reducible exact Ev.mk | apply x_call | ((first | apply x_split | apply x_splitg) <;> intro hβ hb <;> (simp (disch := omega) only [go_sem, seval, reduceCtorEq, hβ]) <;> clear hβ))
  all_goals simp [pur, dep]

theorem ps164 (x : Int) : PS tb 120 [.int .i64 x] (.bool false) := by
  refine PS_of (af := a120) rfl rfl ?_
  unfold a120
  dsimp only [List.map, ofPV, initEnv]
  repeat' (first | (simp (maxSteps := 2000000) (disch := omega) only [go_sem, seval, reduceCtorEq, bne_self_eq_false]) | with_reducible exact Ev.mk | ((first | apply x_split | apply x_splitg) <;> intro hβ hb <;> (simp (maxSteps := 2000000) (disch := omega) only [go_sem, seval, reduceCtorEq, bne_self_eq_false, hβ]) <;> clear hβ))
  all_goals simp [pur, dep]

theorem ps154 (x y : Int) : PS tb 110 [.int .i64 x, .int .i64 y] (.bool (decide (x < y))) := by
  refine PS_of (af := a110) rfl rfl ?_
  unfold a110
  dsimp only [List.map, ofPV, initEnv]
  repeat' (first | exact ps164 _ | (simp (maxSteps := 2000000) (disch := omega) only [go_sem, seval, reduceCtorEq]) | with_reducible exact Ev.mk | apply x_call | ((first | apply x_split | apply x_splitg) <;> intro hβ hb <;> (simp (maxSteps := 2000000) (disch := omega) only [go_sem, seval, reduceCtorEq, hβ]) <;> clear hβ))
  all_goals simp [pur, dep]

theorem len2 : PS tb 103 [.int .u64 2] (.int .i64 2) := ⟨8, by kernel_rfl⟩

theorem len3 : PS tb 103 [.int .u64 3] (.int .i64 2) := ⟨8, by kernel_rfl⟩

theorem len4 : PS tb 103 [.int .u64 4] (.int .i64 3) := ⟨8, by kernel_rfl⟩

def insAt (u : List Int) (v : Int) (j : Nat) : List Int := u.take j ++ v :: u.drop j

theorem insAt_len (u : List Int) (v : Int) (j : Nat) (h : j ≤ u.length) : (insAt u v j).length = u.length + 1 := by simp [insAt]; omega

theorem insAt_end (u : List Int) (v : Int) : insAt u v u.length = u ++ [v] := by simp [insAt]

theorem insAt_at (u : List Int) (v : Int) (j : Nat) (h : j ≤ u.length) : (insAt u v j)[j]? = some v := by
  rw [insAt, List.getElem?_append_right (by rw [List.length_take]; omega)]
  have e : min j u.length = j := Nat.min_eq_left h
  simp [e]

theorem insAt_low (u : List Int) (v : Int) (j k : Nat) (h : j ≤ u.length) (hk : k < j) : (insAt u v j)[k]? = u[k]? := by
  rw [insAt, List.getElem?_append_left (by simp; omega), List.getElem?_take, if_pos hk]

theorem insAt_set (u : List Int) (v x : Int) (k : Nat) (h : k < u.length) (hx : u[k]? = some x) : ((insAt u v (k + 1)).set (k + 1) x).set k v = insAt u v k := by
  have e : u[k] = x := by rw [List.getElem?_eq_getElem h] at hx; exact Option.some.inj hx
  have h1 : u.take (k + 1) = u.take k ++ [x] := by rw [List.take_add_one, hx]; rfl
  have h2 : u.drop k = x :: u.drop (k + 1) := by rw [← e]; exact (List.getElem_cons_drop ..).symm
  have l1 : (u.take k).length = k := by simp; omega
  unfold insAt
  rw [h1, h2, List.append_assoc, List.set_append_right _ _ (by omega), List.set_append_right _ _ (by omega), l1]
  simp

theorem ints_get? (l : List Int) (i : Nat) (x : Int) (h : l[i]? = some x) : (intsPV l)[i]? = some [.int .i64 x] := by simp [intsPV, h, intPV]

theorem l148a (u : List Int) (v : Int) (hp : u.Pairwise (· < ·)) (hn : v ∉ u) (H : Heap) (r nx : Nat) (z : List (List PV)) (hr : aget H r = some (.row false 1 z)) (hl : u.length ≤ 1000) (i : Int) (K : Ex → St → Prop)
    (hx : K (.exit 2) ⟨[(0, .ref r (u.length + 1) 0 (u.length + 1)), (1, .p (.int .i64 0)), (2, .p (.int .i64 (u.length + 1 : Nat))), (6, .p (.int .i64 i))], hset H r (.row false 1 (intsPV (insGo v u false))), nx, [nx]⟩) :
    ∀ (j : Nat), j ≤ u.length → (∀ x ∈ u.drop j, v < x) →
    W tb a104_l0 ⟨[(0, .ref r (u.length + 1) 0 (u.length + 1)), (1, .p (.int .i64 0)), (2, .p (.int .i64 (u.length + 1 : Nat))), (6, .p (.int .i64 i)), (7, .p (.int .i64 j))], hset H r (.row false 1 (intsPV (insAt u v j))), nx, [nx]⟩ (LK tb a104_l0 K) := by
  have e1 := fun b => aget_hset (c := b) hr
  have e2 := hset_hset H r
  have fin : ∀ j, (∀ x ∈ u.take j, x < v) → (∀ x ∈ u.drop j, v < x) → insAt u v j = insGo v u false := by
    intro j h1 h2
    have := insGo_app v (u.drop j) h2 (u.take j) h1
    rw [List.take_append_drop] at this
    exact this.symm
  intro j
  induction j with
  | zero =>
    intro hj hd
    have h1 : ¬ (0 : Int) < ((0 : Nat) : Int) := by omega
    rw [fin 0 (by simp) hd]
    refine i_code (by unfold a104_l0; exact rfl) ?_
    repeat' (first | (simp (maxSteps := 2000000) (disch := omega) only [go_sem, seval, reduceCtorEq, h1, e1]) | with_reducible exact Ev.mk | ((first | apply x_split | apply x_splitg) <;> intro hβ hb <;> (simp (maxSteps := 2000000) (disch := omega) only [go_sem, seval, reduceCtorEq, h1, e1, hβ]) <;> clear hβ))
    exact hx
  | succ j ih =>
    intro hj hd
    have h1 : (0 : Int) < ((j + 1 : Nat) : Int) := by omega
    have hj2 : j < u.length := by omega
    have g1 := ints_get? _ _ _ (insAt_at u v (j + 1) hj)
    have g2 := ints_get? _ _ _ ((insAt_low u v (j + 1) j hj (by omega)).trans (List.getElem?_eq_getElem hj2))
    have g3 := insAt_len u v (j + 1) hj
    have g4 : ((j + 1 : Nat) : Int) - 1 = (j : Nat) := by omega
    have g5 : (0 : Int) ≤ (j : Nat) := by omega
    have g6 : (0 : Int) ≤ ((j + 1 : Nat) : Int) := by omega
    have g8 : ((j + 1 : Nat) : Int) < ((u.length + 1 : Nat) : Int) := by omega
    have g9 : ((j : Nat) : Int) < ((u.length + 1 : Nat) : Int) := by omega
    have g7 := insAt_set u v u[j] j hj2 (List.getElem?_eq_getElem hj2)
    have g10 : (intsPV ((insAt u v (j + 1)).set (j + 1) u[j]))[j]? = some [.int .i64 u[j]] := by
      refine ints_get? _ _ _ ?_
      rw [List.getElem?_set_ne (by omega), insAt_low u v (j + 1) j hj (by omega), List.getElem?_eq_getElem hj2]
    refine i_code (by unfold a104_l0; exact rfl) ?_
    by_cases c : v < u[j]
    · repeat' (first | exact ps154 _ _ | (simp (maxSteps := 2000000) (disch := omega) only [go_sem, seval, reduceCtorEq, h1, e1, e2, g1, g2, g3, g4, g5, g6, g7, g8, g9, g10, c, intsPV_length, intsPV_set, List.length_set]) | with_reducible exact Ev.mk | apply x_call | ((first | apply x_split | apply x_splitg) <;> intro hβ hb <;> (simp (maxSteps := 2000000) (disch := omega) only [go_sem, seval, reduceCtorEq, h1, e1, e2, g1, g2, g3, g4, g5, g6, g7, g8, g9, g10, c, intsPV_length, intsPV_set, List.length_set, hβ]) <;> clear hβ))
      refine i_lk (W_round ?_)
      exact ih (by omega) (by
        intro x hx
        rw [← List.getElem_cons_drop hj2] at hx
        rcases List.mem_cons.1 hx with h | h
        · rw [h]; exact c
        · exact hd x h)
    · have hne : u[j] ≠ v := fun e => hn (e ▸ List.getElem_mem hj2)
      rw [fin (j + 1) (by
        intro x hx
        obtain ⟨k, hk, rfl⟩ := List.mem_iff_getElem.1 hx
        have hk2 : k < j + 1 := by simp at hk; omega
        have : u[k] ≤ u[j] := by
          rcases Nat.lt_or_ge k j with h | h
          · have := (List.pairwise_iff_getElem.1 hp) k j (by omega) hj2 h; omega
          · have : k = j := by omega
            subst this; exact Int.le_refl _
        rw [List.getElem_take]
        omega) hd] at *
      repeat' (first | exact ps154 _ _ | (simp (maxSteps := 2000000) (disch := omega) only [go_sem, seval, reduceCtorEq, h1, e1, g1, g2, g3, g4, g5, g6, g8, g9, c, intsPV_length]) | with_reducible exact Ev.mk | apply x_call | ((first | apply x_split | apply x_splitg) <;> intro hβ hb <;> (simp (maxSteps := 2000000) (disch := omega) only [go_sem, seval, reduceCtorEq, h1, e1, g1, g2, g3, g4, g5, g6, g8, g9, c, intsPV_length, hβ]) <;> clear hβ))
      exact hx

theorem ins_up (u : List Int) (v : Int) (hp : u.Pairwise (· < ·)) (i : Nat) (h0 : 1 ≤ i) (h1 : i < u.length) : ∃ x y, (u ++ [v])[i]? = some x ∧ (u ++ [v])[i - 1]? = some y ∧ ¬ x < y := by
  refine ⟨u[i], u[i - 1], ?_, ?_, ?_⟩
  · rw [List.getElem?_append_left h1, List.getElem?_eq_getElem h1]
  · rw [List.getElem?_append_left (by omega), List.getElem?_eq_getElem (by omega)]
  · have := (List.pairwise_iff_getElem.1 hp) (i - 1) i (by omega) h1 (by omega)
    omega

theorem l148b (u : List Int) (v : Int) (hp : u.Pairwise (· < ·)) (hn : v ∉ u) (hu : 1 ≤ u.length) (H : Heap) (r nx : Nat) (hr : aget H r = some (.row false 1 (intsPV (u ++ [v])))) (hl : u.length ≤ 1000) (K : Ex → St → Prop)
    (hx : K (.exit 0) ⟨[], hset H r (.row false 1 (intsPV (insGo v u false))), nx, [nx]⟩) :
    ∀ (n i : Nat), 1 ≤ i → i + n = u.length →
    W tb a104_l1 ⟨[(0, .ref r (u.length + 1) 0 (u.length + 1)), (1, .p (.int .i64 0)), (2, .p (.int .i64 (u.length + 1 : Nat))), (6, .p (.int .i64 i))], H, nx, [nx]⟩ (LK tb a104_l1 K) := by
  intro n
  induction n with
  | zero =>
    intro i h0 hi
    have e : i = u.length := by omega
    subst e
    have h1 : ((u.length : Nat) : Int) < ((u.length + 1 : Nat) : Int) := by omega
    have h2 : ¬ ((u.length : Nat) : Int) + 1 < ((u.length + 1 : Nat) : Int) := by omega
    have hq : H = hset H r (.row false 1 (intsPV (insAt u v u.length))) := by
      rw [insAt_end]
      clear hx
      induction H with
      | nil => rfl
      | cons x t ih =>
        obtain ⟨k, b⟩ := x
        cases e : (k == r) with
        | true =>
          simp only [aget, e, if_true, Option.some.injEq] at hr
          simp only [hset, e, if_true, hr]
        | false =>
          simp only [aget, e, Bool.false_eq_true, if_false] at hr
          simp only [hset, e, Bool.false_eq_true, if_false]
          rw [← ih hr]
    refine i_code (by unfold a104_l1; exact rfl) ?_
    repeat' (first | (simp (maxSteps := 2000000) (disch := omega) only [go_sem, seval, reduceCtorEq, h1]) | with_reducible exact Ev.mk | ((first | apply x_split | apply x_splitg) <;> intro hβ hb <;> (simp (maxSteps := 2000000) (disch := omega) only [go_sem, seval, reduceCtorEq, h1, hβ]) <;> clear hβ))
    refine W_round ?_
    rw [hq]
    refine l148a u v hp hn H r nx _ hr hl _ _ ?_ u.length (Nat.le_refl _) (by simp)
    repeat' (first | (simp (maxSteps := 2000000) (disch := omega) only [go_sem, seval, reduceCtorEq]) | with_reducible exact Ev.mk | ((first | apply x_split | apply x_splitg) <;> intro hβ hb <;> (simp (maxSteps := 2000000) (disch := omega) only [go_sem, seval, reduceCtorEq, hβ]) <;> clear hβ))
    refine i_lk (W_round ?_)
    refine i_code (by unfold a104_l1; exact rfl) ?_
    repeat' (first | (simp (maxSteps := 2000000) (disch := omega) only [go_sem, seval, reduceCtorEq, h2]) | with_reducible exact Ev.mk | ((first | apply x_split | apply x_splitg) <;> intro hβ hb <;> (simp (maxSteps := 2000000) (disch := omega) only [go_sem, seval, reduceCtorEq, h2, hβ]) <;> clear hβ))
    exact hx
  | succ n ih =>
    intro i h0 hi
    have h1 : ((i : Nat) : Int) < ((u.length + 1 : Nat) : Int) := by omega
    obtain ⟨x, y, q1, q2, q3⟩ := ins_up u v hp i h0 (by omega)
    have g1 := ints_get? _ _ _ q1
    have g2 := ints_get? _ _ _ q2
    have g3 : (u ++ [v]).length = u.length + 1 := by simp
    have g4 : ((i : Nat) : Int) - 1 = ((i - 1 : Nat) : Int) := by omega
    have g5 : (0 : Int) ≤ ((i - 1 : Nat) : Int) := by omega
    have g6 : (0 : Int) ≤ (i : Int) := by omega
    have g7 : (0 : Int) < (i : Int) := by omega
    have g8 : ((i - 1 : Nat) : Int) < ((u.length + 1 : Nat) : Int) := by omega
    refine i_code (by unfold a104_l1; exact rfl) ?_
    repeat' (first | (simp (maxSteps := 2000000) (disch := omega) only [go_sem, seval, reduceCtorEq, h1]) | with_reducible exact Ev.mk | ((first | apply x_split | apply x_splitg) <;> intro hβ hb <;> (simp (maxSteps := 2000000) (disch := omega) only [go_sem, seval, reduceCtorEq, h1, hβ]) <;> clear hβ))
    refine W_round ?_
    refine i_code (by unfold a104_l0; exact rfl) ?_
    repeat' (first | exact ps154 _ _ | (simp (maxSteps := 2000000) (disch := omega) only [go_sem, seval, reduceCtorEq, hr, h1, g1, g2, g3, g4, g5, g6, g7, g8, q3, intsPV_length]) | with_reducible exact Ev.mk | apply x_call | ((first | apply x_split | apply x_splitg) <;> intro hβ hb <;> (simp (maxSteps := 2000000) (disch := omega) only [go_sem, seval, reduceCtorEq, hr, h1, g1, g2, g3, g4, g5, g6, g7, g8, q3, intsPV_length, hβ]) <;> clear hβ))
    refine i_lk (W_round ?_)
    exact ih (i + 1) (by omega) (by omega)

theorem bs148 (u : List Int) (v : Int) (hp : u.Pairwise (· < ·)) (hn : v ∉ u) (hu : 1 ≤ u.length) (H : Heap) (r nx : Nat) (hr : aget H r = some (.row false 1 (intsPV (u ++ [v])))) (hl : u.length ≤ 1000) :
    BS tb 104 [.ref r (u.length + 1) 0 (u.length + 1), .p (.int .i64 0), .p (.int .i64 (u.length + 1 : Nat))] H nx (.tuple []) (hset H r (.row false 1 (intsPV (insGo v u false)))) nx := by
  refine BS_of (af := a104) rfl rfl ?_
  unfold a104
  dsimp only [List.map, ofPV, initEnv]
  repeat' (first | (simp (maxSteps := 2000000) (disch := omega) only [go_sem, seval, reduceCtorEq]) | with_reducible exact Ev.mk | ((first | apply x_split | apply x_splitg) <;> intro hβ hb <;> (simp (maxSteps := 2000000) (disch := omega) only [go_sem, seval, reduceCtorEq, hβ]) <;> clear hβ))
  refine W_round ?_
  refine l148b u v hp hn hu H r nx hr hl _ ?_ (u.length - 1) 1 (by omega) (by omega)
  (try simp (maxSteps := 2000000) (disch := omega) only [go_sem, seval, reduceCtorEq])
  all_goals (try simp)

theorem bs133 (u : List Int) (v : Int) (k : PV) (hp : u.Pairwise (· < ·)) (hn : v ∉ u) (hu : 1 ≤ u.length) (H : Heap) (r nx : Nat) (hr : aget H r = some (.row false 1 (intsPV (u ++ [v])))) (hl : u.length ≤ 3) :
    BS tb 102 [.ref r (u.length + 1) 0 (u.length + 1), .p (.int .i64 0), .p (.int .i64 (u.length + 1 : Nat)), .p k] H nx (.tuple []) (hset H r (.row false 1 (intsPV (insGo v u false)))) nx := by
  have h1 : ((u.length + 1 : Nat) : Int) - 0 ≤ 12 := by omega
  have h2 : u.length ≤ 1000 := by omega
  refine BS_of (af := a102) rfl rfl ?_
  unfold a102
  dsimp only [List.map, ofPV, initEnv]
  repeat' (first | (simp (maxSteps := 2000000) (disch := omega) only [go_sem, seval, reduceCtorEq]) | with_reducible exact Ev.mk | ((first | apply x_split | apply x_splitg) <;> intro hβ hb <;> (simp (maxSteps := 2000000) (disch := omega) only [go_sem, seval, reduceCtorEq, hβ]) <;> clear hβ))
  refine W_round ?_
  refine i_code (by unfold a102_l0; exact rfl) ?_
  repeat' (first | exact bs148 u v hp hn hu H r nx hr h2 | (simp (maxSteps := 2000000) (disch := omega) only [go_sem, seval, reduceCtorEq, h1]) | with_reducible exact Ev.mk | apply x_callr | ((first | apply x_split | apply x_splitg) <;> intro hβ hb <;> (simp (maxSteps := 2000000) (disch := omega) only [go_sem, seval, reduceCtorEq, h1, hβ]) <;> clear hβ))
  all_goals (try simp)

theorem bs95 (u : List Int) (v : Int) (hp : u.Pairwise (· < ·)) (hn : v ∉ u) (hu : 1 ≤ u.length) (H : Heap) (r nx : Nat) (hr : aget H r = some (.row false 1 (intsPV (u ++ [v])))) (hl : u.length ≤ 3) :
    BS tb 96 [.ref r (u.length + 1) 0 (u.length + 1)] H nx (.tuple []) (hset H r (.row false 1 (intsPV (insGo v u false)))) nx := by
  have g3 : (u ++ [v]).length = u.length + 1 := by simp
  have hk : ∃ k, PS tb 103 [.int .u64 (u.length + 1 : Nat)] (.int .i64 k) := by
    rcases (show u.length = 1 ∨ u.length = 2 ∨ u.length = 3 by omega) with h | h | h <;> rw [h]
    · exact ⟨_, len2⟩
    · exact ⟨_, len3⟩
    · exact ⟨_, len4⟩
  obtain ⟨k, hk⟩ := hk
  have hw : IntKind.u64.wrap ((u.length : Int) + 1) = ((u.length + 1 : Nat) : Int) := by
    rcases (show u.length = 1 ∨ u.length = 2 ∨ u.length = 3 by omega) with h | h | h <;> rw [h] <;> rfl
  refine BS_of (af := a96) rfl rfl ?_
  unfold a96
  dsimp only [List.map, ofPV, initEnv]
  (try simp (maxSteps := 2000000) (disch := omega) only [go_sem, seval, reduceCtorEq, hr, g3, hw, intsPV_length])
  generalize h : IntKind.u64.wrap _ = w
  have hw2 : w = ((u.length + 1 : Nat) : Int) := h.symm.trans hw
  subst hw2
  repeat' (first | exact hk | exact bs133 u v _ hp hn hu H r nx hr hl | (simp (maxSteps := 2000000) (disch := omega) only [go_sem, seval, reduceCtorEq, hr, g3, intsPV_length]) | with_reducible exact Ev.mk | apply x_call | apply x_callr | ((first | apply x_split | apply x_splitg) <;> intro hβ hb <;> (simp (maxSteps := 2000000) (disch := omega) only [go_sem, seval, reduceCtorEq, hr, g3, intsPV_length, hβ]) <;> clear hβ))
  all_goals (try simp)

end Go.Dv.Try
