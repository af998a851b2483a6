/-
  Specifications, part H2: the second valid, equal lists, hot keys, halves.
-/
import Derived.Test.YtknplkihgnfpfaaH1
set_option linter.unusedVariables false
set_option linter.unusedSimpArgs false
set_option maxRecDepth 100000
set_option maxHeartbeats 4000000
namespace Go.Dv.Try
open Go Go.Dv

theorem l_rhvalid (l : List Ht) (b : Bool) (hl : l.length ≤ 9223372036854775807) (hsz : ∀ i (h : i < l.length), l[i].1.size ≤ 9223372036854775807) (K : Ex → St → Prop)
    (hx : (∀ j, j < l.length → okH l j = true) → K (.exit 0) ⟨[(0, .p (.slice b (htRow l)))], [], 0, [0]⟩)
    (hr : (∃ j, j < l.length ∧ okH l j = false) → ∀ s', aget s'.env 2 = some (.p (.bool false)) → K .ret s') : ∀ (m i : Nat), i + m = l.length → (∀ j, j < i → okH l j = true) →
    W tb a29_l0 ⟨[(0, .p (.slice b (htRow l))), (3, .p (.int .i64 i))], [], 0, [0]⟩ (LK tb (.ghost .lower a29_l0) K) := by
  intro m
  induction m with
  | zero =>
    intro i hi ht
    have h1 : ¬ (i : Int) < l.length := by omega
    refine i_code (by unfold a29_l0; exact rfl) ?_
    repeat' (first | (simp (disch := omega) only [go_sem, seval, reduceCtorEq, h1, htRow_length]) | with_reducible exact Ev.mk | ((first | apply x_split | apply x_splitg) <;> intro hβ hb <;> (simp (disch := omega) only [go_sem, seval, reduceCtorEq, h1, htRow_length, hβ]) <;> clear hβ))
    exact hx (fun j hj => ht j (by omega))
  | succ m ih =>
    intro i hi ht
    have h1 : (i : Int) < l.length := by omega
    have h2 : i < l.length := by omega
    have h4 : (0 : Int) ≤ i := by omega
    have h3 := htRow_get l i h2
    have hok := okH_eq l i h2
    have bad : okH l i = false → ∀ s', aget s'.env 2 = some (.p (.bool false)) → K .ret s' := fun h => hr ⟨i, h2, h⟩
    have nxt : okH l i = true → W tb a29_l0 ⟨[(0, .p (.slice b (htRow l))), (3, .p (.int .i64 ((i : Int) + 1)))], [], 0, [0]⟩ (LK tb (.ghost .lower a29_l0) K) := fun h => ih (i + 1) (by omega) (upto_step ht h)
    refine i_code (by unfold a29_l0; exact rfl) ?_
    cases hv : vkey l[i].1 with
    | false =>
      repeat' (first | exact ps_r4valid _ (hsz _ h2) | (simp (disch := omega) only [go_sem, seval, reduceCtorEq, h1, h3, h4, hv, htRow_length]) | with_reducible exact Ev.mk | apply x_call | ((first | apply x_split | apply x_splitg) <;> intro hβ hb <;> (simp (disch := omega) only [go_sem, seval, reduceCtorEq, h1, h3, h4, hv, htRow_length, hβ]) <;> clear hβ))
      exact bad (by rw [hok, hv]; rfl) _ rfl
    | true =>
      by_cases c1 : l[i].2 < 1
      · repeat' (first | exact ps_r4valid _ (hsz _ h2) | (simp (disch := omega) only [go_sem, seval, reduceCtorEq, h1, h3, h4, hv, c1, htRow_length]) | with_reducible exact Ev.mk | apply x_call | ((first | apply x_split | apply x_splitg) <;> intro hβ hb <;> (simp (disch := omega) only [go_sem, seval, reduceCtorEq, h1, h3, h4, hv, c1, htRow_length, hβ]) <;> clear hβ))
        exact bad (by rw [hok, hv, decide_eq_false (show ¬ 1 ≤ l[i].2 by omega)]; rfl) _ rfl
      · by_cases c2 : 1099511627776 < l[i].2
        · repeat' (first | exact ps_r4valid _ (hsz _ h2) | (simp (disch := omega) only [go_sem, seval, reduceCtorEq, h1, h3, h4, hv, c1, c2, htRow_length]) | with_reducible exact Ev.mk | apply x_call | ((first | apply x_split | apply x_splitg) <;> intro hβ hb <;> (simp (disch := omega) only [go_sem, seval, reduceCtorEq, h1, h3, h4, hv, c1, c2, htRow_length, hβ]) <;> clear hβ))
          exact bad (by rw [hok, hv, decide_eq_true (show 1 ≤ l[i].2 by omega), decide_eq_false (show ¬ l[i].2 ≤ 1099511627776 by omega)]; rfl) _ rfl
        · have hok2 : okH l i = (decide (i = 0) || slt (l.getD (i - 1) (ByteArray.empty, 0)).1 l[i].1) := by
            rw [hok, hv, decide_eq_true (show 1 ≤ l[i].2 by omega), decide_eq_true (show l[i].2 ≤ 1099511627776 by omega)]; rfl
          by_cases c3 : i = 0
          · have k0 : ¬ (0 : Int) < (i : Int) := by omega
            repeat' (first | exact ps_r4valid _ (hsz _ h2) | (simp (disch := omega) only [go_sem, seval, reduceCtorEq, h1, h3, h4, hv, c1, c2, k0, htRow_length]) | with_reducible exact Ev.mk | apply x_call | ((first | apply x_split | apply x_splitg) <;> intro hβ hb <;> (simp (disch := omega) only [go_sem, seval, reduceCtorEq, h1, h3, h4, hv, c1, c2, k0, htRow_length, hβ]) <;> clear hβ))
            refine i_lk (W_round ?_)
            (try simp (disch := omega) only [go_sem, seval, reduceCtorEq])
            exact nxt (by rw [hok2, decide_eq_true c3]; rfl)
          · have k0 : (0 : Int) < (i : Int) := by omega
            have k1 : (i : Int) - 1 = ((i - 1 : Nat) : Int) := by omega
            have h5 := htRow_get l (i - 1) (by omega)
            have g1 := getD_ht l (i - 1) (by omega)
            rw [g1, decide_eq_false c3, Bool.false_or] at hok2
            have k2 : (0 : Int) ≤ ((i - 1 : Nat) : Int) := by omega
            cases c4 : slt l[i - 1].1 l[i].1 with
            | false =>
              repeat' (first | exact ps_r4valid _ (hsz _ h2) | (simp (disch := omega) only [go_sem, seval, reduceCtorEq, h1, h3, h4, hv, c1, c2, k0, k1, k2, h5, c4, htRow_length]) | with_reducible exact Ev.mk | apply x_call | ((first | apply x_split | apply x_splitg) <;> intro hβ hb <;> (simp (disch := omega) only [go_sem, seval, reduceCtorEq, h1, h3, h4, hv, c1, c2, k0, k1, k2, h5, c4, htRow_length, hβ]) <;> clear hβ))
              exact bad (by rw [hok2, c4]) _ rfl
            | true =>
              repeat' (first | exact ps_r4valid _ (hsz _ h2) | (simp (disch := omega) only [go_sem, seval, reduceCtorEq, h1, h3, h4, hv, c1, c2, k0, k1, k2, h5, c4, htRow_length]) | with_reducible exact Ev.mk | apply x_call | ((first | apply x_split | apply x_splitg) <;> intro hβ hb <;> (simp (disch := omega) only [go_sem, seval, reduceCtorEq, h1, h3, h4, hv, c1, c2, k0, k1, k2, h5, c4, htRow_length, hβ]) <;> clear hβ))
              refine i_lk (W_round ?_)
              (try simp (disch := omega) only [go_sem, seval, reduceCtorEq])
              exact nxt (by rw [hok2, c4])

theorem ps_rhvalid (l : List Ht) (b : Bool) (hl : l.length ≤ 9223372036854775807) (hsz : ∀ i (h : i < l.length), l[i].1.size ≤ 9223372036854775807) : PS tb 29 [.slice b (htRow l)] (.bool (validH l)) := by
  refine PS_of (af := a29) rfl rfl ?_
  unfold a29
  dsimp only [List.map, ofPV, initEnv]
  repeat' (first | (simp (disch := omega) only [go_sem, seval, reduceCtorEq]) | with_reducible exact Ev.mk | ((first | apply x_split | apply x_splitg) <;> intro hβ hb <;> (simp (disch := omega) only [go_sem, seval, reduceCtorEq, hβ]) <;> clear hβ))
  refine W_round ?_
  (try simp (disch := omega) only [go_sem, seval, reduceCtorEq])
  refine l_rhvalid l b hl hsz _ ?_ ?_ l.length 0 (by omega) (by simp)
  · intro ha
    have e : validH l = decide ((l.length : Int) ≤ 32) := by
      unfold validH
      rw [all_range.2 ha, Bool.true_and]
      exact decide_eq_decide.2 (by omega)
    repeat' (first | (simp (disch := omega) only [go_sem, seval, reduceCtorEq, htRow_length]) | with_reducible exact Ev.mk | ((first | apply x_split | apply x_splitg) <;> intro hβ hb <;> (simp (disch := omega) only [go_sem, seval, reduceCtorEq, htRow_length, hβ]) <;> clear hβ))
    all_goals simp [pur, dep, e]
  · rintro ⟨j, hj, h⟩ s' hs
    have e : validH l = false := by unfold validH; rw [all_rangeF hj h]; rfl
    (try simp (disch := omega) only [go_sem, seval, reduceCtorEq, hs])
    simp [pur, dep, e]

theorem validH_len {l : List Ht} (h : validH l = true) : l.length ≤ 32 := by
  unfold validH at h
  simp only [Bool.and_eq_true, decide_eq_true_eq] at h
  exact h.2

/-! ### equal lists -/

theorem l_hsame (l : List Ht) (b d : Bool) (hl : l.length ≤ 9223372036854775807) (K : Ex → St → Prop) (hx : K (.exit 0) ⟨[], [], 0, [0]⟩) : ∀ (m i : Nat), i + m = l.length →
    W tb a16_l0 ⟨[(0, .p (.slice b (htRow l))), (1, .p (.slice d (htRow l))), (5, .p (.int .i64 i))], [], 0, [0]⟩ (LK tb (.ghost .lower a16_l0) K) := by
  intro m
  induction m with
  | zero =>
    intro i hi
    have h1 : ¬ (i : Int) < l.length := by omega
    refine i_code (by unfold a16_l0; exact rfl) ?_
    repeat' (first | (simp (disch := omega) only [go_sem, seval, reduceCtorEq, h1, htRow_length]) | with_reducible exact Ev.mk | ((first | apply x_split | apply x_splitg) <;> intro hβ hb <;> (simp (disch := omega) only [go_sem, seval, reduceCtorEq, h1, htRow_length, hβ]) <;> clear hβ))
    exact hx
  | succ m ih =>
    intro i hi
    have h1 : (i : Int) < l.length := by omega
    have h2 : i < l.length := by omega
    have h4 : (0 : Int) ≤ i := by omega
    have h3 := htRow_get l i h2
    refine i_code (by unfold a16_l0; exact rfl) ?_
    repeat' (first | (simp (disch := omega) only [go_sem, seval, reduceCtorEq, h1, h3, h4, htRow_length]) | with_reducible exact Ev.mk | ((first | apply x_split | apply x_splitg) <;> intro hβ hb <;> (simp (disch := omega) only [go_sem, seval, reduceCtorEq, h1, h3, h4, htRow_length, hβ]) <;> clear hβ))
    refine i_lk (W_round ?_)
    (try simp (disch := omega) only [go_sem, seval, reduceCtorEq])
    exact ih (i + 1) (by omega)

theorem ps_hsame (l : List Ht) (b d : Bool) (hl : l.length ≤ 9223372036854775807) : PS tb 16 [.slice b (htRow l), .slice d (htRow l)] (.bool true) := by
  refine PS_of (af := a16) rfl rfl ?_
  unfold a16
  dsimp only [List.map, ofPV, initEnv]
  have e : ((l.length : Int) != (l.length : Int)) = false := by simp
  repeat' (first | (simp (disch := omega) only [go_sem, seval, reduceCtorEq, htRow_length, e]) | with_reducible exact Ev.mk | ((first | apply x_split | apply x_splitg) <;> intro hβ hb <;> (simp (disch := omega) only [go_sem, seval, reduceCtorEq, htRow_length, e, hβ]) <;> clear hβ))
  refine W_round ?_
  (try simp (disch := omega) only [go_sem, seval, reduceCtorEq])
  refine l_hsame l b d hl _ ?_ l.length 0 (by omega)
  (try simp (disch := omega) only [go_sem, seval, reduceCtorEq])

/-! ### hot keys -/

def hotL (l : List Ht) (a : Int) : List ByteArray := (l.filter fun h => decide (a ≤ h.2)).map (·.1)
theorem hotL_step (l : List Ht) (a : Int) (i : Nat) (h : i < l.length) : hotL (l.take (i + 1)) a = if a ≤ l[i].2 then hotL (l.take i) a ++ [l[i].1] else hotL (l.take i) a := by
  unfold hotL
  rw [List.take_add_one, List.getElem?_eq_getElem h]
  simp only [Option.toList, List.filter_append, List.map_append]
  split
  · rename_i h'; simp [List.filter_cons, h']
  · rename_i h'; simp [List.filter_cons, h']
theorem hotL_len (l : List Ht) (a : Int) : (hotL l a).length ≤ l.length := by
  unfold hotL; rw [List.length_map]; exact List.length_filter_le _ _
theorem strRow_snoc (l : List ByteArray) (x : ByteArray) : strRow l ++ [[.str x]] = strRow (l ++ [x]) := by simp [strRow]
theorem sz1 (a : PV) : allSz 1 [[a]] = true := rfl
theorem sz2 (a b : PV) : allSz 2 [[a, b]] = true := rfl

theorem ps_hot1 (h : Ht) (a : Int) : PS tb 57 [.agg (htC h), .vptr [.int .i64 a]] (.tuple [.str h.1, .bool (decide (a ≤ h.2))]) := by
  refine PS_of (af := a57) rfl rfl ?_
  unfold a57
  dsimp only [List.map, ofPV, initEnv, htC]
  repeat' (first | (simp (disch := omega) only [go_sem, seval, reduceCtorEq]) | with_reducible exact Ev.mk | ((first | apply x_split | apply x_splitg) <;> intro hβ hb <;> (simp (disch := omega) only [go_sem, seval, reduceCtorEq, hβ]) <;> clear hβ))

theorem l_conv1 (l : List Ht) (b : Bool) (hl : l.length ≤ 32) (a : Int) (K : Ex → St → Prop)
    (hx : K (.exit 0) ⟨[(5, .ref 0 (hotL l a).length 0 (hotL l a).length)], [(0, .row false 1 (strRow (hotL l a)))], 1, [0]⟩) : ∀ (m i : Nat), i + m = l.length →
    W tb a56_l0 ⟨[(1, .p (.func 57 [.vptr [.int .i64 a]])), (5, .ref 0 (hotL (l.take i) a).length 0 (hotL (l.take i) a).length), (10, .p (.slice b (htRow l))), (11, .p (.int .i64 l.length)), (12, .p (.int .i64 i))], [(0, .row false 1 (strRow (hotL (l.take i) a)))], 1, [0]⟩ (LK tb (.ghost (.free [7]) (.ghost .lower a56_l0)) K) := by
  intro m
  induction m with
  | zero =>
    intro i hi
    have h1 : ¬ (i : Int) < l.length := by omega
    have e : i = l.length := by omega
    subst e
    rw [List.take_length]
    refine i_code (by unfold a56_l0; exact rfl) ?_
    repeat' (first | (simp (disch := omega) only [go_sem, seval, reduceCtorEq, h1]) | with_reducible exact Ev.mk | ((first | apply x_split | apply x_splitg) <;> intro hβ hb <;> (simp (disch := omega) only [go_sem, seval, reduceCtorEq, h1, hβ]) <;> clear hβ))
    exact hx
  | succ m ih =>
    intro i hi
    have h1 : (i : Int) < l.length := by omega
    have h2 : i < l.length := by omega
    have h4 : (0 : Int) ≤ i := by omega
    have h3 := htRow_get l i h2
    have st := hotL_step l a i h2
    have ln := hotL_len (l.take i) a
    rw [List.length_take] at ln
    have m1 : ((hotL (l.take i) a).length + 1) * 16 ≤ 140737488355328 := by omega
    have m2 : (hotL (l.take i) a).length + 1 ≤ 140737488355328 := by omega
    have q := ps_hot1 l[i] a
    simp only [htC] at q
    have ihk := ih (i + 1) (by omega)
    rw [st] at ihk
    refine i_code (by unfold a56_l0; exact rfl) ?_
    by_cases c : a ≤ l[i].2
    · rw [if_pos c, List.length_append] at ihk
      simp only [List.length_cons, List.length_nil] at ihk
      repeat' (first | exact q | (simp (disch := omega) only [go_sem, seval, reduceCtorEq, h1, h3, h4, c, strRow_snoc, strRow_length, sz1, m1, m2, maxBytes]) | with_reducible exact Ev.mk | apply x_call | ((first | apply x_split | apply x_splitg) <;> intro hβ hb <;> (simp (disch := omega) only [go_sem, seval, reduceCtorEq, h1, h3, h4, c, strRow_snoc, strRow_length, sz1, m1, m2, maxBytes, hβ]) <;> clear hβ))
      refine i_lk (W_round ?_)
      (try simp (disch := omega) only [go_sem, seval, reduceCtorEq])
      exact ihk
    · rw [if_neg c] at ihk
      repeat' (first | exact q | (simp (disch := omega) only [go_sem, seval, reduceCtorEq, h1, h3, h4, c, strRow_snoc, strRow_length, sz1, m1, m2, maxBytes]) | with_reducible exact Ev.mk | apply x_call | ((first | apply x_split | apply x_splitg) <;> intro hβ hb <;> (simp (disch := omega) only [go_sem, seval, reduceCtorEq, h1, h3, h4, c, strRow_snoc, strRow_length, sz1, m1, m2, maxBytes, hβ]) <;> clear hβ))
      refine i_lk (W_round ?_)
      (try simp (disch := omega) only [go_sem, seval, reduceCtorEq])
      exact ihk

theorem ps_conv1 (l : List Ht) (b : Bool) (hl : l.length ≤ 32) (a : Int) : PS tb 56 [.slice b (htRow l), .func 57 [.vptr [.int .i64 a]]] (.slice false (strRow (hotL l a))) := by
  have e0 : hotL (l.take 0) a = [] := rfl
  refine PS_of (af := a56) rfl rfl ?_
  unfold a56
  dsimp only [List.map, ofPV, initEnv]
  repeat' (first | (simp (disch := omega) only [go_sem, seval, reduceCtorEq, htRow_length]) | with_reducible exact Ev.mk | ((first | apply x_split | apply x_splitg) <;> intro hβ hb <;> (simp (disch := omega) only [go_sem, seval, reduceCtorEq, htRow_length, hβ]) <;> clear hβ))
  refine W_round ?_
  (try simp (disch := omega) only [go_sem, seval, reduceCtorEq])
  have := l_conv1 l b hl a (BK 0 (SK tb (.seq (.regionK false [(.o 28 (.move (.t 5)), [5]), (.o 4 (.move (.t 28)), [28])]) .ret) (Done [.tmp 4] fun v s => pur s.heap dep v = some (.slice false (strRow (hotL l a)))))) ?_ l.length 0 (by omega)
  · rw [e0] at this
    exact this
  · have ht : (hotL l a).take (hotL l a).length = hotL l a := List.take_length
    repeat' (first | (simp (disch := omega) only [go_sem, seval, reduceCtorEq, strRow_length]) | with_reducible exact Ev.mk | ((first | apply x_split | apply x_splitg) <;> intro hβ hb <;> (simp (disch := omega) only [go_sem, seval, reduceCtorEq, strRow_length, hβ]) <;> clear hβ))
    all_goals simp [pur, dep, strRow_length, strRow_take, ht]

def hotF (l : List Ht) (a : Int) : List ByteArray := if validH l then hotL l a else []

theorem ps_hot (l : List Ht) (b : Bool) (hl : l.length ≤ 9223372036854775807) (a : Int) : PS tb 20 [.slice b (htRow l), .int .i64 a] (.slice (!validH l) (strRow (hotF l a))) := by
  refine PS_of (af := a20) rfl rfl ?_
  unfold a20
  dsimp only [List.map, ofPV, initEnv]
  have q := ps_hvalid l b hl
  cases c : validH l with
  | false =>
    rw [c] at q
    repeat' (first | exact q | (simp (disch := omega) only [go_sem, seval, reduceCtorEq]) | with_reducible exact Ev.mk | apply x_call | ((first | apply x_split | apply x_splitg) <;> intro hβ hb <;> (simp (disch := omega) only [go_sem, seval, reduceCtorEq, hβ]) <;> clear hβ))
    all_goals simp [pur, dep, hotF, c, strRow]
  | true =>
    rw [c] at q
    have q2 := ps_conv1 l b (validH_len c) a
    repeat' (first | exact q | exact q2 | (simp (disch := omega) only [go_sem, seval, reduceCtorEq]) | with_reducible exact Ev.mk | apply x_call | ((first | apply x_split | apply x_splitg) <;> intro hβ hb <;> (simp (disch := omega) only [go_sem, seval, reduceCtorEq, hβ]) <;> clear hβ))
    all_goals simp [pur, dep, hotF, c]

end Go.Dv.Try
