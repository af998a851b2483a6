/-
  Specifications: H1, H2, H3, H4.
-/
import Derived.Test.YthdcneolpbbcmaaFA
import Derived.Test.YthdcneolpbbcmaaBridge
set_option linter.unusedVariables false
set_option linter.unusedSimpArgs false
set_option maxRecDepth 100000
set_option maxHeartbeats 4000000
namespace Go.Dv.Try
open Go Go.Dv

/-! ## H1 -/

abbrev Ht := ByteArray × Int
def htC (h : Ht) : List PV := [.str h.1, .int .i64 h.2]
def htRow (l : List Ht) : List (List PV) := l.map htC
theorem htRow_length (l : List Ht) : (htRow l).length = l.length := by simp [htRow]
theorem htRow_get (l : List Ht) (i : Nat) (h : i < l.length) : (htRow l)[i]? = some [.str l[i].1, .int .i64 l[i].2] := by simp [htRow, htC, h]
theorem htRow_append (l r : List Ht) : htRow l ++ htRow r = htRow (l ++ r) := by simp [htRow]
theorem htRow_take (l : List Ht) (n : Nat) : (htRow l).take n = htRow (l.take n) := by simp [htRow, List.map_take]
theorem htRow_drop (l : List Ht) (n : Nat) : (htRow l).drop n = htRow (l.drop n) := by simp [htRow, List.map_drop]
theorem allSz_htRow (l : List Ht) : allSz 2 (htRow l) = true := by simp [allSz, htRow, htC]
theorem htRow_nil : htRow [] = [] := rfl

/-- The counter at an index is as it must be. -/
def okH (l : List Ht) (i : Nat) : Bool :=
  let h := l.getD i (ByteArray.empty, 0)
  vkey h.1 && decide (1 ≤ h.2) && decide (h.2 ≤ 1099511627776) && (decide (i = 0) || slt (l.getD (i - 1) (ByteArray.empty, 0)).1 h.1)
def validH (l : List Ht) : Bool := (List.range l.length).all (okH l) && decide (l.length ≤ 32)

theorem getD_ht (l : List Ht) (i : Nat) (h : i < l.length) : l.getD i (ByteArray.empty, 0) = l[i] := by
  rw [List.getD_eq_getElem?_getD, List.getElem?_eq_getElem h]; rfl

theorem all_range {n : Nat} {p : Nat → Bool} : (List.range n).all p = true ↔ ∀ j, j < n → p j = true := by
  rw [List.all_eq_true]
  exact ⟨fun h j hj => h j (List.mem_range.2 hj), fun h j hj => h j (List.mem_range.1 hj)⟩
theorem all_rangeF {n : Nat} {p : Nat → Bool} {j : Nat} (hj : j < n) (h : p j = false) : (List.range n).all p = false := by
  rw [List.all_eq_false]
  exact ⟨j, List.mem_range.2 hj, by simp [h]⟩

theorem okH_eq (l : List Ht) (i : Nat) (h : i < l.length) : okH l i = (vkey l[i].1 && decide (1 ≤ l[i].2) && decide (l[i].2 ≤ 1099511627776) && (decide (i = 0) || slt (l.getD (i - 1) (ByteArray.empty, 0)).1 l[i].1)) := by
  unfold okH
  rw [getD_ht l i h]

theorem upto_step {p : Nat → Bool} {i : Nat} (ht : ∀ j, j < i → p j = true) (h : p i = true) : ∀ j, j < i + 1 → p j = true := by
  intro j hj
  rcases Nat.lt_or_ge j i with c | c
  · exact ht j c
  · have e : j = i := by omega
    rw [e]; exact h

theorem l_hvalid (l : List Ht) (b : Bool) (hl : l.length ≤ 9223372036854775807) (K : Ex → St → Prop)
    (hx : (∀ j, j < l.length → okH l j = true) → K (.exit 0) ⟨[(0, .p (.slice b (htRow l)))], [], 0, [0]⟩)
    (hr : (∃ j, j < l.length ∧ okH l j = false) → ∀ s', aget s'.env 2 = some (.p (.bool false)) → K .ret s') : ∀ (m i : Nat), i + m = l.length → (∀ j, j < i → okH l j = true) →
    ∀ (e : Env) (H : Heap) (n : Nat), (e = [(0, .p (.slice b (htRow l))), (5, .p (.slice b (htRow l))), (6, .p (.int .i64 l.length)), (7, .p (.int .i64 i))] ∧ H = [] ∧ n = 0) →
    W tb a8_l0 ⟨e, H, n, [0]⟩ (LK tb (.ghost (.free [4]) (.ghost .lower a8_l0)) K) := by
  intro m
  induction m with
  | zero =>
    rintro i hi ht e H n ⟨rfl, rfl, rfl⟩
    have h1 : ¬ (i : Int) < l.length := by omega
    refine i_code (by unfold a8_l0; exact rfl) ?_
    repeat' (first | (simp (disch := omega) only [go_sem, seval, reduceCtorEq, h1]) | with_reducible exact Ev.mk | ((first | apply x_split | apply x_splitg) <;> intro hβ hb <;> (simp (disch := omega) only [go_sem, seval, reduceCtorEq, h1, hβ]) <;> clear hβ))
    exact hx (fun j hj => ht j (by omega))
  | succ m ih =>
    rintro i hi ht e H n ⟨rfl, rfl, rfl⟩
    have h1 : (i : Int) < l.length := by omega
    have h2 : i < l.length := by omega
    have h4 : (0 : Int) ≤ i := by omega
    have h3 := htRow_get l i h2
    have hok := okH_eq l i h2
    have bad : okH l i = false → ∀ s', aget s'.env 2 = some (.p (.bool false)) → K .ret s' := fun h => hr ⟨i, h2, h⟩
    have nxt : okH l i = true → ∀ e, e = [(0, .p (.slice b (htRow l))), (5, .p (.slice b (htRow l))), (6, .p (.int .i64 l.length)), (7, .p (.int .i64 ((i + 1 : Nat) : Int)))] → W tb a8_l0 ⟨e, [], 0, [0]⟩ (LK tb (.ghost (.free [4]) (.ghost .lower a8_l0)) K) := fun h e he =>
      ih (i + 1) (by omega) (upto_step ht h) e [] 0 ⟨he, rfl, rfl⟩
    refine i_code (by unfold a8_l0; exact rfl) ?_
    cases hv : vkey l[i].1 with
    | false =>
      repeat' (first | exact ps_kvalid _ | (simp (disch := omega) only [go_sem, seval, reduceCtorEq, h1, h3, h4, hv]) | with_reducible exact Ev.mk | apply x_call | ((first | apply x_split | apply x_splitg) <;> intro hβ hb <;> (simp (disch := omega) only [go_sem, seval, reduceCtorEq, h1, h3, h4, hv, hβ]) <;> clear hβ))
      exact bad (by rw [hok, hv]; rfl) _ rfl
    | true =>
      by_cases c1 : l[i].2 < 1
      · repeat' (first | exact ps_kvalid _ | (simp (disch := omega) only [go_sem, seval, reduceCtorEq, h1, h3, h4, hv, c1]) | with_reducible exact Ev.mk | apply x_call | ((first | apply x_split | apply x_splitg) <;> intro hβ hb <;> (simp (disch := omega) only [go_sem, seval, reduceCtorEq, h1, h3, h4, hv, c1, hβ]) <;> clear hβ))
        exact bad (by rw [hok, hv, decide_eq_false (show ¬ 1 ≤ l[i].2 by omega)]; rfl) _ rfl
      · by_cases c2 : 1099511627776 < l[i].2
        · repeat' (first | exact ps_kvalid _ | (simp (disch := omega) only [go_sem, seval, reduceCtorEq, h1, h3, h4, hv, c1, c2]) | with_reducible exact Ev.mk | apply x_call | ((first | apply x_split | apply x_splitg) <;> intro hβ hb <;> (simp (disch := omega) only [go_sem, seval, reduceCtorEq, h1, h3, h4, hv, c1, c2, hβ]) <;> clear hβ))
          exact bad (by rw [hok, hv, decide_eq_true (show 1 ≤ l[i].2 by omega), decide_eq_false (show ¬ l[i].2 ≤ 1099511627776 by omega)]; rfl) _ rfl
        · have hok2 : okH l i = (decide (i = 0) || slt (l.getD (i - 1) (ByteArray.empty, 0)).1 l[i].1) := by
            rw [hok, hv, decide_eq_true (show 1 ≤ l[i].2 by omega), decide_eq_true (show l[i].2 ≤ 1099511627776 by omega)]; rfl
          by_cases c3 : i = 0
          · have k0 : ¬ (0 : Int) < (i : Int) := by omega
            repeat' (first | exact ps_kvalid _ | (simp (disch := omega) only [go_sem, seval, reduceCtorEq, h1, h3, h4, hv, c1, c2, k0]) | with_reducible exact Ev.mk | apply x_call | ((first | apply x_split | apply x_splitg) <;> intro hβ hb <;> (simp (disch := omega) only [go_sem, seval, reduceCtorEq, h1, h3, h4, hv, c1, c2, k0, hβ]) <;> clear hβ))
            refine i_lk (W_round ?_)
            (try simp (disch := omega) only [go_sem, seval, reduceCtorEq])
            exact nxt (by rw [hok2, decide_eq_true c3]; rfl) _ rfl
          · have k0 : (0 : Int) < (i : Int) := by omega
            have k1 : (i : Int) - 1 = ((i - 1 : Nat) : Int) := by omega
            have h5 := htRow_get l (i - 1) (by omega)
            have g1 := getD_ht l (i - 1) (by omega)
            rw [g1, decide_eq_false c3, Bool.false_or] at hok2
            have k2 : (0 : Int) ≤ ((i - 1 : Nat) : Int) := by omega
            cases c4 : slt l[i - 1].1 l[i].1 with
            | false =>
              repeat' (first | exact ps_kvalid _ | (simp (disch := omega) only [go_sem, seval, reduceCtorEq, h1, h3, h4, hv, c1, c2, k0, k1, k2, h5, c4]) | with_reducible exact Ev.mk | apply x_call | ((first | apply x_split | apply x_splitg) <;> intro hβ hb <;> (simp (disch := omega) only [go_sem, seval, reduceCtorEq, h1, h3, h4, hv, c1, c2, k0, k1, k2, h5, c4, hβ]) <;> clear hβ))
              exact bad (by rw [hok2, c4]) _ rfl
            | true =>
              repeat' (first | exact ps_kvalid _ | (simp (disch := omega) only [go_sem, seval, reduceCtorEq, h1, h3, h4, hv, c1, c2, k0, k1, k2, h5, c4]) | with_reducible exact Ev.mk | apply x_call | ((first | apply x_split | apply x_splitg) <;> intro hβ hb <;> (simp (disch := omega) only [go_sem, seval, reduceCtorEq, h1, h3, h4, hv, c1, c2, k0, k1, k2, h5, c4, hβ]) <;> clear hβ))
              refine i_lk (W_round ?_)
              (try simp (disch := omega) only [go_sem, seval, reduceCtorEq])
              exact nxt (by rw [hok2, c4]) _ rfl

theorem ps_hvalid (l : List Ht) (b : Bool) (hl : l.length ≤ 9223372036854775807) : PS tb 8 [.slice b (htRow l)] (.bool (validH l)) := by
  refine PS_of (af := a8) rfl rfl ?_
  unfold a8
  dsimp only [List.map, ofPV, initEnv]
  repeat' (first | (simp (disch := omega) only [go_sem, seval, reduceCtorEq, htRow_length]) | with_reducible exact Ev.mk | ((first | apply x_split | apply x_splitg) <;> intro hβ hb <;> (simp (disch := omega) only [go_sem, seval, reduceCtorEq, htRow_length, hβ]) <;> clear hβ))
  refine W_round ?_
  (try simp (disch := omega) only [go_sem, seval, reduceCtorEq])
  refine l_hvalid l b hl _ ?_ ?_ l.length 0 (by omega) (by simp) _ _ _ ⟨rfl, rfl, rfl⟩
  · intro ha
    have e : validH l = decide ((l.length : Int) ≤ 32) := by
      unfold validH
      rw [all_range.2 ha, Bool.true_and]
      exact decide_eq_decide.2 (by omega)
    repeat' (first | (simp (disch := omega) only [go_sem, seval, reduceCtorEq, htRow_length]) | with_reducible exact Ev.mk | ((first | apply x_split | apply x_splitg) <;> intro hβ hb <;> (simp (disch := omega) only [go_sem, seval, reduceCtorEq, htRow_length, hβ]) <;> clear hβ))
    all_goals simp [pur, dep, e]
  · rintro ⟨j, hj, h⟩ s' hs
    have e : validH l = false := by unfold validH; rw [all_rangeF hj h]; rfl
    (try simp (disch := omega) only [go_sem, seval, reduceCtorEq, hs])
    simp [pur, dep, e]


/-! ## H2 -/

theorem l_rhvalid (l : List Ht) (b : Bool) (hl : l.length ≤ 9223372036854775807) (hsz : ∀ i (h : i < l.length), l[i].1.size ≤ 9223372036854775807) (K : Ex → St → Prop)
    (hx : (∀ j, j < l.length → okH l j = true) → K (.exit 0) ⟨[(0, .p (.slice b (htRow l)))], [], 0, [0]⟩)
    (hr : (∃ j, j < l.length ∧ okH l j = false) → ∀ s', aget s'.env 2 = some (.p (.bool false)) → K .ret s') : ∀ (m i : Nat), i + m = l.length → (∀ j, j < i → okH l j = true) →
    W tb a17_l0 ⟨[(0, .p (.slice b (htRow l))), (3, .p (.int .i64 i))], [], 0, [0]⟩ (LK tb (.ghost .lower a17_l0) K) := by
  intro m
  induction m with
  | zero =>
    intro i hi ht
    have h1 : ¬ (i : Int) < l.length := by omega
    refine i_code (by unfold a17_l0; exact rfl) ?_
    repeat' (first | (simp (disch := omega) only [go_sem, seval, reduceCtorEq, h1, htRow_length]) | with_reducible exact Ev.mk | ((first | apply x_split | apply x_splitg) <;> intro hβ hb <;> (simp (disch := omega) only [go_sem, seval, reduceCtorEq, h1, htRow_length, hβ]) <;> clear hβ))
    exact hx (fun j hj => ht j (by omega))
  | succ m ih =>
    intro i hi ht
    have h1 : (i : Int) < l.length := by omega
    have h2 : i < l.length := by omega
    have h4 : (0 : Int) ≤ i := by omega
    have h3 := htRow_get l i h2
    have hok := okH_eq l i h2
    have bad : okH l i = false → ∀ s', aget s'.env 2 = some (.p (.bool false)) → K .ret s' := fun h => hr ⟨i, h2, h⟩
    have nxt : okH l i = true → W tb a17_l0 ⟨[(0, .p (.slice b (htRow l))), (3, .p (.int .i64 ((i : Int) + 1)))], [], 0, [0]⟩ (LK tb (.ghost .lower a17_l0) K) := fun h => ih (i + 1) (by omega) (upto_step ht h)
    refine i_code (by unfold a17_l0; exact rfl) ?_
    cases hv : vkey l[i].1 with
    | false =>
      repeat' (first | exact ps_r4valid _ (hsz _ h2) | (simp (disch := omega) only [go_sem, seval, reduceCtorEq, h1, h3, h4, hv, htRow_length]) | with_reducible exact Ev.mk | apply x_call | ((first | apply x_split | apply x_splitg) <;> intro hβ hb <;> (simp (disch := omega) only [go_sem, seval, reduceCtorEq, h1, h3, h4, hv, htRow_length, hβ]) <;> clear hβ))
      exact bad (by rw [hok, hv]; rfl) _ rfl
    | true =>
      by_cases c1 : l[i].2 < 1
      · repeat' (first | exact ps_r4valid _ (hsz _ h2) | (simp (disch := omega) only [go_sem, seval, reduceCtorEq, h1, h3, h4, hv, c1, htRow_length]) | with_reducible exact Ev.mk | apply x_call | ((first | apply x_split | apply x_splitg) <;> intro hβ hb <;> (simp (disch := omega) only [go_sem, seval, reduceCtorEq, h1, h3, h4, hv, c1, htRow_length, hβ]) <;> clear hβ))
        exact bad (by rw [hok, hv, decide_eq_false (show ¬ 1 ≤ l[i].2 by omega)]; rfl) _ rfl
      · by_cases c2 : 1099511627776 < l[i].2
        · repeat' (first | exact ps_r4valid _ (hsz _ h2) | (simp (disch := omega) only [go_sem, seval, reduceCtorEq, h1, h3, h4, hv, c1, c2, htRow_length]) | with_reducible exact Ev.mk | apply x_call | ((first | apply x_split | apply x_splitg) <;> intro hβ hb <;> (simp (disch := omega) only [go_sem, seval, reduceCtorEq, h1, h3, h4, hv, c1, c2, htRow_length, hβ]) <;> clear hβ))
          exact bad (by rw [hok, hv, decide_eq_true (show 1 ≤ l[i].2 by omega), decide_eq_false (show ¬ l[i].2 ≤ 1099511627776 by omega)]; rfl) _ rfl
        · have hok2 : okH l i = (decide (i = 0) || slt (l.getD (i - 1) (ByteArray.empty, 0)).1 l[i].1) := by
            rw [hok, hv, decide_eq_true (show 1 ≤ l[i].2 by omega), decide_eq_true (show l[i].2 ≤ 1099511627776 by omega)]; rfl
          by_cases c3 : i = 0
          · have k0 : ¬ (0 : Int) < (i : Int) := by omega
            repeat' (first | exact ps_r4valid _ (hsz _ h2) | (simp (disch := omega) only [go_sem, seval, reduceCtorEq, h1, h3, h4, hv, c1, c2, k0, htRow_length]) | with_reducible exact Ev.mk | apply x_call | ((first | apply x_split | apply x_splitg) <;> intro hβ hb <;> (simp (disch := omega) only [go_sem, seval, reduceCtorEq, h1, h3, h4, hv, c1, c2, k0, htRow_length, hβ]) <;> clear hβ))
            refine i_lk (W_round ?_)
            (try simp (disch := omega) only [go_sem, seval, reduceCtorEq])
            exact nxt (by rw [hok2, decide_eq_true c3]; rfl)
          · have k0 : (0 : Int) < (i : Int) := by omega
            have k1 : (i : Int) - 1 = ((i - 1 : Nat) : Int) := by omega
            have h5 := htRow_get l (i - 1) (by omega)
            have g1 := getD_ht l (i - 1) (by omega)
            rw [g1, decide_eq_false c3, Bool.false_or] at hok2
            have k2 : (0 : Int) ≤ ((i - 1 : Nat) : Int) := by omega
            cases c4 : slt l[i - 1].1 l[i].1 with
            | false =>
              repeat' (first | exact ps_r4valid _ (hsz _ h2) | (simp (disch := omega) only [go_sem, seval, reduceCtorEq, h1, h3, h4, hv, c1, c2, k0, k1, k2, h5, c4, htRow_length]) | with_reducible exact Ev.mk | apply x_call | ((first | apply x_split | apply x_splitg) <;> intro hβ hb <;> (simp (disch := omega) only [go_sem, seval, reduceCtorEq, h1, h3, h4, hv, c1, c2, k0, k1, k2, h5, c4, htRow_length, hβ]) <;> clear hβ))
              exact bad (by rw [hok2, c4]) _ rfl
            | true =>
              repeat' (first | exact ps_r4valid _ (hsz _ h2) | (simp (disch := omega) only [go_sem, seval, reduceCtorEq, h1, h3, h4, hv, c1, c2, k0, k1, k2, h5, c4, htRow_length]) | with_reducible exact Ev.mk | apply x_call | ((first | apply x_split | apply x_splitg) <;> intro hβ hb <;> (simp (disch := omega) only [go_sem, seval, reduceCtorEq, h1, h3, h4, hv, c1, c2, k0, k1, k2, h5, c4, htRow_length, hβ]) <;> clear hβ))
              refine i_lk (W_round ?_)
              (try simp (disch := omega) only [go_sem, seval, reduceCtorEq])
              exact nxt (by rw [hok2, c4])

theorem ps_rhvalid (l : List Ht) (b : Bool) (hl : l.length ≤ 9223372036854775807) (hsz : ∀ i (h : i < l.length), l[i].1.size ≤ 9223372036854775807) : PS tb 17 [.slice b (htRow l)] (.bool (validH l)) := by
  refine PS_of (af := a17) rfl rfl ?_
  unfold a17
  dsimp only [List.map, ofPV, initEnv]
  repeat' (first | (simp (disch := omega) only [go_sem, seval, reduceCtorEq]) | with_reducible exact Ev.mk | ((first | apply x_split | apply x_splitg) <;> intro hβ hb <;> (simp (disch := omega) only [go_sem, seval, reduceCtorEq, hβ]) <;> clear hβ))
  refine W_round ?_
  (try simp (disch := omega) only [go_sem, seval, reduceCtorEq])
  refine l_rhvalid l b hl hsz _ ?_ ?_ l.length 0 (by omega) (by simp)
  · intro ha
    have e : validH l = decide ((l.length : Int) ≤ 32) := by
      unfold validH
      rw [all_range.2 ha, Bool.true_and]
      exact decide_eq_decide.2 (by omega)
    repeat' (first | (simp (disch := omega) only [go_sem, seval, reduceCtorEq, htRow_length]) | with_reducible exact Ev.mk | ((first | apply x_split | apply x_splitg) <;> intro hβ hb <;> (simp (disch := omega) only [go_sem, seval, reduceCtorEq, htRow_length, hβ]) <;> clear hβ))
    all_goals simp [pur, dep, e]
  · rintro ⟨j, hj, h⟩ s' hs
    have e : validH l = false := by unfold validH; rw [all_rangeF hj h]; rfl
    (try simp (disch := omega) only [go_sem, seval, reduceCtorEq, hs])
    simp [pur, dep, e]

theorem validH_len {l : List Ht} (h : validH l = true) : l.length ≤ 32 := by
  unfold validH at h
  simp only [Bool.and_eq_true, decide_eq_true_eq] at h
  exact h.2

/-! ### equal lists -/

theorem l_hsame (l : List Ht) (b d : Bool) (hl : l.length ≤ 9223372036854775807) (K : Ex → St → Prop) (hx : K (.exit 0) ⟨[], [], 0, [0]⟩) : ∀ (m i : Nat), i + m = l.length →
    W tb a7_l0 ⟨[(0, .p (.slice b (htRow l))), (1, .p (.slice d (htRow l))), (5, .p (.int .i64 i))], [], 0, [0]⟩ (LK tb (.ghost .lower a7_l0) K) := by
  intro m
  induction m with
  | zero =>
    intro i hi
    have h1 : ¬ (i : Int) < l.length := by omega
    refine i_code (by unfold a7_l0; exact rfl) ?_
    repeat' (first | (simp (disch := omega) only [go_sem, seval, reduceCtorEq, h1, htRow_length]) | with_reducible exact Ev.mk | ((first | apply x_split | apply x_splitg) <;> intro hβ hb <;> (simp (disch := omega) only [go_sem, seval, reduceCtorEq, h1, htRow_length, hβ]) <;> clear hβ))
    exact hx
  | succ m ih =>
    intro i hi
    have h1 : (i : Int) < l.length := by omega
    have h2 : i < l.length := by omega
    have h4 : (0 : Int) ≤ i := by omega
    have h3 := htRow_get l i h2
    refine i_code (by unfold a7_l0; exact rfl) ?_
    repeat' (first | (simp (disch := omega) only [go_sem, seval, reduceCtorEq, h1, h3, h4, htRow_length]) | with_reducible exact Ev.mk | ((first | apply x_split | apply x_splitg) <;> intro hβ hb <;> (simp (disch := omega) only [go_sem, seval, reduceCtorEq, h1, h3, h4, htRow_length, hβ]) <;> clear hβ))
    refine i_lk (W_round ?_)
    (try simp (disch := omega) only [go_sem, seval, reduceCtorEq])
    exact ih (i + 1) (by omega)

theorem ps_hsame (l : List Ht) (b d : Bool) (hl : l.length ≤ 9223372036854775807) : PS tb 7 [.slice b (htRow l), .slice d (htRow l)] (.bool true) := by
  refine PS_of (af := a7) rfl rfl ?_
  unfold a7
  dsimp only [List.map, ofPV, initEnv]
  have e : ((l.length : Int) != (l.length : Int)) = false := by simp
  repeat' (first | (simp (disch := omega) only [go_sem, seval, reduceCtorEq, htRow_length, e]) | with_reducible exact Ev.mk | ((first | apply x_split | apply x_splitg) <;> intro hβ hb <;> (simp (disch := omega) only [go_sem, seval, reduceCtorEq, htRow_length, e, hβ]) <;> clear hβ))
  refine W_round ?_
  (try simp (disch := omega) only [go_sem, seval, reduceCtorEq])
  refine l_hsame l b d hl _ ?_ l.length 0 (by omega)
  (try simp (disch := omega) only [go_sem, seval, reduceCtorEq])

/-! ### hot keys -/

def hotL (l : List Ht) (a : Int) : List ByteArray := (l.filter fun h => decide (a ≤ h.2)).map (·.1)
theorem hotL_step (l : List Ht) (a : Int) (i : Nat) (h : i < l.length) : hotL (l.take (i + 1)) a = if a ≤ l[i].2 then hotL (l.take i) a ++ [l[i].1] else hotL (l.take i) a := by
  unfold hotL
  rw [List.take_add_one, List.getElem?_eq_getElem h]
  simp only [Option.toList, List.filter_append, List.map_append]
  split
  · rename_i h'; simp [List.filter_cons, h']
  · rename_i h'; simp [List.filter_cons, h']
theorem hotL_len (l : List Ht) (a : Int) : (hotL l a).length ≤ l.length := by
  unfold hotL; rw [List.length_map]; exact List.length_filter_le _ _
theorem strRow_snoc (l : List ByteArray) (x : ByteArray) : strRow l ++ [[.str x]] = strRow (l ++ [x]) := by simp [strRow]
theorem sz1 (a : PV) : allSz 1 [[a]] = true := rfl
theorem sz2 (a b : PV) : allSz 2 [[a, b]] = true := rfl

def hotF (l : List Ht) (a : Int) : List ByteArray := if validH l then hotL l a else []


/-! ## H3 -/

/-! ### valid lists ascend -/

theorem validH_at {l : List Ht} (h : validH l = true) {i : Nat} (hi : i < l.length) : vkey l[i].1 = true ∧ 1 ≤ l[i].2 ∧ l[i].2 ≤ 1099511627776 ∧ ∀ j (hj : j + 1 = i), slt (l[j]'(by omega)).1 l[i].1 = true := by
  unfold validH at h
  simp only [Bool.and_eq_true, decide_eq_true_eq] at h
  have ho := all_range.1 h.1 i hi
  rw [okH_eq l i hi] at ho
  simp only [Bool.and_eq_true, Bool.or_eq_true, decide_eq_true_eq] at ho
  refine ⟨ho.1.1.1, ho.1.1.2, ho.1.2, fun j hj => ?_⟩
  rcases ho.2 with e | e
  · omega
  · have e2 : i - 1 = j := by omega
    rw [e2, getD_ht l j (by omega)] at e
    exact e

theorem validH_asc {l : List Ht} (h : validH l = true) : ∀ (d i : Nat) (hj : i + d + 1 < l.length), slt (l[i]'(by omega)).1 l[i + d + 1].1 = true
  | 0, i, hj => (validH_at h hj).2.2.2 i rfl
  | d + 1, i, hj => slt_trans (validH_asc h d i (by omega)) ((validH_at h (i := i + (d + 1) + 1) hj).2.2.2 (i + d + 1) rfl)

/-- Keys strictly ascend. -/
def AscK (l : List Ht) : Prop := l.Pairwise fun x y => slt x.1 y.1 = true
theorem ascK_of {l : List Ht} (h : validH l = true) : AscK l := by
  unfold AscK
  rw [List.pairwise_iff_getElem]
  intro i j hi hj hij
  obtain ⟨d, rfl⟩ : ∃ d, j = i + d + 1 := ⟨j - i - 1, by omega⟩
  exact validH_asc h d i hj

/-! ### the loop of the statement -/

theorem hotL_mono (l : List Ht) {a c : Int} (h : a ≤ c) : hotL (l.filter fun x => decide (a ≤ x.2)) c = hotL l c := by
  unfold hotL
  rw [List.filter_filter]
  congr 1
  apply List.filter_congr
  intro x _
  by_cases hc : c ≤ x.2
  · have : a ≤ x.2 := by omega
    simp [hc, this]
  · simp [hc]

theorem hotL_split (X : List Ht) (c : Int) (i : Nat) : hotL X c = hotL (X.take i) c ++ hotL (X.drop i) c := by
  unfold hotL
  rw [← List.map_append, ← List.filter_append, List.take_append_drop]

theorem hot_match {X : List Ht} (hX : AscK X) (c : Int) (i : Nat) (hi : i < X.length) (hlt : (hotL (X.take i) c).length < (hotL X c).length) :
    decide (X[i].1 = (hotL X c)[(hotL (X.take i) c).length]) = decide (c ≤ X[i].2) := by
  have hd : X.drop i = X[i] :: X.drop (i + 1) := List.drop_eq_getElem_cons hi
  have e : (hotL X c)[(hotL (X.take i) c).length]? = (hotL (X.drop i) c)[0]? := by
    have e0 := hotL_split X c i
    rw [e0, List.getElem?_append_right (Nat.le_refl _), Nat.sub_self]
  rw [List.getElem?_eq_getElem hlt] at e
  by_cases h : c ≤ X[i].2
  · have e2 : (hotL (X.drop i) c)[0]? = some X[i].1 := by
      unfold hotL; rw [hd, List.filter_cons_of_pos (by simpa using h)]; rfl
    rw [e2] at e
    have := Option.some.inj e
    rw [this]
    simp [h]
  · have hne : X[i].1 ≠ (hotL X c)[(hotL (X.take i) c).length] := by
      intro he
      have e2 : hotL (X.drop i) c = hotL (X.drop (i + 1)) c := by
        unfold hotL; rw [hd, List.filter_cons_of_neg (by simpa using h)]
      rw [e2] at e
      have hm := List.mem_of_getElem? e.symm
      unfold hotL at hm
      obtain ⟨y, hy, hye⟩ := List.mem_map.1 hm
      have hy2 := (List.mem_filter.1 hy).1
      have hp : (X[i] :: X.drop (i + 1)).Pairwise fun x y => slt x.1 y.1 = true := by
        rw [← hd]; exact List.Pairwise.sublist (List.drop_sublist _ _) hX
      have := (List.pairwise_cons.1 hp).1 y hy2
      exact slt_ne this (by rw [hye]; exact he)
    rw [decide_eq_false hne, decide_eq_false h]

theorem hot_cnt {X : List Ht} (c : Int) (i : Nat) (hi : i < X.length) : (hotL (X.take (i + 1)) c).length = if c ≤ X[i].2 then (hotL (X.take i) c).length + 1 else (hotL (X.take i) c).length := by
  rw [hotL_step X c i hi]
  split
  · simp
  · rfl

theorem examples34_run : (cfs tb.A tb.X 14).pure 9 [] = some (.bool true) := by kernel_rfl
theorem ps_examples34 : PS tb 9 [] (.bool true) := ⟨14, examples34_run⟩

/-! ### what comes in -/

theorem fit_rowsH {α : Type} {sh : List Go.Dv.Sh} {y : PV} {c : α → List PV} {P : α → Prop} (hc : ∀ u, Fits sh u → ∃ a, u = c a ∧ P a) (h : Fit (.slice sh) y) : ∃ l : List α, y = .slice false (l.map c) ∧ l.length ≤ 9223372036854775807 ∧ ∀ a ∈ l, P a := by
  cases h with
  | slice l xs h hl hr =>
    have : ∀ xs : List (List PV), (∀ x ∈ xs, Fits sh x) → ∃ l : List α, xs = l.map c ∧ ∀ a ∈ l, P a := by
      intro xs
      induction xs with
      | nil => intro _; exact ⟨[], rfl, by simp⟩
      | cons x xs ih =>
        intro hx
        obtain ⟨n, hn, hp⟩ := hc x (hx x (by simp))
        obtain ⟨l, hl, hq⟩ := ih fun y hy => hx y (by simp [hy])
        exact ⟨n :: l, by rw [hn, hl]; rfl, fun a ha => by rcases List.mem_cons.1 ha with rfl | e; exact hp; exact hq a e⟩
    obtain ⟨l, e, hp⟩ := this xs fun x hx => ⟨hl x hx, fun j s y h1 h2 => by
      obtain ⟨i, hi⟩ := List.mem_iff_getElem?.1 hx
      exact hr i x j s y hi h1 h2⟩
    refine ⟨l, by rw [e], ?_, hp⟩
    rw [e] at h
    simpa [maxLen] using h

theorem fit_intH {y : PV} (h : Fit (.int .i64) y) : ∃ n, y = .int .i64 n ∧ -9223372036854775808 ≤ n ∧ n ≤ 9223372036854775807 := by
  cases h with
  | int k n h =>
    refine ⟨n, rfl, ?_⟩
    simp [Lit.wf, IntKind.min, IntKind.max, IntKind.signed, IntKind.bits] at h
    omega

theorem fit_heats {y : PV} (h : Fit (.slice [.str, .int .i64]) y) : ∃ l : List Ht, y = .slice false (htRow l) ∧ l.length ≤ 9223372036854775807 ∧ ∀ i (h : i < l.length), l[i].1.size ≤ 9223372036854775807 := by
  obtain ⟨l, e, hl, hp⟩ := fit_rowsH (c := htC) (P := fun a => a.1.size ≤ 9223372036854775807) (fun u h => by
    obtain ⟨y0, u0, rfl, e0, h⟩ := h.cons
    obtain ⟨y1, u1, rfl, e1, h⟩ := h.cons
    have hn := h.nil
    subst hn
    obtain ⟨n1, rfl, _⟩ := fit_intH e1
    cases e0 with
    | str s hs => exact ⟨(s, n1), rfl, by simpa [maxLen] using hs⟩) h
  exact ⟨l, e, hl, fun i hi => hp _ (List.getElem_mem hi)⟩

theorem hotF_top (l : List Ht) : hotF l 1099511627777 = [] := by
  unfold hotF
  split
  · rename_i h
    unfold hotL
    rw [List.map_eq_nil_iff, List.filter_eq_nil_iff]
    intro x hx
    obtain ⟨i, hi, rfl⟩ := List.getElem_of_mem hx
    have := (validH_at h hi).2.2.1
    simp; omega
  · rfl


/-! ## H4 -/

theorem validH_iff (l : List Ht) : validH l = true ↔ (∀ h ∈ l, vkey h.1 = true ∧ 1 ≤ h.2 ∧ h.2 ≤ 1099511627776) ∧ AscK l ∧ l.length ≤ 32 := by
  constructor
  · intro h
    refine ⟨fun x hx => ?_, ascK_of h, validH_len h⟩
    obtain ⟨i, hi, rfl⟩ := List.getElem_of_mem hx
    have := validH_at h hi
    exact ⟨this.1, this.2.1, this.2.2.1⟩
  · rintro ⟨h1, h2, h3⟩
    unfold validH
    rw [Bool.and_eq_true, decide_eq_true_eq]
    refine ⟨all_range.2 fun i hi => ?_, h3⟩
    rw [okH_eq l i hi]
    obtain ⟨a, b, c⟩ := h1 _ (List.getElem_mem hi)
    rw [a, decide_eq_true b, decide_eq_true c]
    simp only [Bool.true_and, Bool.or_eq_true, decide_eq_true_eq]
    rcases Nat.eq_zero_or_pos i with h0 | h0
    · exact .inl h0
    · right
      rw [getD_ht l (i - 1) (by omega)]
      exact List.pairwise_iff_getElem.1 h2 (i - 1) i (by omega) hi (by omega)

def half (h : Ht) : Ht := (h.1, h.2 / 2)
def decL (l : List Ht) : List Ht := (l.filter fun h => decide (2 ≤ h.2)).map half
def decF (l : List Ht) : List Ht := if validH l then decL l else []
theorem decL_step (l : List Ht) (i : Nat) (h : i < l.length) : decL (l.take (i + 1)) = if 2 ≤ l[i].2 then decL (l.take i) ++ [half l[i]] else decL (l.take i) := by
  unfold decL
  rw [List.take_add_one, List.getElem?_eq_getElem h]
  simp only [Option.toList, List.filter_append, List.map_append]
  split
  · rename_i h'; simp [List.filter_cons, h']
  · rename_i h'; simp [List.filter_cons, h']
theorem decL_len (l : List Ht) : (decL l).length ≤ l.length := by
  unfold decL; rw [List.length_map]; exact List.length_filter_le _ _
theorem htRow_snoc (l : List Ht) (x : Ht) : htRow l ++ [[.str x.1, .int .i64 x.2]] = htRow (l ++ [x]) := by simp [htRow, htC]

theorem decL_valid {l : List Ht} (h : validH l = true) : validH (decL l) = true := by
  obtain ⟨h1, h2, h3⟩ := (validH_iff l).1 h
  refine (validH_iff _).2 ⟨fun x hx => ?_, ?_, Nat.le_trans (decL_len l) h3⟩
  · obtain ⟨y, hy, rfl⟩ := List.mem_map.1 hx
    obtain ⟨hy1, hy2⟩ := List.mem_filter.1 hy
    obtain ⟨a, b, c⟩ := h1 y hy1
    have : 2 ≤ y.2 := by simpa using hy2
    refine ⟨a, ?_, ?_⟩ <;> (show _ ≤ _; simp only [half]; omega)
  · unfold AscK decL
    rw [List.pairwise_map]
    exact List.Pairwise.sublist List.filter_sublist h2

theorem ps_dec1 (h : Ht) (h1 : 1 ≤ h.2) (h2 : h.2 ≤ 1099511627776) : PS tb 27 [.agg (htC h)] (.tuple [.agg [.str h.1, .int .i64 (h.2 / 2)], .bool (decide (2 ≤ h.2))]) := by
  have ht : h.2.tdiv 2 = h.2 / 2 := Int.tdiv_eq_ediv_of_nonneg (by omega)
  have b1 : -9223372036854775808 ≤ h.2 / 2 := by omega
  have b2 : h.2 / 2 ≤ 9223372036854775807 := by omega
  have z : ¬ ((2 : Int) = 0) := by decide
  refine PS_of (af := a27) rfl rfl ?_
  unfold a27
  dsimp only [List.map, ofPV, initEnv, htC]
  repeat' (first | (simp (disch := omega) only [go_sem, seval, reduceCtorEq, ht, b1, b2, z]) | with_reducible exact Ev.mk | ((first | apply x_split | apply x_splitg) <;> intro hβ hb <;> (simp (disch := omega) only [go_sem, seval, reduceCtorEq, ht, b1, b2, z, hβ]) <;> clear hβ))

theorem l_conv2 (l : List Ht) (b : Bool) (hl : l.length ≤ 32) (hc : ∀ x ∈ l, 1 ≤ x.2 ∧ x.2 ≤ 1099511627776) (K : Ex → St → Prop)
    (hx : K (.exit 0) ⟨[(5, .ref 0 (decL l).length 0 (decL l).length)], [(0, .row false 2 (htRow (decL l)))], 1, [0]⟩) : ∀ (m i : Nat), i + m = l.length →
    W tb a26_l0 ⟨[(1, .p (.func 27 [])), (5, .ref 0 (decL (l.take i)).length 0 (decL (l.take i)).length), (10, .p (.slice b (htRow l))), (11, .p (.int .i64 l.length)), (12, .p (.int .i64 i))], [(0, .row false 2 (htRow (decL (l.take i))))], 1, [0]⟩ (LK tb (.ghost (.free [7, 8]) (.ghost .lower a26_l0)) K) := by
  intro m
  induction m with
  | zero =>
    intro i hi
    have h1 : ¬ (i : Int) < l.length := by omega
    have e : i = l.length := by omega
    subst e
    rw [List.take_length]
    refine i_code (by unfold a26_l0; exact rfl) ?_
    repeat' (first | (simp (disch := omega) only [go_sem, seval, reduceCtorEq, h1]) | with_reducible exact Ev.mk | ((first | apply x_split | apply x_splitg) <;> intro hβ hb <;> (simp (disch := omega) only [go_sem, seval, reduceCtorEq, h1, hβ]) <;> clear hβ))
    exact hx
  | succ m ih =>
    intro i hi
    have h1 : (i : Int) < l.length := by omega
    have h2 : i < l.length := by omega
    have h4 : (0 : Int) ≤ i := by omega
    have h3 := htRow_get l i h2
    have st := decL_step l i h2
    have ln := decL_len (l.take i)
    rw [List.length_take] at ln
    have m1 : ((decL (l.take i)).length + 1) * 24 ≤ 140737488355328 := by omega
    have m2 : (decL (l.take i)).length + 1 ≤ 140737488355328 := by omega
    obtain ⟨c1, c2⟩ := hc _ (List.getElem_mem h2)
    have q := ps_dec1 l[i] c1 c2
    simp only [htC] at q
    have sn := htRow_snoc (decL (l.take i)) (half l[i])
    simp only [half] at sn st
    have ihk := ih (i + 1) (by omega)
    rw [st] at ihk
    refine i_code (by unfold a26_l0; exact rfl) ?_
    by_cases c : 2 ≤ l[i].2
    · rw [if_pos c, List.length_append] at ihk
      simp only [List.length_cons, List.length_nil] at ihk
      repeat' (first | exact q | (simp (disch := omega) only [go_sem, seval, reduceCtorEq, h1, h3, h4, c, sn, htRow_length, sz2, m1, m2, maxBytes]) | with_reducible exact Ev.mk | apply x_call | ((first | apply x_split | apply x_splitg) <;> intro hβ hb <;> (simp (disch := omega) only [go_sem, seval, reduceCtorEq, h1, h3, h4, c, sn, htRow_length, sz2, m1, m2, maxBytes, hβ]) <;> clear hβ))
      refine i_lk (W_round ?_)
      (try simp (disch := omega) only [go_sem, seval, reduceCtorEq])
      exact ihk
    · rw [if_neg c] at ihk
      repeat' (first | exact q | (simp (disch := omega) only [go_sem, seval, reduceCtorEq, h1, h3, h4, c, sn, htRow_length, sz2, m1, m2, maxBytes]) | with_reducible exact Ev.mk | apply x_call | ((first | apply x_split | apply x_splitg) <;> intro hβ hb <;> (simp (disch := omega) only [go_sem, seval, reduceCtorEq, h1, h3, h4, c, sn, htRow_length, sz2, m1, m2, maxBytes, hβ]) <;> clear hβ))
      refine i_lk (W_round ?_)
      (try simp (disch := omega) only [go_sem, seval, reduceCtorEq])
      exact ihk

theorem ps_conv2 (l : List Ht) (b : Bool) (hl : l.length ≤ 32) (hc : ∀ x ∈ l, 1 ≤ x.2 ∧ x.2 ≤ 1099511627776) : PS tb 26 [.slice b (htRow l), .func 27 []] (.slice false (htRow (decL l))) := by
  have e0 : decL (l.take 0) = [] := rfl
  refine PS_of (af := a26) rfl rfl ?_
  unfold a26
  dsimp only [List.map, ofPV, initEnv]
  repeat' (first | (simp (disch := omega) only [go_sem, seval, reduceCtorEq, htRow_length]) | with_reducible exact Ev.mk | ((first | apply x_split | apply x_splitg) <;> intro hβ hb <;> (simp (disch := omega) only [go_sem, seval, reduceCtorEq, htRow_length, hβ]) <;> clear hβ))
  refine W_round ?_
  (try simp (disch := omega) only [go_sem, seval, reduceCtorEq])
  have key := fun K hx => l_conv2 l b hl hc K hx l.length 0 (by omega)
  rw [e0] at key
  refine key _ ?_
  have ht : (decL l).take (decL l).length = decL l := List.take_length
  repeat' (first | (simp (disch := omega) only [go_sem, seval, reduceCtorEq, htRow_length]) | with_reducible exact Ev.mk | ((first | apply x_split | apply x_splitg) <;> intro hβ hb <;> (simp (disch := omega) only [go_sem, seval, reduceCtorEq, htRow_length, hβ]) <;> clear hβ))
  all_goals simp [pur, dep, htRow_length, htRow_take, ht]

theorem ps_decay (l : List Ht) (b : Bool) (hl : l.length ≤ 9223372036854775807) : PS tb 10 [.slice b (htRow l)] (.slice (!validH l) (htRow (decF l))) := by
  refine PS_of (af := a10) rfl rfl ?_
  unfold a10
  dsimp only [List.map, ofPV, initEnv]
  have q := ps_hvalid l b hl
  cases c : validH l with
  | false =>
    rw [c] at q
    repeat' (first | exact q | (simp (disch := omega) only [go_sem, seval, reduceCtorEq]) | with_reducible exact Ev.mk | apply x_call | ((first | apply x_split | apply x_splitg) <;> intro hβ hb <;> (simp (disch := omega) only [go_sem, seval, reduceCtorEq, hβ]) <;> clear hβ))
    all_goals simp [pur, dep, decF, c, htRow]
  | true =>
    rw [c] at q
    have hv := (validH_iff l).1 c
    have q2 := ps_conv2 l b (validH_len c) (fun x hx => (hv.1 x hx).2)
    repeat' (first | exact q | exact q2 | (simp (disch := omega) only [go_sem, seval, reduceCtorEq]) | with_reducible exact Ev.mk | apply x_call | ((first | apply x_split | apply x_splitg) <;> intro hβ hb <;> (simp (disch := omega) only [go_sem, seval, reduceCtorEq, hβ]) <;> clear hβ))
    all_goals simp [pur, dep, decF, c]

/-! ### many times -/

def decN (l : List Ht) : Nat → List Ht
  | 0 => l
  | n + 1 => decF (decN l n)

theorem decF_step {l : List Ht} {n : Nat} (h : ∀ x ∈ l, x.2 * 2 ^ n ≤ 1099511627776) : validH (decF l) = true ∧ ∀ x ∈ decF l, x.2 * 2 ^ (n + 1) ≤ 1099511627776 := by
  unfold decF
  cases hv : validH l with
  | false =>
    refine ⟨rfl, fun x hx => ?_⟩
    simp at hx
  | true =>
    simp only [if_true]
    refine ⟨decL_valid hv, fun x hx => ?_⟩
    obtain ⟨y, hy, rfl⟩ := List.mem_map.1 hx
    obtain ⟨hy1, _⟩ := List.mem_filter.1 hy
    have h1 := h y hy1
    have h2 : y.2 / 2 * 2 ≤ y.2 := Int.ediv_mul_le _ (by decide)
    have e : (half y).2 * 2 ^ (n + 1) = (y.2 / 2 * 2) * 2 ^ n := by
      show y.2 / 2 * 2 ^ (n + 1) = _
      rw [Int.pow_succ, Int.mul_assoc]; congr 1; exact Int.mul_comm _ _
    rw [e]
    exact Int.le_trans (Int.mul_le_mul_of_nonneg_right h2 (Int.le_of_lt (Int.pow_pos (by decide)))) h1

theorem decF_one (l : List Ht) : validH (decF l) = true ∧ ∀ x ∈ decF l, x.2 * 2 ^ 1 ≤ 1099511627776 := by
  cases hv : validH l with
  | false =>
    unfold decF
    rw [hv]
    exact ⟨rfl, fun x hx => by simp at hx⟩
  | true => exact decF_step (n := 0) fun x hx => by simpa using (((validH_iff l).1 hv).1 x hx).2.2

theorem decN_fades (l : List Ht) : ∀ n, validH (decN l (n + 1)) = true ∧ ∀ x ∈ decN l (n + 1), x.2 * 2 ^ (n + 1) ≤ 1099511627776
  | 0 => decF_one l
  | n + 1 => decF_step (decN_fades l n).2

theorem decN_gone (l : List Ht) {n : Nat} (h : 41 ≤ n) : decN l n = [] := by
  obtain ⟨k, rfl⟩ : ∃ k, n = k + 1 := ⟨n - 1, by omega⟩
  obtain ⟨h1, h2⟩ := decN_fades l k
  apply List.eq_nil_iff_forall_not_mem.2
  intro x hx
  have h3 := h2 x hx
  have h4 := (((validH_iff _).1 h1).1 x hx).2.1
  have h5 : (2 : Int) ^ 41 ≤ 2 ^ (k + 1) := by
    have : (2 : Nat) ^ 41 ≤ 2 ^ (k + 1) := Nat.pow_le_pow_right (by decide) h
    exact_mod_cast this
  have h6 : (1 : Int) * 2 ^ (k + 1) ≤ x.2 * 2 ^ (k + 1) := Int.mul_le_mul_of_nonneg_right h4 (Int.le_of_lt (Int.pow_pos (by decide)))
  have h7 : (2 : Int) ^ 41 = 2199023255552 := by decide
  omega

theorem decN_len (l : List Ht) (hl : l.length ≤ 9223372036854775807) : ∀ n, (decN l n).length ≤ 9223372036854775807
  | 0 => hl
  | n + 1 => by
    have ih := decN_len l hl n
    show (decF (decN l n)).length ≤ _
    unfold decF
    split
    · exact Nat.le_trans (decL_len _) ih
    · simp

theorem dec_cnt {X : List Ht} (i : Nat) (hi : i < X.length) : (decL (X.take (i + 1))).length = if 2 ≤ X[i].2 then (decL (X.take i)).length + 1 else (decL (X.take i)).length := by
  rw [decL_step X i hi]
  split
  · simp
  · rfl

theorem decL_split (X : List Ht) (i : Nat) : decL X = decL (X.take i) ++ decL (X.drop i) := by
  unfold decL
  rw [← List.map_append, ← List.filter_append, List.take_append_drop]

theorem dec_match {X : List Ht} (i : Nat) (hi : i < X.length) (h : 2 ≤ X[i].2) : (decL X)[(decL (X.take i)).length]? = some (half X[i]) := by
  have hd : X.drop i = X[i] :: X.drop (i + 1) := List.drop_eq_getElem_cons hi
  rw [decL_split X i, List.getElem?_append_right (Nat.le_refl _), Nat.sub_self]
  unfold decL
  rw [hd, List.filter_cons_of_pos (by simpa using h)]
  rfl

end Go.Dv.Try
