/-
  Specifications, part H1: counters, valid lists of counters, hot keys, halves.
-/
import Derived.Test.YtknplkihgnfpfaaF1
import Derived.Test.YtknplkihgnfpfaaF2
import Derived.Test.YtknplkihgnfpfaaBridge
set_option linter.unusedVariables false
set_option linter.unusedSimpArgs false
set_option maxRecDepth 100000
set_option maxHeartbeats 4000000
namespace Go.Dv.Try
open Go Go.Dv

abbrev Ht := ByteArray × Int
def htC (h : Ht) : List PV := [.str h.1, .int .i64 h.2]
def htRow (l : List Ht) : List (List PV) := l.map htC
theorem htRow_length (l : List Ht) : (htRow l).length = l.length := by simp [htRow]
theorem htRow_get (l : List Ht) (i : Nat) (h : i < l.length) : (htRow l)[i]? = some [.str l[i].1, .int .i64 l[i].2] := by simp [htRow, htC, h]
theorem htRow_append (l r : List Ht) : htRow l ++ htRow r = htRow (l ++ r) := by simp [htRow]
theorem htRow_take (l : List Ht) (n : Nat) : (htRow l).take n = htRow (l.take n) := by simp [htRow, List.map_take]
theorem htRow_drop (l : List Ht) (n : Nat) : (htRow l).drop n = htRow (l.drop n) := by simp [htRow, List.map_drop]
theorem allSz_htRow (l : List Ht) : allSz 2 (htRow l) = true := by simp [allSz, htRow, htC]
theorem htRow_nil : htRow [] = [] := rfl

/-- The counter at an index is as it must be. -/
def okH (l : List Ht) (i : Nat) : Bool :=
  let h := l.getD i (ByteArray.empty, 0)
  vkey h.1 && decide (1 ≤ h.2) && decide (h.2 ≤ 1099511627776) && (decide (i = 0) || slt (l.getD (i - 1) (ByteArray.empty, 0)).1 h.1)
def validH (l : List Ht) : Bool := (List.range l.length).all (okH l) && decide (l.length ≤ 32)

theorem getD_ht (l : List Ht) (i : Nat) (h : i < l.length) : l.getD i (ByteArray.empty, 0) = l[i] := by
  rw [List.getD_eq_getElem?_getD, List.getElem?_eq_getElem h]; rfl

theorem all_range {n : Nat} {p : Nat → Bool} : (List.range n).all p = true ↔ ∀ j, j < n → p j = true := by
  rw [List.all_eq_true]
  exact ⟨fun h j hj => h j (List.mem_range.2 hj), fun h j hj => h j (List.mem_range.1 hj)⟩
theorem all_rangeF {n : Nat} {p : Nat → Bool} {j : Nat} (hj : j < n) (h : p j = false) : (List.range n).all p = false := by
  rw [List.all_eq_false]
  exact ⟨j, List.mem_range.2 hj, by simp [h]⟩

theorem okH_eq (l : List Ht) (i : Nat) (h : i < l.length) : okH l i = (vkey l[i].1 && decide (1 ≤ l[i].2) && decide (l[i].2 ≤ 1099511627776) && (decide (i = 0) || slt (l.getD (i - 1) (ByteArray.empty, 0)).1 l[i].1)) := by
  unfold okH
  rw [getD_ht l i h]

theorem upto_step {p : Nat → Bool} {i : Nat} (ht : ∀ j, j < i → p j = true) (h : p i = true) : ∀ j, j < i + 1 → p j = true := by
  intro j hj
  rcases Nat.lt_or_ge j i with c | c
  · exact ht j c
  · have e : j = i := by omega
    rw [e]; exact h

theorem l_hvalid (l : List Ht) (b : Bool) (hl : l.length ≤ 9223372036854775807) (K : Ex → St → Prop)
    (hx : (∀ j, j < l.length → okH l j = true) → K (.exit 0) ⟨[(0, .p (.slice b (htRow l)))], [], 0, [0]⟩)
    (hr : (∃ j, j < l.length ∧ okH l j = false) → ∀ s', aget s'.env 2 = some (.p (.bool false)) → K .ret s') : ∀ (m i : Nat), i + m = l.length → (∀ j, j < i → okH l j = true) →
    ∀ (e : Env) (H : Heap) (n : Nat), (e = [(0, .p (.slice b (htRow l))), (5, .p (.slice b (htRow l))), (6, .p (.int .i64 l.length)), (7, .p (.int .i64 i))] ∧ H = [] ∧ n = 0) →
    W tb a17_l0 ⟨e, H, n, [0]⟩ (LK tb (.ghost (.free [4]) (.ghost .lower a17_l0)) K) := by
  intro m
  induction m with
  | zero =>
    rintro i hi ht e H n ⟨rfl, rfl, rfl⟩
    have h1 : ¬ (i : Int) < l.length := by omega
    refine i_code (by unfold a17_l0; exact rfl) ?_
    repeat' (first | (simp (disch := omega) only [go_sem, seval, reduceCtorEq, h1]) | with_reducible exact Ev.mk | ((first | apply x_split | apply x_splitg) <;> intro hβ hb <;> (simp (disch := omega) only [go_sem, seval, reduceCtorEq, h1, hβ]) <;> clear hβ))
    exact hx (fun j hj => ht j (by omega))
  | succ m ih =>
    rintro i hi ht e H n ⟨rfl, rfl, rfl⟩
    have h1 : (i : Int) < l.length := by omega
    have h2 : i < l.length := by omega
    have h4 : (0 : Int) ≤ i := by omega
    have h3 := htRow_get l i h2
    have hok := okH_eq l i h2
    have bad : okH l i = false → ∀ s', aget s'.env 2 = some (.p (.bool false)) → K .ret s' := fun h => hr ⟨i, h2, h⟩
    have nxt : okH l i = true → ∀ e, e = [(0, .p (.slice b (htRow l))), (5, .p (.slice b (htRow l))), (6, .p (.int .i64 l.length)), (7, .p (.int .i64 ((i + 1 : Nat) : Int)))] → W tb a17_l0 ⟨e, [], 0, [0]⟩ (LK tb (.ghost (.free [4]) (.ghost .lower a17_l0)) K) := fun h e he =>
      ih (i + 1) (by omega) (upto_step ht h) e [] 0 ⟨he, rfl, rfl⟩
    refine i_code (by unfold a17_l0; exact rfl) ?_
    cases hv : vkey l[i].1 with
    | false =>
      repeat' (first | exact ps_kvalid _ | (simp (disch := omega) only [go_sem, seval, reduceCtorEq, h1, h3, h4, hv]) | with_reducible exact Ev.mk | apply x_call | ((first | apply x_split | apply x_splitg) <;> intro hβ hb <;> (simp (disch := omega) only [go_sem, seval, reduceCtorEq, h1, h3, h4, hv, hβ]) <;> clear hβ))
      exact bad (by rw [hok, hv]; rfl) _ rfl
    | true =>
      by_cases c1 : l[i].2 < 1
      · repeat' (first | exact ps_kvalid _ | (simp (disch := omega) only [go_sem, seval, reduceCtorEq, h1, h3, h4, hv, c1]) | with_reducible exact Ev.mk | apply x_call | ((first | apply x_split | apply x_splitg) <;> intro hβ hb <;> (simp (disch := omega) only [go_sem, seval, reduceCtorEq, h1, h3, h4, hv, c1, hβ]) <;> clear hβ))
        exact bad (by rw [hok, hv, decide_eq_false (show ¬ 1 ≤ l[i].2 by omega)]; rfl) _ rfl
      · by_cases c2 : 1099511627776 < l[i].2
        · repeat' (first | exact ps_kvalid _ | (simp (disch := omega) only [go_sem, seval, reduceCtorEq, h1, h3, h4, hv, c1, c2]) | with_reducible exact Ev.mk | apply x_call | ((first | apply x_split | apply x_splitg) <;> intro hβ hb <;> (simp (disch := omega) only [go_sem, seval, reduceCtorEq, h1, h3, h4, hv, c1, c2, hβ]) <;> clear hβ))
          exact bad (by rw [hok, hv, decide_eq_true (show 1 ≤ l[i].2 by omega), decide_eq_false (show ¬ l[i].2 ≤ 1099511627776 by omega)]; rfl) _ rfl
        · have hok2 : okH l i = (decide (i = 0) || slt (l.getD (i - 1) (ByteArray.empty, 0)).1 l[i].1) := by
            rw [hok, hv, decide_eq_true (show 1 ≤ l[i].2 by omega), decide_eq_true (show l[i].2 ≤ 1099511627776 by omega)]; rfl
          by_cases c3 : i = 0
          · have k0 : ¬ (0 : Int) < (i : Int) := by omega
            repeat' (first | exact ps_kvalid _ | (simp (disch := omega) only [go_sem, seval, reduceCtorEq, h1, h3, h4, hv, c1, c2, k0]) | with_reducible exact Ev.mk | apply x_call | ((first | apply x_split | apply x_splitg) <;> intro hβ hb <;> (simp (disch := omega) only [go_sem, seval, reduceCtorEq, h1, h3, h4, hv, c1, c2, k0, hβ]) <;> clear hβ))
            refine i_lk (W_round ?_)
            (try simp (disch := omega) only [go_sem, seval, reduceCtorEq])
            exact nxt (by rw [hok2, decide_eq_true c3]; rfl) _ rfl
          · have k0 : (0 : Int) < (i : Int) := by omega
            have k1 : (i : Int) - 1 = ((i - 1 : Nat) : Int) := by omega
            have h5 := htRow_get l (i - 1) (by omega)
            have g1 := getD_ht l (i - 1) (by omega)
            rw [g1, decide_eq_false c3, Bool.false_or] at hok2
            have k2 : (0 : Int) ≤ ((i - 1 : Nat) : Int) := by omega
            cases c4 : slt l[i - 1].1 l[i].1 with
            | false =>
              repeat' (first | exact ps_kvalid _ | (simp (disch := omega) only [go_sem, seval, reduceCtorEq, h1, h3, h4, hv, c1, c2, k0, k1, k2, h5, c4]) | with_reducible exact Ev.mk | apply x_call | ((first | apply x_split | apply x_splitg) <;> intro hβ hb <;> (simp (disch := omega) only [go_sem, seval, reduceCtorEq, h1, h3, h4, hv, c1, c2, k0, k1, k2, h5, c4, hβ]) <;> clear hβ))
              exact bad (by rw [hok2, c4]) _ rfl
            | true =>
              repeat' (first | exact ps_kvalid _ | (simp (disch := omega) only [go_sem, seval, reduceCtorEq, h1, h3, h4, hv, c1, c2, k0, k1, k2, h5, c4]) | with_reducible exact Ev.mk | apply x_call | ((first | apply x_split | apply x_splitg) <;> intro hβ hb <;> (simp (disch := omega) only [go_sem, seval, reduceCtorEq, h1, h3, h4, hv, c1, c2, k0, k1, k2, h5, c4, hβ]) <;> clear hβ))
              refine i_lk (W_round ?_)
              (try simp (disch := omega) only [go_sem, seval, reduceCtorEq])
              exact nxt (by rw [hok2, c4]) _ rfl

theorem ps_hvalid (l : List Ht) (b : Bool) (hl : l.length ≤ 9223372036854775807) : PS tb 17 [.slice b (htRow l)] (.bool (validH l)) := by
  refine PS_of (af := a17) rfl rfl ?_
  unfold a17
  dsimp only [List.map, ofPV, initEnv]
  repeat' (first | (simp (disch := omega) only [go_sem, seval, reduceCtorEq, htRow_length]) | with_reducible exact Ev.mk | ((first | apply x_split | apply x_splitg) <;> intro hβ hb <;> (simp (disch := omega) only [go_sem, seval, reduceCtorEq, htRow_length, hβ]) <;> clear hβ))
  refine W_round ?_
  (try simp (disch := omega) only [go_sem, seval, reduceCtorEq])
  refine l_hvalid l b hl _ ?_ ?_ l.length 0 (by omega) (by simp) _ _ _ ⟨rfl, rfl, rfl⟩
  · intro ha
    have e : validH l = decide ((l.length : Int) ≤ 32) := by
      unfold validH
      rw [all_range.2 ha, Bool.true_and]
      exact decide_eq_decide.2 (by omega)
    repeat' (first | (simp (disch := omega) only [go_sem, seval, reduceCtorEq, htRow_length]) | with_reducible exact Ev.mk | ((first | apply x_split | apply x_splitg) <;> intro hβ hb <;> (simp (disch := omega) only [go_sem, seval, reduceCtorEq, htRow_length, hβ]) <;> clear hβ))
    all_goals simp [pur, dep, e]
  · rintro ⟨j, hj, h⟩ s' hs
    have e : validH l = false := by unfold validH; rw [all_rangeF hj h]; rfl
    (try simp (disch := omega) only [go_sem, seval, reduceCtorEq, hs])
    simp [pur, dep, e]

end Go.Dv.Try
