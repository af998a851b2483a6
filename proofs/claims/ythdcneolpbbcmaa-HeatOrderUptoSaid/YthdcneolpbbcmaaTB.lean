/-
  Specifications: T7.
-/
import Derived.Test.YthdcneolpbbcmaaTA
set_option linter.unusedVariables false
set_option linter.unusedSimpArgs false
set_option maxRecDepth 100000
set_option maxHeartbeats 4000000
namespace Go.Dv.Try
open Go Go.Dv

/-! ## T7 -/

theorem strRow_snocT (l : List ByteArray) (x : ByteArray) : strRow l ++ [[.str x]] = strRow (l ++ [x]) := by simp [strRow]

theorem tchF_twice {l : List Ht} (hv : validH l = true) (a c : List ByteArray) (h : (tchF l (a ++ c)).length ≠ 32) : tchF (tchF l a) c = tchF l (a ++ c) := by
  have hg := ((good_iff l).1 hv).1
  have e1 : tchF l (a ++ c) = cutL (tchL l (a ++ c)) := by unfold tchF; rw [hv]; rfl
  have e2 : tchF l a = cutL (tchL l a) := by unfold tchF; rw [hv]; rfl
  rw [e1, cutL_len (tchL_good hg).1] at h
  have h1 := tchL_app l a c
  have h2 := (tchL_len c (tchL l a)).2
  rw [← h1] at h2
  have e3 : tchF l a = tchL l a := by rw [e2, cutL_all (by omega)]
  have hv2 := tchF_valid l a
  rw [e3] at hv2 ⊢
  rw [e1]
  unfold tchF
  rw [hv2, h1]
  rfl

theorem l_ord0 (L C X : DV) (G1 G0 : List (List PV)) (a : List ByteArray) (b : Bool) (hl : a.length ≤ 1048576) (K : Ex → St → Prop)
    (p0 : ∃ v, L = .p v) (p2 : ∃ v, C = .p v) (p7 : ∃ v, X = .p v)
    (hx : K (.exit 0) ⟨[(0, L), (1, .p (.slice b (strRow a))), (2, C), (7, X), (9, .ref 2 a.reverse.length 0 a.reverse.length)], [(2, .row false 1 (strRow a.reverse)), (1, .row true 1 G1), (0, .row true 1 G0)], 3, [0]⟩) : ∀ (i : Nat), i ≤ a.length → ∀ acc, acc = (a.drop i).reverse →
    W tb a3_l0 ⟨[(0, L), (1, .p (.slice b (strRow a))), (2, C), (7, X), (9, .ref 2 acc.length 0 acc.length), (10, .p (.int .i64 ((i : Int) - 1)))], [(2, .row false 1 (strRow acc)), (1, .row true 1 G1), (0, .row true 1 G0)], 3, [0]⟩ (LK tb (.ghost .lower a3_l0) K) := by
  obtain ⟨v0, rfl⟩ := p0
  obtain ⟨v2, rfl⟩ := p2
  obtain ⟨v7, rfl⟩ := p7
  intro i
  induction i with
  | zero =>
    rintro hi acc rfl
    have h1 : ¬ (0 : Int) ≤ ((0 : Nat) : Int) - 1 := by omega
    rw [List.drop_zero]
    refine i_code (by unfold a3_l0; exact rfl) ?_
    generalize ((0 : Nat) : Int) - 1 = z at *
    repeat' (first | (simp (disch := omega) only [go_sem, seval, reduceCtorEq, h1]) | with_reducible exact Ev.mk | ((first | apply x_split | apply x_splitg) <;> intro hβ hb <;> (simp (disch := omega) only [go_sem, seval, reduceCtorEq, h1, hβ]) <;> clear hβ))
    exact hx
  | succ i ih =>
    rintro hi acc hacc
    have e : ((i + 1 : Nat) : Int) - 1 = (i : Int) := by omega
    rw [e]
    have h2 : i < a.length := by omega
    have h4 : (0 : Int) ≤ i := by omega
    have h3 := strRow_get a i h2
    have st : acc ++ [a[i]] = (a.drop i).reverse := by
      rw [hacc, List.drop_eq_getElem_cons h2, List.reverse_cons]
    have ihk := ih (by omega) _ st
    have hla : acc.length ≤ 1048576 := by rw [hacc]; simp; omega
    simp only [List.length_append, List.length_cons, List.length_nil] at ihk
    refine i_code (by unfold a3_l0; exact rfl) ?_
    repeat' (first | (simp (disch := omega) only [go_sem, seval, reduceCtorEq, h3, h4, strRow_length, strRow_snocT, sz1, maxB]) | with_reducible exact Ev.mk | ((first | apply x_split | apply x_splitg) <;> intro hβ hb <;> (simp (disch := omega) only [go_sem, seval, reduceCtorEq, h3, h4, strRow_length, strRow_snocT, sz1, maxB, hβ]) <;> clear hβ))
    refine i_lk (W_round ?_)
    (try simp (disch := omega) only [go_sem, seval, reduceCtorEq])
    exact ihk

theorem walkHeatOrder {u v w : PV} (h : Fit (.slice [.str, .int .i64]) u) (h' : Fit (.slice [.str]) v) (h'' : Fit (.slice [.str]) w) (y0 : szPV u ≤ 1048576) (y1 : szPV v ≤ 1048576) (y2 : szPV w ≤ 1048576) :
    PS tb 3 [u, v, w] (.bool true) := by
  obtain ⟨l, rfl, hl, hsz⟩ := fit_heats h
  obtain ⟨a, rfl⟩ := fit_strsT h'
  obtain ⟨c, rfl⟩ := fit_strsT h''
  have ha := (sz_strs a (by simp only [szPV] at y1; omega)).1
  have hc := (sz_strs c (by simp only [szPV] at y2; omega)).1
  have e1 : tchF l (c ++ a) = tchF l (a ++ c) := by
    unfold tchF
    split
    · rename_i hv; rw [tchL_comm ((good_iff l).1 hv).1]
    · rfl
  have q1 := ps_touch l (a ++ c) false false hl (by rw [List.length_append]; omega)
  have q2 := ps_touch l (c ++ a) false false hl (by rw [List.length_append]; omega)
  rw [e1] at q2
  have q3 := ps_hvalid l false hl
  have k1 := ps_hsame (tchF l (a ++ c)) (!validH l) (!validH l) (Nat.le_trans (tchF_len _ _) (by omega))
  have q4 := ps_touch l a false false hl (by omega)
  refine PS_of (af := a3) rfl rfl ?_
  unfold a3
  dsimp only [List.map, ofPV, initEnv]
  cases hv : validH l with
  | false =>
    have z : tchF l (a ++ c) = [] := by unfold tchF; rw [hv]; rfl
    rw [hv] at q1 q2 q3 k1
    rw [z] at q1 q2 k1
    repeat' (first | exact q1 | exact q2 | exact q3 | exact k1 | exact ps_examples34 | (simp (disch := omega) only [go_sem, seval, reduceCtorEq, allSz_strRow, strRow_length, strRow_app2, List.nil_append, maxB, List.length_append, strRow_take, strRow_drop, List.drop_zero, takeApp, htRow_nil]) | with_reducible exact Ev.mk | apply x_call | ((first | apply x_split | apply x_splitg) <;> intro hβ hb <;> (simp (disch := omega) only [go_sem, seval, reduceCtorEq, allSz_strRow, strRow_length, strRow_app2, List.nil_append, maxB, List.length_append, strRow_take, strRow_drop, List.drop_zero, takeApp, htRow_nil, hβ]) <;> clear hβ))
    all_goals simp [pur, dep]
  | true =>
    have e2 : tchF l a.reverse = tchF l a := by
      unfold tchF
      rw [tchL_rev ((good_iff l).1 hv).1]
    have q5 := ps_touch l a.reverse false false hl (by rw [List.length_reverse]; omega)
    rw [e2] at q5
    rw [hv] at q1 q2 q3 q4 q5 k1
    repeat' (first | exact q1 | exact q2 | exact q3 | exact k1 | exact ps_examples34 | (simp (disch := omega) only [go_sem, seval, reduceCtorEq, allSz_strRow, strRow_length, strRow_app2, List.nil_append, maxB, List.length_append, strRow_take, strRow_drop, List.drop_zero, takeApp]) | with_reducible exact Ev.mk | apply x_call | ((first | apply x_split | apply x_splitg) <;> intro hβ hb <;> (simp (disch := omega) only [go_sem, seval, reduceCtorEq, allSz_strRow, strRow_length, strRow_app2, List.nil_append, maxB, List.length_append, strRow_take, strRow_drop, List.drop_zero, takeApp, hβ]) <;> clear hβ))
    refine W_round ?_
    (try simp (disch := omega) only [go_sem, seval, reduceCtorEq])
    refine l_ord0 _ _ _ _ _ a false ha _ ⟨_, rfl⟩ ⟨_, rfl⟩ ⟨_, rfl⟩ ?_ a.length (Nat.le_refl _) [] (by simp)
    have k2 := ps_hsame (tchF l a) (!true) (!true) (Nat.le_trans (tchF_len _ _) (by omega))
    have hv2 := tchF_valid l a
    have q6 := ps_touch (tchF l a) c false false (Nat.le_trans (tchF_len _ _) (by omega)) (by omega)
    rw [hv2] at q6
    have ht : a.reverse.take a.length = a.reverse := List.take_of_length_le (by simp)
    by_cases c32 : (tchF l (a ++ c)).length = 32
    · have n1 : (((tchF l (a ++ c)).length : Int) == 32) = true := by rw [c32]; rfl
      repeat' (first | exact q4 | exact q5 | exact k2 | exact ps_examples34 | (simp (disch := omega) only [go_sem, seval, reduceCtorEq, strRow_length, strRow_take, strRow_drop, List.drop_zero, takeAll, ht, htRow_length, n1]) | with_reducible exact Ev.mk | apply x_call | ((first | apply x_split | apply x_splitg) <;> intro hβ hb <;> (simp (disch := omega) only [go_sem, seval, reduceCtorEq, strRow_length, strRow_take, strRow_drop, List.drop_zero, takeAll, ht, htRow_length, n1, hβ]) <;> clear hβ))
      all_goals simp [pur, dep]
    · have n1 : (((tchF l (a ++ c)).length : Int) == 32) = false := by
        rw [beq_eq_false_iff_ne]
        omega
      rw [tchF_twice hv a c c32] at q6
      repeat' (first | exact q4 | exact q5 | exact k1 | exact k2 | exact q6 | exact ps_examples34 | (simp (disch := omega) only [go_sem, seval, reduceCtorEq, strRow_length, strRow_take, strRow_drop, List.drop_zero, takeAll, ht, htRow_length, n1]) | with_reducible exact Ev.mk | apply x_call | ((first | apply x_split | apply x_splitg) <;> intro hβ hb <;> (simp (disch := omega) only [go_sem, seval, reduceCtorEq, strRow_length, strRow_take, strRow_drop, List.drop_zero, takeAll, ht, htRow_length, n1, hβ]) <;> clear hβ))
      all_goals simp [pur, dep]

end Go.Dv.Try
