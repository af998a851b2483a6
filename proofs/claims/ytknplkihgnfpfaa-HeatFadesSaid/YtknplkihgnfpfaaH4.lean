/-
  Specifications, part H4: halves; the statement on fading.
-/
import Derived.Test.YtknplkihgnfpfaaH3
set_option linter.unusedVariables false
set_option linter.unusedSimpArgs false
set_option maxRecDepth 100000
set_option maxHeartbeats 4000000
namespace Go.Dv.Try
open Go Go.Dv

theorem validH_iff (l : List Ht) : validH l = true ↔ (∀ h ∈ l, vkey h.1 = true ∧ 1 ≤ h.2 ∧ h.2 ≤ 1099511627776) ∧ AscK l ∧ l.length ≤ 32 := by
  constructor
  · intro h
    refine ⟨fun x hx => ?_, ascK_of h, validH_len h⟩
    obtain ⟨i, hi, rfl⟩ := List.getElem_of_mem hx
    have := validH_at h hi
    exact ⟨this.1, this.2.1, this.2.2.1⟩
  · rintro ⟨h1, h2, h3⟩
    unfold validH
    rw [Bool.and_eq_true, decide_eq_true_eq]
    refine ⟨all_range.2 fun i hi => ?_, h3⟩
    rw [okH_eq l i hi]
    obtain ⟨a, b, c⟩ := h1 _ (List.getElem_mem hi)
    rw [a, decide_eq_true b, decide_eq_true c]
    simp only [Bool.true_and, Bool.or_eq_true, decide_eq_true_eq]
    rcases Nat.eq_zero_or_pos i with h0 | h0
    · exact .inl h0
    · right
      rw [getD_ht l (i - 1) (by omega)]
      exact List.pairwise_iff_getElem.1 h2 (i - 1) i (by omega) hi (by omega)

def half (h : Ht) : Ht := (h.1, h.2 / 2)
def decL (l : List Ht) : List Ht := (l.filter fun h => decide (2 ≤ h.2)).map half
def decF (l : List Ht) : List Ht := if validH l then decL l else []
theorem decL_step (l : List Ht) (i : Nat) (h : i < l.length) : decL (l.take (i + 1)) = if 2 ≤ l[i].2 then decL (l.take i) ++ [half l[i]] else decL (l.take i) := by
  unfold decL
  rw [List.take_add_one, List.getElem?_eq_getElem h]
  simp only [Option.toList, List.filter_append, List.map_append]
  split
  · rename_i h'; simp [List.filter_cons, h']
  · rename_i h'; simp [List.filter_cons, h']
theorem decL_len (l : List Ht) : (decL l).length ≤ l.length := by
  unfold decL; rw [List.length_map]; exact List.length_filter_le _ _
theorem htRow_snoc (l : List Ht) (x : Ht) : htRow l ++ [[.str x.1, .int .i64 x.2]] = htRow (l ++ [x]) := by simp [htRow, htC]

theorem decL_valid {l : List Ht} (h : validH l = true) : validH (decL l) = true := by
  obtain ⟨h1, h2, h3⟩ := (validH_iff l).1 h
  refine (validH_iff _).2 ⟨fun x hx => ?_, ?_, Nat.le_trans (decL_len l) h3⟩
  · obtain ⟨y, hy, rfl⟩ := List.mem_map.1 hx
    obtain ⟨hy1, hy2⟩ := List.mem_filter.1 hy
    obtain ⟨a, b, c⟩ := h1 y hy1
    have : 2 ≤ y.2 := by simpa using hy2
    refine ⟨a, ?_, ?_⟩ <;> (show _ ≤ _; simp only [half]; omega)
  · unfold AscK decL
    rw [List.pairwise_map]
    exact List.Pairwise.sublist List.filter_sublist h2

theorem ps_dec1 (h : Ht) (h1 : 1 ≤ h.2) (h2 : h.2 ≤ 1099511627776) : PS tb 55 [.agg (htC h)] (.tuple [.agg [.str h.1, .int .i64 (h.2 / 2)], .bool (decide (2 ≤ h.2))]) := by
  have ht : h.2.tdiv 2 = h.2 / 2 := Int.tdiv_eq_ediv_of_nonneg (by omega)
  have b1 : -9223372036854775808 ≤ h.2 / 2 := by omega
  have b2 : h.2 / 2 ≤ 9223372036854775807 := by omega
  have z : ¬ ((2 : Int) = 0) := by decide
  refine PS_of (af := a55) rfl rfl ?_
  unfold a55
  dsimp only [List.map, ofPV, initEnv, htC]
  repeat' (first | (simp (disch := omega) only [go_sem, seval, reduceCtorEq, ht, b1, b2, z]) | with_reducible exact Ev.mk | ((first | apply x_split | apply x_splitg) <;> intro hβ hb <;> (simp (disch := omega) only [go_sem, seval, reduceCtorEq, ht, b1, b2, z, hβ]) <;> clear hβ))

theorem l_conv2 (l : List Ht) (b : Bool) (hl : l.length ≤ 32) (hc : ∀ x ∈ l, 1 ≤ x.2 ∧ x.2 ≤ 1099511627776) (K : Ex → St → Prop)
    (hx : K (.exit 0) ⟨[(5, .ref 0 (decL l).length 0 (decL l).length)], [(0, .row false 2 (htRow (decL l)))], 1, [0]⟩) : ∀ (m i : Nat), i + m = l.length →
    W tb a54_l0 ⟨[(1, .p (.func 55 [])), (5, .ref 0 (decL (l.take i)).length 0 (decL (l.take i)).length), (10, .p (.slice b (htRow l))), (11, .p (.int .i64 l.length)), (12, .p (.int .i64 i))], [(0, .row false 2 (htRow (decL (l.take i))))], 1, [0]⟩ (LK tb (.ghost (.free [7, 8]) (.ghost .lower a54_l0)) K) := by
  intro m
  induction m with
  | zero =>
    intro i hi
    have h1 : ¬ (i : Int) < l.length := by omega
    have e : i = l.length := by omega
    subst e
    rw [List.take_length]
    refine i_code (by unfold a54_l0; exact rfl) ?_
    repeat' (first | (simp (disch := omega) only [go_sem, seval, reduceCtorEq, h1]) | with_reducible exact Ev.mk | ((first | apply x_split | apply x_splitg) <;> intro hβ hb <;> (simp (disch := omega) only [go_sem, seval, reduceCtorEq, h1, hβ]) <;> clear hβ))
    exact hx
  | succ m ih =>
    intro i hi
    have h1 : (i : Int) < l.length := by omega
    have h2 : i < l.length := by omega
    have h4 : (0 : Int) ≤ i := by omega
    have h3 := htRow_get l i h2
    have st := decL_step l i h2
    have ln := decL_len (l.take i)
    rw [List.length_take] at ln
    have m1 : ((decL (l.take i)).length + 1) * 24 ≤ 140737488355328 := by omega
    have m2 : (decL (l.take i)).length + 1 ≤ 140737488355328 := by omega
    obtain ⟨c1, c2⟩ := hc _ (List.getElem_mem h2)
    have q := ps_dec1 l[i] c1 c2
    simp only [htC] at q
    have sn := htRow_snoc (decL (l.take i)) (half l[i])
    simp only [half] at sn st
    have ihk := ih (i + 1) (by omega)
    rw [st] at ihk
    refine i_code (by unfold a54_l0; exact rfl) ?_
    by_cases c : 2 ≤ l[i].2
    · rw [if_pos c, List.length_append] at ihk
      simp only [List.length_cons, List.length_nil] at ihk
      repeat' (first | exact q | (simp (disch := omega) only [go_sem, seval, reduceCtorEq, h1, h3, h4, c, sn, htRow_length, sz2, m1, m2, maxBytes]) | with_reducible exact Ev.mk | apply x_call | ((first | apply x_split | apply x_splitg) <;> intro hβ hb <;> (simp (disch := omega) only [go_sem, seval, reduceCtorEq, h1, h3, h4, c, sn, htRow_length, sz2, m1, m2, maxBytes, hβ]) <;> clear hβ))
      refine i_lk (W_round ?_)
      (try simp (disch := omega) only [go_sem, seval, reduceCtorEq])
      exact ihk
    · rw [if_neg c] at ihk
      repeat' (first | exact q | (simp (disch := omega) only [go_sem, seval, reduceCtorEq, h1, h3, h4, c, sn, htRow_length, sz2, m1, m2, maxBytes]) | with_reducible exact Ev.mk | apply x_call | ((first | apply x_split | apply x_splitg) <;> intro hβ hb <;> (simp (disch := omega) only [go_sem, seval, reduceCtorEq, h1, h3, h4, c, sn, htRow_length, sz2, m1, m2, maxBytes, hβ]) <;> clear hβ))
      refine i_lk (W_round ?_)
      (try simp (disch := omega) only [go_sem, seval, reduceCtorEq])
      exact ihk

theorem ps_conv2 (l : List Ht) (b : Bool) (hl : l.length ≤ 32) (hc : ∀ x ∈ l, 1 ≤ x.2 ∧ x.2 ≤ 1099511627776) : PS tb 54 [.slice b (htRow l), .func 55 []] (.slice false (htRow (decL l))) := by
  have e0 : decL (l.take 0) = [] := rfl
  refine PS_of (af := a54) rfl rfl ?_
  unfold a54
  dsimp only [List.map, ofPV, initEnv]
  repeat' (first | (simp (disch := omega) only [go_sem, seval, reduceCtorEq, htRow_length]) | with_reducible exact Ev.mk | ((first | apply x_split | apply x_splitg) <;> intro hβ hb <;> (simp (disch := omega) only [go_sem, seval, reduceCtorEq, htRow_length, hβ]) <;> clear hβ))
  refine W_round ?_
  (try simp (disch := omega) only [go_sem, seval, reduceCtorEq])
  have key := fun K hx => l_conv2 l b hl hc K hx l.length 0 (by omega)
  rw [e0] at key
  refine key _ ?_
  have ht : (decL l).take (decL l).length = decL l := List.take_length
  repeat' (first | (simp (disch := omega) only [go_sem, seval, reduceCtorEq, htRow_length]) | with_reducible exact Ev.mk | ((first | apply x_split | apply x_splitg) <;> intro hβ hb <;> (simp (disch := omega) only [go_sem, seval, reduceCtorEq, htRow_length, hβ]) <;> clear hβ))
  all_goals simp [pur, dep, htRow_length, htRow_take, ht]

theorem ps_decay (l : List Ht) (b : Bool) (hl : l.length ≤ 9223372036854775807) : PS tb 19 [.slice b (htRow l)] (.slice (!validH l) (htRow (decF l))) := by
  refine PS_of (af := a19) rfl rfl ?_
  unfold a19
  dsimp only [List.map, ofPV, initEnv]
  have q := ps_hvalid l b hl
  cases c : validH l with
  | false =>
    rw [c] at q
    repeat' (first | exact q | (simp (disch := omega) only [go_sem, seval, reduceCtorEq]) | with_reducible exact Ev.mk | apply x_call | ((first | apply x_split | apply x_splitg) <;> intro hβ hb <;> (simp (disch := omega) only [go_sem, seval, reduceCtorEq, hβ]) <;> clear hβ))
    all_goals simp [pur, dep, decF, c, htRow]
  | true =>
    rw [c] at q
    have hv := (validH_iff l).1 c
    have q2 := ps_conv2 l b (validH_len c) (fun x hx => (hv.1 x hx).2)
    repeat' (first | exact q | exact q2 | (simp (disch := omega) only [go_sem, seval, reduceCtorEq]) | with_reducible exact Ev.mk | apply x_call | ((first | apply x_split | apply x_splitg) <;> intro hβ hb <;> (simp (disch := omega) only [go_sem, seval, reduceCtorEq, hβ]) <;> clear hβ))
    all_goals simp [pur, dep, decF, c]

/-! ### many times -/

def decN (l : List Ht) : Nat → List Ht
  | 0 => l
  | n + 1 => decF (decN l n)

theorem decF_step {l : List Ht} {n : Nat} (h : ∀ x ∈ l, x.2 * 2 ^ n ≤ 1099511627776) : validH (decF l) = true ∧ ∀ x ∈ decF l, x.2 * 2 ^ (n + 1) ≤ 1099511627776 := by
  unfold decF
  cases hv : validH l with
  | false =>
    refine ⟨rfl, fun x hx => ?_⟩
    simp at hx
  | true =>
    simp only [if_true]
    refine ⟨decL_valid hv, fun x hx => ?_⟩
    obtain ⟨y, hy, rfl⟩ := List.mem_map.1 hx
    obtain ⟨hy1, _⟩ := List.mem_filter.1 hy
    have h1 := h y hy1
    have h2 : y.2 / 2 * 2 ≤ y.2 := Int.ediv_mul_le _ (by decide)
    have e : (half y).2 * 2 ^ (n + 1) = (y.2 / 2 * 2) * 2 ^ n := by
      show y.2 / 2 * 2 ^ (n + 1) = _
      rw [Int.pow_succ, Int.mul_assoc]; congr 1; exact Int.mul_comm _ _
    rw [e]
    exact Int.le_trans (Int.mul_le_mul_of_nonneg_right h2 (Int.le_of_lt (Int.pow_pos (by decide)))) h1

theorem decF_one (l : List Ht) : validH (decF l) = true ∧ ∀ x ∈ decF l, x.2 * 2 ^ 1 ≤ 1099511627776 := by
  cases hv : validH l with
  | false =>
    unfold decF
    rw [hv]
    exact ⟨rfl, fun x hx => by simp at hx⟩
  | true => exact decF_step (n := 0) fun x hx => by simpa using (((validH_iff l).1 hv).1 x hx).2.2

theorem decN_fades (l : List Ht) : ∀ n, validH (decN l (n + 1)) = true ∧ ∀ x ∈ decN l (n + 1), x.2 * 2 ^ (n + 1) ≤ 1099511627776
  | 0 => decF_one l
  | n + 1 => decF_step (decN_fades l n).2

theorem decN_gone (l : List Ht) {n : Nat} (h : 41 ≤ n) : decN l n = [] := by
  obtain ⟨k, rfl⟩ : ∃ k, n = k + 1 := ⟨n - 1, by omega⟩
  obtain ⟨h1, h2⟩ := decN_fades l k
  apply List.eq_nil_iff_forall_not_mem.2
  intro x hx
  have h3 := h2 x hx
  have h4 := (((validH_iff _).1 h1).1 x hx).2.1
  have h5 : (2 : Int) ^ 41 ≤ 2 ^ (k + 1) := by
    have : (2 : Nat) ^ 41 ≤ 2 ^ (k + 1) := Nat.pow_le_pow_right (by decide) h
    exact_mod_cast this
  have h6 : (1 : Int) * 2 ^ (k + 1) ≤ x.2 * 2 ^ (k + 1) := Int.mul_le_mul_of_nonneg_right h4 (Int.le_of_lt (Int.pow_pos (by decide)))
  have h7 : (2 : Int) ^ 41 = 2199023255552 := by decide
  omega

theorem decN_len (l : List Ht) (hl : l.length ≤ 9223372036854775807) : ∀ n, (decN l n).length ≤ 9223372036854775807
  | 0 => hl
  | n + 1 => by
    have ih := decN_len l hl n
    show (decF (decN l n)).length ≤ _
    unfold decF
    split
    · exact Nat.le_trans (decL_len _) ih
    · simp

theorem dec_cnt {X : List Ht} (i : Nat) (hi : i < X.length) : (decL (X.take (i + 1))).length = if 2 ≤ X[i].2 then (decL (X.take i)).length + 1 else (decL (X.take i)).length := by
  rw [decL_step X i hi]
  split
  · simp
  · rfl

theorem decL_split (X : List Ht) (i : Nat) : decL X = decL (X.take i) ++ decL (X.drop i) := by
  unfold decL
  rw [← List.map_append, ← List.filter_append, List.take_append_drop]

theorem dec_match {X : List Ht} (i : Nat) (hi : i < X.length) (h : 2 ≤ X[i].2) : (decL X)[(decL (X.take i)).length]? = some (half X[i]) := by
  have hd : X.drop i = X[i] :: X.drop (i + 1) := List.drop_eq_getElem_cons hi
  rw [decL_split X i, List.getElem?_append_right (Nat.le_refl _), Nat.sub_self]
  unfold decL
  rw [hd, List.filter_cons_of_pos (by simpa using h)]
  rfl

theorem l_fade0 (t : Int) (j : Nat) (X : List Ht) (hl : X.length ≤ 9223372036854775807) (b1 b2 : Bool) (K : Ex → St → Prop)
    (hx : K (.exit 2) ⟨[(1, .p (.int .u8 t)), (6, .p (.int .i64 j)), (7, .p (.slice b2 (htRow (decF X)))), (8, .p (.int .i64 (decF X).length))], [], 0, [0]⟩) : ∀ (m i : Nat), i + m = X.length → (validH X = false → i = 0) →
    ∀ z : Int, z = (if validH X then (decL (X.take i)).length else 0 : Nat) → W tb a4_l0 ⟨[(1, .p (.int .u8 t)), (5, .p (.slice b1 (htRow X))), (6, .p (.int .i64 j)), (7, .p (.slice b2 (htRow (decF X)))), (8, .p (.int .i64 z)), (9, .p (.int .i64 i))], [], 0, [0]⟩ (LK tb (.ghost .lower a4_l0) K) := by
  have q := ps_hvalid X b1 hl
  intro m
  induction m with
  | zero =>
    rintro i hi h0 z rfl
    have h1 : ¬ (i : Int) < X.length := by omega
    have e : i = X.length := by omega
    refine i_code (by unfold a4_l0; exact rfl) ?_
    have e2 : (if validH X then (decL (X.take i)).length else 0) = (decF X).length := by
      unfold decF
      cases validH X with
      | true => simp only [if_true]; rw [e, List.take_length]
      | false => rfl
    rw [e2]
    repeat' (first | (simp (disch := omega) only [go_sem, seval, reduceCtorEq, h1, htRow_length]) | with_reducible exact Ev.mk | ((first | apply x_split | apply x_splitg) <;> intro hβ hb <;> (simp (disch := omega) only [go_sem, seval, reduceCtorEq, h1, htRow_length, hβ]) <;> clear hβ))
    exact hx
  | succ m ih =>
    rintro i hi h0 z rfl
    have h1 : (i : Int) < X.length := by omega
    have h2 : i < X.length := by omega
    have h4 : (0 : Int) ≤ i := by omega
    refine i_code (by unfold a4_l0; exact rfl) ?_
    cases hv : validH X with
    | false =>
      rw [hv] at q
      have e2 : (decF X).length = 0 := by unfold decF; rw [hv]; rfl
      rw [e2] at hx
      simp only [Bool.false_eq_true, if_false]
      repeat' (first | exact q | (simp (disch := omega) only [go_sem, seval, reduceCtorEq, h1, htRow_length]) | with_reducible exact Ev.mk | apply x_call | ((first | apply x_split | apply x_splitg) <;> intro hβ hb <;> (simp (disch := omega) only [go_sem, seval, reduceCtorEq, h1, htRow_length, hβ]) <;> clear hβ))
      exact hx
    | true =>
      rw [hv] at q ih
      simp only [if_true] at ih ⊢
      have e3 : decF X = decL X := by unfold decF; rw [hv]; rfl
      rw [e3] at hx ih ⊢
      have h3 := htRow_get X i h2
      have hc := dec_cnt i h2
      have hle : (decL (X.take i)).length ≤ X.length := Nat.le_trans (decL_len _) (by rw [List.length_take]; omega)
      have ihk := ih (i + 1) (by omega) (fun h => by cases h)
      rw [hc] at ihk
      obtain ⟨c1, c2⟩ := (((validH_iff X).1 hv).1 _ (List.getElem_mem h2)).2
      by_cases c : X[i].2 < 2
      · rw [if_neg (by omega)] at ihk
        repeat' (first | exact q | (simp (disch := omega) only [go_sem, seval, reduceCtorEq, h1, h3, h4, c, htRow_length]) | with_reducible exact Ev.mk | apply x_call | ((first | apply x_split | apply x_splitg) <;> intro hβ hb <;> (simp (disch := omega) only [go_sem, seval, reduceCtorEq, h1, h3, h4, c, htRow_length, hβ]) <;> clear hβ))
        refine i_lk (W_round ?_)
        (try simp (disch := omega) only [go_sem, seval, reduceCtorEq])
        exact ihk _ rfl
      · rw [if_pos (by omega)] at ihk
        have hm := dec_match i h2 (by omega)
        have hlt := (List.getElem?_eq_some_iff.1 hm).1
        have h5 : (htRow (decL X))[(decL (X.take i)).length]? = some [.str X[i].1, .int .i64 (X[i].2 / 2)] := by
          have e : (htRow (decL X))[(decL (X.take i)).length]? = ((decL X)[(decL (X.take i)).length]?).map htC := by simp [htRow]
          rw [e, hm]; rfl
        have h6 : ¬ ((decL X).length : Int) ≤ (decL (X.take i)).length := by omega
        have h7 : (0 : Int) ≤ (decL (X.take i)).length := by omega
        have h8 := decL_len X
        have h9 : ((decL (X.take i)).length : Int) + 1 ≤ 9223372036854775807 := by omega
        have ht : X[i].2.tdiv 2 = X[i].2 / 2 := Int.tdiv_eq_ediv_of_nonneg (by omega)
        have b1 : -9223372036854775808 ≤ X[i].2 / 2 := by omega
        have b2 : X[i].2 / 2 ≤ 9223372036854775807 := by omega
        have z2 : ¬ ((2 : Int) = 0) := by decide
        have n1 : (X[i].2 / 2 != X[i].2 / 2) = false := by simp
        have n2 : decide (X[i].1 = X[i].1) = true := by simp
        repeat' (first | exact q | (simp (disch := omega) only [go_sem, seval, reduceCtorEq, h1, h3, h4, c, h5, h6, h7, ht, b1, b2, z2, n1, n2, htRow_length]) | with_reducible exact Ev.mk | apply x_call | ((first | apply x_split | apply x_splitg) <;> intro hβ hb <;> (simp (disch := omega) only [go_sem, seval, reduceCtorEq, h1, h3, h4, c, h5, h6, h7, ht, b1, b2, z2, n1, n2, htRow_length, hβ]) <;> clear hβ))
        refine i_lk (W_round ?_)
        (try simp (disch := omega) only [go_sem, seval, reduceCtorEq])
        exact ihk _ (by omega)

theorem l_fade1 (l : List Ht) (hl : l.length ≤ 9223372036854775807) (t : Nat) (ht : t ≤ 255) (K : Ex → St → Prop)
    (hx : ∀ b, K (.exit 0) ⟨[(1, .p (.int .u8 t)), (5, .p (.slice b (htRow (decN l (t % 45)))))], [], 0, [0]⟩) : ∀ (m i : Nat), i + m = t % 45 → ∀ b,
    W tb a4_l1 ⟨[(1, .p (.int .u8 t)), (5, .p (.slice b (htRow (decN l i)))), (6, .p (.int .i64 i))], [], 0, [0]⟩ (LK tb (.ghost .lower a4_l1) K) := by
  have et : (t : Int).tmod 45 = ((t % 45 : Nat) : Int) := by rw [Int.tmod_eq_emod_of_nonneg (by omega)]; rfl
  have z45 : ¬ ((45 : Int) = 0) := by decide
  intro m
  induction m with
  | zero =>
    intro i hi b
    have h1 : ¬ (i : Int) < ((t % 45 : Nat) : Int) := by omega
    have e : i = t % 45 := by omega
    refine i_code (by unfold a4_l1; exact rfl) ?_
    repeat' (first | (simp (disch := omega) only [go_sem, seval, reduceCtorEq, et, z45, h1]) | with_reducible exact Ev.mk | ((first | apply x_split | apply x_splitg) <;> intro hβ hb <;> (simp (disch := omega) only [go_sem, seval, reduceCtorEq, et, z45, h1, hβ]) <;> clear hβ))
    rw [e]
    exact hx b
  | succ m ih =>
    intro i hi b
    have h1 : (i : Int) < ((t % 45 : Nat) : Int) := by omega
    have hX := decN_len l hl i
    have q := ps_decay (decN l i) b hX
    have ihk := ih (i + 1) (by omega)
    have e3 : decN l (i + 1) = decF (decN l i) := rfl
    rw [e3] at ihk
    refine i_code (by unfold a4_l1; exact rfl) ?_
    repeat' (first | exact q | (simp (disch := omega) only [go_sem, seval, reduceCtorEq, et, z45, h1]) | with_reducible exact Ev.mk | apply x_call | ((first | apply x_split | apply x_splitg) <;> intro hβ hb <;> (simp (disch := omega) only [go_sem, seval, reduceCtorEq, et, z45, h1, hβ]) <;> clear hβ))
    refine W_round ?_
    (try simp (disch := omega) only [go_sem, seval, reduceCtorEq])
    have n1 : (((decF (decN l i)).length : Int) != ((decF (decN l i)).length : Int)) = false := by simp
    refine l_fade0 (t : Int) i (decN l i) hX b _ _ ?_ (decN l i).length 0 (by omega) (fun _ => rfl) 0 (by split <;> rfl)
    repeat' (first | (simp (disch := omega) only [go_sem, seval, reduceCtorEq, n1, htRow_length]) | with_reducible exact Ev.mk | ((first | apply x_split | apply x_splitg) <;> intro hβ hb <;> (simp (disch := omega) only [go_sem, seval, reduceCtorEq, n1, htRow_length, hβ]) <;> clear hβ))
    refine i_lk (W_round ?_)
    (try simp (disch := omega) only [go_sem, seval, reduceCtorEq])
    exact ihk _

theorem walkHeatFades {u v : PV} (h : Fit (.slice [.str, .int .i64]) u) (h' : Fit (.int .u8) v) : PS tb 4 [u, v] (.bool true) := by
  obtain ⟨l, rfl, hl, hsz⟩ := fit_heats h
  have hz : ∃ z : Nat, v = .int .u8 z ∧ z ≤ 255 := by
    cases h' with
    | int k n h =>
      simp [Lit.wf, IntKind.min, IntKind.max, IntKind.signed, IntKind.bits] at h
      exact ⟨n.toNat, by rw [Int.toNat_of_nonneg (by omega)], by omega⟩
  obtain ⟨t, rfl, ht⟩ := hz
  have et : (t : Int).tmod 45 = ((t % 45 : Nat) : Int) := by rw [Int.tmod_eq_emod_of_nonneg (by omega)]; rfl
  have z45 : ¬ ((45 : Int) = 0) := by decide
  refine PS_of (af := a4) rfl rfl ?_
  unfold a4
  dsimp only [List.map, ofPV, initEnv]
  repeat' (first | (simp (disch := omega) only [go_sem, seval, reduceCtorEq]) | with_reducible exact Ev.mk | ((first | apply x_split | apply x_splitg) <;> intro hβ hb <;> (simp (disch := omega) only [go_sem, seval, reduceCtorEq, hβ]) <;> clear hβ))
  refine W_round ?_
  (try simp (disch := omega) only [go_sem, seval, reduceCtorEq])
  refine l_fade1 l hl t ht _ ?_ (t % 45) 0 (by omega) false
  intro b
  by_cases c : ((t % 45 : Nat) : Int) < 41
  · repeat' (first | exact ps_examples34 | (simp (disch := omega) only [go_sem, seval, reduceCtorEq, et, z45, c]) | with_reducible exact Ev.mk | apply x_call | ((first | apply x_split | apply x_splitg) <;> intro hβ hb <;> (simp (disch := omega) only [go_sem, seval, reduceCtorEq, et, z45, c, hβ]) <;> clear hβ))
  · have e : decN l (t % 45) = [] := decN_gone l (by omega)
    rw [e]
    repeat' (first | exact ps_examples34 | (simp (disch := omega) only [go_sem, seval, reduceCtorEq, et, z45, c, htRow_nil]) | with_reducible exact Ev.mk | apply x_call | ((first | apply x_split | apply x_splitg) <;> intro hβ hb <;> (simp (disch := omega) only [go_sem, seval, reduceCtorEq, et, z45, c, htRow_nil, hβ]) <;> clear hβ))

end Go.Dv.Try
