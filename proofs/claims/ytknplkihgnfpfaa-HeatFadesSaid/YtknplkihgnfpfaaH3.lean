/-
  Specifications, part H3: the second hot keys; the statement on hot keys.
-/
import Derived.Test.YtknplkihgnfpfaaH2
set_option linter.unusedVariables false
set_option linter.unusedSimpArgs false
set_option maxRecDepth 100000
set_option maxHeartbeats 4000000
namespace Go.Dv.Try
open Go Go.Dv

theorem l_rhot (l : List Ht) (b : Bool) (hl : l.length ≤ 32) (a : Int) (K : Ex → St → Prop)
    (hx : K (.exit 0) ⟨[(5, .ref 0 (hotL l a).length 0 (hotL l a).length)], [(0, .row false 1 (strRow (hotL l a)))], 1, [0]⟩) : ∀ (m i : Nat), i + m = l.length →
    W tb a22_l0 ⟨[(0, .p (.slice b (htRow l))), (1, .p (.int .i64 a)), (5, .ref 0 (hotL (l.take i) a).length 0 (hotL (l.take i) a).length), (6, .p (.int .i64 i))], [(0, .row false 1 (strRow (hotL (l.take i) a)))], 1, [0]⟩ (LK tb (.ghost .lower a22_l0) K) := by
  intro m
  induction m with
  | zero =>
    intro i hi
    have h1 : ¬ (i : Int) < l.length := by omega
    have e : i = l.length := by omega
    subst e
    rw [List.take_length]
    refine i_code (by unfold a22_l0; exact rfl) ?_
    repeat' (first | (simp (disch := omega) only [go_sem, seval, reduceCtorEq, h1, htRow_length]) | with_reducible exact Ev.mk | ((first | apply x_split | apply x_splitg) <;> intro hβ hb <;> (simp (disch := omega) only [go_sem, seval, reduceCtorEq, h1, htRow_length, hβ]) <;> clear hβ))
    exact hx
  | succ m ih =>
    intro i hi
    have h1 : (i : Int) < l.length := by omega
    have h2 : i < l.length := by omega
    have h4 : (0 : Int) ≤ i := by omega
    have h3 := htRow_get l i h2
    have st := hotL_step l a i h2
    have ln := hotL_len (l.take i) a
    rw [List.length_take] at ln
    have m1 : ((hotL (l.take i) a).length + 1) * 16 ≤ 140737488355328 := by omega
    have m2 : (hotL (l.take i) a).length + 1 ≤ 140737488355328 := by omega
    have ihk := ih (i + 1) (by omega)
    rw [st] at ihk
    refine i_code (by unfold a22_l0; exact rfl) ?_
    by_cases c : a ≤ l[i].2
    · rw [if_pos c, List.length_append] at ihk
      simp only [List.length_cons, List.length_nil] at ihk
      repeat' (first | (simp (disch := omega) only [go_sem, seval, reduceCtorEq, h1, h3, h4, c, htRow_length, strRow_snoc, strRow_length, sz1, m1, m2, maxBytes]) | with_reducible exact Ev.mk | ((first | apply x_split | apply x_splitg) <;> intro hβ hb <;> (simp (disch := omega) only [go_sem, seval, reduceCtorEq, h1, h3, h4, c, htRow_length, strRow_snoc, strRow_length, sz1, m1, m2, maxBytes, hβ]) <;> clear hβ))
      refine i_lk (W_round ?_)
      (try simp (disch := omega) only [go_sem, seval, reduceCtorEq])
      exact ihk
    · rw [if_neg c] at ihk
      repeat' (first | (simp (disch := omega) only [go_sem, seval, reduceCtorEq, h1, h3, h4, c, htRow_length, strRow_snoc, strRow_length, sz1, m1, m2, maxBytes]) | with_reducible exact Ev.mk | ((first | apply x_split | apply x_splitg) <;> intro hβ hb <;> (simp (disch := omega) only [go_sem, seval, reduceCtorEq, h1, h3, h4, c, htRow_length, strRow_snoc, strRow_length, sz1, m1, m2, maxBytes, hβ]) <;> clear hβ))
      refine i_lk (W_round ?_)
      (try simp (disch := omega) only [go_sem, seval, reduceCtorEq])
      exact ihk

theorem ps_rhot (l : List Ht) (b : Bool) (hl : l.length ≤ 9223372036854775807) (hsz : ∀ i (h : i < l.length), l[i].1.size ≤ 9223372036854775807) (a : Int) : PS tb 22 [.slice b (htRow l), .int .i64 a] (.slice (!validH l) (strRow (hotF l a))) := by
  have e0 : hotL (l.take 0) a = [] := rfl
  refine PS_of (af := a22) rfl rfl ?_
  unfold a22
  dsimp only [List.map, ofPV, initEnv]
  have q := ps_rhvalid l b hl hsz
  cases c : validH l with
  | false =>
    rw [c] at q
    repeat' (first | exact q | (simp (disch := omega) only [go_sem, seval, reduceCtorEq]) | with_reducible exact Ev.mk | apply x_call | ((first | apply x_split | apply x_splitg) <;> intro hβ hb <;> (simp (disch := omega) only [go_sem, seval, reduceCtorEq, hβ]) <;> clear hβ))
    all_goals simp [pur, dep, hotF, c, strRow]
  | true =>
    rw [c] at q
    have hc := validH_len c
    repeat' (first | exact q | (simp (disch := omega) only [go_sem, seval, reduceCtorEq]) | with_reducible exact Ev.mk | apply x_call | ((first | apply x_split | apply x_splitg) <;> intro hβ hb <;> (simp (disch := omega) only [go_sem, seval, reduceCtorEq, hβ]) <;> clear hβ))
    refine W_round ?_
    (try simp (disch := omega) only [go_sem, seval, reduceCtorEq])
    have ht : (hotL l a).take (hotL l a).length = hotL l a := List.take_length
    have key := fun K hx => l_rhot l b hc a K hx l.length 0 (by omega)
    rw [e0] at key
    refine key _ ?_
    repeat' (first | (simp (disch := omega) only [go_sem, seval, reduceCtorEq, strRow_length]) | with_reducible exact Ev.mk | ((first | apply x_split | apply x_splitg) <;> intro hβ hb <;> (simp (disch := omega) only [go_sem, seval, reduceCtorEq, strRow_length, hβ]) <;> clear hβ))
    all_goals simp [pur, dep, hotF, c, strRow_length, strRow_take, ht]

theorem ps_ksame (l : List ByteArray) (b d : Bool) (hl : l.length ≤ 1000) : PS tb 21 [.slice b (strRow l), .slice d (strRow l)] (.bool true) := by
  have q := ps_equal l l b d hl
  rw [decide_eq_true rfl] at q
  refine PS_of (af := a21) rfl rfl ?_
  unfold a21
  dsimp only [List.map, ofPV, initEnv]
  repeat' (first | exact q | (simp (disch := omega) only [go_sem, seval, reduceCtorEq]) | with_reducible exact Ev.mk | apply x_call | ((first | apply x_split | apply x_splitg) <;> intro hβ hb <;> (simp (disch := omega) only [go_sem, seval, reduceCtorEq, hβ]) <;> clear hβ))

/-! ### valid lists ascend -/

theorem validH_at {l : List Ht} (h : validH l = true) {i : Nat} (hi : i < l.length) : vkey l[i].1 = true ∧ 1 ≤ l[i].2 ∧ l[i].2 ≤ 1099511627776 ∧ ∀ j (hj : j + 1 = i), slt (l[j]'(by omega)).1 l[i].1 = true := by
  unfold validH at h
  simp only [Bool.and_eq_true, decide_eq_true_eq] at h
  have ho := all_range.1 h.1 i hi
  rw [okH_eq l i hi] at ho
  simp only [Bool.and_eq_true, Bool.or_eq_true, decide_eq_true_eq] at ho
  refine ⟨ho.1.1.1, ho.1.1.2, ho.1.2, fun j hj => ?_⟩
  rcases ho.2 with e | e
  · omega
  · have e2 : i - 1 = j := by omega
    rw [e2, getD_ht l j (by omega)] at e
    exact e

theorem validH_asc {l : List Ht} (h : validH l = true) : ∀ (d i : Nat) (hj : i + d + 1 < l.length), slt (l[i]'(by omega)).1 l[i + d + 1].1 = true
  | 0, i, hj => (validH_at h hj).2.2.2 i rfl
  | d + 1, i, hj => slt_trans (validH_asc h d i (by omega)) ((validH_at h (i := i + (d + 1) + 1) hj).2.2.2 (i + d + 1) rfl)

/-- Keys strictly ascend. -/
def AscK (l : List Ht) : Prop := l.Pairwise fun x y => slt x.1 y.1 = true
theorem ascK_of {l : List Ht} (h : validH l = true) : AscK l := by
  unfold AscK
  rw [List.pairwise_iff_getElem]
  intro i j hi hj hij
  obtain ⟨d, rfl⟩ : ∃ d, j = i + d + 1 := ⟨j - i - 1, by omega⟩
  exact validH_asc h d i hj

/-! ### the loop of the statement -/

theorem hotL_mono (l : List Ht) {a c : Int} (h : a ≤ c) : hotL (l.filter fun x => decide (a ≤ x.2)) c = hotL l c := by
  unfold hotL
  rw [List.filter_filter]
  congr 1
  apply List.filter_congr
  intro x _
  by_cases hc : c ≤ x.2
  · have : a ≤ x.2 := by omega
    simp [hc, this]
  · simp [hc]

theorem hotL_split (X : List Ht) (c : Int) (i : Nat) : hotL X c = hotL (X.take i) c ++ hotL (X.drop i) c := by
  unfold hotL
  rw [← List.map_append, ← List.filter_append, List.take_append_drop]

theorem hot_match {X : List Ht} (hX : AscK X) (c : Int) (i : Nat) (hi : i < X.length) (hlt : (hotL (X.take i) c).length < (hotL X c).length) :
    decide (X[i].1 = (hotL X c)[(hotL (X.take i) c).length]) = decide (c ≤ X[i].2) := by
  have hd : X.drop i = X[i] :: X.drop (i + 1) := List.drop_eq_getElem_cons hi
  have e : (hotL X c)[(hotL (X.take i) c).length]? = (hotL (X.drop i) c)[0]? := by
    have e0 := hotL_split X c i
    rw [e0, List.getElem?_append_right (Nat.le_refl _), Nat.sub_self]
  rw [List.getElem?_eq_getElem hlt] at e
  by_cases h : c ≤ X[i].2
  · have e2 : (hotL (X.drop i) c)[0]? = some X[i].1 := by
      unfold hotL; rw [hd, List.filter_cons_of_pos (by simpa using h)]; rfl
    rw [e2] at e
    have := Option.some.inj e
    rw [this]
    simp [h]
  · have hne : X[i].1 ≠ (hotL X c)[(hotL (X.take i) c).length] := by
      intro he
      have e2 : hotL (X.drop i) c = hotL (X.drop (i + 1)) c := by
        unfold hotL; rw [hd, List.filter_cons_of_neg (by simpa using h)]
      rw [e2] at e
      have hm := List.mem_of_getElem? e.symm
      unfold hotL at hm
      obtain ⟨y, hy, hye⟩ := List.mem_map.1 hm
      have hy2 := (List.mem_filter.1 hy).1
      have hp : (X[i] :: X.drop (i + 1)).Pairwise fun x y => slt x.1 y.1 = true := by
        rw [← hd]; exact List.Pairwise.sublist (List.drop_sublist _ _) hX
      have := (List.pairwise_cons.1 hp).1 y hy2
      exact slt_ne this (by rw [hye]; exact he)
    rw [decide_eq_false hne, decide_eq_false h]

theorem hot_cnt {X : List Ht} (c : Int) (i : Nat) (hi : i < X.length) : (hotL (X.take (i + 1)) c).length = if c ≤ X[i].2 then (hotL (X.take i) c).length + 1 else (hotL (X.take i) c).length := by
  rw [hotL_step X c i hi]
  split
  · simp
  · rfl

theorem l_hot0 (l : List Ht) (b0 b1 b2 : Bool) (X : List Ht) (hX : AscK X) (hl : X.length ≤ 32) (c : Int) (K : Ex → St → Prop)
    (hx : K (.exit 0) ⟨[(0, .p (.slice b0 (htRow l))), (8, .p (.slice b2 (strRow (hotL X c)))), (9, .p (.int .i64 (hotL X c).length))], [], 0, [0]⟩) : ∀ (m i : Nat), i + m = X.length →
    ∀ z : Int, z = (hotL (X.take i) c).length → W tb a5_l0 ⟨[(0, .p (.slice b0 (htRow l))), (7, .p (.slice b1 (strRow (X.map (·.1))))), (8, .p (.slice b2 (strRow (hotL X c)))), (9, .p (.int .i64 z)), (10, .p (.int .i64 i))], [], 0, [0]⟩ (LK tb (.ghost .lower a5_l0) K) := by
  intro m
  induction m with
  | zero =>
    rintro i hi z rfl
    have h1 : ¬ (i : Int) < X.length := by omega
    have e : i = X.length := by omega
    subst e
    rw [List.take_length]
    refine i_code (by unfold a5_l0; exact rfl) ?_
    repeat' (first | (simp (disch := omega) only [go_sem, seval, reduceCtorEq, h1, strRow_length, List.length_map]) | with_reducible exact Ev.mk | ((first | apply x_split | apply x_splitg) <;> intro hβ hb <;> (simp (disch := omega) only [go_sem, seval, reduceCtorEq, h1, strRow_length, List.length_map, hβ]) <;> clear hβ))
    exact hx
  | succ m ih =>
    rintro i hi z rfl
    have h1 : (i : Int) < X.length := by omega
    have h2 : i < X.length := by omega
    have h4 : (0 : Int) ≤ i := by omega
    have le : (hotL (X.take i) c).length ≤ (hotL X c).length := by rw [hotL_split X c i, List.length_append]; omega
    refine i_code (by unfold a5_l0; exact rfl) ?_
    by_cases h5 : (hotL (X.take i) c).length < (hotL X c).length
    · have h6 : ((hotL (X.take i) c).length : Int) < (hotL X c).length := by omega
      have h7 : (0 : Int) ≤ (hotL (X.take i) c).length := by omega
      have h3 := strRow_get (X.map (·.1)) i (by simpa using h2)
      rw [List.getElem_map] at h3
      have h8 := strRow_get (hotL X c) _ h5
      have hm := hot_match hX c i h2 h5
      have hc := hot_cnt c i h2
      have hle := hotL_len X c
      by_cases h9 : c ≤ X[i].2
      · rw [decide_eq_true h9] at hm
        rw [if_pos h9] at hc
        repeat' (first | (simp (disch := omega) only [go_sem, seval, reduceCtorEq, h1, h3, h4, h6, h7, h8, hm, strRow_length, List.length_map]) | with_reducible exact Ev.mk | ((first | apply x_split | apply x_splitg) <;> intro hβ hb <;> (simp (disch := omega) only [go_sem, seval, reduceCtorEq, h1, h3, h4, h6, h7, h8, hm, strRow_length, List.length_map, hβ]) <;> clear hβ))
        refine i_lk (W_round ?_)
        (try simp (disch := omega) only [go_sem, seval, reduceCtorEq])
        exact ih (i + 1) (by omega) _ (by first | (rw [hc]; done) | (rw [hc]; omega))
      · rw [decide_eq_false h9] at hm
        rw [if_neg h9] at hc
        repeat' (first | (simp (disch := omega) only [go_sem, seval, reduceCtorEq, h1, h3, h4, h6, h7, h8, hm, strRow_length, List.length_map]) | with_reducible exact Ev.mk | ((first | apply x_split | apply x_splitg) <;> intro hβ hb <;> (simp (disch := omega) only [go_sem, seval, reduceCtorEq, h1, h3, h4, h6, h7, h8, hm, strRow_length, List.length_map, hβ]) <;> clear hβ))
        refine i_lk (W_round ?_)
        (try simp (disch := omega) only [go_sem, seval, reduceCtorEq])
        exact ih (i + 1) (by omega) _ (by first | (rw [hc]; done) | (rw [hc]; omega))
    · have h6 : ¬ ((hotL (X.take i) c).length : Int) < (hotL X c).length := by omega
      have e : (hotL (X.take i) c).length = (hotL X c).length := by omega
      rw [e] at h6 ⊢
      repeat' (first | (simp (disch := omega) only [go_sem, seval, reduceCtorEq, h1, h6, strRow_length, List.length_map]) | with_reducible exact Ev.mk | ((first | apply x_split | apply x_splitg) <;> intro hβ hb <;> (simp (disch := omega) only [go_sem, seval, reduceCtorEq, h1, h6, strRow_length, List.length_map, hβ]) <;> clear hβ))
      exact hx

theorem examples34_run : (cfs tb.A tb.X 14).pure 18 [] = some (.bool true) := by kernel_rfl
theorem ps_examples34 : PS tb 18 [] (.bool true) := ⟨14, examples34_run⟩

/-! ### what comes in -/

theorem fit_rowsH {α : Type} {sh : List Go.Dv.Sh} {y : PV} {c : α → List PV} {P : α → Prop} (hc : ∀ u, Fits sh u → ∃ a, u = c a ∧ P a) (h : Fit (.slice sh) y) : ∃ l : List α, y = .slice false (l.map c) ∧ l.length ≤ 9223372036854775807 ∧ ∀ a ∈ l, P a := by
  cases h with
  | slice l xs h hl hr =>
    have : ∀ xs : List (List PV), (∀ x ∈ xs, Fits sh x) → ∃ l : List α, xs = l.map c ∧ ∀ a ∈ l, P a := by
      intro xs
      induction xs with
      | nil => intro _; exact ⟨[], rfl, by simp⟩
      | cons x xs ih =>
        intro hx
        obtain ⟨n, hn, hp⟩ := hc x (hx x (by simp))
        obtain ⟨l, hl, hq⟩ := ih fun y hy => hx y (by simp [hy])
        exact ⟨n :: l, by rw [hn, hl]; rfl, fun a ha => by rcases List.mem_cons.1 ha with rfl | e; exact hp; exact hq a e⟩
    obtain ⟨l, e, hp⟩ := this xs fun x hx => ⟨hl x hx, fun j s y h1 h2 => by
      obtain ⟨i, hi⟩ := List.mem_iff_getElem?.1 hx
      exact hr i x j s y hi h1 h2⟩
    refine ⟨l, by rw [e], ?_, hp⟩
    rw [e] at h
    simpa [maxLen] using h

theorem fit_intH {y : PV} (h : Fit (.int .i64) y) : ∃ n, y = .int .i64 n ∧ -9223372036854775808 ≤ n ∧ n ≤ 9223372036854775807 := by
  cases h with
  | int k n h =>
    refine ⟨n, rfl, ?_⟩
    simp [Lit.wf, IntKind.min, IntKind.max, IntKind.signed, IntKind.bits] at h
    omega

theorem fit_heats {y : PV} (h : Fit (.slice [.str, .int .i64]) y) : ∃ l : List Ht, y = .slice false (htRow l) ∧ l.length ≤ 9223372036854775807 ∧ ∀ i (h : i < l.length), l[i].1.size ≤ 9223372036854775807 := by
  obtain ⟨l, e, hl, hp⟩ := fit_rowsH (c := htC) (P := fun a => a.1.size ≤ 9223372036854775807) (fun u h => by
    obtain ⟨y0, u0, rfl, e0, h⟩ := h.cons
    obtain ⟨y1, u1, rfl, e1, h⟩ := h.cons
    have hn := h.nil
    subst hn
    obtain ⟨n1, rfl, _⟩ := fit_intH e1
    cases e0 with
    | str s hs => exact ⟨(s, n1), rfl, by simpa [maxLen] using hs⟩) h
  exact ⟨l, e, hl, fun i hi => hp _ (List.getElem_mem hi)⟩

theorem hotF_top (l : List Ht) : hotF l 1099511627777 = [] := by
  unfold hotF
  split
  · rename_i h
    unfold hotL
    rw [List.map_eq_nil_iff, List.filter_eq_nil_iff]
    intro x hx
    obtain ⟨i, hi, rfl⟩ := List.getElem_of_mem hx
    have := (validH_at h hi).2.2.1
    simp; omega
  · rfl

theorem walkHeatHot {u v w : PV} (h : Fit (.slice [.str, .int .i64]) u) (h' : Fit (.int .i64) v) (h'' : Fit (.int .i64) w) : PS tb 5 [u, v, w] (.bool true) := by
  obtain ⟨l, rfl, hl, hsz⟩ := fit_heats h
  obtain ⟨a, rfl, _⟩ := fit_intH h'
  obtain ⟨c, rfl, _⟩ := fit_intH h''
  obtain ⟨mn, e1⟩ : ∃ mn, (if c < a then c else a) = mn := ⟨_, rfl⟩
  obtain ⟨mx, e2⟩ : ∃ mx, (if a < c then c else a) = mx := ⟨_, rfl⟩
  have hle : mn ≤ mx := by rw [← e1, ← e2]; split <;> split <;> omega
  have hx32 : (hotF l mn).length ≤ 32 ∧ (hotF l mx).length ≤ 32 := by
    constructor <;>
    · unfold hotF
      split
      · rename_i hv; exact Nat.le_trans (hotL_len _ _) (validH_len hv)
      · simp
  obtain ⟨X, hX, hXl, f1, f2⟩ : ∃ X, AscK X ∧ X.length ≤ 32 ∧ hotF l mn = X.map (·.1) ∧ hotF l mx = hotL X mx := by
    cases hv : validH l with
    | true =>
      refine ⟨l.filter fun x => decide (mn ≤ x.2), List.Pairwise.sublist List.filter_sublist (ascK_of hv), Nat.le_trans (List.length_filter_le _ _) (validH_len hv), ?_, ?_⟩
      · unfold hotF; rw [if_pos hv]; rfl
      · unfold hotF; rw [if_pos hv, hotL_mono l hle]
    | false =>
      refine ⟨[], List.Pairwise.nil, by simp, ?_, ?_⟩
      · unfold hotF; rw [if_neg (by rw [hv]; decide)]; rfl
      · unfold hotF; rw [if_neg (by rw [hv]; decide)]; rfl
  have q1 := ps_hot l false hl mn
  have q2 := ps_hot l false hl mx
  have q3 := ps_rhot l false hl hsz mn
  have q4 := ps_rhot l false hl hsz mx
  have q5 := ps_hot l false hl 1099511627777
  rw [hotF_top] at q5
  have k1 := fun b d => ps_ksame (hotF l mn) b d (by omega)
  have k2 := fun b d => ps_ksame (hotF l mx) b d (by omega)
  rw [f1] at q1 q3 k1
  rw [f2] at q2 q4 k2
  have g := hotL_len X mx
  have g1 : ¬ (X.length : Int) < (hotL X mx).length := by omega
  have g2 : (((hotL X mx).length : Int) == ((hotL X mx).length : Int)) = true := by simp
  refine PS_of (af := a5) rfl rfl ?_
  unfold a5
  dsimp only [List.map, ofPV, initEnv]
  repeat' (first | exact q1 | exact q2 | exact q3 | exact q4 | exact k1 _ _ | exact k2 _ _ | (simp (disch := omega) only [go_sem, seval, reduceCtorEq, e1, e2, g1, strRow_length, List.length_map]) | with_reducible exact Ev.mk | apply x_call | ((first | apply x_split | apply x_splitg) <;> intro hβ hb <;> (simp (disch := omega) only [go_sem, seval, reduceCtorEq, e1, e2, g1, strRow_length, List.length_map, hβ]) <;> clear hβ))
  refine W_round ?_
  (try simp (disch := omega) only [go_sem, seval, reduceCtorEq])
  refine l_hot0 l false _ _ X hX hXl mx _ ?_ X.length 0 (by omega) 0 (by simp [hotL])
  repeat' (first | exact q5 | exact ps_examples34 | (simp (disch := omega) only [go_sem, seval, reduceCtorEq, g2, strRow_length, strRow_nil]) | with_reducible exact Ev.mk | apply x_call | ((first | apply x_split | apply x_splitg) <;> intro hβ hb <;> (simp (disch := omega) only [go_sem, seval, reduceCtorEq, g2, strRow_length, strRow_nil, hβ]) <;> clear hβ))

end Go.Dv.Try
