/-
  Specifications, part 7: the functions of footprints.
-/
import Derived.Test.YtlbfmbnmajlhaaaF6
set_option linter.unusedVariables false
set_option linter.unusedSimpArgs false
set_option maxRecDepth 100000
set_option maxHeartbeats 1000000
namespace Go.Dv.Try
open Go Go.Dv

/-! ### search -/

theorem ps_isnan (s : ByteArray) : PS tb 106 [.str s] (.bool false) := by
  refine PS_of (af := a106) rfl rfl ?_
  unfold a106
  dsimp only [List.map, ofPV, initEnv]
  repeat' (first | (simp (disch := omega) only [go_sem, seval, reduceCtorEq]) | ((first | apply x_split_cond | apply x_split_guard); all_goals (intro hb; (try simp only [Bool.not_eq_true', Bool.not_eq_false'] at hb); (simp (disch := omega) only [go_sem, seval, reduceCtorEq, hb]); (try simp only [decide_eq_true_eq, decide_eq_false_iff_not, beq_iff_eq, beq_eq_false_iff_ne, ne_eq, bne_iff_ne, bne_eq_false_iff_eq, Decidable.not_not] at hb))))

theorem ps_isnan2 (s : ByteArray) : PS tb 94 [.str s] (.bool false) := by
  refine PS_of (af := a94) rfl rfl ?_
  unfold a94
  dsimp only [List.map, ofPV, initEnv]
  repeat' (first | (simp (disch := omega) only [go_sem, seval, reduceCtorEq]) | ((first | apply x_split_cond | apply x_split_guard); all_goals (intro hb; (try simp only [Bool.not_eq_true', Bool.not_eq_false'] at hb); (simp (disch := omega) only [go_sem, seval, reduceCtorEq, hb]); (try simp only [decide_eq_true_eq, decide_eq_false_iff_not, beq_iff_eq, beq_eq_false_iff_ne, ne_eq, bne_iff_ne, bne_eq_false_iff_eq, Decidable.not_not] at hb))))

theorem ps_less (a c : ByteArray) : PS tb 93 [.str a, .str c] (.bool (slt a c)) := by
  refine PS_of (af := a93) rfl rfl ?_
  unfold a93
  dsimp only [List.map, ofPV, initEnv]
  repeat' (first | (simp (disch := omega) only [go_sem, seval, reduceCtorEq]) | (apply x_pure; iterate 5 (first | exact ps_isnan _ | ((try simp (disch := omega) only [go_sem, seval, reduceCtorEq]) <;> with_reducible exact rfl))) | ((first | apply x_split_cond | apply x_split_guard); all_goals (intro hb; (try simp only [Bool.not_eq_true', Bool.not_eq_false'] at hb); (simp (disch := omega) only [go_sem, seval, reduceCtorEq, hb]); (try simp only [decide_eq_true_eq, decide_eq_false_iff_not, beq_iff_eq, beq_eq_false_iff_ne, ne_eq, bne_iff_ne, bne_eq_false_iff_eq, Decidable.not_not] at hb))))

theorem shr_one' (n : Nat) : ((n : Int).fdiv (2 ^ min 1 64)) = ((n / 2 : Nat) : Int) := by
  have e : (2 : Int) ^ min 1 64 = 2 := rfl
  rw [e, Int.fdiv_eq_ediv_of_nonneg _ (by omega)]
  rfl

theorem l_search (l : List ByteArray) (k : ByteArray) (b : Bool) (hl : l.length ≤ 1000) (hs : Asc l) (K : Ex → St → Prop)
    (hx : ∀ p, p ≤ l.length → (∀ x, x < p → slt (l.getD x E) k = true) → (∀ x, p ≤ x → x < l.length → slt (l.getD x E) k = false) → K (.exit 0) ⟨[(0, .p (.slice b (strRow l))), (1, .p (.str k)), (6, .p (.int .i64 l.length)), (7, .p (.int .i64 p))], [], 0, [0]⟩) :
    ∀ (m i j : Nat), j - i ≤ m → i ≤ j → j ≤ l.length → (∀ x, x < i → slt (l.getD x E) k = true) → (∀ x, j ≤ x → x < l.length → slt (l.getD x E) k = false) →
    W tb a82_l0 ⟨[(0, .p (.slice b (strRow l))), (1, .p (.str k)), (6, .p (.int .i64 l.length)), (7, .p (.int .i64 i)), (8, .p (.int .i64 j))], [], 0, [0]⟩ (LK tb (.ghost .lower a82_l0) K) := by
  intro m
  induction m with
  | zero =>
    intro i j hm hij hj h1 h2
    obtain rfl : i = j := by omega
    have h3 : ¬ (i : Int) < i := by omega
    refine i_code (by unfold a82_l0; exact rfl) ?_
    (try simp (disch := omega) only [go_sem, seval, reduceCtorEq, h3])
    exact hx i hj h1 h2
  | succ m ih =>
    intro i j hm hij hj h1 h2
    by_cases hlt : i < j
    · have h3 : (i : Int) < j := by omega
      have h4 : (i : Int) + (j : Int) = ((i + j : Nat) : Int) := by omega
      have h5 := shr_one' (i + j)
      have h6 : (i + j) / 2 < l.length := by omega
      have h7 := strRow_get l _ h6
      have h8 : (0 : Int) ≤ (((i + j) / 2 : Nat) : Int) := by omega
      refine i_code (by unfold a82_l0; exact rfl) ?_
      repeat' (first | (simp (disch := omega) only [go_sem, seval, reduceCtorEq, h3, h4, h5, h7, h8, Go.IntWalk.u64_in]) | (apply x_pure; iterate 5 (first | exact ps_less _ k | ((try simp (disch := omega) only [go_sem, seval, reduceCtorEq, h3, h4, h5, h7, h8, Go.IntWalk.u64_in]) <;> with_reducible exact rfl))) | ((first | apply x_split_cond | apply x_split_guard); all_goals (intro hb; (try simp only [Bool.not_eq_true', Bool.not_eq_false'] at hb); (simp (disch := omega) only [go_sem, seval, reduceCtorEq, h3, h4, h5, h7, h8, Go.IntWalk.u64_in, hb]); (try simp only [decide_eq_true_eq, decide_eq_false_iff_not, beq_iff_eq, beq_eq_false_iff_ne, ne_eq, bne_iff_ne, bne_eq_false_iff_eq, Decidable.not_not] at hb))))
      · refine i_lk (W_round ?_)
        (try simp (disch := omega) only [go_sem, seval, reduceCtorEq])
        refine ih ((i + j) / 2 + 1) j (by omega) (by omega) hj (fun x hx => ?_) h2
        rw [getD_get l x (by omega)]
        rcases Nat.lt_or_ge x ((i + j) / 2) with h9 | h9
        · exact slt_of_le_of_lt ((List.pairwise_iff_getElem.1 hs) x _ (by omega) h6 h9) hb
        · have : x = (i + j) / 2 := by omega
          subst this; exact hb
      · refine i_lk (W_round ?_)
        (try simp (disch := omega) only [go_sem, seval, reduceCtorEq])
        refine ih i ((i + j) / 2) (by omega) (by omega) (by omega) h1 (fun x hx hx2 => ?_)
        rw [getD_get l x hx2]
        rcases Nat.lt_or_ge ((i + j) / 2) x with h9 | h9
        · exact sle_trans (by simpa using hb) ((List.pairwise_iff_getElem.1 hs) _ x h6 hx2 h9)
        · have : x = (i + j) / 2 := by omega
          subst this; simpa using hb
    · obtain rfl : i = j := by omega
      have h3 : ¬ (i : Int) < i := by omega
      refine i_code (by unfold a82_l0; exact rfl) ?_
      (try simp (disch := omega) only [go_sem, seval, reduceCtorEq, h3])
      exact hx i hj h1 h2

theorem ps_search (l : List ByteArray) (k : ByteArray) (b : Bool) (hl : l.length ≤ 1000) (hs : Asc l) : ∃ p : Nat, PS tb 82 [.slice b (strRow l), .str k] (.tuple [.int .i64 p, .bool (hasB l k)]) := by
  have w : W tb a82.body { env := initEnv 0 ([PV.slice b (strRow l), PV.str k].map ofPV), heap := [], next := 0, marks := [0] } (Done a82.results fun v s => ∃ p : Nat, pur s.heap dep v = some (.tuple [.int .i64 p, .bool (hasB l k)])) := by
    unfold a82
    dsimp only [List.map, ofPV, initEnv]
    (try simp (disch := omega) only [go_sem, seval, reduceCtorEq, strRow_length])
    refine W_round ?_
    (try simp (disch := omega) only [go_sem, seval, reduceCtorEq])
    refine l_search l k b hl hs _ ?_ l.length 0 l.length (by omega) (by omega) (Nat.le_refl _) (fun x h => by omega) (fun x h h' => by omega)
    intro p hp h1 h2
    by_cases hlt : p < l.length
    · have h3 : (p : Int) < l.length := by omega
      have h4 := strRow_get l _ hlt
      have h5 : (0 : Int) ≤ p := by omega
      by_cases he : l[p] = k
      · have hh : hasB l k = true := hasB_iff.2 (by rw [← he]; exact List.getElem_mem hlt)
        repeat' (first | (simp (disch := omega) only [go_sem, seval, reduceCtorEq, h3, h4, h5, he]) | (apply x_pure; iterate 5 (first | exact ps_isnan2 _ | ((try simp (disch := omega) only [go_sem, seval, reduceCtorEq, h3, h4, h5, he]) <;> with_reducible exact rfl))) | ((first | apply x_split_cond | apply x_split_guard); all_goals (intro hb; (try simp only [Bool.not_eq_true', Bool.not_eq_false'] at hb); (simp (disch := omega) only [go_sem, seval, reduceCtorEq, h3, h4, h5, he, hb]); (try simp only [decide_eq_true_eq, decide_eq_false_iff_not, beq_iff_eq, beq_eq_false_iff_ne, ne_eq, bne_iff_ne, bne_eq_false_iff_eq, Decidable.not_not] at hb))))
        exact ⟨p, by simp [pur, dep, mapO, hh]⟩
      · have hh : hasB l k = false := by
          rw [hasB_no]
          intro hm
          obtain ⟨x, hx, rfl⟩ := List.mem_iff_getElem.1 hm
          have hps := h2 p (Nat.le_refl _) hlt
          rw [getD_get l p hlt] at hps
          rcases Nat.lt_or_ge x p with h6 | h6
          · have := h1 x h6
            rw [getD_get l x hx, slt_irrefl] at this; cases this
          · rcases Nat.lt_or_ge p x with h7 | h7
            · have h8 := (List.pairwise_iff_getElem.1 hs) p x hlt hx h7
              exact he (slt_tri hps h8)
            · have : x = p := by omega
              subst this; exact he rfl
        repeat' (first | (simp (disch := omega) only [go_sem, seval, reduceCtorEq, h3, h4, h5, he]) | (apply x_pure; iterate 5 (first | exact ps_isnan2 _ | ((try simp (disch := omega) only [go_sem, seval, reduceCtorEq, h3, h4, h5, he]) <;> with_reducible exact rfl))) | ((first | apply x_split_cond | apply x_split_guard); all_goals (intro hb; (try simp only [Bool.not_eq_true', Bool.not_eq_false'] at hb); (simp (disch := omega) only [go_sem, seval, reduceCtorEq, h3, h4, h5, he, hb]); (try simp only [decide_eq_true_eq, decide_eq_false_iff_not, beq_iff_eq, beq_eq_false_iff_ne, ne_eq, bne_iff_ne, bne_eq_false_iff_eq, Decidable.not_not] at hb))))
        exact ⟨p, by simp [pur, dep, mapO, hh]⟩
    · have h3 : ¬ (p : Int) < l.length := by omega
      have hh : hasB l k = false := by
        rw [hasB_no]
        intro hm
        obtain ⟨x, hx, rfl⟩ := List.mem_iff_getElem.1 hm
        have := h1 x (by omega)
        rw [getD_get l x hx, slt_irrefl] at this; cases this
      repeat' (first | (simp (disch := omega) only [go_sem, seval, reduceCtorEq, h3]) | ((first | apply x_split_cond | apply x_split_guard); all_goals (intro hb; (try simp only [Bool.not_eq_true', Bool.not_eq_false'] at hb); (simp (disch := omega) only [go_sem, seval, reduceCtorEq, h3, hb]); (try simp only [decide_eq_true_eq, decide_eq_false_iff_not, beq_iff_eq, beq_eq_false_iff_ne, ne_eq, bne_iff_ne, bne_eq_false_iff_eq, Decidable.not_not] at hb))))
      exact ⟨p, by simp [pur, dep, mapO, hh]⟩
  exact PS_ex rfl rfl w

/-! ### meet, within -/

theorem l_fmeet (l c : List ByteArray) (b d : Bool) (hl : l.length ≤ 1000) (hc : c.length ≤ 1000) (hs : Asc c) (K : Ex → St → Prop) (hx : (∀ j, j < l.length → (fun j => !hasB c (l.getD j E)) j = true) → K (.exit 0) ⟨[], [], 0, [0]⟩)
    (hr : ∀ i, i < l.length → (fun j => !hasB c (l.getD j E)) i = false → ∀ s', aget s'.env 4 = some (.p (.bool true)) → K .ret s') : ∀ (m i : Nat), i + m = l.length → (∀ j, j < i → (fun j => !hasB c (l.getD j E)) j = true) →
    W tb a61_l0 ⟨[(1, .p (.slice d (strRow c))), (9, .p (.slice b (strRow l))), (10, .p (.int .i64 l.length)), (11, .p (.int .i64 i))], [], 0, [0]⟩ (LK tb (.ghost .lower a61_l0) K) := by
  intro m
  induction m with
  | zero =>
    intro i hi ht
    have h1 : ¬ (i : Int) < l.length := by omega
    refine i_code (by unfold a61_l0; exact rfl) ?_
    repeat' (first | (simp (disch := omega) only [go_sem, seval, reduceCtorEq, h1, strRow_length]) | ((first | apply x_split_cond | apply x_split_guard); all_goals (intro hb; (try simp only [Bool.not_eq_true', Bool.not_eq_false'] at hb); (simp (disch := omega) only [go_sem, seval, reduceCtorEq, h1, strRow_length, hb]); (try simp only [decide_eq_true_eq, decide_eq_false_iff_not, beq_iff_eq, beq_eq_false_iff_ne, ne_eq, bne_iff_ne, bne_eq_false_iff_eq, Decidable.not_not] at hb))))
    exact hx (fun j hj => ht j (by omega))
  | succ m ih =>
    intro i hi ht
    have h1 : (i : Int) < l.length := by omega
    have h2 : i < l.length := by omega
    have h4 : (0 : Int) ≤ i := by omega
    have h3 := strRow_get l i h2
    have hq : hasB c (l.getD i E) = hasB c l[i] := by rw [getD_get l i h2]
    obtain ⟨pp, hp⟩ := ps_search c l[i] d hc hs
    refine i_code (by unfold a61_l0; exact rfl) ?_
    repeat' (first | (simp (disch := omega) only [go_sem, seval, reduceCtorEq, h1, h4, strRow_length, h3]) | (apply x_pure; iterate 5 (first | exact hp | ((try simp (disch := omega) only [go_sem, seval, reduceCtorEq, h1, h4, strRow_length, h3]) <;> with_reducible exact rfl))) | ((first | apply x_split_cond | apply x_split_guard); all_goals (intro hb; (try simp only [Bool.not_eq_true', Bool.not_eq_false'] at hb); (simp (disch := omega) only [go_sem, seval, reduceCtorEq, h1, h4, strRow_length, h3, hb]); (try simp only [decide_eq_true_eq, decide_eq_false_iff_not, beq_iff_eq, beq_eq_false_iff_ne, ne_eq, bne_iff_ne, bne_eq_false_iff_eq, Decidable.not_not] at hb))))
    all_goals first
      | (exfalso; omega)
      | exact hr i h2 (by (try dsimp only); rw [hq]; simp [hb]) _ rfl
      | (refine i_lk (W_round ?_)
         (try simp (disch := omega) only [go_sem, seval, reduceCtorEq, strRow_length])
         exact ih (i + 1) (by omega) (lt_step ht (by (try dsimp only); rw [hq]; simp [hb])))

theorem l_fwithin (l c : List ByteArray) (b d : Bool) (hl : l.length ≤ 1000) (hc : c.length ≤ 1000) (hs : Asc c) (K : Ex → St → Prop) (hx : (∀ j, j < l.length → (fun j => hasB c (l.getD j E)) j = true) → K (.exit 0) ⟨[], [], 0, [0]⟩)
    (hr : ∀ i, i < l.length → (fun j => hasB c (l.getD j E)) i = false → ∀ s', aget s'.env 4 = some (.p (.bool false)) → K .ret s') : ∀ (m i : Nat), i + m = l.length → (∀ j, j < i → (fun j => hasB c (l.getD j E)) j = true) →
    W tb a60_l0 ⟨[(0, .p (.slice d (strRow c))), (9, .p (.slice b (strRow l))), (10, .p (.int .i64 l.length)), (11, .p (.int .i64 i))], [], 0, [0]⟩ (LK tb (.ghost .lower a60_l0) K) := by
  intro m
  induction m with
  | zero =>
    intro i hi ht
    have h1 : ¬ (i : Int) < l.length := by omega
    refine i_code (by unfold a60_l0; exact rfl) ?_
    repeat' (first | (simp (disch := omega) only [go_sem, seval, reduceCtorEq, h1, strRow_length]) | ((first | apply x_split_cond | apply x_split_guard); all_goals (intro hb; (try simp only [Bool.not_eq_true', Bool.not_eq_false'] at hb); (simp (disch := omega) only [go_sem, seval, reduceCtorEq, h1, strRow_length, hb]); (try simp only [decide_eq_true_eq, decide_eq_false_iff_not, beq_iff_eq, beq_eq_false_iff_ne, ne_eq, bne_iff_ne, bne_eq_false_iff_eq, Decidable.not_not] at hb))))
    exact hx (fun j hj => ht j (by omega))
  | succ m ih =>
    intro i hi ht
    have h1 : (i : Int) < l.length := by omega
    have h2 : i < l.length := by omega
    have h4 : (0 : Int) ≤ i := by omega
    have h3 := strRow_get l i h2
    have hq : hasB c (l.getD i E) = hasB c l[i] := by rw [getD_get l i h2]
    obtain ⟨pp, hp⟩ := ps_search c l[i] d hc hs
    refine i_code (by unfold a60_l0; exact rfl) ?_
    repeat' (first | (simp (disch := omega) only [go_sem, seval, reduceCtorEq, h1, h4, strRow_length, h3]) | (apply x_pure; iterate 5 (first | exact hp | ((try simp (disch := omega) only [go_sem, seval, reduceCtorEq, h1, h4, strRow_length, h3]) <;> with_reducible exact rfl))) | ((first | apply x_split_cond | apply x_split_guard); all_goals (intro hb; (try simp only [Bool.not_eq_true', Bool.not_eq_false'] at hb); (simp (disch := omega) only [go_sem, seval, reduceCtorEq, h1, h4, strRow_length, h3, hb]); (try simp only [decide_eq_true_eq, decide_eq_false_iff_not, beq_iff_eq, beq_eq_false_iff_ne, ne_eq, bne_iff_ne, bne_eq_false_iff_eq, Decidable.not_not] at hb))))
    all_goals first
      | (exfalso; omega)
      | exact hr i h2 (by (try dsimp only); rw [hq]; simp [hb]) _ rfl
      | (refine i_lk (W_round ?_)
         (try simp (disch := omega) only [go_sem, seval, reduceCtorEq, strRow_length])
         exact ih (i + 1) (by omega) (lt_step ht (by (try dsimp only); rw [hq]; simp [hb])))

theorem ps_fmeet (l c : List ByteArray) (b d : Bool) (hl : l.length ≤ 1000) (hc : c.length ≤ 1000) (hs : Asc c) : PS tb 61 [.slice b (strRow l), .slice d (strRow c)] (.bool (meetB l c)) := by
  refine PS_of (af := a61) rfl rfl ?_
  unfold a61
  dsimp only [List.map, ofPV, initEnv]
  repeat' (first | (simp (disch := omega) only [go_sem, seval, reduceCtorEq, strRow_length]) | ((first | apply x_split_cond | apply x_split_guard); all_goals (intro hb; (try simp only [Bool.not_eq_true', Bool.not_eq_false'] at hb); (simp (disch := omega) only [go_sem, seval, reduceCtorEq, strRow_length, hb]); (try simp only [decide_eq_true_eq, decide_eq_false_iff_not, beq_iff_eq, beq_eq_false_iff_ne, ne_eq, bne_iff_ne, bne_eq_false_iff_eq, Decidable.not_not] at hb))))
  refine W_round ?_
  (try simp (disch := omega) only [go_sem, seval, reduceCtorEq])
  refine l_fmeet l c b d hl hc hs _ ?_ ?_ l.length 0 (by omega) (by simp)
  · intro ha
    (try simp (disch := omega) only [go_sem, seval, reduceCtorEq])
    have : meetB l c = false := by
      rw [meetB, List.any_eq_false]
      intro x hx
      have := (all_getD l fun x => !hasB c x).1 ha x hx
      simpa using this
    simp only [this, pur, dep]
  · intro i hi hq s' hs'
    (try simp (disch := omega) only [go_sem, seval, reduceCtorEq, hs'])
    dsimp only at hq
    rw [getD_get l i hi] at hq
    have : meetB l c = true := by
      rw [meetB, List.any_eq_true]
      exact ⟨l[i], List.getElem_mem hi, by simpa using hq⟩
    simp only [this, pur, dep]

theorem ps_fwithin (l c : List ByteArray) (b d : Bool) (hl : l.length ≤ 1000) (hc : c.length ≤ 1000) (hs : Asc c) : PS tb 60 [.slice d (strRow c), .slice b (strRow l)] (.bool (withinB l c)) := by
  refine PS_of (af := a60) rfl rfl ?_
  unfold a60
  dsimp only [List.map, ofPV, initEnv]
  repeat' (first | (simp (disch := omega) only [go_sem, seval, reduceCtorEq, strRow_length]) | ((first | apply x_split_cond | apply x_split_guard); all_goals (intro hb; (try simp only [Bool.not_eq_true', Bool.not_eq_false'] at hb); (simp (disch := omega) only [go_sem, seval, reduceCtorEq, strRow_length, hb]); (try simp only [decide_eq_true_eq, decide_eq_false_iff_not, beq_iff_eq, beq_eq_false_iff_ne, ne_eq, bne_iff_ne, bne_eq_false_iff_eq, Decidable.not_not] at hb))))
  refine W_round ?_
  (try simp (disch := omega) only [go_sem, seval, reduceCtorEq])
  refine l_fwithin l c b d hl hc hs _ ?_ ?_ l.length 0 (by omega) (by simp)
  · intro ha
    (try simp (disch := omega) only [go_sem, seval, reduceCtorEq])
    have : withinB l c = true := by
      exact List.all_eq_true.2 ((all_getD l (hasB c)).1 ha)
    simp only [this, pur, dep]
  · intro i hi hq s' hs'
    (try simp (disch := omega) only [go_sem, seval, reduceCtorEq, hs'])
    dsimp only at hq
    rw [getD_get l i hi] at hq
    have : withinB l c = false := by
      exact all_no _ _ i hi hq
    simp only [this, pur, dep]

theorem valid_asc {f : Ft} (h : validF f = true) : Asc f.r ∧ Asc f.w := by
  have asc0 : ∀ {l : List ByteArray}, Strict l → Asc l := fun {l} h => List.Pairwise.imp (fun {a b} h => slt_asymm h) h
  unfold validF at h
  split at h
  · simp only [Bool.and_eq_true, decide_eq_true_eq] at h
    rw [List.eq_nil_of_length_eq_zero h.1, List.eq_nil_of_length_eq_zero h.2]
    exact ⟨List.Pairwise.nil, List.Pairwise.nil⟩
  · simp only [Bool.and_eq_true] at h
    exact ⟨asc0 (ascB_iff.1 h.1.1).2, asc0 (ascB_iff.1 h.2.1).2⟩

theorem ps_fconfl (f g : Ft) (h : ShF f) (k : ShF g) : PS tb 34 [.agg (ftC f), .agg (ftC g)] (.bool (conflB f g)) := by
  have v1 := ps_fvalid f h
  have v2 := ps_fvalid g k
  refine PS_of (af := a34) rfl rfl ?_
  unfold a34
  dsimp only [List.map, ofPV, ftC, initEnv] at v1 v2 ⊢
  cases h1 : validF f <;> cases h2 : validF g <;> cases h3 : f.all <;> cases h4 : g.all <;> simp only [conflB, h1, h2, h3, h4, Bool.not_true, Bool.not_false, Bool.or_true, Bool.or_false, Bool.false_or, Bool.true_or]
  case true.true.false.false =>
    rw [h1, h3] at v1; rw [h2, h4] at v2
    have a2 := valid_asc h2
    repeat' (first | (simp (disch := omega) only [go_sem, seval, reduceCtorEq, h3, h4]) | (apply x_pure; iterate 5 (first | exact v1 | exact v2 | exact ps_fmeet f.w g.w f.bw g.bw h.2.1 k.2.1 a2.2 | exact ps_fmeet f.w g.r f.bw g.br h.2.1 k.1.1 a2.1 | exact ps_fmeet f.r g.w f.br g.bw h.1.1 k.2.1 a2.2 | ((try simp (disch := omega) only [go_sem, seval, reduceCtorEq, h3, h4]) <;> with_reducible exact rfl))) | ((first | apply x_split_cond | apply x_split_guard); all_goals (intro hb; (try simp only [Bool.not_eq_true', Bool.not_eq_false'] at hb); (simp (disch := omega) only [go_sem, seval, reduceCtorEq, h3, h4, hb]); (try simp only [decide_eq_true_eq, decide_eq_false_iff_not, beq_iff_eq, beq_eq_false_iff_ne, ne_eq, bne_iff_ne, bne_eq_false_iff_eq, Decidable.not_not] at hb))))
    all_goals simp_all [pur, dep]
  all_goals (rw [h1, h3] at v1; rw [h2, h4] at v2; repeat' (first | (simp (disch := omega) only [go_sem, seval, reduceCtorEq, h3, h4]) | (apply x_pure; iterate 5 (first | exact v1 | exact v2 | ((try simp (disch := omega) only [go_sem, seval, reduceCtorEq, h3, h4]) <;> with_reducible exact rfl))) | ((first | apply x_split_cond | apply x_split_guard); all_goals (intro hb; (try simp only [Bool.not_eq_true', Bool.not_eq_false'] at hb); (simp (disch := omega) only [go_sem, seval, reduceCtorEq, h3, h4, hb]); (try simp only [decide_eq_true_eq, decide_eq_false_iff_not, beq_iff_eq, beq_eq_false_iff_ne, ne_eq, bne_iff_ne, bne_eq_false_iff_eq, Decidable.not_not] at hb)))))

theorem ps_fcov (f g : Ft) (h : ShF f) (k : ShF g) : PS tb 33 [.agg (ftC f), .agg (ftC g)] (.bool (covB f g)) := by
  have v1 := ps_fvalid f h
  have v2 := ps_fvalid g k
  refine PS_of (af := a33) rfl rfl ?_
  unfold a33
  dsimp only [List.map, ofPV, ftC, initEnv] at v1 v2 ⊢
  cases h1 : validF f <;> cases h2 : validF g <;> cases h3 : f.all <;> cases h4 : g.all <;> simp only [covB, h1, h2, h3, h4, Bool.not_true, Bool.not_false, Bool.true_and, Bool.and_true, Bool.false_and, Bool.and_false, Bool.or_true, Bool.or_false, Bool.false_or, Bool.true_or]
  case true.true.false.false =>
    rw [h1, h3] at v1; rw [h2, h4] at v2
    have a1 := valid_asc h1
    repeat' (first | (simp (disch := omega) only [go_sem, seval, reduceCtorEq, h3, h4]) | (apply x_pure; iterate 5 (first | exact v1 | exact v2 | exact ps_fwithin g.r f.r g.br f.br k.1.1 h.1.1 a1.1 | exact ps_fwithin g.w f.w g.bw f.bw k.2.1 h.2.1 a1.2 | ((try simp (disch := omega) only [go_sem, seval, reduceCtorEq, h3, h4]) <;> with_reducible exact rfl))) | ((first | apply x_split_cond | apply x_split_guard); all_goals (intro hb; (try simp only [Bool.not_eq_true', Bool.not_eq_false'] at hb); (simp (disch := omega) only [go_sem, seval, reduceCtorEq, h3, h4, hb]); (try simp only [decide_eq_true_eq, decide_eq_false_iff_not, beq_iff_eq, beq_eq_false_iff_ne, ne_eq, bne_iff_ne, bne_eq_false_iff_eq, Decidable.not_not] at hb))))
    all_goals simp_all [pur, dep]
  all_goals (rw [h1, h3] at v1; rw [h2, h4] at v2; repeat' (first | (simp (disch := omega) only [go_sem, seval, reduceCtorEq, h3, h4]) | (apply x_pure; iterate 5 (first | exact v1 | exact v2 | ((try simp (disch := omega) only [go_sem, seval, reduceCtorEq, h3, h4]) <;> with_reducible exact rfl))) | ((first | apply x_split_cond | apply x_split_guard); all_goals (intro hb; (try simp only [Bool.not_eq_true', Bool.not_eq_false'] at hb); (simp (disch := omega) only [go_sem, seval, reduceCtorEq, h3, h4, hb]); (try simp only [decide_eq_true_eq, decide_eq_false_iff_not, beq_iff_eq, beq_eq_false_iff_ne, ne_eq, bne_iff_ne, bne_eq_false_iff_eq, Decidable.not_not] at hb)))))

/-! ### Norm, Union, Keys -/

def normF (f : Ft) : Ft × Int := if f.r.all vkey && f.w.all vkey then (if f.all then (⟨true, true, [], true, []⟩, 0) else lim false (mrg f.r) false (mrg f.w)) else (F0, 1)
def unionF (f g : Ft) : Ft × Int := if validF f && validF g then (if f.all || g.all then (⟨true, true, [], true, []⟩, 0) else lim false (mrg (f.r ++ g.r)) false (mrg (f.w ++ g.w))) else (F0, 1)
def keysF (f : Ft) : List ByteArray := if validF f then mrg (f.r ++ f.w) else []

theorem ps_merged1 (l : List ByteArray) (b : Bool) (hl : l.length ≤ 1000) : PS tb 52 [.slice true [[.slice b (strRow l)]]] (.slice false (strRow (mrg l))) := by
  have := ps_merged [(b, l)] true (by simp) (by simp [catR]; exact hl)
  simp only [catR, llRow, List.flatMap_cons, List.flatMap_nil, List.append_nil, List.map_cons, List.map_nil] at this
  exact this
theorem ps_merged2 (l c : List ByteArray) (b d : Bool) (hl : l.length ≤ 500) (hc : c.length ≤ 500) : PS tb 52 [.slice true [[.slice b (strRow l)], [.slice d (strRow c)]]] (.slice false (strRow (mrg (l ++ c)))) := by
  have := ps_merged [(b, l), (d, c)] true (by simp) (by simp [catR]; omega)
  simp only [catR, llRow, List.flatMap_cons, List.flatMap_nil, List.append_nil, List.map_cons, List.map_nil] at this
  exact this

theorem bs_concat2 (l c : List ByteArray) (b d : Bool) (hl : l.length ≤ 500) (hc : c.length ≤ 500) (H : Heap) (nx : Nat) : BS tb 65 [.p (.slice true [[.slice b (strRow l)], [.slice d (strRow c)]])] H nx (.ref nx (l ++ c).length 0 (l ++ c).length) ((nx, .row false 1 (strRow (l ++ c))) :: H) (nx + 1) := by
  have := bs_concat [(b, l), (d, c)] true (by simp) (by simp [catR]; omega) H nx
  simp only [catR, llRow, List.flatMap_cons, List.flatMap_nil, List.append_nil, List.map_cons, List.map_nil] at this
  exact this

theorem l_fnorm (l : List ByteArray) (hl : l.length ≤ 1000) (f : Ft) (K : Ex → St → Prop)
    (hx : l.all vkey = true → K (.exit 0) ⟨[(1, .ptr 0 0), (2, .ptr 1 0)], [(2, .row false 1 (strRow l)), (1, .var false [.p (.bool false), .p (.slice true []), .p (.slice true [])]), (0, .var false [.p (.bool f.all), .p (.slice f.br (strRow f.r)), .p (.slice f.bw (strRow f.w))])], 3, [0]⟩)
    (hr : l.all vkey = false → K .ret ⟨[(1, .ptr 0 0), (2, .ptr 1 0), (3, .p (.int .i64 1))], [(2, .row false 1 (strRow l)), (1, .var false [.p (.bool false), .p (.slice true []), .p (.slice true [])]), (0, .var false [.p (.bool f.all), .p (.slice f.br (strRow f.r)), .p (.slice f.bw (strRow f.w))])], 3, [0]⟩) :
    ∀ (m i : Nat), i + m = l.length → (l.take i).all vkey = true →
    W tb a38_l0 ⟨[(1, .ptr 0 0), (2, .ptr 1 0), (11, .ref 2 l.length 0 l.length), (12, .p (.int .i64 l.length)), (13, .p (.int .i64 i))], [(2, .row false 1 (strRow l)), (1, .var false [.p (.bool false), .p (.slice true []), .p (.slice true [])]), (0, .var false [.p (.bool f.all), .p (.slice f.br (strRow f.r)), .p (.slice f.bw (strRow f.w))])], 3, [0]⟩ (LK tb (.ghost .lower a38_l0) K) := by
  intro m
  induction m with
  | zero =>
    intro i hi ht
    have h1 : ¬ (i : Int) < l.length := by omega
    rw [List.take_of_length_le (by omega)] at ht
    refine i_code (by unfold a38_l0; exact rfl) ?_
    (try simp (disch := omega) only [go_sem, seval, reduceCtorEq, h1])
    exact hx ht
  | succ m ih =>
    intro i hi ht
    have h1 : i < l.length := by omega
    have h2 : (i : Int) < l.length := by omega
    have h3 := strRow_get l _ h1
    have h4 : (0 : Int) ≤ i := by omega
    refine i_code (by unfold a38_l0; exact rfl) ?_
    repeat' (first | (simp (disch := omega) only [go_sem, seval, reduceCtorEq, h2, h3, h4, strRow_length, Nat.zero_add]) | (apply x_pure; iterate 5 (first | exact ps_kvalid _ | ((try simp (disch := omega) only [go_sem, seval, reduceCtorEq, h2, h3, h4, strRow_length, Nat.zero_add]) <;> with_reducible exact rfl))) | ((first | apply x_split_cond | apply x_split_guard); all_goals (intro hb; (try simp only [Bool.not_eq_true', Bool.not_eq_false'] at hb); (simp (disch := omega) only [go_sem, seval, reduceCtorEq, h2, h3, h4, strRow_length, Nat.zero_add, hb]); (try simp only [decide_eq_true_eq, decide_eq_false_iff_not, beq_iff_eq, beq_eq_false_iff_ne, ne_eq, bne_iff_ne, bne_eq_false_iff_eq, Decidable.not_not] at hb))))
    all_goals first
      | (refine i_lk (W_round ?_)
         (try simp (disch := omega) only [go_sem, seval, reduceCtorEq])
         exact ih (i + 1) (by omega) (all_step _ _ i h1 ht (by simpa using hb)))
      | exact hr (all_no _ _ i h1 (by simpa using hb))

theorem ps_fnorm (f : Ft) (hr : f.r.length ≤ 500) (hw : f.w.length ≤ 500) : PS tb 38 [.agg (ftC f)] (.tuple [.agg (ftC (normF f).1), .int .i64 (normF f).2]) := by
  have sr := ps_merged1 f.r f.br (by omega)
  have sw := ps_merged1 f.w f.bw (by omega)
  have l1 := mrg_len f.r
  have l2 := mrg_len f.w
  have sl := ps_flim (mrg f.r) (mrg f.w) false false (by omega) (by omega)
  refine PS_of (af := a38) rfl rfl ?_
  unfold a38
  dsimp only [List.map, ofPV, ftC, initEnv] at sl ⊢
  repeat' (first | (simp (disch := omega) only [go_sem, seval, reduceCtorEq, strRow_length]) | (apply x_byref; iterate 3 (first | exact bs_concat2 f.r f.w f.br f.bw hr hw _ _ | ((try simp (disch := omega) only [go_sem, seval, reduceCtorEq, strRow_length]) <;> with_reducible exact rfl))) | ((first | apply x_split_cond | apply x_split_guard); all_goals (intro hb; (try simp only [Bool.not_eq_true', Bool.not_eq_false'] at hb); (simp (disch := omega) only [go_sem, seval, reduceCtorEq, strRow_length, hb]); (try simp only [decide_eq_true_eq, decide_eq_false_iff_not, beq_iff_eq, beq_eq_false_iff_ne, ne_eq, bne_iff_ne, bne_eq_false_iff_eq, Decidable.not_not] at hb))))
  refine W_round ?_
  (try simp (disch := omega) only [go_sem, seval, reduceCtorEq, strRow_length])
  refine l_fnorm (f.r ++ f.w) (by simp; omega) f _ ?_ ?_ (f.r ++ f.w).length 0 (by omega) (by simp)
  · intro ha
    rw [List.all_append] at ha
    cases h3 : f.all with
    | true =>
      (try simp (disch := omega) only [go_sem, seval, reduceCtorEq, h3])
      simp only [normF, ha, if_true, h3, pur, dep, mapO, strRow_nil]
    | false =>
      repeat' (first | (simp (disch := omega) only [go_sem, seval, reduceCtorEq, h3]) | (apply x_pure; iterate 5 (first | exact sr | exact sw | exact sl | ((try simp (disch := omega) only [go_sem, seval, reduceCtorEq, h3]) <;> with_reducible exact rfl))) | ((first | apply x_split_cond | apply x_split_guard); all_goals (intro hb; (try simp only [Bool.not_eq_true', Bool.not_eq_false'] at hb); (simp (disch := omega) only [go_sem, seval, reduceCtorEq, h3, hb]); (try simp only [decide_eq_true_eq, decide_eq_false_iff_not, beq_iff_eq, beq_eq_false_iff_ne, ne_eq, bne_iff_ne, bne_eq_false_iff_eq, Decidable.not_not] at hb))))
      simp only [normF, ha, if_true, h3, Bool.false_eq_true, if_false, pur, dep, mapO]
  · intro ha
    rw [List.all_append] at ha
    (try simp (disch := omega) only [go_sem, seval, reduceCtorEq])
    simp only [normF, ha, Bool.false_eq_true, if_false, pur, dep, mapO, strRow_nil]

theorem ps_funion (f g : Ft) (h : ShF f) (k : ShF g) (hf : f.r.length ≤ 400 ∧ f.w.length ≤ 400) (hg : g.r.length ≤ 400 ∧ g.w.length ≤ 400) : PS tb 17 [.agg (ftC f), .agg (ftC g)] (.tuple [.agg (ftC (unionF f g).1), .int .i64 (unionF f g).2]) := by
  have sr := ps_merged2 f.r g.r f.br g.br (by omega) (by omega)
  have sw := ps_merged2 f.w g.w f.bw g.bw (by omega) (by omega)
  have l1 := mrg_len (f.r ++ g.r)
  have l2 := mrg_len (f.w ++ g.w)
  simp only [List.length_append] at l1 l2
  have sl := ps_flim (mrg (f.r ++ g.r)) (mrg (f.w ++ g.w)) false false (by omega) (by omega)
  have v1 := ps_fvalid f h
  have v2 := ps_fvalid g k
  refine PS_of (af := a17) rfl rfl ?_
  unfold a17
  dsimp only [List.map, ofPV, ftC, initEnv] at sl v1 v2 ⊢
  cases h1 : validF f <;> cases h2 : validF g <;> cases h3 : f.all <;> cases h4 : g.all <;> simp only [unionF, h1, h2, h3, h4, Bool.and_true, Bool.and_false, Bool.or_true, Bool.or_false, Bool.true_or, if_true, Bool.false_eq_true, if_false]
  all_goals (rw [h1, h3] at v1; rw [h2, h4] at v2; repeat' (first | (simp (disch := omega) only [go_sem, seval, reduceCtorEq, h3, h4, strRow_nil]) | (apply x_pure; iterate 5 (first | exact v1 | exact v2 | exact sr | exact sw | exact sl | ((try simp (disch := omega) only [go_sem, seval, reduceCtorEq, h3, h4, strRow_nil]) <;> with_reducible exact rfl))) | ((first | apply x_split_cond | apply x_split_guard); all_goals (intro hb; (try simp only [Bool.not_eq_true', Bool.not_eq_false'] at hb); (simp (disch := omega) only [go_sem, seval, reduceCtorEq, h3, h4, strRow_nil, hb]); (try simp only [decide_eq_true_eq, decide_eq_false_iff_not, beq_iff_eq, beq_eq_false_iff_ne, ne_eq, bne_iff_ne, bne_eq_false_iff_eq, Decidable.not_not] at hb)))))

theorem ps_fkeys (f : Ft) (h : ShF f) (hf : f.r.length ≤ 500 ∧ f.w.length ≤ 500) : ∃ b, PS tb 43 [.agg (ftC f)] (.slice b (strRow (keysF f))) := by
  have sr := ps_merged2 f.r f.w f.br f.bw (by omega) (by omega)
  have v1 := ps_fvalid f h
  cases h1 : validF f with
  | true =>
    refine ⟨false, PS_of (af := a43) rfl rfl ?_⟩
    unfold a43
    rw [h1] at v1
    dsimp only [List.map, ofPV, ftC, initEnv] at v1 ⊢
    simp only [keysF, h1, if_true]
    repeat' (first | (simp (disch := omega) only [go_sem, seval, reduceCtorEq]) | (apply x_pure; iterate 5 (first | exact v1 | exact sr | ((try simp (disch := omega) only [go_sem, seval, reduceCtorEq]) <;> with_reducible exact rfl))) | ((first | apply x_split_cond | apply x_split_guard); all_goals (intro hb; (try simp only [Bool.not_eq_true', Bool.not_eq_false'] at hb); (simp (disch := omega) only [go_sem, seval, reduceCtorEq, hb]); (try simp only [decide_eq_true_eq, decide_eq_false_iff_not, beq_iff_eq, beq_eq_false_iff_ne, ne_eq, bne_iff_ne, bne_eq_false_iff_eq, Decidable.not_not] at hb))))
  | false =>
    refine ⟨true, PS_of (af := a43) rfl rfl ?_⟩
    unfold a43
    rw [h1] at v1
    dsimp only [List.map, ofPV, ftC, initEnv] at v1 ⊢
    simp only [keysF, h1, Bool.false_eq_true, if_false, strRow_nil]
    repeat' (first | (simp (disch := omega) only [go_sem, seval, reduceCtorEq]) | (apply x_pure; iterate 5 (first | exact v1 | ((try simp (disch := omega) only [go_sem, seval, reduceCtorEq]) <;> with_reducible exact rfl))) | ((first | apply x_split_cond | apply x_split_guard); all_goals (intro hb; (try simp only [Bool.not_eq_true', Bool.not_eq_false'] at hb); (simp (disch := omega) only [go_sem, seval, reduceCtorEq, hb]); (try simp only [decide_eq_true_eq, decide_eq_false_iff_not, beq_iff_eq, beq_eq_false_iff_ne, ne_eq, bne_iff_ne, bne_eq_false_iff_eq, Decidable.not_not] at hb))))

end Go.Dv.Try
