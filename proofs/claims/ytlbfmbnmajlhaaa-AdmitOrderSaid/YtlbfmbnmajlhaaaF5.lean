/-
  Specifications, part 5: footprints, as specified.
-/
import Derived.Test.YtlbfmbnmajlhaaaF4
set_option linter.unusedVariables false
set_option linter.unusedSimpArgs false
set_option maxRecDepth 100000
set_option maxHeartbeats 1000000
namespace Go.Dv.Try
open Go Go.Dv

/-! ### limited -/

def lim (b : Bool) (r : List ByteArray) (d : Bool) (w : List ByteArray) : Ft × Int := if 64 < r.length ∨ 64 < w.length then (F0, 2) else (⟨false, b, r, d, w⟩, 0)

theorem ps_rlim (r w : List ByteArray) (b d : Bool) (hr : r.length ≤ 1000) (hw : w.length ≤ 1000) : PS tb 53 [.slice b (strRow r), .slice d (strRow w)] (.tuple [.agg (ftC (lim b r d w).1), .int .i64 (lim b r d w).2]) := by
  refine PS_of (af := a53) rfl rfl ?_
  unfold a53
  dsimp only [List.map, ofPV, initEnv]
  by_cases h1 : 64 < r.length
  · have h1' : (64 : Int) < r.length := by omega
    rw [lim, if_pos (.inl h1)]
    (try simp (disch := omega) only [go_sem, seval, reduceCtorEq, strRow_length, h1', ftC, strRow_nil])
  · have h1' : ¬ (64 : Int) < r.length := by omega
    by_cases h2 : 64 < w.length
    · have h2' : (64 : Int) < w.length := by omega
      rw [lim, if_pos (.inr h2)]
      (try simp (disch := omega) only [go_sem, seval, reduceCtorEq, strRow_length, h1', h2', ftC, strRow_nil])
    · have h2' : ¬ (64 : Int) < w.length := by omega
      rw [lim, if_neg (by omega)]
      (try simp (disch := omega) only [go_sem, seval, reduceCtorEq, strRow_length, h1', h2', ftC])

theorem ps_flim (r w : List ByteArray) (b d : Bool) (hr : r.length ≤ 1000) (hw : w.length ≤ 1000) : PS tb 51 [.slice b (strRow r), .slice d (strRow w)] (.tuple [.agg (ftC (lim b r d w).1), .int .i64 (lim b r d w).2]) := by
  refine PS_of (af := a51) rfl rfl ?_
  unfold a51
  dsimp only [List.map, ofPV, initEnv]
  by_cases h1 : 64 < r.length
  · have h1' : (64 : Int) < r.length := by omega
    rw [lim, if_pos (.inl h1)]
    (try simp (disch := omega) only [go_sem, seval, reduceCtorEq, strRow_length, h1', ftC, strRow_nil])
  · have h1' : ¬ (64 : Int) < r.length := by omega
    by_cases h2 : 64 < w.length
    · have h2' : (64 : Int) < w.length := by omega
      rw [lim, if_pos (.inr h2)]
      (try simp (disch := omega) only [go_sem, seval, reduceCtorEq, strRow_length, h1', h2', ftC, strRow_nil])
    · have h2' : ¬ (64 : Int) < w.length := by omega
      rw [lim, if_neg (by omega)]
      (try simp (disch := omega) only [go_sem, seval, reduceCtorEq, strRow_length, h1', h2', ftC])

/-! ### meet, within -/

def meetB (a b : List ByteArray) : Bool := a.any (hasB b)
def withinB (a b : List ByteArray) : Bool := a.all (hasB b)

theorem l_rmeet (l c : List ByteArray) (b d : Bool) (hl : l.length ≤ 1000) (hc : c.length ≤ 1000) (K : Ex → St → Prop) (hx : (∀ j, j < l.length → (fun j => !hasB c (l.getD j E)) j = true) → K (.exit 0) ⟨[], [], 0, [0]⟩)
    (hr : ∀ i, i < l.length → (fun j => !hasB c (l.getD j E)) i = false → ∀ s', aget s'.env 4 = some (.p (.bool true)) → K .ret s') : ∀ (m i : Nat), i + m = l.length → (∀ j, j < i → (fun j => !hasB c (l.getD j E)) j = true) →
    W tb a62_l0 ⟨[(0, .p (.slice b (strRow l))), (1, .p (.slice d (strRow c))), (5, .p (.int .i64 i))], [], 0, [0]⟩ (LK tb (.ghost .lower a62_l0) K) := by
  intro m
  induction m with
  | zero =>
    intro i hi ht
    have h1 : ¬ (i : Int) < l.length := by omega
    refine i_code (by unfold a62_l0; exact rfl) ?_
    repeat' (first | (simp (disch := omega) only [go_sem, seval, reduceCtorEq, h1, strRow_length]) | ((first | apply x_split_cond | apply x_split_guard); all_goals (intro hb; (try simp only [Bool.not_eq_true', Bool.not_eq_false'] at hb); (simp (disch := omega) only [go_sem, seval, reduceCtorEq, h1, strRow_length, hb]); (try simp only [decide_eq_true_eq, decide_eq_false_iff_not, beq_iff_eq, beq_eq_false_iff_ne, ne_eq, bne_iff_ne, bne_eq_false_iff_eq, Decidable.not_not] at hb))))
    exact hx (fun j hj => ht j (by omega))
  | succ m ih =>
    intro i hi ht
    have h1 : (i : Int) < l.length := by omega
    have h2 : i < l.length := by omega
    have h4 : (0 : Int) ≤ i := by omega
    have h3 := strRow_get l i h2
    have hq : hasB c (l.getD i E) = hasB c l[i] := by rw [getD_get l i h2]
    refine i_code (by unfold a62_l0; exact rfl) ?_
    repeat' (first | (simp (disch := omega) only [go_sem, seval, reduceCtorEq, h1, h4, strRow_length, h3]) | (apply x_pure; iterate 5 (first | exact ps_has c _ d hc | ((try simp (disch := omega) only [go_sem, seval, reduceCtorEq, h1, h4, strRow_length, h3]) <;> with_reducible exact rfl))) | ((first | apply x_split_cond | apply x_split_guard); all_goals (intro hb; (try simp only [Bool.not_eq_true', Bool.not_eq_false'] at hb); (simp (disch := omega) only [go_sem, seval, reduceCtorEq, h1, h4, strRow_length, h3, hb]); (try simp only [decide_eq_true_eq, decide_eq_false_iff_not, beq_iff_eq, beq_eq_false_iff_ne, ne_eq, bne_iff_ne, bne_eq_false_iff_eq, Decidable.not_not] at hb))))
    all_goals first
      | (exfalso; omega)
      | exact hr i h2 (by (try dsimp only); rw [hq]; simp [hb]) _ rfl
      | (refine i_lk (W_round ?_)
         (try simp (disch := omega) only [go_sem, seval, reduceCtorEq, strRow_length])
         exact ih (i + 1) (by omega) (lt_step ht (by (try dsimp only); rw [hq]; simp [hb])))

theorem l_rwithin (l c : List ByteArray) (b d : Bool) (hl : l.length ≤ 1000) (hc : c.length ≤ 1000) (K : Ex → St → Prop) (hx : (∀ j, j < l.length → (fun j => hasB c (l.getD j E)) j = true) → K (.exit 0) ⟨[], [], 0, [0]⟩)
    (hr : ∀ i, i < l.length → (fun j => hasB c (l.getD j E)) i = false → ∀ s', aget s'.env 4 = some (.p (.bool false)) → K .ret s') : ∀ (m i : Nat), i + m = l.length → (∀ j, j < i → (fun j => hasB c (l.getD j E)) j = true) →
    W tb a63_l0 ⟨[(0, .p (.slice b (strRow l))), (1, .p (.slice d (strRow c))), (5, .p (.int .i64 i))], [], 0, [0]⟩ (LK tb (.ghost .lower a63_l0) K) := by
  intro m
  induction m with
  | zero =>
    intro i hi ht
    have h1 : ¬ (i : Int) < l.length := by omega
    refine i_code (by unfold a63_l0; exact rfl) ?_
    repeat' (first | (simp (disch := omega) only [go_sem, seval, reduceCtorEq, h1, strRow_length]) | ((first | apply x_split_cond | apply x_split_guard); all_goals (intro hb; (try simp only [Bool.not_eq_true', Bool.not_eq_false'] at hb); (simp (disch := omega) only [go_sem, seval, reduceCtorEq, h1, strRow_length, hb]); (try simp only [decide_eq_true_eq, decide_eq_false_iff_not, beq_iff_eq, beq_eq_false_iff_ne, ne_eq, bne_iff_ne, bne_eq_false_iff_eq, Decidable.not_not] at hb))))
    exact hx (fun j hj => ht j (by omega))
  | succ m ih =>
    intro i hi ht
    have h1 : (i : Int) < l.length := by omega
    have h2 : i < l.length := by omega
    have h4 : (0 : Int) ≤ i := by omega
    have h3 := strRow_get l i h2
    have hq : hasB c (l.getD i E) = hasB c l[i] := by rw [getD_get l i h2]
    refine i_code (by unfold a63_l0; exact rfl) ?_
    repeat' (first | (simp (disch := omega) only [go_sem, seval, reduceCtorEq, h1, h4, strRow_length, h3]) | (apply x_pure; iterate 5 (first | exact ps_has c _ d hc | ((try simp (disch := omega) only [go_sem, seval, reduceCtorEq, h1, h4, strRow_length, h3]) <;> with_reducible exact rfl))) | ((first | apply x_split_cond | apply x_split_guard); all_goals (intro hb; (try simp only [Bool.not_eq_true', Bool.not_eq_false'] at hb); (simp (disch := omega) only [go_sem, seval, reduceCtorEq, h1, h4, strRow_length, h3, hb]); (try simp only [decide_eq_true_eq, decide_eq_false_iff_not, beq_iff_eq, beq_eq_false_iff_ne, ne_eq, bne_iff_ne, bne_eq_false_iff_eq, Decidable.not_not] at hb))))
    all_goals first
      | (exfalso; omega)
      | exact hr i h2 (by (try dsimp only); rw [hq]; simp [hb]) _ rfl
      | (refine i_lk (W_round ?_)
         (try simp (disch := omega) only [go_sem, seval, reduceCtorEq, strRow_length])
         exact ih (i + 1) (by omega) (lt_step ht (by (try dsimp only); rw [hq]; simp [hb])))

theorem ps_rmeet (l c : List ByteArray) (b d : Bool) (hl : l.length ≤ 1000) (hc : c.length ≤ 1000) : PS tb 62 [.slice b (strRow l), .slice d (strRow c)] (.bool (meetB l c)) := by
  refine PS_of (af := a62) rfl rfl ?_
  unfold a62
  dsimp only [List.map, ofPV, initEnv]
  repeat' (first | (simp (disch := omega) only [go_sem, seval, reduceCtorEq, strRow_length]) | ((first | apply x_split_cond | apply x_split_guard); all_goals (intro hb; (try simp only [Bool.not_eq_true', Bool.not_eq_false'] at hb); (simp (disch := omega) only [go_sem, seval, reduceCtorEq, strRow_length, hb]); (try simp only [decide_eq_true_eq, decide_eq_false_iff_not, beq_iff_eq, beq_eq_false_iff_ne, ne_eq, bne_iff_ne, bne_eq_false_iff_eq, Decidable.not_not] at hb))))
  refine W_round ?_
  (try simp (disch := omega) only [go_sem, seval, reduceCtorEq])
  refine l_rmeet l c b d hl hc _ ?_ ?_ l.length 0 (by omega) (by simp)
  · intro ha
    (try simp (disch := omega) only [go_sem, seval, reduceCtorEq])
    have : meetB l c = false := by
      rw [meetB, List.any_eq_false]
      intro x hx
      have := (all_getD l fun x => !hasB c x).1 ha x hx
      simpa using this
    simp only [this, pur, dep]
  · intro i hi hq s' hs'
    (try simp (disch := omega) only [go_sem, seval, reduceCtorEq, hs'])
    dsimp only at hq
    rw [getD_get l i hi] at hq
    have : meetB l c = true := by
      rw [meetB, List.any_eq_true]
      exact ⟨l[i], List.getElem_mem hi, by simpa using hq⟩
    simp only [this, pur, dep]

theorem ps_rwithin (l c : List ByteArray) (b d : Bool) (hl : l.length ≤ 1000) (hc : c.length ≤ 1000) : PS tb 63 [.slice b (strRow l), .slice d (strRow c)] (.bool (withinB l c)) := by
  refine PS_of (af := a63) rfl rfl ?_
  unfold a63
  dsimp only [List.map, ofPV, initEnv]
  repeat' (first | (simp (disch := omega) only [go_sem, seval, reduceCtorEq, strRow_length]) | ((first | apply x_split_cond | apply x_split_guard); all_goals (intro hb; (try simp only [Bool.not_eq_true', Bool.not_eq_false'] at hb); (simp (disch := omega) only [go_sem, seval, reduceCtorEq, strRow_length, hb]); (try simp only [decide_eq_true_eq, decide_eq_false_iff_not, beq_iff_eq, beq_eq_false_iff_ne, ne_eq, bne_iff_ne, bne_eq_false_iff_eq, Decidable.not_not] at hb))))
  refine W_round ?_
  (try simp (disch := omega) only [go_sem, seval, reduceCtorEq])
  refine l_rwithin l c b d hl hc _ ?_ ?_ l.length 0 (by omega) (by simp)
  · intro ha
    (try simp (disch := omega) only [go_sem, seval, reduceCtorEq])
    have : withinB l c = true := by
      exact List.all_eq_true.2 ((all_getD l (hasB c)).1 ha)
    simp only [this, pur, dep]
  · intro i hi hq s' hs'
    (try simp (disch := omega) only [go_sem, seval, reduceCtorEq, hs'])
    dsimp only at hq
    rw [getD_get l i hi] at hq
    have : withinB l c = false := by
      exact all_no _ _ i hi hq
    simp only [this, pur, dep]

/-! ### ranges -/

def vrange (fr to : ByteArray) : Bool := vbound fr && vbound to && (decide (to = E) || slt fr to)
def inR (fr to k : ByteArray) : Bool := vrange fr to && !slt k fr && (decide (to = E) || slt k to)

theorem ps_r4range (fr to : ByteArray) (hf : fr.size ≤ 100) (ht : to.size ≤ 100) : PS tb 76 [.agg [.str fr, .str to]] (.bool (vrange fr to)) := by
  refine PS_of (af := a76) rfl rfl ?_
  unfold a76
  dsimp only [List.map, ofPV, initEnv]
  repeat' (first | (simp (disch := omega) only [go_sem, seval, reduceCtorEq]) | (apply x_pure; iterate 5 (first | exact ps_r4bound fr hf | exact ps_r4bound to ht | ((try simp (disch := omega) only [go_sem, seval, reduceCtorEq]) <;> with_reducible exact rfl))) | ((first | apply x_split_cond | apply x_split_guard); all_goals (intro hb; (try simp only [Bool.not_eq_true', Bool.not_eq_false'] at hb); (simp (disch := omega) only [go_sem, seval, reduceCtorEq, hb]); (try simp only [decide_eq_true_eq, decide_eq_false_iff_not, beq_iff_eq, beq_eq_false_iff_ne, ne_eq, bne_iff_ne, bne_eq_false_iff_eq, Decidable.not_not] at hb))))
  all_goals simp_all [vrange, pur, dep]

theorem ps_r4in (fr to k : ByteArray) (hf : fr.size ≤ 100) (ht : to.size ≤ 100) : PS tb 89 [.agg [.str fr, .str to], .str k] (.bool (inR fr to k)) := by
  refine PS_of (af := a89) rfl rfl ?_
  unfold a89
  dsimp only [List.map, ofPV, initEnv]
  repeat' (first | (simp (disch := omega) only [go_sem, seval, reduceCtorEq]) | (apply x_pure; iterate 5 (first | exact ps_r4range fr to hf ht | ((try simp (disch := omega) only [go_sem, seval, reduceCtorEq]) <;> with_reducible exact rfl))) | ((first | apply x_split_cond | apply x_split_guard); all_goals (intro hb; (try simp only [Bool.not_eq_true', Bool.not_eq_false'] at hb); (simp (disch := omega) only [go_sem, seval, reduceCtorEq, hb]); (try simp only [decide_eq_true_eq, decide_eq_false_iff_not, beq_iff_eq, beq_eq_false_iff_ne, ne_eq, bne_iff_ne, bne_eq_false_iff_eq, Decidable.not_not] at hb))))
  all_goals simp_all [inR, pur, dep]

theorem ps_krange (fr to : ByteArray) (hf : fr.size ≤ 100) (ht : to.size ≤ 100) : PS tb 87 [.agg [.str fr, .str to]] (.bool (vrange fr to)) := by
  refine PS_of (af := a87) rfl rfl ?_
  unfold a87
  dsimp only [List.map, ofPV, initEnv]
  repeat' (first | (simp (disch := omega) only [go_sem, seval, reduceCtorEq]) | (apply x_pure; iterate 5 (first | exact ps_kbound fr | exact ps_kbound to | ((try simp (disch := omega) only [go_sem, seval, reduceCtorEq]) <;> with_reducible exact rfl))) | ((first | apply x_split_cond | apply x_split_guard); all_goals (intro hb; (try simp only [Bool.not_eq_true', Bool.not_eq_false'] at hb); (simp (disch := omega) only [go_sem, seval, reduceCtorEq, hb]); (try simp only [decide_eq_true_eq, decide_eq_false_iff_not, beq_iff_eq, beq_eq_false_iff_ne, ne_eq, bne_iff_ne, bne_eq_false_iff_eq, Decidable.not_not] at hb))))
  all_goals simp_all [vrange, pur, dep]

theorem ps_kin (fr to k : ByteArray) (hf : fr.size ≤ 100) (ht : to.size ≤ 100) : PS tb 72 [.agg [.str fr, .str to], .str k] (.bool (inR fr to k)) := by
  refine PS_of (af := a72) rfl rfl ?_
  unfold a72
  dsimp only [List.map, ofPV, initEnv]
  repeat' (first | (simp (disch := omega) only [go_sem, seval, reduceCtorEq]) | (apply x_pure; iterate 5 (first | exact ps_krange fr to hf ht | ((try simp (disch := omega) only [go_sem, seval, reduceCtorEq]) <;> with_reducible exact rfl))) | ((first | apply x_split_cond | apply x_split_guard); all_goals (intro hb; (try simp only [Bool.not_eq_true', Bool.not_eq_false'] at hb); (simp (disch := omega) only [go_sem, seval, reduceCtorEq, hb]); (try simp only [decide_eq_true_eq, decide_eq_false_iff_not, beq_iff_eq, beq_eq_false_iff_ne, ne_eq, bne_iff_ne, bne_eq_false_iff_eq, Decidable.not_not] at hb))))
  all_goals simp_all [inR, pur, dep]

theorem l_inside (l : List ByteArray) (b : Bool) (fr to : ByteArray) (hf : fr.size ≤ 100) (ht : to.size ≤ 100) (hl : l.length ≤ 1000) (K : Ex → St → Prop)
    (hx : K (.exit 0) ⟨[(5, .ref 1 (l.filter (inR fr to)).length 0 (l.filter (inR fr to)).length)], [(1, .row false 1 (strRow (l.filter (inR fr to))))], 2, [0]⟩) : ∀ (m i : Nat), i + m = l.length → ∀ acc, acc = (l.take i).filter (inR fr to) →
    W tb a75_l0 ⟨[(0, .p (.slice b (strRow l))), (3, .ptr 0 0), (5, .ref 1 acc.length 0 acc.length), (6, .p (.int .i64 i))], [(1, .row false 1 (strRow acc)), (0, .var false [.p (.str fr), .p (.str to)])], 2, [0]⟩ (LK tb (.ghost .lower a75_l0) K) := by
  intro m
  induction m with
  | zero =>
    intro i hi acc hacc
    have h1 : ¬ (i : Int) < l.length := by omega
    rw [List.take_of_length_le (by omega)] at hacc
    subst hacc
    refine i_code (by unfold a75_l0; exact rfl) ?_
    repeat' (first | (simp (disch := omega) only [go_sem, seval, reduceCtorEq, h1, strRow_length]) | ((first | apply x_split_cond | apply x_split_guard); all_goals (intro hb; (try simp only [Bool.not_eq_true', Bool.not_eq_false'] at hb); (simp (disch := omega) only [go_sem, seval, reduceCtorEq, h1, strRow_length, hb]); (try simp only [decide_eq_true_eq, decide_eq_false_iff_not, beq_iff_eq, beq_eq_false_iff_ne, ne_eq, bne_iff_ne, bne_eq_false_iff_eq, Decidable.not_not] at hb))))
    exact hx
  | succ m ih =>
    intro i hi acc hacc
    have h1 : i < l.length := by omega
    have h2 : (i : Int) < l.length := by omega
    have h3 := strRow_get l _ h1
    have h4 : (0 : Int) ≤ i := by omega
    have h5 : acc.length ≤ 1000 := by
      rw [hacc]
      exact Nat.le_trans (List.length_filter_le _ _) (by simp; omega)
    have hstep : (l.take (i + 1)).filter (inR fr to) = acc ++ if inR fr to l[i] then [l[i]] else [] := by
      rw [List.take_add_one, List.filter_append, ← hacc, List.getElem?_eq_getElem h1]
      cases hc : inR fr to l[i] <;> simp [hc]
    refine i_code (by unfold a75_l0; exact rfl) ?_
    repeat' (first | (simp (disch := omega) only [go_sem, seval, reduceCtorEq, h2, h3, h4, strRow_length, allSz_strRow, strRow_app, strRow_one, maxB]) | (apply x_pure; iterate 5 (first | exact ps_r4in fr to l[i] hf ht | ((try simp (disch := omega) only [go_sem, seval, reduceCtorEq, h2, h3, h4, strRow_length, allSz_strRow, strRow_app, strRow_one, maxB]) <;> with_reducible exact rfl))) | ((first | apply x_split_cond | apply x_split_guard); all_goals (intro hb; (try simp only [Bool.not_eq_true', Bool.not_eq_false'] at hb); (simp (disch := omega) only [go_sem, seval, reduceCtorEq, h2, h3, h4, strRow_length, allSz_strRow, strRow_app, strRow_one, maxB, hb]); (try simp only [decide_eq_true_eq, decide_eq_false_iff_not, beq_iff_eq, beq_eq_false_iff_ne, ne_eq, bne_iff_ne, bne_eq_false_iff_eq, Decidable.not_not] at hb))))
    · rw [if_pos hb] at hstep
      refine i_lk (W_round ?_)
      (try simp (disch := omega) only [go_sem, seval, reduceCtorEq])
      have := ih (i + 1) (by omega) (acc ++ [l[i]]) hstep.symm
      simp only [List.length_append, List.length_cons, List.length_nil, Nat.zero_add] at this
      exact this
    · rw [if_neg (by simp [hb]), List.append_nil] at hstep
      refine i_lk (W_round ?_)
      (try simp (disch := omega) only [go_sem, seval, reduceCtorEq])
      exact ih (i + 1) (by omega) acc hstep.symm

theorem ps_inside (l : List ByteArray) (b : Bool) (fr to : ByteArray) (hf : fr.size ≤ 100) (ht : to.size ≤ 100) (hl : l.length ≤ 1000) :
    PS tb 75 [.slice b (strRow l), .agg [.str fr, .str to]] (.slice false (strRow (l.filter (inR fr to)))) := by
  refine PS_of (af := a75) rfl rfl ?_
  unfold a75
  dsimp only [List.map, ofPV, initEnv]
  (try simp (disch := omega) only [go_sem, seval, reduceCtorEq, strRow_length])
  refine W_round ?_
  (try simp (disch := omega) only [go_sem, seval, reduceCtorEq])
  refine l_inside l b fr to hf ht hl _ ?_ l.length 0 (by omega) [] (by simp)
  (try simp (disch := omega) only [go_sem, seval, reduceCtorEq, strRow_length, takeAll, strRow_take])

/-! ### the functions of footprints -/

def normR (b : Bool) (d : Bool) (f : Ft) : Ft × Int := if f.r.all vkey && f.w.all vkey then (if f.all then (⟨true, true, [], true, []⟩, 0) else lim b (insAll [] f.r) d (insAll [] f.w)) else (F0, 1)
def unionR (b : Bool) (d : Bool) (f g : Ft) : Ft × Int := if validF f && validF g then (if f.all || g.all then (⟨true, true, [], true, []⟩, 0) else lim b (insAll (insAll [] f.r) g.r) d (insAll (insAll [] f.w) g.w)) else (F0, 1)
def conflB (f g : Ft) : Bool := !validF f || !validF g || f.all || g.all || meetB f.w g.w || meetB f.w g.r || meetB f.r g.w
def covB (f g : Ft) : Bool := validF f && validF g && (f.all || !g.all && (withinB g.r f.r && withinB g.w f.w))
def keysR (f : Ft) : List ByteArray := if validF f then insAll (insAll [] f.r) f.w else []
def projR (f : Ft) (fr to : ByteArray) : Ft := if validF f && !f.all then ⟨false, false, f.r.filter (inR fr to), false, f.w.filter (inR fr to)⟩ else ⟨f.all && validF f, true, [], true, []⟩

theorem ps_rnorm (f : Ft) (h : ShF f) (hr : f.r.length ≤ 400) (hw : f.w.length ≤ 400) : ∃ b d, PS tb 39 [.agg (ftC f)] (.tuple [.agg (ftC (normR b d f).1), .int .i64 (normR b d f).2]) := by
  obtain ⟨b, sb⟩ := ps_sorted f.r f.br hr
  obtain ⟨d, sd⟩ := ps_sorted f.w f.bw hw
  have l1 := insAll_length f.r []
  have l2 := insAll_length f.w []
  simp only [List.length_nil] at l1 l2
  have sl := ps_rlim (insAll [] f.r) (insAll [] f.w) b d (by omega) (by omega)
  refine ⟨b, d, PS_of (af := a39) rfl rfl ?_⟩
  unfold a39
  dsimp only [List.map, ofPV, ftC, initEnv] at sl ⊢
  cases h1 : f.r.all vkey <;> cases h2 : f.w.all vkey <;> cases h3 : f.all <;> simp only [normR, h1, h2, h3, Bool.and_true, Bool.and_false, if_true, Bool.false_eq_true, if_false]
  all_goals (repeat' (first | (simp (disch := omega) only [go_sem, seval, reduceCtorEq, h1, h2, h3, strRow_nil]) | (apply x_pure; iterate 5 (first | exact ps_keys f.r f.br h.1 | exact ps_keys f.w f.bw h.2 | exact sb | exact sd | exact sl | ((try simp (disch := omega) only [go_sem, seval, reduceCtorEq, h1, h2, h3, strRow_nil]) <;> with_reducible exact rfl))) | ((first | apply x_split_cond | apply x_split_guard); all_goals (intro hb; (try simp only [Bool.not_eq_true', Bool.not_eq_false'] at hb); (simp (disch := omega) only [go_sem, seval, reduceCtorEq, h1, h2, h3, strRow_nil, hb]); (try simp only [decide_eq_true_eq, decide_eq_false_iff_not, beq_iff_eq, beq_eq_false_iff_ne, ne_eq, bne_iff_ne, bne_eq_false_iff_eq, Decidable.not_not] at hb)))))

theorem ps_runion (f g : Ft) (h : ShF f) (k : ShF g) (hf : f.r.length ≤ 400 ∧ f.w.length ≤ 400) (hg : g.r.length ≤ 400 ∧ g.w.length ≤ 400) : ∃ b d, PS tb 18 [.agg (ftC f), .agg (ftC g)] (.tuple [.agg (ftC (unionR b d f g).1), .int .i64 (unionR b d f g).2]) := by
  obtain ⟨b, sb⟩ := ps_both f.r g.r f.br g.br hf.1 hg.1
  obtain ⟨d, sd⟩ := ps_both f.w g.w f.bw g.bw hf.2 hg.2
  have l1 := insAll_length f.r []
  have l2 := insAll_length f.w []
  have l3 := insAll_length g.r (insAll [] f.r)
  have l4 := insAll_length g.w (insAll [] f.w)
  simp only [List.length_nil] at l1 l2
  have sl := ps_rlim (insAll (insAll [] f.r) g.r) (insAll (insAll [] f.w) g.w) b d (by omega) (by omega)
  have v1 := ps_rvalid f h
  have v2 := ps_rvalid g k
  refine ⟨b, d, PS_of (af := a18) rfl rfl ?_⟩
  unfold a18
  dsimp only [List.map, ofPV, ftC, initEnv] at sl v1 v2 ⊢
  cases h1 : validF f <;> cases h2 : validF g <;> cases h3 : f.all <;> cases h4 : g.all <;> simp only [unionR, h1, h2, h3, h4, Bool.and_true, Bool.and_false, Bool.or_true, Bool.or_false, Bool.true_or, if_true, Bool.false_eq_true, if_false]
  all_goals (rw [h1, h3] at v1; rw [h2, h4] at v2; repeat' (first | (simp (disch := omega) only [go_sem, seval, reduceCtorEq, h3, h4, strRow_nil]) | (apply x_pure; iterate 5 (first | exact v1 | exact v2 | exact sb | exact sd | exact sl | ((try simp (disch := omega) only [go_sem, seval, reduceCtorEq, h3, h4, strRow_nil]) <;> with_reducible exact rfl))) | ((first | apply x_split_cond | apply x_split_guard); all_goals (intro hb; (try simp only [Bool.not_eq_true', Bool.not_eq_false'] at hb); (simp (disch := omega) only [go_sem, seval, reduceCtorEq, h3, h4, strRow_nil, hb]); (try simp only [decide_eq_true_eq, decide_eq_false_iff_not, beq_iff_eq, beq_eq_false_iff_ne, ne_eq, bne_iff_ne, bne_eq_false_iff_eq, Decidable.not_not] at hb)))))

theorem ps_rconfl (f g : Ft) (h : ShF f) (k : ShF g) : PS tb 35 [.agg (ftC f), .agg (ftC g)] (.bool (conflB f g)) := by
  have v1 := ps_rvalid f h
  have v2 := ps_rvalid g k
  refine PS_of (af := a35) rfl rfl ?_
  unfold a35
  dsimp only [List.map, ofPV, ftC, initEnv] at v1 v2 ⊢
  cases h1 : validF f <;> cases h2 : validF g <;> cases h3 : f.all <;> cases h4 : g.all <;> simp only [conflB, h1, h2, h3, h4, Bool.not_true, Bool.not_false, Bool.or_true, Bool.or_false, Bool.false_or, Bool.true_or]
  all_goals (rw [h1, h3] at v1; rw [h2, h4] at v2; repeat' (first | (simp (disch := omega) only [go_sem, seval, reduceCtorEq, h3, h4]) | (apply x_pure; iterate 5 (first | exact v1 | exact v2 | exact ps_rmeet f.w g.w f.bw g.bw h.2.1 k.2.1 | exact ps_rmeet f.w g.r f.bw g.br h.2.1 k.1.1 | exact ps_rmeet f.r g.w f.br g.bw h.1.1 k.2.1 | ((try simp (disch := omega) only [go_sem, seval, reduceCtorEq, h3, h4]) <;> with_reducible exact rfl))) | ((first | apply x_split_cond | apply x_split_guard); all_goals (intro hb; (try simp only [Bool.not_eq_true', Bool.not_eq_false'] at hb); (simp (disch := omega) only [go_sem, seval, reduceCtorEq, h3, h4, hb]); (try simp only [decide_eq_true_eq, decide_eq_false_iff_not, beq_iff_eq, beq_eq_false_iff_ne, ne_eq, bne_iff_ne, bne_eq_false_iff_eq, Decidable.not_not] at hb)))))
  all_goals simp_all [pur, dep]

theorem ps_rcov (f g : Ft) (h : ShF f) (k : ShF g) : PS tb 36 [.agg (ftC f), .agg (ftC g)] (.bool (covB f g)) := by
  have v1 := ps_rvalid f h
  have v2 := ps_rvalid g k
  refine PS_of (af := a36) rfl rfl ?_
  unfold a36
  dsimp only [List.map, ofPV, ftC, initEnv] at v1 v2 ⊢
  cases h1 : validF f <;> cases h2 : validF g <;> cases h3 : f.all <;> cases h4 : g.all <;> simp only [covB, h1, h2, h3, h4, Bool.not_true, Bool.not_false, Bool.true_and, Bool.and_true, Bool.false_and, Bool.and_false, Bool.or_true, Bool.or_false, Bool.false_or, Bool.true_or]
  all_goals (rw [h1, h3] at v1; rw [h2, h4] at v2; repeat' (first | (simp (disch := omega) only [go_sem, seval, reduceCtorEq, h3, h4]) | (apply x_pure; iterate 5 (first | exact v1 | exact v2 | exact ps_rwithin g.r f.r g.br f.br k.1.1 h.1.1 | exact ps_rwithin g.w f.w g.bw f.bw k.2.1 h.2.1 | ((try simp (disch := omega) only [go_sem, seval, reduceCtorEq, h3, h4]) <;> with_reducible exact rfl))) | ((first | apply x_split_cond | apply x_split_guard); all_goals (intro hb; (try simp only [Bool.not_eq_true', Bool.not_eq_false'] at hb); (simp (disch := omega) only [go_sem, seval, reduceCtorEq, h3, h4, hb]); (try simp only [decide_eq_true_eq, decide_eq_false_iff_not, beq_iff_eq, beq_eq_false_iff_ne, ne_eq, bne_iff_ne, bne_eq_false_iff_eq, Decidable.not_not] at hb)))))
  all_goals simp_all [pur, dep]

theorem ps_rkeys (f : Ft) (h : ShF f) (hf : f.r.length ≤ 400 ∧ f.w.length ≤ 400) : ∃ b, PS tb 44 [.agg (ftC f)] (.slice b (strRow (keysR f))) := by
  obtain ⟨b, sb⟩ := ps_both f.r f.w f.br f.bw hf.1 hf.2
  have v1 := ps_rvalid f h
  cases h1 : validF f with
  | true =>
    refine ⟨b, PS_of (af := a44) rfl rfl ?_⟩
    unfold a44
    rw [h1] at v1
    dsimp only [List.map, ofPV, ftC, initEnv] at v1 ⊢
    simp only [keysR, h1, if_true]
    repeat' (first | (simp (disch := omega) only [go_sem, seval, reduceCtorEq]) | (apply x_pure; iterate 5 (first | exact v1 | exact sb | ((try simp (disch := omega) only [go_sem, seval, reduceCtorEq]) <;> with_reducible exact rfl))) | ((first | apply x_split_cond | apply x_split_guard); all_goals (intro hb; (try simp only [Bool.not_eq_true', Bool.not_eq_false'] at hb); (simp (disch := omega) only [go_sem, seval, reduceCtorEq, hb]); (try simp only [decide_eq_true_eq, decide_eq_false_iff_not, beq_iff_eq, beq_eq_false_iff_ne, ne_eq, bne_iff_ne, bne_eq_false_iff_eq, Decidable.not_not] at hb))))
  | false =>
    refine ⟨true, PS_of (af := a44) rfl rfl ?_⟩
    unfold a44
    rw [h1] at v1
    dsimp only [List.map, ofPV, ftC, initEnv] at v1 ⊢
    simp only [keysR, h1, Bool.false_eq_true, if_false, strRow_nil]
    repeat' (first | (simp (disch := omega) only [go_sem, seval, reduceCtorEq]) | (apply x_pure; iterate 5 (first | exact v1 | ((try simp (disch := omega) only [go_sem, seval, reduceCtorEq]) <;> with_reducible exact rfl))) | ((first | apply x_split_cond | apply x_split_guard); all_goals (intro hb; (try simp only [Bool.not_eq_true', Bool.not_eq_false'] at hb); (simp (disch := omega) only [go_sem, seval, reduceCtorEq, hb]); (try simp only [decide_eq_true_eq, decide_eq_false_iff_not, beq_iff_eq, beq_eq_false_iff_ne, ne_eq, bne_iff_ne, bne_eq_false_iff_eq, Decidable.not_not] at hb))))

theorem ps_rproj (f : Ft) (fr to : ByteArray) (hf : fr.size ≤ 100) (ht : to.size ≤ 100) (h : ShF f) : PS tb 47 [.agg (ftC f), .agg [.str fr, .str to]] (.agg (ftC (projR f fr to))) := by
  have v1 := ps_rvalid f h
  refine PS_of (af := a47) rfl rfl ?_
  unfold a47
  dsimp only [List.map, ofPV, ftC, initEnv] at v1 ⊢
  cases h1 : validF f <;> cases h3 : f.all <;> simp only [projR, h1, h3, Bool.not_true, Bool.not_false, Bool.and_true, Bool.and_false, Bool.false_and, if_true, Bool.false_eq_true, if_false, strRow_nil]
  all_goals (rw [h1, h3] at v1; repeat' (first | (simp (disch := omega) only [go_sem, seval, reduceCtorEq, h3, strRow_nil]) | (apply x_pure; iterate 5 (first | exact v1 | exact ps_inside f.r f.br fr to hf ht h.1.1 | exact ps_inside f.w f.bw fr to hf ht h.2.1 | ((try simp (disch := omega) only [go_sem, seval, reduceCtorEq, h3, strRow_nil]) <;> with_reducible exact rfl))) | ((first | apply x_split_cond | apply x_split_guard); all_goals (intro hb; (try simp only [Bool.not_eq_true', Bool.not_eq_false'] at hb); (simp (disch := omega) only [go_sem, seval, reduceCtorEq, h3, strRow_nil, hb]); (try simp only [decide_eq_true_eq, decide_eq_false_iff_not, beq_iff_eq, beq_eq_false_iff_ne, ne_eq, bne_iff_ne, bne_eq_false_iff_eq, Decidable.not_not] at hb)))))

end Go.Dv.Try
