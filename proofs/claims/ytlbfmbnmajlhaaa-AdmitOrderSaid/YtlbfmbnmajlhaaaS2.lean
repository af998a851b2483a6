/-
  Specifications of chapter 38, part 2: blocked; small operations; lists of numbers.
-/
import Derived.Test.YtlbfmbnmajlhaaaS1
set_option linter.unusedVariables false
set_option linter.unusedSimpArgs false
set_option maxRecDepth 100000
set_option maxHeartbeats 1000000
namespace Go.Dv.Try
open Go Go.Dv

/-- Is the footprint held back at this key? -/
def heldAt (q : Qt) (adm : List Ft) (f : Ft) (k : ByteArray) : Bool := hasB (keysF f) k && decide (q.k ≤ (usersN adm k : Int))
def blkB (q : Qt) (hot : List ByteArray) (adm : List Ft) (f : Ft) : Bool := hot.any (heldAt q adm f)

theorem blk_no {q : Qt} {hot : List ByteArray} {adm : List Ft} {f : Ft} (h : ∀ j, j < hot.length → heldAt q adm f (hot.getD j E) = false) : blkB q hot adm f = false := by
  unfold blkB
  rw [List.any_eq_false]
  intro x hx
  obtain ⟨i, hi, rfl⟩ := List.mem_iff_getElem.1 hx
  have := h i hi
  rw [getD_get hot i hi] at this
  simp [this]
theorem blk_yes {q : Qt} {hot : List ByteArray} {adm : List Ft} {f : Ft} {i : Nat} (hi : i < hot.length) (h : heldAt q adm f (hot.getD i E) = true) : blkB q hot adm f = true := by
  unfold blkB
  rw [List.any_eq_true]
  rw [getD_get hot i hi] at h
  exact ⟨_, List.getElem_mem hi, h⟩

theorem l_rblk (q : Qt) (hot : List ByteArray) (b : Bool) (adm : List Ft) (c d : Bool) (f : Ft) (ho : okF f) (hl : hot.length ≤ 1000) (ha : adm.length ≤ 1000) (hs : ∀ f ∈ adm, okF f) (K : Ex → St → Prop) (hx : (∀ j, j < hot.length → (fun j => !heldAt q adm f (hot.getD j E)) j = true) → K (.exit 0) ⟨[], [], 0, [0]⟩)
    (hr : ∀ i, i < hot.length → (fun j => !heldAt q adm f (hot.getD j E)) i = false → ∀ s', aget s'.env 8 = some (.p (.bool true)) → K .ret s') : ∀ (m i : Nat), i + m = hot.length → (∀ j, j < i → (fun j => !heldAt q adm f (hot.getD j E)) j = true) →
    W tb a28_l0 ⟨[(1, .p (.slice b (strRow hot))), (2, .p (.slice c (ftRow adm))), (4, .ptr 0 0), (9, .p (.slice d (strRow (keysF f)))), (10, .p (.int .i64 i))], [(0, .var false [.p (.int .i64 q.b), .p (.int .i64 q.c), .p (.int .i64 q.k), .p (.int .i64 q.q)])], 1, [0]⟩ (LK tb (.ghost (.free [7]) (.ghost .lower a28_l0)) K) := by
  intro m
  induction m with
  | zero =>
    intro i hi ht
    have h1 : ¬ (i : Int) < hot.length := by omega
    refine i_code (by unfold a28_l0; exact rfl) ?_
    repeat' (first | (simp (disch := omega) only [go_sem, seval, reduceCtorEq, h1, strRow_length]) | ((first | apply x_split_cond | apply x_split_guard); all_goals (intro hb; (try simp only [Bool.not_eq_true', Bool.not_eq_false'] at hb); (simp (disch := omega) only [go_sem, seval, reduceCtorEq, h1, strRow_length, hb]); (try simp only [decide_eq_true_eq, decide_eq_false_iff_not, beq_iff_eq, beq_eq_false_iff_ne, ne_eq, bne_iff_ne, bne_eq_false_iff_eq, Decidable.not_not] at hb))))
    exact hx (fun j hj => ht j (by omega))
  | succ m ih =>
    intro i hi ht
    have h1 : (i : Int) < hot.length := by omega
    have h2 : i < hot.length := by omega
    have h4 : (0 : Int) ≤ i := by omega
    have h3 := strRow_get hot i h2
    have hq : heldAt q adm f (hot.getD i E) = (hasB (keysF f) hot[i] && decide (q.k ≤ (usersN adm hot[i] : Int))) := by rw [getD_get hot i h2]; rfl
    refine i_code (by unfold a28_l0; exact rfl) ?_
    repeat' (first | (simp (disch := omega) only [go_sem, seval, reduceCtorEq, h1, h4, strRow_length, h3]) | (apply x_pure; iterate 5 (first | exact ps_has (keysF f) _ d (keys_len ho) | exact ps_users adm _ c ha hs | ((try simp (disch := omega) only [go_sem, seval, reduceCtorEq, h1, h4, strRow_length, h3]) <;> with_reducible exact rfl))) | ((first | apply x_split_cond | apply x_split_guard); all_goals (intro hb; (try simp only [Bool.not_eq_true', Bool.not_eq_false'] at hb); (simp (disch := omega) only [go_sem, seval, reduceCtorEq, h1, h4, strRow_length, h3, hb]); (try simp only [decide_eq_true_eq, decide_eq_false_iff_not, beq_iff_eq, beq_eq_false_iff_ne, ne_eq, bne_iff_ne, bne_eq_false_iff_eq, Decidable.not_not] at hb))))
    all_goals first
      | (exfalso; omega)
      | exact hr i h2 (by (try dsimp only); rw [hq]; simp_all) _ rfl
      | (refine i_lk (W_round ?_)
         (try simp (disch := omega) only [go_sem, seval, reduceCtorEq, strRow_length])
         exact ih (i + 1) (by omega) (lt_step ht (by (try dsimp only); rw [hq]; simp_all)))


theorem ps_rblk (q : Qt) (hot : List ByteArray) (b : Bool) (adm : List Ft) (c : Bool) (f : Ft) (ho : okF f) (hl : hot.length ≤ 1000) (ha : adm.length ≤ 1000) (hs : ∀ f ∈ adm, okF f) :
    PS tb 28 [.agg (qC q), .slice b (strRow hot), .slice c (ftRow adm), .agg (ftC f)] (.bool (blkB q hot adm f)) := by
  obtain ⟨d, sk⟩ := ps_rkeys f ho.1 ho.2
  rw [← keys_same] at sk
  refine PS_of (af := a28) rfl rfl ?_
  unfold a28
  dsimp only [List.map, ofPV, qC, ftC, initEnv] at sk ⊢
  repeat' (first | (simp (disch := omega) only [go_sem, seval, reduceCtorEq, strRow_length]) | (apply x_pure; iterate 5 (first | exact sk | ((try simp (disch := omega) only [go_sem, seval, reduceCtorEq, strRow_length]) <;> with_reducible exact rfl))) | ((first | apply x_split_cond | apply x_split_guard); all_goals (intro hb; (try simp only [Bool.not_eq_true', Bool.not_eq_false'] at hb); (simp (disch := omega) only [go_sem, seval, reduceCtorEq, strRow_length, hb]); (try simp only [decide_eq_true_eq, decide_eq_false_iff_not, beq_iff_eq, beq_eq_false_iff_ne, ne_eq, bne_iff_ne, bne_eq_false_iff_eq, Decidable.not_not] at hb))))
  refine W_round ?_
  (try simp (disch := omega) only [go_sem, seval, reduceCtorEq])
  refine l_rblk q hot b adm c d f ho hl ha hs _ ?_ ?_ hot.length 0 (by omega) (by simp)
  · intro h
    (try simp (disch := omega) only [go_sem, seval, reduceCtorEq])
    have : blkB q hot adm f = false := blk_no fun j hj => by simpa using h j hj
    simp only [this, pur, dep]
  · intro i hi h s' hs'
    (try simp (disch := omega) only [go_sem, seval, reduceCtorEq, hs'])
    have : blkB q hot adm f = true := blk_yes hi (by simpa using h)
    simp only [this, pur, dep]

theorem l_fb0 (q : Qt) (hot : List ByteArray) (b : Bool) (adm : List Ft) (c : Bool) (f : Ft) (ha : adm.length ≤ 1000) (hs : ∀ f ∈ adm, okF f) (k : ByteArray) (n : Nat) (K : Ex → St → Prop)
    (hx : K (.exit 2) ⟨[(2, .p (.slice c (ftRow adm))), (4, .ptr 0 0), (7, .ptr 1 0), (11, .p (.int .i64 (usersN adm k))), (14, .p (.slice b (strRow hot))), (15, .p (.int .i64 hot.length)), (16, .p (.int .i64 n))], [(1, .var false [.p (.bool f.all), .p (.slice f.br (strRow f.r)), .p (.slice f.bw (strRow f.w))]), (0, .var false [.p (.int .i64 q.b), .p (.int .i64 q.c), .p (.int .i64 q.k), .p (.int .i64 q.q)])], 2, [0]⟩) : ∀ (m i : Nat), i + m = adm.length →
    W tb a27_l0 ⟨[(2, .p (.slice c (ftRow adm))), (4, .ptr 0 0), (7, .ptr 1 0), (10, .p (.str k)), (11, .p (.int .i64 (usersN (adm.take i) k))), (14, .p (.slice b (strRow hot))), (15, .p (.int .i64 hot.length)), (16, .p (.int .i64 n)), (24, .p (.slice c (ftRow adm))), (25, .p (.int .i64 adm.length)), (26, .p (.int .i64 i))], [(1, .var false [.p (.bool f.all), .p (.slice f.br (strRow f.r)), .p (.slice f.bw (strRow f.w))]), (0, .var false [.p (.int .i64 q.b), .p (.int .i64 q.c), .p (.int .i64 q.k), .p (.int .i64 q.q)])], 2, [0]⟩
      (LK tb (.ghost (.free [13]) (.ghost .lower a27_l0)) K) := by
  intro m
  induction m with
  | zero =>
    intro i hi
    have h1 : ¬ (i : Int) < adm.length := by omega
    rw [List.take_of_length_le (by omega)]
    refine i_code (by unfold a27_l0; exact rfl) ?_
    repeat' (first | (simp (disch := omega) only [go_sem, seval, reduceCtorEq, h1, ftRow_length]) | ((first | apply x_split_cond | apply x_split_guard); all_goals (intro hb; (try simp only [Bool.not_eq_true', Bool.not_eq_false'] at hb); (simp (disch := omega) only [go_sem, seval, reduceCtorEq, h1, ftRow_length, hb]); (try simp only [decide_eq_true_eq, decide_eq_false_iff_not, beq_iff_eq, beq_eq_false_iff_ne, ne_eq, bne_iff_ne, bne_eq_false_iff_eq, Decidable.not_not] at hb))))
    exact hx
  | succ m ih =>
    intro i hi
    have h1 : (i : Int) < adm.length := by omega
    have h2 : i < adm.length := by omega
    have h4 : (0 : Int) ≤ i := by omega
    have h3 := ftRow_get adm i h2
    have sc := ps_contains adm[i] k (hs adm[i] (List.getElem_mem h2))
    have h5 := users_step adm k i h2
    have h6 := users_le (adm.take i) k
    have h7 : (adm.take i).length ≤ 1000 := by simp; omega
    have ih := ih (i + 1) (by omega)
    refine i_code (by unfold a27_l0; exact rfl) ?_
    dsimp only [ftC] at sc h3
    repeat' (first | (simp (disch := omega) only [go_sem, seval, reduceCtorEq, h1, h4, ftRow_length, h3]) | (apply x_pure; iterate 5 (first | exact sc | ((try simp (disch := omega) only [go_sem, seval, reduceCtorEq, h1, h4, ftRow_length, h3]) <;> with_reducible exact rfl))) | ((first | apply x_split_cond | apply x_split_guard); all_goals (intro hb; (try simp only [Bool.not_eq_true', Bool.not_eq_false'] at hb); (simp (disch := omega) only [go_sem, seval, reduceCtorEq, h1, h4, ftRow_length, h3, hb]); (try simp only [decide_eq_true_eq, decide_eq_false_iff_not, beq_iff_eq, beq_eq_false_iff_ne, ne_eq, bne_iff_ne, bne_eq_false_iff_eq, Decidable.not_not] at hb))))
    all_goals
      rw [h5, hb] at ih
      simp only [Bool.false_eq_true, reduceIte, Nat.add_zero] at ih
      refine i_lk (W_round ?_)
      (try simp (disch := omega) only [go_sem, seval, reduceCtorEq])
      exact ih

theorem l_fb1 (q : Qt) (hot : List ByteArray) (b : Bool) (adm : List Ft) (c : Bool) (f : Ft) (ho : okF f) (hl : hot.length ≤ 1000) (ha : adm.length ≤ 1000) (hs : ∀ f ∈ adm, okF f) (K : Ex → St → Prop)
    (hx : (∀ j, j < hot.length → (fun j => !heldAt q adm f (hot.getD j E)) j = true) → K (.exit 0) ⟨[], [], 0, [0]⟩)
    (hr : ∀ i, i < hot.length → (fun j => !heldAt q adm f (hot.getD j E)) i = false → ∀ s', aget s'.env 8 = some (.p (.bool true)) → K .ret s') : ∀ (m i : Nat), i + m = hot.length → (∀ j, j < i → (fun j => !heldAt q adm f (hot.getD j E)) j = true) →
    W tb a27_l1 ⟨[(2, .p (.slice c (ftRow adm))), (4, .ptr 0 0), (7, .ptr 1 0), (14, .p (.slice b (strRow hot))), (15, .p (.int .i64 hot.length)), (16, .p (.int .i64 i))], [(1, .var false [.p (.bool f.all), .p (.slice f.br (strRow f.r)), .p (.slice f.bw (strRow f.w))]), (0, .var false [.p (.int .i64 q.b), .p (.int .i64 q.c), .p (.int .i64 q.k), .p (.int .i64 q.q)])], 2, [0]⟩
      (LK tb (.ghost .lower a27_l1) K) := by
  intro m
  induction m with
  | zero =>
    intro i hi ht
    have h1 : ¬ (i : Int) < hot.length := by omega
    refine i_code (by unfold a27_l1; exact rfl) ?_
    repeat' (first | (simp (disch := omega) only [go_sem, seval, reduceCtorEq, h1, strRow_length]) | ((first | apply x_split_cond | apply x_split_guard); all_goals (intro hb; (try simp only [Bool.not_eq_true', Bool.not_eq_false'] at hb); (simp (disch := omega) only [go_sem, seval, reduceCtorEq, h1, strRow_length, hb]); (try simp only [decide_eq_true_eq, decide_eq_false_iff_not, beq_iff_eq, beq_eq_false_iff_ne, ne_eq, bne_iff_ne, bne_eq_false_iff_eq, Decidable.not_not] at hb))))
    exact hx (fun j hj => ht j (by omega))
  | succ m ih =>
    intro i hi ht
    have h1 : (i : Int) < hot.length := by omega
    have h2 : i < hot.length := by omega
    have h4 : (0 : Int) ≤ i := by omega
    have h3 := strRow_get hot i h2
    have hq : heldAt q adm f (hot.getD i E) = (hasB (keysF f) hot[i] && decide (q.k ≤ (usersN adm hot[i] : Int))) := by rw [getD_get hot i h2]; rfl
    have sc := ps_contains f hot[i] ho
    dsimp only [ftC] at sc
    refine i_code (by unfold a27_l1; exact rfl) ?_
    repeat' (first | (simp (disch := omega) only [go_sem, seval, reduceCtorEq, h1, h4, strRow_length, h3, ftRow_length]) | (apply x_pure; iterate 5 (first | exact sc | ((try simp (disch := omega) only [go_sem, seval, reduceCtorEq, h1, h4, strRow_length, h3, ftRow_length]) <;> with_reducible exact rfl))) | ((first | apply x_split_cond | apply x_split_guard); all_goals (intro hb; (try simp only [Bool.not_eq_true', Bool.not_eq_false'] at hb); (simp (disch := omega) only [go_sem, seval, reduceCtorEq, h1, h4, strRow_length, h3, ftRow_length, hb]); (try simp only [decide_eq_true_eq, decide_eq_false_iff_not, beq_iff_eq, beq_eq_false_iff_ne, ne_eq, bne_iff_ne, bne_eq_false_iff_eq, Decidable.not_not] at hb))))
    · refine i_lk (W_round ?_)
      (try simp (disch := omega) only [go_sem, seval, reduceCtorEq, strRow_length])
      exact ih (i + 1) (by omega) (lt_step ht (by (try dsimp only); rw [hq]; simp_all))
    · refine W_round ?_
      (try simp (disch := omega) only [go_sem, seval, reduceCtorEq])
      refine l_fb0 q hot b adm c f ha hs hot[i] i _ ?_ adm.length 0 (by omega)
      repeat' (first | (simp (disch := omega) only [go_sem, seval, reduceCtorEq]) | ((first | apply x_split_cond | apply x_split_guard); all_goals (intro hb; (try simp only [Bool.not_eq_true', Bool.not_eq_false'] at hb); (simp (disch := omega) only [go_sem, seval, reduceCtorEq, hb]); (try simp only [decide_eq_true_eq, decide_eq_false_iff_not, beq_iff_eq, beq_eq_false_iff_ne, ne_eq, bne_iff_ne, bne_eq_false_iff_eq, Decidable.not_not] at hb))))
      all_goals first
        | exact hr i h2 (by (try dsimp only); rw [hq]; simp_all) _ rfl
        | (refine i_lk (W_round ?_)
           (try simp (disch := omega) only [go_sem, seval, reduceCtorEq, strRow_length])
           exact ih (i + 1) (by omega) (lt_step ht (by (try dsimp only); rw [hq]; simp_all)))

theorem ps_fblk (q : Qt) (hot : List ByteArray) (b : Bool) (adm : List Ft) (c : Bool) (f : Ft) (ho : okF f) (hl : hot.length ≤ 1000) (ha : adm.length ≤ 1000) (hs : ∀ f ∈ adm, okF f) :
    PS tb 27 [.agg (qC q), .slice b (strRow hot), .slice c (ftRow adm), .agg (ftC f)] (.bool (blkB q hot adm f)) := by
  refine PS_of (af := a27) rfl rfl ?_
  unfold a27
  dsimp only [List.map, ofPV, qC, ftC, initEnv]
  repeat' (first | (simp (disch := omega) only [go_sem, seval, reduceCtorEq, strRow_length]) | ((first | apply x_split_cond | apply x_split_guard); all_goals (intro hb; (try simp only [Bool.not_eq_true', Bool.not_eq_false'] at hb); (simp (disch := omega) only [go_sem, seval, reduceCtorEq, strRow_length, hb]); (try simp only [decide_eq_true_eq, decide_eq_false_iff_not, beq_iff_eq, beq_eq_false_iff_ne, ne_eq, bne_iff_ne, bne_eq_false_iff_eq, Decidable.not_not] at hb))))
  refine W_round ?_
  (try simp (disch := omega) only [go_sem, seval, reduceCtorEq])
  refine l_fb1 q hot b adm c f ho hl ha hs _ ?_ ?_ hot.length 0 (by omega) (by simp)
  · intro h
    (try simp (disch := omega) only [go_sem, seval, reduceCtorEq])
    have : blkB q hot adm f = false := blk_no fun j hj => by simpa using h j hj
    simp only [this, pur, dep]
  · intro i hi h s' hs'
    (try simp (disch := omega) only [go_sem, seval, reduceCtorEq, hs'])
    have : blkB q hot adm f = true := blk_yes hi (by simpa using h)
    simp only [this, pur, dep]

/-! ### small operations -/

theorem l_rf0 (l : List Ft) (b : Bool) (hl : l.length ≤ 1000) (K : Ex → St → Prop) (hx : (∀ j, j < l.length → (fun j => fewF 8 (l.getD j F0)) j = true) → K (.exit 2) ⟨[], [], 0, [0]⟩)
    (hr : ∀ i, i < l.length → (fun j => fewF 8 (l.getD j F0)) i = false → ∀ s', aget s'.env 6 = some (.p (.bool false)) → K .ret s') : ∀ (m i : Nat), i + m = l.length → (∀ j, j < i → (fun j => fewF 8 (l.getD j F0)) j = true) →
    W tb a24_l0 ⟨[(2, .p (.slice b (ftRow l))), (8, .p (.int .i64 i))], [], 0, [0]⟩ (LK tb (.ghost .lower a24_l0) K) := by
  intro m
  induction m with
  | zero =>
    intro i hi ht
    have h1 : ¬ (i : Int) < l.length := by omega
    refine i_code (by unfold a24_l0; exact rfl) ?_
    repeat' (first | (simp (disch := omega) only [go_sem, seval, reduceCtorEq, h1, ftRow_length]) | ((first | apply x_split_cond | apply x_split_guard); all_goals (intro hb; (try simp only [Bool.not_eq_true', Bool.not_eq_false'] at hb); (simp (disch := omega) only [go_sem, seval, reduceCtorEq, h1, ftRow_length, hb]); (try simp only [decide_eq_true_eq, decide_eq_false_iff_not, beq_iff_eq, beq_eq_false_iff_ne, ne_eq, bne_iff_ne, bne_eq_false_iff_eq, Decidable.not_not] at hb))))
    exact hx (fun j hj => ht j (by omega))
  | succ m ih =>
    intro i hi ht
    have h1 : (i : Int) < l.length := by omega
    have h2 : i < l.length := by omega
    have h4 : (0 : Int) ≤ i := by omega
    have h3 := ftRow_get l i h2
    have hq : fewF 8 (l.getD i F0) = fewF 8 l[i] := by rw [getF_get l i h2]
    refine i_code (by unfold a24_l0; exact rfl) ?_
    repeat' (first | (simp (disch := omega) only [go_sem, seval, reduceCtorEq, h1, h4, ftRow_length, h3, ftC]) | (apply x_pure; iterate 5 (first | exact ps_few _ 8 (by omega) | ((try simp (disch := omega) only [go_sem, seval, reduceCtorEq, h1, h4, ftRow_length, h3, ftC]) <;> with_reducible exact rfl))) | ((first | apply x_split_cond | apply x_split_guard); all_goals (intro hb; (try simp only [Bool.not_eq_true', Bool.not_eq_false'] at hb); (simp (disch := omega) only [go_sem, seval, reduceCtorEq, h1, h4, ftRow_length, h3, ftC, hb]); (try simp only [decide_eq_true_eq, decide_eq_false_iff_not, beq_iff_eq, beq_eq_false_iff_ne, ne_eq, bne_iff_ne, bne_eq_false_iff_eq, Decidable.not_not] at hb))))
    all_goals first
      | (exfalso; omega)
      | exact hr i h2 (by (try dsimp only); rw [hq]; simp [hb]) _ rfl
      | (refine i_lk (W_round ?_)
         (try simp (disch := omega) only [go_sem, seval, reduceCtorEq, ftRow_length])
         exact ih (i + 1) (by omega) (lt_step ht (by (try dsimp only); rw [hq]; simp [hb])))

theorem l_rf1 (hot : List ByteArray) (b : Bool) (l : List Ft) (c : Bool) (hl : hot.length ≤ 1000) (K : Ex → St → Prop) (hx : (∀ j, j < hot.length → (fun j => shortB (hot.getD j E)) j = true) → K (.exit 0) ⟨[(2, .p (.slice c (ftRow l)))], [], 0, [0]⟩)
    (hr : ∀ i, i < hot.length → (fun j => shortB (hot.getD j E)) i = false → ∀ s', aget s'.env 6 = some (.p (.bool false)) → K .ret s') : ∀ (m i : Nat), i + m = hot.length → (∀ j, j < i → (fun j => shortB (hot.getD j E)) j = true) →
    W tb a24_l1 ⟨[(0, .p (.slice b (strRow hot))), (2, .p (.slice c (ftRow l))), (7, .p (.int .i64 i))], [], 0, [0]⟩ (LK tb (.ghost .lower a24_l1) K) := by
  intro m
  induction m with
  | zero =>
    intro i hi ht
    have h1 : ¬ (i : Int) < hot.length := by omega
    refine i_code (by unfold a24_l1; exact rfl) ?_
    repeat' (first | (simp (disch := omega) only [go_sem, seval, reduceCtorEq, h1, strRow_length]) | ((first | apply x_split_cond | apply x_split_guard); all_goals (intro hb; (try simp only [Bool.not_eq_true', Bool.not_eq_false'] at hb); (simp (disch := omega) only [go_sem, seval, reduceCtorEq, h1, strRow_length, hb]); (try simp only [decide_eq_true_eq, decide_eq_false_iff_not, beq_iff_eq, beq_eq_false_iff_ne, ne_eq, bne_iff_ne, bne_eq_false_iff_eq, Decidable.not_not] at hb))))
    exact hx (fun j hj => ht j (by omega))
  | succ m ih =>
    intro i hi ht
    have h1 : (i : Int) < hot.length := by omega
    have h2 : i < hot.length := by omega
    have h4 : (0 : Int) ≤ i := by omega
    have h3 := strRow_get hot i h2
    have hq : shortB (hot.getD i E) = decide (hot[i].size ≤ 100) := by rw [getD_get hot i h2]; rfl
    refine i_code (by unfold a24_l1; exact rfl) ?_
    repeat' (first | (simp (disch := omega) only [go_sem, seval, reduceCtorEq, h1, h4, strRow_length, h3]) | ((first | apply x_split_cond | apply x_split_guard); all_goals (intro hb; (try simp only [Bool.not_eq_true', Bool.not_eq_false'] at hb); (simp (disch := omega) only [go_sem, seval, reduceCtorEq, h1, h4, strRow_length, h3, hb]); (try simp only [decide_eq_true_eq, decide_eq_false_iff_not, beq_iff_eq, beq_eq_false_iff_ne, ne_eq, bne_iff_ne, bne_eq_false_iff_eq, Decidable.not_not] at hb))))
    all_goals first
      | (exfalso; omega)
      | exact hr i h2 (by (try dsimp only); rw [hq]; simp; omega) _ rfl
      | (refine i_lk (W_round ?_)
         (try simp (disch := omega) only [go_sem, seval, reduceCtorEq, strRow_length])
         exact ih (i + 1) (by omega) (lt_step ht (by (try dsimp only); rw [hq]; simp; omega)))


/-- The requests of a queue: the client, and what else a request has. -/
structure Rq where
  c : Int
  x1 : PV
  x2 : PV
  x3 : PV
  x4 : PV
  x5 : PV
  x6 : PV
  x7 : PV

def rqC (r : Rq) : List PV := [.int .i64 r.c, r.x1, r.x2, r.x3, r.x4, r.x5, r.x6, r.x7]
def rqRow (l : List Rq) : List (List PV) := l.map rqC
theorem rqRow_length (l : List Rq) : (rqRow l).length = l.length := by simp [rqRow]
theorem rqRow_get (l : List Rq) (i : Nat) (h : i < l.length) : (rqRow l)[i]? = some (rqC l[i]) := by simp [rqRow, h]

def few38 (hot : List ByteArray) (n : Nat) (l : List Ft) : Bool := decide (hot.length ≤ 8) && (decide (n ≤ 16) && (decide (l.length ≤ 16) && (hot.all shortB && l.all (fewF 8))))

theorem all_of {α : Type} (l : List α) (p : α → Bool) (d : α) (h : ∀ j, j < l.length → p (l.getD j d) = true) : l.all p = true := by
  rw [List.all_eq_true]
  intro x hx
  obtain ⟨i, hi, rfl⟩ := List.mem_iff_getElem.1 hx
  have := h i hi
  rwa [List.getD_eq_getElem?_getD, List.getElem?_eq_getElem hi] at this
theorem all_not {α : Type} (l : List α) (p : α → Bool) (d : α) (i : Nat) (hi : i < l.length) (h : p (l.getD i d) = false) : l.all p = false := by
  rw [List.getD_eq_getElem?_getD, List.getElem?_eq_getElem hi] at h
  exact all_no _ _ i hi h

theorem ps_rfew (hot : List ByteArray) (b : Bool) (qu : List Rq) (d : Bool) (l : List Ft) (c : Bool) :
    PS tb 24 [.slice b (strRow hot), .slice d (rqRow qu), .slice c (ftRow l)] (.bool (few38 hot qu.length l)) := by
  refine PS_of (af := a24) rfl rfl ?_
  unfold a24
  dsimp only [List.map, ofPV, initEnv]
  repeat' (first | (simp (disch := omega) only [go_sem, seval, reduceCtorEq, strRow_length, rqRow_length, ftRow_length]) | ((first | apply x_split_cond | apply x_split_guard); all_goals (intro hb; (try simp only [Bool.not_eq_true', Bool.not_eq_false'] at hb); (simp (disch := omega) only [go_sem, seval, reduceCtorEq, strRow_length, rqRow_length, ftRow_length, hb]); (try simp only [decide_eq_true_eq, decide_eq_false_iff_not, beq_iff_eq, beq_eq_false_iff_ne, ne_eq, bne_iff_ne, bne_eq_false_iff_eq, Decidable.not_not] at hb))))
  · have : few38 hot qu.length l = false := by unfold few38; rw [decide_eq_false (by omega : ¬ l.length ≤ 16)]; simp
    simp only [this, pur, dep]
  · refine W_round ?_
    (try simp (disch := omega) only [go_sem, seval, reduceCtorEq])
    refine l_rf1 hot b l c (by omega) _ ?_ ?_ hot.length 0 (by omega) (by simp)
    · intro ha
      (try simp (disch := omega) only [go_sem, seval, reduceCtorEq])
      refine W_round ?_
      (try simp (disch := omega) only [go_sem, seval, reduceCtorEq])
      refine l_rf0 l c (by omega) _ ?_ ?_ l.length 0 (by omega) (by simp)
      · intro hf
        (try simp (disch := omega) only [go_sem, seval, reduceCtorEq])
        have e1 := all_of hot shortB E ha
        have e2 := all_of l (fewF 8) F0 hf
        have : few38 hot qu.length l = true := by unfold few38; rw [e1, e2]; simp; omega
        simp only [this, pur, dep]
      · intro i hi h s' hs'
        (try simp (disch := omega) only [go_sem, seval, reduceCtorEq, hs'])
        have e2 := all_not l (fewF 8) F0 i hi h
        have : few38 hot qu.length l = false := by unfold few38; rw [e2]; simp
        simp only [this, pur, dep]
    · intro i hi h s' hs'
      (try simp (disch := omega) only [go_sem, seval, reduceCtorEq, hs'])
      have e2 := all_not hot shortB E i hi h
      have : few38 hot qu.length l = false := by unfold few38; rw [e2]; simp
      simp only [this, pur, dep]
  · have : few38 hot qu.length l = false := by unfold few38; rw [decide_eq_false (by omega : ¬ qu.length ≤ 16)]; simp
    simp only [this, pur, dep]
  · have : few38 hot qu.length l = false := by unfold few38; rw [decide_eq_false (by omega : ¬ hot.length ≤ 8)]; simp
    simp only [this, pur, dep]

end Go.Dv.Try
