/-
  Specifications, part 3: footprints: valid, equal, small.
-/
import Derived.Test.YtlbfmbnmajlhaaaF2
set_option linter.unusedVariables false
set_option linter.unusedSimpArgs false
set_option maxRecDepth 100000
set_option maxHeartbeats 1000000
namespace Go.Dv.Try
open Go Go.Dv

/-- A footprint; 'br', 'bw': are the lists without room? -/
structure Ft where
  all : Bool
  br : Bool
  r : List ByteArray
  bw : Bool
  w : List ByteArray

def ftC (f : Ft) : List PV := [.bool f.all, .slice f.br (strRow f.r), .slice f.bw (strRow f.w)]

def ShF (f : Ft) : Prop := Sh f.r ∧ Sh f.w

def validF (f : Ft) : Bool := if f.all then decide (f.r.length = 0) && decide (f.w.length = 0) else (ascB f.r && decide (f.r.length ≤ 64)) && (ascB f.w && decide (f.w.length ≤ 64))

theorem ps_fvalid (f : Ft) (h : ShF f) : PS tb 37 [.agg (ftC f)] (.bool (validF f)) := by
  refine PS_of (af := a37) rfl rfl ?_
  unfold a37
  dsimp only [List.map, ofPV, ftC, initEnv]
  have h1 := h.1.1
  have h2 := h.2.1
  cases hf : f.all with
  | true =>
    repeat' (first | (simp (disch := omega) only [go_sem, seval, reduceCtorEq, strRow_length]) | ((first | apply x_split_cond | apply x_split_guard); all_goals (intro hb; (try simp only [Bool.not_eq_true', Bool.not_eq_false'] at hb); (simp (disch := omega) only [go_sem, seval, reduceCtorEq, strRow_length, hb]); (try simp only [decide_eq_true_eq, decide_eq_false_iff_not, beq_iff_eq, beq_eq_false_iff_ne, ne_eq, bne_iff_ne, bne_eq_false_iff_eq, Decidable.not_not] at hb))))
    all_goals simp only [pur, dep, Option.some.injEq, PV.bool.injEq, validF, hf, if_true]
    · rw [decide_eq_true (by omega : f.r.length = 0), Bool.true_and]; exact decide_eq_decide.2 (by omega)
    · rw [decide_eq_false (by omega : ¬ f.r.length = 0), Bool.false_and]
  | false =>
    repeat' (first | (simp (disch := omega) only [go_sem, seval, reduceCtorEq, strRow_length]) | (apply x_pure; iterate 5 (first | exact ps_fasc f.r f.br h.1 | exact ps_fasc f.w f.bw h.2 | ((try simp (disch := omega) only [go_sem, seval, reduceCtorEq, strRow_length]) <;> with_reducible exact rfl))) | ((first | apply x_split_cond | apply x_split_guard); all_goals (intro hb; (try simp only [Bool.not_eq_true', Bool.not_eq_false'] at hb); (simp (disch := omega) only [go_sem, seval, reduceCtorEq, strRow_length, hb]); (try simp only [decide_eq_true_eq, decide_eq_false_iff_not, beq_iff_eq, beq_eq_false_iff_ne, ne_eq, bne_iff_ne, bne_eq_false_iff_eq, Decidable.not_not] at hb))))
    all_goals simp only [pur, dep, Option.some.injEq, PV.bool.injEq, validF, hf, Bool.false_eq_true, if_false, hb, Bool.true_and, Bool.false_and]

theorem ps_rvalid (f : Ft) (h : ShF f) : PS tb 40 [.agg (ftC f)] (.bool (validF f)) := by
  refine PS_of (af := a40) rfl rfl ?_
  unfold a40
  dsimp only [List.map, ofPV, ftC, initEnv]
  have h1 := h.1.1
  have h2 := h.2.1
  cases hf : f.all with
  | true =>
    repeat' (first | (simp (disch := omega) only [go_sem, seval, reduceCtorEq, strRow_length]) | ((first | apply x_split_cond | apply x_split_guard); all_goals (intro hb; (try simp only [Bool.not_eq_true', Bool.not_eq_false'] at hb); (simp (disch := omega) only [go_sem, seval, reduceCtorEq, strRow_length, hb]); (try simp only [decide_eq_true_eq, decide_eq_false_iff_not, beq_iff_eq, beq_eq_false_iff_ne, ne_eq, bne_iff_ne, bne_eq_false_iff_eq, Decidable.not_not] at hb))))
    all_goals simp only [pur, dep, Option.some.injEq, PV.bool.injEq, validF, hf, if_true]
    · rw [decide_eq_true (by omega : f.r.length = 0), Bool.true_and]; exact decide_eq_decide.2 (by omega)
    · rw [decide_eq_false (by omega : ¬ f.r.length = 0), Bool.false_and]
  | false =>
    have e1 : decide ((f.r.length : Int) ≤ 64) = decide (f.r.length ≤ 64) := decide_eq_decide.2 (by omega)
    have e2 : decide ((f.w.length : Int) ≤ 64) = decide (f.w.length ≤ 64) := decide_eq_decide.2 (by omega)
    simp only [validF, hf, Bool.false_eq_true, if_false]
    generalize ha : decide (f.r.length ≤ 64) = A at e1 ⊢
    generalize hc : decide (f.w.length ≤ 64) = C at e2 ⊢
    cases A <;> cases C <;> (repeat' (first | (simp (disch := omega) only [go_sem, seval, reduceCtorEq, strRow_length, e1, e2]) | (apply x_pure; iterate 5 (first | exact ps_r4asc f.r f.br h.1 | exact ps_r4asc f.w f.bw h.2 | ((try simp (disch := omega) only [go_sem, seval, reduceCtorEq, strRow_length, e1, e2]) <;> with_reducible exact rfl))) | ((first | apply x_split_cond | apply x_split_guard); all_goals (intro hb; (try simp only [Bool.not_eq_true', Bool.not_eq_false'] at hb); (simp (disch := omega) only [go_sem, seval, reduceCtorEq, strRow_length, e1, e2, hb]); (try simp only [decide_eq_true_eq, decide_eq_false_iff_not, beq_iff_eq, beq_eq_false_iff_ne, ne_eq, bne_iff_ne, bne_eq_false_iff_eq, Decidable.not_not] at hb)))))
    all_goals simp_all [pur, dep]

/-- Equal footprints. -/
def sameF (f g : Ft) : Bool := (f.all == g.all) && (decide (f.r = g.r) && decide (f.w = g.w))

theorem ps_rsame (f g : Ft) (h : ShF f) : PS tb 19 [.agg (ftC f), .agg (ftC g)] (.bool (sameF f g)) := by
  refine PS_of (af := a19) rfl rfl ?_
  unfold a19
  dsimp only [List.map, ofPV, ftC, initEnv]
  have h1 := h.1.1
  have h2 := h.2.1
  repeat' (first | (simp (disch := omega) only [go_sem, seval, reduceCtorEq]) | (apply x_pure; iterate 5 (first | exact ps_same f.r g.r f.br g.br h1 | exact ps_same f.w g.w f.bw g.bw h2 | ((try simp (disch := omega) only [go_sem, seval, reduceCtorEq]) <;> with_reducible exact rfl))) | ((first | apply x_split_cond | apply x_split_guard); all_goals (intro hb; (try simp only [Bool.not_eq_true', Bool.not_eq_false'] at hb); (simp (disch := omega) only [go_sem, seval, reduceCtorEq, hb]); (try simp only [decide_eq_true_eq, decide_eq_false_iff_not, beq_iff_eq, beq_eq_false_iff_ne, ne_eq, bne_iff_ne, bne_eq_false_iff_eq, Decidable.not_not] at hb))))
  all_goals simp_all [sameF, pur, dep]

theorem ps_fsame (f g : Ft) (h : ShF f) : PS tb 41 [.agg (ftC f), .agg (ftC g)] (.bool (sameF f g)) := by
  refine PS_of (af := a41) rfl rfl ?_
  unfold a41
  dsimp only [List.map, ofPV, ftC, initEnv]
  have h1 := h.1.1
  have h2 := h.2.1
  repeat' (first | (simp (disch := omega) only [go_sem, seval, reduceCtorEq]) | (apply x_pure; iterate 5 (first | exact ps_equal f.r g.r f.br g.br h1 | exact ps_equal f.w g.w f.bw g.bw h2 | ((try simp (disch := omega) only [go_sem, seval, reduceCtorEq]) <;> with_reducible exact rfl))) | ((first | apply x_split_cond | apply x_split_guard); all_goals (intro hb; (try simp only [Bool.not_eq_true', Bool.not_eq_false'] at hb); (simp (disch := omega) only [go_sem, seval, reduceCtorEq, hb]); (try simp only [decide_eq_true_eq, decide_eq_false_iff_not, beq_iff_eq, beq_eq_false_iff_ne, ne_eq, bne_iff_ne, bne_eq_false_iff_eq, Decidable.not_not] at hb))))
  all_goals simp_all [sameF, pur, dep]

/-! ### small ones -/

def shortB (s : ByteArray) : Bool := decide (s.size ≤ 100)

theorem l_fewr (f : Ft) (hl : f.r.length ≤ 1000) (K : Ex → St → Prop) (hx : (∀ j, j < f.r.length → (fun j => shortB (f.r.getD j E)) j = true) → K (.exit 0) ⟨[(2, .ptr 0 0)], [(0, .var false [.p (.bool f.all), .p (.slice f.br (strRow f.r)), .p (.slice f.bw (strRow f.w))])], 1, [0]⟩)
    (hr : ∀ i, i < f.r.length → (fun j => shortB (f.r.getD j E)) i = false → ∀ s', aget s'.env 4 = some (.p (.bool false)) → K .ret s') : ∀ (m i : Nat), i + m = f.r.length → (∀ j, j < i → (fun j => shortB (f.r.getD j E)) j = true) →
    W tb a50_l1 ⟨[(2, .ptr 0 0), (5, .p (.int .i64 i))], [(0, .var false [.p (.bool f.all), .p (.slice f.br (strRow f.r)), .p (.slice f.bw (strRow f.w))])], 1, [0]⟩ (LK tb (.ghost .lower a50_l1) K) := by
  intro m
  induction m with
  | zero =>
    intro i hi ht
    have h1 : ¬ (i : Int) < f.r.length := by omega
    refine i_code (by unfold a50_l1; exact rfl) ?_
    repeat' (first | (simp (disch := omega) only [go_sem, seval, reduceCtorEq, h1, strRow_length]) | ((first | apply x_split_cond | apply x_split_guard); all_goals (intro hb; (try simp only [Bool.not_eq_true', Bool.not_eq_false'] at hb); (simp (disch := omega) only [go_sem, seval, reduceCtorEq, h1, strRow_length, hb]); (try simp only [decide_eq_true_eq, decide_eq_false_iff_not, beq_iff_eq, beq_eq_false_iff_ne, ne_eq, bne_iff_ne, bne_eq_false_iff_eq, Decidable.not_not] at hb))))
    exact hx (fun j hj => ht j (by omega))
  | succ m ih =>
    intro i hi ht
    have h1 : (i : Int) < f.r.length := by omega
    have h2 : i < f.r.length := by omega
    have h4 : (0 : Int) ≤ i := by omega
    have h3 := strRow_get f.r i h2
    have hq : shortB (f.r.getD i E) = shortB f.r[i] := by rw [getD_get f.r i h2]
    refine i_code (by unfold a50_l1; exact rfl) ?_
    repeat' (first | (simp (disch := omega) only [go_sem, seval, reduceCtorEq, h1, h4, strRow_length, h3]) | ((first | apply x_split_cond | apply x_split_guard); all_goals (intro hb; (try simp only [Bool.not_eq_true', Bool.not_eq_false'] at hb); (simp (disch := omega) only [go_sem, seval, reduceCtorEq, h1, h4, strRow_length, h3, hb]); (try simp only [decide_eq_true_eq, decide_eq_false_iff_not, beq_iff_eq, beq_eq_false_iff_ne, ne_eq, bne_iff_ne, bne_eq_false_iff_eq, Decidable.not_not] at hb))))
    all_goals first
      | (exfalso; omega)
      | exact hr i h2 (by (try dsimp only); rw [hq]; exact decide_eq_false (by omega)) _ rfl
      | (refine i_lk (W_round ?_)
         (try simp (disch := omega) only [go_sem, seval, reduceCtorEq, strRow_length])
         exact ih (i + 1) (by omega) (lt_step ht (by (try dsimp only); rw [hq]; exact decide_eq_true (by omega))))

theorem l_feww (f : Ft) (hl : f.w.length ≤ 1000) (K : Ex → St → Prop) (hx : (∀ j, j < f.w.length → (fun j => shortB (f.w.getD j E)) j = true) → K (.exit 2) ⟨[], [], 0, [0]⟩)
    (hr : ∀ i, i < f.w.length → (fun j => shortB (f.w.getD j E)) i = false → ∀ s', aget s'.env 4 = some (.p (.bool false)) → K .ret s') : ∀ (m i : Nat), i + m = f.w.length → (∀ j, j < i → (fun j => shortB (f.w.getD j E)) j = true) →
    W tb a50_l0 ⟨[(2, .ptr 0 0), (6, .p (.int .i64 i))], [(0, .var false [.p (.bool f.all), .p (.slice f.br (strRow f.r)), .p (.slice f.bw (strRow f.w))])], 1, [0]⟩ (LK tb (.ghost .lower a50_l0) K) := by
  intro m
  induction m with
  | zero =>
    intro i hi ht
    have h1 : ¬ (i : Int) < f.w.length := by omega
    refine i_code (by unfold a50_l0; exact rfl) ?_
    repeat' (first | (simp (disch := omega) only [go_sem, seval, reduceCtorEq, h1, strRow_length]) | ((first | apply x_split_cond | apply x_split_guard); all_goals (intro hb; (try simp only [Bool.not_eq_true', Bool.not_eq_false'] at hb); (simp (disch := omega) only [go_sem, seval, reduceCtorEq, h1, strRow_length, hb]); (try simp only [decide_eq_true_eq, decide_eq_false_iff_not, beq_iff_eq, beq_eq_false_iff_ne, ne_eq, bne_iff_ne, bne_eq_false_iff_eq, Decidable.not_not] at hb))))
    exact hx (fun j hj => ht j (by omega))
  | succ m ih =>
    intro i hi ht
    have h1 : (i : Int) < f.w.length := by omega
    have h2 : i < f.w.length := by omega
    have h4 : (0 : Int) ≤ i := by omega
    have h3 := strRow_get f.w i h2
    have hq : shortB (f.w.getD i E) = shortB f.w[i] := by rw [getD_get f.w i h2]
    refine i_code (by unfold a50_l0; exact rfl) ?_
    repeat' (first | (simp (disch := omega) only [go_sem, seval, reduceCtorEq, h1, h4, strRow_length, h3]) | ((first | apply x_split_cond | apply x_split_guard); all_goals (intro hb; (try simp only [Bool.not_eq_true', Bool.not_eq_false'] at hb); (simp (disch := omega) only [go_sem, seval, reduceCtorEq, h1, h4, strRow_length, h3, hb]); (try simp only [decide_eq_true_eq, decide_eq_false_iff_not, beq_iff_eq, beq_eq_false_iff_ne, ne_eq, bne_iff_ne, bne_eq_false_iff_eq, Decidable.not_not] at hb))))
    all_goals first
      | (exfalso; omega)
      | exact hr i h2 (by (try dsimp only); rw [hq]; exact decide_eq_false (by omega)) _ rfl
      | (refine i_lk (W_round ?_)
         (try simp (disch := omega) only [go_sem, seval, reduceCtorEq, strRow_length])
         exact ih (i + 1) (by omega) (lt_step ht (by (try dsimp only); rw [hq]; exact decide_eq_true (by omega))))

def fewF (n : Nat) (f : Ft) : Bool := decide (f.r.length ≤ n) && decide (f.w.length ≤ n) && f.r.all shortB && f.w.all shortB

theorem fewF_sh {n : Nat} {f : Ft} (h : fewF n f = true) (hn : n ≤ 1000) : ShF f := by
  simp only [fewF, Bool.and_eq_true, decide_eq_true_eq, List.all_eq_true, shortB] at h
  exact ⟨⟨by omega, h.1.2⟩, ⟨by omega, h.2⟩⟩

theorem ps_few (f : Ft) (n : Nat) (hn : n ≤ 1000) : PS tb 50 [.agg (ftC f), .int .i64 n] (.bool (fewF n f)) := by
  refine PS_of (af := a50) rfl rfl ?_
  unfold a50
  dsimp only [List.map, ofPV, ftC, initEnv]
  by_cases hr : f.r.length ≤ n
  · have hr' : ¬ (n : Int) < f.r.length := by omega
    by_cases hw : f.w.length ≤ n
    · have hw' : ¬ (n : Int) < f.w.length := by omega
      repeat' (first | (simp (disch := omega) only [go_sem, seval, reduceCtorEq, strRow_length, hr', hw']) | ((first | apply x_split_cond | apply x_split_guard); all_goals (intro hb; (try simp only [Bool.not_eq_true', Bool.not_eq_false'] at hb); (simp (disch := omega) only [go_sem, seval, reduceCtorEq, strRow_length, hr', hw', hb]); (try simp only [decide_eq_true_eq, decide_eq_false_iff_not, beq_iff_eq, beq_eq_false_iff_ne, ne_eq, bne_iff_ne, bne_eq_false_iff_eq, Decidable.not_not] at hb))))
      refine W_round ?_
      (try simp (disch := omega) only [go_sem, seval, reduceCtorEq])
      refine l_fewr f (by omega) _ ?_ ?_ f.r.length 0 (by omega) (by simp)
      · intro ha
        have ha' : f.r.all shortB = true := List.all_eq_true.2 ((all_getD f.r shortB).1 ha)
        (try simp (disch := omega) only [go_sem, seval, reduceCtorEq])
        refine W_round ?_
        (try simp (disch := omega) only [go_sem, seval, reduceCtorEq])
        refine l_feww f (by omega) _ ?_ ?_ f.w.length 0 (by omega) (by simp)
        · intro hb
          have hb' : f.w.all shortB = true := List.all_eq_true.2 ((all_getD f.w shortB).1 hb)
          (try simp (disch := omega) only [go_sem, seval, reduceCtorEq])
          simp only [fewF, ha', hb', hr, hw, pur, dep, decide_true, Bool.and_true]
        · intro i hi hq s' hs'
          (try simp (disch := omega) only [go_sem, seval, reduceCtorEq, hs'])
          dsimp only at hq
          rw [getD_get f.w i hi] at hq
          have : f.w.all shortB = false := all_no _ shortB i hi hq
          simp only [fewF, this, Bool.and_false, pur, dep]
      · intro i hi hq s' hs'
        (try simp (disch := omega) only [go_sem, seval, reduceCtorEq, hs'])
        dsimp only at hq
        rw [getD_get f.r i hi] at hq
        have : f.r.all shortB = false := all_no _ shortB i hi hq
        simp only [fewF, this, Bool.and_false, Bool.false_and, pur, dep]
    · have hw' : (n : Int) < f.w.length := by omega
      repeat' (first | (simp (disch := omega) only [go_sem, seval, reduceCtorEq, strRow_length, hr', hw']) | ((first | apply x_split_cond | apply x_split_guard); all_goals (intro hb; (try simp only [Bool.not_eq_true', Bool.not_eq_false'] at hb); (simp (disch := omega) only [go_sem, seval, reduceCtorEq, strRow_length, hr', hw', hb]); (try simp only [decide_eq_true_eq, decide_eq_false_iff_not, beq_iff_eq, beq_eq_false_iff_ne, ne_eq, bne_iff_ne, bne_eq_false_iff_eq, Decidable.not_not] at hb))))
      simp [fewF, hw, pur, dep]
  · have hr' : (n : Int) < f.r.length := by omega
    repeat' (first | (simp (disch := omega) only [go_sem, seval, reduceCtorEq, strRow_length, hr']) | ((first | apply x_split_cond | apply x_split_guard); all_goals (intro hb; (try simp only [Bool.not_eq_true', Bool.not_eq_false'] at hb); (simp (disch := omega) only [go_sem, seval, reduceCtorEq, strRow_length, hr', hb]); (try simp only [decide_eq_true_eq, decide_eq_false_iff_not, beq_iff_eq, beq_eq_false_iff_ne, ne_eq, bne_iff_ne, bne_eq_false_iff_eq, Decidable.not_not] at hb))))
    simp [fewF, hr, pur, dep]

def ftRow (l : List Ft) : List (List PV) := l.map ftC
theorem ftRow_length (l : List Ft) : (ftRow l).length = l.length := by simp [ftRow]
theorem ftRow_get (l : List Ft) (i : Nat) (h : i < l.length) : (ftRow l)[i]? = some (ftC l[i]) := by simp [ftRow, h]
abbrev F0 : Ft := ⟨false, true, [], true, []⟩
theorem getF_get (l : List Ft) (i : Nat) (h : i < l.length) : l.getD i F0 = l[i] := by simp [List.getD_eq_getElem?_getD, h]

theorem l_lfew (l : List Ft) (b : Bool) (hl : l.length ≤ 1000) (K : Ex → St → Prop) (hx : (∀ j, j < l.length → (fun j => fewF 80 (l.getD j F0)) j = true) → K (.exit 0) ⟨[], [], 0, [0]⟩)
    (hr : ∀ i, i < l.length → (fun j => fewF 80 (l.getD j F0)) i = false → ∀ s', aget s'.env 2 = some (.p (.bool false)) → K .ret s') : ∀ (m i : Nat), i + m = l.length → (∀ j, j < i → (fun j => fewF 80 (l.getD j F0)) j = true) →
    W tb a15_l0 ⟨[(0, .p (.slice b (ftRow l))), (3, .p (.int .i64 i))], [], 0, [0]⟩ (LK tb (.ghost .lower a15_l0) K) := by
  intro m
  induction m with
  | zero =>
    intro i hi ht
    have h1 : ¬ (i : Int) < l.length := by omega
    refine i_code (by unfold a15_l0; exact rfl) ?_
    repeat' (first | (simp (disch := omega) only [go_sem, seval, reduceCtorEq, h1, ftRow_length]) | ((first | apply x_split_cond | apply x_split_guard); all_goals (intro hb; (try simp only [Bool.not_eq_true', Bool.not_eq_false'] at hb); (simp (disch := omega) only [go_sem, seval, reduceCtorEq, h1, ftRow_length, hb]); (try simp only [decide_eq_true_eq, decide_eq_false_iff_not, beq_iff_eq, beq_eq_false_iff_ne, ne_eq, bne_iff_ne, bne_eq_false_iff_eq, Decidable.not_not] at hb))))
    exact hx (fun j hj => ht j (by omega))
  | succ m ih =>
    intro i hi ht
    have h1 : (i : Int) < l.length := by omega
    have h2 : i < l.length := by omega
    have h4 : (0 : Int) ≤ i := by omega
    have h3 := ftRow_get l i h2
    have hq : fewF 80 (l.getD i F0) = fewF 80 l[i] := by rw [getF_get l i h2]
    have h5 : l[i] = ⟨l[i].all, l[i].br, l[i].r, l[i].bw, l[i].w⟩ := rfl
    refine i_code (by unfold a15_l0; exact rfl) ?_
    repeat' (first | (simp (disch := omega) only [go_sem, seval, reduceCtorEq, h1, h4, ftRow_length, h3, ftC]) | (apply x_pure; iterate 5 (first | exact ps_few _ 80 (by omega) | ((try simp (disch := omega) only [go_sem, seval, reduceCtorEq, h1, h4, ftRow_length, h3, ftC]) <;> with_reducible exact rfl))) | ((first | apply x_split_cond | apply x_split_guard); all_goals (intro hb; (try simp only [Bool.not_eq_true', Bool.not_eq_false'] at hb); (simp (disch := omega) only [go_sem, seval, reduceCtorEq, h1, h4, ftRow_length, h3, ftC, hb]); (try simp only [decide_eq_true_eq, decide_eq_false_iff_not, beq_iff_eq, beq_eq_false_iff_ne, ne_eq, bne_iff_ne, bne_eq_false_iff_eq, Decidable.not_not] at hb))))
    all_goals first
      | (exfalso; omega)
      | exact hr i h2 (by (try dsimp only); rw [hq]; simp [hb]) _ rfl
      | (refine i_lk (W_round ?_)
         (try simp (disch := omega) only [go_sem, seval, reduceCtorEq, ftRow_length])
         exact ih (i + 1) (by omega) (lt_step ht (by (try dsimp only); rw [hq]; simp [hb])))

theorem ps_lfew (l : List Ft) (b : Bool) (hl : l.length ≤ 1000) : PS tb 15 [.slice b (ftRow l)] (.bool (l.all (fewF 80))) := by
  refine PS_of (af := a15) rfl rfl ?_
  unfold a15
  dsimp only [List.map, ofPV, initEnv]
  repeat' (first | (simp (disch := omega) only [go_sem, seval, reduceCtorEq, ftRow_length]) | ((first | apply x_split_cond | apply x_split_guard); all_goals (intro hb; (try simp only [Bool.not_eq_true', Bool.not_eq_false'] at hb); (simp (disch := omega) only [go_sem, seval, reduceCtorEq, ftRow_length, hb]); (try simp only [decide_eq_true_eq, decide_eq_false_iff_not, beq_iff_eq, beq_eq_false_iff_ne, ne_eq, bne_iff_ne, bne_eq_false_iff_eq, Decidable.not_not] at hb))))
  refine W_round ?_
  (try simp (disch := omega) only [go_sem, seval, reduceCtorEq])
  refine l_lfew l b hl _ ?_ ?_ l.length 0 (by omega) (by simp)
  · intro ha
    (try simp (disch := omega) only [go_sem, seval, reduceCtorEq])
    have : l.all (fewF 80) = true := by
      rw [List.all_eq_true]
      intro x hx
      obtain ⟨i, hi, rfl⟩ := List.mem_iff_getElem.1 hx
      have := ha i hi
      dsimp only at this
      rwa [getF_get l i hi] at this
    simp only [this, pur, dep]
  · intro i hi hq s' hs'
    (try simp (disch := omega) only [go_sem, seval, reduceCtorEq, hs'])
    dsimp only at hq
    rw [getF_get l i hi] at hq
    have : l.all (fewF 80) = false := all_no _ _ i hi hq
    simp only [this, pur, dep]

end Go.Dv.Try
