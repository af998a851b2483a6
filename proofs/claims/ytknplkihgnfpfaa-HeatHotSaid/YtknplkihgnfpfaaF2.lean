/-
  Specifications, part 2: lists of strings.
-/
import Derived.Test.YtknplkihgnfpfaaF1
set_option linter.unusedVariables false
set_option linter.unusedSimpArgs false
set_option maxRecDepth 100000
set_option maxHeartbeats 1000000
namespace Go.Dv.Try
open Go Go.Dv

/-- A list of at most 1000 strings of at most 100 bytes. -/
def Sh (l : List ByteArray) : Prop := l.length ≤ 1000 ∧ ∀ x ∈ l, x.size ≤ 100

abbrev E : ByteArray := ⟨#[]⟩

/-- Is k in the list? -/
def hasB (l : List ByteArray) (k : ByteArray) : Bool := l.any fun x => decide (x = k)
theorem hasB_iff {l : List ByteArray} {k : ByteArray} : hasB l k = true ↔ k ∈ l := by simp [hasB]
theorem hasB_no {l : List ByteArray} {k : ByteArray} : hasB l k = false ↔ k ∉ l := by rw [← hasB_iff]; simp

theorem lt_step {q : Nat → Bool} {i : Nat} (h : ∀ j, j < i → q j = true) (hi : q i = true) : ∀ j, j < i + 1 → q j = true := by
  intro j hj
  rcases Nat.lt_succ_iff_lt_or_eq.1 hj with h' | rfl
  · exact h j h'
  · exact hi

theorem getD_get (l : List ByteArray) (i : Nat) (h : i < l.length) : l.getD i E = l[i] := by simp [List.getD_eq_getElem?_getD, h]

theorem Sh.size {l : List ByteArray} (h : Sh l) {i : Nat} (hi : i < l.length) : l[i].size ≤ 100 := h.2 _ (List.getElem_mem hi)

theorem all_getD (l : List ByteArray) (p : ByteArray → Bool) : (∀ j, j < l.length → p (l.getD j E) = true) ↔ ∀ x ∈ l, p x = true := by
  constructor
  · intro h x hx
    obtain ⟨i, hi, rfl⟩ := List.mem_iff_getElem.1 hx
    have := h i hi
    rwa [getD_get l i hi] at this
  · intro h j hj
    rw [getD_get l j hj]; exact h _ (List.getElem_mem hj)

/-! ### Has, Contains -/

/-! ### ascending keys -/

def okAt (l : List ByteArray) (j : Nat) : Bool := vkey (l.getD j E) && (decide (j = 0) || slt (l.getD (j - 1) E) (l.getD j E))
def ascB (l : List ByteArray) : Bool := (List.range l.length).all (okAt l)

theorem ascB_of {l : List ByteArray} (h : ∀ j, j < l.length → okAt l j = true) : ascB l = true := by
  simp only [ascB, List.all_eq_true, List.mem_range]; exact h
theorem ascB_no {l : List ByteArray} {i : Nat} (hi : i < l.length) (h : okAt l i = false) : ascB l = false := by
  rw [ascB, List.all_eq_false]; exact ⟨i, List.mem_range.2 hi, by simp [h]⟩

/-- Strictly ascending. -/
def Strict (l : List ByteArray) : Prop := l.Pairwise fun a b => slt a b = true

theorem ascB_iff {l : List ByteArray} : ascB l = true ↔ (∀ x ∈ l, vkey x = true) ∧ Strict l := by
  simp only [ascB, List.all_eq_true, List.mem_range, okAt, Bool.and_eq_true, Bool.or_eq_true, decide_eq_true_eq]
  constructor
  · intro h
    refine ⟨(all_getD l vkey).1 fun j hj => (h j hj).1, ?_⟩
    unfold Strict
    rw [List.pairwise_iff_getElem]
    intro i j hi hj hij
    have key : ∀ d, i + d + 1 < l.length → slt (l.getD i E) (l.getD (i + d + 1) E) = true := by
      intro d
      induction d with
      | zero => intro hd; rcases (h (i + 1) hd).2 with h0 | h0; · omega
                exact h0
      | succ d ih => intro hd; rcases (h (i + d + 2) hd).2 with h0 | h0; · omega
                     exact slt_trans (ih (by omega)) h0
    have := key (j - i - 1) (by omega)
    rw [show i + (j - i - 1) + 1 = j by omega, getD_get l i hi, getD_get l j hj] at this
    exact this
  · rintro ⟨h1, h2⟩ j hj
    refine ⟨(all_getD l vkey).2 h1 j hj, ?_⟩
    rcases Nat.eq_zero_or_pos j with h0 | h0
    · exact .inl h0
    · right
      unfold Strict at h2
      rw [List.pairwise_iff_getElem] at h2
      rw [getD_get l j hj, getD_get l (j - 1) (by omega)]
      exact h2 (j - 1) j (by omega) hj (by omega)

theorem int_pred (i : Nat) (h : 0 < i) : IntKind.i64.wrap ((i : Int) - 1) = IntKind.i64.wrap ((i - 1 : Nat) : Int) := by congr 1; omega

/-! ### keys of a list -/

/-! ### equal lists -/

theorem l_equal (a c : List ByteArray) (b d : Bool) (hl : a.length ≤ 1000) (he : a.length = c.length) (K : Ex → St → Prop) (hx : (∀ j, j < a.length → (fun j => decide (a.getD j E = c.getD j E)) j = true) → K (.exit 0) ⟨[], [], 0, [0]⟩)
    (hr : ∀ i, i < a.length → (fun j => decide (a.getD j E = c.getD j E)) i = false → ∀ s', aget s'.env 4 = some (.p (.bool false)) → K .ret s') : ∀ (m i : Nat), i + m = a.length → (∀ j, j < i → (fun j => decide (a.getD j E = c.getD j E)) j = true) →
    W tb a58_l0 ⟨[(0, .p (.slice b (strRow a))), (1, .p (.slice d (strRow c))), (12, .p (.int .i64 a.length)), (13, .p (.int .i64 i))], [], 0, [0]⟩ (LK tb (.ghost .lower a58_l0) K) := by
  intro m
  induction m with
  | zero =>
    intro i hi ht
    have h1 : ¬ (i : Int) < a.length := by omega
    refine i_code (by unfold a58_l0; exact rfl) ?_
    repeat' (first | (simp (disch := omega) only [go_sem, seval, reduceCtorEq, h1, strRow_length]) | with_reducible exact Ev.mk | ((first | apply x_split | apply x_splitg) <;> intro hβ hb <;> (simp (disch := omega) only [go_sem, seval, reduceCtorEq, h1, strRow_length, hβ]) <;> clear hβ))
    exact hx (fun j hj => ht j (by omega))
  | succ m ih =>
    intro i hi ht
    have h1 : (i : Int) < a.length := by omega
    have h2 : i < a.length := by omega
    have h4 : (0 : Int) ≤ i := by omega
    have h3 := strRow_get a i h2
    have h5 := strRow_get c i (by omega)
    have hq : decide (a.getD i E = c.getD i E) = decide (a[i] = c[i]) := by rw [getD_get a i h2, getD_get c i (by omega)]
    refine i_code (by unfold a58_l0; exact rfl) ?_
    repeat' (first | (simp (disch := omega) only [go_sem, seval, reduceCtorEq, h1, h4, strRow_length, h3, h5]) | with_reducible exact Ev.mk | ((first | apply x_split | apply x_splitg) <;> intro hβ hb <;> (simp (disch := omega) only [go_sem, seval, reduceCtorEq, h1, h4, strRow_length, h3, h5, hβ]) <;> clear hβ))
    all_goals first
      | (exfalso; omega)
      | exact hr i h2 (by (try dsimp only); rw [hq]; simp [hb]) _ rfl
      | (refine i_lk (W_round ?_)
         (try simp (disch := omega) only [go_sem, seval, reduceCtorEq, strRow_length])
         exact ih (i + 1) (by omega) (lt_step ht (by (try dsimp only); rw [hq]; simp [hb])))

theorem ps_equal (a c : List ByteArray) (b d : Bool) (hl : a.length ≤ 1000) : PS tb 58 [.slice b (strRow a), .slice d (strRow c)] (.bool (decide (a = c))) := by
  refine PS_of (af := a58) rfl rfl ?_
  unfold a58
  dsimp only [List.map, ofPV, initEnv]
  by_cases he : a.length = c.length
  · have he' : ((a.length : Int) != (c.length : Int)) = false := by simp [he]
    repeat' (first | (simp (disch := omega) only [go_sem, seval, reduceCtorEq, strRow_length, he']) | with_reducible exact Ev.mk | ((first | apply x_split | apply x_splitg) <;> intro hβ hb <;> (simp (disch := omega) only [go_sem, seval, reduceCtorEq, strRow_length, he', hβ]) <;> clear hβ))
    refine W_round ?_
    (try simp (disch := omega) only [go_sem, seval, reduceCtorEq])
    refine l_equal a c b d hl he _ ?_ ?_ a.length 0 (by omega) (by simp)
    · intro ha
      (try simp (disch := omega) only [go_sem, seval, reduceCtorEq])
      have : a = c := by
        apply List.ext_getElem he
        intro i h1 h2
        have := ha i h1
        dsimp only at this
        rw [getD_get a i h1, getD_get c i h2] at this
        simpa using this
      simp [this, pur, dep]
    · intro i hi hq s' hs'
      (try simp (disch := omega) only [go_sem, seval, reduceCtorEq, hs'])
      have : a ≠ c := by
        rintro rfl
        simp at hq
      simp [this, pur, dep]
  · have he' : ((a.length : Int) != (c.length : Int)) = true := by simp; omega
    repeat' (first | (simp (disch := omega) only [go_sem, seval, reduceCtorEq, strRow_length, he']) | with_reducible exact Ev.mk | ((first | apply x_split | apply x_splitg) <;> intro hβ hb <;> (simp (disch := omega) only [go_sem, seval, reduceCtorEq, strRow_length, he', hβ]) <;> clear hβ))
    have : a ≠ c := fun h => he (by rw [h])
    simp [this, pur, dep]

end Go.Dv.Try
