/-
  Specifications: K1, K2, K3, K4, K5, K6, K7.
-/
import Derived.Test.YtknplkihgnfpfaaFA
set_option linter.unusedVariables false
set_option linter.unusedSimpArgs false
set_option maxRecDepth 100000
set_option maxHeartbeats 4000000
namespace Go.Dv.Try
open Go Go.Dv

/-! ## K1 -/

def Fo (f : Ft) : Prop := ShF f ∧ f.r.length ≤ 8 ∧ f.w.length ≤ 8
theorem fewF_ok {f : Ft} (h : fewF 8 f = true) : Fo f := by
  refine ⟨fewF_sh h (by omega), ?_⟩
  simp only [fewF, Bool.and_eq_true, decide_eq_true_eq] at h
  exact ⟨h.1.1.1, h.1.1.2⟩

def fewL (l : List Ft) : Bool := decide (l.length ≤ 10) && l.all (fewF 8)
theorem fewL_ok {l : List Ft} (h : fewL l = true) : l.length ≤ 10 ∧ ∀ f ∈ l, Fo f := by
  simp only [fewL, Bool.and_eq_true, decide_eq_true_eq, List.all_eq_true] at h
  exact ⟨h.1, fun f hf => fewF_ok (h.2 f hf)⟩

theorem l_few25 (l : List Ft) (b : Bool) (hl : l.length ≤ 1000) (K : Ex → St → Prop) (hx : (∀ j, j < l.length → (fun j => fewF 8 (l.getD j F0)) j = true) → K (.exit 0) ⟨[], [], 0, [0]⟩)
    (hr : ∀ i, i < l.length → (fun j => fewF 8 (l.getD j F0)) i = false → ∀ s', aget s'.env 4 = some (.p (.bool false)) → K .ret s') : ∀ (m i : Nat), i + m = l.length → (∀ j, j < i → (fun j => fewF 8 (l.getD j F0)) j = true) →
    W tb a30_l0 ⟨[(0, .p (.slice b (ftRow l))), (5, .p (.int .i64 i))], [], 0, [0]⟩ (LK tb (.ghost .lower a30_l0) K) := by
  intro m
  induction m with
  | zero =>
    intro i hi ht
    have h1 : ¬ (i : Int) < l.length := by omega
    refine i_code (by unfold a30_l0; exact rfl) ?_
    repeat' (first | (simp (disch := omega) only [go_sem, seval, reduceCtorEq, h1, ftRow_length]) | with_reducible exact Ev.mk | ((first | apply x_split | apply x_splitg) <;> intro hβ hb <;> (simp (disch := omega) only [go_sem, seval, reduceCtorEq, h1, ftRow_length, hβ]) <;> clear hβ))
    exact hx (fun j hj => ht j (by omega))
  | succ m ih =>
    intro i hi ht
    have h1 : (i : Int) < l.length := by omega
    have h2 : i < l.length := by omega
    have h4 : (0 : Int) ≤ i := by omega
    have h3 := ftRow_get l i h2
    have hq : fewF 8 (l.getD i F0) = fewF 8 l[i] := by rw [getF_get l i h2]
    refine i_code (by unfold a30_l0; exact rfl) ?_
    repeat' (first | exact ps_few _ 8 (by omega) | (simp (disch := omega) only [go_sem, seval, reduceCtorEq, h1, h4, ftRow_length, h3, ftC]) | with_reducible exact Ev.mk | apply x_call | ((first | apply x_split | apply x_splitg) <;> intro hβ hb <;> (simp (disch := omega) only [go_sem, seval, reduceCtorEq, h1, h4, ftRow_length, h3, ftC, hβ]) <;> clear hβ))
    all_goals first
      | (exfalso; omega)
      | exact hr i h2 (by (try dsimp only); rw [hq]; simp [hb]) _ rfl
      | (refine i_lk (W_round ?_)
         (try simp (disch := omega) only [go_sem, seval, reduceCtorEq, ftRow_length])
         exact ih (i + 1) (by omega) (lt_step ht (by (try dsimp only); rw [hq]; simp [hb])))

theorem ps_few25 (l : List Ft) (b : Bool) (hl : l.length ≤ 9223372036854775807) : PS tb 30 [.slice b (ftRow l), .int .i64 10] (.bool (fewL l)) := by
  refine PS_of (af := a30) rfl rfl ?_
  unfold a30
  dsimp only [List.map, ofPV, initEnv]
  by_cases hr : 10 < l.length
  · have h1 : (10 : Int) < l.length := by omega
    repeat' (first | (simp (disch := omega) only [go_sem, seval, reduceCtorEq, h1, ftRow_length]) | with_reducible exact Ev.mk | ((first | apply x_split | apply x_splitg) <;> intro hβ hb <;> (simp (disch := omega) only [go_sem, seval, reduceCtorEq, h1, ftRow_length, hβ]) <;> clear hβ))
    have : fewL l = false := by unfold fewL; rw [decide_eq_false (by omega)]; rfl
    simp only [this, pur, dep]
  · have h1 : ¬ (10 : Int) < l.length := by omega
    repeat' (first | (simp (disch := omega) only [go_sem, seval, reduceCtorEq, h1, ftRow_length]) | with_reducible exact Ev.mk | ((first | apply x_split | apply x_splitg) <;> intro hβ hb <;> (simp (disch := omega) only [go_sem, seval, reduceCtorEq, h1, ftRow_length, hβ]) <;> clear hβ))
    refine W_round ?_
    (try simp (disch := omega) only [go_sem, seval, reduceCtorEq])
    refine l_few25 l b (by omega) _ ?_ ?_ l.length 0 (by omega) (by simp)
    · intro ha
      (try simp (disch := omega) only [go_sem, seval, reduceCtorEq])
      have : fewL l = true := by
        unfold fewL
        rw [decide_eq_true (by omega), Bool.true_and, List.all_eq_true]
        intro x hx
        obtain ⟨i, hi, rfl⟩ := List.mem_iff_getElem.1 hx
        have := ha i hi
        dsimp only at this
        rwa [getF_get l i hi] at this
      simp only [this, pur, dep]
    · intro i hi hq s' hs'
      (try simp (disch := omega) only [go_sem, seval, reduceCtorEq, hs'])
      dsimp only at hq
      rw [getF_get l i hi] at hq
      have : fewL l = false := by
        unfold fewL
        rw [Bool.and_eq_false_iff]
        right
        rw [List.all_eq_false]
        exact ⟨l[i], List.getElem_mem hi, by rw [hq]; simp⟩
      simp only [this, pur, dep]

theorem l_meet25 (l c : List ByteArray) (b d : Bool) (hl : l.length ≤ 1000) (hc : c.length ≤ 1000) (K : Ex → St → Prop) (hx : (∀ j, j < l.length → (fun j => !hasB c (l.getD j E)) j = true) → K (.exit 0) ⟨[], [], 0, [0]⟩)
    (hr : ∀ i, i < l.length → (fun j => !hasB c (l.getD j E)) i = false → ∀ s', aget s'.env 4 = some (.p (.bool true)) → K .ret s') : ∀ (m i : Nat), i + m = l.length → (∀ j, j < i → (fun j => !hasB c (l.getD j E)) j = true) →
    W tb a90_l0 ⟨[(0, .p (.slice b (strRow l))), (1, .p (.slice d (strRow c))), (5, .p (.int .i64 i))], [], 0, [0]⟩ (LK tb (.ghost .lower a90_l0) K) := by
  intro m
  induction m with
  | zero =>
    intro i hi ht
    have h1 : ¬ (i : Int) < l.length := by omega
    refine i_code (by unfold a90_l0; exact rfl) ?_
    repeat' (first | (simp (disch := omega) only [go_sem, seval, reduceCtorEq, h1, strRow_length]) | with_reducible exact Ev.mk | ((first | apply x_split | apply x_splitg) <;> intro hβ hb <;> (simp (disch := omega) only [go_sem, seval, reduceCtorEq, h1, strRow_length, hβ]) <;> clear hβ))
    exact hx (fun j hj => ht j (by omega))
  | succ m ih =>
    intro i hi ht
    have h1 : (i : Int) < l.length := by omega
    have h2 : i < l.length := by omega
    have h4 : (0 : Int) ≤ i := by omega
    have h3 := strRow_get l i h2
    have hq : hasB c (l.getD i E) = hasB c l[i] := by rw [getD_get l i h2]
    refine i_code (by unfold a90_l0; exact rfl) ?_
    repeat' (first | exact ps_has c _ d hc | (simp (disch := omega) only [go_sem, seval, reduceCtorEq, h1, h4, strRow_length, h3]) | with_reducible exact Ev.mk | apply x_call | ((first | apply x_split | apply x_splitg) <;> intro hβ hb <;> (simp (disch := omega) only [go_sem, seval, reduceCtorEq, h1, h4, strRow_length, h3, hβ]) <;> clear hβ))
    all_goals first
      | (exfalso; omega)
      | exact hr i h2 (by (try dsimp only); rw [hq]; simp [hb]) _ rfl
      | (refine i_lk (W_round ?_)
         (try simp (disch := omega) only [go_sem, seval, reduceCtorEq, strRow_length])
         exact ih (i + 1) (by omega) (lt_step ht (by (try dsimp only); rw [hq]; simp [hb])))

theorem ps_meet25 (l c : List ByteArray) (b d : Bool) (hl : l.length ≤ 1000) (hc : c.length ≤ 1000) : PS tb 90 [.slice b (strRow l), .slice d (strRow c)] (.bool (meetB l c)) := by
  refine PS_of (af := a90) rfl rfl ?_
  unfold a90
  dsimp only [List.map, ofPV, initEnv]
  repeat' (first | (simp (disch := omega) only [go_sem, seval, reduceCtorEq, strRow_length]) | with_reducible exact Ev.mk | ((first | apply x_split | apply x_splitg) <;> intro hβ hb <;> (simp (disch := omega) only [go_sem, seval, reduceCtorEq, strRow_length, hβ]) <;> clear hβ))
  refine W_round ?_
  (try simp (disch := omega) only [go_sem, seval, reduceCtorEq])
  refine l_meet25 l c b d hl hc _ ?_ ?_ l.length 0 (by omega) (by simp)
  · intro ha
    (try simp (disch := omega) only [go_sem, seval, reduceCtorEq])
    have : meetB l c = false := by
      rw [meetB, List.any_eq_false]
      intro x hx
      have := (all_getD l fun x => !hasB c x).1 ha x hx
      simpa using this
    simp only [this, pur, dep]
  · intro i hi hq s' hs'
    (try simp (disch := omega) only [go_sem, seval, reduceCtorEq, hs'])
    dsimp only at hq
    rw [getD_get l i hi] at hq
    have : meetB l c = true := by
      rw [meetB, List.any_eq_true]
      exact ⟨l[i], List.getElem_mem hi, by simpa using hq⟩
    simp only [this, pur, dep]

def allF (f : Ft) : Bool := f.all || !validF f

theorem ps_all25 (f : Ft) (h : ShF f) : PS tb 89 [.agg (ftC f)] (.bool (allF f)) := by
  refine PS_of (af := a89) rfl rfl ?_
  unfold a89
  dsimp only [List.map, ofPV, initEnv, ftC]
  have q := ps_rvalid f h
  simp only [ftC] at q
  cases hf : f.all with
  | true =>
    rw [hf] at q
    repeat' (first | exact q | (simp (disch := omega) only [go_sem, seval, reduceCtorEq, hf]) | with_reducible exact Ev.mk | apply x_call | ((first | apply x_split | apply x_splitg) <;> intro hβ hb <;> (simp (disch := omega) only [go_sem, seval, reduceCtorEq, hf, hβ]) <;> clear hβ))
    all_goals simp [allF, hf, pur, dep]
  | false =>
    rw [hf] at q
    repeat' (first | exact q | (simp (disch := omega) only [go_sem, seval, reduceCtorEq, hf]) | with_reducible exact Ev.mk | apply x_call | ((first | apply x_split | apply x_splitg) <;> intro hβ hb <;> (simp (disch := omega) only [go_sem, seval, reduceCtorEq, hf, hβ]) <;> clear hβ))
    all_goals simp [allF, hf, pur, dep]

def isF (f g : Ft) (k : Nat) : Bool := allF f || allF g || (if k = 1 then meetB f.w g.r else if k = 2 then meetB f.r g.w else meetB f.w g.w)

theorem ps_is (f g : Ft) (hf : Fo f) (hg : Fo g) (k : Nat) (hk : k = 1 ∨ k = 2 ∨ k = 3) : PS tb 72 [.agg (ftC f), .agg (ftC g), .int .i64 k] (.bool (isF f g k)) := by
  refine PS_of (af := a72) rfl rfl ?_
  unfold a72
  dsimp only [List.map, ofPV, initEnv, ftC]
  have q := ps_all25 f hf.1
  have q' := ps_all25 g hg.1
  simp only [ftC] at q q'
  have m1 := ps_meet25 f.w g.r f.bw g.br (by have := hf.2.2; omega) (by have := hg.2.1; omega)
  have m2 := ps_meet25 f.r g.w f.br g.bw (by have := hf.2.1; omega) (by have := hg.2.2; omega)
  have m3 := ps_meet25 f.w g.w f.bw g.bw (by have := hf.2.2; omega) (by have := hg.2.2; omega)
  cases c1 : allF f with
  | true =>
    rw [c1] at q
    repeat' (first | exact q | exact q' | (simp (disch := omega) only [go_sem, seval, reduceCtorEq]) | with_reducible exact Ev.mk | apply x_call | ((first | apply x_split | apply x_splitg) <;> intro hβ hb <;> (simp (disch := omega) only [go_sem, seval, reduceCtorEq, hβ]) <;> clear hβ))
    all_goals simp [isF, c1, pur, dep]
  | false =>
    cases c2 : allF g with
    | true =>
      rw [c1] at q
      rw [c2] at q'
      repeat' (first | exact q | exact q' | (simp (disch := omega) only [go_sem, seval, reduceCtorEq]) | with_reducible exact Ev.mk | apply x_call | ((first | apply x_split | apply x_splitg) <;> intro hβ hb <;> (simp (disch := omega) only [go_sem, seval, reduceCtorEq, hβ]) <;> clear hβ))
      all_goals simp [isF, c1, c2, pur, dep]
    | false =>
      rw [c1] at q
      rw [c2] at q'
      rcases hk with rfl | rfl | rfl
      · repeat' (first | exact q | exact q' | exact m1 | (simp (disch := omega) only [go_sem, seval, reduceCtorEq]) | with_reducible exact Ev.mk | apply x_call | ((first | apply x_split | apply x_splitg) <;> intro hβ hb <;> (simp (disch := omega) only [go_sem, seval, reduceCtorEq, hβ]) <;> clear hβ))
        all_goals simp [isF, c1, c2, pur, dep]
      · repeat' (first | exact q | exact q' | exact m2 | (simp (disch := omega) only [go_sem, seval, reduceCtorEq]) | with_reducible exact Ev.mk | apply x_call | ((first | apply x_split | apply x_splitg) <;> intro hβ hb <;> (simp (disch := omega) only [go_sem, seval, reduceCtorEq, hβ]) <;> clear hβ))
        all_goals simp [isF, c1, c2, pur, dep]
      · repeat' (first | exact q | exact q' | exact m3 | (simp (disch := omega) only [go_sem, seval, reduceCtorEq]) | with_reducible exact Ev.mk | apply x_call | ((first | apply x_split | apply x_splitg) <;> intro hβ hb <;> (simp (disch := omega) only [go_sem, seval, reduceCtorEq, hβ]) <;> clear hβ))
        all_goals simp [isF, c1, c2, pur, dep]

/-! ### the program's -/

theorem ps_meet1 (c : List ByteArray) (d : Bool) (hc : c.length ≤ 1000) (k : ByteArray) : PS tb 112 [.str k, .vptr [.slice d (strRow c)]] (.bool (hasB c k)) := by
  refine PS_of (af := a112) rfl rfl ?_
  unfold a112
  dsimp only [List.map, ofPV, initEnv]
  repeat' (first | exact ps_scontains c k d hc | (simp (disch := omega) only [go_sem, seval, reduceCtorEq]) | with_reducible exact Ev.mk | apply x_call | ((first | apply x_split | apply x_splitg) <;> intro hβ hb <;> (simp (disch := omega) only [go_sem, seval, reduceCtorEq, hβ]) <;> clear hβ))

theorem ps_containsF (l c : List ByteArray) (b d : Bool) (hl : l.length ≤ 1000) (hc : c.length ≤ 1000) : PS tb 111 [.slice b (strRow l), .func 112 [.vptr [.slice d (strRow c)]]] (.bool (meetB l c)) := by
  obtain ⟨n, q, h⟩ := ps_index l b 112 [.vptr [.slice d (strRow c)]] (hasB c) (ps_meet1 c d hc) rfl hl
  refine PS_of (af := a111) rfl rfl ?_
  unfold a111
  dsimp only [List.map, ofPV, initEnv]
  have e : decide (0 ≤ n) = meetB l c := by
    rcases h with ⟨rfl, h⟩ | ⟨i, rfl, hi, h, _⟩
    · have : meetB l c = false := by
        rw [meetB, List.any_eq_false]
        intro x hx; rw [h x hx]; simp
      rw [this]; rfl
    · have : meetB l c = true := by
        rw [meetB, List.any_eq_true]
        exact ⟨l[i], List.getElem_mem hi, by rw [← getD_get l i hi]; exact h⟩
      rw [this]; simp
  rw [← e]
  repeat' (first | exact q | (simp (disch := omega) only [go_sem, seval, reduceCtorEq]) | with_reducible exact Ev.mk | apply x_call | ((first | apply x_split | apply x_splitg) <;> intro hβ hb <;> (simp (disch := omega) only [go_sem, seval, reduceCtorEq, hβ]) <;> clear hβ))
  all_goals simp [pur, dep]

theorem ps_meet (l c : List ByteArray) (b d : Bool) (hl : l.length ≤ 1000) (hc : c.length ≤ 1000) : PS tb 86 [.slice b (strRow l), .slice d (strRow c)] (.bool (meetB l c)) := by
  refine PS_of (af := a86) rfl rfl ?_
  unfold a86
  dsimp only [List.map, ofPV, initEnv]
  repeat' (first | exact ps_containsF l c b d hl hc | (simp (disch := omega) only [go_sem, seval, reduceCtorEq]) | with_reducible exact Ev.mk | apply x_call | ((first | apply x_split | apply x_splitg) <;> intro hβ hb <;> (simp (disch := omega) only [go_sem, seval, reduceCtorEq, hβ]) <;> clear hβ))

theorem sz1 (a : PV) : allSz 1 [[a]] = true := rfl
theorem sz3 (a b c : PV) : allSz 3 [[a, b, c]] = true := rfl

def intRow (l : List Nat) : List (List PV) := l.map fun (x : Nat) => [PV.int .i64 (x : Int)]
theorem intRow_length (l : List Nat) : (intRow l).length = l.length := by simp [intRow]
theorem intRow_get (l : List Nat) (i : Nat) (h : i < l.length) : (intRow l)[i]? = some [.int .i64 l[i]] := by simp [intRow, h]

/-- The kinds of conflicts. -/
def kindsR (f g : Ft) : List Nat := if f.all || g.all then [1, 2, 3] else (if meetB f.w g.r then [1] else []) ++ ((if meetB f.r g.w then [2] else []) ++ (if meetB f.w g.w then [3] else []))

theorem ps_kinds (f g : Ft) (hf : Fo f) (hg : Fo g) : ∃ b, PS tb 69 [.agg (ftC f), .agg (ftC g)] (.slice b (intRow (kindsR f g))) := by
  have m1 := ps_meet f.w g.r f.bw g.br (by have := hf.2.2; omega) (by have := hg.2.1; omega)
  have m2 := ps_meet f.r g.w f.br g.bw (by have := hf.2.1; omega) (by have := hg.2.2; omega)
  have m3 := ps_meet f.w g.w f.bw g.bw (by have := hf.2.2; omega) (by have := hg.2.2; omega)
  cases h1 : f.all with
  | true =>
    refine ⟨true, PS_of (af := a69) rfl rfl ?_⟩
    unfold a69
    dsimp only [List.map, ofPV, initEnv, ftC]
    repeat' (first | (simp (disch := omega) only [go_sem, seval, reduceCtorEq, h1]) | with_reducible exact Ev.mk | ((first | apply x_split | apply x_splitg) <;> intro hβ hb <;> (simp (disch := omega) only [go_sem, seval, reduceCtorEq, h1, hβ]) <;> clear hβ))
    all_goals simp [kindsR, h1, pur, dep, intRow]
  | false =>
    cases h2 : g.all with
    | true =>
      refine ⟨true, PS_of (af := a69) rfl rfl ?_⟩
      unfold a69
      dsimp only [List.map, ofPV, initEnv, ftC]
      repeat' (first | (simp (disch := omega) only [go_sem, seval, reduceCtorEq, h1, h2]) | with_reducible exact Ev.mk | ((first | apply x_split | apply x_splitg) <;> intro hβ hb <;> (simp (disch := omega) only [go_sem, seval, reduceCtorEq, h1, h2, hβ]) <;> clear hβ))
      all_goals simp [kindsR, h1, h2, pur, dep, intRow]
    | false =>
      refine ⟨(kindsR f g).isEmpty, PS_of (af := a69) rfl rfl ?_⟩
      unfold a69
      dsimp only [List.map, ofPV, initEnv, ftC]
      cases c1 : meetB f.w g.r <;> cases c2 : meetB f.r g.w <;> cases c3 : meetB f.w g.w <;> rw [c1] at m1 <;> rw [c2] at m2 <;> rw [c3] at m3 <;> (
        repeat' (first | exact m1 | exact m2 | exact m3 | (simp (disch := omega) only [go_sem, seval, reduceCtorEq, h1, h2, maxBytes, sz1]) | with_reducible exact Ev.mk | apply x_call | ((first | apply x_split | apply x_splitg) <;> intro hβ hb <;> (simp (disch := omega) only [go_sem, seval, reduceCtorEq, h1, h2, maxBytes, sz1, hβ]) <;> clear hβ))
        all_goals simp [kindsR, h1, h2, c1, c2, c3, pur, dep, intRow])


/-! ## K2 -/

def FA : Ft := ⟨true, true, [], true, []⟩
def whF (f : Ft) : Ft := if validF f then f else FA
theorem whF_ok {f : Ft} (h : Fo f) : Fo (whF f) := by
  unfold whF
  split
  · exact h
  · exact ⟨⟨⟨by simp [FA], by simp [FA]⟩, ⟨by simp [FA], by simp [FA]⟩⟩, by simp [FA], by simp [FA]⟩
theorem whF_all {f : Ft} : (whF f).all = allF f := by
  unfold whF allF
  cases validF f <;> simp [FA]
theorem whF_not {f : Ft} (h : allF f = false) : whF f = f := by
  unfold allF at h
  unfold whF
  cases hv : validF f with
  | true => rfl
  | false => rw [hv] at h; simp at h

/-! ### whole -/

def whA (l : List Ft) (i : Nat) : List Ft := (l.take i).map whF ++ l.drop i
theorem whA_len (l : List Ft) (i : Nat) (h : i ≤ l.length) : (whA l i).length = l.length := by simp [whA]; omega
theorem whA_get (l : List Ft) (i : Nat) (h : i < l.length) : (ftRow (whA l i))[i]? = some (ftC l[i]) := by
  rw [ftRow, List.getElem?_map, whA, List.getElem?_append_right (by simp; omega)]
  have e : min i l.length = i := by omega
  simp [e, h]
theorem whA_step (l : List Ft) (i : Nat) (h : i < l.length) : (whA l i).set i (whF l[i]) = whA l (i + 1) := by
  have hd : l.drop i = l[i] :: l.drop (i + 1) := List.drop_eq_getElem_cons h
  have ht : l.take (i + 1) = l.take i ++ [l[i]] := by rw [List.take_add_one, List.getElem?_eq_getElem h]; rfl
  have l1 : ((l.take i).map whF).length = i := by simp; omega
  unfold whA
  rw [hd, ht, List.set_append_right _ _ (by omega), l1, Nat.sub_self]
  simp only [List.set_cons_zero, List.map_append, List.map_cons, List.map_nil, List.append_assoc, List.singleton_append]
theorem whA_stepR (l : List Ft) (i : Nat) (h : i < l.length) : (ftRow (whA l i)).set i (ftC (whF l[i])) = ftRow (whA l (i + 1)) := by
  rw [← whA_step l i h, ftRow, ftRow, List.map_set]
theorem whA_same (l : List Ft) (i : Nat) (h : i < l.length) (hv : whF l[i] = l[i]) : whA l (i + 1) = whA l i := by
  rw [← whA_step l i h, hv]
  apply List.ext_getElem?
  intro k
  rw [List.getElem?_set]
  split
  · rename_i e; subst e
    have := whA_get l i h
    rw [ftRow, List.getElem?_map] at this
    rw [if_pos (by rw [whA_len l i (by omega)]; exact h)]
    have hg : (whA l i)[i]? = some l[i] := by
      unfold whA
      rw [List.getElem?_append_right (by simp; omega)]
      have e : min i l.length = i := by omega
      simp [e, h]
    exact hg.symm
  · rfl
theorem whA_end (l : List Ft) : whA l l.length = l.map whF := by simp [whA]
theorem ftC_ne (f : Ft) : (ftC f).length = 3 := rfl

theorem l_whole (l : List Ft) (hl : l.length ≤ 1000) (hs : ∀ f ∈ l, ShF f) (K : Ex → St → Prop)
    (hx : K (.exit 0) ⟨[(3, .ref 0 l.length 0 l.length)], [(0, .row false 3 (ftRow (l.map whF)))], 1, [0]⟩) : ∀ (m i : Nat), i + m = l.length →
    W tb a68_l0 ⟨[(3, .ref 0 l.length 0 l.length), (8, .ref 0 l.length 0 l.length), (9, .p (.int .i64 l.length)), (10, .p (.int .i64 i))], [(0, .row false 3 (ftRow (whA l i)))], 1, [0]⟩ (LK tb (.ghost (.free [5]) (.ghost .lower a68_l0)) K) := by
  intro m
  induction m with
  | zero =>
    intro i hi
    have h1 : ¬ (i : Int) < l.length := by omega
    have e : i = l.length := by omega
    subst e
    rw [whA_end]
    refine i_code (by unfold a68_l0; exact rfl) ?_
    repeat' (first | (simp (disch := omega) only [go_sem, seval, reduceCtorEq, h1]) | with_reducible exact Ev.mk | ((first | apply x_split | apply x_splitg) <;> intro hβ hb <;> (simp (disch := omega) only [go_sem, seval, reduceCtorEq, h1, hβ]) <;> clear hβ))
    exact hx
  | succ m ih =>
    intro i hi
    have h1 : (i : Int) < l.length := by omega
    have h2 : i < l.length := by omega
    have h4 : (0 : Int) ≤ i := by omega
    have h3 := whA_get l i h2
    have hlen : (ftRow (whA l i)).length = l.length := by rw [ftRow_length, whA_len l i (by omega)]
    have q := ps_fvalid l[i] (hs _ (List.getElem_mem h2))
    have st := whA_stepR l i h2
    have ihk := ih (i + 1) (by omega)
    simp only [ftC] at h3 q st
    refine i_code (by unfold a68_l0; exact rfl) ?_
    cases hv : validF l[i] with
    | true =>
      rw [hv] at q
      rw [whA_same l i h2 (by unfold whF; rw [hv]; rfl)] at ihk
      repeat' (first | exact q | (simp (disch := omega) only [go_sem, seval, reduceCtorEq, h1, h4, h3, hlen]) | with_reducible exact Ev.mk | apply x_call | ((first | apply x_split | apply x_splitg) <;> intro hβ hb <;> (simp (disch := omega) only [go_sem, seval, reduceCtorEq, h1, h4, h3, hlen, hβ]) <;> clear hβ))
      refine i_lk (W_round ?_)
      (try simp (disch := omega) only [go_sem, seval, reduceCtorEq])
      exact ihk
    | false =>
      rw [hv] at q
      have e : whF l[i] = FA := by unfold whF; rw [hv]; rfl
      rw [e] at st
      simp only [FA, strRow_nil] at st
      repeat' (first | exact q | (simp (disch := omega) only [go_sem, seval, reduceCtorEq, h1, h4, h3, hlen, st]) | with_reducible exact Ev.mk | apply x_call | ((first | apply x_split | apply x_splitg) <;> intro hβ hb <;> (simp (disch := omega) only [go_sem, seval, reduceCtorEq, h1, h4, h3, hlen, st, hβ]) <;> clear hβ))
      refine i_lk (W_round ?_)
      (try simp (disch := omega) only [go_sem, seval, reduceCtorEq])
      exact ihk

theorem allSz_ftRow (l : List Ft) : allSz 3 (ftRow l) = true := by simp [allSz, ftRow, ftC]

theorem bs_cloneF (l : List Ft) (b : Bool) (hl : l.length ≤ 1000) (H : Heap) (nx : Nat) : BS tb 85 [.p (.slice b (ftRow l))] H nx (.ref nx l.length 0 l.length) ((nx, .row false 3 (ftRow l)) :: H) (nx + 1) := by
  refine ⟨0, ?_⟩
  have hA : tb.A 85 = none := rfl
  have h1 : l.length * 56 ≤ maxBytes := by simp only [maxBytes]; omega
  have h2 : l.length ≤ maxBytes := by simp only [maxBytes]; omega
  have hX : tb.X = outside := rfl
  simp only [cfs, hA, hX]
  simp [outside, CallF.or, clones, cloneOf, allSz_ftRow, ftRow_length, h1, h2]

theorem ps_whole (l : List Ft) (b : Bool) (hl : l.length ≤ 1000) (hs : ∀ f ∈ l, ShF f) : PS tb 68 [.slice b (ftRow l)] (.slice false (ftRow (l.map whF))) := by
  refine PS_of (af := a68) rfl rfl ?_
  unfold a68
  dsimp only [List.map, ofPV, initEnv]
  repeat' (first | exact bs_cloneF l b hl _ _ | (simp (disch := omega) only [go_sem, seval, reduceCtorEq, ftRow_length]) | with_reducible exact Ev.mk | apply x_callr | ((first | apply x_split | apply x_splitg) <;> intro hβ hb <;> (simp (disch := omega) only [go_sem, seval, reduceCtorEq, ftRow_length, hβ]) <;> clear hβ))
  refine W_round ?_
  (try simp (disch := omega) only [go_sem, seval, reduceCtorEq])
  have e0 : whA l 0 = l := by simp [whA]
  have key := fun K hx => l_whole l hl hs K hx l.length 0 (by omega)
  rw [e0] at key
  refine key _ ?_
  have e1 : (ftRow (l.map whF)).take l.length = ftRow (l.map whF) := List.take_of_length_le (by simp [ftRow])
  repeat' (first | (simp (disch := omega) only [go_sem, seval, reduceCtorEq, ftRow_length]) | with_reducible exact Ev.mk | ((first | apply x_split | apply x_splitg) <;> intro hβ hb <;> (simp (disch := omega) only [go_sem, seval, reduceCtorEq, ftRow_length, hβ]) <;> clear hβ))
  all_goals simp [pur, dep, ftRow_length, e1]


/-! ## K3 -/

abbrev Ed := Nat × Nat × Nat
def edC (e : Ed) : List PV := [.int .i64 (e.1 : Int), .int .i64 (e.2.1 : Int), .int .i64 (e.2.2 : Int)]
def edRow (l : List Ed) : List (List PV) := l.map edC
theorem edRow_length (l : List Ed) : (edRow l).length = l.length := by simp [edRow]
theorem edRow_get (l : List Ed) (i : Nat) (h : i < l.length) : (edRow l)[i]? = some (edC l[i]) := by simp [edRow, h]
theorem edRow_snoc (l : List Ed) (i j k : Nat) : edRow l ++ [[.int .i64 (i : Int), .int .i64 (j : Int), .int .i64 (k : Int)]] = edRow (l ++ [(i, j, k)]) := by simp [edRow, edC]
theorem edRow_take (l : List Ed) : (edRow l).take l.length = edRow l := List.take_of_length_le (by simp [edRow])

section
variable (kk : Nat → Nat → List Nat)
def edK (i j : Nat) : List Ed := (kk i j).map fun k => (i, j, k)
def edJ (i c : Nat) : List Ed := (List.range c).flatMap fun t => edK kk i (i + 1 + t)
def edI (n c : Nat) : List Ed := (List.range c).flatMap fun i => edJ kk i (n - 1 - i)
theorem edJ_succ (i c : Nat) : edJ kk i (c + 1) = edJ kk i c ++ edK kk i (i + 1 + c) := by simp [edJ, List.range_succ]
theorem edI_succ (n c : Nat) : edI kk n (c + 1) = edI kk n c ++ edJ kk c (n - 1 - c) := by simp [edI, List.range_succ]
variable {kk} (hk : ∀ i j, (kk i j).length ≤ 3)
include hk
theorem edJ_len (i : Nat) : ∀ c, (edJ kk i c).length ≤ 3 * c
  | 0 => by simp [edJ]
  | c + 1 => by
    rw [edJ_succ, List.length_append]
    have := edJ_len i c
    have := hk i (i + 1 + c)
    simp only [edK, List.length_map]; omega
theorem edI_len (n : Nat) (hn : n ≤ 10) : ∀ c, (edI kk n c).length ≤ 30 * c
  | 0 => by simp [edI]
  | c + 1 => by
    rw [edI_succ, List.length_append]
    have := edI_len n hn c
    have := edJ_len hk c (n - 1 - c)
    omega
end

def kkW (F : List Ft) (i j : Nat) : List Nat := kindsR (F.getD i F0) (F.getD j F0)
theorem kinds_len (f g : Ft) : (kindsR f g).length ≤ 3 := by
  unfold kindsR
  split
  · simp
  · split <;> split <;> split <;> simp
theorem kkW_len (F : List Ft) (i j : Nat) : (kkW F i j).length ≤ 3 := kinds_len _ _

/-- The edges. -/
def edgesR (l : List Ft) : List Ed := edI (kkW (l.map whF)) l.length l.length

theorem l_edges0 (F : List Ft) (b : Bool) (i j : Nat) (ks : List Nat) (hks : ks.length ≤ 3) (A : List Ed) (hA : A.length ≤ 1000) (b2 : Bool) (K : Ex → St → Prop)
    (hx : K (.exit 4) ⟨[(3, .p (.slice b (ftRow F))), (4, .ref 0 (A ++ ks.map fun k => (i, j, k)).length 0 (A ++ ks.map fun k => (i, j, k)).length), (5, .p (.int .i64 i)), (6, .p (.int .i64 j)), (12, .p (.int .i64 F.length)), (13, .p (.int .i64 i))], [(0, .row false 3 (edRow (A ++ ks.map fun k => (i, j, k))))], 1, [0]⟩) : ∀ (m c : Nat), c + m = ks.length →
    W tb a32_l0 ⟨[(3, .p (.slice b (ftRow F))), (4, .ref 0 (A ++ (ks.take c).map fun k => (i, j, k)).length 0 (A ++ (ks.take c).map fun k => (i, j, k)).length), (5, .p (.int .i64 i)), (6, .p (.int .i64 j)), (12, .p (.int .i64 F.length)), (13, .p (.int .i64 i)), (32, .p (.slice b2 (intRow ks))), (33, .p (.int .i64 ks.length)), (34, .p (.int .i64 c))], [(0, .row false 3 (edRow (A ++ (ks.take c).map fun k => (i, j, k))))], 1, [0]⟩ (LK tb (.ghost .lower a32_l0) K) := by
  intro m
  induction m with
  | zero =>
    intro c hc
    have h1 : ¬ (c : Int) < ks.length := by omega
    have e : c = ks.length := by omega
    subst e
    rw [List.take_length]
    refine i_code (by unfold a32_l0; exact rfl) ?_
    repeat' (first | (simp (disch := omega) only [go_sem, seval, reduceCtorEq, h1]) | with_reducible exact Ev.mk | ((first | apply x_split | apply x_splitg) <;> intro hβ hb <;> (simp (disch := omega) only [go_sem, seval, reduceCtorEq, h1, hβ]) <;> clear hβ))
    exact hx
  | succ m ih =>
    intro c hc
    have h1 : (c : Int) < ks.length := by omega
    have h2 : c < ks.length := by omega
    have h4 : (0 : Int) ≤ c := by omega
    have h3 := intRow_get ks c h2
    have ihk := ih (c + 1) (by omega)
    have e : A ++ (ks.take (c + 1)).map (fun k => (i, j, k)) = (A ++ (ks.take c).map fun k => (i, j, k)) ++ [(i, j, ks[c])] := by
      rw [List.take_add_one, List.getElem?_eq_getElem h2]; simp only [Option.toList, List.map_append, List.map_cons, List.map_nil, List.append_assoc]
    rw [e] at ihk
    have hlen : (A ++ (ks.take c).map fun k => (i, j, k)).length ≤ 1003 := by simp; omega
    generalize (A ++ (ks.take c).map fun k => (i, j, k)) = B at ihk hlen ⊢
    have sn := edRow_snoc B i j ks[c]
    have m1 : (B.length + 1) * 24 ≤ 140737488355328 := by omega
    have m2 : B.length + 1 ≤ 140737488355328 := by omega
    rw [List.length_append] at ihk
    simp only [List.length_cons, List.length_nil] at ihk
    refine i_code (by unfold a32_l0; exact rfl) ?_
    repeat' (first | (simp (disch := omega) only [go_sem, seval, reduceCtorEq, h1, h4, h3, sn, edRow_length, sz3, m1, m2, maxBytes]) | with_reducible exact Ev.mk | ((first | apply x_split | apply x_splitg) <;> intro hβ hb <;> (simp (disch := omega) only [go_sem, seval, reduceCtorEq, h1, h4, h3, sn, edRow_length, sz3, m1, m2, maxBytes, hβ]) <;> clear hβ))
    refine i_lk (W_round ?_)
    (try simp (disch := omega) only [go_sem, seval, reduceCtorEq])
    exact ihk

theorem l_edges1 (F : List Ft) (hl : F.length ≤ 10) (hF : ∀ f ∈ F, Fo f) (b : Bool) (i : Nat) (hi : i < F.length) (A : List Ed) (hA : A.length ≤ 900) (K : Ex → St → Prop)
    (hx : K (.exit 2) ⟨[(3, .p (.slice b (ftRow F))), (4, .ref 0 (A ++ edJ (kkW F) i (F.length - 1 - i)).length 0 (A ++ edJ (kkW F) i (F.length - 1 - i)).length), (12, .p (.int .i64 F.length)), (13, .p (.int .i64 i))], [(0, .row false 3 (edRow (A ++ edJ (kkW F) i (F.length - 1 - i))))], 1, [0]⟩) : ∀ (m c : Nat), c + m = F.length - 1 - i →
    W tb a32_l1 ⟨[(3, .p (.slice b (ftRow F))), (4, .ref 0 (A ++ edJ (kkW F) i c).length 0 (A ++ edJ (kkW F) i c).length), (5, .p (.int .i64 i)), (6, .p (.int .i64 (i + 1 + c : Nat))), (12, .p (.int .i64 F.length)), (13, .p (.int .i64 i))], [(0, .row false 3 (edRow (A ++ edJ (kkW F) i c)))], 1, [0]⟩ (LK tb (.ghost .lower a32_l1) K) := by
  intro m
  induction m with
  | zero =>
    intro c hc
    have h1 : ¬ ((i + 1 + c : Nat) : Int) < F.length := by omega
    have e : c = F.length - 1 - i := by omega
    subst e
    refine i_code (by unfold a32_l1; exact rfl) ?_
    repeat' (first | (simp (disch := omega) only [go_sem, seval, reduceCtorEq, h1, ftRow_length]) | with_reducible exact Ev.mk | ((first | apply x_split | apply x_splitg) <;> intro hβ hb <;> (simp (disch := omega) only [go_sem, seval, reduceCtorEq, h1, ftRow_length, hβ]) <;> clear hβ))
    exact hx
  | succ m ih =>
    intro c hc
    have h1 : ((i + 1 + c : Nat) : Int) < F.length := by omega
    have h2 : i + 1 + c < F.length := by omega
    have h4 : (0 : Int) ≤ ((i + 1 + c : Nat) : Int) := by omega
    have h5 : (i : Int) < F.length := by omega
    have h6 : (0 : Int) ≤ (i : Int) := by omega
    have h7 := ftRow_get F i hi
    have h3 := ftRow_get F (i + 1 + c) h2
    obtain ⟨b2, q⟩ := ps_kinds F[i] F[i + 1 + c] (hF _ (List.getElem_mem hi)) (hF _ (List.getElem_mem h2))
    have hkk : kindsR F[i] F[i + 1 + c] = kkW F i (i + 1 + c) := by rw [kkW, getF_get F i hi, getF_get F _ h2]
    rw [hkk] at q
    have hks := kkW_len F i (i + 1 + c)
    have ihk := ih (c + 1) (by omega)
    rw [edJ_succ, ← List.append_assoc] at ihk
    have hlen : (A ++ edJ (kkW F) i c).length ≤ 1000 := by
      have := edJ_len (kkW_len F) i c
      rw [List.length_append]; omega
    generalize A ++ edJ (kkW F) i c = B at ihk hlen ⊢
    unfold edK at ihk
    generalize kkW F i (i + 1 + c) = ks at q hks ihk
    have e2 : ((i + 1 + c : Nat) : Int) + 1 = ((i + 1 + (c + 1) : Nat) : Int) := by omega
    simp only [ftC] at h3 h7 q
    refine i_code (by unfold a32_l1; exact rfl) ?_
    repeat' (first | exact q | (simp (disch := omega) only [go_sem, seval, reduceCtorEq, h1, h4, h5, h6, h3, h7, ftRow_length, intRow_length]) | with_reducible exact Ev.mk | apply x_call | ((first | apply x_split | apply x_splitg) <;> intro hβ hb <;> (simp (disch := omega) only [go_sem, seval, reduceCtorEq, h1, h4, h5, h6, h3, h7, ftRow_length, intRow_length, hβ]) <;> clear hβ))
    refine W_round ?_
    (try simp (disch := omega) only [go_sem, seval, reduceCtorEq])
    have key := fun K hx => l_edges0 F b i (i + 1 + c) ks hks B hlen b2 K hx ks.length 0 (by omega)
    simp only [List.take_zero, List.map_nil, List.append_nil] at key
    refine key _ ?_
    repeat' (first | (simp (disch := omega) only [go_sem, seval, reduceCtorEq, e2]) | with_reducible exact Ev.mk | ((first | apply x_split | apply x_splitg) <;> intro hβ hb <;> (simp (disch := omega) only [go_sem, seval, reduceCtorEq, e2, hβ]) <;> clear hβ))
    refine i_lk (W_round ?_)
    (try simp (disch := omega) only [go_sem, seval, reduceCtorEq])
    exact ihk

theorem l_edges2 (F : List Ft) (hl : F.length ≤ 10) (hF : ∀ f ∈ F, Fo f) (b : Bool) (K : Ex → St → Prop)
    (hx : K (.exit 0) ⟨[(4, .ref 0 (edI (kkW F) F.length F.length).length 0 (edI (kkW F) F.length F.length).length)], [(0, .row false 3 (edRow (edI (kkW F) F.length F.length)))], 1, [0]⟩) : ∀ (m i : Nat), i + m = F.length →
    W tb a32_l2 ⟨[(3, .p (.slice b (ftRow F))), (4, .ref 0 (edI (kkW F) F.length i).length 0 (edI (kkW F) F.length i).length), (12, .p (.int .i64 F.length)), (13, .p (.int .i64 i))], [(0, .row false 3 (edRow (edI (kkW F) F.length i)))], 1, [0]⟩ (LK tb (.ghost .lower a32_l2) K) := by
  intro m
  induction m with
  | zero =>
    intro i hi
    have h1 : ¬ (i : Int) < F.length := by omega
    have e : i = F.length := by omega
    subst e
    refine i_code (by unfold a32_l2; exact rfl) ?_
    repeat' (first | (simp (disch := omega) only [go_sem, seval, reduceCtorEq, h1]) | with_reducible exact Ev.mk | ((first | apply x_split | apply x_splitg) <;> intro hβ hb <;> (simp (disch := omega) only [go_sem, seval, reduceCtorEq, h1, hβ]) <;> clear hβ))
    exact hx
  | succ m ih =>
    intro i hi
    have h1 : (i : Int) < F.length := by omega
    have h2 : i < F.length := by omega
    have ihk := ih (i + 1) (by omega)
    rw [edI_succ] at ihk
    have hlen := edI_len (kkW_len F) F.length hl i
    have key := fun K hx => l_edges1 F hl hF b i h2 (edI (kkW F) F.length i) (by omega) K hx (F.length - 1 - i) 0 (by omega)
    have e0 : edJ (kkW F) i 0 = [] := rfl
    simp only [e0, List.append_nil, Nat.add_zero] at key
    refine i_code (by unfold a32_l2; exact rfl) ?_
    repeat' (first | (simp (disch := omega) only [go_sem, seval, reduceCtorEq, h1]) | with_reducible exact Ev.mk | ((first | apply x_split | apply x_splitg) <;> intro hβ hb <;> (simp (disch := omega) only [go_sem, seval, reduceCtorEq, h1, hβ]) <;> clear hβ))
    refine W_round ?_
    (try simp (disch := omega) only [go_sem, seval, reduceCtorEq])
    refine key _ ?_
    repeat' (first | (simp (disch := omega) only [go_sem, seval, reduceCtorEq]) | with_reducible exact Ev.mk | ((first | apply x_split | apply x_splitg) <;> intro hβ hb <;> (simp (disch := omega) only [go_sem, seval, reduceCtorEq, hβ]) <;> clear hβ))
    refine i_lk (W_round ?_)
    (try simp (disch := omega) only [go_sem, seval, reduceCtorEq])
    exact ihk

theorem ps_edges (l : List Ft) (b : Bool) (hl : l.length ≤ 10) (hF : ∀ f ∈ l, Fo f) : PS tb 32 [.slice b (ftRow l)] (.slice false (edRow (edgesR l))) := by
  have q := ps_whole l b (by omega) (fun f hf => (hF f hf).1)
  have hlw : (l.map whF).length = l.length := List.length_map ..
  have key := fun K hx => l_edges2 (l.map whF) (by rw [hlw]; exact hl) (by
    intro f hf
    obtain ⟨g, hg, rfl⟩ := List.mem_map.1 hf
    exact whF_ok (hF g hg)) false K hx (l.map whF).length 0 (by omega)
  have e0 : edI (kkW (l.map whF)) (l.map whF).length 0 = [] := rfl
  rw [e0] at key
  have e1 : edI (kkW (l.map whF)) (l.map whF).length (l.map whF).length = edgesR l := by rw [edgesR, hlw]
  rw [e1] at key
  refine PS_of (af := a32) rfl rfl ?_
  unfold a32
  dsimp only [List.map, ofPV, initEnv]
  repeat' (first | exact q | (simp (disch := omega) only [go_sem, seval, reduceCtorEq, ftRow_length]) | with_reducible exact Ev.mk | apply x_call | ((first | apply x_split | apply x_splitg) <;> intro hβ hb <;> (simp (disch := omega) only [go_sem, seval, reduceCtorEq, ftRow_length, hβ]) <;> clear hβ))
  refine W_round ?_
  (try simp (disch := omega) only [go_sem, seval, reduceCtorEq])
  refine key _ ?_
  have e2 := edRow_take (edgesR l)
  repeat' (first | (simp (disch := omega) only [go_sem, seval, reduceCtorEq, edRow_length]) | with_reducible exact Ev.mk | ((first | apply x_split | apply x_splitg) <;> intro hβ hb <;> (simp (disch := omega) only [go_sem, seval, reduceCtorEq, edRow_length, hβ]) <;> clear hβ))
  all_goals simp [pur, dep, edRow_length, e2]


/-! ## K4 -/

def filt (f g : Ft) (c : Nat) : List Nat := ((List.range c).map (· + 1)).filter (isF f g)
theorem filt_succ (f g : Ft) (c : Nat) : filt f g (c + 1) = filt f g c ++ (if isF f g (c + 1) then [c + 1] else []) := by
  unfold filt
  rw [List.range_succ, List.map_append, List.filter_append]
  congr 1
  simp only [List.map_cons, List.map_nil, List.filter_cons, List.filter_nil]
theorem filt_len (f g : Ft) (c : Nat) : (filt f g c).length ≤ c := by
  unfold filt
  exact Nat.le_trans (List.length_filter_le _ _) (by simp)
def kkR (l : List Ft) (i j : Nat) : List Nat := filt (l.getD i F0) (l.getD j F0) 3
theorem kkR_len (l : List Ft) (i j : Nat) : (kkR l i j).length ≤ 3 := filt_len _ _ _

theorem kk_same {f g : Ft} : kindsR (whF f) (whF g) = filt f g 3 := by
  unfold kindsR
  rw [whF_all, whF_all]
  cases h1 : allF f with
  | true => simp [filt, isF, h1, List.range_succ]
  | false =>
    cases h2 : allF g with
    | true => simp [filt, isF, h1, h2, List.range_succ]
    | false =>
      rw [whF_not h1, whF_not h2]
      cases c1 : meetB f.w g.r <;> cases c2 : meetB f.r g.w <;> cases c3 : meetB f.w g.w <;> simp [filt, isF, h1, h2, c1, c2, c3, List.range_succ]

theorem edI_congr {k1 k2 : Nat → Nat → List Nat} {n : Nat} (h : ∀ i j, i < n → j < n → k1 i j = k2 i j) : ∀ c, c ≤ n → edI k1 n c = edI k2 n c
  | 0, _ => rfl
  | c + 1, hc => by
    rw [edI_succ, edI_succ, edI_congr h c (by omega)]
    congr 1
    have : ∀ d, d ≤ n - 1 - c → edJ k1 c d = edJ k2 c d := by
      intro d
      induction d with
      | zero => intro _; rfl
      | succ d ih =>
        intro hd
        rw [edJ_succ, edJ_succ, ih (by omega), edK, edK, h c (c + 1 + d) (by omega) (by omega)]
    exact this _ (Nat.le_refl _)

theorem getF_map (l : List Ft) (i : Nat) (h : i < l.length) : (l.map whF).getD i F0 = whF (l.getD i F0) := by
  rw [getF_get (l.map whF) i (by simpa using h), getF_get l i h]; simp

theorem edges_same (l : List Ft) : edI (kkR l) l.length l.length = edgesR l := by
  unfold edgesR
  exact edI_congr (fun i j hi hj => by rw [kkW, getF_map l i hi, getF_map l j hj, kk_same]; rfl) _ (Nat.le_refl _)

theorem l_redges0 (l : List Ft) (hF : ∀ f ∈ l, Fo f) (b : Bool) (i j : Nat) (hi : i < l.length) (hj : j < l.length) (hl : l.length ≤ 10) (A : List Ed) (hA : A.length ≤ 1000) (K : Ex → St → Prop)
    (hx : K (.exit 4) ⟨[(0, .p (.slice b (ftRow l))), (3, .ref 0 (A ++ edK (kkR l) i j).length 0 (A ++ edK (kkR l) i j).length), (4, .p (.int .i64 i)), (5, .p (.int .i64 j))], [(0, .row false 3 (edRow (A ++ edK (kkR l) i j)))], 1, [0]⟩) : ∀ (m c : Nat), c + m = 3 →
    W tb a37_l0 ⟨[(0, .p (.slice b (ftRow l))), (3, .ref 0 (A ++ (filt (l.getD i F0) (l.getD j F0) c).map fun k => (i, j, k)).length 0 (A ++ (filt (l.getD i F0) (l.getD j F0) c).map fun k => (i, j, k)).length), (4, .p (.int .i64 i)), (5, .p (.int .i64 j)), (6, .p (.int .i64 (c + 1 : Nat)))], [(0, .row false 3 (edRow (A ++ (filt (l.getD i F0) (l.getD j F0) c).map fun k => (i, j, k))))], 1, [0]⟩ (LK tb (.ghost .lower a37_l0) K) := by
  intro m
  induction m with
  | zero =>
    intro c hc
    have h1 : ¬ ((c + 1 : Nat) : Int) ≤ 3 := by omega
    have e : c = 3 := by omega
    subst e
    refine i_code (by unfold a37_l0; exact rfl) ?_
    repeat' (first | (simp (disch := omega) only [go_sem, seval, reduceCtorEq, h1]) | with_reducible exact Ev.mk | ((first | apply x_split | apply x_splitg) <;> intro hβ hb <;> (simp (disch := omega) only [go_sem, seval, reduceCtorEq, h1, hβ]) <;> clear hβ))
    exact hx
  | succ m ih =>
    intro c hc
    have h1 : ((c + 1 : Nat) : Int) ≤ 3 := by omega
    have h4 : (0 : Int) ≤ (j : Int) := by omega
    have h5 : (i : Int) < l.length := by omega
    have h5' : (j : Int) < l.length := by omega
    have h6 : (0 : Int) ≤ (i : Int) := by omega
    have h7 := ftRow_get l i hi
    have h3 := ftRow_get l j hj
    have q := ps_is l[i] l[j] (hF _ (List.getElem_mem hi)) (hF _ (List.getElem_mem hj)) (c + 1) (by omega)
    have ihk := ih (c + 1) (by omega)
    rw [filt_succ, List.map_append, ← List.append_assoc] at ihk
    have hlen : (A ++ (filt (l.getD i F0) (l.getD j F0) c).map fun k => (i, j, k)).length ≤ 1003 := by
      have := filt_len (l.getD i F0) (l.getD j F0) c
      simp only [List.length_append, List.length_map]; omega
    generalize A ++ (filt (l.getD i F0) (l.getD j F0) c).map (fun k => (i, j, k)) = B at ihk hlen ⊢
    have e2 : ((c + 1 : Nat) : Int) + 1 = ((c + 1 + 1 : Nat) : Int) := by omega
    have m1 : (B.length + 1) * 24 ≤ 140737488355328 := by omega
    have m2 : B.length + 1 ≤ 140737488355328 := by omega
    have sn := edRow_snoc B i j (c + 1)
    rw [getF_get l i hi, getF_get l j hj] at ihk
    simp only [ftC] at h3 h7 q
    refine i_code (by unfold a37_l0; exact rfl) ?_
    cases hv : isF l[i] l[j] (c + 1) with
    | true =>
      rw [hv] at q
      rw [hv] at ihk
      simp only [if_true, List.map_cons, List.map_nil, List.length_append, List.length_cons, List.length_nil] at ihk
      repeat' (first | exact q | (simp (disch := omega) only [go_sem, seval, reduceCtorEq, h1, h4, h5, h5', h6, h3, h7, ftRow_length, sn, edRow_length, sz3, m1, m2, maxBytes, e2]) | with_reducible exact Ev.mk | apply x_call | ((first | apply x_split | apply x_splitg) <;> intro hβ hb <;> (simp (disch := omega) only [go_sem, seval, reduceCtorEq, h1, h4, h5, h5', h6, h3, h7, ftRow_length, sn, edRow_length, sz3, m1, m2, maxBytes, e2, hβ]) <;> clear hβ))
      refine i_lk (W_round ?_)
      (try simp (disch := omega) only [go_sem, seval, reduceCtorEq])
      exact ihk
    | false =>
      rw [hv] at q
      rw [hv] at ihk
      simp only [Bool.false_eq_true, if_false, List.map_nil, List.append_nil] at ihk
      repeat' (first | exact q | (simp (disch := omega) only [go_sem, seval, reduceCtorEq, h1, h4, h5, h5', h6, h3, h7, ftRow_length, e2]) | with_reducible exact Ev.mk | apply x_call | ((first | apply x_split | apply x_splitg) <;> intro hβ hb <;> (simp (disch := omega) only [go_sem, seval, reduceCtorEq, h1, h4, h5, h5', h6, h3, h7, ftRow_length, e2, hβ]) <;> clear hβ))
      refine i_lk (W_round ?_)
      (try simp (disch := omega) only [go_sem, seval, reduceCtorEq])
      exact ihk

theorem l_redges1 (l : List Ft) (hl : l.length ≤ 10) (hF : ∀ f ∈ l, Fo f) (b : Bool) (i : Nat) (hi : i < l.length) (A : List Ed) (hA : A.length ≤ 900) (K : Ex → St → Prop)
    (hx : K (.exit 2) ⟨[(0, .p (.slice b (ftRow l))), (3, .ref 0 (A ++ edJ (kkR l) i (l.length - 1 - i)).length 0 (A ++ edJ (kkR l) i (l.length - 1 - i)).length), (4, .p (.int .i64 i))], [(0, .row false 3 (edRow (A ++ edJ (kkR l) i (l.length - 1 - i))))], 1, [0]⟩) : ∀ (m c : Nat), c + m = l.length - 1 - i →
    W tb a37_l1 ⟨[(0, .p (.slice b (ftRow l))), (3, .ref 0 (A ++ edJ (kkR l) i c).length 0 (A ++ edJ (kkR l) i c).length), (4, .p (.int .i64 i)), (5, .p (.int .i64 (i + 1 + c : Nat)))], [(0, .row false 3 (edRow (A ++ edJ (kkR l) i c)))], 1, [0]⟩ (LK tb (.ghost .lower a37_l1) K) := by
  intro m
  induction m with
  | zero =>
    intro c hc
    have h1 : ¬ ((i + 1 + c : Nat) : Int) < l.length := by omega
    have e : c = l.length - 1 - i := by omega
    subst e
    refine i_code (by unfold a37_l1; exact rfl) ?_
    repeat' (first | (simp (disch := omega) only [go_sem, seval, reduceCtorEq, h1, ftRow_length]) | with_reducible exact Ev.mk | ((first | apply x_split | apply x_splitg) <;> intro hβ hb <;> (simp (disch := omega) only [go_sem, seval, reduceCtorEq, h1, ftRow_length, hβ]) <;> clear hβ))
    exact hx
  | succ m ih =>
    intro c hc
    have h1 : ((i + 1 + c : Nat) : Int) < l.length := by omega
    have h2 : i + 1 + c < l.length := by omega
    have ihk := ih (c + 1) (by omega)
    rw [edJ_succ, ← List.append_assoc] at ihk
    have hlen : (A ++ edJ (kkR l) i c).length ≤ 1000 := by
      have := edJ_len (kkR_len l) i c
      rw [List.length_append]; omega
    generalize A ++ edJ (kkR l) i c = B at ihk hlen ⊢
    have e2 : ((i + 1 + c : Nat) : Int) + 1 = ((i + 1 + (c + 1) : Nat) : Int) := by omega
    refine i_code (by unfold a37_l1; exact rfl) ?_
    repeat' (first | (simp (disch := omega) only [go_sem, seval, reduceCtorEq, h1, ftRow_length]) | with_reducible exact Ev.mk | ((first | apply x_split | apply x_splitg) <;> intro hβ hb <;> (simp (disch := omega) only [go_sem, seval, reduceCtorEq, h1, ftRow_length, hβ]) <;> clear hβ))
    refine W_round ?_
    (try simp (disch := omega) only [go_sem, seval, reduceCtorEq])
    have key := fun K hx => l_redges0 l hF b i (i + 1 + c) hi h2 hl B hlen K hx 3 0 (by omega)
    have e0 : filt (l.getD i F0) (l.getD (i + 1 + c) F0) 0 = [] := rfl
    simp only [e0, List.map_nil, List.append_nil] at key
    refine key _ ?_
    repeat' (first | (simp (disch := omega) only [go_sem, seval, reduceCtorEq, e2]) | with_reducible exact Ev.mk | ((first | apply x_split | apply x_splitg) <;> intro hβ hb <;> (simp (disch := omega) only [go_sem, seval, reduceCtorEq, e2, hβ]) <;> clear hβ))
    refine i_lk (W_round ?_)
    (try simp (disch := omega) only [go_sem, seval, reduceCtorEq])
    exact ihk

theorem l_redges2 (l : List Ft) (hl : l.length ≤ 10) (hF : ∀ f ∈ l, Fo f) (b : Bool) (K : Ex → St → Prop)
    (hx : K (.exit 0) ⟨[(3, .ref 0 (edI (kkR l) l.length l.length).length 0 (edI (kkR l) l.length l.length).length)], [(0, .row false 3 (edRow (edI (kkR l) l.length l.length)))], 1, [0]⟩) : ∀ (m i : Nat), i + m = l.length →
    W tb a37_l2 ⟨[(0, .p (.slice b (ftRow l))), (3, .ref 0 (edI (kkR l) l.length i).length 0 (edI (kkR l) l.length i).length), (4, .p (.int .i64 i))], [(0, .row false 3 (edRow (edI (kkR l) l.length i)))], 1, [0]⟩ (LK tb (.ghost .lower a37_l2) K) := by
  intro m
  induction m with
  | zero =>
    intro i hi
    have h1 : ¬ (i : Int) < l.length := by omega
    have e : i = l.length := by omega
    subst e
    refine i_code (by unfold a37_l2; exact rfl) ?_
    repeat' (first | (simp (disch := omega) only [go_sem, seval, reduceCtorEq, h1, ftRow_length]) | with_reducible exact Ev.mk | ((first | apply x_split | apply x_splitg) <;> intro hβ hb <;> (simp (disch := omega) only [go_sem, seval, reduceCtorEq, h1, ftRow_length, hβ]) <;> clear hβ))
    exact hx
  | succ m ih =>
    intro i hi
    have h1 : (i : Int) < l.length := by omega
    have h2 : i < l.length := by omega
    have ihk := ih (i + 1) (by omega)
    rw [edI_succ] at ihk
    have hlen := edI_len (kkR_len l) l.length hl i
    have key := fun K hx => l_redges1 l hl hF b i h2 (edI (kkR l) l.length i) (by omega) K hx (l.length - 1 - i) 0 (by omega)
    have e0 : edJ (kkR l) i 0 = [] := rfl
    simp only [e0, List.append_nil, Nat.add_zero] at key
    refine i_code (by unfold a37_l2; exact rfl) ?_
    repeat' (first | (simp (disch := omega) only [go_sem, seval, reduceCtorEq, h1, ftRow_length]) | with_reducible exact Ev.mk | ((first | apply x_split | apply x_splitg) <;> intro hβ hb <;> (simp (disch := omega) only [go_sem, seval, reduceCtorEq, h1, ftRow_length, hβ]) <;> clear hβ))
    refine W_round ?_
    (try simp (disch := omega) only [go_sem, seval, reduceCtorEq])
    refine key _ ?_
    repeat' (first | (simp (disch := omega) only [go_sem, seval, reduceCtorEq]) | with_reducible exact Ev.mk | ((first | apply x_split | apply x_splitg) <;> intro hβ hb <;> (simp (disch := omega) only [go_sem, seval, reduceCtorEq, hβ]) <;> clear hβ))
    refine i_lk (W_round ?_)
    (try simp (disch := omega) only [go_sem, seval, reduceCtorEq])
    exact ihk

theorem ps_redges (l : List Ft) (b : Bool) (hl : l.length ≤ 10) (hF : ∀ f ∈ l, Fo f) : PS tb 37 [.slice b (ftRow l)] (.slice false (edRow (edgesR l))) := by
  have key := fun K hx => l_redges2 l hl hF b K hx l.length 0 (by omega)
  have e0 : edI (kkR l) l.length 0 = [] := rfl
  rw [e0, edges_same] at key
  refine PS_of (af := a37) rfl rfl ?_
  unfold a37
  dsimp only [List.map, ofPV, initEnv]
  repeat' (first | (simp (disch := omega) only [go_sem, seval, reduceCtorEq, ftRow_length]) | with_reducible exact Ev.mk | ((first | apply x_split | apply x_splitg) <;> intro hβ hb <;> (simp (disch := omega) only [go_sem, seval, reduceCtorEq, ftRow_length, hβ]) <;> clear hβ))
  refine W_round ?_
  (try simp (disch := omega) only [go_sem, seval, reduceCtorEq])
  refine key _ ?_
  have e2 := edRow_take (edgesR l)
  repeat' (first | (simp (disch := omega) only [go_sem, seval, reduceCtorEq, edRow_length]) | with_reducible exact Ev.mk | ((first | apply x_split | apply x_splitg) <;> intro hβ hb <;> (simp (disch := omega) only [go_sem, seval, reduceCtorEq, edRow_length, hβ]) <;> clear hβ))
  all_goals simp [pur, dep, edRow_length, e2]


/-! ## K5 -/

def lv1 (l : List Ft) (vs : List Nat) (j : Nat) : Nat → Nat
  | 0 => 0
  | i + 1 => if conflB (l.getD i F0) (l.getD j F0) then max (lv1 l vs j i) (vs.getD i 0 + 1) else lv1 l vs j i
def lvs (l : List Ft) : Nat → List Nat
  | 0 => []
  | j + 1 => lvs l j ++ [lv1 l (lvs l j) j j]
def levR (l : List Ft) : List Nat := lvs l l.length
theorem lvs_len (l : List Ft) : ∀ j, (lvs l j).length = j
  | 0 => rfl
  | j + 1 => by simp [lvs, lvs_len l j]
theorem lv1_le (l : List Ft) (vs : List Nat) (j B : Nat) (h : ∀ x ∈ vs, x ≤ B) : ∀ i, lv1 l vs j i ≤ B + 1
  | 0 => by simp [lv1]
  | i + 1 => by
    have ih := lv1_le l vs j B h i
    have hv : vs.getD i 0 ≤ B := by
      rcases Nat.lt_or_ge i vs.length with h1 | h1
      · rw [List.getD_eq_getElem?_getD, List.getElem?_eq_getElem h1]; exact h _ (List.getElem_mem h1)
      · rw [List.getD_eq_getElem?_getD, List.getElem?_eq_none h1]; exact Nat.zero_le _
    unfold lv1
    split
    · omega
    · exact ih
theorem lvs_le (l : List Ft) : ∀ j, ∀ x ∈ lvs l j, x ≤ j
  | 0, x, h => by simp [lvs] at h
  | j + 1, x, h => by
    simp only [lvs, List.mem_append, List.mem_singleton] at h
    rcases h with h | h
    · have := lvs_le l j x h; omega
    · rw [h]; exact lv1_le l _ j j (lvs_le l j) j

def lvA (l : List Ft) (j x : Nat) : List Nat := lvs l j ++ x :: List.replicate (l.length - 1 - j) 0
theorem lvA_len (l : List Ft) (j x : Nat) (h : j < l.length) : (lvA l j x).length = l.length := by simp [lvA, lvs_len]; omega
theorem lvA_at (l : List Ft) (j x : Nat) : (intRow (lvA l j x))[j]? = some [.int .i64 (x : Int)] := by
  rw [intRow, List.getElem?_map, lvA, List.getElem?_append_right (by rw [lvs_len]; exact Nat.le_refl _), lvs_len, Nat.sub_self]; rfl
theorem lvA_low (l : List Ft) (j x i : Nat) (h : i < j) : (intRow (lvA l j x))[i]? = some [.int .i64 ((lvs l j).getD i 0 : Nat)] := by
  have hl : i < (lvs l j).length := by rw [lvs_len]; exact h
  rw [intRow, List.getElem?_map, lvA, List.getElem?_append_left hl, List.getD_eq_getElem?_getD, List.getElem?_eq_getElem hl]; rfl
theorem lvA_set (l : List Ft) (j x y : Nat) : (intRow (lvA l j x)).set j [.int .i64 (y : Int)] = intRow (lvA l j y) := by
  have : (lvA l j x).set j y = lvA l j y := by
    unfold lvA
    rw [List.set_append_right _ _ (by rw [lvs_len]; exact Nat.le_refl _), lvs_len, Nat.sub_self, List.set_cons_zero]
  rw [← this, intRow, intRow, List.map_set]
def lvB (l : List Ft) (j : Nat) : List Nat := lvs l j ++ List.replicate (l.length - j) 0
theorem lvB_A (l : List Ft) (j : Nat) (h : j < l.length) : lvB l j = lvA l j 0 := by
  unfold lvB lvA
  have : l.length - j = (l.length - 1 - j) + 1 := by omega
  rw [this, List.replicate_succ]
theorem lvA_B (l : List Ft) (j : Nat) (h : j < l.length) : lvA l j (lv1 l (lvs l j) j j) = lvB l (j + 1) := by
  unfold lvB lvA
  have : l.length - 1 - j = l.length - (j + 1) := by omega
  rw [this, lvs, List.append_assoc]; rfl
theorem lvB_end (l : List Ft) : lvB l l.length = levR l := by simp [lvB, levR]
theorem lvB_zero (l : List Ft) : intRow (lvB l 0) = List.replicate l.length [.int .i64 0] := by simp [lvB, lvs, intRow]

theorem l_lev0 (l : List Ft) (hl : l.length ≤ 10) (hF : ∀ f ∈ l, Fo f) (b : Bool) (j : Nat) (hj : j < l.length) (K : Ex → St → Prop)
    (hx : K (.exit 2) ⟨[(0, .p (.slice b (ftRow l))), (3, .ref 0 l.length 0 l.length), (10, .p (.int .i64 l.length)), (11, .p (.int .i64 j))], [(0, .row false 1 (intRow (lvA l j (lv1 l (lvs l j) j j))))], 1, [0]⟩) : ∀ (m i : Nat), i + m = j →
    W tb a39_l0 ⟨[(0, .p (.slice b (ftRow l))), (3, .ref 0 l.length 0 l.length), (4, .p (.int .i64 j)), (10, .p (.int .i64 l.length)), (11, .p (.int .i64 j)), (14, .p (.int .i64 j)), (15, .p (.int .i64 i))], [(0, .row false 1 (intRow (lvA l j (lv1 l (lvs l j) j i))))], 1, [0]⟩ (LK tb (.ghost .lower a39_l0) K) := by
  intro m
  induction m with
  | zero =>
    intro i hi
    have h1 : ¬ (i : Int) < (j : Int) := by omega
    have e : i = j := by omega
    subst e
    refine i_code (by unfold a39_l0; exact rfl) ?_
    repeat' (first | (simp (disch := omega) only [go_sem, seval, reduceCtorEq, h1]) | with_reducible exact Ev.mk | ((first | apply x_split | apply x_splitg) <;> intro hβ hb <;> (simp (disch := omega) only [go_sem, seval, reduceCtorEq, h1, hβ]) <;> clear hβ))
    exact hx
  | succ m ih =>
    intro i hi
    have h1 : (i : Int) < (j : Int) := by omega
    have hil : i < l.length := by omega
    have h2 : (i : Int) < l.length := by omega
    have h2' : (j : Int) < l.length := by omega
    have h4 : (0 : Int) ≤ i := by omega
    have h4' : (0 : Int) ≤ j := by omega
    have h3 := ftRow_get l i hil
    have h5 := ftRow_get l j hj
    have q := ps_fconfl l[i] l[j] (hF _ (List.getElem_mem hil)).1 (hF _ (List.getElem_mem hj)).1
    have ihk := ih (i + 1) (by omega)
    have hle : lv1 l (lvs l j) j i ≤ j + 1 := lv1_le l (lvs l j) j j (lvs_le l j) i
    have hle2 : (lvs l j).getD i 0 ≤ j := by
      have hl : i < (lvs l j).length := by rw [lvs_len]; omega
      rw [List.getD_eq_getElem?_getD, List.getElem?_eq_getElem hl]; exact lvs_le l j _ (List.getElem_mem hl)
    unfold lv1 at ihk
    rw [getF_get l i hil, getF_get l j hj] at ihk
    generalize lv1 l (lvs l j) j i = a at ihk hle ⊢
    have g1 := lvA_at l j a
    have g2 := lvA_low l j a i (by omega)
    have g3 := lvA_len l j a hj
    have g4 := fun y => lvA_set l j a y
    generalize (lvs l j).getD i 0 = v at ihk hle2 g2
    simp only [ftC] at h3 h5 q
    refine i_code (by unfold a39_l0; exact rfl) ?_
    cases hv : conflB l[i] l[j] with
    | false =>
      rw [hv] at q ihk
      simp only [Bool.false_eq_true, if_false] at ihk
      repeat' (first | exact q | (simp (disch := omega) only [go_sem, seval, reduceCtorEq, h1, h2, h2', h4, h4', h3, h5, ftRow_length]) | with_reducible exact Ev.mk | apply x_call | ((first | apply x_split | apply x_splitg) <;> intro hβ hb <;> (simp (disch := omega) only [go_sem, seval, reduceCtorEq, h1, h2, h2', h4, h4', h3, h5, ftRow_length, hβ]) <;> clear hβ))
      refine i_lk (W_round ?_)
      (try simp (disch := omega) only [go_sem, seval, reduceCtorEq])
      exact ihk
    | true =>
      rw [hv] at q ihk
      simp only [if_true] at ihk
      by_cases c : a < v + 1
      · have c1 : (a : Int) < ((v + 1 : Nat) : Int) := by omega
        have e1 : max a (v + 1) = v + 1 := by omega
        have g5 := g4 (v + 1)
        rw [e1] at ihk
        repeat' (first | exact q | (simp (disch := omega) only [go_sem, seval, reduceCtorEq, h1, h2, h2', h4, h4', h3, h5, c1, g1, g2, g3, g5, ftRow_length, intRow_length]) | with_reducible exact Ev.mk | apply x_call | ((first | apply x_split | apply x_splitg) <;> intro hβ hb <;> (simp (disch := omega) only [go_sem, seval, reduceCtorEq, h1, h2, h2', h4, h4', h3, h5, c1, g1, g2, g3, g5, ftRow_length, intRow_length, hβ]) <;> clear hβ))
        refine i_lk (W_round ?_)
        (try simp (disch := omega) only [go_sem, seval, reduceCtorEq])
        exact ihk
      · have c1 : ¬ (a : Int) < ((v + 1 : Nat) : Int) := by omega
        have e1 : max a (v + 1) = a := by omega
        have g5 := g4 a
        rw [e1] at ihk
        repeat' (first | exact q | (simp (disch := omega) only [go_sem, seval, reduceCtorEq, h1, h2, h2', h4, h4', h3, h5, c1, g1, g2, g3, g5, ftRow_length, intRow_length]) | with_reducible exact Ev.mk | apply x_call | ((first | apply x_split | apply x_splitg) <;> intro hβ hb <;> (simp (disch := omega) only [go_sem, seval, reduceCtorEq, h1, h2, h2', h4, h4', h3, h5, c1, g1, g2, g3, g5, ftRow_length, intRow_length, hβ]) <;> clear hβ))
        refine i_lk (W_round ?_)
        (try simp (disch := omega) only [go_sem, seval, reduceCtorEq])
        exact ihk

theorem l_lev1 (l : List Ft) (hl : l.length ≤ 10) (hF : ∀ f ∈ l, Fo f) (b : Bool) (K : Ex → St → Prop)
    (hx : K (.exit 0) ⟨[(3, .ref 0 l.length 0 l.length)], [(0, .row false 1 (intRow (levR l)))], 1, [0]⟩) : ∀ (m j : Nat), j + m = l.length →
    W tb a39_l1 ⟨[(0, .p (.slice b (ftRow l))), (3, .ref 0 l.length 0 l.length), (10, .p (.int .i64 l.length)), (11, .p (.int .i64 j))], [(0, .row false 1 (intRow (lvB l j)))], 1, [0]⟩ (LK tb (.ghost .lower a39_l1) K) := by
  intro m
  induction m with
  | zero =>
    intro j hj
    have h1 : ¬ (j : Int) < l.length := by omega
    have e : j = l.length := by omega
    subst e
    rw [lvB_end]
    refine i_code (by unfold a39_l1; exact rfl) ?_
    repeat' (first | (simp (disch := omega) only [go_sem, seval, reduceCtorEq, h1]) | with_reducible exact Ev.mk | ((first | apply x_split | apply x_splitg) <;> intro hβ hb <;> (simp (disch := omega) only [go_sem, seval, reduceCtorEq, h1, hβ]) <;> clear hβ))
    exact hx
  | succ m ih =>
    intro j hj
    have h1 : (j : Int) < l.length := by omega
    have h2 : j < l.length := by omega
    have ihk := ih (j + 1) (by omega)
    rw [← lvA_B l j h2] at ihk
    rw [lvB_A l j h2]
    refine i_code (by unfold a39_l1; exact rfl) ?_
    repeat' (first | (simp (disch := omega) only [go_sem, seval, reduceCtorEq, h1]) | with_reducible exact Ev.mk | ((first | apply x_split | apply x_splitg) <;> intro hβ hb <;> (simp (disch := omega) only [go_sem, seval, reduceCtorEq, h1, hβ]) <;> clear hβ))
    refine W_round ?_
    (try simp (disch := omega) only [go_sem, seval, reduceCtorEq])
    refine l_lev0 l hl hF b j h2 _ ?_ j 0 (by omega)
    repeat' (first | (simp (disch := omega) only [go_sem, seval, reduceCtorEq]) | with_reducible exact Ev.mk | ((first | apply x_split | apply x_splitg) <;> intro hβ hb <;> (simp (disch := omega) only [go_sem, seval, reduceCtorEq, hβ]) <;> clear hβ))
    refine i_lk (W_round ?_)
    (try simp (disch := omega) only [go_sem, seval, reduceCtorEq])
    exact ihk

theorem intRow_take (l : List Nat) (n : Nat) (h : l.length = n) : (intRow l).take n = intRow l := List.take_of_length_le (by simp [intRow, h])
theorem levR_len (l : List Ft) : (levR l).length = l.length := lvs_len l _

theorem ps_levels (l : List Ft) (b : Bool) (hl : l.length ≤ 10) (hF : ∀ f ∈ l, Fo f) : PS tb 39 [.slice b (ftRow l)] (.slice false (intRow (levR l))) := by
  have key := fun K hx => l_lev1 l hl hF b K hx l.length 0 (by omega)
  rw [lvB_zero] at key
  have m1 : l.length * 8 ≤ 140737488355328 := by omega
  have m2 : (l.length : Int) ≤ 140737488355328 := by omega
  have m3 : (0 : Int) ≤ l.length := by omega
  refine PS_of (af := a39) rfl rfl ?_
  unfold a39
  dsimp only [List.map, ofPV, initEnv]
  repeat' (first | (simp (disch := omega) only [go_sem, seval, reduceCtorEq, ftRow_length, m1, m2, m3, maxBytes]) | with_reducible exact Ev.mk | ((first | apply x_split | apply x_splitg) <;> intro hβ hb <;> (simp (disch := omega) only [go_sem, seval, reduceCtorEq, ftRow_length, m1, m2, m3, maxBytes, hβ]) <;> clear hβ))
  refine W_round ?_
  (try simp (disch := omega) only [go_sem, seval, reduceCtorEq])
  refine key _ ?_
  have e2 := intRow_take (levR l) l.length (levR_len l)
  have e3 := levR_len l
  repeat' (first | (simp (disch := omega) only [go_sem, seval, reduceCtorEq, intRow_length, e3]) | with_reducible exact Ev.mk | ((first | apply x_split | apply x_splitg) <;> intro hβ hb <;> (simp (disch := omega) only [go_sem, seval, reduceCtorEq, intRow_length, e3, hβ]) <;> clear hβ))
  all_goals simp [pur, dep, intRow_length, e2, e3]

/-! ### the second -/

theorem l_rlev0 (l : List Ft) (hl : l.length ≤ 10) (hF : ∀ f ∈ l, Fo f) (b : Bool) (j : Nat) (hj : j < l.length) (K : Ex → St → Prop)
    (hx : K (.exit 2) ⟨[(0, .p (.slice b (ftRow l))), (3, .ref 0 (lvs l j).length 0 (lvs l j).length), (4, .p (.int .i64 j)), (5, .p (.int .i64 (lv1 l (lvs l j) j j)))], [(0, .row false 1 (intRow (lvs l j)))], 1, [0]⟩) : ∀ (m i : Nat), i + m = j →
    W tb a40_l0 ⟨[(0, .p (.slice b (ftRow l))), (3, .ref 0 (lvs l j).length 0 (lvs l j).length), (4, .p (.int .i64 j)), (5, .p (.int .i64 (lv1 l (lvs l j) j i))), (6, .p (.int .i64 i))], [(0, .row false 1 (intRow (lvs l j)))], 1, [0]⟩ (LK tb (.ghost .lower a40_l0) K) := by
  intro m
  induction m with
  | zero =>
    intro i hi
    have h1 : ¬ (i : Int) < (j : Int) := by omega
    have e : i = j := by omega
    subst e
    refine i_code (by unfold a40_l0; exact rfl) ?_
    repeat' (first | (simp (disch := omega) only [go_sem, seval, reduceCtorEq, h1]) | with_reducible exact Ev.mk | ((first | apply x_split | apply x_splitg) <;> intro hβ hb <;> (simp (disch := omega) only [go_sem, seval, reduceCtorEq, h1, hβ]) <;> clear hβ))
    exact hx
  | succ m ih =>
    intro i hi
    have h1 : (i : Int) < (j : Int) := by omega
    have hil : i < l.length := by omega
    have h2 : (i : Int) < l.length := by omega
    have h2' : (j : Int) < l.length := by omega
    have h4 : (0 : Int) ≤ i := by omega
    have h4' : (0 : Int) ≤ j := by omega
    have h3 := ftRow_get l i hil
    have h5 := ftRow_get l j hj
    have q := ps_rconfl l[i] l[j] (hF _ (List.getElem_mem hil)).1 (hF _ (List.getElem_mem hj)).1
    have ihk := ih (i + 1) (by omega)
    have hle : lv1 l (lvs l j) j i ≤ j + 1 := lv1_le l (lvs l j) j j (lvs_le l j) i
    have hll := lvs_len l j
    have hl3 : i < (lvs l j).length := by rw [hll]; omega
    have hle2 : (lvs l j).getD i 0 ≤ j := by
      rw [List.getD_eq_getElem?_getD, List.getElem?_eq_getElem hl3]; exact lvs_le l j _ (List.getElem_mem hl3)
    have g2 : (intRow (lvs l j))[i]? = some [.int .i64 ((lvs l j).getD i 0 : Nat)] := by
      rw [intRow_get _ i hl3, List.getD_eq_getElem?_getD, List.getElem?_eq_getElem hl3]; rfl
    unfold lv1 at ihk
    rw [getF_get l i hil, getF_get l j hj] at ihk
    generalize lv1 l (lvs l j) j i = a at ihk hle ⊢
    generalize (lvs l j).getD i 0 = v at ihk hle2 g2
    simp only [ftC] at h3 h5 q
    refine i_code (by unfold a40_l0; exact rfl) ?_
    cases hv : conflB l[i] l[j] with
    | false =>
      rw [hv] at q ihk
      simp only [Bool.false_eq_true, if_false] at ihk
      repeat' (first | exact q | (simp (disch := omega) only [go_sem, seval, reduceCtorEq, h1, h2, h2', h4, h4', h3, h5, ftRow_length]) | with_reducible exact Ev.mk | apply x_call | ((first | apply x_split | apply x_splitg) <;> intro hβ hb <;> (simp (disch := omega) only [go_sem, seval, reduceCtorEq, h1, h2, h2', h4, h4', h3, h5, ftRow_length, hβ]) <;> clear hβ))
      refine i_lk (W_round ?_)
      (try simp (disch := omega) only [go_sem, seval, reduceCtorEq])
      exact ihk
    | true =>
      rw [hv] at q ihk
      simp only [if_true] at ihk
      by_cases c : a < v + 1
      · have c1 : (a : Int) < ((v + 1 : Nat) : Int) := by omega
        have e1 : max a (v + 1) = v + 1 := by omega
        rw [e1] at ihk
        rw [hll] at ihk
        repeat' (first | exact q | (simp (disch := omega) only [go_sem, seval, reduceCtorEq, h1, h2, h2', h4, h4', h3, h5, c1, g2, hll, ftRow_length, intRow_length]) | with_reducible exact Ev.mk | apply x_call | ((first | apply x_split | apply x_splitg) <;> intro hβ hb <;> (simp (disch := omega) only [go_sem, seval, reduceCtorEq, h1, h2, h2', h4, h4', h3, h5, c1, g2, hll, ftRow_length, intRow_length, hβ]) <;> clear hβ))
        refine i_lk (W_round ?_)
        (try simp (disch := omega) only [go_sem, seval, reduceCtorEq])
        exact ihk
      · have c1 : ¬ (a : Int) < ((v + 1 : Nat) : Int) := by omega
        have e1 : max a (v + 1) = a := by omega
        rw [e1] at ihk
        rw [hll] at ihk
        repeat' (first | exact q | (simp (disch := omega) only [go_sem, seval, reduceCtorEq, h1, h2, h2', h4, h4', h3, h5, c1, g2, hll, ftRow_length, intRow_length]) | with_reducible exact Ev.mk | apply x_call | ((first | apply x_split | apply x_splitg) <;> intro hβ hb <;> (simp (disch := omega) only [go_sem, seval, reduceCtorEq, h1, h2, h2', h4, h4', h3, h5, c1, g2, hll, ftRow_length, intRow_length, hβ]) <;> clear hβ))
        refine i_lk (W_round ?_)
        (try simp (disch := omega) only [go_sem, seval, reduceCtorEq])
        exact ihk

theorem intRow_snoc (l : List Nat) (x : Nat) : intRow l ++ [[.int .i64 (x : Int)]] = intRow (l ++ [x]) := by simp [intRow]

theorem l_rlev1 (l : List Ft) (hl : l.length ≤ 10) (hF : ∀ f ∈ l, Fo f) (b : Bool) (K : Ex → St → Prop)
    (hx : K (.exit 0) ⟨[(3, .ref 0 (lvs l l.length).length 0 (lvs l l.length).length)], [(0, .row false 1 (intRow (lvs l l.length)))], 1, [0]⟩) : ∀ (m j : Nat), j + m = l.length →
    W tb a40_l1 ⟨[(0, .p (.slice b (ftRow l))), (3, .ref 0 (lvs l j).length 0 (lvs l j).length), (4, .p (.int .i64 j))], [(0, .row false 1 (intRow (lvs l j)))], 1, [0]⟩ (LK tb (.ghost .lower a40_l1) K) := by
  intro m
  induction m with
  | zero =>
    intro j hj
    have h1 : ¬ (j : Int) < l.length := by omega
    have e : j = l.length := by omega
    subst e
    refine i_code (by unfold a40_l1; exact rfl) ?_
    repeat' (first | (simp (disch := omega) only [go_sem, seval, reduceCtorEq, h1, ftRow_length]) | with_reducible exact Ev.mk | ((first | apply x_split | apply x_splitg) <;> intro hβ hb <;> (simp (disch := omega) only [go_sem, seval, reduceCtorEq, h1, ftRow_length, hβ]) <;> clear hβ))
    exact hx
  | succ m ih =>
    intro j hj
    have h1 : (j : Int) < l.length := by omega
    have h2 : j < l.length := by omega
    have ihk := ih (j + 1) (by omega)
    have hlen := lvs_len l j
    have key := fun K hx => l_rlev0 l hl hF b j h2 K hx j 0 (by omega)
    rw [show lvs l (j + 1) = lvs l j ++ [lv1 l (lvs l j) j j] from rfl, List.length_append] at ihk
    simp only [List.length_cons, List.length_nil] at ihk
    have sn := intRow_snoc (lvs l j) (lv1 l (lvs l j) j j)
    have m1 : ((lvs l j).length + 1) * 8 ≤ 140737488355328 := by omega
    have m2 : (lvs l j).length + 1 ≤ 140737488355328 := by omega
    refine i_code (by unfold a40_l1; exact rfl) ?_
    repeat' (first | (simp (disch := omega) only [go_sem, seval, reduceCtorEq, h1, ftRow_length]) | with_reducible exact Ev.mk | ((first | apply x_split | apply x_splitg) <;> intro hβ hb <;> (simp (disch := omega) only [go_sem, seval, reduceCtorEq, h1, ftRow_length, hβ]) <;> clear hβ))
    refine W_round ?_
    (try simp (disch := omega) only [go_sem, seval, reduceCtorEq])
    refine key _ ?_
    repeat' (first | (simp (disch := omega) only [go_sem, seval, reduceCtorEq, sn, intRow_length, sz1, m1, m2, maxBytes]) | with_reducible exact Ev.mk | ((first | apply x_split | apply x_splitg) <;> intro hβ hb <;> (simp (disch := omega) only [go_sem, seval, reduceCtorEq, sn, intRow_length, sz1, m1, m2, maxBytes, hβ]) <;> clear hβ))
    refine i_lk (W_round ?_)
    (try simp (disch := omega) only [go_sem, seval, reduceCtorEq])
    exact ihk

theorem ps_rlevels (l : List Ft) (b : Bool) (hl : l.length ≤ 10) (hF : ∀ f ∈ l, Fo f) : PS tb 40 [.slice b (ftRow l)] (.slice false (intRow (levR l))) := by
  have key := fun K hx => l_rlev1 l hl hF b K hx l.length 0 (by omega)
  have e0 : lvs l 0 = [] := rfl
  rw [e0] at key
  refine PS_of (af := a40) rfl rfl ?_
  unfold a40
  dsimp only [List.map, ofPV, initEnv]
  repeat' (first | (simp (disch := omega) only [go_sem, seval, reduceCtorEq, ftRow_length]) | with_reducible exact Ev.mk | ((first | apply x_split | apply x_splitg) <;> intro hβ hb <;> (simp (disch := omega) only [go_sem, seval, reduceCtorEq, ftRow_length, hβ]) <;> clear hβ))
  refine W_round ?_
  (try simp (disch := omega) only [go_sem, seval, reduceCtorEq])
  refine key _ ?_
  have e2 := intRow_take (levR l) (levR l).length rfl
  have e3 : levR l = lvs l l.length := rfl
  rw [← e3]
  repeat' (first | (simp (disch := omega) only [go_sem, seval, reduceCtorEq, intRow_length]) | with_reducible exact Ev.mk | ((first | apply x_split | apply x_splitg) <;> intro hβ hb <;> (simp (disch := omega) only [go_sem, seval, reduceCtorEq, intRow_length, hβ]) <;> clear hβ))
  all_goals simp [pur, dep, intRow_length, e2]

/-! ### Height -/

def hgt (vs : List Nat) : Nat := vs.foldl (fun n x => max n (x + 1)) 0
theorem hgt_succ (vs : List Nat) (i : Nat) (h : i < vs.length) : hgt (vs.take (i + 1)) = max (hgt (vs.take i)) (vs[i] + 1) := by
  rw [List.take_add_one, List.getElem?_eq_getElem h]
  unfold hgt
  rw [List.foldl_append]; rfl
theorem hgt_le (vs : List Nat) (B : Nat) (h : ∀ x ∈ vs, x ≤ B) : hgt vs ≤ B + 1 := by
  unfold hgt
  have : ∀ (l : List Nat) (n : Nat), n ≤ B + 1 → (∀ x ∈ l, x ≤ B) → l.foldl (fun n x => max n (x + 1)) n ≤ B + 1 := by
    intro l
    induction l with
    | nil => intro n hn _; exact hn
    | cons x r ih => intro n hn hx; exact ih _ (by have := hx x (by simp); show max n (x + 1) ≤ B + 1; omega) fun y hy => hx y (by simp [hy])
  exact this vs 0 (by omega) h

theorem l_hgt (vs : List Nat) (hb : ∀ x ∈ vs, x ≤ 100) (hl : vs.length ≤ 100) (b : Bool) (K : Ex → St → Prop)
    (hx : K (.exit 0) ⟨[(3, .p (.int .i64 (hgt vs)))], [], 0, [0]⟩) : ∀ (m i : Nat), i + m = vs.length →
    W tb a41_l0 ⟨[(3, .p (.int .i64 (hgt (vs.take i)))), (7, .p (.slice b (intRow vs))), (8, .p (.int .i64 vs.length)), (9, .p (.int .i64 i))], [], 0, [0]⟩ (LK tb (.ghost .lower a41_l0) K) := by
  intro m
  induction m with
  | zero =>
    intro i hi
    have h1 : ¬ (i : Int) < vs.length := by omega
    have e : i = vs.length := by omega
    subst e
    rw [List.take_length]
    refine i_code (by unfold a41_l0; exact rfl) ?_
    repeat' (first | (simp (disch := omega) only [go_sem, seval, reduceCtorEq, h1]) | with_reducible exact Ev.mk | ((first | apply x_split | apply x_splitg) <;> intro hβ hb <;> (simp (disch := omega) only [go_sem, seval, reduceCtorEq, h1, hβ]) <;> clear hβ))
    exact hx
  | succ m ih =>
    intro i hi
    have h1 : (i : Int) < vs.length := by omega
    have h2 : i < vs.length := by omega
    have h4 : (0 : Int) ≤ i := by omega
    have h3 := intRow_get vs i h2
    have ihk := ih (i + 1) (by omega)
    rw [hgt_succ vs i h2] at ihk
    have hv := hb _ (List.getElem_mem h2)
    have ha : hgt (vs.take i) ≤ 101 := hgt_le _ 100 fun x hx => hb x (List.mem_of_mem_take hx)
    generalize hgt (vs.take i) = a at ihk ha ⊢
    generalize vs[i] = v at ihk hv h3
    refine i_code (by unfold a41_l0; exact rfl) ?_
    by_cases c : a < v + 1
    · have c1 : (a : Int) < ((v + 1 : Nat) : Int) := by omega
      have e1 : max a (v + 1) = v + 1 := by omega
      rw [e1] at ihk
      repeat' (first | (simp (disch := omega) only [go_sem, seval, reduceCtorEq, h1, h4, h3, c1, intRow_length]) | with_reducible exact Ev.mk | ((first | apply x_split | apply x_splitg) <;> intro hβ hb <;> (simp (disch := omega) only [go_sem, seval, reduceCtorEq, h1, h4, h3, c1, intRow_length, hβ]) <;> clear hβ))
      refine i_lk (W_round ?_)
      (try simp (disch := omega) only [go_sem, seval, reduceCtorEq])
      exact ihk
    · have c1 : ¬ (a : Int) < ((v + 1 : Nat) : Int) := by omega
      have e1 : max a (v + 1) = a := by omega
      rw [e1] at ihk
      repeat' (first | (simp (disch := omega) only [go_sem, seval, reduceCtorEq, h1, h4, h3, c1, intRow_length]) | with_reducible exact Ev.mk | ((first | apply x_split | apply x_splitg) <;> intro hβ hb <;> (simp (disch := omega) only [go_sem, seval, reduceCtorEq, h1, h4, h3, c1, intRow_length, hβ]) <;> clear hβ))
      refine i_lk (W_round ?_)
      (try simp (disch := omega) only [go_sem, seval, reduceCtorEq])
      exact ihk

theorem ps_height (l : List Ft) (b : Bool) (hl : l.length ≤ 10) (hF : ∀ f ∈ l, Fo f) : PS tb 41 [.slice b (ftRow l)] (.int .i64 (hgt (levR l))) := by
  have q := ps_levels l b hl hF
  have e3 := levR_len l
  have key := fun K hx => l_hgt (levR l) (fun x hx => by have := lvs_le l l.length x hx; omega) (by omega) false K hx (levR l).length 0 (by omega)
  have e0 : hgt ((levR l).take 0) = 0 := rfl
  rw [e0] at key
  refine PS_of (af := a41) rfl rfl ?_
  unfold a41
  dsimp only [List.map, ofPV, initEnv]
  repeat' (first | exact q | (simp (disch := omega) only [go_sem, seval, reduceCtorEq, intRow_length]) | with_reducible exact Ev.mk | apply x_call | ((first | apply x_split | apply x_splitg) <;> intro hβ hb <;> (simp (disch := omega) only [go_sem, seval, reduceCtorEq, intRow_length, hβ]) <;> clear hβ))
  refine W_round ?_
  (try simp (disch := omega) only [go_sem, seval, reduceCtorEq])
  refine key _ ?_
  repeat' (first | (simp (disch := omega) only [go_sem, seval, reduceCtorEq]) | with_reducible exact Ev.mk | ((first | apply x_split | apply x_splitg) <;> intro hβ hb <;> (simp (disch := omega) only [go_sem, seval, reduceCtorEq, hβ]) <;> clear hβ))
  all_goals simp [pur, dep]

theorem l_rhgt (vs : List Nat) (hb : ∀ x ∈ vs, x ≤ 100) (hl : vs.length ≤ 100) (b : Bool) (K : Ex → St → Prop)
    (hx : K (.exit 0) ⟨[(3, .p (.int .i64 (hgt vs)))], [], 0, [0]⟩) : ∀ (m i : Nat), i + m = vs.length →
    W tb a42_l0 ⟨[(3, .p (.int .i64 (hgt (vs.take i)))), (4, .p (.slice b (intRow vs))), (5, .p (.int .i64 i))], [], 0, [0]⟩ (LK tb (.ghost .lower a42_l0) K) := by
  intro m
  induction m with
  | zero =>
    intro i hi
    have h1 : ¬ (i : Int) < vs.length := by omega
    have e : i = vs.length := by omega
    subst e
    rw [List.take_length]
    refine i_code (by unfold a42_l0; exact rfl) ?_
    repeat' (first | (simp (disch := omega) only [go_sem, seval, reduceCtorEq, h1, intRow_length]) | with_reducible exact Ev.mk | ((first | apply x_split | apply x_splitg) <;> intro hβ hb <;> (simp (disch := omega) only [go_sem, seval, reduceCtorEq, h1, intRow_length, hβ]) <;> clear hβ))
    exact hx
  | succ m ih =>
    intro i hi
    have h1 : (i : Int) < vs.length := by omega
    have h2 : i < vs.length := by omega
    have h4 : (0 : Int) ≤ i := by omega
    have h3 := intRow_get vs i h2
    have ihk := ih (i + 1) (by omega)
    rw [hgt_succ vs i h2] at ihk
    have hv := hb _ (List.getElem_mem h2)
    have ha : hgt (vs.take i) ≤ 101 := hgt_le _ 100 fun x hx => hb x (List.mem_of_mem_take hx)
    generalize hgt (vs.take i) = a at ihk ha ⊢
    generalize vs[i] = v at ihk hv h3
    refine i_code (by unfold a42_l0; exact rfl) ?_
    by_cases c : a < v + 1
    · have c1 : (a : Int) < ((v + 1 : Nat) : Int) := by omega
      have e1 : max a (v + 1) = v + 1 := by omega
      rw [e1] at ihk
      repeat' (first | (simp (disch := omega) only [go_sem, seval, reduceCtorEq, h1, h4, h3, c1, intRow_length]) | with_reducible exact Ev.mk | ((first | apply x_split | apply x_splitg) <;> intro hβ hb <;> (simp (disch := omega) only [go_sem, seval, reduceCtorEq, h1, h4, h3, c1, intRow_length, hβ]) <;> clear hβ))
      refine i_lk (W_round ?_)
      (try simp (disch := omega) only [go_sem, seval, reduceCtorEq])
      exact ihk
    · have c1 : ¬ (a : Int) < ((v + 1 : Nat) : Int) := by omega
      have e1 : max a (v + 1) = a := by omega
      rw [e1] at ihk
      repeat' (first | (simp (disch := omega) only [go_sem, seval, reduceCtorEq, h1, h4, h3, c1, intRow_length]) | with_reducible exact Ev.mk | ((first | apply x_split | apply x_splitg) <;> intro hβ hb <;> (simp (disch := omega) only [go_sem, seval, reduceCtorEq, h1, h4, h3, c1, intRow_length, hβ]) <;> clear hβ))
      refine i_lk (W_round ?_)
      (try simp (disch := omega) only [go_sem, seval, reduceCtorEq])
      exact ihk

theorem ps_rheight (l : List Ft) (b : Bool) (hl : l.length ≤ 10) (hF : ∀ f ∈ l, Fo f) : PS tb 42 [.slice b (ftRow l)] (.int .i64 (hgt (levR l))) := by
  have q := ps_rlevels l b hl hF
  have e3 := levR_len l
  have key := fun K hx => l_rhgt (levR l) (fun x hx => by have := lvs_le l l.length x hx; omega) (by omega) false K hx (levR l).length 0 (by omega)
  have e0 : hgt ((levR l).take 0) = 0 := rfl
  rw [e0] at key
  refine PS_of (af := a42) rfl rfl ?_
  unfold a42
  dsimp only [List.map, ofPV, initEnv]
  repeat' (first | exact q | (simp (disch := omega) only [go_sem, seval, reduceCtorEq, intRow_length]) | with_reducible exact Ev.mk | apply x_call | ((first | apply x_split | apply x_splitg) <;> intro hβ hb <;> (simp (disch := omega) only [go_sem, seval, reduceCtorEq, intRow_length, hβ]) <;> clear hβ))
  refine W_round ?_
  (try simp (disch := omega) only [go_sem, seval, reduceCtorEq])
  refine key _ ?_
  repeat' (first | (simp (disch := omega) only [go_sem, seval, reduceCtorEq]) | with_reducible exact Ev.mk | ((first | apply x_split | apply x_splitg) <;> intro hβ hb <;> (simp (disch := omega) only [go_sem, seval, reduceCtorEq, hβ]) <;> clear hβ))
  all_goals simp [pur, dep]


/-! ## K6 -/

theorem intCells_length (l : List Int) : (intCells l).length = l.length := by simp [intCells]
theorem intCells_get (l : List Int) (i : Nat) (h : i < l.length) : (intCells l)[i]? = some [.int .i64 l[i]] := by simp [intCells, h]

/-! ### Place -/

def plc (x : Int) : List Int → Nat → Int
  | [], _ => -1
  | y :: r, i => if y = x then (i : Int) else plc x r (i + 1)

theorem plc_drop (x : Int) (l : List Int) (i : Nat) (h : i < l.length) : plc x (l.drop i) i = if l[i] = x then (i : Int) else plc x (l.drop (i + 1)) (i + 1) := by
  rw [List.drop_eq_getElem_cons h]; rfl

theorem plc_spec (x : Int) : ∀ (l : List Int) (i : Nat), (plc x l i = -1 ∧ x ∉ l) ∨ ∃ k : Nat, plc x l i = ((i + k : Nat) : Int) ∧ l[k]? = some x ∧ ∀ j, j < k → l[j]? ≠ some x
  | [], i => .inl ⟨rfl, by simp⟩
  | y :: r, i => by
    unfold plc
    split
    · rename_i h; subst h
      exact .inr ⟨0, rfl, rfl, fun j hj => by omega⟩
    · rename_i h
      rcases plc_spec x r (i + 1) with ⟨h1, h2⟩ | ⟨k, h1, h2, h3⟩
      · exact .inl ⟨h1, by simp only [List.mem_cons, not_or]; exact ⟨fun e => h e.symm, h2⟩⟩
      · refine .inr ⟨k + 1, by rw [h1]; omega, by simpa using h2, fun j hj => ?_⟩
        cases j with
        | zero => simp only [List.getElem?_cons_zero, ne_eq, Option.some.injEq]; exact h
        | succ j => simpa using h3 j (by omega)

theorem plc_lt (x : Int) (l : List Int) : plc x l 0 < l.length := by
  rcases plc_spec x l 0 with ⟨h1, h2⟩ | ⟨k, h1, h2, h3⟩
  · omega
  · have := (List.getElem?_eq_some_iff.1 h2).1; omega
theorem plc_ge (x : Int) (l : List Int) : -1 ≤ plc x l 0 := by
  rcases plc_spec x l 0 with ⟨h1, h2⟩ | ⟨k, h1, h2, h3⟩ <;> omega

theorem l_place (l : List Int) (x : Int) (b : Bool) (hl : l.length ≤ 1000) (K : Ex → St → Prop) (hx : plc x l 0 = -1 → K (.exit 0) ⟨[], [], 0, [0]⟩)
    (hr : ∀ s', aget s'.env 4 = some (.p (.int .i64 (plc x l 0))) → K .ret s') : ∀ (m i : Nat), i + m = l.length → plc x l 0 = plc x (l.drop i) i →
    W tb a34_l0 ⟨[(0, .p (.slice b (intCells l))), (1, .p (.int .i64 x)), (5, .p (.int .i64 i))], [], 0, [0]⟩ (LK tb (.ghost .lower a34_l0) K) := by
  intro m
  induction m with
  | zero =>
    intro i hi ht
    have h1 : ¬ (i : Int) < l.length := by omega
    have e : i = l.length := by omega
    subst e
    rw [List.drop_length] at ht
    refine i_code (by unfold a34_l0; exact rfl) ?_
    repeat' (first | (simp (disch := omega) only [go_sem, seval, reduceCtorEq, h1, intCells_length]) | with_reducible exact Ev.mk | ((first | apply x_split | apply x_splitg) <;> intro hβ hb <;> (simp (disch := omega) only [go_sem, seval, reduceCtorEq, h1, intCells_length, hβ]) <;> clear hβ))
    exact hx ht
  | succ m ih =>
    intro i hi ht
    have h1 : (i : Int) < l.length := by omega
    have h2 : i < l.length := by omega
    have h4 : (0 : Int) ≤ i := by omega
    have h3 := intCells_get l i h2
    rw [plc_drop x l i h2] at ht
    refine i_code (by unfold a34_l0; exact rfl) ?_
    by_cases c : l[i] = x
    · rw [if_pos c] at ht
      have c' : (l[i] == x) = true := by simpa using c
      repeat' (first | (simp (disch := omega) only [go_sem, seval, reduceCtorEq, h1, h4, h3, c, c', intCells_length]) | with_reducible exact Ev.mk | ((first | apply x_split | apply x_splitg) <;> intro hβ hb <;> (simp (disch := omega) only [go_sem, seval, reduceCtorEq, h1, h4, h3, c, c', intCells_length, hβ]) <;> clear hβ))
      exact hr _ (by rw [ht]; rfl)
    · rw [if_neg c] at ht
      have c' : (l[i] == x) = false := by simpa using c
      repeat' (first | (simp (disch := omega) only [go_sem, seval, reduceCtorEq, h1, h4, h3, c, c', intCells_length]) | with_reducible exact Ev.mk | ((first | apply x_split | apply x_splitg) <;> intro hβ hb <;> (simp (disch := omega) only [go_sem, seval, reduceCtorEq, h1, h4, h3, c, c', intCells_length, hβ]) <;> clear hβ))
      refine i_lk (W_round ?_)
      (try simp (disch := omega) only [go_sem, seval, reduceCtorEq])
      exact ih (i + 1) (by omega) ht

theorem ps_place (l : List Int) (x : Int) (b : Bool) (hl : l.length ≤ 1000) : PS tb 34 [.slice b (intCells l), .int .i64 x] (.int .i64 (plc x l 0)) := by
  refine PS_of (af := a34) rfl rfl ?_
  unfold a34
  dsimp only [List.map, ofPV, initEnv]
  repeat' (first | (simp (disch := omega) only [go_sem, seval, reduceCtorEq]) | with_reducible exact Ev.mk | ((first | apply x_split | apply x_splitg) <;> intro hβ hb <;> (simp (disch := omega) only [go_sem, seval, reduceCtorEq, hβ]) <;> clear hβ))
  refine W_round ?_
  (try simp (disch := omega) only [go_sem, seval, reduceCtorEq])
  refine l_place l x b hl _ ?_ ?_ l.length 0 (by omega) rfl
  · intro ha
    (try simp (disch := omega) only [go_sem, seval, reduceCtorEq])
    all_goals simp only [ha, pur, dep]
  · intro s' hs'
    (try simp (disch := omega) only [go_sem, seval, reduceCtorEq, hs'])
    all_goals simp only [pur, dep]

/-! ### Permutes -/

def permB (o : List Int) (n : Nat) : Bool := (List.range n).all (fun i => decide (0 ≤ plc (i : Int) o 0)) && decide (o.length = n)

theorem l_perm (o : List Int) (n : Nat) (b : Bool) (hl : o.length ≤ 1000) (hn : n ≤ 1000) (K : Ex → St → Prop)
    (hx : (∀ j, j < n → 0 ≤ plc (j : Int) o 0) → K (.exit 0) ⟨[(0, .p (.slice b (intCells o))), (1, .p (.int .i64 n))], [], 0, [0]⟩)
    (hr : ∀ i, i < n → ¬ 0 ≤ plc (i : Int) o 0 → ∀ s', aget s'.env 4 = some (.p (.bool false)) → K .ret s') : ∀ (m i : Nat), i + m = n → (∀ j, j < i → 0 ≤ plc (j : Int) o 0) →
    W tb a33_l0 ⟨[(0, .p (.slice b (intCells o))), (1, .p (.int .i64 n)), (5, .p (.int .i64 i))], [], 0, [0]⟩ (LK tb (.ghost .lower a33_l0) K) := by
  intro m
  induction m with
  | zero =>
    intro i hi ht
    have h1 : ¬ (i : Int) < n := by omega
    refine i_code (by unfold a33_l0; exact rfl) ?_
    repeat' (first | (simp (disch := omega) only [go_sem, seval, reduceCtorEq, h1]) | with_reducible exact Ev.mk | ((first | apply x_split | apply x_splitg) <;> intro hβ hb <;> (simp (disch := omega) only [go_sem, seval, reduceCtorEq, h1, hβ]) <;> clear hβ))
    exact hx (fun j hj => ht j (by omega))
  | succ m ih =>
    intro i hi ht
    have h1 : (i : Int) < n := by omega
    refine i_code (by unfold a33_l0; exact rfl) ?_
    by_cases c : plc (i : Int) o 0 < 0
    · repeat' (first | exact ps_place o _ b hl | (simp (disch := omega) only [go_sem, seval, reduceCtorEq, h1, c]) | with_reducible exact Ev.mk | apply x_call | ((first | apply x_split | apply x_splitg) <;> intro hβ hb <;> (simp (disch := omega) only [go_sem, seval, reduceCtorEq, h1, c, hβ]) <;> clear hβ))
      exact hr i (by omega) (by omega) _ rfl
    · repeat' (first | exact ps_place o _ b hl | (simp (disch := omega) only [go_sem, seval, reduceCtorEq, h1, c]) | with_reducible exact Ev.mk | apply x_call | ((first | apply x_split | apply x_splitg) <;> intro hβ hb <;> (simp (disch := omega) only [go_sem, seval, reduceCtorEq, h1, c, hβ]) <;> clear hβ))
      refine i_lk (W_round ?_)
      (try simp (disch := omega) only [go_sem, seval, reduceCtorEq])
      exact ih (i + 1) (by omega) fun j hj => by
        rcases Nat.lt_or_ge j i with h | h
        · exact ht j h
        · have : j = i := by omega
          subst this; omega

theorem ps_permutes (o : List Int) (n : Nat) (b : Bool) (hl : o.length ≤ 1000) (hn : n ≤ 1000) : PS tb 33 [.slice b (intCells o), .int .i64 n] (.bool (permB o n)) := by
  refine PS_of (af := a33) rfl rfl ?_
  unfold a33
  dsimp only [List.map, ofPV, initEnv]
  repeat' (first | (simp (disch := omega) only [go_sem, seval, reduceCtorEq]) | with_reducible exact Ev.mk | ((first | apply x_split | apply x_splitg) <;> intro hβ hb <;> (simp (disch := omega) only [go_sem, seval, reduceCtorEq, hβ]) <;> clear hβ))
  refine W_round ?_
  (try simp (disch := omega) only [go_sem, seval, reduceCtorEq])
  refine l_perm o n b hl hn _ ?_ ?_ n 0 (by omega) (fun j hj => by omega)
  · intro ha
    have e : permB o n = decide ((o.length : Int) = n) := by
      unfold permB
      have : (List.range n).all (fun i => decide (0 ≤ plc (i : Int) o 0)) = true := by
        rw [List.all_eq_true]
        intro i hi
        exact decide_eq_true (ha i (List.mem_range.1 hi))
      rw [this, Bool.true_and]
      exact decide_eq_decide.2 (by omega)
    rw [e]
    repeat' (first | (simp (disch := omega) only [go_sem, seval, reduceCtorEq, intCells_length]) | with_reducible exact Ev.mk | ((first | apply x_split | apply x_splitg) <;> intro hβ hb <;> (simp (disch := omega) only [go_sem, seval, reduceCtorEq, intCells_length, hβ]) <;> clear hβ))
    all_goals (simp only [pur, dep, Option.some.injEq, PV.bool.injEq]; rw [Bool.eq_iff_iff]; simp)
  · intro i hi hq s' hs'
    (try simp (disch := omega) only [go_sem, seval, reduceCtorEq, hs'])
    have : permB o n = false := by
      unfold permB
      rw [Bool.and_eq_false_iff]
      left
      rw [List.all_eq_false]
      exact ⟨i, List.mem_range.2 hi, by simpa using hq⟩
    simp only [this, pur, dep]

/-! ### the second Before -/

def okE (o : List Int) (e : Ed) : Bool := decide (plc (e.1 : Int) o 0 ≤ plc (e.2.1 : Int) o 0)
def befR (l : List Ft) (o : List Int) : Bool := permB o l.length && (edgesR l).all (okE o)

theorem edges_len (l : List Ft) (hl : l.length ≤ 10) : (edgesR l).length ≤ 300 := by
  have := edI_len (kkW_len (l.map whF)) l.length hl l.length
  unfold edgesR; omega

theorem l_rbef (es : List Ed) (o : List Int) (b b2 : Bool) (hl : o.length ≤ 1000) (he : es.length ≤ 1000) (K : Ex → St → Prop)
    (hx : (∀ j (h : j < es.length), okE o es[j] = true) → K (.exit 0) ⟨[], [], 0, [0]⟩)
    (hr : ∀ i (h : i < es.length), okE o es[i] = false → ∀ s', aget s'.env 4 = some (.p (.bool false)) → K .ret s') : ∀ (m i : Nat), i + m = es.length → (∀ j (h : j < es.length), j < i → okE o es[j] = true) →
    W tb a45_l0 ⟨[(1, .p (.slice b (intCells o))), (5, .p (.slice b2 (edRow es))), (6, .p (.int .i64 i))], [], 0, [0]⟩ (LK tb (.ghost .lower a45_l0) K) := by
  intro m
  induction m with
  | zero =>
    intro i hi ht
    have h1 : ¬ (i : Int) < es.length := by omega
    refine i_code (by unfold a45_l0; exact rfl) ?_
    repeat' (first | (simp (disch := omega) only [go_sem, seval, reduceCtorEq, h1, edRow_length]) | with_reducible exact Ev.mk | ((first | apply x_split | apply x_splitg) <;> intro hβ hb <;> (simp (disch := omega) only [go_sem, seval, reduceCtorEq, h1, edRow_length, hβ]) <;> clear hβ))
    exact hx (fun j h => ht j h (by omega))
  | succ m ih =>
    intro i hi ht
    have h1 : (i : Int) < es.length := by omega
    have h2 : i < es.length := by omega
    have h4 : (0 : Int) ≤ i := by omega
    have h3 := edRow_get es i h2
    simp only [edC] at h3
    refine i_code (by unfold a45_l0; exact rfl) ?_
    by_cases c : plc (es[i].2.1 : Int) o 0 < plc (es[i].1 : Int) o 0
    · repeat' (first | exact ps_place o _ b hl | (simp (disch := omega) only [go_sem, seval, reduceCtorEq, h1, h4, h3, c, edRow_length]) | with_reducible exact Ev.mk | apply x_call | ((first | apply x_split | apply x_splitg) <;> intro hβ hb <;> (simp (disch := omega) only [go_sem, seval, reduceCtorEq, h1, h4, h3, c, edRow_length, hβ]) <;> clear hβ))
      exact hr i h2 (decide_eq_false (by omega)) _ rfl
    · repeat' (first | exact ps_place o _ b hl | (simp (disch := omega) only [go_sem, seval, reduceCtorEq, h1, h4, h3, c, edRow_length]) | with_reducible exact Ev.mk | apply x_call | ((first | apply x_split | apply x_splitg) <;> intro hβ hb <;> (simp (disch := omega) only [go_sem, seval, reduceCtorEq, h1, h4, h3, c, edRow_length, hβ]) <;> clear hβ))
      refine i_lk (W_round ?_)
      (try simp (disch := omega) only [go_sem, seval, reduceCtorEq])
      exact ih (i + 1) (by omega) fun j h hj => by
        rcases Nat.lt_or_ge j i with h' | h'
        · exact ht j h h'
        · have : j = i := by omega
          subst this; exact decide_eq_true (by omega)

theorem ps_rbefore (l : List Ft) (o : List Int) (b b2 : Bool) (hl : l.length ≤ 10) (hF : ∀ f ∈ l, Fo f) (ho : o.length ≤ 1000) : PS tb 45 [.slice b (ftRow l), .slice b2 (intCells o)] (.bool (befR l o)) := by
  have q := ps_permutes o l.length b2 ho (by omega)
  have q2 := ps_redges l b hl hF
  have he := edges_len l hl
  refine PS_of (af := a45) rfl rfl ?_
  unfold a45
  dsimp only [List.map, ofPV, initEnv]
  unfold befR
  cases hp : permB o l.length with
  | false =>
    rw [hp] at q
    repeat' (first | exact q | exact q2 | (simp (disch := omega) only [go_sem, seval, reduceCtorEq, ftRow_length]) | with_reducible exact Ev.mk | apply x_call | ((first | apply x_split | apply x_splitg) <;> intro hβ hb <;> (simp (disch := omega) only [go_sem, seval, reduceCtorEq, ftRow_length, hβ]) <;> clear hβ))
    all_goals simp [pur, dep]
  | true =>
    rw [hp] at q
    rw [Bool.true_and]
    repeat' (first | exact q | exact q2 | (simp (disch := omega) only [go_sem, seval, reduceCtorEq, ftRow_length]) | with_reducible exact Ev.mk | apply x_call | ((first | apply x_split | apply x_splitg) <;> intro hβ hb <;> (simp (disch := omega) only [go_sem, seval, reduceCtorEq, ftRow_length, hβ]) <;> clear hβ))
    refine W_round ?_
    (try simp (disch := omega) only [go_sem, seval, reduceCtorEq])
    refine l_rbef (edgesR l) o b2 false ho (by omega) _ ?_ ?_ (edgesR l).length 0 (by omega) (fun j h hj => by omega)
    · intro ha
      (try simp (disch := omega) only [go_sem, seval, reduceCtorEq])
      have : (edgesR l).all (okE o) = true := by
        rw [List.all_eq_true]
        intro x hx
        obtain ⟨i, hi, rfl⟩ := List.mem_iff_getElem.1 hx
        exact ha i hi
      simp only [this, pur, dep]
    · intro i hi hq s' hs'
      (try simp (disch := omega) only [go_sem, seval, reduceCtorEq, hs'])
      have : (edgesR l).all (okE o) = false := by
        rw [List.all_eq_false]
        exact ⟨_, List.getElem_mem hi, by rw [hq]; simp⟩
      simp only [this, pur, dep]

/-! ### equal lists -/

theorem l_same25 (x y : List Nat) (b b2 : Bool) (hl : x.length ≤ 1000) (hy : y = x) (K : Ex → St → Prop)
    (hx : K (.exit 0) ⟨[], [], 0, [0]⟩) : ∀ (m i : Nat), i + m = x.length →
    W tb a38_l0 ⟨[(0, .p (.slice b (intRow x))), (1, .p (.slice b2 (intRow y))), (5, .p (.int .i64 i))], [], 0, [0]⟩ (LK tb (.ghost .lower a38_l0) K) := by
  subst hy
  intro m
  induction m with
  | zero =>
    intro i hi
    have h1 : ¬ (i : Int) < y.length := by omega
    refine i_code (by unfold a38_l0; exact rfl) ?_
    repeat' (first | (simp (disch := omega) only [go_sem, seval, reduceCtorEq, h1, intRow_length]) | with_reducible exact Ev.mk | ((first | apply x_split | apply x_splitg) <;> intro hβ hb <;> (simp (disch := omega) only [go_sem, seval, reduceCtorEq, h1, intRow_length, hβ]) <;> clear hβ))
    exact hx
  | succ m ih =>
    intro i hi
    have h1 : (i : Int) < y.length := by omega
    have h2 : i < y.length := by omega
    have h4 : (0 : Int) ≤ i := by omega
    have h3 := intRow_get y i h2
    have n1 : (((y[i] : Nat) : Int) != ((y[i] : Nat) : Int)) = false := by simp
    refine i_code (by unfold a38_l0; exact rfl) ?_
    repeat' (first | (simp (disch := omega) only [go_sem, seval, reduceCtorEq, h1, h4, h3, n1, intRow_length]) | with_reducible exact Ev.mk | ((first | apply x_split | apply x_splitg) <;> intro hβ hb <;> (simp (disch := omega) only [go_sem, seval, reduceCtorEq, h1, h4, h3, n1, intRow_length, hβ]) <;> clear hβ))
    refine i_lk (W_round ?_)
    (try simp (disch := omega) only [go_sem, seval, reduceCtorEq])
    exact ih (i + 1) (by omega)

theorem ps_same25 (x : List Nat) (b b2 : Bool) (hl : x.length ≤ 1000) : PS tb 38 [.slice b (intRow x), .slice b2 (intRow x)] (.bool true) := by
  have n1 : ((x.length : Int) != (x.length : Int)) = false := by simp
  refine PS_of (af := a38) rfl rfl ?_
  unfold a38
  dsimp only [List.map, ofPV, initEnv]
  repeat' (first | (simp (disch := omega) only [go_sem, seval, reduceCtorEq, n1, intRow_length]) | with_reducible exact Ev.mk | ((first | apply x_split | apply x_splitg) <;> intro hβ hb <;> (simp (disch := omega) only [go_sem, seval, reduceCtorEq, n1, intRow_length, hβ]) <;> clear hβ))
  refine W_round ?_
  (try simp (disch := omega) only [go_sem, seval, reduceCtorEq])
  refine l_same25 x x b b2 hl rfl _ ?_ x.length 0 (by omega)
  (try simp (disch := omega) only [go_sem, seval, reduceCtorEq])
  all_goals simp [pur, dep]


/-! ## K7 -/

/-! ### pigeons -/

theorem nodup_le : ∀ (n : Nat) (l : List Nat), l.Nodup → (∀ x ∈ l, x < n) → l.length ≤ n
  | 0, l, _, h => by
    cases l with
    | nil => simp
    | cons x r => exact absurd (h x (by simp)) (by omega)
  | n + 1, l, hn, h => by
    have h1 := nodup_le n (l.erase n) (hn.erase n) fun x hx => by
      have h2 := (hn.mem_erase_iff).1 hx
      have := h x h2.2
      have := h2.1
      omega
    have h2 := List.length_erase (a := n) (l := l)
    split at h2 <;> omega

/-- A list of n numbers below n, each once. -/
def Perm' (o : List Int) (n : Nat) : Prop := o.length = n ∧ (∀ x ∈ o, 0 ≤ x ∧ x < n) ∧ o.Nodup

theorem permB_of {o : List Int} {n : Nat} (h : Perm' o n) : permB o n = true := by
  obtain ⟨h1, h2, h3⟩ := h
  unfold permB
  rw [decide_eq_true h1, Bool.and_true, List.all_eq_true]
  intro y hy
  have hy := List.mem_range.1 hy
  refine decide_eq_true ?_
  rcases plc_spec (y : Int) o 0 with ⟨a, b⟩ | ⟨k, a, b, c⟩
  · exfalso
    have key := nodup_le n (y :: o.map Int.toNat) (by
      rw [List.nodup_cons]
      refine ⟨fun hm => ?_, ?_⟩
      · obtain ⟨x, hx, he⟩ := List.mem_map.1 hm
        have := (h2 x hx).1
        have : x = (y : Int) := by omega
        exact b (this ▸ hx)
      · unfold List.Nodup
        rw [List.pairwise_map]
        exact (List.Pairwise.imp_of_mem (fun {a b} ha hb hab => by have := (h2 a ha).1; have := (h2 b hb).1; omega) h3)) (fun x hx => by
      rcases List.mem_cons.1 hx with rfl | hx
      · exact hy
      · obtain ⟨z, hz, rfl⟩ := List.mem_map.1 hx
        have := h2 z hz
        omega)
    simp only [List.length_cons, List.length_map] at key
    omega
  · omega

/-- What permB says. -/
theorem permB_get {o : List Int} {n : Nat} (h : permB o n = true) : o.length = n ∧ ∀ y : Nat, y < n → ∃ k : Nat, plc (y : Int) o 0 = k ∧ o[k]? = some (y : Int) ∧ ∀ j, j < k → o[j]? ≠ some (y : Int) := by
  unfold permB at h
  simp only [Bool.and_eq_true, decide_eq_true_eq, List.all_eq_true, List.mem_range] at h
  refine ⟨h.2, fun y hy => ?_⟩
  rcases plc_spec (y : Int) o 0 with ⟨a, b⟩ | ⟨k, a, b, c⟩
  · have := h.1 y hy; omega
  · exact ⟨k, by rw [a]; omega, b, c⟩

/-- No place that is nobody's first. -/
theorem permB_no {o : List Int} {n i : Nat} (hi : i < o.length) (h : ∀ y : Nat, y < n → o[i]? = some (y : Int) → ∃ j, j < i ∧ o[j]? = some (y : Int)) : permB o n = false := by
  cases hb : permB o n with
  | false => rfl
  | true =>
    exfalso
    obtain ⟨h1, h2⟩ := permB_get hb
    have key := nodup_le n (i :: (List.range n).map fun (y : Nat) => (plc (y : Int) o 0).toNat) (by
      rw [List.nodup_cons]
      refine ⟨fun hm => ?_, ?_⟩
      · obtain ⟨y, hy, he⟩ := List.mem_map.1 hm
        obtain ⟨k, a, b, c⟩ := h2 y (List.mem_range.1 hy)
        have e : k = i := by rw [a] at he; simpa using he
        subst e
        obtain ⟨j, hj, hj2⟩ := h y (List.mem_range.1 hy) b
        exact c j hj hj2
      · unfold List.Nodup
        rw [List.pairwise_map]
        refine List.Pairwise.imp_of_mem (fun {y z} hy hz hyz => ?_) (List.nodup_range (n := n))
        obtain ⟨k, a, b, _⟩ := h2 y (List.mem_range.1 hy)
        obtain ⟨k', a', b', _⟩ := h2 z (List.mem_range.1 hz)
        rw [a, a']
        intro e
        have e : k = k' := by simpa using e
        subst e
        rw [b] at b'
        simp only [Option.some.injEq] at b'
        omega) (fun x hx => by
      rcases List.mem_cons.1 hx with rfl | hx
      · omega
      · obtain ⟨y, hy, rfl⟩ := List.mem_map.1 hx
        obtain ⟨k, a, b, c⟩ := h2 y (List.mem_range.1 hy)
        have := (List.getElem?_eq_some_iff.1 b).1
        rw [a]
        simp only [Int.toNat_natCast]
        omega)
    simp only [List.length_cons, List.length_map, List.length_range] at key
    omega

/-! ### the places -/

def atL (n : Nat) (p : List Int) : List Int := (List.range n).map fun (y : Nat) => plc (y : Int) p 0
theorem atL_len (n : Nat) (p : List Int) : (atL n p).length = n := by simp [atL]
theorem atL_get (n : Nat) (p : List Int) (y : Nat) (h : y < n) : (intCells (atL n p))[y]? = some [.int .i64 (plc (y : Int) p 0)] := by
  simp [atL, intCells, h]

theorem plc_app (x : Int) : ∀ (p : List Int) (z : Int) (i : Nat), plc x (p ++ [z]) i = if plc x p i = -1 then (if z = x then ((i + p.length : Nat) : Int) else -1) else plc x p i
  | [], z, i => by simp [plc]
  | y :: r, z, i => by
    simp only [List.cons_append, plc]
    split
    · rw [if_neg (by omega)]
    · rw [plc_app x r z (i + 1)]
      simp only [List.length_cons]
      have : i + 1 + r.length = i + (r.length + 1) := by omega
      rw [this]

theorem atL_set (n : Nat) (p : List Int) (z : Nat) (hz : z < n) (h : plc (z : Int) p 0 = -1) : (intCells (atL n p)).set z [.int .i64 (p.length : Int)] = intCells (atL n (p ++ [(z : Int)])) := by
  have : (atL n p).set z (p.length : Int) = atL n (p ++ [(z : Int)]) := by
    apply List.ext_getElem?
    intro k
    unfold atL
    rw [List.getElem?_set, List.getElem?_map, List.getElem?_map, List.length_map, List.length_range]
    by_cases hk : k < n
    · rw [List.getElem?_range hk]
      simp only [Option.map_some]
      rw [plc_app]
      by_cases e : z = k
      · subst e
        rw [if_pos rfl, if_pos hz, if_pos h, if_pos rfl, Nat.zero_add]
      · rw [if_neg e]
        have e2 : ¬ (z : Int) = (k : Int) := by omega
        rw [if_neg e2]
        split
        · rename_i h'; rw [h']
        · rfl
    · rw [if_neg (by omega : ¬ z = k)]
      have : (List.range n)[k]? = none := List.getElem?_eq_none (by simp; omega)
      rw [this]; rfl
  rw [← this, intCells, intCells, List.map_set]

theorem l_bef2 (n : Nat) (l : List Ft) (o : List Int) (b b2 : Bool) (hn : n = l.length) (hl : n ≤ 1000) (K : Ex → St → Prop)
    (hx : K (.exit 0) ⟨[(0, .p (.slice b (ftRow l))), (1, .p (.slice b2 (intCells o))), (5, .ref 0 n 0 n)], [(0, .row false 1 (intCells (atL n [])))], 1, [0]⟩) : ∀ (m i : Nat), i + m = n →
    W tb a36_l2 ⟨[(0, .p (.slice b (ftRow l))), (1, .p (.slice b2 (intCells o))), (5, .ref 0 n 0 n), (20, .p (.int .i64 n)), (21, .p (.int .i64 i))], [(0, .row false 1 (List.replicate i [.int .i64 (-1)] ++ List.replicate (n - i) [.int .i64 0]))], 1, [0]⟩ (LK tb (.ghost .lower a36_l2) K) := by
  intro m
  induction m with
  | zero =>
    intro i hi
    have h1 : ¬ (i : Int) < n := by omega
    have e : i = n := by omega
    subst e
    have e2 : List.replicate i [PV.int .i64 (-1)] ++ List.replicate (i - i) [PV.int .i64 0] = intCells (atL i []) := by
      rw [Nat.sub_self, List.replicate_zero, List.append_nil]
      apply List.ext_getElem?
      intro k
      by_cases hk : k < i
      · rw [atL_get i [] k hk, List.getElem?_replicate, if_pos hk]; rfl
      · rw [List.getElem?_eq_none (by simp; omega), List.getElem?_eq_none (by rw [intCells_length, atL_len]; omega)]
    rw [e2]
    refine i_code (by unfold a36_l2; exact rfl) ?_
    repeat' (first | (simp (disch := omega) only [go_sem, seval, reduceCtorEq, h1]) | with_reducible exact Ev.mk | ((first | apply x_split | apply x_splitg) <;> intro hβ hb <;> (simp (disch := omega) only [go_sem, seval, reduceCtorEq, h1, hβ]) <;> clear hβ))
    exact hx
  | succ m ih =>
    intro i hi
    have h1 : (i : Int) < n := by omega
    have h2 : i < n := by omega
    have h4 : (0 : Int) ≤ i := by omega
    have ihk := ih (i + 1) (by omega)
    have hlen : (List.replicate i [PV.int .i64 (-1)] ++ List.replicate (n - i) [PV.int .i64 0]).length = n := by simp; omega
    have hg : (List.replicate i [PV.int .i64 (-1)] ++ List.replicate (n - i) [PV.int .i64 0])[i]? = some [PV.int .i64 0] := by
      rw [List.getElem?_append_right (by simp), List.length_replicate, Nat.sub_self, List.getElem?_replicate, if_pos (by omega)]
    have hs : (List.replicate i [PV.int .i64 (-1)] ++ List.replicate (n - i) [PV.int .i64 0]).set i [PV.int .i64 (-1)] = List.replicate (i + 1) [PV.int .i64 (-1)] ++ List.replicate (n - (i + 1)) [PV.int .i64 0] := by
      have e : n - i = (n - (i + 1)) + 1 := by omega
      rw [e, List.replicate_succ, List.set_append_right _ _ (by simp), List.length_replicate, Nat.sub_self, List.set_cons_zero, List.replicate_succ', List.append_assoc]
      rfl
    rw [← hs] at ihk
    generalize (List.replicate i [PV.int .i64 (-1)] ++ List.replicate (n - i) [PV.int .i64 0]) = X at ihk hlen hg ⊢
    refine i_code (by unfold a36_l2; exact rfl) ?_
    repeat' (first | (simp (disch := omega) only [go_sem, seval, reduceCtorEq, h1, h4, hlen, hg]) | with_reducible exact Ev.mk | ((first | apply x_split | apply x_splitg) <;> intro hβ hb <;> (simp (disch := omega) only [go_sem, seval, reduceCtorEq, h1, h4, hlen, hg, hβ]) <;> clear hβ))
    refine i_lk (W_round ?_)
    (try simp (disch := omega) only [go_sem, seval, reduceCtorEq])
    exact ihk

theorem l_bef1 (l : List Ft) (o : List Int) (b b2 : Bool) (hl : l.length ≤ 1000) (ho : o.length = l.length) (K : Ex → St → Prop)
    (hx : Perm' o l.length → K (.exit 2) ⟨[(0, .p (.slice b (ftRow l))), (5, .ref 0 l.length 0 l.length)], [(0, .row false 1 (intCells (atL l.length o)))], 1, [0]⟩)
    (hr : permB o l.length = false → ∀ s', aget s'.env 4 = some (.p (.bool false)) → K .ret s') : ∀ (m i : Nat), i + m = o.length → (∀ x ∈ o.take i, 0 ≤ x ∧ x < l.length) → (o.take i).Nodup →
    W tb a36_l1 ⟨[(0, .p (.slice b (ftRow l))), (5, .ref 0 l.length 0 l.length), (28, .p (.slice b2 (intCells o))), (29, .p (.int .i64 o.length)), (30, .p (.int .i64 i))], [(0, .row false 1 (intCells (atL l.length (o.take i))))], 1, [0]⟩ (LK tb (.ghost .lower a36_l1) K) := by
  intro m
  induction m with
  | zero =>
    intro i hi ht hd
    have h1 : ¬ (i : Int) < o.length := by omega
    have e : i = o.length := by omega
    subst e
    rw [List.take_length] at ht hd ⊢
    refine i_code (by unfold a36_l1; exact rfl) ?_
    repeat' (first | (simp (disch := omega) only [go_sem, seval, reduceCtorEq, h1]) | with_reducible exact Ev.mk | ((first | apply x_split | apply x_splitg) <;> intro hβ hb <;> (simp (disch := omega) only [go_sem, seval, reduceCtorEq, h1, hβ]) <;> clear hβ))
    exact hx ⟨ho, ht, hd⟩
  | succ m ih =>
    intro i hi ht hd
    have h1 : (i : Int) < o.length := by omega
    have h2 : i < o.length := by omega
    have h4 : (0 : Int) ≤ i := by omega
    have h3 := intCells_get o i h2
    have etk : o.take (i + 1) = o.take i ++ [o[i]] := by rw [List.take_add_one, List.getElem?_eq_getElem h2]; rfl
    refine i_code (by unfold a36_l1; exact rfl) ?_
    by_cases c1 : o[i] < 0
    · repeat' (first | (simp (disch := omega) only [go_sem, seval, reduceCtorEq, h1, h4, h3, c1, ftRow_length, intCells_length]) | with_reducible exact Ev.mk | ((first | apply x_split | apply x_splitg) <;> intro hβ hb <;> (simp (disch := omega) only [go_sem, seval, reduceCtorEq, h1, h4, h3, c1, ftRow_length, intCells_length, hβ]) <;> clear hβ))
      refine hr (permB_no h2 fun y hy he => ?_) _ rfl
      rw [List.getElem?_eq_getElem h2] at he
      simp only [Option.some.injEq] at he
      omega
    · by_cases c2 : (l.length : Int) ≤ o[i]
      · repeat' (first | (simp (disch := omega) only [go_sem, seval, reduceCtorEq, h1, h4, h3, c1, c2, ftRow_length, intCells_length]) | with_reducible exact Ev.mk | ((first | apply x_split | apply x_splitg) <;> intro hβ hb <;> (simp (disch := omega) only [go_sem, seval, reduceCtorEq, h1, h4, h3, c1, c2, ftRow_length, intCells_length, hβ]) <;> clear hβ))
        refine hr (permB_no h2 fun y hy he => ?_) _ rfl
        rw [List.getElem?_eq_getElem h2] at he
        simp only [Option.some.injEq] at he
        omega
      · obtain ⟨z, hz⟩ : ∃ z : Nat, o[i] = z := ⟨o[i].toNat, by omega⟩
        rw [hz] at c1 c2 h3 etk
        have hzl : z < l.length := by omega
        have h5 := atL_get l.length (o.take i) z hzl
        have h6 : (z : Int) < l.length := by omega
        have h6' : (0 : Int) ≤ z := by omega
        have h7 := atL_len l.length (o.take i)
        have hge := plc_ge (z : Int) (o.take i)
        by_cases c3 : 0 ≤ plc (z : Int) (o.take i) 0
        · repeat' (first | (simp (disch := omega) only [go_sem, seval, reduceCtorEq, h1, h4, h3, c1, c2, c3, h5, h6, h6', h7, ftRow_length, intCells_length]) | with_reducible exact Ev.mk | ((first | apply x_split | apply x_splitg) <;> intro hβ hb <;> (simp (disch := omega) only [go_sem, seval, reduceCtorEq, h1, h4, h3, c1, c2, c3, h5, h6, h6', h7, ftRow_length, intCells_length, hβ]) <;> clear hβ))
          refine hr (permB_no h2 fun y hy he => ?_) _ rfl
          rw [List.getElem?_eq_getElem h2, hz] at he
          simp only [Option.some.injEq] at he
          rw [← he]
          rcases plc_spec (z : Int) (o.take i) 0 with ⟨a, _⟩ | ⟨k, a, q, _⟩
          · omega
          · have hk := (List.getElem?_eq_some_iff.1 q).1
            rw [List.length_take] at hk
            refine ⟨k, by omega, ?_⟩
            rw [List.getElem?_take, if_pos (by omega)] at q
            exact q
        · have hm1 : plc (z : Int) (o.take i) 0 = -1 := by omega
          have st := atL_set l.length (o.take i) z hzl hm1
          have e3 : (o.take i).length = i := by simp; omega
          rw [e3, ← etk] at st
          have ihk := ih (i + 1) (by omega) (by
            rw [etk]
            intro x hx
            rcases List.mem_append.1 hx with hx | hx
            · exact ht x hx
            · simp only [List.mem_singleton] at hx; subst hx; omega) (by
            rw [etk, List.nodup_append]
            refine ⟨hd, by simp, fun a ha b hb => ?_⟩
            simp only [List.mem_singleton] at hb; subst hb
            intro e; subst e
            rcases plc_spec (z : Int) (o.take i) 0 with ⟨_, q⟩ | ⟨k, a, q, _⟩
            · exact q ha
            · omega)
          repeat' (first | (simp (disch := omega) only [go_sem, seval, reduceCtorEq, h1, h4, h3, c1, c2, c3, h5, h6, h6', h7, st, ftRow_length, intCells_length]) | with_reducible exact Ev.mk | ((first | apply x_split | apply x_splitg) <;> intro hβ hb <;> (simp (disch := omega) only [go_sem, seval, reduceCtorEq, h1, h4, h3, c1, c2, c3, h5, h6, h6', h7, st, ftRow_length, intCells_length, hβ]) <;> clear hβ))
          refine i_lk (W_round ?_)
          (try simp (disch := omega) only [go_sem, seval, reduceCtorEq])
          exact ihk

theorem edgesR_lt (l : List Ft) : ∀ e ∈ edgesR l, e.1 < e.2.1 ∧ e.2.1 < l.length := by
  intro e he
  unfold edgesR edI at he
  obtain ⟨i, hi, he⟩ := List.mem_flatMap.1 he
  unfold edJ at he
  obtain ⟨t, ht, he⟩ := List.mem_flatMap.1 he
  unfold edK at he
  obtain ⟨k, _, rfl⟩ := List.mem_map.1 he
  have := List.mem_range.1 hi
  have := List.mem_range.1 ht
  show i < i + 1 + t ∧ i + 1 + t < l.length
  omega

theorem l_bef0 (n : Nat) (hn : n ≤ 1000) (es : List Ed) (hes : ∀ e ∈ es, e.1 < e.2.1 ∧ e.2.1 < n) (o : List Int) (ho : o.length ≤ 1000) (b2 : Bool) (he : es.length ≤ 1000) (K : Ex → St → Prop)
    (hx : (∀ j (h : j < es.length), okE o es[j] = true) → K (.exit 4) ⟨[], [(0, .row false 1 (intCells (atL n o)))], 1, [0]⟩)
    (hr : ∀ i (h : i < es.length), okE o es[i] = false → ∀ s', aget s'.env 4 = some (.p (.bool false)) → K .ret s') : ∀ (m i : Nat), i + m = es.length → (∀ j (h : j < es.length), j < i → okE o es[j] = true) →
    W tb a36_l0 ⟨[(5, .ref 0 n 0 n), (56, .p (.slice b2 (edRow es))), (57, .p (.int .i64 es.length)), (58, .p (.int .i64 i))], [(0, .row false 1 (intCells (atL n o)))], 1, [0]⟩ (LK tb (.ghost (.free [10]) (.ghost .lower a36_l0)) K) := by
  intro m
  induction m with
  | zero =>
    intro i hi ht
    have h1 : ¬ (i : Int) < es.length := by omega
    refine i_code (by unfold a36_l0; exact rfl) ?_
    repeat' (first | (simp (disch := omega) only [go_sem, seval, reduceCtorEq, h1]) | with_reducible exact Ev.mk | ((first | apply x_split | apply x_splitg) <;> intro hβ hb <;> (simp (disch := omega) only [go_sem, seval, reduceCtorEq, h1, hβ]) <;> clear hβ))
    exact hx (fun j h => ht j h (by omega))
  | succ m ih =>
    intro i hi ht
    have h1 : (i : Int) < es.length := by omega
    have h2 : i < es.length := by omega
    have h4 : (0 : Int) ≤ i := by omega
    have h3 := edRow_get es i h2
    obtain ⟨e1, e2⟩ := hes _ (List.getElem_mem h2)
    have g1 := atL_get n o es[i].1 (by omega)
    have g2 := atL_get n o es[i].2.1 e2
    have g3 : ((es[i].1 : Nat) : Int) < n := by omega
    have g4 : ((es[i].2.1 : Nat) : Int) < n := by omega
    have g5 : (0 : Int) ≤ (es[i].1 : Nat) := by omega
    have g6 : (0 : Int) ≤ (es[i].2.1 : Nat) := by omega
    have g7 := atL_len n o
    simp only [edC] at h3
    refine i_code (by unfold a36_l0; exact rfl) ?_
    by_cases c : plc (es[i].2.1 : Int) o 0 < plc (es[i].1 : Int) o 0
    · repeat' (first | (simp (disch := omega) only [go_sem, seval, reduceCtorEq, h1, h4, h3, c, g1, g2, g3, g4, g5, g6, g7, edRow_length, intCells_length]) | with_reducible exact Ev.mk | ((first | apply x_split | apply x_splitg) <;> intro hβ hb <;> (simp (disch := omega) only [go_sem, seval, reduceCtorEq, h1, h4, h3, c, g1, g2, g3, g4, g5, g6, g7, edRow_length, intCells_length, hβ]) <;> clear hβ))
      exact hr i h2 (decide_eq_false (by omega)) _ rfl
    · repeat' (first | (simp (disch := omega) only [go_sem, seval, reduceCtorEq, h1, h4, h3, c, g1, g2, g3, g4, g5, g6, g7, edRow_length, intCells_length]) | with_reducible exact Ev.mk | ((first | apply x_split | apply x_splitg) <;> intro hβ hb <;> (simp (disch := omega) only [go_sem, seval, reduceCtorEq, h1, h4, h3, c, g1, g2, g3, g4, g5, g6, g7, edRow_length, intCells_length, hβ]) <;> clear hβ))
      refine i_lk (W_round ?_)
      (try simp (disch := omega) only [go_sem, seval, reduceCtorEq])
      exact ih (i + 1) (by omega) fun j h hj => by
        rcases Nat.lt_or_ge j i with h' | h'
        · exact ht j h h'
        · have : j = i := by omega
          subst this; exact decide_eq_true (by omega)

theorem ps_before (l : List Ft) (o : List Int) (b b2 : Bool) (hl : l.length ≤ 10) (hF : ∀ f ∈ l, Fo f) (ho : o.length ≤ 1000) : PS tb 36 [.slice b (ftRow l), .slice b2 (intCells o)] (.bool (befR l o)) := by
  have q2 := ps_edges l b hl hF
  have he := edges_len l hl
  refine PS_of (af := a36) rfl rfl ?_
  unfold a36
  dsimp only [List.map, ofPV, initEnv]
  by_cases hlen : o.length = l.length
  · have c1 : ((o.length : Int) != (l.length : Int)) = false := by rw [hlen]; simp
    have m1 : l.length * 8 ≤ 140737488355328 := by omega
    have m2 : (l.length : Int) ≤ 140737488355328 := by omega
    have m3 : (0 : Int) ≤ l.length := by omega
    repeat' (first | exact q2 | (simp (disch := omega) only [go_sem, seval, reduceCtorEq, c1, m1, m2, m3, maxBytes, ftRow_length, intCells_length, List.length_replicate]) | with_reducible exact Ev.mk | apply x_call | ((first | apply x_split | apply x_splitg) <;> intro hβ hb <;> (simp (disch := omega) only [go_sem, seval, reduceCtorEq, c1, m1, m2, m3, maxBytes, ftRow_length, intCells_length, List.length_replicate, hβ]) <;> clear hβ))
    refine W_round ?_
    (try simp (disch := omega) only [go_sem, seval, reduceCtorEq])
    have key := fun K hx => l_bef2 l.length l o b b2 rfl (by omega) K hx l.length 0 (by omega)
    simp only [List.replicate_zero, List.nil_append, Nat.sub_zero] at key
    refine key _ ?_
    repeat' (first | (simp (disch := omega) only [go_sem, seval, reduceCtorEq, intCells_length]) | with_reducible exact Ev.mk | ((first | apply x_split | apply x_splitg) <;> intro hβ hb <;> (simp (disch := omega) only [go_sem, seval, reduceCtorEq, intCells_length, hβ]) <;> clear hβ))
    refine W_round ?_
    (try simp (disch := omega) only [go_sem, seval, reduceCtorEq])
    have key2 := fun K hx hr => l_bef1 l o b b2 (by omega) hlen K hx hr o.length 0 (by omega) (fun x hx => by simp at hx) (by simp)
    rw [List.take_zero] at key2
    refine key2 _ ?_ ?_
    · intro hp
      have hpb := permB_of hp
      repeat' (first | exact q2 | (simp (disch := omega) only [go_sem, seval, reduceCtorEq, edRow_length]) | with_reducible exact Ev.mk | apply x_call | ((first | apply x_split | apply x_splitg) <;> intro hβ hb <;> (simp (disch := omega) only [go_sem, seval, reduceCtorEq, edRow_length, hβ]) <;> clear hβ))
      refine W_round ?_
      (try simp (disch := omega) only [go_sem, seval, reduceCtorEq])
      refine l_bef0 l.length (by omega) (edgesR l) (edgesR_lt l) o ho false (by omega) _ ?_ ?_ (edgesR l).length 0 (by omega) (fun j h hj => by omega)
      · intro ha
        (try simp (disch := omega) only [go_sem, seval, reduceCtorEq])
        have : befR l o = true := by
          unfold befR
          rw [hpb, Bool.true_and, List.all_eq_true]
          intro x hx
          obtain ⟨i, hi, rfl⟩ := List.mem_iff_getElem.1 hx
          exact ha i hi
        simp only [this, pur, dep]
      · intro i hi hq s' hs'
        (try simp (disch := omega) only [go_sem, seval, reduceCtorEq, hs'])
        have : befR l o = false := by
          unfold befR
          rw [hpb, Bool.true_and, List.all_eq_false]
          exact ⟨_, List.getElem_mem hi, by rw [hq]; simp⟩
        simp only [this, pur, dep]
    · intro hp s' hs'
      (try simp (disch := omega) only [go_sem, seval, reduceCtorEq, hs'])
      have : befR l o = false := by unfold befR; rw [hp]; rfl
      simp only [this, pur, dep]
  · have c1 : ((o.length : Int) != (l.length : Int)) = true := by simpa using (by omega : ¬ (o.length : Int) = l.length)
    have : befR l o = false := by
      unfold befR permB
      rw [decide_eq_false hlen, Bool.and_false]; rfl
    rw [this]
    repeat' (first | (simp (disch := omega) only [go_sem, seval, reduceCtorEq, c1, ftRow_length, intCells_length]) | with_reducible exact Ev.mk | ((first | apply x_split | apply x_splitg) <;> intro hβ hb <;> (simp (disch := omega) only [go_sem, seval, reduceCtorEq, c1, ftRow_length, intCells_length, hβ]) <;> clear hβ))
    all_goals simp [pur, dep]

end Go.Dv.Try
