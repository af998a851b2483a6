/-
  Specifications: K8, K9, K10.
-/
import Derived.Test.YtknplkihgnfpfaaKA
import Derived.Test.YtknplkihgnfpfaaBridge
set_option linter.unusedVariables false
set_option linter.unusedSimpArgs false
set_option maxRecDepth 100000
set_option maxHeartbeats 16000000
namespace Go.Dv.Try
open Go Go.Dv

/-! ## K8 -/

def exL : List Ft := [⟨false, true, [], true, [⟨#[120]⟩]⟩, ⟨false, true, [⟨#[120]⟩], true, []⟩, ⟨false, true, [], true, [⟨#[121]⟩]⟩]

theorem exL_ok : exL.length ≤ 10 ∧ ∀ f ∈ exL, Fo f := fewL_ok (by kernel_rfl)
theorem exL_edges : edgesR exL = [(0, 1, 1)] := by kernel_rfl
theorem ps_edgesX : PS tb 32 [.slice true (ftRow exL)] (.slice false [[.int .i64 0, .int .i64 1, .int .i64 1]]) := by
  have := ps_edges exL true exL_ok.1 exL_ok.2
  rw [exL_edges] at this
  exact this

theorem W_ev {T : Tab} {c : ACode} {s : St} {K : Ex → St → Prop} (e : Ex) (s' : St) (h : EvC T (.loop c) s e s') (hk : K e s') : W T (.loop c) s K := by
  unfold W
  exact ⟨e, s', h, hk⟩

theorem W_keysT {T : Tab} {m h : Nat} {tmps : List Nat} {x y : ACode} {s : St} {K : Ex → St → Prop} (id0 : Nat) (ks : List Int) (r : St) (n : Nat) (h1 : keysOK s m h tmps = some (id0, ks))
    (h2 : ∀ l : List Int, l.Perm ks → dcode (cfs T.A T.X n) n x (keysSt s h id0 l) = some (.normal, r)) (h3 : W T y r K) : W T (.keysThen m h tmps x y) s K := by
  unfold W
  exact ⟨id0, ks, r, n, h1, h2, h3⟩

theorem perm2 {l : List Int} {a b : Int} (h : l.Perm [a, b]) : l = [a, b] ∨ l = [b, a] := by
  match l, h.length_eq with
  | [x, y], _ =>
    have hx : x ∈ [a, b] := h.mem_iff.1 (by simp)
    have hy := h.symm
    by_cases e : x = a
    · subst e
      have := (List.perm_cons x).1 h
      left; rw [List.singleton_perm_singleton.1 this]
    · simp only [List.mem_cons, List.not_mem_nil, or_false] at hx
      rcases hx with hx | hx
      · exact absurd hx e
      · subst hx
        have h2 : ([x, y] : List Int).Perm [x, a] := h.trans (List.Perm.swap ..)
        have := (List.perm_cons x).1 h2
        right; rw [List.singleton_perm_singleton.1 this]

theorem sortInt_eq {l ks : List Int} (h : l.Perm ks) (hs : ks.Pairwise (· ≤ ·)) : sortInt l = ks := by
  unfold sortInt
  refine List.Perm.eq_of_pairwise (le := fun a b : Int => a ≤ b) (fun a b _ _ h k => Int.le_antisymm h k) ?_ hs ((List.mergeSort_perm l _).trans h)
  have := List.pairwise_mergeSort (le := fun a b : Int => decide (a ≤ b)) (fun a b c h k => by simp only [decide_eq_true_eq] at *; omega) (fun a b => by simp only [Bool.or_eq_true, decide_eq_true_eq]; omega) l
  exact this.imp fun h => by simpa using h

theorem ps_compX : PS tb 43 [.slice true (ftRow exL)] (.slice false [[.slice false [[.int .i64 0], [.int .i64 1]]], [.slice false [[.int .i64 2]]]]) := by
  have hl : (ftRow exL).length = 3 := rfl
  have q := ps_edgesX
  have i0 : ((3 : Nat) : Int) = 3 := rfl
  have j0 : (3 : Int) * 8 ≤ 140737488355328 := by decide
  have j1 : (3 : Int) ≤ 140737488355328 := by decide
  have j2 : (0 : Int) ≤ 3 := by decide
  refine PS_of (af := a43) rfl rfl ?_
  unfold a43
  dsimp only [List.map, ofPV, initEnv]
  repeat' (first | exact q | (simp (disch := omega) only [go_sem, seval, reduceCtorEq, hl, i0, maxBytes, j1, j2]) | with_reducible exact Ev.mk | apply x_call | ((first | apply x_split | apply x_splitg) <;> intro hβ hb <;> (simp (disch := omega) only [go_sem, seval, reduceCtorEq, hl, i0, maxBytes, j1, j2, hβ]) <;> clear hβ))
  refine W_ev (.exit 0) ⟨[(0, .p (.slice true (ftRow exL))), (3, .ref 0 3 0 3)], [(0, .row false 1 [[.int .i64 0], [.int .i64 1], [.int .i64 2]])], 1, [0]⟩ ⟨20, by kernel_rfl⟩ ?_
  repeat' (first | exact q | (simp (disch := omega) only [go_sem, seval, reduceCtorEq, hl, i0, maxBytes, j1, j2]) | with_reducible exact Ev.mk | apply x_call | ((first | apply x_split | apply x_splitg) <;> intro hβ hb <;> (simp (disch := omega) only [go_sem, seval, reduceCtorEq, hl, i0, maxBytes, j1, j2, hβ]) <;> clear hβ))
  refine W_ev (.exit 2) ⟨[(3, .ref 0 3 0 3)], [(0, .row false 1 [[.int .i64 0], [.int .i64 0], [.int .i64 2]])], 1, [0]⟩ ⟨20, by kernel_rfl⟩ ?_
  repeat' (first | exact q | (simp (disch := omega) only [go_sem, seval, reduceCtorEq, hl, i0, maxBytes, j1, j2]) | with_reducible exact Ev.mk | apply x_call | ((first | apply x_split | apply x_splitg) <;> intro hβ hb <;> (simp (disch := omega) only [go_sem, seval, reduceCtorEq, hl, i0, maxBytes, j1, j2, hβ]) <;> clear hβ))
  refine W_ev (.exit 6) ⟨[(11, .ptr 1 0)], [(3, .row false 1 [[.int .i64 2]]), (2, .row false 1 [[.int .i64 0], [.int .i64 1]]), (1, .map false [(0, .ref 2 2 0 2), (2, .ref 3 1 0 1)]), (0, .row false 1 [[.int .i64 0], [.int .i64 0], [.int .i64 2]])], 4, [0]⟩ ⟨20, by kernel_rfl⟩ ?_
  repeat' (first | exact q | (simp (disch := omega) only [go_sem, seval, reduceCtorEq, hl, i0, maxBytes, j1, j2]) | with_reducible exact Ev.mk | apply x_call | ((first | apply x_split | apply x_splitg) <;> intro hβ hb <;> (simp (disch := omega) only [go_sem, seval, reduceCtorEq, hl, i0, maxBytes, j1, j2, hβ]) <;> clear hβ))
  refine W_keysT 4 [0, 2] ⟨[(11, .ptr 1 0), (14, .ref 4 2 0 2)], [(4, .row false 1 [[.int .i64 0], [.int .i64 2]]), (3, .row false 1 [[.int .i64 2]]), (2, .row false 1 [[.int .i64 0], [.int .i64 1]]), (1, .map false [(0, .ref 2 2 0 2), (2, .ref 3 1 0 1)]), (0, .row false 1 [[.int .i64 0], [.int .i64 0], [.int .i64 2]])], 5, [0]⟩ 20 (by kernel_rfl) ?_ ?_
  · intro l h
    have e := sortInt_eq h (by decide)
    have fin : ∀ l0 : List Int, sortInt l0 = [0, 2] → dcode (cfs tb.A tb.X 20) 20 (.regionK false [(DOper.o 99 (DOp.move (DO.t 14)), []), (DOper.o 100 (DOp.call true 74 [DO.t 99]), [99, 100])]) (keysSt ⟨[(11, .ptr 1 0), (14, .ref 4 0 0 0)], [(4, .row false 1 []), (3, .row false 1 [[.int .i64 2]]), (2, .row false 1 [[.int .i64 0], [.int .i64 1]]), (1, .map false [(0, .ref 2 2 0 2), (2, .ref 3 1 0 1)]), (0, .row false 1 [[.int .i64 0], [.int .i64 0], [.int .i64 2]])], 5, [0]⟩ 14 4 l0) = some (.normal, ⟨[(11, .ptr 1 0), (14, .ref 4 2 0 2)], [(4, .row false 1 (intCells (sortInt l0))), (3, .row false 1 [[.int .i64 2]]), (2, .row false 1 [[.int .i64 0], [.int .i64 1]]), (1, .map false [(0, .ref 2 2 0 2), (2, .ref 3 1 0 1)]), (0, .row false 1 [[.int .i64 0], [.int .i64 0], [.int .i64 2]])], 5, [0]⟩) → dcode (cfs tb.A tb.X 20) 20 (.regionK false [(DOper.o 99 (DOp.move (DO.t 14)), []), (DOper.o 100 (DOp.call true 74 [DO.t 99]), [99, 100])]) (keysSt ⟨[(11, .ptr 1 0), (14, .ref 4 0 0 0)], [(4, .row false 1 []), (3, .row false 1 [[.int .i64 2]]), (2, .row false 1 [[.int .i64 0], [.int .i64 1]]), (1, .map false [(0, .ref 2 2 0 2), (2, .ref 3 1 0 1)]), (0, .row false 1 [[.int .i64 0], [.int .i64 0], [.int .i64 2]])], 5, [0]⟩ 14 4 l0) = some (.normal, ⟨[(11, .ptr 1 0), (14, .ref 4 2 0 2)], [(4, .row false 1 [[.int .i64 0], [.int .i64 2]]), (3, .row false 1 [[.int .i64 2]]), (2, .row false 1 [[.int .i64 0], [.int .i64 1]]), (1, .map false [(0, .ref 2 2 0 2), (2, .ref 3 1 0 1)]), (0, .row false 1 [[.int .i64 0], [.int .i64 0], [.int .i64 2]])], 5, [0]⟩) := by
      intro l0 h1 h2
      rw [h2, h1]; rfl
    rcases perm2 h with rfl | rfl
    · exact fin _ e (by kernel_rfl)
    · exact fin _ e (by kernel_rfl)
  repeat' (first | (simp (disch := omega) only [go_sem, seval, reduceCtorEq, purMap, purEnts, entsTch]) | with_reducible exact Ev.mk | ((first | apply x_split | apply x_splitg) <;> intro hβ hb <;> (simp (disch := omega) only [go_sem, seval, reduceCtorEq, purMap, purEnts, entsTch, hβ]) <;> clear hβ))
  refine W_ev (.exit 10) ⟨[(16, .ref 5 2 0 2)], [(5, .row false 1 [[.slice false [[.int .i64 0], [.int .i64 1]]], [.slice false [[.int .i64 2]]]]), (4, .row false 1 [[.int .i64 0], [.int .i64 2]]), (3, .row true 1 [[.int .i64 2]]), (2, .row true 1 [[.int .i64 0], [.int .i64 1]]), (1, .map false [(0, .p (.slice false [[.int .i64 0], [.int .i64 1]])), (2, .p (.slice false [[.int .i64 2]]))]), (0, .row false 1 [[.int .i64 0], [.int .i64 0], [.int .i64 2]])], 6, [0]⟩ ⟨20, by kernel_rfl⟩ ?_
  repeat' (first | (simp (disch := omega) only [go_sem, seval, reduceCtorEq]) | with_reducible exact Ev.mk | ((first | apply x_split | apply x_splitg) <;> intro hβ hb <;> (simp (disch := omega) only [go_sem, seval, reduceCtorEq, hβ]) <;> clear hβ))
  all_goals simp [pur, dep]


/-! ## K9 -/

theorem exL_row : ftRow exL = [[.bool false, .slice true [], .slice true [[.str ⟨#[120]⟩]]], [.bool false, .slice true [[.str ⟨#[120]⟩]], .slice true []], [.bool false, .slice true [], .slice true [[.str ⟨#[121]⟩]]]] := rfl
theorem exL_lev : levR exL = [0, 1, 0] := by kernel_rfl
theorem ps_levX : PS tb 39 [.slice true (ftRow exL)] (.slice false [[.int .i64 0], [.int .i64 1], [.int .i64 0]]) := by
  have := ps_levels exL true exL_ok.1 exL_ok.2
  rw [exL_lev] at this
  exact this
theorem ps_hgtX : PS tb 41 [.slice true (ftRow exL)] (.int .i64 2) := by
  have := ps_height exL true exL_ok.1 exL_ok.2
  rw [exL_lev] at this
  exact this
theorem ps_befX (b : Bool) : PS tb 36 [.slice true (ftRow exL), .slice b [[.int .i64 2], [.int .i64 0], [.int .i64 1]]] (.bool true) := by
  have := ps_before exL [2, 0, 1] true b exL_ok.1 exL_ok.2 (by decide)
  have e : befR exL [2, 0, 1] = true := by kernel_rfl
  rw [e] at this
  exact this
theorem ps_befY (b : Bool) : PS tb 36 [.slice true (ftRow exL), .slice b [[.int .i64 1], [.int .i64 0], [.int .i64 2]]] (.bool false) := by
  have := ps_before exL [1, 0, 2] true b exL_ok.1 exL_ok.2 (by decide)
  have e : befR exL [1, 0, 2] = false := by kernel_rfl
  rw [e] at this
  exact this

theorem ps_lives : PS tb 31 [] (.bool true) := by
  have q1 := ps_edgesX
  have q2 := ps_levX
  have q3 := ps_compX
  have q4 := ps_hgtX
  have q5 := ps_befX
  have q6 := ps_befY
  rw [exL_row] at q1 q2 q3 q4
  simp only [exL_row] at q5 q6
  refine PS_of (af := a31) rfl rfl ?_
  unfold a31
  dsimp only [List.map, ofPV, initEnv]
  repeat' (first | exact q1 | exact q2 | exact q3 | exact q4 | exact q5 _ | exact q6 _ | (simp (maxSteps := 2000000) (disch := omega) only [go_sem, seval, reduceCtorEq]) | with_reducible exact Ev.mk | apply x_call | ((first | apply x_split | apply x_splitg) <;> intro hβ hb <;> (simp (maxSteps := 2000000) (disch := omega) only [go_sem, seval, reduceCtorEq, hβ]) <;> clear hβ))
  all_goals simp [pur, dep]


/-! ## K10 -/

theorem fit_str {y : PV} (h : Fit .str y) : ∃ s, y = .str s := by
  cases h with
  | str s h => exact ⟨s, rfl⟩
theorem fit_bool {y : PV} (h : Fit .bool y) : ∃ s, y = .bool s := by
  cases h with
  | bool s => exact ⟨s, rfl⟩
theorem fit_strs {y : PV} (h : Fit (.slice [.str]) y) : ∃ l, y = .slice false (strRow l) := by
  cases h with
  | slice l xs h hl hr =>
    have : ∀ xs : List (List PV), (∀ x ∈ xs, ∃ n, x = [.str n]) → ∃ l, xs = strRow l := by
      intro xs
      induction xs with
      | nil => intro _; exact ⟨[], rfl⟩
      | cons x xs ih =>
        intro hx
        obtain ⟨n, hn⟩ := hx x (by simp)
        obtain ⟨l, hl⟩ := ih fun y hy => hx y (by simp [hy])
        exact ⟨n :: l, by rw [hn, hl]; rfl⟩
    obtain ⟨l, e⟩ := this xs fun x hx => by
      have h1 := hl x hx
      obtain ⟨i, hi⟩ := List.mem_iff_getElem?.1 hx
      cases x with
      | nil => simp at h1
      | cons a r =>
        have h2 : r = [] := by simpa using h1
        subst h2
        obtain ⟨n, rfl⟩ := fit_str (hr i _ 0 _ _ hi rfl rfl)
        exact ⟨n, rfl⟩
    exact ⟨l, by rw [e]⟩
theorem fit_foot {u : List PV} (h : Fits [.bool, .slice [.str], .slice [.str]] u) : ∃ f : Ft, u = ftC f := by
  obtain ⟨y0, u0, rfl, e0, h⟩ := h.cons
  obtain ⟨y1, u1, rfl, e1, h⟩ := h.cons
  obtain ⟨y2, u2, rfl, e2, h⟩ := h.cons
  have hn := h.nil
  subst hn
  obtain ⟨n0, rfl⟩ := fit_bool e0
  obtain ⟨n1, rfl⟩ := fit_strs e1
  obtain ⟨n2, rfl⟩ := fit_strs e2
  exact ⟨⟨n0, false, n1, false, n2⟩, rfl⟩

theorem fit_rowsH {α : Type} {sh : List Go.Dv.Sh} {y : PV} {c : α → List PV} {P : α → Prop} (hc : ∀ u, Fits sh u → ∃ a, u = c a ∧ P a) (h : Fit (.slice sh) y) : ∃ l : List α, y = .slice false (l.map c) ∧ l.length ≤ 9223372036854775807 ∧ ∀ a ∈ l, P a := by
  cases h with
  | slice l xs h hl hr =>
    have : ∀ xs : List (List PV), (∀ x ∈ xs, Fits sh x) → ∃ l : List α, xs = l.map c ∧ ∀ a ∈ l, P a := by
      intro xs
      induction xs with
      | nil => intro _; exact ⟨[], rfl, by simp⟩
      | cons x xs ih =>
        intro hx
        obtain ⟨n, hn, hp⟩ := hc x (hx x (by simp))
        obtain ⟨l, hl, hq⟩ := ih fun y hy => hx y (by simp [hy])
        exact ⟨n :: l, by rw [hn, hl]; rfl, fun a ha => by rcases List.mem_cons.1 ha with rfl | e; exact hp; exact hq a e⟩
    obtain ⟨l, e, hp⟩ := this xs fun x hx => ⟨hl x hx, fun j s y h1 h2 => by
      obtain ⟨i, hi⟩ := List.mem_iff_getElem?.1 hx
      exact hr i x j s y hi h1 h2⟩
    refine ⟨l, by rw [e], ?_, hp⟩
    rw [e] at h
    simpa [maxLen] using h

theorem fit_intH {y : PV} (h : Fit (.int .i64) y) : ∃ n, y = .int .i64 n ∧ -9223372036854775808 ≤ n ∧ n ≤ 9223372036854775807 := by
  cases h with
  | int k n h =>
    refine ⟨n, rfl, ?_⟩
    simp [Lit.wf, IntKind.min, IntKind.max, IntKind.signed, IntKind.bits] at h
    omega

theorem fit_feet {y : PV} (h : Fit (.slice [.bool, .slice [.str], .slice [.str]]) y) : ∃ l : List Ft, y = .slice false (ftRow l) ∧ l.length ≤ 9223372036854775807 := by
  obtain ⟨l, e, hl, _⟩ := fit_rowsH (c := ftC) (P := fun _ => True) (fun u h => by
    obtain ⟨f, e⟩ := fit_foot h
    exact ⟨f, e, trivial⟩) h
  exact ⟨l, e, hl⟩

theorem fit_nums {y : PV} (h : Fit (.slice [.int .i64]) y) : ∃ l : List Int, y = .slice false (intCells l) ∧ l.length ≤ 9223372036854775807 := by
  obtain ⟨l, e, hl, _⟩ := fit_rowsH (c := fun z => [PV.int .i64 z]) (P := fun _ => True) (fun u h => by
    obtain ⟨y0, u0, rfl, e0, h⟩ := h.cons
    have hn := h.nil
    subst hn
    obtain ⟨n, rfl, _⟩ := fit_intH e0
    exact ⟨n, rfl, trivial⟩) h
  exact ⟨l, e, hl⟩

theorem walkConflictLevels {u : PV} (h : Fit (.slice [.bool, .slice [.str], .slice [.str]]) u) : PS tb 10 [u] (.bool true) := by
  obtain ⟨l, rfl, hl⟩ := fit_feet h
  have q := ps_few25 l false hl
  refine PS_of (af := a10) rfl rfl ?_
  unfold a10
  dsimp only [List.map, ofPV, initEnv]
  cases hf : fewL l with
  | false =>
    rw [hf] at q
    repeat' (first | exact q | exact ps_lives | (simp (disch := omega) only [go_sem, seval, reduceCtorEq]) | with_reducible exact Ev.mk | apply x_call | ((first | apply x_split | apply x_splitg) <;> intro hβ hb <;> (simp (disch := omega) only [go_sem, seval, reduceCtorEq, hβ]) <;> clear hβ))
  | true =>
    rw [hf] at q
    obtain ⟨h1, h2⟩ := fewL_ok hf
    have q1 := ps_levels l false h1 h2
    have q2 := ps_rlevels l false h1 h2
    have q3 := ps_same25 (levR l) false false (by rw [levR_len]; omega)
    have q4 := ps_height l false h1 h2
    have q5 := ps_rheight l false h1 h2
    repeat' (first | exact q | exact q1 | exact q2 | exact q3 | exact q4 | exact q5 | exact ps_lives | (simp (disch := omega) only [go_sem, seval, reduceCtorEq]) | with_reducible exact Ev.mk | apply x_call | ((first | apply x_split | apply x_splitg) <;> intro hβ hb <;> (simp (disch := omega) only [go_sem, seval, reduceCtorEq, hβ]) <;> clear hβ))
    all_goals simp [pur, dep]

theorem walkConflictBefore {u v : PV} (h : Fit (.slice [.bool, .slice [.str], .slice [.str]]) u) (h' : Fit (.slice [.int .i64]) v) : PS tb 12 [u, v] (.bool true) := by
  obtain ⟨l, rfl, hl⟩ := fit_feet h
  obtain ⟨o, rfl, ho⟩ := fit_nums h'
  have q := ps_few25 l false hl
  refine PS_of (af := a12) rfl rfl ?_
  unfold a12
  dsimp only [List.map, ofPV, initEnv]
  cases hf : fewL l with
  | false =>
    rw [hf] at q
    repeat' (first | exact q | exact ps_lives | (simp (disch := omega) only [go_sem, seval, reduceCtorEq, intCells_length]) | with_reducible exact Ev.mk | apply x_call | ((first | apply x_split | apply x_splitg) <;> intro hβ hb <;> (simp (disch := omega) only [go_sem, seval, reduceCtorEq, intCells_length, hβ]) <;> clear hβ))
  | true =>
    rw [hf] at q
    obtain ⟨h1, h2⟩ := fewL_ok hf
    by_cases c : (20 : Int) < o.length
    · repeat' (first | exact q | exact ps_lives | (simp (disch := omega) only [go_sem, seval, reduceCtorEq, c, intCells_length]) | with_reducible exact Ev.mk | apply x_call | ((first | apply x_split | apply x_splitg) <;> intro hβ hb <;> (simp (disch := omega) only [go_sem, seval, reduceCtorEq, c, intCells_length, hβ]) <;> clear hβ))
    · have q1 := ps_before l o false false h1 h2 (by omega)
      have q2 := ps_rbefore l o false false h1 h2 (by omega)
      repeat' (first | exact q | exact q1 | exact q2 | exact ps_lives | (simp (disch := omega) only [go_sem, seval, reduceCtorEq, c, intCells_length]) | with_reducible exact Ev.mk | apply x_call | ((first | apply x_split | apply x_splitg) <;> intro hβ hb <;> (simp (disch := omega) only [go_sem, seval, reduceCtorEq, c, intCells_length, hβ]) <;> clear hβ))
      all_goals simp [pur, dep]

theorem l_law9 (es : List Ed) (b b2 : Bool) (hl : es.length ≤ 1000) (K : Ex → St → Prop) (hx : K (.exit 0) ⟨[], [], 0, [0]⟩) : ∀ (m i : Nat), i + m = es.length →
    W tb a9_l0 ⟨[(3, .p (.slice b (edRow es))), (4, .p (.slice b2 (edRow es))), (5, .p (.int .i64 i))], [], 0, [0]⟩ (LK tb (.ghost .lower a9_l0) K) := by
  intro m
  induction m with
  | zero =>
    intro i hi
    have h1 : ¬ (i : Int) < es.length := by omega
    refine i_code (by unfold a9_l0; exact rfl) ?_
    repeat' (first | (simp (disch := omega) only [go_sem, seval, reduceCtorEq, h1, edRow_length]) | with_reducible exact Ev.mk | ((first | apply x_split | apply x_splitg) <;> intro hβ hb <;> (simp (disch := omega) only [go_sem, seval, reduceCtorEq, h1, edRow_length, hβ]) <;> clear hβ))
    exact hx
  | succ m ih =>
    intro i hi
    have h1 : (i : Int) < es.length := by omega
    have h2 : i < es.length := by omega
    have h4 : (0 : Int) ≤ i := by omega
    have h3 := edRow_get es i h2
    simp only [edC] at h3
    refine i_code (by unfold a9_l0; exact rfl) ?_
    repeat' (first | (simp (disch := omega) only [go_sem, seval, reduceCtorEq, h1, h4, h3, edRow_length]) | with_reducible exact Ev.mk | ((first | apply x_split | apply x_splitg) <;> intro hβ hb <;> (simp (disch := omega) only [go_sem, seval, reduceCtorEq, h1, h4, h3, edRow_length, hβ]) <;> clear hβ))
    refine i_lk (W_round ?_)
    (try simp (disch := omega) only [go_sem, seval, reduceCtorEq])
    exact ih (i + 1) (by omega)

theorem walkConflictEdges {u : PV} (h : Fit (.slice [.bool, .slice [.str], .slice [.str]]) u) : PS tb 9 [u] (.bool true) := by
  obtain ⟨l, rfl, hl⟩ := fit_feet h
  have q := ps_few25 l false hl
  refine PS_of (af := a9) rfl rfl ?_
  unfold a9
  dsimp only [List.map, ofPV, initEnv]
  cases hf : fewL l with
  | false =>
    rw [hf] at q
    repeat' (first | exact q | exact ps_lives | (simp (disch := omega) only [go_sem, seval, reduceCtorEq]) | with_reducible exact Ev.mk | apply x_call | ((first | apply x_split | apply x_splitg) <;> intro hβ hb <;> (simp (disch := omega) only [go_sem, seval, reduceCtorEq, hβ]) <;> clear hβ))
  | true =>
    rw [hf] at q
    obtain ⟨h1, h2⟩ := fewL_ok hf
    have q1 := ps_edges l false h1 h2
    have q2 := ps_redges l false h1 h2
    have he := edges_len l h1
    have n1 : (((edgesR l).length : Int) != ((edgesR l).length : Int)) = false := by simp
    repeat' (first | exact q | exact q1 | exact q2 | exact ps_lives | (simp (disch := omega) only [go_sem, seval, reduceCtorEq, n1, edRow_length]) | with_reducible exact Ev.mk | apply x_call | ((first | apply x_split | apply x_splitg) <;> intro hβ hb <;> (simp (disch := omega) only [go_sem, seval, reduceCtorEq, n1, edRow_length, hβ]) <;> clear hβ))
    refine W_round ?_
    (try simp (disch := omega) only [go_sem, seval, reduceCtorEq])
    refine l_law9 (edgesR l) false false (by omega) _ ?_ (edgesR l).length 0 (by omega)
    repeat' (first | exact ps_lives | (simp (disch := omega) only [go_sem, seval, reduceCtorEq]) | with_reducible exact Ev.mk | apply x_call | ((first | apply x_split | apply x_splitg) <;> intro hβ hb <;> (simp (disch := omega) only [go_sem, seval, reduceCtorEq, hβ]) <;> clear hβ))

end Go.Dv.Try
