/-
  Specifications of chapter 38, part 3: the example; arguments; AdmitBlocks.
-/
import Derived.Test.YtlbfmbnmajlhaaaS2
import Derived.Test.YtlbfmbnmajlhaaaF10
set_option linter.unusedVariables false
set_option linter.unusedSimpArgs false
set_option maxRecDepth 100000
set_option maxHeartbeats 1000000
namespace Go.Dv.Try
open Go Go.Dv

theorem lives38_run : ((cfs tb.A tb.X 14).pure 21 []) = some (.bool true) := by kernel_rfl
theorem ps_lives38 : PS tb 21 [] (.bool true) := ⟨14, lives38_run⟩

/-! ### arguments -/

theorem fit_int {y : PV} (h : Fit (.int .i64) y) : ∃ n, y = .int .i64 n ∧ (Lit.int .i64 n).wf = true := by
  cases h with
  | int k n h => exact ⟨n, rfl, h⟩

theorem fit_row {α : Type} {l : List Go.Dv.Sh} {g : α → List PV} (hg : ∀ x, Fits l x → ∃ a, x = g a) {y : PV} (h : Fit (.slice l) y) : ∃ r : List α, y = .slice false (r.map g) := by
  cases h with
  | slice l xs h hl hr =>
    have : ∀ xs : List (List PV), (∀ x ∈ xs, ∃ n, x = g n) → ∃ l : List α, xs = l.map g := by
      intro xs
      induction xs with
      | nil => intro _; exact ⟨[], rfl⟩
      | cons x xs ih =>
        intro hx
        obtain ⟨n, hn⟩ := hx x (by simp)
        obtain ⟨l, hl⟩ := ih fun y hy => hx y (by simp [hy])
        exact ⟨n :: l, by rw [hn, hl]; rfl⟩
    obtain ⟨r, e⟩ := this xs fun x hx => by
      obtain ⟨i, hi⟩ := List.mem_iff_getElem?.1 hx
      exact hg x ⟨hl x hx, fun j s y h1 h2 => hr i x j s y hi h1 h2⟩
    exact ⟨r, by rw [e]⟩

theorem fit_foots {y : PV} (h : Fit (.slice [.bool, .slice [.str], .slice [.str]]) y) : ∃ l, y = .slice false (ftRow l) := fit_row (g := ftC) (fun _ h => fit_foot h) h

theorem fit_quota {u : List PV} (h : Fits [.int .i64, .int .i64, .int .i64, .int .i64] u) : ∃ q : Qt, u = qC q := by
  obtain ⟨y0, u0, rfl, e0, h⟩ := h.cons
  obtain ⟨y1, u1, rfl, e1, h⟩ := h.cons
  obtain ⟨y2, u2, rfl, e2, h⟩ := h.cons
  obtain ⟨y3, u3, rfl, e3, h⟩ := h.cons
  have hn := h.nil
  subst hn
  obtain ⟨n0, rfl, _⟩ := fit_int e0
  obtain ⟨n1, rfl, _⟩ := fit_int e1
  obtain ⟨n2, rfl, _⟩ := fit_int e2
  obtain ⟨n3, rfl, _⟩ := fit_int e3
  exact ⟨⟨n0, n1, n2, n3⟩, rfl⟩

theorem few8_ok {f : Ft} (h : fewF 8 f = true) : okF f := by
  refine ⟨fewF_sh h (by omega), ?_⟩
  simp only [fewF, Bool.and_eq_true, decide_eq_true_eq] at h
  omega

theorem few38_ok {hot : List ByteArray} {n : Nat} {l : List Ft} (h : few38 hot n l = true) : hot.length ≤ 8 ∧ n ≤ 16 ∧ l.length ≤ 16 ∧ ∀ f ∈ l, okF f := by
  simp only [few38, Bool.and_eq_true, decide_eq_true_eq, List.all_eq_true] at h
  exact ⟨h.1, h.2.1, h.2.2.1, fun f hf => few8_ok (h.2.2.2.2 f hf)⟩

theorem walkAdmitBlocks {u x : List PV} {v w : PV} (h : Fits [.int .i64, .int .i64, .int .i64, .int .i64] u) (h1 : Fit (.slice [.str]) v) (h2 : Fit (.slice [.bool, .slice [.str], .slice [.str]]) w) (h3 : Fits [.bool, .slice [.str], .slice [.str]] x) :
    PS tb 5 [.agg u, v, w, .agg x] (.bool true) := by
  obtain ⟨q, rfl⟩ := fit_quota h
  obtain ⟨hot, rfl⟩ := fit_strs h1
  obtain ⟨adm, rfl⟩ := fit_foots h2
  obtain ⟨f, rfl⟩ := fit_foot h3
  have s1 := ps_rfew hot false [] true adm false
  have s2 := ps_rfew [] true [] true [f] true
  refine PS_of (af := a5) rfl rfl ?_
  unfold a5
  simp only [rqRow, ftRow, strRow, List.map, ftC] at s1 s2
  cases hf : few38 hot 0 adm with
  | false =>
    simp only [List.length_nil, hf] at s1
    dsimp only [List.map, ofPV, qC, ftC, initEnv, ftRow, strRow] at s1 ⊢
    repeat' (first | (simp (disch := omega) only [go_sem, seval, reduceCtorEq]) | (apply x_pure; iterate 5 (first | exact s1 | exact ps_lives38 | ((try simp (disch := omega) only [go_sem, seval, reduceCtorEq]) <;> with_reducible exact rfl))) | ((first | apply x_split_cond | apply x_split_guard); all_goals (intro hb; (try simp only [Bool.not_eq_true', Bool.not_eq_false'] at hb); (simp (disch := omega) only [go_sem, seval, reduceCtorEq, hb]); (try simp only [decide_eq_true_eq, decide_eq_false_iff_not, beq_iff_eq, beq_eq_false_iff_ne, ne_eq, bne_iff_ne, bne_eq_false_iff_eq, Decidable.not_not] at hb))))
  | true =>
    simp only [List.length_nil, hf] at s1
    cases hg : few38 [] 0 [f] with
    | false =>
      simp only [List.length_nil, hg] at s2
      dsimp only [List.map, ofPV, qC, ftC, initEnv, ftRow, strRow] at s1 s2 ⊢
      repeat' (first | (simp (disch := omega) only [go_sem, seval, reduceCtorEq]) | (apply x_pure; iterate 5 (first | exact s1 | exact s2 | exact ps_lives38 | ((try simp (disch := omega) only [go_sem, seval, reduceCtorEq]) <;> with_reducible exact rfl))) | ((first | apply x_split_cond | apply x_split_guard); all_goals (intro hb; (try simp only [Bool.not_eq_true', Bool.not_eq_false'] at hb); (simp (disch := omega) only [go_sem, seval, reduceCtorEq, hb]); (try simp only [decide_eq_true_eq, decide_eq_false_iff_not, beq_iff_eq, beq_eq_false_iff_ne, ne_eq, bne_iff_ne, bne_eq_false_iff_eq, Decidable.not_not] at hb))))
    | true =>
      simp only [List.length_nil, hg] at s2
      obtain ⟨k1, _, k2, k3⟩ := few38_ok hf
      obtain ⟨_, _, _, k4⟩ := few38_ok hg
      have s3 := ps_fvq q
      have s4 := ps_rvq q
      have s5 := ps_fblk q hot false adm false f (k4 f (by simp)) (by omega) (by omega) k3
      have s6 := ps_rblk q hot false adm false f (k4 f (by simp)) (by omega) (by omega) k3
      dsimp only [List.map, ofPV, qC, ftC, initEnv, ftRow, strRow] at s1 s2 s3 s4 s5 s6 ⊢
      repeat' (first | (simp (disch := omega) only [go_sem, seval, reduceCtorEq]) | (apply x_pure; iterate 5 (first | exact s1 | exact s2 | exact s3 | exact s4 | exact s5 | exact s6 | exact ps_lives38 | ((try simp (disch := omega) only [go_sem, seval, reduceCtorEq]) <;> with_reducible exact rfl))) | ((first | apply x_split_cond | apply x_split_guard); all_goals (intro hb; (try simp only [Bool.not_eq_true', Bool.not_eq_false'] at hb); (simp (disch := omega) only [go_sem, seval, reduceCtorEq, hb]); (try simp only [decide_eq_true_eq, decide_eq_false_iff_not, beq_iff_eq, beq_eq_false_iff_ne, ne_eq, bne_iff_ne, bne_eq_false_iff_eq, Decidable.not_not] at hb))))

end Go.Dv.Try
