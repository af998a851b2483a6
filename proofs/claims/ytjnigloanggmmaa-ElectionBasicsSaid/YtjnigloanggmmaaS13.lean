/-
  What comes in is a member; the law ReplicateProposes about the interpreter.
-/
import Derived.Test.YtjnigloanggmmaaS12
import Derived.Test.YtjnigloanggmmaaBridge
set_option linter.unusedVariables false
set_option linter.unusedSimpArgs false
set_option maxRecDepth 100000
set_option maxHeartbeats 4000000
namespace Go.Dv.Try
open Go Go.Dv

theorem fit_int {y : PV} (h : Fit (.int .i64) y) : ∃ n, y = .int .i64 n ∧ -9223372036854775808 ≤ n ∧ n ≤ 9223372036854775807 := by
  cases h with
  | int k n h =>
    refine ⟨n, rfl, ?_⟩
    simp [Lit.wf, IntKind.min, IntKind.max, IntKind.signed, IntKind.bits] at h
    omega

theorem fit_str {y : PV} (h : Fit .str y) : ∃ s, y = .str s := by
  cases h with
  | str s h => exact ⟨s, rfl⟩

theorem fit_bool {y : PV} (h : Fit .bool y) : ∃ s, y = .bool s := by
  cases h with
  | bool s => exact ⟨s, rfl⟩

theorem fit_ints {y : PV} (h : Fit (.slice [.int .i64]) y) : ∃ l, y = .slice false (intsPV l) := by
  cases h with
  | slice l xs h hl hr =>
    have : ∀ xs : List (List PV), (∀ x ∈ xs, ∃ n, x = intPV n) → ∃ l, xs = intsPV l := by
      intro xs
      induction xs with
      | nil => intro _; exact ⟨[], rfl⟩
      | cons x xs ih =>
        intro hx
        obtain ⟨n, hn⟩ := hx x (by simp)
        obtain ⟨l, hl⟩ := ih fun y hy => hx y (by simp [hy])
        exact ⟨n :: l, by rw [hn, hl]; rfl⟩
    obtain ⟨l, e⟩ := this xs fun x hx => by
      have h1 := hl x hx
      obtain ⟨i, hi⟩ := List.mem_iff_getElem?.1 hx
      cases x with
      | nil => simp at h1
      | cons a r =>
        have h2 : r = [] := by simpa using h1
        subst h2
        obtain ⟨n, rfl, _⟩ := fit_int (hr i _ 0 _ _ hi rfl rfl)
        exact ⟨n, rfl⟩
    exact ⟨l, by rw [e]⟩

theorem fit_items {y : PV} (h : Fit (.slice [.int .i64, .str]) y) : ∃ l, y = .slice false (itemsPV l) := by
  cases h with
  | slice l xs h hl hr =>
    have : ∀ xs : List (List PV), (∀ x ∈ xs, ∃ n, x = itemPV n) → ∃ l, xs = itemsPV l := by
      intro xs
      induction xs with
      | nil => intro _; exact ⟨[], rfl⟩
      | cons x xs ih =>
        intro hx
        obtain ⟨n, hn⟩ := hx x (by simp)
        obtain ⟨l, hl⟩ := ih fun y hy => hx y (by simp [hy])
        exact ⟨n :: l, by rw [hn, hl]; rfl⟩
    obtain ⟨l, e⟩ := this xs fun x hx => by
      have h1 := hl x hx
      obtain ⟨i, hi⟩ := List.mem_iff_getElem?.1 hx
      match x, h1 with
      | [a, c], _ =>
        obtain ⟨n, rfl, _⟩ := fit_int (hr i _ 0 _ _ hi rfl rfl)
        obtain ⟨s, rfl⟩ := fit_str (hr i _ 1 _ _ hi rfl rfl)
        exact ⟨(n, s), rfl⟩
    exact ⟨l, by rw [e]⟩

/-- What is sure of a member that came in. -/
structure MRan (m : M) : Prop where
  id1 : -9223372036854775808 ≤ m.id
  id2 : m.id ≤ 9223372036854775807
  me1 : -9223372036854775808 ≤ m.members
  me2 : m.members ≤ 9223372036854775807

theorem fit_member {u : List PV} (h : Fits [.int .i64, .int .i64, .int .i64, .int .i64, .slice [.int .i64, .str], .int .i64, .int .i64, .slice [.int .i64], .slice [.int .i64], .slice [.int .i64]] u) : ∃ m f, u = mC m f ∧ MRan m := by
  obtain ⟨y0, u0, rfl, e0, h⟩ := h.cons
  obtain ⟨y1, u1, rfl, e1, h⟩ := h.cons
  obtain ⟨y2, u2, rfl, e2, h⟩ := h.cons
  obtain ⟨y3, u3, rfl, e3, h⟩ := h.cons
  obtain ⟨y4, u4, rfl, e4, h⟩ := h.cons
  obtain ⟨y5, u5, rfl, e5, h⟩ := h.cons
  obtain ⟨y6, u6, rfl, e6, h⟩ := h.cons
  obtain ⟨y7, u7, rfl, e7, h⟩ := h.cons
  obtain ⟨y8, u8, rfl, e8, h⟩ := h.cons
  obtain ⟨y9, u9, rfl, e9, h⟩ := h.cons
  have hn := h.nil
  subst hn
  obtain ⟨n0, rfl, a0, b0⟩ := fit_int e0
  obtain ⟨n1, rfl, a1, b1⟩ := fit_int e1
  obtain ⟨n2, rfl, _⟩ := fit_int e2
  obtain ⟨n3, rfl, _⟩ := fit_int e3
  obtain ⟨n4, rfl⟩ := fit_items e4
  obtain ⟨n5, rfl, _⟩ := fit_int e5
  obtain ⟨n6, rfl, _⟩ := fit_int e6
  obtain ⟨n7, rfl⟩ := fit_ints e7
  obtain ⟨n8, rfl⟩ := fit_ints e8
  obtain ⟨n9, rfl⟩ := fit_ints e9
  exact ⟨⟨n0, n1, n2, n3, n4, n5, n6, n7, n8, n9⟩, ⟨false, false, false, false⟩, rfl, ⟨a0, b0, a1, b1⟩⟩

end Go.Dv.Try
