/-
  Specifications, part 20: Append, all ways together; what comes in.
-/
import Derived.Test.YtjnigloanggmmaaS18
set_option linter.unusedVariables false
set_option linter.unusedSimpArgs false
set_option maxRecDepth 100000
set_option maxHeartbeats 4000000
namespace Go.Dv.Try
open Go Go.Dv

theorem ps52 (m : M) (f : Fl) (x : X) (q : Bool) (hm : MFew m) (hi : x.items.length ≤ 300) : ∃ g, PS tb 52 [.agg (mC m f), .agg (xC x q)] (.tuple [.agg (mC (appR m x).1 g), .slice true (optRows true (appR m x).2)]) := by
  cases hc : concernsX m x 3 with
  | false => exact ps52a m f x q hm hi hc
  | true =>
    by_cases ht : x.term < m.term
    · exact ps52b m f x q hm hi hc ht
    · by_cases hu : m.term < x.term
      · by_cases hk : (m.log.length : Int) < x.index
        · exact ps52A1 m f x q hm hi hc ht hu hk
        · by_cases hz : x.index = 0 ∨ termN m.log x.index = x.logTerm
          · by_cases he : 256 < x.index + (x.items.length : Int)
            · exact ps52A3 m f x q hm hi hc ht hu hk hz he
            · by_cases hs : (sameX m x : Int) < (x.items.length : Int)
              · by_cases hw : x.index + (sameX m x : Int) < m.commit
                · exact ps52A4 m f x q hm hi hc ht hu hk hz he hs hw
                · exact ps52A5 m f x q hm hi hc ht hu hk hz he hs hw
              · exact ps52A6 m f x q hm hi hc ht hu hk hz he hs
          · exact ps52A2 m f x q hm hi hc ht hu hk (fun h => hz (.inl h)) (fun h => hz (.inr h))
      · by_cases hr : m.role = 3
        · exact ps52c m f x q hm hi hc ht hu hr
        · by_cases hk : (m.log.length : Int) < x.index
          · exact ps52C1 m f x q hm hi hc ht hu hr hk
          · by_cases hz : x.index = 0 ∨ termN m.log x.index = x.logTerm
            · by_cases he : 256 < x.index + (x.items.length : Int)
              · exact ps52C3 m f x q hm hi hc ht hu hr hk hz he
              · by_cases hs : (sameX m x : Int) < (x.items.length : Int)
                · by_cases hw : x.index + (sameX m x : Int) < m.commit
                  · exact ps52C4 m f x q hm hi hc ht hu hr hk hz he hs hw
                  · exact ps52C5 m f x q hm hi hc ht hu hr hk hz he hs hw
                · exact ps52C6 m f x q hm hi hc ht hu hr hk hz he hs
            · exact ps52C2 m f x q hm hi hc ht hu hr hk (fun h => hz (.inl h)) (fun h => hz (.inr h))

theorem fit_msg {u : List PV} (h : Fits [.int .i64, .int .i64, .int .i64, .int .i64, .int .i64, .int .i64, .int .i64, .bool, .slice [.int .i64, .str]] u) : ∃ x, u = xC x false := by
  obtain ⟨y0, u0, rfl, e0, h⟩ := h.cons
  obtain ⟨y1, u1, rfl, e1, h⟩ := h.cons
  obtain ⟨y2, u2, rfl, e2, h⟩ := h.cons
  obtain ⟨y3, u3, rfl, e3, h⟩ := h.cons
  obtain ⟨y4, u4, rfl, e4, h⟩ := h.cons
  obtain ⟨y5, u5, rfl, e5, h⟩ := h.cons
  obtain ⟨y6, u6, rfl, e6, h⟩ := h.cons
  obtain ⟨y7, u7, rfl, e7, h⟩ := h.cons
  obtain ⟨y8, u8, rfl, e8, h⟩ := h.cons
  have hn := h.nil
  subst hn
  obtain ⟨n0, rfl, _⟩ := fit_int e0
  obtain ⟨n1, rfl, _⟩ := fit_int e1
  obtain ⟨n2, rfl, _⟩ := fit_int e2
  obtain ⟨n3, rfl, _⟩ := fit_int e3
  obtain ⟨n4, rfl, _⟩ := fit_int e4
  obtain ⟨n5, rfl, _⟩ := fit_int e5
  obtain ⟨n6, rfl, _⟩ := fit_int e6
  obtain ⟨n7, rfl⟩ := fit_bool e7
  obtain ⟨n8, rfl⟩ := fit_items e8
  exact ⟨⟨n0, n1, n2, n3, n4, n5, n6, n7, n8⟩, rfl⟩

theorem few_items {m : M} {x : X} (h : few m x = true) : x.items.length ≤ 300 := by
  simp only [few, few98, Bool.and_eq_true, decide_eq_true_eq] at h
  omega

/-- What is sure of the member that Append gives. -/
theorem appR_sizes {m : M} {x : X} (hm : MFew m) (hi : x.items.length ≤ 300) :
    (appR m x).1.id = m.id ∧ (appR m x).1.members = m.members ∧ (appR m x).1.log.length ≤ 600 ∧ (appR m x).1.votes.length ≤ 40 ∧ (appR m x).1.next.length ≤ 40 ∧ (appR m x).1.mtch.length ≤ 40 := by
  have := hm.few1; have := hm.few2; have := hm.few3; have := hm.few4
  have h1 : (app1 m x).id = m.id ∧ (app1 m x).members = m.members ∧ (app1 m x).log = m.log ∧ (app1 m x).votes.length ≤ 40 ∧ (app1 m x).next.length ≤ 40 ∧ (app1 m x).mtch.length ≤ 40 := by
    unfold app1
    split
    · exact ⟨rfl, rfl, rfl, by simp [followM], by simp [followM], by simp [followM]⟩
    · exact ⟨rfl, rfl, rfl, by omega, by omega, by omega⟩
  have h2 : (app2 m x).id = m.id ∧ (app2 m x).members = m.members ∧ (app2 m x).log = m.log ∧ (app2 m x).votes.length ≤ 40 ∧ (app2 m x).next.length ≤ 40 ∧ (app2 m x).mtch.length ≤ 40 := by
    obtain ⟨a, b, c, d, e, f⟩ := h1
    exact ⟨a, b, c, by simp [app2], e, f⟩
  have h3 : (logX (app2 m x) x).length ≤ 600 := by
    unfold logX
    split
    · simp [h2.2.2.1]; omega
    · simp [h2.2.2.1]; omega
  have hlog1 : (app1 m x).log.length ≤ 600 := by rw [h1.2.2.1]; omega
  have hlog2 : (app2 m x).log.length ≤ 600 := by rw [h2.2.2.1]; omega
  unfold appR
  split
  · exact ⟨rfl, rfl, by simp only []; omega, by simp only []; omega, by simp only []; omega, by simp only []; omega⟩
  · split
    · exact ⟨rfl, rfl, by simp only []; omega, by simp only []; omega, by simp only []; omega, by simp only []; omega⟩
    · split
      · exact ⟨h1.1, h1.2.1, hlog1, h1.2.2.2⟩
      · unfold app3
        split
        · exact ⟨h2.1, h2.2.1, hlog2, h2.2.2.2⟩
        · split
          · exact ⟨h2.1, h2.2.1, hlog2, h2.2.2.2⟩
          · exact ⟨h2.1, h2.2.1, h3, h2.2.2.2⟩

theorem appR_MIn {m : M} {x : X} (hm : MFew m) (hi : x.items.length ≤ 300) : MIn (appR m x).1 := by
  obtain ⟨a, b, c, d, e, f⟩ := appR_sizes hm hi
  exact ⟨by rw [a]; exact hm.id1, by rw [a]; exact hm.id2, by rw [b]; exact hm.me1, by rw [b]; exact hm.me2, by omega, by omega, by omega, by omega⟩

theorem appR_reply {m : M} {x : X} {y : X} (h : (appR m x).2 = some y) : ∃ m' t i o, y = replyX m' t i o := by
  unfold appR at h
  split at h
  · cases h
  · split at h
    · simp only [Option.some.injEq] at h; exact ⟨_, _, _, _, h.symm⟩
    · split at h
      · cases h
      · unfold app3 at h
        split at h
        · simp only [Option.some.injEq] at h; exact ⟨_, _, _, _, h.symm⟩
        · split at h
          · cases h
          · simp only [Option.some.injEq] at h; exact ⟨_, _, _, _, h.symm⟩

theorem psMsgs {m : M} {x : X} : PS tb 49 [.slice true (optRows true (appR m x).2), .slice true (optRows true (appR m x).2)] (.bool true) := by
  cases h : (appR m x).2 with
  | none => exact ps49g [] true true (by simp) (by simp)
  | some y =>
    obtain ⟨m', t, i, o, rfl⟩ := appR_reply h
    exact ps49g [(_, true, true)] true true (by simp) (by simp [replyX])

end Go.Dv.Try
