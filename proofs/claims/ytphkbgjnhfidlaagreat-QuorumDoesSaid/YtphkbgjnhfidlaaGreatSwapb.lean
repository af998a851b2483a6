/-
  An operation comes to the front of a list, past some that touch different blocks.
-/
import Derived.Test.YtphkbgjnhfidlaaGreatSwap
set_option linter.unusedVariables false
set_option linter.unusedSimpArgs false
namespace Go.Dv
open Go.RowKit

theorem selfOK_spec {x : DOper} (h : selfOK x = true) : ∀ k ∈ x.rd, x.dst ≠ some k := by
  intro k hk e
  unfold selfOK at h
  rw [e] at h
  simp at h
  exact h hk

theorem offs_spec {o x : DOper} (h : offs o x = true) : (∀ k ∈ x.rd, o.dst ≠ some k) ∧ ∀ k, x.dst = some k → o.dst ≠ some k := by
  unfold offs at h
  constructor
  · intro k hk e; rw [e] at h; simp at h; exact h.1 hk
  · intro k hk e; rw [e] at h; simp at h; exact h.2 hk

theorem offs_of_apart {o x : DOper} (h : apart o x = true) : offs o x = true := by
  obtain ⟨a1, a2, a3⟩ := apart_spec h
  unfold offs
  cases hd : o.dst with
  | none => rfl
  | some k =>
    simp only [Bool.and_eq_true, Bool.not_eq_true', bne_iff_ne, ne_eq]
    refine ⟨?_, a3 k hd⟩
    cases hc : x.rd.contains k with
    | false => rfl
    | true => exact absurd hd (a1 k (by simpa using hc))

section
variable {cf : CallF}

theorem dopr_env {x : DOper} {s s' : St} (h : dopr cf x s = some s') {k : Nat} (hk : x.dst ≠ some k) : aget s'.env k = aget s.env k := by
  obtain ⟨v, H, n, _, rfl⟩ := dopr_iff.1 h
  exact aget_eput hk

theorem dops_env : ∀ (l : List DOper) (s s' : St), dops cf l s = some s' → ∀ k, (∀ o ∈ l, o.dst ≠ some k) → aget s'.env k = aget s.env k
  | [], s, s', h, k, _ => by simp only [dops, Option.some.injEq] at h; subst h; rfl
  | o :: r, s, s', h, k, hk => by
    simp only [dops] at h
    cases h1 : dopr cf o s with
    | none => rw [h1] at h; cases h
    | some s1 =>
      rw [h1] at h
      rw [dops_env r s1 s' h k fun q hq => hk q (by simp [hq]), dopr_env h1 (hk o (by simp))]

theorem sepOK_congr {e e' : Env} {x y : DOper} (hx : ∀ k ∈ x.rd, aget e' k = aget e k) (hy : ∀ k ∈ y.rd, aget e' k = aget e k) (hdx : ∀ k, x.dst = some k → aget e' k = aget e k) (hdy : ∀ k, y.dst = some k → aget e' k = aget e k) : sepOK e' x y = sepOK e x y := by
  have r1 : resO e' x.dst = resO e x.dst := by
    cases hd : x.dst with
    | none => rfl
    | some k => exact hdx k hd
  have r2 : resO e' y.dst = resO e y.dst := by
    cases hd : y.dst with
    | none => rfl
    | some k => exact hdy k hd
  unfold sepOK
  rw [readOf_congr fun k hk => hx k (rd_op hk), readOf_congr fun k hk => hy k (rd_op hk), r1, r2]
  congr 1
  · cases readOf e x.op with
    | none => rfl
    | some q => cases q with
      | none => rfl
      | some j => exact keepsBlk_congr fun k hk => hy k (rd_op hk)
  · cases readOf e y.op with
    | none => rfl
    | some q => cases q with
      | none => rfl
      | some j => exact keepsBlk_congr fun k hk => hx k (rd_op hk)

def FrontOK (i : DOper) (l2 : List DOper) (s' : St) : List DOper → Prop
  | [] => True
  | j :: r => (commOK j i = true ∨ (apart j i = true ∧ selfOK j = true ∧ selfOK i = true ∧ sepOK s'.env j i = true ∧ ∀ o ∈ r ++ l2, offs o j = true ∧ offs o i = true)) ∧ FrontOK i l2 s' r

theorem dops_frontS {i : DOper} {l2 : List DOper} {s' : St} : ∀ (l1 : List DOper) (s : St), FrontOK i l2 s' l1 → dops cf (l1 ++ i :: l2) s = some s' → dops cf (i :: (l1 ++ l2)) s = some s'
  | [], s, _, h => h
  | j :: r, s, hc, h => by
    obtain ⟨hc1, hc2⟩ := hc
    simp only [List.cons_append, dops] at h
    cases h1 : dopr cf j s with
    | none => rw [h1] at h; cases h
    | some s1 =>
      rw [h1] at h
      have ih := dops_frontS r s1 hc2 h
      simp only [dops] at ih
      cases h2 : dopr cf i s1 with
      | none => rw [h2] at ih; cases ih
      | some s2 =>
        rw [h2] at ih
        simp only at ih
        have hsw : ∃ s1', dopr cf i s = some s1' ∧ dopr cf j s1' = some s2 := by
          rcases hc1 with hcm | ⟨hap, hs1, hs2, hsep, hq⟩
          · exact dopr_comm hcm h1 h2
          · refine dopr_swap hap (selfOK_spec hs1) (selfOK_spec hs2) h1 h2 ?_
            rw [← hsep]
            have ag : ∀ k, (∀ o ∈ r ++ l2, o.dst ≠ some k) → aget s2.env k = aget s'.env k := fun k hk => (dops_env _ _ _ ih k hk).symm
            exact sepOK_congr (fun k hk => ag k fun o ho => (offs_spec (hq o ho).1).1 k hk) (fun k hk => ag k fun o ho => (offs_spec (hq o ho).2).1 k hk)
              (fun k hk => ag k fun o ho => (offs_spec (hq o ho).1).2 k hk) (fun k hk => ag k fun o ho => (offs_spec (hq o ho).2).2 k hk)
        obtain ⟨s1', h3, h4⟩ := hsw
        simp only [dops, h3, List.cons_append, h4]
        exact ih

end

end Go.Dv
