/-
  The laws of footprints in plain data: no program in sight.
-/
import Derived.Test.YtlbfmbnmajlhaaaF7
set_option linter.unusedVariables false
set_option linter.unusedSimpArgs false
set_option maxRecDepth 100000
set_option maxHeartbeats 1000000
namespace Go.Dv.Try
open Go Go.Dv

theorem mrg_eq (l c : List ByteArray) : mrg (l ++ c) = insAll (insAll [] l) c :=
  strict_unique (strict_mrg _) (strict_insAll _ (strict_insAll _ List.Pairwise.nil)) (fun x => by rw [mem_mrg, mem_insAll, mem_insAll]; simp)
theorem mrg_eq1 (l : List ByteArray) : mrg l = insAll [] l :=
  strict_unique (strict_mrg _) (strict_insAll _ List.Pairwise.nil) (fun x => by rw [mem_mrg, mem_insAll]; simp)

theorem sameF_iff {f g : Ft} : sameF f g = true ↔ f.all = g.all ∧ f.r = g.r ∧ f.w = g.w := by simp [sameF]
theorem sameLim (b d b' d' : Bool) (r w : List ByteArray) : sameF (lim b r d w).1 (lim b' r d' w).1 = true ∧ (lim b r d w).2 = (lim b' r d' w).2 := by
  unfold lim
  split <;> simp [sameF]

theorem norm_same (b d : Bool) (f : Ft) : sameF (normF f).1 (normR b d f).1 = true ∧ (normF f).2 = (normR b d f).2 := by
  unfold normF normR
  rw [mrg_eq1, mrg_eq1]
  split
  · split
    · simp [sameF]
    · exact sameLim _ _ _ _ _ _
  · simp [sameF]

theorem union_same (b d : Bool) (f g : Ft) : sameF (unionF f g).1 (unionR b d f g).1 = true ∧ (unionF f g).2 = (unionR b d f g).2 := by
  unfold unionF unionR
  rw [mrg_eq, mrg_eq]
  split
  · split
    · simp [sameF]
    · exact sameLim _ _ _ _ _ _
  · simp [sameF]

theorem keys_same (f : Ft) : keysF f = keysR f := by
  unfold keysF keysR
  rw [mrg_eq]

theorem meetB_iff {a b : List ByteArray} : meetB a b = true ↔ ∃ x ∈ a, x ∈ b := by simp [meetB, hasB_iff]
theorem withinB_iff {a b : List ByteArray} : withinB a b = true ↔ ∀ x ∈ a, x ∈ b := by simp [withinB, hasB_iff]
theorem meetB_comm (a b : List ByteArray) : meetB a b = meetB b a := by
  rw [Bool.eq_iff_iff, meetB_iff, meetB_iff]
  constructor <;> (rintro ⟨x, h, k⟩; exact ⟨x, k, h⟩)

theorem conflB_iff {f g : Ft} : conflB f g = true ↔ validF f = false ∨ validF g = false ∨ f.all = true ∨ g.all = true ∨ (∃ x ∈ f.w, x ∈ g.w) ∨ (∃ x ∈ f.w, x ∈ g.r) ∨ (∃ x ∈ f.r, x ∈ g.w) := by
  simp only [conflB, Bool.or_eq_true, meetB_iff, Bool.not_eq_true', or_assoc]
theorem covB_iff {f g : Ft} : covB f g = true ↔ validF f = true ∧ validF g = true ∧ (f.all = true ∨ (g.all = false ∧ (∀ x ∈ g.r, x ∈ f.r) ∧ ∀ x ∈ g.w, x ∈ f.w)) := by
  simp only [covB, Bool.or_eq_true, Bool.and_eq_true, withinB_iff, Bool.not_eq_true', and_assoc]

theorem conflB_comm (f g : Ft) : conflB f g = conflB g f := by
  rw [Bool.eq_iff_iff, conflB_iff, conflB_iff]
  have sw : ∀ a b : List ByteArray, (∃ x ∈ a, x ∈ b) ↔ ∃ x ∈ b, x ∈ a := fun a b => by constructor <;> (rintro ⟨x, h, k⟩; exact ⟨x, k, h⟩)
  rw [sw g.w f.w, sw g.w f.r, sw g.r f.w]
  constructor
  · rintro (h | h | h | h | h | h | h)
    · exact .inr (.inl h)
    · exact .inl h
    · exact .inr (.inr (.inr (.inl h)))
    · exact .inr (.inr (.inl h))
    · exact .inr (.inr (.inr (.inr (.inl h))))
    · exact .inr (.inr (.inr (.inr (.inr (.inr h)))))
    · exact .inr (.inr (.inr (.inr (.inr (.inl h)))))
  · rintro (h | h | h | h | h | h | h)
    · exact .inr (.inl h)
    · exact .inl h
    · exact .inr (.inr (.inr (.inl h)))
    · exact .inr (.inr (.inl h))
    · exact .inr (.inr (.inr (.inr (.inl h))))
    · exact .inr (.inr (.inr (.inr (.inr (.inr h)))))
    · exact .inr (.inr (.inr (.inr (.inr (.inl h)))))

theorem cov_confl {a b c : Ft} (h : covB a b = true) (k : conflB b c = true) : conflB a c = true := by
  rw [covB_iff] at h
  rw [conflB_iff] at k ⊢
  obtain ⟨va, vb, h⟩ := h
  rcases h with h | ⟨h1, h2, h3⟩
  · exact .inr (.inr (.inl h))
  · rcases k with k | k | k | k | ⟨x, k1, k2⟩ | ⟨x, k1, k2⟩ | ⟨x, k1, k2⟩
    · rw [vb] at k; cases k
    · exact .inr (.inl k)
    · rw [h1] at k; cases k
    · exact .inr (.inr (.inr (.inl k)))
    · exact .inr (.inr (.inr (.inr (.inl ⟨x, h3 x k1, k2⟩))))
    · exact .inr (.inr (.inr (.inr (.inr (.inl ⟨x, h3 x k1, k2⟩)))))
    · exact .inr (.inr (.inr (.inr (.inr (.inr ⟨x, h2 x k1, k2⟩)))))

theorem cov_trans {a b c : Ft} (h : covB a b = true) (k : covB b c = true) : covB a c = true := by
  rw [covB_iff] at h k ⊢
  obtain ⟨va, vb, h⟩ := h
  obtain ⟨_, vc, k⟩ := k
  refine ⟨va, vc, ?_⟩
  rcases h with h | ⟨h1, h2, h3⟩
  · exact .inl h
  · rcases k with k | ⟨k1, k2, k3⟩
    · rw [h1] at k; cases k
    · exact .inr ⟨k1, fun x hx => h2 x (k2 x hx), fun x hx => h3 x (k3 x hx)⟩

theorem strict_nodup {l : List ByteArray} (h : Strict l) : l.Nodup := List.Pairwise.imp (fun {a b} h => slt_ne h) h

theorem valid_ok {f : Ft} (h : validF f = true) (ha : f.all = false) : (∀ x ∈ f.r, vkey x = true) ∧ (∀ x ∈ f.w, vkey x = true) ∧ Strict f.r ∧ Strict f.w ∧ f.r.length ≤ 64 ∧ f.w.length ≤ 64 := by
  simp only [validF, ha, Bool.false_eq_true, if_false, Bool.and_eq_true, decide_eq_true_eq] at h
  have h1 := ascB_iff.1 h.1.1
  have h2 := ascB_iff.1 h.2.1
  exact ⟨h1.1, h2.1, h1.2, h2.2, h.1.2, h.2.2⟩
theorem valid_mk {f : Ft} (ha : f.all = false) (h1 : ∀ x ∈ f.r, vkey x = true) (h2 : ∀ x ∈ f.w, vkey x = true) (h3 : Strict f.r) (h4 : Strict f.w) (h5 : f.r.length ≤ 64) (h6 : f.w.length ≤ 64) : validF f = true := by
  simp only [validF, ha, Bool.false_eq_true, if_false, Bool.and_eq_true, decide_eq_true_eq]
  exact ⟨⟨ascB_iff.2 ⟨h1, h3⟩, h5⟩, ascB_iff.2 ⟨h2, h4⟩, h6⟩

theorem least_bad (a b c : Ft) (h : (unionF a b).2 ≠ 0) : ((unionF a b).2 = 1 ∨ (unionF a b).2 = 2) ∧ (covB c a = true → covB c b = true → c.all = true) := by
  unfold unionF at h ⊢
  cases va : validF a with
  | false =>
    refine ⟨by simp [va], fun h1 _ => ?_⟩
    rw [covB_iff, va] at h1; exact absurd h1.2.1 (by simp)
  | true =>
    cases vb : validF b with
    | false =>
      refine ⟨by simp [va, vb], fun _ h1 => ?_⟩
      rw [covB_iff, vb] at h1; exact absurd h1.2.1 (by simp)
    | true =>
      cases ha : a.all with
      | true => simp [va, vb, ha] at h
      | false =>
        cases hb : b.all with
        | true => simp [va, vb, ha, hb] at h
        | false =>
          simp only [va, vb, ha, hb, Bool.and_true, if_true, Bool.or_false, Bool.false_eq_true, if_false] at h ⊢
          unfold lim at h ⊢
          split
          · rename_i hl
            refine ⟨.inr rfl, fun h1 h2 => ?_⟩
            rw [covB_iff] at h1 h2
            obtain ⟨vc, _, h1⟩ := h1
            obtain ⟨_, _, h2⟩ := h2
            cases hc : c.all with
            | true => rfl
            | false =>
              exfalso
              rcases h1 with h1 | ⟨_, h3, h4⟩
              · rw [hc] at h1; cases h1
              rcases h2 with h2 | ⟨_, h5, h6⟩
              · rw [hc] at h2; cases h2
              obtain ⟨_, _, _, _, c1, c2⟩ := valid_ok vc hc
              have e1 := (strict_nodup (strict_mrg (a.r ++ b.r))).length_le_of_subset (l₂ := c.r) (fun x hx => by
                rcases List.mem_append.1 (mem_mrg.1 hx) with h | h
                · exact h3 x h
                · exact h5 x h)
              have e2 := (strict_nodup (strict_mrg (a.w ++ b.w))).length_le_of_subset (l₂ := c.w) (fun x hx => by
                rcases List.mem_append.1 (mem_mrg.1 hx) with h | h
                · exact h4 x h
                · exact h6 x h)
              omega
          · rename_i hl
            rw [if_neg hl] at h
            exact absurd rfl h

theorem least_ok (a b c : Ft) (h : (unionF a b).2 = 0) : validF (unionF a b).1 = true ∧ covB (unionF a b).1 a = true ∧ covB (unionF a b).1 b = true ∧ (covB c a = true → covB c b = true → covB c (unionF a b).1 = true) := by
  cases va : validF a with
  | false => simp [unionF, va] at h
  | true =>
    cases vb : validF b with
    | false => simp [unionF, va, vb] at h
    | true =>
      by_cases hab : (a.all || b.all) = true
      · have e : unionF a b = (⟨true, true, [], true, []⟩, 0) := by simp only [unionF, va, vb, hab, Bool.and_true, if_true]
        rw [e]
        have vt : validF ⟨true, true, [], true, []⟩ = true := rfl
        refine ⟨vt, covB_iff.2 ⟨vt, va, .inl rfl⟩, covB_iff.2 ⟨vt, vb, .inl rfl⟩, fun h1 h2 => ?_⟩
        rw [covB_iff] at h1 h2 ⊢
        refine ⟨h1.1, vt, .inl ?_⟩
        rcases h1.2.2 with h3 | ⟨h3, _⟩
        · exact h3
        · rcases h2.2.2 with h4 | ⟨h4, _⟩
          · exact h4
          · rw [h3, h4] at hab; cases hab
      · have hab : (a.all || b.all) = false := by simpa using hab
        have ha : a.all = false := by cases h1 : a.all <;> simp_all
        have hb : b.all = false := by cases h1 : b.all <;> simp_all
        have e : unionF a b = lim false (mrg (a.r ++ b.r)) false (mrg (a.w ++ b.w)) := by simp only [unionF, va, vb, hab, Bool.and_true, if_true, Bool.false_eq_true, if_false]
        rw [e] at h ⊢
        unfold lim at h ⊢
        split
        · rename_i hl; rw [if_pos hl] at h; cases h
        · rename_i hl
          simp only
          obtain ⟨a1, a2, a3, a4, a5, a6⟩ := valid_ok va ha
          obtain ⟨b1, b2, b3, b4, b5, b6⟩ := valid_ok vb hb
          have vu : validF ⟨false, false, mrg (a.r ++ b.r), false, mrg (a.w ++ b.w)⟩ = true := valid_mk rfl
            (fun x hx => by rcases List.mem_append.1 (mem_mrg.1 hx) with h | h; exact a1 x h; exact b1 x h)
            (fun x hx => by rcases List.mem_append.1 (mem_mrg.1 hx) with h | h; exact a2 x h; exact b2 x h) (strict_mrg _) (strict_mrg _) (by simp only; omega) (by simp only; omega)
          refine ⟨vu, covB_iff.2 ⟨vu, va, .inr ⟨ha, fun x hx => mem_mrg.2 (List.mem_append_left _ hx), fun x hx => mem_mrg.2 (List.mem_append_left _ hx)⟩⟩,
            covB_iff.2 ⟨vu, vb, .inr ⟨hb, fun x hx => mem_mrg.2 (List.mem_append_right _ hx), fun x hx => mem_mrg.2 (List.mem_append_right _ hx)⟩⟩, fun h1 h2 => ?_⟩
          rw [covB_iff] at h1 h2 ⊢
          refine ⟨h1.1, vu, ?_⟩
          rcases h1.2.2 with h3 | ⟨_, h3, h4⟩
          · exact .inl h3
          rcases h2.2.2 with h5 | ⟨_, h5, h6⟩
          · exact .inl h5
          exact .inr ⟨rfl, fun x hx => by rcases List.mem_append.1 (mem_mrg.1 hx) with h | h; exact h3 x h; exact h5 x h, fun x hx => by rcases List.mem_append.1 (mem_mrg.1 hx) with h | h; exact h4 x h; exact h6 x h⟩

/-! ### splitting a range -/

def splitOK (fr to at_ : ByteArray) : Bool := vrange fr to && vbound at_ && slt fr at_ && (decide (to = E) || slt at_ to)

theorem size0 {s : ByteArray} : s.size = 0 ↔ s = E := (empty_iff s).symm

theorem slt_E (a : ByteArray) : slt a E = false := by
  cases h : slt a E with
  | false => rfl
  | true =>
    have := slt_iff.1 h
    exact absurd this (List.not_lt_nil _)

theorem split_range {fr to at_ : ByteArray} (h : splitOK fr to at_ = true) : vrange fr at_ = true ∧ vrange at_ to = true ∧ vrange fr to = true ∧ at_ ≠ E := by
  simp only [splitOK, Bool.and_eq_true, Bool.or_eq_true, decide_eq_true_eq] at h
  obtain ⟨⟨⟨h1, h2⟩, h3⟩, h4⟩ := h
  have h1' := h1
  simp only [vrange, Bool.and_eq_true, Bool.or_eq_true, decide_eq_true_eq] at h1'
  have hne : at_ ≠ E := fun e => by rw [e, slt_E] at h3; cases h3
  refine ⟨?_, ?_, h1, hne⟩
  · simp only [vrange, Bool.and_eq_true, Bool.or_eq_true, decide_eq_true_eq]
    exact ⟨⟨h1'.1.1, h2⟩, .inr h3⟩
  · simp only [vrange, Bool.and_eq_true, Bool.or_eq_true, decide_eq_true_eq]
    exact ⟨⟨h2, h1'.1.2⟩, h4⟩

theorem split_in {fr to at_ : ByteArray} (h : splitOK fr to at_ = true) (k : ByteArray) : inR fr to k = (inR fr at_ k || inR at_ to k) ∧ (inR fr at_ k && inR at_ to k) = false := by
  obtain ⟨r1, r2, r3, hne⟩ := split_range h
  simp only [splitOK, Bool.and_eq_true, Bool.or_eq_true, decide_eq_true_eq] at h
  obtain ⟨⟨⟨h1, h2⟩, h3⟩, h4⟩ := h
  simp only [inR, r1, r2, r3, Bool.true_and, hne, decide_false, Bool.false_or]
  cases k1 : slt k at_ with
  | true =>
    have k3 : (decide (to = E) || slt k to) = true := by
      rcases h4 with h4 | h4
      · simp [h4]
      · simp [slt_trans k1 h4]
    rw [k3]
    cases slt k fr <;> simp
  | false =>
    have k2 : slt k fr = false := by
      cases k2 : slt k fr with
      | false => rfl
      | true => have := slt_trans k2 h3; rw [k1] at this; cases this
    rw [k2]
    cases slt k to <;> cases decide (to = E) <;> simp

theorem filter_split (p q r : ByteArray → Bool) (h : ∀ x, r x = (p x || q x) ∧ (p x && q x) = false) : ∀ l : List ByteArray, (l.filter p).length + (l.filter q).length = (l.filter r).length
  | [] => rfl
  | x :: l => by
    have ih := filter_split p q r h l
    obtain ⟨h1, h2⟩ := h x
    cases hp : p x <;> cases hq : q x <;> simp_all <;> omega

theorem strict_filter {l : List ByteArray} (h : Strict l) (p : ByteArray → Bool) : Strict (l.filter p) := List.Pairwise.sublist (List.filter_sublist) h

theorem splits {f : Ft} {fr to at_ : ByteArray} (hv : validF f = true) (h : splitOK fr to at_ = true) :
    (unionF (projR f fr at_) (projR f at_ to)).2 = 0 ∧ sameF (unionF (projR f fr at_) (projR f at_ to)).1 (projR f fr to) = true ∧ covB f (unionF (projR f fr at_) (projR f at_ to)).1 = true ∧
    (f.all = true ∨ (projR f fr at_).r.length + (projR f at_ to).r.length = (unionF (projR f fr at_) (projR f at_ to)).1.r.length) := by
  cases ha : f.all with
  | true =>
    have e : ∀ x y, projR f x y = ⟨true, true, [], true, []⟩ := fun x y => by simp [projR, ha, hv]
    simp only [e]
    have vt : validF ⟨true, true, [], true, []⟩ = true := rfl
    have u : unionF ⟨true, true, [], true, []⟩ ⟨true, true, [], true, []⟩ = (⟨true, true, [], true, []⟩, 0) := rfl
    rw [u]
    exact ⟨rfl, rfl, covB_iff.2 ⟨hv, vt, .inl ha⟩, .inl trivial⟩
  | false =>
    obtain ⟨a1, a2, a3, a4, a5, a6⟩ := valid_ok hv ha
    have e : ∀ x y, projR f x y = ⟨false, false, f.r.filter (inR x y), false, f.w.filter (inR x y)⟩ := fun x y => by simp [projR, ha, hv]
    simp only [e]
    have le : ∀ (l : List ByteArray) p, (l.filter p).length ≤ l.length := fun l p => List.length_filter_le _ _
    have vp : ∀ x y, validF ⟨false, false, f.r.filter (inR x y), false, f.w.filter (inR x y)⟩ = true := fun x y => valid_mk rfl
      (fun z hz => a1 z ((List.mem_filter.1 hz).1)) (fun z hz => a2 z ((List.mem_filter.1 hz).1)) (strict_filter a3 _) (strict_filter a4 _) (Nat.le_trans (le _ _) a5) (Nat.le_trans (le _ _) a6)
    have key : ∀ l, Strict l → mrg (l.filter (inR fr at_) ++ l.filter (inR at_ to)) = l.filter (inR fr to) := fun l hl => by
      refine strict_unique (strict_mrg _) (strict_filter hl _) fun x => ?_
      rw [mem_mrg, List.mem_append, List.mem_filter, List.mem_filter, List.mem_filter, (split_in h x).1, Bool.or_eq_true]
      constructor
      · rintro (⟨h1, h2⟩ | ⟨h1, h2⟩)
        · exact ⟨h1, .inl h2⟩
        · exact ⟨h1, .inr h2⟩
      · rintro ⟨h1, h2 | h2⟩
        · exact .inl ⟨h1, h2⟩
        · exact .inr ⟨h1, h2⟩
    have l1 := le f.r (inR fr to)
    have l2 := le f.w (inR fr to)
    have u : unionF ⟨false, false, f.r.filter (inR fr at_), false, f.w.filter (inR fr at_)⟩ ⟨false, false, f.r.filter (inR at_ to), false, f.w.filter (inR at_ to)⟩ = (⟨false, false, f.r.filter (inR fr to), false, f.w.filter (inR fr to)⟩, 0) := by
      simp only [unionF, vp, Bool.and_true, if_true, Bool.or_false, Bool.false_eq_true, if_false, key f.r a3, key f.w a4]
      rw [lim, if_neg (by omega)]
    rw [u]
    refine ⟨rfl, by simp [sameF], covB_iff.2 ⟨hv, vp _ _, .inr ⟨rfl, fun x hx => (List.mem_filter.1 hx).1, fun x hx => (List.mem_filter.1 hx).1⟩⟩, .inr ?_⟩
    exact filter_split _ _ _ (fun x => split_in h x) f.r

end Go.Dv.Try
