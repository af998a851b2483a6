/-
  Regions: in the order of the text, or in whatever order their edges allow.
-/
import Derived.Test.YtphkbgjnhfidlaaGreatComm
import Derived.Tactics
set_option linter.unusedVariables false
set_option linter.unusedSimpArgs false
namespace Go.Dv
open Go.RowKit

theorem eset_comm (i j : Nat) (a b : DV) (h : i ≠ j) : ∀ e : Env, eset (eset e i a) j b = eset (eset e j b) i a
  | [] => by
    simp only [eset]
    have h1 : (i == j) = false := by simpa using h
    have h2 : (j == i) = false := by simpa using fun e : j = i => h e.symm
    simp only [h1, h2, Bool.false_eq_true, if_false]
    rcases Nat.lt_or_gt_of_ne h with h3 | h3
    · rw [if_neg (by omega), if_pos h3]
    · rw [if_pos h3, if_neg (by omega)]
  | (k, v) :: r => by
    have h1 : (i == j) = false := by simpa using h
    have h2 : (j == i) = false := by simpa using fun e : j = i => h e.symm
    by_cases hki : k = i
    · subst hki
      have h3 : (k == j) = false := h1
      simp only [eset, beq_self_eq_true, if_true, h3, Bool.false_eq_true, if_false]
      by_cases hjk : j < k
      · simp only [if_pos hjk, eset, h2, Bool.false_eq_true, if_false, if_neg (show ¬ k < j by omega), beq_self_eq_true, if_true]
      · simp only [if_neg hjk, eset, beq_self_eq_true, if_true]
    · have hki' : (k == i) = false := by simpa using hki
      by_cases hkj : k = j
      · subst hkj
        simp only [eset, beq_self_eq_true, if_true, hki', Bool.false_eq_true, if_false]
        by_cases hik : i < k
        · simp only [if_pos hik, eset, h1, Bool.false_eq_true, if_false, if_neg (show ¬ k < i by omega), beq_self_eq_true, if_true]
        · simp only [if_neg hik, eset, beq_self_eq_true, if_true]
      · have hkj' : (k == j) = false := by simpa using hkj
        simp only [eset, hki', hkj', Bool.false_eq_true, if_false]
        by_cases hik : i < k <;> by_cases hjk : j < k
        · simp only [if_pos hik, if_pos hjk, eset, h1, h2, Bool.false_eq_true, if_false]
          rcases Nat.lt_or_gt_of_ne h with h3 | h3
          · simp only [if_neg (show ¬ j < i by omega), if_pos h3, eset, hkj', Bool.false_eq_true, if_false, if_pos hjk]
          · simp only [if_pos h3, if_neg (show ¬ i < j by omega), eset, hki', Bool.false_eq_true, if_false, if_pos hik]
        · simp only [if_pos hik, if_neg hjk, eset, h1, hkj', hki', Bool.false_eq_true, if_false, if_neg (show ¬ j < i by omega)]
        · simp only [if_neg hik, if_pos hjk, eset, h2, hkj', hki', Bool.false_eq_true, if_false, if_neg (show ¬ i < j by omega)]
        · simp only [if_neg hik, if_neg hjk, eset, hkj', hki', Bool.false_eq_true, if_false]
          rw [eset_comm i j a b h r]

theorem frz1_comm (i j : Nat) : ∀ H : Heap, frz1 (frz1 H i) j = frz1 (frz1 H j) i
  | [] => rfl
  | (k, b) :: r => by
    by_cases hki : k = i <;> by_cases hkj : k = j
    · subst hki; subst hkj; rfl
    · subst hki
      have h : (k == j) = false := by simpa using hkj
      simp [frz1, h]
    · subst hkj
      have h : (k == i) = false := by simpa using hki
      simp [frz1, h]
    · have h : (k == i) = false := by simpa using hki
      have h' : (k == j) = false := by simpa using hkj
      simp [frz1, h, h', frz1_comm i j r]

theorem frz_frz1 (ids : List Nat) : ∀ (H : Heap) (i : Nat), frz (frz1 H i) ids = frz1 (frz H ids) i := by
  induction ids with
  | nil => intro H i; rfl
  | cons j r ih => intro H i; simp only [frz]; rw [frz1_comm, ih]

theorem frz_comm (a : List Nat) : ∀ (H : Heap) (b : List Nat), frz (frz H a) b = frz (frz H b) a := by
  induction a with
  | nil => intro H b; rfl
  | cons i r ih => intro H b; simp only [frz]; rw [ih, frz_frz1]

def Step (cf : CallF) (x : DOper) (s : St) (v : DV) (H : Heap) (n : Nat) : Prop :=
  (gd x.guard s.env = some false ∧ v = .tuple [] ∧ H = s.heap ∧ n = s.next) ∨ (gd x.guard s.env = some true ∧ dop cf x.op s = some (v, H, n))

theorem dopr_iff {cf : CallF} {x : DOper} {s s1 : St} : dopr cf x s = some s1 ↔ ∃ v H n, Step cf x s v H n ∧ s1 = { env := eput s.env x.dst v, heap := H, next := n, marks := s.marks } := by
  unfold dopr Step
  cases hg : gd x.guard s.env with
  | none => simp
  | some b =>
    cases b with
    | false =>
      simp only [Option.some.injEq]
      constructor
      · rintro rfl; exact ⟨_, _, _, .inl ⟨by simp, rfl, rfl, rfl⟩, rfl⟩
      · rintro ⟨v, H, n, ⟨_, rfl, rfl, rfl⟩ | ⟨h, _⟩, rfl⟩
        · rfl
        · simp at h
    | true =>
      simp only
      constructor
      · intro h
        cases hd : dop cf x.op s with
        | none => rw [hd] at h; cases h
        | some r => obtain ⟨v, H, n⟩ := r; rw [hd] at h; cases h; exact ⟨v, H, n, .inr ⟨by simp, rfl⟩, rfl⟩
      · rintro ⟨v, H, n, ⟨h, _⟩ | ⟨_, hd⟩, rfl⟩
        · simp at h
        · rw [hd]

theorem gd_congr {g : Option (Nat × Bool)} {e e' : Env} (h : ∀ k ∈ (match g with | some (k, _) => [k] | none => []), aget e' k = aget e k) : gd g e' = gd g e := by
  cases g with
  | none => rfl
  | some p => obtain ⟨k, b⟩ := p; simp only [gd]; rw [h k (by simp)]

theorem Step.congr {cf : CallF} {x : DOper} {s s' : St} {v : DV} {H : Heap} {n : Nat} (he : ∀ k ∈ x.rd, aget s'.env k = aget s.env k) (hh : s'.heap = s.heap) (hn : s'.next = s.next) (h : Step cf x s v H n) : Step cf x s' v H n := by
  have hg : gd x.guard s'.env = gd x.guard s.env := gd_congr fun k hk => he k (by unfold DOper.rd; exact List.mem_append.2 (.inl hk))
  have hd : dop cf x.op s' = dop cf x.op s := dop_congr (fun k hk => he k (by unfold DOper.rd; exact List.mem_append.2 (.inr hk))) hh hn
  rcases h with ⟨h1, h2, h3, h4⟩ | ⟨h1, h2⟩
  · exact .inl ⟨by rw [hg, h1], h2, by rw [hh, h3], by rw [hn, h4]⟩
  · exact .inr ⟨by rw [hg, h1], by rw [hd, h2]⟩

theorem Step.blind {cf : CallF} {x : DOper} {s : St} {v : DV} {H : Heap} {n : Nat} (h0 : x.op.cls = 0) (h : Step cf x s v H n) : H = s.heap ∧ n = s.next ∧ ∀ (H' : Heap) (n' : Nat), Step cf x { s with heap := H', next := n' } v H' n' := by
  rcases h with ⟨h1, h2, h3, h4⟩ | ⟨h1, h2⟩
  · exact ⟨h3, h4, fun H' n' => .inl ⟨h1, h2, rfl, rfl⟩⟩
  · obtain ⟨a, b, c⟩ := dop_blind h0 h2
    exact ⟨a, b, fun H' n' => .inr ⟨h1, c H' n'⟩⟩

theorem Step.light {cf : CallF} {x : DOper} {s : St} {v : DV} {H : Heap} {n : Nat} (h0 : x.op.cls = 1) (h : Step cf x s v H n) : n = s.next ∧ ∃ ids, H = frz s.heap ids ∧ Step cf x s v (frz s.heap ids) s.next ∧
    ∀ (H' : Heap), Sim s.heap H' → ∃ ids', Step cf x { s with heap := H' } v (frz H' ids') s.next ∧ frz s.heap ids' = frz s.heap ids := by
  rcases h with ⟨h1, h2, h3, h4⟩ | ⟨h1, h2⟩
  · exact ⟨h4, [], h3, .inl ⟨h1, h2, rfl, rfl⟩, fun H' _ => ⟨[], .inl ⟨h1, h2, rfl, rfl⟩, rfl⟩⟩
  · obtain ⟨ids, a, b, c⟩ := dop_light h0 h2 (show Sim s.heap s.heap from fun _ => rfl)
    refine ⟨b, ids, a, .inr ⟨h1, by rw [a, b] at h2; exact h2⟩, fun H' hs => ?_⟩
    obtain ⟨ids', a', b', c'⟩ := dop_light h0 h2 hs
    exact ⟨ids', .inr ⟨h1, c'⟩, by rw [← a', a]⟩

theorem aget_eput {e : Env} {d : Option Nat} {v : DV} {k : Nat} (h : d ≠ some k) : aget (eput e d v) k = aget e k := by
  cases d with
  | none => rfl
  | some i =>
    simp only [eput]
    rw [aget_eset, if_neg (fun e => h (by rw [e]))]

theorem eput_comm {e : Env} {d d' : Option Nat} {a b : DV} (h : ∀ k, d = some k → d' ≠ some k) : eput (eput e d a) d' b = eput (eput e d' b) d a := by
  cases d with
  | none => cases d' <;> rfl
  | some i =>
    cases d' with
    | none => rfl
    | some j => exact eset_comm i j a b (fun e => h i rfl (by rw [e])) _

theorem apart_spec {x y : DOper} (h : apart x y = true) : (∀ k ∈ y.rd, x.dst ≠ some k) ∧ (∀ k ∈ x.rd, y.dst ≠ some k) ∧ ∀ k, x.dst = some k → y.dst ≠ some k := by
  unfold apart at h
  simp only [Bool.and_eq_true] at h
  obtain ⟨h1, h2⟩ := h
  refine ⟨fun k hk e => ?_, fun k hk e => ?_, fun k e e' => ?_⟩
  · rw [e] at h1; simp at h1; exact h1.1 hk
  · rw [e] at h2; simp at h2; exact h2 hk
  · rw [e, e'] at h1; simp at h1

theorem dop_new {cf : CallF} {d : DOp} {s : St} (h1 : d.isNew = true) {v : DV} {H' : Heap} {n' : Nat} (h : dop cf d s = some (v, H', n')) : ∃ blk, aget s.heap s.next = none ∧ v = .ptr s.next 0 ∧ H' = (s.next, blk) :: s.heap ∧ n' = s.next + 1 ∧
    ∀ H, aget H s.next = none → dop cf d { s with heap := H } = some (.ptr s.next 0, (s.next, blk) :: H, s.next + 1) := by
  cases d <;> simp only [DOp.isNew, Bool.false_eq_true] at h1
  case alloc z =>
    simp only [dop] at h ⊢
    split at h
    · rename_i hn
      simp only [Option.some.injEq, Prod.mk.injEq] at h
      obtain ⟨rfl, rfl, rfl⟩ := h
      exact ⟨_, hn, rfl, rfl, rfl, fun H hH => by rw [hH]⟩
    · cases h
  case box x =>
    have evw : ∀ (H : Heap), St.ev { s with heap := H } x = s.ev x := fun H => ev_congr fun _ _ => rfl
    simp only [dop, evw] at h ⊢
    cases hv : s.ev x with
    | none => rw [hv] at h; cases h
    | some q =>
      rw [hv] at h
      simp only at h ⊢
      split at h
      · rename_i cs hcs hn
        simp only [Option.some.injEq, Prod.mk.injEq] at h
        obtain ⟨rfl, rfl, rfl⟩ := h
        exact ⟨_, hn, rfl, rfl, rfl, fun H hH => by rw [hcs, hH]⟩
      · cases h

theorem frz_cons (n : Nat) (b : Blk) : ∀ (ids : List Nat) (H : Heap), (∀ i ∈ ids, i ≠ n) → frz ((n, b) :: H) ids = (n, b) :: frz H ids
  | [], H, _ => rfl
  | i :: r, H, h => by
    have hi : (n == i) = false := by simpa using fun e => h i (by simp) e.symm
    simp only [frz, frz1, hi, Bool.false_eq_true, if_false]
    exact frz_cons n b r _ fun j hj => h j (by simp [hj])

theorem frz_none (n : Nat) (ids : List Nat) (H : Heap) (h : aget (frz H ids) n = none) : aget H n = none := (sim_frz ids H).symm.none h

theorem Step.grow {cf : CallF} {x : DOper} {s : St} {v : DV} {H : Heap} {n : Nat} (h0 : x.op.cls = 1) (h : Step cf x s v H n) : n = s.next ∧ ∃ ids, H = frz s.heap ids ∧
    ∀ (m : Nat) (b : Blk) (n' : Nat), aget s.heap m = none → Step cf x { s with heap := (m, b) :: s.heap, next := n' } v ((m, b) :: H) n' := by
  rcases h with ⟨h1, h2, h3, h4⟩ | ⟨h1, h2⟩
  · exact ⟨h4, [], h3, fun m b n' _ => .inl ⟨h1, h2, by rw [h3], rfl⟩⟩
  · obtain ⟨ids, a, b, c, _⟩ := dop_grow h0 h2 (show Sub s.heap s.heap from fun _ _ h => h) 0
    refine ⟨b, ids, a, fun m blk n' hm => .inr ⟨h1, ?_⟩⟩
    have hsub : Sub s.heap ((m, blk) :: s.heap) := by
      intro id b' hb
      simp only [aget]
      have : (m == id) = false := by
        simp only [beq_eq_false_iff_ne, ne_eq]
        intro e; rw [e, hb] at hm; cases hm
      rw [this]; exact hb
    obtain ⟨ids', a', b', c', e'⟩ := dop_grow h0 h2 hsub n'
    rw [e', frz_cons m blk ids' s.heap (fun i hi e => by obtain ⟨q, hq⟩ := c' i hi; rw [e, hm] at hq; cases hq), ← a']

theorem Step.fresh {cf : CallF} {x : DOper} {s : St} {v : DV} {H : Heap} {n : Nat} (h0 : x.op.isNew = true) (h : Step cf x s v H n) :
    (H = s.heap ∧ n = s.next ∧ ∀ H', Step cf x { s with heap := H' } v H' s.next) ∨
    ∃ blk, aget s.heap s.next = none ∧ H = (s.next, blk) :: s.heap ∧ n = s.next + 1 ∧ ∀ H', aget H' s.next = none → Step cf x { s with heap := H' } v ((s.next, blk) :: H') (s.next + 1) := by
  rcases h with ⟨h1, h2, h3, h4⟩ | ⟨h1, h2⟩
  · exact .inl ⟨h3, h4, fun H' => .inl ⟨h1, h2, rfl, rfl⟩⟩
  · obtain ⟨blk, e1, e2, e3, e4, e5⟩ := dop_new h0 h2
    exact .inr ⟨blk, e1, e3, e4, fun H' hH => .inr ⟨h1, by rw [e2]; exact e5 H' hH⟩⟩

theorem dopr_comm {cf : CallF} {x y : DOper} (hc : commOK x y = true) {s s1 s2 : St} (h1 : dopr cf x s = some s1) (h2 : dopr cf y s1 = some s2) : ∃ s1', dopr cf y s = some s1' ∧ dopr cf x s1' = some s2 := by
  unfold commOK at hc
  simp only [Bool.and_eq_true, Bool.or_eq_true, beq_iff_eq] at hc
  obtain ⟨hap, hcls⟩ := hc
  obtain ⟨a1, a2, a3⟩ := apart_spec hap
  obtain ⟨vx, Hx, nx, hx, rfl⟩ := dopr_iff.1 h1
  obtain ⟨vy, Hy, ny, hy, rfl⟩ := dopr_iff.1 h2
  have ec : eput (eput s.env x.dst vx) y.dst vy = eput (eput s.env y.dst vy) x.dst vx := eput_comm a3
  rcases hcls with ((hcls | hcls) | ⟨hc1, hc2⟩) | ⟨hc1, hc2⟩
  · obtain ⟨rfl, rfl, hb⟩ := hx.blind hcls
    have hy' : Step cf y s vy Hy ny := by
      refine Step.congr ?_ ?_ ?_ hy
      · exact fun k hk => (aget_eput (a1 k hk)).symm
      · rfl
      · rfl
    refine ⟨_, dopr_iff.2 ⟨vy, Hy, ny, hy', rfl⟩, dopr_iff.2 ⟨vx, Hy, ny, ?_, by rw [ec]⟩⟩
    refine Step.congr ?_ ?_ ?_ (hb Hy ny)
    · exact fun k hk => aget_eput (a2 k hk)
    · rfl
    · rfl
  · obtain ⟨rfl, rfl, hb⟩ := hy.blind hcls
    have hy' : Step cf y s vy s.heap s.next := by
      refine Step.congr ?_ ?_ ?_ (hb s.heap s.next)
      · exact fun k hk => (aget_eput (a1 k hk)).symm
      · rfl
      · rfl
    refine ⟨_, dopr_iff.2 ⟨vy, s.heap, s.next, hy', rfl⟩, dopr_iff.2 ⟨vx, Hy, ny, ?_, by rw [ec]⟩⟩
    refine Step.congr ?_ ?_ ?_ hx
    · exact fun k hk => aget_eput (a2 k hk)
    · rfl
    · rfl
  · obtain ⟨rfl, ix, rfl, hxs, hxl⟩ := hx.light hc1
    obtain ⟨rfl, iy, rfl, hys, hyl⟩ := hy.light hc2
    simp only at hys hyl
    obtain ⟨iy', hy1, hy2⟩ := hyl s.heap (sim_frz ix s.heap).symm
    have hy' : Step cf y s vy (frz s.heap iy') s.next := by
      refine Step.congr ?_ ?_ ?_ hy1
      · exact fun k hk => (aget_eput (a1 k hk)).symm
      · rfl
      · rfl
    obtain ⟨ix', hx1, hx2⟩ := hxl (frz s.heap iy') (sim_frz iy' s.heap)
    refine ⟨_, dopr_iff.2 ⟨vy, _, _, hy', rfl⟩, dopr_iff.2 ⟨vx, frz (frz s.heap iy') ix', s.next, ?_, ?_⟩⟩
    · refine Step.congr ?_ ?_ ?_ hx1
      · exact fun k hk => aget_eput (a2 k hk)
      · rfl
      · rfl
    · have : frz (frz s.heap ix) iy = frz (frz s.heap iy') ix' := by rw [← hy2, frz_comm ix, ← frz_comm ix', hx2, frz_comm]
      rw [ec, this]
  · obtain ⟨rfl, ix, rfl, hxg⟩ := hx.grow hc1
    rcases hy.fresh hc2 with ⟨rfl, rfl, hb⟩ | ⟨blk, e1, rfl, rfl, hb⟩
    · have hy' : Step cf y s vy s.heap s.next := by
        refine Step.congr ?_ ?_ ?_ (hb s.heap)
        · exact fun k hk => (aget_eput (a1 k hk)).symm
        · rfl
        · rfl
      refine ⟨_, dopr_iff.2 ⟨vy, s.heap, s.next, hy', rfl⟩, dopr_iff.2 ⟨vx, frz s.heap ix, s.next, ?_, by rw [ec]⟩⟩
      refine Step.congr ?_ ?_ ?_ hx
      · exact fun k hk => aget_eput (a2 k hk)
      · rfl
      · rfl
    · simp only at e1 hb ⊢
      have hfr : aget s.heap s.next = none := frz_none _ _ _ e1
      have hy' : Step cf y s vy ((s.next, blk) :: s.heap) (s.next + 1) := by
        refine Step.congr ?_ ?_ ?_ (hb s.heap hfr)
        · exact fun k hk => (aget_eput (a1 k hk)).symm
        · rfl
        · rfl
      refine ⟨_, dopr_iff.2 ⟨vy, _, _, hy', rfl⟩, dopr_iff.2 ⟨vx, (s.next, blk) :: frz s.heap ix, s.next + 1, ?_, by rw [ec]⟩⟩
      refine Step.congr ?_ ?_ ?_ (hxg s.next blk (s.next + 1) hfr)
      · exact fun k hk => aget_eput (a2 k hk)
      · rfl
      · rfl

theorem dops_front {cf : CallF} {i : DOper} {l2 : List DOper} : ∀ (l1 : List DOper) (s s' : St), (∀ j ∈ l1, commOK j i = true) → dops cf (l1 ++ i :: l2) s = some s' → dops cf (i :: (l1 ++ l2)) s = some s'
  | [], s, s', _, h => h
  | j :: r, s, s', hc, h => by
    simp only [List.cons_append, dops] at h
    cases h1 : dopr cf j s with
    | none => rw [h1] at h; cases h
    | some s1 =>
      rw [h1] at h
      have ih := dops_front r s1 s' (fun k hk => hc k (by simp [hk])) h
      simp only [dops] at ih
      cases h2 : dopr cf i s1 with
      | none => rw [h2] at ih; cases ih
      | some s2 =>
        rw [h2] at ih
        obtain ⟨s1', h3, h4⟩ := dopr_comm (hc j (by simp)) h1 h2
        simp only [dops, h3, List.cons_append, h4]
        exact ih

/-! ### regions in the model -/

section
variable {P : Program} {B : Nat} {w0 : World} {U0 : Nat → Prop} {β : Place} {w : World} {nt : Cx} {s : St} {a : Act} {cf : CallF}

theorem Gam.step (g : Gam B w0 U0 nt β s a w) {v : DV} {H' : Heap} {nx' : Nat} {x : Value} {w' : World} (hg : Good B w0 U0 s.heap s.next β w v H' nx' x w') {dst : Option Nat} (hd : ∀ k, dst = some k → k < nt.n) :
    ∃ β', Gam B w0 U0 nt β' { env := eput s.env dst v, heap := H', next := nx', marks := s.marks } (a.put dst x) w' := by
  obtain ⟨β', m, k, e, d⟩ := hg
  refine ⟨β', ⟨m, fun i y hy => ?_, ?_, ?_, g.keeps.trans k, g.evo.trans e, g.marks⟩⟩
  · cases dst with
    | none =>
      obtain ⟨z, h1, h2⟩ := g.env i y hy
      exact ⟨z, h1, h2.evo k e⟩
    | some j =>
      simp only [eput] at hy
      rw [aget_eset] at hy
      split at hy
      · rename_i h; subst h; cases hy
        have hlt : j < a.tmps.size := by rw [g.size]; exact hd j rfl
        exact ⟨x, by simp [Act.put, hlt], d⟩
      · rename_i h
        obtain ⟨z, h1, h2⟩ := g.env i y hy
        refine ⟨z, ?_, h2.evo k e⟩
        simp only [Act.put]
        rw [Array.getElem?_setIfInBounds_ne h]
        exact h1
  · cases dst <;> simp [Act.put, g.size]
  · cases dst <;> simp [Act.put, g.defers]

theorem guard_ok (g : Gam B w0 U0 nt β s a w) {ops : Array Oper} {o : Oper} {d : DOper} (h : guardOK ops o d = true) {b : Bool} (hb : gd d.guard s.env = some b) : Region.wanted o (yielded ops a.tmps) = b := by
  unfold guardOK at h
  split at h
  · rename_i h1 h2
    rw [h2] at hb
    simp only [gd, Option.some.injEq] at hb
    simp [Region.wanted, h1, ← hb]
  · rename_i j wt k wt' h1 h2
    rw [h2] at hb
    simp only [Bool.and_eq_true, beq_iff_eq] at h
    obtain ⟨rfl, hk⟩ := h
    cases hd : (ops[j]?).bind (·.dst) with
    | none => rw [hd] at hk; cases hk
    | some k' =>
      rw [hd] at hk
      simp only [beq_iff_eq] at hk
      subst hk
      simp only [gd] at hb
      simp only [Region.wanted, h1, yielded, hd, Option.bind_some]
      cases hv : aget s.env k' with
      | none => rw [hv] at hb; cases hb
      | some v =>
        rw [hv] at hb
        obtain ⟨z, hz, hr⟩ := g.env _ _ hv
        rw [hz]
        cases v with
        | p q =>
          cases q with
          | bool t =>
            simp only [Option.some.injEq] at hb
            obtain rfl := hr.bool_inv
            simp [← hb]
          | _ => cases hb
        | tuple vs =>
          cases vs with
          | nil =>
            simp only [Option.some.injEq] at hb
            cases hr with | tuple _ arr hl _ =>
            simp [← hb]
          | cons _ _ => cases hb
        | _ => cases hb
  · cases h

theorem dst_ok {o : Oper} {d : DOper} (h : dstOK nt.n o d = true) : o.dst = d.dst ∧ ∀ k, d.dst = some k → k < nt.n := by
  unfold dstOK at h
  split at h
  · rename_i h1 h2; exact ⟨by rw [h1, h2], fun k e => by rw [h2] at e; cases e⟩
  · rename_i x y h1 h2
    simp only [Bool.and_eq_true, beq_iff_eq, decide_eq_true_eq] at h
    exact ⟨by rw [h1, h2, h.1], fun k e => by rw [h2] at e; cases e; exact h.2⟩
  · cases h

theorem oper_sound (hc : CallsOK P cf) (g : Gam B w0 U0 nt β s a w) {ops : Array Oper} {o : Oper} {d : DOper} (h1 : dstOK nt.n o d = true) (h2 : guardOK ops o d = true) (h3 : matchOp P o.op d.op = true) {s' : St} (hd : dopr cf d s = some s') {K : Act → World → Prop} {Q : Exit → Act → World → Prop}
    (hK : ∀ a' w' β', Gam B w0 U0 nt β' s' a' w' → K a' w') : if Region.wanted o (yielded ops a.tmps) then o.wp P a w K Q ∨ (o.asks P a w ∧ LetsOut Q) else K (a.put o.dst undef) w := by
  obtain ⟨he, hlt⟩ := dst_ok h1
  obtain ⟨v, H, n, hst, rfl⟩ := dopr_iff.1 hd
  rcases hst with ⟨hg, rfl, rfl, rfl⟩ | ⟨hg, hop⟩
  · rw [guard_ok g h2 hg]
    simp only [Bool.false_eq_true, if_false]
    obtain ⟨β', g'⟩ := g.step (good_same g.mem DRep.undef) hlt
    rw [he]
    exact hK _ _ _ g'
  · rw [guard_ok g h2 hg]
    simp only [if_true]
    refine .inl (op_sound hc g h3 hop fun x w' hgd => ?_)
    obtain ⟨β', g'⟩ := g.step hgd hlt
    rw [he]
    exact hK _ _ _ g'

theorem list_sound (hc : CallsOK P cf) {ops : Array Oper} {Q : Exit → Act → World → Prop} : ∀ (os : List Oper) (ds : List DOper), matchOps P nt.n ops os ds = true → ∀ (s : St) (a : Act) (w : World) (β : Place) (s' : St), Gam B w0 U0 nt β s a w → dops cf ds s = some s' →
    (∀ a' w' β', Gam B w0 U0 nt β' s' a' w' → Q .normal a' w') → wpList P ops Q os a w
  | [], [], _, s, a, w, β, s', g, hd, hQ => by
    simp only [dops, Option.some.injEq] at hd; subst hd
    exact hQ _ _ _ g
  | o :: os, d :: ds, hm, s, a, w, β, s', g, hd, hQ => by
    simp only [matchOps, Bool.and_eq_true] at hm
    obtain ⟨⟨⟨h1, h2⟩, h3⟩, h4⟩ := hm
    simp only [dops] at hd
    cases hs : dopr cf d s with
    | none => rw [hs] at hd; cases hd
    | some s1 =>
      rw [hs] at hd
      simp only [wpList]
      exact oper_sound hc g h1 h2 h3 hs fun a' w' β' g' => list_sound hc os ds h4 s1 a' w' β' s' g' hd hQ
  | [], _ :: _, hm, _, _, _, _, _, _, _, _ => by simp [matchOps] at hm
  | _ :: _, [], hm, _, _, _, _, _, _, _, _ => by simp [matchOps] at hm

/-! ### in whatever order -/

theorem matchOps_get {ops : Array Oper} : ∀ (os : List Oper) (ds : List DOper), matchOps P nt.n ops os ds = true → os.length = ds.length ∧ ∀ (i : Nat) (o : Oper) (d : DOper), os[i]? = some o → ds[i]? = some d → dstOK nt.n o d = true ∧ guardOK ops o d = true ∧ matchOp P o.op d.op = true
  | [], [], _ => ⟨rfl, by simp⟩
  | o :: os, d :: ds, h => by
    simp only [matchOps, Bool.and_eq_true] at h
    obtain ⟨⟨⟨h1, h2⟩, h3⟩, h4⟩ := h
    obtain ⟨g1, g2⟩ := matchOps_get os ds h4
    refine ⟨by simp [g1], fun i o' d' ho hd => ?_⟩
    cases i with
    | zero => simp only [List.getElem?_cons_zero, Option.some.injEq] at ho hd; subst ho; subst hd; exact ⟨h1, h2, h3⟩
    | succ i => simp only [List.getElem?_cons_succ] at ho hd; exact g2 i o' d' ho hd
  | [], _ :: _, h => by simp [matchOps] at h
  | _ :: _, [], h => by simp [matchOps] at h

theorem orderOK_get {all : List DOper} : ∀ (k : Nat) (os : List Oper) (ds : List DOper), orderOK all k os ds = true → ∀ (i : Nat) (o : Oper) (d : DOper), os[i]? = some o → ds[i]? = some d →
    (∀ p ∈ direct o, p ∈ d.preds) ∧ (∀ p ∈ d.preds, p < k + i ∧ (p ∈ direct o ∨ ∃ q ∈ direct o, ∃ e, all[q]? = some e ∧ p ∈ e.preds)) ∧ ∀ j, j < k + i → j ∈ d.preds ∨ ∃ e, all[j]? = some e ∧ commOK e d = true
  | k, [], [], _, i, o, d, h, _ => by simp at h
  | k, o :: os, d :: ds, h, i, o', d', ho, hd => by
    simp only [orderOK, Bool.and_eq_true] at h
    obtain ⟨⟨⟨h1, h2⟩, h3⟩, h4⟩ := h
    cases i with
    | zero =>
      simp only [List.getElem?_cons_zero, Option.some.injEq] at ho hd; subst ho; subst hd
      refine ⟨fun p hp => ?_, fun p hp => ?_, fun j hj => ?_⟩
      · have := List.all_eq_true.1 h1 p hp; simpa using this
      · have := List.all_eq_true.1 h2 p hp
        simp only [Bool.and_eq_true, decide_eq_true_eq, Bool.or_eq_true, List.contains_iff_mem, List.any_eq_true] at this
        refine ⟨by omega, ?_⟩
        rcases this.2 with h | ⟨q, hq, he⟩
        · exact .inl h
        · right
          refine ⟨q, hq, ?_⟩
          cases ha : all[q]? with
          | none => rw [ha] at he; cases he
          | some e => rw [ha] at he; exact ⟨e, rfl, by simpa using he⟩
      · have := List.all_eq_true.1 h3 j (by simpa using hj)
        simp only [Bool.or_eq_true, List.contains_iff_mem] at this
        rcases this with h | h
        · exact .inl h
        · right
          cases ha : all[j]? with
          | none => rw [ha] at h; cases h
          | some e => rw [ha] at h; exact ⟨e, rfl, h⟩
    | succ i =>
      simp only [List.getElem?_cons_succ] at ho hd
      have := orderOK_get (k + 1) os ds h4 i o' d' ho hd
      rw [show k + (i + 1) = k + 1 + i from by omega]
      exact this
  | k, [], _ :: _, h, _, _, _, _, _ => by simp [orderOK] at h
  | k, _ :: _, [], h, _, _, _, _, _ => by simp [orderOK] at h

def todo (ds : List DOper) (R : List Nat) : List DOper := R.filterMap (ds[·]?)

theorem any_sound (hc : CallsOK P cf) {ops : Array Oper} {ds : List DOper} (hm : matchOps P nt.n ops ops.toList ds = true) (ho : orderOK ds 0 ops.toList ds = true) {Q : Exit → Act → World → Prop} {s' : St} (hQ : ∀ a' w' β', Gam B w0 U0 nt β' s' a' w' → Q .normal a' w') :
    ∀ (fuel : Nat) (listed : Array Bool) (R : List Nat) (s : St) (a : Act) (w : World) (β : Place), R.length ≤ fuel → listed.size = ops.size → R.Pairwise (· < ·) → (∀ i, i ∈ R ↔ i < ops.size ∧ listed.getD i true = false) →
      (∀ i d, listed.getD i false = true → ds[i]? = some d → ∀ p ∈ d.preds, listed.getD p false = true) → Gam B w0 U0 nt β s a w → dops cf (todo ds R) s = some s' →
      wpAny P .any ops Q fuel listed a w := by
  obtain ⟨hlen, hget⟩ := matchOps_get _ _ hm
  have hord := orderOK_get 0 _ _ ho
  simp only [Array.length_toList] at hlen
  have hready : ∀ (listed : Array Bool) (i : Nat), i ∈ Region.ready .any ops listed ↔ i < ops.size ∧ listed.getD i true = false ∧ ∃ o, ops[i]? = some o ∧ ∀ p ∈ direct o, listed.getD p false = true := by
    intro listed i
    unfold Region.ready
    simp only [List.mem_filter, List.mem_range, Bool.and_eq_true, Bool.not_eq_true']
    constructor
    · rintro ⟨h1, h2, h3⟩
      have hoi := Array.getElem?_eq_getElem h1
      rw [hoi] at h3
      simp only [Option.map_some, Option.getD_some] at h3
      refine ⟨h1, h2, ops[i], hoi, fun p hp => ?_⟩
      unfold direct at hp
      obtain ⟨e, he, rfl⟩ := List.mem_map.1 hp
      obtain ⟨he1, he2⟩ := List.mem_filter.1 he
      have := (Array.all_eq_true'.1 h3) e (by simpa using he1)
      simpa [he2] using this
    · rintro ⟨h1, h2, o, hoi, h3⟩
      refine ⟨h1, h2, ?_⟩
      rw [hoi]
      simp only [Option.map_some, Option.getD_some]
      rw [Array.all_eq_true']
      intro e he
      by_cases hb : Region.binds .any e = true
      · simp only [hb, Bool.not_true, Bool.false_or]
        exact h3 e.on (List.mem_map.2 ⟨e, List.mem_filter.2 ⟨by simpa using he, hb⟩, rfl⟩)
      · simp only [Bool.not_eq_true] at hb
        simp [hb]
  intro fuel
  induction fuel with
  | zero =>
    intro listed R s a w β hR hls hsort hmem hclo g hd
    have hR0 : R = [] := List.eq_nil_of_length_eq_zero (by omega)
    subst hR0
    simp only [todo, List.filterMap_nil, dops, Option.some.injEq] at hd
    subst hd
    refine ⟨?_, hQ _ _ _ g⟩
    cases hr : Region.ready .any ops listed with
    | nil => rfl
    | cons i r =>
      have := (hready listed i).1 (by rw [hr]; simp)
      exact absurd ((hmem i).2 ⟨this.1, this.2.1⟩) (by simp)
  | succ fuel ih =>
    intro listed R s a w β hR hls hsort hmem hclo g hd
    constructor
    · intro hr
      cases hRc : R with
      | nil =>
        subst hRc
        simp only [todo, List.filterMap_nil, dops, Option.some.injEq] at hd
        subst hd
        exact hQ _ _ _ g
      | cons i r =>
        exfalso
        subst hRc
        obtain ⟨hi, hil⟩ := (hmem i).1 (by simp)
        have hoi := Array.getElem?_eq_getElem hi
        have hdi : ds[i]? = some (ds[i]'(by omega)) := List.getElem?_eq_getElem (by omega)
        obtain ⟨k1, k2, _⟩ := hord i _ _ (by rw [Array.getElem?_toList]; exact hoi) hdi
        have : i ∈ Region.ready .any ops listed := (hready listed i).2 ⟨hi, hil, _, hoi, fun p hp => by
          have hpi := (k2 p (k1 p hp)).1
          have hnot : p ∉ i :: r := by
            intro hmm
            rcases List.mem_cons.1 hmm with h | h
            · omega
            · have := (List.pairwise_cons.1 hsort).1 p h; omega
          have hps : p < ops.size := by omega
          have hpl : ¬ listed.getD p true = false := fun h => hnot ((hmem p).2 ⟨hps, h⟩)
          have hpsz : p < listed.size := by omega
          simp [hpsz] at hpl ⊢
          exact hpl⟩
        rw [hr] at this
        simp at this
    · intro i hir
      obtain ⟨hi, hil, o, hoi, hpre⟩ := (hready listed i).1 hir
      have hdi : ds[i]? = some (ds[i]'(by omega)) := List.getElem?_eq_getElem (by omega)
      generalize hdd : ds[i]'(by omega) = d at hdi
      obtain ⟨k1, k2, k3⟩ := hord i o d (by rw [Array.getElem?_toList]; exact hoi) hdi
      obtain ⟨m1, m2, m3⟩ := hget i o d (by rw [Array.getElem?_toList]; exact hoi) hdi
      have hiR : i ∈ R := (hmem i).2 ⟨hi, hil⟩
      obtain ⟨R1, R2, rfl⟩ := List.append_of_mem hiR
      have hpl : ∀ p ∈ d.preds, listed.getD p false = true := by
        intro p hp
        rcases (k2 p hp).2 with h | ⟨q, hq, e, he, hpe⟩
        · exact hpre p h
        · exact hclo q e (hpre q hq) he p hpe
      have hs := List.pairwise_append.1 hsort
      have hs2 := List.pairwise_cons.1 hs.2.1
      have hcomm : ∀ j ∈ todo ds R1, commOK j d = true := by
        intro j hj
        obtain ⟨q, hq, hqe⟩ := List.mem_filterMap.1 hj
        have hqi : q < i := hs.2.2 q hq i (by simp)
        rcases k3 q (by omega) with h | ⟨e, he, hce⟩
        · have h1 := hpl q h
          have h2 := ((hmem q).1 (by simp [hq])).2
          have hqs : q < listed.size := by have := ((hmem q).1 (by simp [hq])).1; omega
          simp [hqs] at h1 h2
          rw [h1] at h2; cases h2
        · rw [hqe] at he; cases he; exact hce
      have etodo : todo ds (R1 ++ i :: R2) = todo ds R1 ++ d :: todo ds R2 := by
        simp only [todo, List.filterMap_append, List.filterMap_cons, hdi]
      rw [etodo] at hd
      have hfront := dops_front _ _ _ hcomm hd
      simp only [dops] at hfront
      cases hs1 : dopr cf d s with
      | none => rw [hs1] at hfront; cases hfront
      | some s1 =>
        rw [hs1] at hfront
        have hset : ∀ k, (listed.setIfInBounds i true).getD k true = if k = i then true else listed.getD k true := by
          intro k
          rw [Array.getD_eq_getD_getElem?, Array.getD_eq_getD_getElem?]
          by_cases e : k = i
          · subst e; simp [hls, hi]
          · rw [Array.getElem?_setIfInBounds_ne (fun h => e h.symm), if_neg e]
        have hsetf : ∀ k, (listed.setIfInBounds i true).getD k false = true ↔ k = i ∨ listed.getD k false = true := by
          intro k
          rw [Array.getD_eq_getD_getElem?, Array.getD_eq_getD_getElem?]
          by_cases e : k = i
          · subst e; simp [hls, hi]
          · rw [Array.getElem?_setIfInBounds_ne (fun h => e h.symm)]; simp [e]
        have hkey := oper_sound (P := P) (ops := ops) (Q := Q) hc g m1 m2 m3 hs1 (K := wpAny P .any ops Q fuel (listed.setIfInBounds i true)) fun a' w' β' g' => by
          refine ih (listed.setIfInBounds i true) (R1 ++ R2) s1 a' w' β' (by simp at hR ⊢; omega) (by simp [hls]) ?_ ?_ ?_ g' ?_
          · refine List.pairwise_append.2 ⟨hs.1, hs2.2, fun x hx y hy => hs.2.2 x hx y (by simp [hy])⟩
          · intro k
            rw [hset]
            constructor
            · intro hk
              have hk' : k ∈ R1 ++ i :: R2 := by
                rcases List.mem_append.1 hk with h | h
                · exact List.mem_append.2 (.inl h)
                · exact List.mem_append.2 (.inr (by simp [h]))
              obtain ⟨g1, g2⟩ := (hmem k).1 hk'
              have hne : k ≠ i := by
                rintro rfl
                rcases List.mem_append.1 hk with h | h
                · have := hs.2.2 k h k (by simp); omega
                · have := hs2.1 k h; omega
              rw [if_neg hne]
              exact ⟨g1, g2⟩
            · rintro ⟨g1, g2⟩
              split at g2
              · cases g2
              · rename_i hne
                have := (hmem k).2 ⟨g1, g2⟩
                rcases List.mem_append.1 this with h | h
                · exact List.mem_append.2 (.inl h)
                · rcases List.mem_cons.1 h with h | h
                  · exact absurd h hne
                  · exact List.mem_append.2 (.inr h)
          · intro k e hk he p hp
            rw [hsetf]
            rcases (hsetf k).1 hk with h | h
            · subst h
              rw [hdi] at he; cases he
              exact .inr (hpl p hp)
            · exact .inr (hclo k e h he p hp)
          · rw [show todo ds (R1 ++ R2) = todo ds R1 ++ todo ds R2 from by simp [todo, List.filterMap_append]]
            exact hfront
        unfold wpOp
        rw [hoi]
        exact hkey

theorem range_get {α : Type} : ∀ (l pre : List α), (List.range' pre.length l.length).filterMap ((pre ++ l)[·]?) = l
  | [], pre => by simp
  | x :: l, pre => by
    have h1 : (pre ++ x :: l)[pre.length]? = some x := by simp
    rw [List.length_cons, List.range'_succ, List.filterMap_cons, h1]
    have := range_get l (pre ++ [x])
    rw [List.length_append, List.length_singleton, List.append_assoc, List.singleton_append] at this
    simp only [this]

theorem todo_all (ds : List DOper) : todo ds (List.range ds.length) = ds := by
  have := range_get ds []
  rw [List.length_nil, List.nil_append] at this
  rw [todo, List.range_eq_range']
  exact this

theorem region_sound (hc : CallsOK P cf) (hmix : P.follows .mixedOrders = true) {id : Nat} {ops : Array Oper} {draw : Bool} {ds : List DOper} (hm : matchOps P nt.n ops ops.toList ds = true) (ho : (!draw || orderOK ds 0 ops.toList ds) = true) (g : Gam B w0 U0 nt β s a w) {s' : St} (hd : dops cf ds s = some s')
    {Q : Exit → Act → World → Prop} (hQ : ∀ a' w' β', Gam B w0 U0 nt β' s' a' w' → Q .normal a' w') : (Code.region id ops draw).wp P Q a w := by
  cases draw with
  | false => exact wp_region_list (list_sound hc _ _ hm s a w β s' g hd hQ)
  | true =>
    simp only [Bool.not_true, Bool.false_or] at ho
    refine wp_region_any hmix ?_
    obtain ⟨hlen, _⟩ := matchOps_get _ _ hm
    simp only [Array.length_toList] at hlen
    have g' : Gam B w0 U0 nt β s a w.drew := by
      obtain ⟨m1, k1⟩ := g.mem.call (below_drew w.heap.size w)
      refine ⟨m1, fun i d hd => ?_, g.size, g.defers, g.keeps.trans k1, g.evo, g.marks⟩
      obtain ⟨v, h1, h2⟩ := g.env i d hd
      exact ⟨v, h1, h2.evo k1 (Evo.refl _ _ _)⟩
    refine any_sound hc hm ho hQ ops.size (Array.replicate ops.size false) (List.range ops.size) s a w.drew β (by simp) (by simp) (by rw [List.pairwise_iff_getElem]; intro i j hi hj h; simpa using h) (fun i => ?_) (fun i d h _ => ?_) g' ?_
    · simp only [List.mem_range]
      constructor
      · intro h; exact ⟨h, by simp [h]⟩
      · exact fun h => h.1
    · exfalso
      by_cases hi : i < ops.size <;> simp [hi] at h
    · rw [hlen, todo_all]; exact hd

end

end Go.Dv
