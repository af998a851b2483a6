/-
  A frame's value taken as a pure value ('pur') stands for the same value, once what it looks into is frozen.
-/
import Derived.Test.YtphkbgjnhfidlaaGreatWorld
set_option linter.unusedVariables false
set_option linter.unusedSimpArgs false
namespace Go.Dv
open Go.RowKit

theorem not_own_frz {w : World} {B : Nat} {w0 : World} {U0 : Nat → Prop} {β : Place} {H : Heap} {nx : Nat} (m : Mem B w0 U0 β H nx w) {ids : List Nat} {id b c : Nat} {blk : Blk}
    (h : aget H id = some blk) (hb : β id = some (b, c)) (hi : id ∈ ids) (hB : B ≤ b) : ¬ Own U0 β (frz H ids) b := by
  rintro (hu | ⟨id', blk', c', h1, h2, h3⟩)
  · have := m.u0 b hu; omega
  · obtain ⟨b0, h4, _⟩ := (less_frz ids H).sub _ _ h1
    have e := m.h.inj _ _ _ _ _ _ _ h h4 hb h3
    subst e
    rw [frz_fz ids H id blk' hi h1] at h2
    cases h2

theorem mapO_get {α β : Type} {f : α → Option β} {l : List α} {r : List β} (h : mapO f l = some r) {j : Nat} {y : β} (hy : r[j]? = some y) : ∃ a, l[j]? = some a ∧ f a = some y := by
  obtain ⟨hl, hg⟩ := mapO_some h
  have hj : j < r.length := by
    rcases Nat.lt_or_ge j r.length with h' | h'
    · exact h'
    · simp [List.getElem?_eq_none h'] at hy
  have hj' : j < l.length := by omega
  obtain ⟨b, h1, h2⟩ := hg j l[j] (by simp [hj'])
  rw [hy] at h1; cases h1
  exact ⟨l[j], by simp [hj'], h2⟩

theorem pur_ok {B : Nat} {w0 : World} {U0 : Nat → Prop} {β : Place} {H : Heap} {nx : Nat} {w : World} (m : Mem B w0 U0 β H nx w) (ids : List Nat) :
    ∀ (n : Nat) (v : DV) (p : PV) (x : Value), pur H n v = some p → (∀ i ∈ tch H n v, i ∈ ids) → DRep w (Own U0 β H) β H nx v x → PRep w (Own U0 β (frz H ids)) p x := by
  have hk := (less_frz ids H).keeps (U0 := U0) (β := β) w
  intro n
  induction n with
  | zero => intro v p x h; simp [pur] at h
  | succ n ih =>
    intro v p x h ht hd
    cases hd with
    | p v x hp => simp only [pur, Option.some.injEq] at h; subst h; exact hp.keep hk
    | agg cs vs hl h1 hr =>
      simp only [pur] at h
      cases hm : mapO (pur H n) cs with
      | none => rw [hm] at h; cases h
      | some l =>
        rw [hm] at h; simp only [Option.some.injEq] at h; subst h
        have hlen := (mapO_some hm).1
        refine .agg l vs (by omega) (fun j y hy => ?_) (fun j y hy => ?_)
        · obtain ⟨a, ha, _⟩ := mapO_get hm hy
          exact h1 j a ha
        · obtain ⟨a, ha, hf⟩ := mapO_get hm hy
          exact ih a y _ hf (fun i hi => ht i (by simp only [tch, List.mem_flatMap]; exact ⟨a, List.mem_of_getElem? ha, hi⟩)) (hr j a ha)
    | tuple cs vs hl hr =>
      simp only [pur] at h
      cases hm : mapO (pur H n) cs with
      | none => rw [hm] at h; cases h
      | some l =>
        rw [hm] at h; simp only [Option.some.injEq] at h; subst h
        have hlen := (mapO_some hm).1
        refine .tuple l vs (by omega) (fun j y hy => ?_)
        obtain ⟨a, ha, hf⟩ := mapO_get hm hy
        exact ih a y _ hf (fun i hi => ht i (by simp only [tch, List.mem_flatMap]; exact ⟨a, List.mem_of_getElem? ha, hi⟩)) (hr j a ha)
    | func f cs vs hl hr =>
      simp only [pur] at h
      cases hm : mapO (pur H n) cs with
      | none => rw [hm] at h; cases h
      | some l =>
        rw [hm] at h; simp only [Option.some.injEq] at h; subst h
        have hlen := (mapO_some hm).1
        refine .func f l vs (by omega) (fun j y hy => ?_)
        obtain ⟨a, ha, hf⟩ := mapO_get hm hy
        exact ih a y _ hf (fun i hi => ht i (by simp only [tch, List.mem_flatMap]; exact ⟨a, List.mem_of_getElem? ha, hi⟩)) (hr j a ha)
    | ref id ver off k v hid hc href =>
      simp only [pur] at h
      cases hH : aget H id with
      | none => rw [hH] at h; cases h
      | some blk =>
        cases blk with
        | var f cs => rw [hH] at h; cases h
        | map _ _ => rw [hH] at h; cases h
        | row f sz xs =>
          rw [hH] at h
          simp only at h
          split at h
          · rename_i hc2
            obtain ⟨hv, hle⟩ := hc2
            simp only [Option.some.injEq] at h; subst h
            have hlen : ((xs.drop off).take k).length = k := by simp; omega
            rcases (href _ _ _ hH).2 hv hle with ⟨rfl, _, a, rfl⟩ | ⟨b, cap, a, hb, rfl, ha⟩
            · simp at hle
              obtain ⟨rfl, rfl⟩ := hle
              exact .none false a 0 (by simp)
            · by_cases hk0 : k = 0
              · subst hk0
                simp only [List.take_zero]
                exact .none false a _ (by simp)
              · obtain rfl := ha (.inl (by omega))
                rcases m.h.blk id _ hH with ⟨hx, hn⟩ | ⟨b', cap', arr, T, h1, h2, h3, h4, h5, h6, vs, h7, h8, h9⟩
                · rw [hb] at hn; cases hn
                · rw [hb] at h1; simp only [Option.some.injEq, Prod.mk.injEq] at h1; obtain ⟨rfl, rfl⟩ := h1
                  have hget : ∀ i x, ((xs.drop off).take k)[i]? = some x → xs[off + i]? = some x := by
                    intro i x hx
                    rw [List.getElem?_take] at hx
                    split at hx
                    · rwa [List.getElem?_drop] at hx
                    · cases hx
                  have := PRep.slice (w := w) (U := Own U0 β (frz H ids)) false ((xs.drop off).take k) b (off * sz) (cap - off) sz arr T (0, 0) (fun i j => vs (off + i) j)
                    (by omega) (by omega) (by simp) h3 (not_own_frz m hH hb (ht id (by simp [tch])) h2) (fun x hx => h6 x (List.mem_of_mem_drop (List.mem_of_mem_take hx)))
                    (fun i x j y hx hy => by
                      have := h7 (off + i) x j y (hget i x hx) hy
                      rw [← this]; congr 1
                      rw [Nat.add_mul])
                    (fun i x j y hx hy => h8 _ x j y (hget i x hx) hy)
                    (fun i x j y hx hy => (h9 _ x j y (hget i x hx) hy).keep hk)
                  rw [hlen] at this
                  exact this
          · cases h
    | ptr id off v hid hc href hmap =>
      simp only [pur] at h
      cases hH : aget H id with
      | none => rw [hH] at h; cases h
      | some blk =>
        cases blk with
        | row f sz xs => rw [hH] at h; cases h
        | map _ _ => rw [hH] at h; cases h
        | var f cs =>
          rw [hH] at h
          simp only at h
          cases hm : mapO (pur H n) (cs.drop off) with
          | none => rw [hm] at h; cases h
          | some l =>
            rw [hm] at h; simp only [Option.some.injEq] at h; subst h
            obtain ⟨b, c, hb, rfl⟩ := href _ _ hH
            obtain ⟨b', c', arr, T, h1, h2, h3, h4, h5, h6⟩ := m.h.blk id _ hH
            rw [hb] at h1; simp only [Option.some.injEq, Prod.mk.injEq] at h1; obtain ⟨rfl, rfl⟩ := h1
            have key : ∀ j y, l[j]? = some y → ∃ a, cs[off + j]? = some a ∧ pur H n a = some y := by
              intro j y hy
              obtain ⟨a, ha, hf⟩ := mapO_get hm hy
              rw [List.getElem?_drop] at ha
              exact ⟨a, ha, hf⟩
            refine .vptr l b off arr T (0, 0) (fun j => arr.getD (off + j) undef) h3 (not_own_frz m hH hb (ht id (by simp [tch])) h2) (fun j y hy => ?_) (fun j y hy => ?_) (fun j y hy => ?_)
            · obtain ⟨a, ha, _⟩ := key j y hy
              have hlt : off + j < arr.size := by
                rw [h4]
                rcases Nat.lt_or_ge (off + j) cs.length with h' | h'
                · exact h'
                · simp [List.getElem?_eq_none h'] at ha
              simp [hlt]
            · obtain ⟨a, ha, _⟩ := key j y hy
              exact h5 _ a ha
            · obtain ⟨a, ha, hf⟩ := key j y hy
              refine ih a y _ hf (fun i hi => ht i ?_) (h6 _ a ha)
              simp only [tch, hH, List.mem_cons, List.mem_flatMap]
              right
              exact ⟨a, List.mem_of_getElem? (i := j) (by rw [List.getElem?_drop]; exact ha), hi⟩
    | eptr id ver i off v hid hc href =>
      simp only [pur] at h
      cases hH : aget H id with
      | none => rw [hH] at h; cases h
      | some blk =>
        cases blk with
        | var f cs => rw [hH] at h; cases h
        | map _ _ => rw [hH] at h; cases h
        | row f sz xs =>
          rw [hH] at h
          simp only at h
          split at h
          · rename_i hv
            cases hx : xs[i]? with
            | none => rw [hx] at h; cases h
            | some x =>
              rw [hx] at h; simp only [Option.some.injEq] at h; subst h
              have hi : i < xs.length := by
                rcases Nat.lt_or_ge i xs.length with h' | h'
                · exact h'
                · simp [List.getElem?_eq_none h'] at hx
              obtain ⟨b, c, hb, rfl⟩ := (href _ _ _ hH).2 hv hi
              rcases m.h.blk id _ hH with ⟨hx0, hn⟩ | ⟨b', cap', arr, T, h1, h2, h3, h4, h5, h6, vs, h7, h8, h9⟩
              · rw [hb] at hn; cases hn
              · rw [hb] at h1; simp only [Option.some.injEq, Prod.mk.injEq] at h1; obtain ⟨rfl, rfl⟩ := h1
                refine .vptr (x.drop off) b (i * sz + off) arr T (0, 0) (fun j => vs i (off + j)) h3 (not_own_frz m hH hb (ht id (by simp [tch])) h2) (fun j y hy => ?_) (fun j y hy => ?_) (fun j y hy => ?_)
                all_goals rw [List.getElem?_drop] at hy
                · have := h7 i x (off + j) y hx hy
                  rw [← Nat.add_assoc] at this; exact this
                · exact h8 i x _ y hx hy
                · exact (h9 i x _ y hx hy).keep hk
          · cases h

end Go.Dv
