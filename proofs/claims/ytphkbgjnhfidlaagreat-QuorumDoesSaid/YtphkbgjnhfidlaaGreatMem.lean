/-
  The own blocks under allocation, store, append, freezing, calls and draws.
-/
import Derived.Test.YtphkbgjnhfidlaaGreatRep
set_option linter.unusedVariables false
set_option linter.unusedSimpArgs false
namespace Go.Dv
open Go.RowKit

theorem lt_of_heap {w : World} {b : Nat} {o : Obj} (h : w.heap[b]? = some o) : b < w.heap.size := by
  rcases Nat.lt_or_ge b w.heap.size with h' | h'
  · exact h'
  · simp [Array.getElem?_eq_none h'] at h

structure Mem (B : Nat) (w0 : World) (U0 : Nat → Prop) (β : Place) (H : Heap) (nx : Nat) (w : World) : Prop where
  below : Below B w0 w
  bsize : B ≤ w.heap.size
  u0 : ∀ b, U0 b → b < B
  h : HRep w U0 β H nx B

theorem BlkRep.carry {w w' : World} {U U' : Nat → Prop} {β β' : Place} {H H' : Heap} {nx nx' B id : Nat} {blk : Blk}
    (hk : Keeps w U w' U') (he : Evo β H nx β' H' nx') (hβ : β' id = β id)
    (hw : ∀ b c o, β id = some (b, c) → w.heap[b]? = some o → w'.heap[b]? = some o)
    (h : BlkRep w U β H nx B id blk) : BlkRep w' U' β' H' nx' B id blk := by
  cases blk with
  | var f cs =>
    obtain ⟨b, c, arr, T, h1, h2, h3, h4, h5, h6⟩ := h
    exact ⟨b, c, arr, T, by rw [hβ, h1], h2, hw _ _ _ h1 h3, h4, h5, fun j d hj => (h6 j d hj).evo hk he⟩
  | row f sz xs =>
    rcases h with ⟨h1, h2⟩ | ⟨b, cap, arr, T, h1, h2, h3, h4, h5, h6, vs, h7, h8, h9⟩
    · exact .inl ⟨h1, by rw [hβ, h2]⟩
    · exact .inr ⟨b, cap, arr, T, by rw [hβ, h1], h2, hw _ _ _ h1 h3, h4, h5, h6, vs, h7, h8, fun i x j y a b => (h9 i x j y a b).keep hk⟩
  | map f kv =>
    obtain ⟨b, c, es, clock, h1, h2, h3, h4, h5⟩ := h
    refine ⟨b, c, es, clock, by rw [hβ, h1], h2, hw _ _ _ h1 h3, h4, fun j k p hj => ?_⟩
    obtain ⟨e, h6, h7, h8, h9, h10⟩ := h5 j k p hj
    exact ⟨e, h6, h7, h8, h9, h10.keep hk⟩

theorem BlkRep.there {w : World} {U : Nat → Prop} {β : Place} {H : Heap} {nx B id : Nat} {blk : Blk} (h : BlkRep w U β H nx B id blk) {b c : Nat} (hb : β id = some (b, c)) :
    B ≤ b ∧ ∃ o, w.heap[b]? = some o := by
  cases blk with
  | var f cs =>
    obtain ⟨b', c', arr, T, h1, h2, h3, _⟩ := h
    rw [hb] at h1; simp at h1; obtain ⟨rfl, rfl⟩ := h1
    exact ⟨h2, _, h3⟩
  | row f sz xs =>
    rcases h with ⟨_, h2⟩ | ⟨b', cap, arr, T, h1, h2, h3, _⟩
    · rw [hb] at h2; cases h2
    · rw [hb] at h1; simp at h1; obtain ⟨rfl, rfl⟩ := h1
      exact ⟨h2, _, h3⟩
  | map f kv =>
    obtain ⟨b', c', es, clock, h1, h2, h3, _⟩ := h
    rw [hb] at h1; simp at h1; obtain ⟨rfl, rfl⟩ := h1
    exact ⟨h2, _, h3⟩

structure Upd (β : Place) (H : Heap) (nx : Nat) (w : World) (β' : Place) (H' : Heap) (nx' : Nat) (w' : World) (id : Nat) (blk' : Blk) : Prop where
  heap : ∀ k, k ≠ id → aget H' k = aget H k
  at_ : aget H' id = some blk'
  fz : blk'.fz = false
  place : ∀ k, k ≠ id → β' k = β k
  next : nx ≤ nx'
  lt : id < nx'
  old : (aget H id = none ∧ nx ≤ id) ∨ ∃ blk, aget H id = some blk ∧ blk.fz = false ∧
    match blk, blk' with
    | .var _ _, .var _ _ => β' id = β id
    | .row _ sz xs, .row _ sz' xs' => sz = sz' ∧ xs.length ≤ xs'.length ∧ (xs.length = xs'.length → β' id = β id)
    | .map _ _, .map _ _ => β' id = β id
    | _, _ => False
  world : ∀ b o, w.heap[b]? = some o → w'.heap[b]? = some o ∨ ∃ c blk, β id = some (b, c) ∧ aget H id = some blk
  new : ∀ b c, β' id = some (b, c) → w.heap.size ≤ b ∨ ∃ c' blk, β id = some (b, c') ∧ aget H id = some blk

theorem Upd.keeps {U0 : Nat → Prop} {β β' : Place} {H H' : Heap} {nx nx' id : Nat} {w w' : World} {blk' : Blk} (u : Upd β H nx w β' H' nx' w' id blk') :
    Keeps w (Own U0 β H) w' (Own U0 β' H') := by
  have hown : ∀ b c blk, β id = some (b, c) → aget H id = some blk → Own U0 β H b := by
    intro b c blk h1 h2
    rcases u.old with ⟨h, _⟩ | ⟨blk0, h, hf, _⟩
    · rw [h] at h2; cases h2
    · exact .inr ⟨id, blk0, c, h, hf, h1⟩
  constructor
  · intro b o hu ho
    rcases u.world b o ho with h | ⟨c, blk, h1, h2⟩
    · exact h
    · exact absurd (hown _ _ _ h1 h2) hu
  · intro b o hu ho hn
    rcases hn with hn | ⟨k, blk, c, h1, h2, h3⟩
    · exact hu (.inl hn)
    · by_cases hk : k = id
      · subst hk
        rcases u.new b c h3 with h | ⟨c', blk0, h4, h5⟩
        · have := lt_of_heap ho; omega
        · exact hu (hown _ _ _ h4 h5)
      · rw [u.heap k hk] at h1; rw [u.place k hk] at h3
        exact hu (.inr ⟨k, blk, c, h1, h2, h3⟩)

theorem Upd.evo {β β' : Place} {H H' : Heap} {nx nx' id : Nat} {w w' : World} {blk' : Blk} (u : Upd β H nx w β' H' nx' w' id blk') : Evo β H nx β' H' nx' := by
  refine ⟨u.next, fun k hk fz sz xs h => ?_, fun k hk fz cs h => ?_, fun k hk fz kv h => ?_⟩
  · by_cases he : k = id
    · subst he
      rw [u.at_] at h; cases h
      rcases u.old with ⟨_, h⟩ | ⟨blk, h, hf, hm⟩
      · omega
      · cases blk with
        | var f cs => exact hm.elim
        | map f cs => exact hm.elim
        | row f sz0 xs0 => obtain ⟨rfl, h2, h3⟩ := hm; exact ⟨f, xs0, h, h2, h3⟩
    · rw [u.heap k he] at h
      exact ⟨fz, xs, h, Nat.le_refl _, fun _ => u.place k he⟩
  · by_cases he : k = id
    · subst he
      rw [u.at_] at h; cases h
      rcases u.old with ⟨_, h⟩ | ⟨blk, h, hf, hm⟩
      · omega
      · cases blk with
        | var f cs0 => exact ⟨f, cs0, h, hm⟩
        | row f sz0 xs0 => exact hm.elim
        | map f cs0 => exact hm.elim
    · rw [u.heap k he] at h
      exact ⟨fz, cs, h, u.place k he⟩
  · by_cases he : k = id
    · subst he
      rw [u.at_] at h; cases h
      rcases u.old with ⟨_, h⟩ | ⟨blk, h, hf, hm⟩
      · omega
      · cases blk with
        | var f cs0 => exact hm.elim
        | row f sz0 xs0 => exact hm.elim
        | map f kv0 => exact ⟨f, kv0, h, hm⟩
    · rw [u.heap k he] at h
      exact ⟨fz, kv, h, u.place k he⟩

theorem Upd.mem {B : Nat} {w0 : World} {U0 : Nat → Prop} {β β' : Place} {H H' : Heap} {nx nx' id : Nat} {w w' : World} {blk' : Blk} (u : Upd β H nx w β' H' nx' w' id blk')
    (m : Mem B w0 U0 β H nx w) (hb : Below B w w') (hrep : BlkRep w' (Own U0 β' H') β' H' nx' B id blk') : Mem B w0 U0 β' H' nx' w' := by
  have hk := u.keeps (U0 := U0)
  have he := u.evo
  refine ⟨m.below.trans hb, Nat.le_trans m.bsize hb.size, m.u0, ⟨fun k blk h => ?_, fun k blk h => ?_, fun k blk k' bl b c c' h h' hb hb' => ?_⟩⟩
  · by_cases hk : k = id
    · rw [hk]; exact u.lt
    · rw [u.heap k hk] at h
      exact Nat.lt_of_lt_of_le (m.h.lt _ _ h) u.next
  · by_cases hki : k = id
    · subst hki; rw [u.at_] at h; cases h; exact hrep
    · rw [u.heap k hki] at h
      refine (m.h.blk k blk h).carry hk he (u.place k hki) fun b c o h1 h2 => ?_
      rcases u.world b o h2 with h3 | ⟨c', blk0, h3, h4⟩
      · exact h3
      · exact absurd (m.h.inj _ _ _ _ _ _ _ h h4 h1 h3) hki
  · have aux : ∀ (k : Nat) (blk : Blk) (b c c' : Nat), k ≠ id → aget H k = some blk → β k = some (b, c) → β' id = some (b, c') → False := by
      intro k blk b c c' hne h h1 h2
      rcases u.new b c' h2 with h3 | ⟨c'', blk0, h3, h4⟩
      · obtain ⟨_, o, h5⟩ := (m.h.blk k blk h).there h1
        have := lt_of_heap h5; omega
      · exact hne (m.h.inj _ _ _ _ _ _ _ h h4 h1 h3)
    by_cases e : k = id
    · by_cases e' : k' = id
      · rw [e, e']
      · rw [u.heap k' e'] at h'; rw [u.place k' e'] at hb'; subst e
        exact (aux k' bl b c' c e' h' hb' hb).elim
    · rw [u.heap k e] at h; rw [u.place k e] at hb
      by_cases e' : k' = id
      · subst e'; exact (aux k blk b c c' e h hb hb').elim
      · rw [u.heap k' e'] at h'; rw [u.place k' e'] at hb'
        exact m.h.inj _ _ _ _ _ _ _ h h' hb hb'

theorem Mem.call {B : Nat} {w0 : World} {U0 : Nat → Prop} {β : Place} {H : Heap} {nx : Nat} {w w' : World} (m : Mem B w0 U0 β H nx w) (hb : Below w.heap.size w w') :
    Mem B w0 U0 β H nx w' ∧ Keeps w (Own U0 β H) w' (Own U0 β H) := by
  have hk : Keeps w (Own U0 β H) w' (Own U0 β H) := ⟨fun b o _ h => by rw [hb.block b (lt_of_heap h)]; exact h, fun b o hu _ => hu⟩
  refine ⟨⟨m.below.trans (hb.mono m.bsize), Nat.le_trans m.bsize hb.size, m.u0, ⟨m.h.lt, fun id blk h => ?_, m.h.inj⟩⟩, hk⟩
  exact (m.h.blk id blk h).carry hk (Evo.refl _ _ _) rfl fun b c o _ h => by rw [hb.block b (lt_of_heap h)]; exact h

structure Less (H H' : Heap) : Prop where
  sub : ∀ id blk', aget H' id = some blk' → ∃ blk, aget H id = some blk ∧ (blk' = blk ∨ blk' = blk.freeze)

theorem Less.own {U0 : Nat → Prop} {β : Place} {H H' : Heap} (l : Less H H') {b : Nat} (h : Own U0 β H' b) : Own U0 β H b := by
  rcases h with h | ⟨id, blk', c, h1, h2, h3⟩
  · exact .inl h
  · obtain ⟨blk, h4, h5 | h5⟩ := l.sub id blk' h1
    · subst h5; exact .inr ⟨id, _, c, h4, h2, h3⟩
    · subst h5; cases blk <;> simp [Blk.freeze, Blk.fz] at h2

theorem Less.keeps {U0 : Nat → Prop} {β : Place} {H H' : Heap} (l : Less H H') (w : World) : Keeps w (Own U0 β H) w (Own U0 β H') :=
  ⟨fun _ _ _ h => h, fun _ _ hu _ hn => hu (l.own hn)⟩

theorem Less.evo {β : Place} {H H' : Heap} (l : Less H H') {nx nx' : Nat} (hn : nx ≤ nx') : Evo β H nx β H' nx' := by
  refine ⟨hn, fun id _ fz sz xs h => ?_, fun id _ fz cs h => ?_, fun id _ fz cs h => ?_⟩
  · obtain ⟨blk, h1, h2 | h2⟩ := l.sub _ _ h
    · subst h2; exact ⟨fz, xs, h1, Nat.le_refl _, fun _ => rfl⟩
    · cases blk <;> simp [Blk.freeze] at h2
      obtain ⟨_, rfl, rfl⟩ := h2
      exact ⟨_, _, h1, Nat.le_refl _, fun _ => rfl⟩
  · obtain ⟨blk, h1, h2 | h2⟩ := l.sub _ _ h
    · subst h2; exact ⟨fz, cs, h1, rfl⟩
    · cases blk <;> simp [Blk.freeze] at h2
      obtain ⟨_, rfl⟩ := h2
      exact ⟨_, _, h1, rfl⟩
  · obtain ⟨blk, h1, h2 | h2⟩ := l.sub _ _ h
    · subst h2; exact ⟨fz, cs, h1, rfl⟩
    · cases blk <;> simp [Blk.freeze] at h2
      obtain ⟨_, rfl⟩ := h2
      exact ⟨_, _, h1, rfl⟩

theorem BlkRep.freeze {w : World} {U : Nat → Prop} {β : Place} {H : Heap} {nx B id : Nat} {blk : Blk} (h : BlkRep w U β H nx B id blk) : BlkRep w U β H nx B id blk.freeze := by
  cases blk <;> exact h

theorem Mem.less {B : Nat} {w0 : World} {U0 : Nat → Prop} {β : Place} {H H' : Heap} {nx : Nat} {w : World} (m : Mem B w0 U0 β H nx w) (l : Less H H') :
    Mem B w0 U0 β H' nx w := by
  refine ⟨m.below, m.bsize, m.u0, ⟨fun id blk h => ?_, fun id blk h => ?_, fun id blk id' blk' b c c' h h' hb hb' => ?_⟩⟩
  · obtain ⟨b0, h1, _⟩ := l.sub _ _ h; exact m.h.lt _ _ h1
  · obtain ⟨b0, h1, h2⟩ := l.sub _ _ h
    have := (m.h.blk id b0 h1).carry (l.keeps (U0 := U0) w) (l.evo (β := β) (Nat.le_refl nx)) rfl (fun _ _ _ _ h => h)
    rcases h2 with h2 | h2
    · subst h2; exact this
    · subst h2; exact this.freeze
  · obtain ⟨b0, h1, _⟩ := l.sub _ _ h
    obtain ⟨b1, h2, _⟩ := l.sub _ _ h'
    exact m.h.inj _ _ _ _ _ _ _ h1 h2 hb hb'

theorem Less.refl (H : Heap) : Less H H := ⟨fun id blk h => ⟨blk, h, .inl rfl⟩⟩

theorem Blk.freeze_freeze (b : Blk) : b.freeze.freeze = b.freeze := by cases b <;> rfl

theorem Less.trans {H H' H'' : Heap} (a : Less H H') (b : Less H' H'') : Less H H'' := by
  refine ⟨fun id blk h => ?_⟩
  obtain ⟨b1, h1, h2⟩ := b.sub _ _ h
  obtain ⟨b2, h3, h4⟩ := a.sub _ _ h1
  refine ⟨b2, h3, ?_⟩
  rcases h2 with rfl | rfl <;> rcases h4 with rfl | rfl
  · exact .inl rfl
  · exact .inr rfl
  · exact .inr rfl
  · exact .inr b2.freeze_freeze

theorem aget_frz1 (H : Heap) (i k : Nat) : aget (frz1 H i) k = if i = k then (aget H k).map Blk.freeze else aget H k := by
  induction H with
  | nil => simp [frz1, aget]
  | cons x r ih =>
    obtain ⟨j, v⟩ := x
    by_cases h : j = i
    · subst h
      simp only [frz1, beq_self_eq_true, if_true, aget_cons]
      split <;> simp
    · have hb : (j == i) = false := by simpa using h
      simp only [frz1, hb, Bool.false_eq_true, if_false, aget_cons, ih]
      by_cases hj : j = k
      · subst hj
        have : ¬ i = j := fun e => h e.symm
        simp [this]
      · simp [hj]

theorem less_frz (ids : List Nat) : ∀ H : Heap, Less H (frz H ids) := by
  induction ids with
  | nil => exact Less.refl
  | cons i r ih =>
    intro H
    simp only [frz]
    refine Less.trans ?_ (ih _)
    refine ⟨fun id blk hb => ?_⟩
    rw [aget_frz1] at hb
    split at hb
    · cases h : aget H id with
      | none => rw [h] at hb; cases hb
      | some b => rw [h] at hb; simp at hb; exact ⟨b, rfl, .inr hb.symm⟩
    · exact ⟨blk, hb, .inl rfl⟩

theorem frz_fz (ids : List Nat) : ∀ (H : Heap) (id : Nat) (blk : Blk), id ∈ ids → aget (frz H ids) id = some blk → blk.fz = true := by
  induction ids with
  | nil => intro H id blk h; simp at h
  | cons i r ih =>
    intro H id blk h hb
    simp only [frz] at hb
    by_cases hr : id ∈ r
    · exact ih _ _ _ hr hb
    · have e : id = i := by simpa [hr] using h
      subst e
      obtain ⟨b1, h1, h2⟩ := (less_frz r _).sub _ _ hb
      rw [aget_frz1, if_pos rfl] at h1
      cases hH : aget H id with
      | none => rw [hH] at h1; cases h1
      | some b0 =>
        rw [hH] at h1
        simp only [Option.map_some, Option.some.injEq] at h1
        subst h1
        rcases h2 with rfl | rfl <;> cases b0 <;> rfl

theorem less_adels (l : List Nat) (H : Heap) : Less H (adels H l) := ⟨fun id blk h => ⟨blk, aget_adels l H id blk h, .inl rfl⟩⟩

end Go.Dv
