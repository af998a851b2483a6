/-
  Two operations that touch different blocks change places.
-/
import Derived.Test.YtphkbgjnhfidlaaGreatRegion
import Derived.Test.YtphkbgjnhfidlaaGreatSep
set_option linter.unusedVariables false
set_option linter.unusedSimpArgs false
namespace Go.Dv
open Go.RowKit

section
variable {cf : CallF}

theorem Step.reads {x : DOper} {s : St} {v : DV} {H : Heap} {n : Nat} {q : Option Nat} (h0 : readOf s.env x.op = some q) (h : Step cf x s v H n) :
    H = s.heap ∧ n = s.next ∧ ∀ (H' : Heap) (n' : Nat), (∀ j, q = some j → aget H' j = aget s.heap j) → Step cf x { s with heap := H', next := n' } v H' n' := by
  rcases h with ⟨h1, h2, h3, h4⟩ | ⟨h1, h2⟩
  · exact ⟨h3, h4, fun H' n' _ => .inl ⟨h1, h2, rfl, rfl⟩⟩
  · cases q with
    | none =>
      obtain ⟨a, b, c⟩ := dop_blindly h0 h2
      exact ⟨a, b, fun H' n' _ => .inr ⟨h1, c H' n'⟩⟩
    | some j =>
      obtain ⟨a, b, _, c⟩ := dop_look h0 h2
      exact ⟨a, b, fun H' n' e => .inr ⟨h1, c H' n' (e j rfl)⟩⟩

theorem Step.keeps {x : DOper} {s : St} {v : DV} {H : Heap} {n j : Nat} {r : Option DV} (h0 : keepsBlk s.env j r x.op = true) (h : Step cf x s v H n) (hr : ∀ u, r = some u → u = v) : aget H j = aget s.heap j := by
  rcases h with ⟨h1, h2, h3, h4⟩ | ⟨h1, h2⟩
  · rw [h3]
  · exact dop_keep h0 h2 hr

theorem valO_congr {e e' : Env} {x : DO} (h : ∀ k ∈ x.rd, aget e' k = aget e k) : valO e' x = valO e x := by
  cases x with
  | t k => exact h k (by simp [DO.rd])
  | c v => rfl

theorem flatO_congr {e e' : Env} {x : DO} (h : ∀ k ∈ x.rd, aget e' k = aget e k) : flatO e' x = flatO e x := by
  unfold flatO; rw [valO_congr h]

theorem all_congr' {α : Type} {f g : α → Bool} : ∀ (l : List α), (∀ a ∈ l, f a = g a) → l.all f = l.all g
  | [], _ => rfl
  | a :: r, h => by simp only [List.all_cons]; rw [h a (by simp), all_congr' r fun b hb => h b (by simp [hb])]

theorem readOf_congr {e e' : Env} {d : DOp} (h : ∀ k ∈ d.rd, aget e' k = aget e k) : readOf e' d = readOf e d := by
  cases d <;> try rfl
  case load k x => simp only [readOf]; rw [valO_congr h]
  case fieldAddr o x => simp only [readOf]; rw [valO_congr h]
  case indexAddr z x i => simp only [readOf]; rw [valO_congr fun k hk => h k (by simp only [DOp.rd, List.mem_append]; exact .inl hk)]
  case buildSlice z l ps =>
    simp only [readOf]
    rw [all_congr' ps fun p hp => flatO_congr fun k hk => h k (by simp only [DOp.rd, List.mem_flatMap]; exact ⟨p, hp, hk⟩)]
  case call b f args =>
    cases b with
    | true => rfl
    | false =>
      simp only [readOf]
      rw [all_congr' args fun p hp => flatO_congr fun k hk => h k (by simp only [DOp.rd, List.mem_flatMap]; exact ⟨p, hp, hk⟩)]

theorem keepsBlk_congr {e e' : Env} {j : Nat} {r : Option DV} {d : DOp} (h : ∀ k ∈ d.rd, aget e' k = aget e k) : keepsBlk e' j r d = keepsBlk e j r d := by
  cases d <;> try rfl
  case store n a x => simp only [keepsBlk]; rw [valO_congr fun k hk => h k (by simp only [DOp.rd, List.mem_append]; exact .inl hk)]

theorem rd_op {x : DOper} {k : Nat} (h : k ∈ x.op.rd) : k ∈ x.rd := by unfold DOper.rd; exact List.mem_append.2 (.inr h)

theorem dopr_swap {x y : DOper} (hap : apart x y = true) (hx0 : ∀ k ∈ x.rd, x.dst ≠ some k) (hy0 : ∀ k ∈ y.rd, y.dst ≠ some k) {s s1 s2 : St} (h1 : dopr cf x s = some s1) (h2 : dopr cf y s1 = some s2) (hs : sepOK s2.env x y = true) :
    ∃ s1', dopr cf y s = some s1' ∧ dopr cf x s1' = some s2 := by
  obtain ⟨a1, a2, a3⟩ := apart_spec hap
  obtain ⟨vx, Hx, nx, hx, rfl⟩ := dopr_iff.1 h1
  obtain ⟨vy, Hy, ny, hy, rfl⟩ := dopr_iff.1 h2
  have ec : eput (eput s.env x.dst vx) y.dst vy = eput (eput s.env y.dst vy) x.dst vx := eput_comm a3
  have ex : ∀ k ∈ x.rd, aget (eput (eput s.env x.dst vx) y.dst vy) k = aget s.env k := fun k hk => by rw [aget_eput (a2 k hk), aget_eput (hx0 k hk)]
  have ey : ∀ k ∈ y.rd, aget (eput (eput s.env x.dst vx) y.dst vy) k = aget (eput s.env x.dst vx) k := fun k hk => aget_eput (hy0 k hk)
  have ey' : ∀ k ∈ y.rd, aget (eput s.env x.dst vx) k = aget s.env k := fun k hk => aget_eput (a1 k hk)
  have rx : ∀ u, resO (eput (eput s.env x.dst vx) y.dst vy) x.dst = some u → u = vx := by
    intro u hu
    cases hd : x.dst with
    | none => rw [hd] at hu; cases hu
    | some k =>
      rw [hd] at hu
      simp only [resO] at hu
      rw [aget_eput (a3 k hd)] at hu
      simp only [eput, aget_eset, if_true] at hu
      exact (Option.some.inj hu).symm
  have ry : ∀ u, resO (eput (eput s.env x.dst vx) y.dst vy) y.dst = some u → u = vy := by
    intro u hu
    cases hd : y.dst with
    | none => rw [hd] at hu; cases hu
    | some k =>
      rw [hd] at hu
      simp only [resO, eput, aget_eset, if_true] at hu
      exact (Option.some.inj hu).symm
  unfold sepOK at hs
  rw [Bool.or_eq_true] at hs
  rcases hs with hs | hs
  · -- x reads
    rw [readOf_congr fun k hk => ex k (rd_op hk)] at hs
    cases hq : readOf s.env x.op with
    | none => rw [hq] at hs; cases hs
    | some q =>
      obtain ⟨rfl, rfl, hst⟩ := hx.reads hq
      have hy' : Step cf y s vy Hy ny := by
        refine Step.congr ?_ ?_ ?_ hy
        · exact fun k hk => (ey' k hk).symm
        · rfl
        · rfl
      have hkeep : ∀ j, q = some j → aget Hy j = aget s.heap j := by
        rintro j rfl
        rw [hq] at hs
        simp only at hs
        rw [keepsBlk_congr fun k hk => (ey k (rd_op hk)).trans (ey' k (rd_op hk))] at hs
        exact hy'.keeps hs ry
      refine ⟨_, dopr_iff.2 ⟨vy, Hy, ny, hy', rfl⟩, dopr_iff.2 ⟨vx, Hy, ny, ?_, by rw [ec]⟩⟩
      refine Step.congr ?_ ?_ ?_ (hst Hy ny hkeep)
      · exact fun k hk => aget_eput (a2 k hk)
      · rfl
      · rfl
  · -- y reads
    rw [readOf_congr fun k hk => ey k (rd_op hk)] at hs
    cases hq : readOf (eput s.env x.dst vx) y.op with
    | none => rw [hq] at hs; cases hs
    | some q =>
      obtain ⟨h3, h4, hst⟩ := hy.reads (s := { env := eput s.env x.dst vx, heap := Hx, next := nx, marks := s.marks }) hq
      simp only at h3 h4 hst
      subst h3; subst h4
      have hkeep : ∀ j, q = some j → aget s.heap j = aget Hy j := by
        rintro j rfl
        rw [hq] at hs
        simp only at hs
        rw [keepsBlk_congr fun k hk => ex k (rd_op hk)] at hs
        exact (hx.keeps hs rx).symm
      have hy' : Step cf y s vy s.heap s.next := by
        refine Step.congr ?_ ?_ ?_ (hst s.heap s.next hkeep)
        · exact fun k hk => (ey' k hk).symm
        · rfl
        · rfl
      refine ⟨_, dopr_iff.2 ⟨vy, s.heap, s.next, hy', rfl⟩, dopr_iff.2 ⟨vx, Hy, ny, ?_, by rw [ec]⟩⟩
      refine Step.congr ?_ ?_ ?_ hx
      · exact fun k hk => aget_eput (a2 k hk)
      · rfl
      · rfl

end

end Go.Dv
