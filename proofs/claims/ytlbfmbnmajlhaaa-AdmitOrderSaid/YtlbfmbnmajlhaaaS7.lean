/-
  Specifications of chapter 38, part 7: what the selection comes to (plain laws).
-/
import Derived.Test.YtlbfmbnmajlhaaaS4
set_option linter.unusedVariables false
set_option linter.unusedSimpArgs false
set_option maxRecDepth 100000
set_option maxHeartbeats 1000000
namespace Go.Dv.Try
open Go Go.Dv

section
variable {q : Qt} {hot : List ByteArray} {qu : List Rq} {fs : List Ft} {p : Int}

/-! ### prefixes -/

theorem cntC_take {n : Nat} {l : List Nat} {c : Int} (h : ∀ j ∈ l, j < n) : cntC (qu.take n) l c = cntC qu l c := by
  unfold cntC
  refine List.countP_congr fun j hj => ?_
  have := h j hj
  simp [List.getD_eq_getElem?_getD, List.getElem?_take, this]

theorem getD_take {α : Type} {n : Nat} {l : List α} {i : Nat} {x : α} (h : i < n) : (l.take n).getD i x = l.getD i x := by
  simp [List.getD_eq_getElem?_getD, List.getElem?_take, h]

theorem sel_take {n : Nat} : ∀ {i : Nat}, i ≤ n → i ≤ fs.length → selN q hot (qu.take n) (fs.take n) p i = selN q hot qu fs p i
  | 0, _, _ => rfl
  | i + 1, h, hf => by
    have iv : Inv fs i (selN q hot qu fs p i) := inv_sel (by omega)
    have hlt : ∀ l : List Nat, (∀ j ∈ l, j < i) → ∀ j ∈ l, j < n := fun l hl j hj => by have := hl j hj; omega
    simp only [selN]
    rw [sel_take (by omega) (by omega)]
    unfold stepS
    rw [getD_take (by omega), getD_take (by omega), cntC_take (hlt _ iv.x.1), cntC_take (hlt _ iv.d.1), cntC_take (hlt _ iv.a.1)]

def bel (n : Nat) (l : List Nat) : List Nat := l.filter fun j => decide (j < n)

theorem bel_all {n : Nat} {l : List Nat} (h : ∀ j ∈ l, j < n) : bel n l = l := List.filter_eq_self.2 fun j hj => by simpa using h j hj
theorem bel_app {n i : Nat} {l : List Nat} (h : n ≤ i) : bel n (l ++ [i]) = bel n l := by
  simp only [bel, List.filter_append]
  rw [List.filter_cons_of_neg (by simp; omega)]
  simp

theorem step_bel {n i : Nat} {s : Sl} (h : n ≤ i) : bel n (stepS q hot qu fs p s i).a = bel n s.a ∧ bel n (stepS q hot qu fs p s i).d = bel n s.d ∧ bel n (stepS q hot qu fs p s i).x = bel n s.x := by
  unfold stepS
  (repeat' split) <;> simp [bel_app h]

theorem sel_bel {n : Nat} (hn : n ≤ fs.length) : ∀ (m : Nat), bel n (selN q hot qu fs p (n + m)).a = (selN q hot qu fs p n).a ∧ bel n (selN q hot qu fs p (n + m)).d = (selN q hot qu fs p n).d ∧ bel n (selN q hot qu fs p (n + m)).x = (selN q hot qu fs p n).x
  | 0 => by
    have iv : Inv fs n (selN q hot qu fs p n) := inv_sel hn
    exact ⟨bel_all iv.a.1, bel_all iv.d.1, bel_all iv.x.1⟩
  | m + 1 => by
    obtain ⟨h1, h2, h3⟩ := sel_bel hn m
    have : n + (m + 1) = (n + m) + 1 := by omega
    rw [this]
    simp only [selN]
    obtain ⟨k1, k2, k3⟩ := step_bel (q := q) (hot := hot) (qu := qu) (fs := fs) (p := p) (s := selN q hot qu fs p (n + m)) (show n ≤ n + m by omega)
    exact ⟨k1.trans h1, k2.trans h2, k3.trans h3⟩

/-! ### limits -/

structure Lim (q : Qt) (hot : List ByteArray) (qu : List Rq) (fs : List Ft) (i : Nat) (s : Sl) : Prop where
  a : s.a.length = 0 ∨ (s.a.length : Int) ≤ q.b
  d : s.d.length = 0 ∨ (s.d.length : Int) ≤ q.q
  c : ∀ c, cntC qu s.a c = 0 ∨ (cntC qu s.a c : Int) ≤ q.c
  k : ∀ k ∈ hot, usersN s.u k = 0 ∨ (usersN s.u k : Int) ≤ q.k
  u : s.u = s.a.map fun j => fs.getD j F0

theorem users_app (l : List Ft) (f : Ft) (k : ByteArray) : usersN (l ++ [f]) k = usersN l k + if hasB (keysF f) k then 1 else 0 := by
  simp [usersN, List.countP_append, List.countP_cons]

theorem lim_step {i : Nat} {s : Sl} (h : Lim q hot qu fs i s) (hd : s.d.length ≤ i) (hp : p ≤ q.q) : Lim q hot qu fs (i + 1) (stepS q hot qu fs p s i) := by
  unfold stepS
  split
  · exact ⟨h.a, h.d, h.c, h.k, h.u⟩
  · split
    · rename_i h1 h2
      refine ⟨.inr (by simp; omega), h.d, fun c => ?_, fun k hk => ?_, by simp [h.u]⟩
      · rw [cntC_app]
        split
        · rename_i e; subst e; right; omega
        · exact h.c c
      · rw [users_app]
        have hb := h2.2.2.2
        unfold blkB at hb
        rw [List.any_eq_false] at hb
        have hb := hb k hk
        unfold heldAt at hb
        simp only [Bool.and_eq_true, decide_eq_true_eq, not_and] at hb
        split
        · rename_i e; have := hb e; right; omega
        · exact h.k k hk
    · split
      · exact ⟨h.a, h.d, h.c, h.k, h.u⟩
      · rename_i h1 h2 h3
        exact ⟨h.a, .inr (by simp; omega), h.c, h.k, h.u⟩

theorem lim_sel (hp : p ≤ q.q) : ∀ {i : Nat}, i ≤ fs.length → Lim q hot qu fs i (selN q hot qu fs p i)
  | 0, _ => ⟨.inl rfl, .inl rfl, fun _ => .inl rfl, fun _ _ => .inl rfl, rfl⟩
  | i + 1, h => lim_step (lim_sel hp (by omega)) (inv_sel (q := q) (hot := hot) (qu := qu) (fs := fs) (p := p) (i := i) (by omega)).d.2 hp

/-! ### order -/

def asc (l : List Nat) : Prop := l.Pairwise fun a b => a < b

/-- Where an index is. -/
structure Ord (q : Qt) (qu : List Rq) (p : Int) (n : Nat) (s : Sl) : Prop where
  a : asc s.a
  d : asc s.d
  x : asc s.x
  one : ∀ j, j < n → (j ∈ s.a ∧ j ∉ s.d ∧ j ∉ s.x) ∨ (j ∉ s.a ∧ j ∈ s.d ∧ j ∉ s.x) ∨ (j ∉ s.a ∧ j ∉ s.d ∧ j ∈ s.x)
  len : s.a.length + s.d.length + s.x.length = n
  fresh : ∀ j ∈ s.x, p ≤ (j : Int)
  zero : 0 < n → 0 ∈ s.a
  dn : ∀ j k, j ∈ s.d → k ∈ s.a → (qu.getD j R0).c = (qu.getD k R0).c → k < j
  xn : ∀ j k, j ∈ s.x → (k ∈ s.a ∨ k ∈ s.d) → (qu.getD j R0).c = (qu.getD k R0).c → k < j

theorem asc_app {l : List Nat} {i : Nat} (h : asc l) (hl : ∀ j ∈ l, j < i) : asc (l ++ [i]) := by
  unfold asc at *
  rw [List.pairwise_append]
  exact ⟨h, by simp, fun a ha b hb => by simp at hb; subst hb; exact hl a ha⟩

theorem cnt_pos {l : List Nat} {j : Nat} (h : j ∈ l) : 0 < cntC qu l (qu.getD j R0).c := by
  unfold cntC
  rw [List.countP_pos_iff]
  exact ⟨j, h, by simp⟩

theorem zero_can {i : Nat} {s : Sl} (iv : Inv fs i s) (hq : vq q = true) (h0 : i = 0) (c : Int) (f : Ft) : cntC qu s.x c = 0 ∧ cntC qu s.d c = 0 ∧ (s.a.length : Int) < q.b ∧ (cntC qu s.a c : Int) < q.c ∧ blkB q hot s.u f = false := by
  subst h0
  obtain ⟨a, d, x, u⟩ := s
  have h1 : a = [] := List.length_eq_zero_iff.1 (by have := iv.a.2; simpa using this)
  have h2 : d = [] := List.length_eq_zero_iff.1 (by have := iv.d.2; simpa using this)
  have h3 : x = [] := List.length_eq_zero_iff.1 (by have := iv.x.2; simpa using this)
  have h4 : u = [] := List.length_eq_zero_iff.1 (by have := iv.u.2; simpa using this)
  subst h1; subst h2; subst h3; subst h4
  simp only [vq, inB, Bool.and_eq_true, decide_eq_true_eq] at hq
  refine ⟨rfl, rfl, by simp; omega, by simp [cntC]; omega, ?_⟩
  unfold blkB
  rw [List.any_eq_false]
  intro k _
  have : ¬ q.k ≤ (usersN [] k : Int) := by simp [usersN]; omega
  simp [heldAt, this]

theorem ord_step {i : Nat} {s : Sl} (iv : Inv fs i s) (h : Ord q qu p i s) (hq : vq q = true) (hf : i < fs.length) : Ord q qu p (i + 1) (stepS q hot qu fs p s i) := by
  have na : i ∉ s.a := fun hh => by have := iv.a.1 i hh; omega
  have nd : i ∉ s.d := fun hh => by have := iv.d.1 i hh; omega
  have nx : i ∉ s.x := fun hh => by have := iv.x.1 i hh; omega
  have ha := iv.a.1
  have hd := iv.d.1
  have hx := iv.x.1
  have hfr : ∀ j ∈ s.x, (qu.getD j R0).c = (qu.getD i R0).c → 0 < cntC qu s.x (qu.getD i R0).c := fun j hj e => by rw [← e]; exact cnt_pos hj
  have hdr : ∀ j ∈ s.d, (qu.getD j R0).c = (qu.getD i R0).c → 0 < cntC qu s.d (qu.getD i R0).c := fun j hj e => by rw [← e]; exact cnt_pos hj
  have hfi : ∀ j ∈ s.x, p ≤ (i : Int) := fun j hj => by have := h.fresh j hj; have := hx j hj; omega
  have z := fun h0 => zero_can (hot := hot) (qu := qu) iv hq h0 (qu.getD i R0).c (fs.getD i F0)
  have hlen := h.len
  have one : ∀ j, j < i + 1 → j = i ∨ j < i := fun j hj => by omega
  unfold stepS
  split
  · rename_i h1
    refine ⟨h.a, h.d, asc_app h.x hx, fun j hj => ?_, by simp; omega, fun j hj => ?_, fun h0 => ?_, h.dn, fun j k hj hk e => ?_⟩
    · rcases one j hj with rfl | hj
      · right; right; exact ⟨na, nd, by simp⟩
      · have := h.one j hj; have : j ≠ i := by omega
        simp only [List.mem_append, List.mem_singleton]; grind
    · simp only [List.mem_append, List.mem_singleton] at hj
      rcases hj with hj | rfl
      · exact h.fresh j hj
      · exact h1.1
    · by_cases e : i = 0
      · have := (z e).1; omega
      · exact h.zero (by omega)
    · simp only [List.mem_append, List.mem_singleton] at hj
      rcases hj with hj | rfl
      · exact h.xn j k hj hk e
      · rcases hk with hk | hk
        · exact ha k hk
        · exact hd k hk
  · rename_i h1
    split
    · rename_i h2
      refine ⟨asc_app h.a ha, h.d, h.x, fun j hj => ?_, by simp; omega, h.fresh, fun h0 => ?_, fun j k hj hk e => ?_, fun j k hj hk e => ?_⟩
      · rcases one j hj with rfl | hj
        · left; exact ⟨by simp, nd, nx⟩
        · have := h.one j hj; have : j ≠ i := by omega
          simp only [List.mem_append, List.mem_singleton]; grind
      · simp only [List.mem_append, List.mem_singleton]
        by_cases e : i = 0
        · right; exact e.symm
        · left; exact h.zero (by omega)
      · simp only [List.mem_append, List.mem_singleton] at hk
        rcases hk with hk | rfl
        · exact h.dn j k hj hk e
        · have := hdr j hj e; omega
      · simp only [List.mem_append, List.mem_singleton] at hk
        rcases hk with (hk | rfl) | hk
        · exact h.xn j k hj (.inl hk) e
        · have := hfr j hj e; have := hfi j hj; omega
        · exact h.xn j k hj (.inr hk) e
    · rename_i h2
      have h0' : i ≠ 0 := fun e => h2 ⟨(z e).2.1, (z e).2.2.1, (z e).2.2.2.1, (z e).2.2.2.2⟩
      split
      · rename_i h3
        refine ⟨h.a, h.d, asc_app h.x hx, fun j hj => ?_, by simp; omega, fun j hj => ?_, fun h0 => h.zero (by omega), h.dn, fun j k hj hk e => ?_⟩
        · rcases one j hj with rfl | hj
          · right; right; exact ⟨na, nd, by simp⟩
          · have := h.one j hj; have : j ≠ i := by omega
            simp only [List.mem_append, List.mem_singleton]; grind
        · simp only [List.mem_append, List.mem_singleton] at hj
          rcases hj with hj | rfl
          · exact h.fresh j hj
          · exact h3.1
        · simp only [List.mem_append, List.mem_singleton] at hj
          rcases hj with hj | rfl
          · exact h.xn j k hj hk e
          · rcases hk with hk | hk
            · exact ha k hk
            · exact hd k hk
      · rename_i h3
        refine ⟨h.a, asc_app h.d hd, h.x, fun j hj => ?_, by simp; omega, h.fresh, fun h0 => h.zero (by omega), fun j k hj hk e => ?_, fun j k hj hk e => ?_⟩
        · rcases one j hj with rfl | hj
          · right; left; exact ⟨na, by simp, nx⟩
          · have := h.one j hj; have : j ≠ i := by omega
            simp only [List.mem_append, List.mem_singleton]; grind
        · simp only [List.mem_append, List.mem_singleton] at hj
          rcases hj with hj | rfl
          · exact h.dn j k hj hk e
          · exact ha k hk
        · simp only [List.mem_append, List.mem_singleton] at hk
          rcases hk with hk | hk | rfl
          · exact h.xn j k hj (.inl hk) e
          · exact h.xn j k hj (.inr hk) e
          · have := hfr j hj e; have := hfi j hj; omega

theorem ord_sel (hq : vq q = true) : ∀ {i : Nat}, i ≤ fs.length → Ord q qu p i (selN q hot qu fs p i)
  | 0, _ => ⟨by simp [asc, selN], by simp [asc, selN], by simp [asc, selN], fun _ h => by omega, rfl, by simp [selN], fun h => by omega, by simp [selN], by simp [selN]⟩
  | i + 1, h => ord_step (inv_sel (by omega)) (ord_sel hq (by omega)) hq (by omega)

end
end Go.Dv.Try
