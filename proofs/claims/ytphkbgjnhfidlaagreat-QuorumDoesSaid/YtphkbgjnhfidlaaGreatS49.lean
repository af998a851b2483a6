/-
  Specifications of the functions of this claim, parts 49, 7, 8, 9, 30, 31, 32, 33.
-/
import Derived.Test.YtphkbgjnhfidlaaGreatTab
import Derived.Test.YtphkbgjnhfidlaaGreatStep
import Derived.Test.YtphkbgjnhfidlaaGreatS1
import Derived.Test.YtphkbgjnhfidlaaGreatS7
import Derived.Test.YtphkbgjnhfidlaaGreatS8
import Derived.Test.YtphkbgjnhfidlaaGreatS12
import Derived.Test.YtphkbgjnhfidlaaGreatS16
import Derived.Test.YtphkbgjnhfidlaaGreatS18
import Derived.Test.YtphkbgjnhfidlaaGreatS24
import Derived.Test.YtphkbgjnhfidlaaGreatS29
import Derived.Test.YtphkbgjnhfidlaaGreatS30
import Derived.Test.YtphkbgjnhfidlaaGreatS37
import Derived.Test.YtphkbgjnhfidlaaGreatS42
import Derived.Test.YtphkbgjnhfidlaaGreatS46
set_option linter.unusedVariables false
set_option linter.unusedSimpArgs false
set_option maxRecDepth 100000
set_option maxHeartbeats 16000000
namespace Go.Dv.Tryz
open Go Go.Dv

theorem asksN_mem {c : M} {k : Nat} : ∀ y ∈ asksN c k, ∃ t : Nat, t < k ∧ ((t + 1 : Nat) : Int) ≠ c.id ∧ y = askX c (t + 1 : Nat) := by
  induction k with
  | zero => simp [asksN]
  | succ k ih =>
    intro y hy
    simp only [asksN] at hy
    split at hy
    · obtain ⟨t, h1, h2, h3⟩ := ih y hy
      exact ⟨t, by omega, h2, h3⟩
    · rename_i ne
      rcases List.mem_append.1 hy with h | h
      · obtain ⟨t, h1, h2, h3⟩ := ih y h
        exact ⟨t, by omega, h2, h3⟩
      · simp only [List.mem_singleton] at h
        exact ⟨k, by omega, ne, h⟩

theorem won_fields (m : M) : (wonM m).term = m.term ∧ (wonM m).vote = m.vote ∧ (wonM m).id = m.id ∧ (wonM m).members = m.members ∧ (wonM m).log = m.log := by
  unfold wonM; split <;> exact ⟨rfl, rfl, rfl, rfl, rfl⟩

theorem timeout_ok {m : M} (ho : okM m = true) : ∀ y ∈ (timeoutR m).2, okX y m.members = true ∧ y.frm = m.id ∧ y.term = (timeoutR m).1.term ∧ y.kind = 1 := by
  obtain ⟨hh, _⟩ := (okM_iff m).1 ho
  have i1 := hh.id1; have i2 := hh.id2; have i3 := hh.me1; have i4 := hh.me2; have t1 := hh.te1; have t2 := hh.te2
  have lg := ((okLog_iff _).1 hh.lg).1
  unfold timeoutR
  split
  · rename_i hc
    intro y hy
    obtain ⟨t, h1, h2, rfl⟩ := asksN_mem y hy
    have h1 : t < m.members.toNat := h1
    have h2 : ((t + 1 : Nat) : Int) ≠ m.id := h2
    obtain ⟨u1, u2⟩ := termN_ok hh.lg (n := m.log.length) (by omega) (Int.le_refl _)
    have tn := hc.2.2
    refine ⟨okX_mk i3 i4 i1 i2 (by show 1 ≤ ((t + 1 : Nat) : Int); omega) (by show ((t + 1 : Nat) : Int) ≤ m.members; omega) (by show m.id ≠ ((t + 1 : Nat) : Int); omega) (by show 1 ≤ m.term + 1; omega) (by show m.term + 1 ≤ _; omega) (by show (0 : Int) ≤ m.log.length; omega) (by show (m.log.length : Int) ≤ _; omega) u1 u2
      (by show (0 : Int) ≤ 0; omega) (by show (0 : Int) ≤ _; omega) okLog_nil (by show (1 : Int) ≤ 1; omega) (by show (1 : Int) ≤ 4; omega) rfl, rfl, (won_fields (candM m)).1.symm, rfl⟩
  · intro y hy; simp at hy

theorem okC_mk {ms : List M} {net : List X} (h1 : 1 ≤ ms.length) (h2 : ms.length ≤ 7) (h3 : net.length ≤ 256) (h4 : ∀ (i : Nat) (m : M), ms[i]? = some m → m.id = ((i + 1 : Nat) : Int) ∧ m.members = ms.length ∧ okM m = true) (h5 : ∀ x ∈ net, okX x ms.length = true) : okC ms net = true := by
  simp only [okC, Bool.and_eq_true, decide_eq_true_eq, List.all_eq_true, List.mem_range]
  refine ⟨⟨⟨⟨h1, h2⟩, h3⟩, fun i hi => ?_⟩, h5⟩
  have := h4 i ms[i] (List.getElem?_eq_getElem hi)
  simp only [okAtC, Bool.and_eq_true, decide_eq_true_eq, List.getD_eq_getElem?_getD, List.getElem?_eq_getElem hi, Option.getD_some]
  exact ⟨⟨this.1, this.2.1⟩, this.2.2⟩

theorem okC_put {ms : List M} {net net' : List X} (h : okC ms net = true) (hn : net'.length ≤ 256) (hx : ∀ x ∈ net', okX x ms.length = true) {i : Nat} {m a : M} (hi : ms[i]? = some m) (ha : okM a = true) (h1 : a.id = m.id) (h2 : a.members = m.members) : okC (ms.set i a) net' = true := by
  obtain ⟨v1, v2, v3, v4, v5⟩ := okC_facts h
  refine okC_mk (by simpa using v1) (by simpa using v2) hn (fun j b hb => ?_) (by simpa using hx)
  rw [List.getElem?_set] at hb
  rw [List.length_set]
  split at hb
  · rename_i e
    subst e
    split at hb
    · obtain rfl := Option.some.inj hb
      have := v4 i m hi
      exact ⟨by rw [h1]; exact this.1, by rw [h2]; exact this.2.1, ha⟩
    · cases hb
  · exact v4 j b hb

theorem sendR_ok {net q : List X} {n : Int} (h : ∀ x ∈ net, okX x n = true) (k : ∀ x ∈ q, okX x n = true) : (sendR net q).length ≤ 256 ∧ ∀ x ∈ sendR net q, okX x n = true := by
  refine ⟨by simp [sendR]; omega, fun x hx => ?_⟩
  rcases List.mem_append.1 (List.mem_of_mem_take hx) with e | e
  · exact h x e
  · exact k x e

theorem delX_ok {net : List X} {n : Int} {k : Nat} (h : ∀ x ∈ net, okX x n = true) : ∀ x ∈ delX net k, okX x n = true := by
  intro x hx
  rcases List.mem_append.1 hx with e | e
  · exact h x (List.mem_of_mem_take e)
  · exact h x (List.mem_of_mem_drop e)

theorem nodeR_ok {m : M} {e : Evt} (ho : okM m = true) : okM (nodeR m e).1 = true ∧ (nodeR m e).1.id = m.id ∧ (nodeR m e).1.members = m.members ∧ ∀ y ∈ (nodeR m e).2.1, okX y m.members = true := by
  unfold nodeR
  split
  · have k := keeps_timeout ho
    exact ⟨k.ok, k.id, k.mem, fun y hy => (timeout_ok ho y hy).1⟩
  · split
    · refine ⟨ho, rfl, rfl, fun y hy => ?_⟩
      have hy : y ∈ beatsOf m := hy
      unfold beatsOf at hy
      split at hy
      · rename_i hc
        exact (beats_ok ho hc.2 m.members.toNat (by have := ((okM_iff m).1 ho).1.me1; omega) y hy).1
      · simp at hy
    · split
      · split
        · rename_i h
          have g := (goes_propose h).1
          exact ⟨g.ok, g.id, g.mem, by simp⟩
        · exact ⟨ho, rfl, rfl, by simp⟩
      · have k := keeps_restart ho
        exact ⟨k.ok, k.id, k.mem, by simp⟩

theorem recv_ok {m : M} {x y : X} (hy : y ∈ (receiveR m x).2.toList) : okX y m.members = true := (receive_ok (by simpa using hy)).1

theorem okC_do {ms : List M} {net : List X} {e : Evt} (hc : (evR ms net e).2 = 0) : okC ms net = true ∧ okC (evR ms net e).1.1 (evR ms net e).1.2 = true ∧ (evR ms net e).1.1.length = ms.length := by
  unfold evR at hc ⊢
  split
  · rename_i h; rw [if_pos h] at hc; cases hc
  · rename_i h
    rw [if_neg h] at hc
    have hv : okC ms net = true := by
      cases q : okC ms net
      · exact absurd (.inl q) h
      · rfl
    obtain ⟨v1, v2, v3, v4, v5⟩ := okC_facts hv
    refine ⟨hv, ?_⟩
    split
    · rename_i h2
      rw [if_pos h2] at hc
      unfold transitR at hc ⊢
      split
      · rename_i h3; rw [if_pos h3] at hc; cases hc
      · rename_i h3
        rw [if_neg h3] at hc
        have hk : e.at_.toNat < net.length := by omega
        have hX : net.getD e.at_.toNat zeroXF ∈ net := by rw [List.getD_eq_getElem?_getD, List.getElem?_eq_getElem hk]; exact List.getElem_mem hk
        have fx := okX_facts (v5 _ hX)
        split
        · have hio : ((net.getD e.at_.toNat zeroXF).to - 1).toNat < ms.length := by omega
          have hget : ms.getD ((net.getD e.at_.toNat zeroXF).to - 1).toNat zeroM = ms[((net.getD e.at_.toNat zeroXF).to - 1).toNat] := by rw [List.getD_eq_getElem?_getD, List.getElem?_eq_getElem hio]; rfl
          have hm := v4 _ _ (List.getElem?_eq_getElem hio)
          have gg := receive_goes (x := net.getD e.at_.toNat zeroXF) hm.2.2
          rw [hget]
          have hs := sendR_ok (delX_ok (k := e.at_.toNat) v5) (q := (receiveR ms[((net.getD e.at_.toNat zeroXF).to - 1).toNat] (net.getD e.at_.toNat zeroXF)).2.toList) (fun y hy => by have := recv_ok hy; rw [hm.2.1] at this; exact this)
          exact ⟨okC_put hv hs.1 hs.2 (List.getElem?_eq_getElem hio) gg.ok gg.id gg.mem, by simp⟩
        · split
          · have hs := sendR_ok (delX_ok (k := e.at_.toNat) v5) (q := []) (by simp)
            exact ⟨okC_mk v1 v2 hs.1 v4 hs.2, rfl⟩
          · split
            · rename_i h4 h5 h6
              rw [if_neg h4, if_neg h5, if_pos h6] at hc; cases hc
            · have hs := sendR_ok (net := net ++ [net.getD e.at_.toNat zeroXF]) (q := []) (n := ms.length) (fun x hx => by
                rcases List.mem_append.1 hx with e1 | e1
                · exact v5 x e1
                · simp only [List.mem_singleton] at e1; subst e1; exact v5 _ hX) (by simp)
              exact ⟨okC_mk v1 v2 hs.1 v4 hs.2, rfl⟩
    · rename_i h2
      rw [if_neg h2] at hc
      split
      · rename_i h3; rw [if_pos h3] at hc; cases hc
      · rename_i h3
        rw [if_neg h3] at hc
        split
        · have hio : (e.node - 1).toNat < ms.length := by omega
          have hget : ms.getD (e.node - 1).toNat zeroM = ms[(e.node - 1).toNat] := by rw [List.getD_eq_getElem?_getD, List.getElem?_eq_getElem hio]; rfl
          have hm := v4 _ _ (List.getElem?_eq_getElem hio)
          obtain ⟨a1, a2, a3, a4⟩ := nodeR_ok (e := e) hm.2.2
          rw [hget]
          have hs := sendR_ok v5 (q := (nodeR ms[(e.node - 1).toNat] e).2.1) (fun y hy => by have := a4 y hy; rw [hm.2.1] at this; exact this)
          exact ⟨okC_put hv hs.1 hs.2 (List.getElem?_eq_getElem hio) a1 a2 a3, by simp⟩
        · rename_i h4; rw [if_neg h4] at hc; exact absurd hc h4

theorem fit_rows {α : Type} {sh : List Sh} {y : PV} {c : α → List PV} {P : α → Prop} (hc : ∀ u, Fits sh u → ∃ a, u = c a ∧ P a) (h : Fit (.slice sh) y) : ∃ l : List α, y = .slice false (l.map c) ∧ l.length ≤ 9223372036854775807 ∧ ∀ a ∈ l, P a := by
  cases h with
  | slice l xs h hl hr =>
    have : ∀ xs : List (List PV), (∀ x ∈ xs, Fits sh x) → ∃ l : List α, xs = l.map c ∧ ∀ a ∈ l, P a := by
      intro xs
      induction xs with
      | nil => intro _; exact ⟨[], rfl, by simp⟩
      | cons x xs ih =>
        intro hx
        obtain ⟨n, hn, hp⟩ := hc x (hx x (by simp))
        obtain ⟨l, hl, hq⟩ := ih fun y hy => hx y (by simp [hy])
        exact ⟨n :: l, by rw [hn, hl]; rfl, fun a ha => by rcases List.mem_cons.1 ha with rfl | e; exact hp; exact hq a e⟩
    obtain ⟨l, e, hp⟩ := this xs fun x hx => ⟨hl x hx, fun j s y h1 h2 => by
      obtain ⟨i, hi⟩ := List.mem_iff_getElem?.1 hx
      exact hr i x j s y hi h1 h2⟩
    refine ⟨l, by rw [e], ?_, hp⟩
    rw [e] at h
    simpa [maxLen] using h

theorem fit_intsL {y : PV} (h : Fit (.slice [.int .i64]) y) : ∃ l, y = .slice false (intsPV l) ∧ l.length ≤ 9223372036854775807 := by
  obtain ⟨l, e, hl, _⟩ := fit_rows (c := intPV) (P := fun _ => True) (fun u h => by
    obtain ⟨y0, u0, rfl, e0, h⟩ := h.cons
    have hn := h.nil
    subst hn
    obtain ⟨n0, rfl, _⟩ := fit_int e0
    exact ⟨n0, rfl, trivial⟩) h
  exact ⟨l, e, hl⟩

theorem fit_itemsL {y : PV} (h : Fit (.slice [.int .i64, .str]) y) : ∃ l, y = .slice false (itemsPV l) ∧ l.length ≤ 9223372036854775807 := by
  obtain ⟨l, e, hl, _⟩ := fit_rows (c := itemPV) (P := fun _ => True) (fun u h => by
    obtain ⟨y0, u0, rfl, e0, h⟩ := h.cons
    obtain ⟨y1, u1, rfl, e1, h⟩ := h.cons
    have hn := h.nil
    subst hn
    obtain ⟨n0, rfl, _⟩ := fit_int e0
    obtain ⟨n1, rfl⟩ := fit_str e1
    exact ⟨(n0, n1), rfl, trivial⟩) h
  exact ⟨l, e, hl⟩

theorem fit_memberL {u : List PV} (h : Fits [.int .i64, .int .i64, .int .i64, .int .i64, .slice [.int .i64, .str], .int .i64, .int .i64, .slice [.int .i64], .slice [.int .i64], .slice [.int .i64]] u) : ∃ t : M × Fl, u = mC t.1 t.2 ∧ MIn t.1 := by
  obtain ⟨y0, u0, rfl, e0, h⟩ := h.cons
  obtain ⟨y1, u1, rfl, e1, h⟩ := h.cons
  obtain ⟨y2, u2, rfl, e2, h⟩ := h.cons
  obtain ⟨y3, u3, rfl, e3, h⟩ := h.cons
  obtain ⟨y4, u4, rfl, e4, h⟩ := h.cons
  obtain ⟨y5, u5, rfl, e5, h⟩ := h.cons
  obtain ⟨y6, u6, rfl, e6, h⟩ := h.cons
  obtain ⟨y7, u7, rfl, e7, h⟩ := h.cons
  obtain ⟨y8, u8, rfl, e8, h⟩ := h.cons
  obtain ⟨y9, u9, rfl, e9, h⟩ := h.cons
  have hn := h.nil
  subst hn
  obtain ⟨n0, rfl, a0, b0⟩ := fit_int e0
  obtain ⟨n1, rfl, a1, b1⟩ := fit_int e1
  obtain ⟨n2, rfl, _⟩ := fit_int e2
  obtain ⟨n3, rfl, _⟩ := fit_int e3
  obtain ⟨n4, rfl, c4⟩ := fit_itemsL e4
  obtain ⟨n5, rfl, _⟩ := fit_int e5
  obtain ⟨n6, rfl, _⟩ := fit_int e6
  obtain ⟨n7, rfl, c7⟩ := fit_intsL e7
  obtain ⟨n8, rfl, c8⟩ := fit_intsL e8
  obtain ⟨n9, rfl, c9⟩ := fit_intsL e9
  exact ⟨(⟨n0, n1, n2, n3, n4, n5, n6, n7, n8, n9⟩, ⟨false, false, false, false⟩), rfl, ⟨a0, b0, a1, b1, c4, c7, c8, c9⟩⟩

theorem fit_msgL {u : List PV} (h : Fits [.int .i64, .int .i64, .int .i64, .int .i64, .int .i64, .int .i64, .int .i64, .bool, .slice [.int .i64, .str]] u) : ∃ t : X × Bool, u = xC t.1 t.2 ∧ t.1.items.length ≤ 9223372036854775807 := by
  obtain ⟨y0, u0, rfl, e0, h⟩ := h.cons
  obtain ⟨y1, u1, rfl, e1, h⟩ := h.cons
  obtain ⟨y2, u2, rfl, e2, h⟩ := h.cons
  obtain ⟨y3, u3, rfl, e3, h⟩ := h.cons
  obtain ⟨y4, u4, rfl, e4, h⟩ := h.cons
  obtain ⟨y5, u5, rfl, e5, h⟩ := h.cons
  obtain ⟨y6, u6, rfl, e6, h⟩ := h.cons
  obtain ⟨y7, u7, rfl, e7, h⟩ := h.cons
  obtain ⟨y8, u8, rfl, e8, h⟩ := h.cons
  have hn := h.nil
  subst hn
  obtain ⟨n0, rfl, _⟩ := fit_int e0
  obtain ⟨n1, rfl, _⟩ := fit_int e1
  obtain ⟨n2, rfl, _⟩ := fit_int e2
  obtain ⟨n3, rfl, _⟩ := fit_int e3
  obtain ⟨n4, rfl, _⟩ := fit_int e4
  obtain ⟨n5, rfl, _⟩ := fit_int e5
  obtain ⟨n6, rfl, _⟩ := fit_int e6
  obtain ⟨n7, rfl⟩ := fit_bool e7
  obtain ⟨n8, rfl, c8⟩ := fit_itemsL e8
  exact ⟨(⟨n0, n1, n2, n3, n4, n5, n6, n7, n8⟩, false), rfl, c8⟩

theorem fit_cluster {u : List PV} (h : Fits [.slice [.int .i64, .int .i64, .int .i64, .int .i64, .slice [.int .i64, .str], .int .i64, .int .i64, .slice [.int .i64], .slice [.int .i64], .slice [.int .i64]], .slice [.int .i64, .int .i64, .int .i64, .int .i64, .int .i64, .int .i64, .int .i64, .bool, .slice [.int .i64, .str]]] u) :
    ∃ (l : List (M × Fl)) (net : List (X × Bool)), u = [.slice false (memPV l), .slice false (netPV net)] ∧ l.length ≤ 9223372036854775807 ∧ net.length ≤ 9223372036854775807 ∧ (∀ t ∈ l, MIn t.1) ∧ ∀ t ∈ net, t.1.items.length ≤ 9223372036854775807 := by
  obtain ⟨y0, u0, rfl, e0, h⟩ := h.cons
  obtain ⟨y1, u1, rfl, e1, h⟩ := h.cons
  have hn := h.nil
  subst hn
  obtain ⟨l, rfl, hl, pl⟩ := fit_rows (c := fun t : M × Fl => mC t.1 t.2) (fun u h => fit_memberL h) e0
  obtain ⟨n, rfl, hn, pn⟩ := fit_rows (c := fun t : X × Bool => xC t.1 t.2) (fun u h => fit_msgL h) e1
  exact ⟨l, n, rfl, hl, hn, pl, pn⟩

theorem fit_event {u : List PV} (h : Fits [.int .i64, .int .i64, .int .i64, .str] u) : ∃ e : Evt, u = evC e ∧ True := by
  obtain ⟨y0, u0, rfl, e0, h⟩ := h.cons
  obtain ⟨y1, u1, rfl, e1, h⟩ := h.cons
  obtain ⟨y2, u2, rfl, e2, h⟩ := h.cons
  obtain ⟨y3, u3, rfl, e3, h⟩ := h.cons
  have hn := h.nil
  subst hn
  obtain ⟨n0, rfl, _⟩ := fit_int e0
  obtain ⟨n1, rfl, _⟩ := fit_int e1
  obtain ⟨n2, rfl, _⟩ := fit_int e2
  obtain ⟨n3, rfl⟩ := fit_str e3
  exact ⟨⟨n0, n1, n2, n3⟩, rfl, trivial⟩

theorem examples_run : ((cfs tb.A tb.X 16).pure 15 []) = some (.bool true) := by kernel_rfl

theorem ps_examples : PS tb 15 [] (.bool true) := ⟨16, examples_run⟩

theorem l_rv1 (l : List (M × Fl)) (a : Bool) (net : List (X × Bool)) (b : Bool) (hl : l.length ≤ 7) (hm : ∀ t ∈ l, MIn t.1) (K : Ex → St → Prop)
    (hx : (∀ j, j < l.length → okAtC (fsts l) j = true) → K (.exit 0) ⟨[(1, .ptr 0 0), (3, .p (.int .i64 l.length))], [(0, .var false [.p (.slice a (memPV l)), .p (.slice b (netPV net))])], 1, [0]⟩)
    (hr : ∀ i, i < l.length → okAtC (fsts l) i = false → ∀ s', aget s'.env 2 = some (.p (.bool false)) → K .ret s') : ∀ (m i : Nat), i + m = l.length → (∀ j, j < i → okAtC (fsts l) j = true) →
    W tb a7_l1 ⟨[(1, .ptr 0 0), (3, .p (.int .i64 l.length)), (4, .p (.int .i64 i))], [(0, .var false [.p (.slice a (memPV l)), .p (.slice b (netPV net))])], 1, [0]⟩ (LK tb (.ghost (.free [5]) (.ghost .lower a7_l1)) K) := by
  intro m
  induction m with
  | zero =>
    intro i hi ht
    have h1 : ¬ (i : Int) < l.length := by omega
    refine i_code (by unfold a7_l1; exact rfl) ?_
    repeat' (first | (simp (disch := omega) only [go_sem, seval, reduceCtorEq, h1]) | with_reducible exact Ev.mk | ((first | apply x_split | apply x_splitg) <;> intro hβ hb <;> (try simp only [hβ]) <;> clear hβ))
    exact hx (fun j hj => ht j (by omega))
  | succ m ih =>
    intro i hi ht
    have h1 : (i : Int) < l.length := by omega
    have h2 : i < l.length := by omega
    have h4 : (0 : Int) ≤ i := by omega
    have h3 := memPV_get l i h2
    have hmi := hm l[i] (List.getElem_mem h2)
    have hq : okAtC (fsts l) i = (decide (l[i].1.id = ((i + 1 : Nat) : Int)) && decide (l[i].1.members = l.length) && okM l[i].1) := by rw [okAtC, fsts_getD l i h2, fsts_length]
    have g := ps29 l[i].1 l[i].2 hmi
    refine i_code (by unfold a7_l1; exact rfl) ?_
    repeat' (first | exact g | (simp (disch := omega) only [go_sem, seval, reduceCtorEq, h1, h3, h4, mC]) | with_reducible exact Ev.mk | apply x_call | ((first | apply x_split | apply x_splitg) <;> intro hβ hb <;> (try simp only [hβ]) <;> clear hβ))
    all_goals first
      | exact hr i h2 (by rw [hq]; simp_all) _ rfl
      | (refine i_lk (W_round ?_)
         (try simp (disch := omega) only [go_sem, seval, reduceCtorEq])
         exact ih (i + 1) (by omega) (lt_step' ht (by rw [hq]; simp_all)))

theorem l_rv0 (l : List (M × Fl)) (a : Bool) (net : List (X × Bool)) (b : Bool) (hl : l.length ≤ 7) (hn : net.length ≤ 256) (hni : ∀ t ∈ net, t.1.items.length ≤ 9223372036854775807) (K : Ex → St → Prop)
    (hx : (∀ j, j < net.length → (fun j => okX (getX net j) l.length) j = true) → K (.exit 2) ⟨[], [], 0, [0]⟩)
    (hr : ∀ i, i < net.length → (fun j => okX (getX net j) l.length) i = false → ∀ s', aget s'.env 2 = some (.p (.bool false)) → K .ret s') : ∀ (m i : Nat), i + m = net.length → (∀ j, j < i → (fun j => okX (getX net j) l.length) j = true) →
    W tb a7_l0 ⟨[(1, .ptr 0 0), (3, .p (.int .i64 l.length)), (6, .p (.int .i64 i))], [(0, .var false [.p (.slice a (memPV l)), .p (.slice b (netPV net))])], 1, [0]⟩ (LK tb (.ghost .lower a7_l0) K) := by
  intro m
  induction m with
  | zero =>
    intro i hi ht
    have h1 : ¬ (i : Int) < net.length := by omega
    refine i_code (by unfold a7_l0; exact rfl) ?_
    repeat' (first | (simp (disch := omega) only [go_sem, seval, reduceCtorEq, h1, netPV_length]) | with_reducible exact Ev.mk | ((first | apply x_split | apply x_splitg) <;> intro hβ hb <;> (try simp only [hβ]) <;> clear hβ))
    exact hx (fun j hj => ht j (by omega))
  | succ m ih =>
    intro i hi ht
    have h1 : (i : Int) < net.length := by omega
    have h2 : i < net.length := by omega
    have h4 : (0 : Int) ≤ i := by omega
    have h3 := netPV_get net i h2
    have hq := getX_get net i h2
    have g := ps40 net[i].1 net[i].2 l.length (hni _ (List.getElem_mem h2))
    refine i_code (by unfold a7_l0; exact rfl) ?_
    repeat' (first | exact g | (simp (disch := omega) only [go_sem, seval, reduceCtorEq, h1, h3, h4, xC, netPV_length]) | with_reducible exact Ev.mk | apply x_call | ((first | apply x_split | apply x_splitg) <;> intro hβ hb <;> (try simp only [hβ]) <;> clear hβ))
    all_goals first
      | exact hr i h2 (by simp only [hq]; simp_all) _ rfl
      | (refine i_lk (W_round ?_)
         (try simp (disch := omega) only [go_sem, seval, reduceCtorEq])
         exact ih (i + 1) (by omega) (lt_step' ht (by simp only [hq]; simp_all)))

theorem ps_rvalid (l : List (M × Fl)) (a : Bool) (net : List (X × Bool)) (b : Bool) (hl : l.length ≤ 9223372036854775807) (hn : net.length ≤ 9223372036854775807) (hm : ∀ t ∈ l, MIn t.1) (hni : ∀ t ∈ net, t.1.items.length ≤ 9223372036854775807) :
    PS tb 7 [.agg [.slice a (memPV l), .slice b (netPV net)]] (.bool (okC (fsts l) (fstx net))) := by
  refine PS_of (af := a7) rfl rfl ?_
  unfold a7
  dsimp only [List.map, ofPV, initEnv]
  have e1 := fsts_length l
  have e2 := fstx_length net
  by_cases c1 : (l.length : Int) < 1
  · have : okC (fsts l) (fstx net) = false := by simp [okC]; omega
    rw [this]
    repeat' (first | (simp (disch := omega) only [go_sem, seval, reduceCtorEq, memPV_length, netPV_length, c1]) | with_reducible exact Ev.mk | ((first | apply x_split | apply x_splitg) <;> intro hβ hb <;> (try simp only [hβ]) <;> clear hβ))
  · by_cases c2 : (7 : Int) < l.length
    · have : okC (fsts l) (fstx net) = false := by simp [okC]; omega
      rw [this]
      repeat' (first | (simp (disch := omega) only [go_sem, seval, reduceCtorEq, memPV_length, netPV_length, c1, c2]) | with_reducible exact Ev.mk | ((first | apply x_split | apply x_splitg) <;> intro hβ hb <;> (try simp only [hβ]) <;> clear hβ))
    · by_cases c3 : (256 : Int) < net.length
      · have : okC (fsts l) (fstx net) = false := by simp [okC]; omega
        rw [this]
        repeat' (first | (simp (disch := omega) only [go_sem, seval, reduceCtorEq, memPV_length, netPV_length, c1, c2, c3]) | with_reducible exact Ev.mk | ((first | apply x_split | apply x_splitg) <;> intro hβ hb <;> (try simp only [hβ]) <;> clear hβ))
      · repeat' (first | (simp (disch := omega) only [go_sem, seval, reduceCtorEq, memPV_length, netPV_length, c1, c2, c3]) | with_reducible exact Ev.mk | ((first | apply x_split | apply x_splitg) <;> intro hβ hb <;> (try simp only [hβ]) <;> clear hβ))
        refine W_round ?_
        (try simp (disch := omega) only [go_sem, seval, reduceCtorEq])
        refine l_rv1 l a net b (by omega) hm _ ?_ ?_ l.length 0 (by omega) (fun j hj => by omega)
        · intro h1
          (try simp (disch := omega) only [go_sem, seval, reduceCtorEq, netPV_length])
          refine W_round ?_
          (try simp (disch := omega) only [go_sem, seval, reduceCtorEq])
          refine l_rv0 l a net b (by omega) (by omega) hni _ ?_ ?_ net.length 0 (by omega) (fun j hj => by omega)
          · intro h2
            have : okC (fsts l) (fstx net) = true := by
              have h3 : (List.range (fsts l).length).all (okAtC (fsts l)) = true := by rw [List.all_eq_true]; intro j hj; rw [e1] at hj; exact h1 j (List.mem_range.1 hj)
              have h4 : (fstx net).all (fun x => okX x (fsts l).length) = true := by rw [← all_net, e1]; exact h2
              unfold okC
              rw [h3, h4]
              simp only [e1, e2, Bool.and_true, Bool.and_eq_true, decide_eq_true_eq]
              omega
            rw [this]
            repeat' (first | (simp (disch := omega) only [go_sem, seval, reduceCtorEq]) | with_reducible exact Ev.mk | ((first | apply x_split | apply x_splitg) <;> intro hβ hb <;> (try simp only [hβ]) <;> clear hβ))
          · intro i hi h2 s' hs
            have : okC (fsts l) (fstx net) = false := by
              have h4 : (fstx net).all (fun x => okX x (fsts l).length) = false := by
                cases h : (fstx net).all (fun x => okX x (fsts l).length) with
                | false => rfl
                | true =>
                  have h5 := (all_net net _).2 h i hi
                  simp only [e1] at h5
                  have h6 : okX (getX net i) l.length = false := h2
                  rw [h5] at h6; cases h6
              simp only [okC, h4, Bool.and_false]
            rw [this]
            (try simp (disch := omega) only [go_sem, seval, reduceCtorEq, hs])
        · intro i hi h2 s' hs
          have : okC (fsts l) (fstx net) = false := by
            have h3 : (List.range (fsts l).length).all (okAtC (fsts l)) = false := by
              cases h : (List.range (fsts l).length).all (okAtC (fsts l)) with
              | false => rfl
              | true =>
                have := List.all_eq_true.1 h i (List.mem_range.2 (by rw [e1]; exact hi))
                rw [this] at h2; cases h2
            simp only [okC, h3, Bool.and_false, Bool.false_and]
          rw [this]
          (try simp (disch := omega) only [go_sem, seval, reduceCtorEq, hs])

theorem sz9 (a b c d e f g h i : PV) : allSz 9 [[a, b, c, d, e, f, g, h, i]] = true := Eq.trans rfl rfl

theorem sz10 (a b c d e f g h i j : PV) : allSz 10 [[a, b, c, d, e, f, g, h, i, j]] = true := Eq.trans rfl rfl

theorem netPV_step (l : List (X × Bool)) (i : Nat) (h : i < l.length) : netPV (l.take i) ++ [xC l[i].1 l[i].2] = netPV (l.take (i + 1)) := by
  rw [List.take_add_one, List.getElem?_eq_getElem h]
  simp only [netPV, List.map_append, List.map_cons, List.map_nil, Option.toList]

theorem l_rsend (l q : List (X × Bool)) (b c : Bool) (hl : l.length ≤ 1000) (hq : q.length ≤ 1000) (K : Ex → St → Prop)
    (hx : K (.exit 0) ⟨[(5, .ref 0 ((l ++ q).take 256).length 0 ((l ++ q).take 256).length)], [(0, .row false 9 (netPV ((l ++ q).take 256)))], 1, [0]⟩) : ∀ (m i : Nat), i + m = min (l.length + q.length) 256 →
    W tb a87_l0 ⟨[(0, .p (.slice b (netPV l))), (1, .p (.slice c (netPV q))), (5, .ref 0 i 0 i), (6, .p (.int .i64 i))], [(0, .row false 9 (netPV ((l ++ q).take i)))], 1, [0]⟩ (LK tb (.ghost .lower a87_l0) K) := by
  intro m
  induction m with
  | zero =>
    intro i hi
    have e1 : (l ++ q).take 256 = (l ++ q).take i := by
      by_cases h : l.length + q.length ≤ 256
      · rw [List.take_of_length_le (by simp; omega), List.take_of_length_le (by simp; omega)]
      · have : i = 256 := by omega
        rw [this]
    have e2 : ((l ++ q).take i).length = i := by simp; omega
    rw [e1, e2] at hx
    refine i_code (by unfold a87_l0; exact rfl) ?_
    by_cases h1 : (i : Int) < (l.length : Int) + (q.length : Int)
    · have h2 : ¬ (i : Int) < 256 := by omega
      repeat' (first | (simp (disch := omega) only [go_sem, seval, reduceCtorEq, netPV_length, h1, h2]) | with_reducible exact Ev.mk | ((first | apply x_split | apply x_splitg) <;> intro hβ hb <;> (try simp only [hβ]) <;> clear hβ))
      exact hx
    · repeat' (first | (simp (disch := omega) only [go_sem, seval, reduceCtorEq, netPV_length, h1]) | with_reducible exact Ev.mk | ((first | apply x_split | apply x_splitg) <;> intro hβ hb <;> (try simp only [hβ]) <;> clear hβ))
      exact hx
  | succ m ih =>
    intro i hi
    have h1 : (i : Int) < (l.length : Int) + (q.length : Int) := by omega
    have h2 : (i : Int) < 256 := by omega
    have h0 : i < (l ++ q).length := by simp; omega
    have h4 : (0 : Int) ≤ i := by omega
    have e2 : ((l ++ q).take i).length = i := by simp; omega
    have m1 : (i + 1) * 88 ≤ 140737488355328 := by omega
    have m2 : i + 1 ≤ 140737488355328 := by omega
    have e3 : (netPV ((l ++ q).take i)).take i = netPV ((l ++ q).take i) := List.take_of_length_le (by rw [netPV_length]; omega)
    have st := netPV_step (l ++ q) i h0
    refine i_code (by unfold a87_l0; exact rfl) ?_
    by_cases h5 : i < l.length
    · have h6 : (i : Int) < l.length := by omega
      have h3 := netPV_get l i h5
      have eg : (l ++ q)[i] = l[i] := List.getElem_append_left h5
      rw [eg] at st
      simp only [xC] at h3 st
      repeat' (first | (simp (disch := omega) only [go_sem, seval, reduceCtorEq, netPV_length, netPV_sz, h1, h2, h3, h4, h6, e2, e3, m1, m2, maxBytes, st, sz9]) | with_reducible exact Ev.mk | ((first | apply x_split | apply x_splitg) <;> intro hβ hb <;> (try simp only [hβ]) <;> clear hβ))
      refine i_lk (W_round ?_)
      (try simp (disch := omega) only [go_sem, seval, reduceCtorEq])
      exact ih (i + 1) (by omega)
    · have h6 : ¬ (i : Int) < l.length := by omega
      obtain ⟨k, rfl⟩ : ∃ k, i = l.length + k := ⟨i - l.length, by omega⟩
      have hk : k < q.length := by omega
      have h3 := netPV_get q k hk
      have eg : (l ++ q)[l.length + k] = q[k] := by rw [List.getElem_append_right (by omega)]; simp
      rw [eg] at st
      have i1 : ((l.length + k : Nat) : Int) - l.length = k := by omega
      have i2 : (0 : Int) ≤ k := by omega
      have i3 : (k : Int) < q.length := by omega
      simp only [xC] at h3 st
      repeat' (first | (simp (disch := omega) only [go_sem, seval, reduceCtorEq, netPV_length, netPV_sz, h1, h2, h3, h4, h6, e2, e3, m1, m2, i1, i2, i3, maxBytes, st, sz9]) | with_reducible exact Ev.mk | ((first | apply x_split | apply x_splitg) <;> intro hβ hb <;> (try simp only [hβ]) <;> clear hβ))
      refine i_lk (W_round ?_)
      (try simp (disch := omega) only [go_sem, seval, reduceCtorEq])
      exact ih (l.length + k + 1) (by omega)

theorem ps_rsend (l q : List (X × Bool)) (b c : Bool) (hl : l.length ≤ 1000) (hq : q.length ≤ 1000) : PS tb 87 [.slice b (netPV l), .slice c (netPV q)] (.slice false (netPV ((l ++ q).take 256))) := by
  refine PS_of (af := a87) rfl rfl ?_
  unfold a87
  dsimp only [List.map, ofPV, initEnv]
  (try simp (disch := omega) only [go_sem, seval, reduceCtorEq])
  refine W_round ?_
  (try simp (disch := omega) only [go_sem, seval, reduceCtorEq])
  refine l_rsend l q b c hl hq _ ?_ (min (l.length + q.length) 256) 0 (by omega)
  have e : (netPV ((l ++ q).take 256)).take ((l ++ q).take 256).length = netPV ((l ++ q).take 256) := List.take_of_length_le (by rw [netPV_length]; omega)
  repeat' (first | (simp (disch := omega) only [go_sem, seval, reduceCtorEq, netPV_length, e]) | with_reducible exact Ev.mk | ((first | apply x_split | apply x_splitg) <;> intro hβ hb <;> (try simp only [hβ]) <;> clear hβ))

def delP (l : List (X × Bool)) (k i : Nat) : List (X × Bool) := l.take (min i k) ++ (l.take i).drop (k + 1)

theorem delP_end (l : List (X × Bool)) (k : Nat) (h : k < l.length) : delP l k l.length = del l k := by
  unfold delP del
  rw [List.take_length, Nat.min_eq_right (by omega)]

theorem delP_len (l : List (X × Bool)) (k i : Nat) (h : i ≤ l.length) : (delP l k i).length ≤ i := by
  unfold delP; simp; omega

theorem delP_same (l : List (X × Bool)) (k : Nat) (h : k < l.length) : delP l k (k + 1) = delP l k k := by
  unfold delP
  rw [List.drop_of_length_le (by simp; omega), List.drop_of_length_le (by simp; omega), Nat.min_eq_right (by omega), Nat.min_self]

theorem delP_step (l : List (X × Bool)) (k i : Nat) (h : i < l.length) (hn : i ≠ k) : netPV (delP l k i) ++ [xC l[i].1 l[i].2] = netPV (delP l k (i + 1)) := by
  have e : delP l k i ++ [l[i]] = delP l k (i + 1) := by
    unfold delP
    by_cases c : i < k
    · rw [List.drop_of_length_le (by simp; omega), List.drop_of_length_le (by simp; omega), Nat.min_eq_left (by omega), Nat.min_eq_left (by omega), List.append_nil, List.append_nil, List.take_add_one, List.getElem?_eq_getElem h]
      rfl
    · rw [Nat.min_eq_right (by omega), Nat.min_eq_right (by omega), List.append_assoc, List.take_add_one, List.getElem?_eq_getElem h, List.drop_append_of_le_length (by simp; omega)]
      rfl
  rw [← e]
  simp only [netPV, List.map_append, List.map_cons, List.map_nil]

theorem l_rwithout (l : List (X × Bool)) (b : Bool) (k : Nat) (hk : k < l.length) (hl : l.length ≤ 1000) (K : Ex → St → Prop)
    (hx : K (.exit 0) ⟨[(5, .ref 0 (del l k).length 0 (del l k).length)], [(0, .row false 9 (netPV (del l k)))], 1, [0]⟩) : ∀ (m i : Nat), i + m = l.length →
    W tb a106_l0 ⟨[(0, .p (.slice b (netPV l))), (1, .p (.int .i64 k)), (5, .ref 0 (delP l k i).length 0 (delP l k i).length), (6, .p (.int .i64 i))], [(0, .row false 9 (netPV (delP l k i)))], 1, [0]⟩ (LK tb (.ghost .lower a106_l0) K) := by
  intro m
  induction m with
  | zero =>
    intro i hi
    have e : i = l.length := by omega
    subst e
    rw [← delP_end l k hk] at hx
    have h1 : ¬ (l.length : Int) < l.length := by omega
    refine i_code (by unfold a106_l0; exact rfl) ?_
    repeat' (first | (simp (disch := omega) only [go_sem, seval, reduceCtorEq, netPV_length, h1]) | with_reducible exact Ev.mk | ((first | apply x_split | apply x_splitg) <;> intro hβ hb <;> (try simp only [hβ]) <;> clear hβ))
    exact hx
  | succ m ih =>
    intro i hi
    have h0 : i < l.length := by omega
    have h1 : (i : Int) < l.length := by omega
    have h4 : (0 : Int) ≤ i := by omega
    have h3 := netPV_get l i h0
    have hd := delP_len l k i (by omega)
    refine i_code (by unfold a106_l0; exact rfl) ?_
    by_cases h5 : i = k
    · subst h5
      have t1 : ((i : Int) != (i : Int)) = false := by simp
      repeat' (first | (simp (disch := omega) only [go_sem, seval, reduceCtorEq, netPV_length, h1, t1]) | with_reducible exact Ev.mk | ((first | apply x_split | apply x_splitg) <;> intro hβ hb <;> (try simp only [hβ]) <;> clear hβ))
      refine i_lk (W_round ?_)
      (try simp (disch := omega) only [go_sem, seval, reduceCtorEq])
      rw [← delP_same l i hk]
      exact ih (i + 1) (by omega)
    · have t1 : ((i : Int) != (k : Int)) = true := by simp; omega
      have st := delP_step l k i h0 h5
      have e3 : (netPV (delP l k i)).take (delP l k i).length = netPV (delP l k i) := List.take_of_length_le (by rw [netPV_length]; omega)
      have m1 : ((delP l k i).length + 1) * 88 ≤ 140737488355328 := by omega
      have m2 : (delP l k i).length + 1 ≤ 140737488355328 := by omega
      have e4 : (delP l k i).length + 1 = (delP l k (i + 1)).length := by have := congrArg List.length st; simpa [netPV_length] using this
      simp only [xC] at h3 st
      have ih := ih (i + 1) (by omega)
      rw [← e4] at ih
      repeat' (first | (simp (disch := omega) only [go_sem, seval, reduceCtorEq, netPV_length, netPV_sz, h1, h3, h4, t1, e3, m1, m2, maxBytes, st, sz9]) | with_reducible exact Ev.mk | ((first | apply x_split | apply x_splitg) <;> intro hβ hb <;> (try simp only [hβ]) <;> clear hβ))
      refine i_lk (W_round ?_)
      (try simp (disch := omega) only [go_sem, seval, reduceCtorEq])
      exact ih

theorem ps_rwithout (l : List (X × Bool)) (b : Bool) (k : Nat) (hk : k < l.length) (hl : l.length ≤ 1000) : PS tb 106 [.slice b (netPV l), .int .i64 k] (.slice false (netPV (del l k))) := by
  refine PS_of (af := a106) rfl rfl ?_
  unfold a106
  dsimp only [List.map, ofPV, initEnv]
  (try simp (disch := omega) only [go_sem, seval, reduceCtorEq])
  refine W_round ?_
  (try simp (disch := omega) only [go_sem, seval, reduceCtorEq])
  have h0 : delP l k 0 = [] := by simp [delP]
  have key := l_rwithout l b k hk hl (Done [.tmp 4] fun v s => pur s.heap dep v = some (.slice false (netPV (del l k))))
  refine l_rwithout l b k hk hl _ ?_ l.length 0 (by omega)
  have e : (netPV (del l k)).take (del l k).length = netPV (del l k) := List.take_of_length_le (by rw [netPV_length]; omega)
  repeat' (first | (simp (disch := omega) only [go_sem, seval, reduceCtorEq, netPV_length, e]) | with_reducible exact Ev.mk | ((first | apply x_split | apply x_splitg) <;> intro hβ hb <;> (try simp only [hβ]) <;> clear hβ))

theorem ps_rdeliver (l : List (X × Bool)) (b : Bool) (k : Nat) (hk : k < l.length) (hl : l.length ≤ 1000) : PS tb 82 [.slice b (netPV l), .int .i64 k] (.tuple [.agg (xC l[k].1 l[k].2), .slice false (netPV (del l k)), .int .i64 0]) := by
  have h3 := netPV_get l k hk
  have c1 : ¬ (k : Int) < 0 := by omega
  have c2 : ¬ (l.length : Int) ≤ k := by omega
  have c3 : (0 : Int) ≤ k := by omega
  have c4 : (k : Int) < l.length := by omega
  refine PS_of (af := a82) rfl rfl ?_
  unfold a82
  dsimp only [List.map, ofPV, initEnv]
  repeat' (first | exact ps_rwithout l b k hk hl | (simp (disch := omega) only [go_sem, seval, reduceCtorEq, netPV_length, netPV_sz, c1, c2, c3, c4, h3, xC]) | with_reducible exact Ev.mk | apply x_call | ((first | apply x_split | apply x_splitg) <;> intro hβ hb <;> (try simp only [hβ]) <;> clear hβ))
  all_goals rfl

theorem ps_rdeliverN (l : List (X × Bool)) (hl : l.length ≤ 1000) (b : Bool) (k : Int) (hk : k < 0 ∨ (l.length : Int) ≤ k) : PS tb 82 [.slice b (netPV l), .int .i64 k] (.tuple [.agg (xC zeroXF true), .slice true [], .int .i64 9]) := by
  refine PS_of (af := a82) rfl rfl ?_
  unfold a82
  dsimp only [List.map, ofPV, initEnv]
  repeat' (first | (simp (disch := omega) only [go_sem, seval, reduceCtorEq, netPV_length, netPV_sz]) | with_reducible exact Ev.mk | ((first | apply x_split | apply x_splitg) <;> intro hβ hb <;> (try simp only [hβ]) <;> clear hβ))
  all_goals first | rfl | (exfalso; omega)

theorem ps_rdrop (l : List (X × Bool)) (b : Bool) (k : Nat) (hk : k < l.length) (hl : l.length ≤ 1000) : PS tb 80 [.slice b (netPV l), .int .i64 k] (.tuple [.slice false (netPV (del l k)), .int .i64 0]) := by
  refine PS_of (af := a80) rfl rfl ?_
  unfold a80
  dsimp only [List.map, ofPV, initEnv]
  have q := ps_rdeliver l b k hk hl
  simp only [xC] at q
  repeat' (first | exact q | (simp (disch := omega) only [go_sem, seval, reduceCtorEq]) | with_reducible exact Ev.mk | apply x_call | ((first | apply x_split | apply x_splitg) <;> intro hβ hb <;> (try simp only [hβ]) <;> clear hβ))

theorem ps_rdropN (l : List (X × Bool)) (hl : l.length ≤ 1000) (b : Bool) (k : Int) (hk : k < 0 ∨ (l.length : Int) ≤ k) : PS tb 80 [.slice b (netPV l), .int .i64 k] (.tuple [.slice true [], .int .i64 9]) := by
  refine PS_of (af := a80) rfl rfl ?_
  unfold a80
  dsimp only [List.map, ofPV, initEnv]
  have q := ps_rdeliverN l hl b k hk
  simp only [xC] at q
  repeat' (first | exact q | (simp (disch := omega) only [go_sem, seval, reduceCtorEq]) | with_reducible exact Ev.mk | apply x_call | ((first | apply x_split | apply x_splitg) <;> intro hβ hb <;> (try simp only [hβ]) <;> clear hβ))

theorem ps_rdup (l : List (X × Bool)) (b : Bool) (k : Nat) (hk : k < l.length) (h2 : l.length < 256) : PS tb 81 [.slice b (netPV l), .int .i64 k] (.tuple [.slice false (netPV ((l ++ [l[k]]).take 256)), .int .i64 0]) := by
  have h3 := netPV_get l k hk
  have c1 : ¬ (k : Int) < 0 := by omega
  have c2 : ¬ (l.length : Int) ≤ k := by omega
  have c3 : (0 : Int) ≤ k := by omega
  have c4 : (k : Int) < l.length := by omega
  have c5 : ¬ (256 : Int) ≤ l.length := by omega
  have q := ps_rsend l [l[k]] b true (by omega) (by simp)
  have e : netPV [l[k]] = [xC l[k].1 l[k].2] := rfl
  rw [e] at q
  refine PS_of (af := a81) rfl rfl ?_
  unfold a81
  dsimp only [List.map, ofPV, initEnv]
  simp only [xC] at h3 q
  repeat' (first | exact q | (simp (disch := omega) only [go_sem, seval, reduceCtorEq, netPV_length, netPV_sz, c1, c2, c3, c4, c5, h3, xC]) | with_reducible exact Ev.mk | apply x_call | ((first | apply x_split | apply x_splitg) <;> intro hβ hb <;> (try simp only [hβ]) <;> clear hβ))

theorem ps_rdupN (l : List (X × Bool)) (hl : l.length ≤ 1000) (b : Bool) (k : Int) (hk : k < 0 ∨ (l.length : Int) ≤ k) : PS tb 81 [.slice b (netPV l), .int .i64 k] (.tuple [.slice true [], .int .i64 9]) := by
  refine PS_of (af := a81) rfl rfl ?_
  unfold a81
  dsimp only [List.map, ofPV, initEnv]
  repeat' (first | (simp (disch := omega) only [go_sem, seval, reduceCtorEq, netPV_length, netPV_sz]) | with_reducible exact Ev.mk | ((first | apply x_split | apply x_splitg) <;> intro hβ hb <;> (try simp only [hβ]) <;> clear hβ))
  all_goals first | rfl | (exfalso; omega)

theorem ps_rdupF (l : List (X × Bool)) (hl : l.length ≤ 1000) (b : Bool) (k : Nat) (hk : k < l.length) (h2 : 256 ≤ l.length) : PS tb 81 [.slice b (netPV l), .int .i64 k] (.tuple [.slice true [], .int .i64 17]) := by
  refine PS_of (af := a81) rfl rfl ?_
  unfold a81
  dsimp only [List.map, ofPV, initEnv]
  have c1 : ¬ (k : Int) < 0 := by omega
  have c2 : ¬ (l.length : Int) ≤ k := by omega
  have c4 : (256 : Int) ≤ l.length := by omega
  repeat' (first | (simp (disch := omega) only [go_sem, seval, reduceCtorEq, netPV_length, netPV_sz, c1, c2, c4]) | with_reducible exact Ev.mk | ((first | apply x_split | apply x_splitg) <;> intro hβ hb <;> (try simp only [hβ]) <;> clear hβ))

def putM (l : List (M × Fl)) (m : M) (f : Fl) : List (M × Fl) := l.map fun t => if t.1.id = m.id then (m, f) else t

theorem putM_length (l : List (M × Fl)) (m : M) (f : Fl) : (putM l m f).length = l.length := by simp [putM]

theorem putM_take (l : List (M × Fl)) (m : M) (f : Fl) (i : Nat) (h : i < l.length) : putM (l.take (i + 1)) m f = putM (l.take i) m f ++ [if l[i].1.id = m.id then (m, f) else l[i]] := by
  unfold putM
  rw [List.take_add_one, List.getElem?_eq_getElem h, List.map_append]
  rfl

theorem fsts_putM {l : List (M × Fl)} {m : M} {f : Fl} {k : Nat} (hk : k < l.length) (hid : ∀ i (h : i < l.length), l[i].1.id = ((i + 1 : Nat) : Int)) (hm : m.id = ((k + 1 : Nat) : Int)) : fsts (putM l m f) = (fsts l).set k m := by
  refine List.ext_getElem? fun j => ?_
  rw [List.getElem?_set]
  by_cases hj : j < l.length
  · have h1 : (fsts (putM l m f))[j]? = some (if l[j].1.id = m.id then (m, f) else l[j]).1 := by simp [fsts, putM, hj]
    rw [h1, hid j hj, hm]
    by_cases e : k = j
    · subst e
      rw [if_pos rfl, if_pos rfl, if_pos (by rw [fsts_length]; exact hk)]
    · rw [if_neg e, if_neg (by omega), fsts_get l j hj]
  · have h1 : (fsts (putM l m f))[j]? = none := List.getElem?_eq_none (by rw [fsts_length, putM_length]; omega)
    have h2 : (fsts l)[j]? = none := List.getElem?_eq_none (by rw [fsts_length]; omega)
    rw [h1]
    split
    · rename_i e; subst e; omega
    · exact h2.symm

def wiH (l : List (M × Fl)) (a : Bool) (net : List (X × Bool)) (b : Bool) (m : M) (f : Fl) (net2 : List (X × Bool)) (i : Nat) : Heap :=
  [(4, .row false 10 (memPV (putM (l.take i) m f))), (3, .var false [.ref 4 i 0 i, .p (.slice false (netPV net2))]), (2, .var false [.p (.slice true []), .p (.slice true [])]), (1, .var false ((mC m f).map .p)), (0, .var false [.p (.slice a (memPV l)), .p (.slice b (netPV net))])]

theorem l_rwith (l : List (M × Fl)) (a : Bool) (net : List (X × Bool)) (b : Bool) (m : M) (f : Fl) (net2 : List (X × Bool)) (hl : l.length ≤ 7) (K : Ex → St → Prop)
    (hx : K (.exit 0) ⟨[(6, .ptr 2 0), (7, .ptr 3 0)], [(4, .row false 10 (memPV (putM l m f))), (3, .var false [.ref 4 l.length 0 l.length, .p (.slice false (netPV net2))]), (2, .var false [.p (.slice true []), .p (.slice true [])])], 5, [0]⟩) : ∀ (r i : Nat), i + r = l.length →
    W tb a43_l0 ⟨[(3, .ptr 0 0), (4, .ptr 1 0), (6, .ptr 2 0), (7, .ptr 3 0), (8, .p (.int .i64 i))], wiH l a net b m f net2 i, 5, [0]⟩ (LK tb (.ghost .lower a43_l0) K) := by
  intro r
  induction r with
  | zero =>
    intro i hi
    have e : i = l.length := by omega
    subst e
    have h1 : ¬ (l.length : Int) < l.length := by omega
    have e1 : l.take l.length = l := List.take_length
    refine i_code (by unfold a43_l0; exact rfl) ?_
    repeat' (first | (simp (disch := omega) only [go_sem, seval, reduceCtorEq, wiH, memPV_length, h1, e1]) | with_reducible exact Ev.mk | ((first | apply x_split | apply x_splitg) <;> intro hβ hb <;> (try simp only [hβ]) <;> clear hβ))
    exact hx
  | succ r ih =>
    intro i hi
    have h0 : i < l.length := by omega
    have h1 : (i : Int) < l.length := by omega
    have h4 : (0 : Int) ≤ i := by omega
    have h3 := memPV_get l i h0
    have st := putM_take l m f i h0
    have e2 : (putM (l.take i) m f).length = i := by rw [putM_length, List.length_take]; omega
    have e3 : (memPV (putM (l.take i) m f)).take i = memPV (putM (l.take i) m f) := List.take_of_length_le (by rw [memPV_length]; omega)
    have m1 : (i + 1) * 144 ≤ 140737488355328 := by omega
    have m2 : i + 1 ≤ 140737488355328 := by omega
    have ih := ih (i + 1) (by omega)
    simp only [wiH] at ih
    rw [st, ← memPV_append] at ih
    refine i_code (by unfold a43_l0; exact rfl) ?_
    by_cases hc : l[i].1.id = m.id
    · have t1 : (l[i].1.id == m.id) = true := by simpa using hc
      rw [if_pos hc] at ih
      have e5 : memPV [(m, f)] = [mC m f] := rfl
      rw [e5] at ih
      simp only [mC, List.map] at h3 ih ⊢
      simp only [wiH, mC, List.map]
      repeat' (first | (simp (disch := omega) only [go_sem, seval, reduceCtorEq, memPV_length, memPV_sz, h1, h3, h4, t1, e2, e3, m1, m2, maxBytes, sz10]) | with_reducible exact Ev.mk | ((first | apply x_split | apply x_splitg) <;> intro hβ hb <;> (try simp only [hβ]) <;> clear hβ))
      refine i_lk (W_round ?_)
      (try simp (disch := omega) only [go_sem, seval, reduceCtorEq])
      exact ih
    · have t1 : (l[i].1.id == m.id) = false := by simpa using hc
      rw [if_neg hc] at ih
      have e5 : memPV [l[i]] = [mC l[i].1 l[i].2] := rfl
      rw [e5] at ih
      simp only [mC, List.map] at h3 ih ⊢
      simp only [wiH, mC, List.map]
      repeat' (first | (simp (disch := omega) only [go_sem, seval, reduceCtorEq, memPV_length, memPV_sz, h1, h3, h4, t1, e2, e3, m1, m2, maxBytes, sz10]) | with_reducible exact Ev.mk | ((first | apply x_split | apply x_splitg) <;> intro hβ hb <;> (try simp only [hβ]) <;> clear hβ))
      refine i_lk (W_round ?_)
      (try simp (disch := omega) only [go_sem, seval, reduceCtorEq])
      exact ih

theorem ps_rwith (l : List (M × Fl)) (a : Bool) (net : List (X × Bool)) (b : Bool) (m : M) (f : Fl) (q : List (X × Bool)) (c : Bool) (hl : l.length ≤ 7) (hn : net.length ≤ 1000) (hq : q.length ≤ 1000) :
    PS tb 43 [.agg [.slice a (memPV l), .slice b (netPV net)], .agg (mC m f), .slice c (netPV q)] (.agg [.slice false (memPV (putM l m f)), .slice false (netPV ((net ++ q).take 256))]) := by
  have s := ps_rsend net q b c hn hq
  refine PS_of (af := a43) rfl rfl ?_
  unfold a43
  dsimp only [List.map, ofPV, initEnv]
  repeat' (first | exact s | (simp (disch := omega) only [go_sem, seval, reduceCtorEq, mC]) | with_reducible exact Ev.mk | apply x_call | ((first | apply x_split | apply x_splitg) <;> intro hβ hb <;> (try simp only [hβ]) <;> clear hβ))
  refine W_round ?_
  (try simp (disch := omega) only [go_sem, seval, reduceCtorEq, List.set_cons_zero])
  have key := fun K hx => l_rwith l a net b m f ((net ++ q).take 256) hl K hx l.length 0 (by omega)
  simp only [wiH, mC, List.map, List.take_zero] at key
  refine key _ ?_
  have e1 : (memPV (putM l m f)).take l.length = memPV (putM l m f) := List.take_of_length_le (by rw [memPV_length, putM_length]; omega)
  repeat' (first | (simp (disch := omega) only [go_sem, seval, reduceCtorEq, memPV_length, putM_length, e1]) | with_reducible exact Ev.mk | ((first | apply x_split | apply x_splitg) <;> intro hβ hb <;> (try simp only [hβ]) <;> clear hβ))

theorem l_sm1 (l l' : List (M × Fl)) (a a' : Bool) (net net' : List (X × Bool)) (b b' : Bool) (hl : l.length ≤ 1000) (he : fsts l = fsts l') (hm : ∀ t ∈ l, MIn t.1) (K : Ex → St → Prop)
    (hx : K (.exit 0) ⟨[(2, .ptr 0 0), (3, .ptr 1 0)], [(1, .var false [.p (.slice a' (memPV l')), .p (.slice b' (netPV net'))]), (0, .var false [.p (.slice a (memPV l)), .p (.slice b (netPV net))])], 2, [0]⟩) : ∀ (r i : Nat), i + r = l.length →
    W tb a18_l1 ⟨[(2, .ptr 0 0), (3, .ptr 1 0), (5, .p (.int .i64 i))], [(1, .var false [.p (.slice a' (memPV l')), .p (.slice b' (netPV net'))]), (0, .var false [.p (.slice a (memPV l)), .p (.slice b (netPV net))])], 2, [0]⟩ (LK tb (.ghost .lower a18_l1) K) := by
  intro r
  induction r with
  | zero =>
    intro i hi
    have h1 : ¬ (i : Int) < l.length := by omega
    refine i_code (by unfold a18_l1; exact rfl) ?_
    repeat' (first | (simp (disch := omega) only [go_sem, seval, reduceCtorEq, memPV_length, h1]) | with_reducible exact Ev.mk | ((first | apply x_split | apply x_splitg) <;> intro hβ hb <;> (try simp only [hβ]) <;> clear hβ))
    exact hx
  | succ r ih =>
    intro i hi
    have h0 : i < l.length := by omega
    have hl' : l'.length = l.length := by have := congrArg List.length he; rw [fsts_length, fsts_length] at this; omega
    have h0' : i < l'.length := by omega
    have h1 : (i : Int) < l.length := by omega
    have h1' : (i : Int) < l'.length := by omega
    have h4 : (0 : Int) ≤ i := by omega
    have h3 := memPV_get l i h0
    have h3' := memPV_get l' i h0'
    have ee : l'[i].1 = l[i].1 := by
      have e := congrArg (fun z => z[i]?) he
      simp only [fsts_get l i h0, fsts_get l' i h0', Option.some.injEq] at e
      exact e.symm
    rw [ee] at h3'
    have q := ps27 l[i].1 l[i].2 l'[i].2 (hm _ (List.getElem_mem h0))
    simp only [mC] at h3 h3' q
    refine i_code (by unfold a18_l1; exact rfl) ?_
    repeat' (first | exact q | (simp (disch := omega) only [go_sem, seval, reduceCtorEq, memPV_length, memPV_sz, h1, h1', h3, h3', h4]) | with_reducible exact Ev.mk | apply x_call | ((first | apply x_split | apply x_splitg) <;> intro hβ hb <;> (try simp only [hβ]) <;> clear hβ))
    refine i_lk (W_round ?_)
    (try simp (disch := omega) only [go_sem, seval, reduceCtorEq])
    exact ih (i + 1) (by omega)

theorem l_sm0 (l l' : List (M × Fl)) (a a' : Bool) (net net' : List (X × Bool)) (b b' : Bool) (hl : net.length ≤ 1000) (he : fstx net = fstx net') (hm : ∀ t ∈ net, t.1.items.length ≤ 9223372036854775807) (K : Ex → St → Prop)
    (hx : K (.exit 2) ⟨[], [], 0, [0]⟩) : ∀ (r i : Nat), i + r = net.length →
    W tb a18_l0 ⟨[(2, .ptr 0 0), (3, .ptr 1 0), (6, .p (.int .i64 i))], [(1, .var false [.p (.slice a' (memPV l')), .p (.slice b' (netPV net'))]), (0, .var false [.p (.slice a (memPV l)), .p (.slice b (netPV net))])], 2, [0]⟩ (LK tb (.ghost .lower a18_l0) K) := by
  intro r
  induction r with
  | zero =>
    intro i hi
    have h1 : ¬ (i : Int) < net.length := by omega
    refine i_code (by unfold a18_l0; exact rfl) ?_
    repeat' (first | (simp (disch := omega) only [go_sem, seval, reduceCtorEq, netPV_length, h1]) | with_reducible exact Ev.mk | ((first | apply x_split | apply x_splitg) <;> intro hβ hb <;> (try simp only [hβ]) <;> clear hβ))
    exact hx
  | succ r ih =>
    intro i hi
    have h0 : i < net.length := by omega
    have hl' : net'.length = net.length := by have := congrArg List.length he; rw [fstx_length, fstx_length] at this; omega
    have h0' : i < net'.length := by omega
    have h1 : (i : Int) < net.length := by omega
    have h1' : (i : Int) < net'.length := by omega
    have h4 : (0 : Int) ≤ i := by omega
    have h3 := netPV_get net i h0
    have h3' := netPV_get net' i h0'
    have ee : net'[i].1 = net[i].1 := by
      have e := congrArg (fun z => z[i]?) he
      simpa [fstx, h0, h0'] using e.symm
    rw [ee] at h3'
    have q := ps87 net[i].1 net[i].2 net'[i].2 (hm _ (List.getElem_mem h0))
    simp only [xC] at h3 h3' q
    refine i_code (by unfold a18_l0; exact rfl) ?_
    repeat' (first | exact q | (simp (disch := omega) only [go_sem, seval, reduceCtorEq, netPV_length, netPV_sz, h1, h1', h3, h3', h4]) | with_reducible exact Ev.mk | apply x_call | ((first | apply x_split | apply x_splitg) <;> intro hβ hb <;> (try simp only [hβ]) <;> clear hβ))
    refine i_lk (W_round ?_)
    (try simp (disch := omega) only [go_sem, seval, reduceCtorEq])
    exact ih (i + 1) (by omega)

theorem ps_sameC (l l' : List (M × Fl)) (a a' : Bool) (net net' : List (X × Bool)) (b b' : Bool) (hl : l.length ≤ 1000) (hn : net.length ≤ 1000) (he : fsts l = fsts l') (hx : fstx net = fstx net') (hm : ∀ t ∈ l, MIn t.1) (hi : ∀ t ∈ net, t.1.items.length ≤ 9223372036854775807) :
    PS tb 18 [.agg [.slice a (memPV l), .slice b (netPV net)], .agg [.slice a' (memPV l'), .slice b' (netPV net')]] (.bool true) := by
  have e1 : l'.length = l.length := by have := congrArg List.length he; rw [fsts_length, fsts_length] at this; omega
  have e2 : net'.length = net.length := by have := congrArg List.length hx; rw [fstx_length, fstx_length] at this; omega
  have t1 : ((l.length : Int) != (l.length : Int)) = false := by simp
  have t2 : ((net.length : Int) != (net.length : Int)) = false := by simp
  refine PS_of (af := a18) rfl rfl ?_
  unfold a18
  dsimp only [List.map, ofPV, initEnv]
  repeat' (first | (simp (disch := omega) only [go_sem, seval, reduceCtorEq, memPV_length, netPV_length, e1, e2, t1, t2]) | with_reducible exact Ev.mk | ((first | apply x_split | apply x_splitg) <;> intro hβ hb <;> (try simp only [hβ]) <;> clear hβ))
  refine W_round ?_
  (try simp (disch := omega) only [go_sem, seval, reduceCtorEq])
  refine l_sm1 l l' a a' net net' b b' hl he hm _ ?_ l.length 0 (by omega)
  (try simp (disch := omega) only [go_sem, seval, reduceCtorEq])
  refine W_round ?_
  (try simp (disch := omega) only [go_sem, seval, reduceCtorEq])
  refine l_sm0 l l' a a' net net' b b' hn hx hi _ ?_ net.length 0 (by omega)
  (try simp (disch := omega) only [go_sem, seval, reduceCtorEq])

theorem fstx_take (l : List (X × Bool)) (n : Nat) : fstx (l.take n) = (fstx l).take n := by simp [fstx, List.map_take]

theorem okC_ids {l : List (M × Fl)} {net : List X} (h : okC (fsts l) net = true) : ∀ i (h : i < l.length), l[i].1.id = ((i + 1 : Nat) : Int) := by
  intro i hi
  exact ((okC_facts h).2.2.2.1 i l[i].1 (fsts_get l i hi)).1

section

variable (l : List (M × Fl)) (a : Bool) (net : List (X × Bool)) (b : Bool) (kind node at_ : Int) (data : ByteArray) (hv : okC (fsts l) (fstx net) = true)

include hv

theorem ps_rn4 (hk : kind = 4) (h0 : 0 ≤ at_) (h1 : at_ < net.length) : ∃ p, PS tb 41 [.agg [.slice a (memPV l), .slice b (netPV net)], .agg (evC ⟨kind, node, at_, data⟩)] p ∧ CluP (transitR (fsts l) (fstx net) ⟨kind, node, at_, data⟩) p := by
  subst hk
  obtain ⟨k, rfl⟩ := Int.eq_ofNat_of_zero_le h0
  have hkn : k < net.length := by omega
  obtain ⟨v1, v2, v3, v4, v5⟩ := okC_facts hv
  have v1' := v1; have v2' := v2
  rw [fsts_length] at v1' v2'
  have sn := small_of hv
  have eg := getX_fst net k
  have hg := getX_get net k hkn
  have mx : net[k].1 ∈ fstx net := List.mem_map.2 ⟨_, List.getElem_mem hkn, rfl⟩
  have hox := v5 _ mx
  have fx := okX_facts hox
  have ix := okX_items hox
  rw [hg] at eg
  have hd := ps_rdeliver net b k hkn (by have := sn.1; omega)
  generalize hX : net[k].1 = x at *
  generalize net[k].2 = fl at *
  obtain ⟨i, hi⟩ : ∃ i : Nat, x.to = ((i + 1 : Nat) : Int) := ⟨(x.to - 1).toNat, by omega⟩
  have hio : i < l.length := by rw [fsts_length] at fx; omega
  have hm := v4 i l[i].1 (fsts_get l _ hio)
  have hfew := okM_few hm.2.2
  have hgoes := receive_goes (x := x) hm.2.2
  have et : (x.to - 1).toNat = i := by omega
  have er : transitR (fsts l) (fstx net) ⟨4, node, k, data⟩ = (((fsts l).set i (receiveR l[i].1 x).1, sendR (delX (fstx net) k) (receiveR l[i].1 x).2.toList), 0) := by
    have c : ¬ ((k : Int) < 0 ∨ ((fstx net).length : Int) ≤ k) := by rw [fstx_length]; omega
    simp only [transitR, if_neg c, Int.toNat_natCast, ← eg, et, fsts_getD l _ hio, if_true]
  rw [er]
  obtain ⟨g, hr⟩ := ps55 l[i].1 l[i].2 x fl hfew (by omega)
  rw [optR_net] at hr
  have h3 := memPV_get l i hio
  have hw := ps_rwith l a (del net k) false (receiveR l[i].1 x).1 g (flg true (receiveR l[i].1 x).2.toList) true v2' (by have := small_del sn k; exact this.1) (by cases (receiveR l[i].1 x).2 <;> simp [flg])
  have i1 : ((i + 1 : Nat) : Int) - 1 = i := by omega
  have i2 : (0 : Int) ≤ i := by omega
  have i3 : (i : Int) < l.length := by omega
  simp only [xC, hi, mC] at hd hr h3 hw
  have hid := okC_ids hv
  have hmid : (receiveR l[i].1 x).1.id = ((i + 1 : Nat) : Int) := by rw [hgoes.id]; exact hm.1
  refine PS_any (af := a41) rfl rfl ?_
  unfold a41
  dsimp only [List.map, ofPV, initEnv, evC]
  repeat' (first | exact hd | exact hr | exact hw | (simp (disch := omega) only [go_sem, seval, reduceCtorEq, memPV_length, memPV_sz, h3, i1, i2, i3]) | with_reducible exact Ev.mk | apply x_call | ((first | apply x_split | apply x_splitg) <;> intro hβ hb <;> (try simp only [hβ]) <;> clear hβ))
  refine ⟨_, rfl, _, _, _, _, rfl, fsts_putM hio hid hmid, ?_⟩
  rw [fstx_take, fstx_append, fstx_del, fstx_flg]
  rfl

theorem ps_rn5 (hk : kind = 5) (h0 : 0 ≤ at_) (h1 : at_ < net.length) : ∃ p, PS tb 41 [.agg [.slice a (memPV l), .slice b (netPV net)], .agg (evC ⟨kind, node, at_, data⟩)] p ∧ CluP (transitR (fsts l) (fstx net) ⟨kind, node, at_, data⟩) p := by
  subst hk
  obtain ⟨k, rfl⟩ := Int.eq_ofNat_of_zero_le h0
  have hkn : k < net.length := by omega
  obtain ⟨v1, v2, v3, v4, v5⟩ := okC_facts hv
  rw [fstx_length] at v3
  have er : transitR (fsts l) (fstx net) ⟨5, node, k, data⟩ = ((fsts l, sendR (delX (fstx net) k) []), 0) := by
    have c : ¬ ((k : Int) < 0 ∨ ((fstx net).length : Int) ≤ k) := by rw [fstx_length]; omega
    simp only [transitR, if_neg c, Int.toNat_natCast]
    rfl
  rw [er]
  have hd := ps_rdrop net b k hkn (by omega)
  refine PS_any (af := a41) rfl rfl ?_
  unfold a41
  dsimp only [List.map, ofPV, initEnv, evC]
  repeat' (first | exact hd | (simp (disch := omega) only [go_sem, seval, reduceCtorEq, memPV_length, memPV_sz]) | with_reducible exact Ev.mk | apply x_call | ((first | apply x_split | apply x_splitg) <;> intro hβ hb <;> (try simp only [hβ]) <;> clear hβ))
  refine ⟨_, rfl, _, _, _, _, rfl, rfl, ?_⟩
  rw [fstx_del]
  simp only [sendR, List.append_nil]
  rw [List.take_of_length_le]
  rw [← fstx_del, fstx_length, del_length _ _ hkn]; omega

theorem ps_rn6 (hk : kind = 6) (h0 : 0 ≤ at_) (h1 : at_ < net.length) (hf : net.length < 256) : ∃ p, PS tb 41 [.agg [.slice a (memPV l), .slice b (netPV net)], .agg (evC ⟨kind, node, at_, data⟩)] p ∧ CluP (transitR (fsts l) (fstx net) ⟨kind, node, at_, data⟩) p := by
  have hv' := hv
  subst hk
  obtain ⟨k, rfl⟩ := Int.eq_ofNat_of_zero_le h0
  have hkn : k < net.length := by omega
  have er : transitR (fsts l) (fstx net) ⟨6, node, k, data⟩ = ((fsts l, sendR (fstx net ++ [getX net k]) []), 0) := by
    have c : ¬ ((k : Int) < 0 ∨ ((fstx net).length : Int) ≤ k) := by rw [fstx_length]; omega
    have c2 : ¬ 256 ≤ (fstx net).length := by rw [fstx_length]; omega
    simp only [transitR, if_neg c, if_neg c2, Int.toNat_natCast, ← getX_fst]
    rfl
  rw [er]
  have hd := ps_rdup net b k hkn hf
  refine PS_any (af := a41) rfl rfl ?_
  unfold a41
  dsimp only [List.map, ofPV, initEnv, evC]
  repeat' (first | exact hd | (simp (disch := omega) only [go_sem, seval, reduceCtorEq, memPV_length, memPV_sz]) | with_reducible exact Ev.mk | apply x_call | ((first | apply x_split | apply x_splitg) <;> intro hβ hb <;> (try simp only [hβ]) <;> clear hβ))
  refine ⟨_, rfl, _, _, _, _, rfl, rfl, ?_⟩
  rw [fstx_take, fstx_append, getX_get net k hkn]
  simp [sendR, fstx]

theorem ps_rnF (hk : kind = 6) (h0 : 0 ≤ at_) (h1 : at_ < net.length) (hf : 256 ≤ net.length) : ∃ p, PS tb 41 [.agg [.slice a (memPV l), .slice b (netPV net)], .agg (evC ⟨kind, node, at_, data⟩)] p ∧ CluP (transitR (fsts l) (fstx net) ⟨kind, node, at_, data⟩) p := by
  subst hk
  obtain ⟨k, rfl⟩ := Int.eq_ofNat_of_zero_le h0
  have hkn : k < net.length := by omega
  obtain ⟨v1, v2, v3, v4, v5⟩ := okC_facts hv
  rw [fstx_length] at v3
  have er : transitR (fsts l) (fstx net) ⟨6, node, k, data⟩ = (([], []), 17) := by
    have c : ¬ ((k : Int) < 0 ∨ ((fstx net).length : Int) ≤ k) := by rw [fstx_length]; omega
    have c2 : 256 ≤ (fstx net).length := by rw [fstx_length]; omega
    simp only [transitR, if_neg c, if_pos c2]
    rfl
  rw [er]
  have hd := ps_rdupF net (by omega) b k hkn hf
  refine PS_any (af := a41) rfl rfl ?_
  unfold a41
  dsimp only [List.map, ofPV, initEnv, evC]
  repeat' (first | exact hd | (simp (disch := omega) only [go_sem, seval, reduceCtorEq, memPV_length, memPV_sz]) | with_reducible exact Ev.mk | apply x_call | ((first | apply x_split | apply x_splitg) <;> intro hβ hb <;> (try simp only [hβ]) <;> clear hβ))
  exact ⟨_, rfl, CluP.zero 17⟩

theorem ps_rnN (hk : kind = 4 ∨ kind = 5 ∨ kind = 6) (h : at_ < 0 ∨ (net.length : Int) ≤ at_) : ∃ p, PS tb 41 [.agg [.slice a (memPV l), .slice b (netPV net)], .agg (evC ⟨kind, node, at_, data⟩)] p ∧ CluP (transitR (fsts l) (fstx net) ⟨kind, node, at_, data⟩) p := by
  obtain ⟨v1, v2, v3, v4, v5⟩ := okC_facts hv
  rw [fstx_length] at v3
  have er : transitR (fsts l) (fstx net) ⟨kind, node, at_, data⟩ = (([], []), 9) := by
    have c : at_ < 0 ∨ ((fstx net).length : Int) ≤ at_ := by rw [fstx_length]; exact h
    simp only [transitR, if_pos c]
  rw [er]
  have h4 := ps_rdeliverN net (by omega) b at_ h
  have h5 := ps_rdropN net (by omega) b at_ h
  have h6 := ps_rdupN net (by omega) b at_ h
  simp only [xC] at h4
  refine PS_any (af := a41) rfl rfl ?_
  unfold a41
  dsimp only [List.map, ofPV, initEnv, evC]
  rcases hk with rfl | rfl | rfl
  all_goals
    repeat' (first | exact h4 | exact h5 | exact h6 | (simp (disch := omega) only [go_sem, seval, reduceCtorEq, memPV_length, memPV_sz]) | with_reducible exact Ev.mk | apply x_call | ((first | apply x_split | apply x_splitg) <;> intro hβ hb <;> (try simp only [hβ]) <;> clear hβ))
    exact ⟨_, rfl, CluP.zero 9⟩

theorem ps_rnet (hk : kind = 4 ∨ kind = 5 ∨ kind = 6) : ∃ p, PS tb 41 [.agg [.slice a (memPV l), .slice b (netPV net)], .agg (evC ⟨kind, node, at_, data⟩)] p ∧ CluP (transitR (fsts l) (fstx net) ⟨kind, node, at_, data⟩) p := by
  by_cases h : at_ < 0 ∨ (net.length : Int) ≤ at_
  · exact ps_rnN l a net b kind node at_ data hv hk h
  · rcases hk with hk | hk | hk
    · exact ps_rn4 l a net b kind node at_ data hv hk (by omega) (by omega)
    · exact ps_rn5 l a net b kind node at_ data hv hk (by omega) (by omega)
    · by_cases hf : net.length < 256
      · exact ps_rn6 l a net b kind node at_ data hv hk (by omega) (by omega) hf
      · exact ps_rnF l a net b kind node at_ data hv hk (by omega) (by omega) (by omega)

end

section

variable (l : List (M × Fl)) (a : Bool) (net : List (X × Bool)) (b : Bool) (kind node at_ : Int) (data : ByteArray)

theorem ps_rdoV (hl : l.length ≤ 9223372036854775807) (hn : net.length ≤ 9223372036854775807) (hm : ∀ t ∈ l, MIn t.1) (hi : ∀ t ∈ net, t.1.items.length ≤ 9223372036854775807) (h : okC (fsts l) (fstx net) = false ∨ kind < 1 ∨ 7 < kind) :
    ∃ p, PS tb 17 [.agg [.slice a (memPV l), .slice b (netPV net)], .agg (evC ⟨kind, node, at_, data⟩)] p ∧ CluP (evR (fsts l) (fstx net) ⟨kind, node, at_, data⟩) p := by
  have er : evR (fsts l) (fstx net) ⟨kind, node, at_, data⟩ = (([], []), 1) := if_pos h
  rw [er]
  have hd := ps_rvalid l a net b hl hn hm hi
  refine PS_any (af := a17) rfl rfl ?_
  unfold a17
  dsimp only [List.map, ofPV, initEnv, evC]
  cases hv : okC (fsts l) (fstx net) with
  | false =>
    rw [hv] at hd
    repeat' (first | exact hd | (simp (disch := omega) only [go_sem, seval, reduceCtorEq]) | with_reducible exact Ev.mk | apply x_call | ((first | apply x_split | apply x_splitg) <;> intro hβ hb <;> (try simp only [hβ]) <;> clear hβ))
    exact ⟨_, rfl, CluP.zero 1⟩
  | true =>
    rw [hv] at hd
    have h : kind < 1 ∨ 7 < kind := by
      rcases h with h | h
      · rw [hv] at h; cases h
      · exact h
    by_cases c : kind < 1
    · repeat' (first | exact hd | (simp (disch := omega) only [go_sem, seval, reduceCtorEq, c]) | with_reducible exact Ev.mk | apply x_call | ((first | apply x_split | apply x_splitg) <;> intro hβ hb <;> (try simp only [hβ]) <;> clear hβ))
      exact ⟨_, rfl, CluP.zero 1⟩
    · have c2 : 7 < kind := by omega
      repeat' (first | exact hd | (simp (disch := omega) only [go_sem, seval, reduceCtorEq, c, c2]) | with_reducible exact Ev.mk | apply x_call | ((first | apply x_split | apply x_splitg) <;> intro hβ hb <;> (try simp only [hβ]) <;> clear hβ))
      exact ⟨_, rfl, CluP.zero 1⟩

variable (hv : okC (fsts l) (fstx net) = true)

include hv

theorem rvalid_ok : PS tb 7 [.agg [.slice a (memPV l), .slice b (netPV net)]] (.bool true) := by
  obtain ⟨v1, v2, v3, v4, v5⟩ := okC_facts hv
  rw [fsts_length] at v1 v2
  rw [fstx_length] at v3
  have sm := smallM_of hv
  have sn := small_of hv
  have hd := ps_rvalid l a net b (by omega) (by omega) (fun t ht => (sm.2 t ht).toMIn) (fun t ht => by have := sn.2 t ht; omega)
  rw [hv] at hd
  exact hd

theorem ps_rdoT (hk : kind = 4 ∨ kind = 5 ∨ kind = 6) :
    ∃ p, PS tb 17 [.agg [.slice a (memPV l), .slice b (netPV net)], .agg (evC ⟨kind, node, at_, data⟩)] p ∧ CluP (evR (fsts l) (fstx net) ⟨kind, node, at_, data⟩) p := by
  have er : evR (fsts l) (fstx net) ⟨kind, node, at_, data⟩ = transitR (fsts l) (fstx net) ⟨kind, node, at_, data⟩ := by
    have c1 : ¬ (okC (fsts l) (fstx net) = false ∨ kind < 1 ∨ 7 < kind) := by rw [hv]; simp; omega
    have c2 : 4 ≤ kind ∧ kind ≤ 6 := by omega
    simp only [evR, if_neg c1, if_pos c2]
  rw [er]
  have hd := rvalid_ok l a net b hv
  obtain ⟨p, ht, l2, a2, n2, b2, rfl, hp⟩ := ps_rnet l a net b kind node at_ data hv hk
  generalize (transitR (fsts l) (fstx net) ⟨kind, node, at_, data⟩) = R at *
  refine PS_any (af := a17) rfl rfl ?_
  unfold a17
  dsimp only [List.map, ofPV, initEnv, evC]
  simp only [evC] at ht
  rcases hk with rfl | rfl | rfl
  all_goals
    repeat' (first | exact hd | exact ht | (simp (disch := omega) only [go_sem, seval, reduceCtorEq]) | with_reducible exact Ev.mk | apply x_call | ((first | apply x_split | apply x_splitg) <;> intro hβ hb <;> (try simp only [hβ]) <;> clear hβ))
    exact ⟨_, rfl, _, _, _, _, rfl, hp⟩

theorem ps_rdoX (hk : kind = 1 ∨ kind = 2 ∨ kind = 3 ∨ kind = 7) (h : node < 1 ∨ (l.length : Int) < node) :
    ∃ p, PS tb 17 [.agg [.slice a (memPV l), .slice b (netPV net)], .agg (evC ⟨kind, node, at_, data⟩)] p ∧ CluP (evR (fsts l) (fstx net) ⟨kind, node, at_, data⟩) p := by
  have er : evR (fsts l) (fstx net) ⟨kind, node, at_, data⟩ = (([], []), 1) := by
    have c1 : ¬ (okC (fsts l) (fstx net) = false ∨ kind < 1 ∨ 7 < kind) := by rw [hv]; simp; omega
    have c2 : ¬ (4 ≤ kind ∧ kind ≤ 6) := by omega
    have c3 : node < 1 ∨ ((fsts l).length : Int) < node := by rw [fsts_length]; exact h
    simp only [evR, if_neg c1, if_neg c2, if_pos c3]
  rw [er]
  have v2 := (okC_facts hv).2.1
  rw [fsts_length] at v2
  have hd := rvalid_ok l a net b hv
  refine PS_any (af := a17) rfl rfl ?_
  unfold a17
  dsimp only [List.map, ofPV, initEnv, evC]
  rcases hk with rfl | rfl | rfl | rfl
  all_goals
    by_cases c : node < 1
    · repeat' (first | exact hd | (simp (disch := omega) only [go_sem, seval, reduceCtorEq, c, memPV_length]) | with_reducible exact Ev.mk | apply x_call | ((first | apply x_split | apply x_splitg) <;> intro hβ hb <;> (try simp only [hβ]) <;> clear hβ))
      exact ⟨_, rfl, CluP.zero 1⟩
    · have c2 : (l.length : Int) < node := by omega
      repeat' (first | exact hd | (simp (disch := omega) only [go_sem, seval, reduceCtorEq, c, c2, memPV_length]) | with_reducible exact Ev.mk | apply x_call | ((first | apply x_split | apply x_splitg) <;> intro hβ hb <;> (try simp only [hβ]) <;> clear hβ))
      exact ⟨_, rfl, CluP.zero 1⟩

theorem ps_rdoN (hk : kind = 1 ∨ kind = 2 ∨ kind = 3 ∨ kind = 7) (i : Nat) (hi : i < l.length) (hni : node = ((i + 1 : Nat) : Int)) :
    ∃ p, PS tb 17 [.agg [.slice a (memPV l), .slice b (netPV net)], .agg (evC ⟨kind, node, at_, data⟩)] p ∧ CluP (evR (fsts l) (fstx net) ⟨kind, node, at_, data⟩) p := by
  subst hni
  have ei : (((i + 1 : Nat) : Int) - 1).toNat = i := by omega
  have er : evR (fsts l) (fstx net) ⟨kind, ((i + 1 : Nat) : Int), at_, data⟩ = if (nodeR l[i].1 ⟨kind, ((i + 1 : Nat) : Int), at_, data⟩).2.2 = 0 then (((fsts l).set i (nodeR l[i].1 ⟨kind, ((i + 1 : Nat) : Int), at_, data⟩).1, sendR (fstx net) (nodeR l[i].1 ⟨kind, ((i + 1 : Nat) : Int), at_, data⟩).2.1), 0) else (([], []), (nodeR l[i].1 ⟨kind, ((i + 1 : Nat) : Int), at_, data⟩).2.2) := by
    have c1 : ¬ (okC (fsts l) (fstx net) = false ∨ kind < 1 ∨ 7 < kind) := by rw [hv]; simp; omega
    have c2 : ¬ (4 ≤ kind ∧ kind ≤ 6) := by omega
    have c3 : ¬ (((i + 1 : Nat) : Int) < 1 ∨ ((fsts l).length : Int) < ((i + 1 : Nat) : Int)) := by rw [fsts_length]; omega
    simp only [evR, if_neg c1, if_neg c2, if_neg c3, ei, fsts_getD l i hi]
  rw [er]
  obtain ⟨v1, v2, v3, v4, v5⟩ := okC_facts hv
  rw [fsts_length] at v1 v2
  rw [fstx_length] at v3
  have hm := v4 i l[i].1 (fsts_get l i hi)
  have hfew := okM_few hm.2.2
  have hd := rvalid_ok l a net b hv
  have hid := okC_ids hv
  have h3 := memPV_get l i hi
  have i1 : ((i + 1 : Nat) : Int) - 1 = i := by omega
  have i2 : (0 : Int) ≤ i := by omega
  have i3 : (i : Int) < l.length := by omega
  have c1 : ¬ ((i + 1 : Nat) : Int) < 1 := by omega
  have c2 : ¬ (l.length : Int) < ((i + 1 : Nat) : Int) := by omega
  have hq := (nodeR_msgs (e := ⟨kind, ((i + 1 : Nat) : Int), at_, data⟩) hm.2.2).1
  obtain ⟨_, k2, _, _⟩ := nodeR_ok (e := ⟨kind, ((i + 1 : Nat) : Int), at_, data⟩) hm.2.2
  have hmid : (nodeR l[i].1 ⟨kind, ((i + 1 : Nat) : Int), at_, data⟩).1.id = ((i + 1 : Nat) : Int) := by rw [k2]; exact hm.1
  have fin : ∀ (f : Fl) (c : Bool), (nodeR l[i].1 ⟨kind, ((i + 1 : Nat) : Int), at_, data⟩).2.2 = 0 → CluP (((fsts l).set i (nodeR l[i].1 ⟨kind, ((i + 1 : Nat) : Int), at_, data⟩).1, sendR (fstx net) (nodeR l[i].1 ⟨kind, ((i + 1 : Nat) : Int), at_, data⟩).2.1), 0)
      (.tuple [.agg [.slice false (memPV (putM l (nodeR l[i].1 ⟨kind, ((i + 1 : Nat) : Int), at_, data⟩).1 f)), .slice false (netPV ((net ++ flg c (nodeR l[i].1 ⟨kind, ((i + 1 : Nat) : Int), at_, data⟩).2.1).take 256))], .int .i64 0]) := by
    intro f c hz
    refine ⟨_, _, _, _, rfl, fsts_putM hi hid hmid, ?_⟩
    rw [fstx_take, fstx_append, fstx_flg]
    rfl
  rcases hk with rfl | rfl | rfl | rfl
  · have en : nodeR l[i].1 ⟨1, ((i + 1 : Nat) : Int), at_, data⟩ = ((timeoutR l[i].1).1, (timeoutR l[i].1).2, 0) := by simp [nodeR]
    rw [en] at fin hq ⊢
    rw [if_pos rfl]
    obtain ⟨g, c, hr⟩ := ps33 l[i].1 l[i].2 hfew
    rw [rowsT_net] at hr
    have hw := ps_rwith l a net b (timeoutR l[i].1).1 g (flg true (timeoutR l[i].1).2) c v2 (by omega) (by rw [flg_length]; exact hq)
    have fin := fin g true rfl
    generalize (timeoutR l[i].1) = R at *
    simp only [mC] at h3 hr hw
    refine PS_any (af := a17) rfl rfl ?_
    unfold a17
    dsimp only [List.map, ofPV, initEnv, evC]
    repeat' (first | exact hd | exact hr | exact hw | (simp (disch := omega) only [go_sem, seval, reduceCtorEq, c1, c2, memPV_length, memPV_sz, h3, i1, i2, i3]) | with_reducible exact Ev.mk | apply x_call | ((first | apply x_split | apply x_splitg) <;> intro hβ hb <;> (try simp only [hβ]) <;> clear hβ))
    exact ⟨_, rfl, fin⟩
  · have en : nodeR l[i].1 ⟨2, ((i + 1 : Nat) : Int), at_, data⟩ = (l[i].1, beatsOf l[i].1, 0) := by simp [nodeR]
    rw [en] at fin hq ⊢
    rw [if_pos rfl]
    obtain ⟨c, hr⟩ := ps51 l[i].1 l[i].2 hfew
    rw [msgs_net] at hr
    have hw := ps_rwith l a net b l[i].1 l[i].2 (flg false (beatsOf l[i].1)) c v2 (by omega) (by rw [flg_length]; exact hq)
    have fin := fin l[i].2 false rfl
    generalize (beatsOf l[i].1) = R at *
    simp only [mC] at h3 hr hw
    refine PS_any (af := a17) rfl rfl ?_
    unfold a17
    dsimp only [List.map, ofPV, initEnv, evC]
    repeat' (first | exact hd | exact hr | exact hw | (simp (disch := omega) only [go_sem, seval, reduceCtorEq, c1, c2, memPV_length, memPV_sz, h3, i1, i2, i3]) | with_reducible exact Ev.mk | apply x_call | ((first | apply x_split | apply x_splitg) <;> intro hβ hb <;> (try simp only [hβ]) <;> clear hβ))
    exact ⟨_, rfl, fin⟩
  · obtain ⟨g, hr⟩ := ps48 l[i].1 l[i].2 data hfew
    by_cases hz : errP l[i].1 data = 0
    · have t1 : (errP l[i].1 data != 0) = false := by simp [hz]
      have en : nodeR l[i].1 ⟨3, ((i + 1 : Nat) : Int), at_, data⟩ = (proposed l[i].1 data, [], errP l[i].1 data) := by simp [nodeR, hz]
      have ep : resP l[i].1 data = proposed l[i].1 data := if_pos hz
      rw [ep] at hr
      rw [en] at fin hq ⊢
      rw [if_pos hz]
      have hw := ps_rwith l a net b (proposed l[i].1 data) g [] true v2 (by omega) (by simp)
      have fin := fin g true hz
      generalize (proposed l[i].1 data) = R at *
      generalize (errP l[i].1 data) = E at *
      simp only [mC, netPV_nil] at h3 hr hw
      refine PS_any (af := a17) rfl rfl ?_
      unfold a17
      dsimp only [List.map, ofPV, initEnv, evC]
      repeat' (first | exact hd | exact hr | exact hw | (simp (disch := omega) only [go_sem, seval, reduceCtorEq, c1, c2, memPV_length, memPV_sz, h3, i1, i2, i3, t1]) | with_reducible exact Ev.mk | apply x_call | ((first | apply x_split | apply x_splitg) <;> intro hβ hb <;> (try simp only [hβ]) <;> clear hβ))
      have fin : CluP (((fsts l).set i R, sendR (fstx net) []), 0) (.tuple [.agg [.slice false (memPV (putM l R g)), .slice false (netPV ((net ++ []).take 256))], .int .i64 0]) := fin
      rw [List.append_nil] at fin
      exact ⟨_, rfl, fin⟩
    · have t1 : (errP l[i].1 data != 0) = true := by simpa using hz
      have en : nodeR l[i].1 ⟨3, ((i + 1 : Nat) : Int), at_, data⟩ = (l[i].1, [], errP l[i].1 data) := by simp [nodeR, hz]
      rw [en]
      rw [if_neg hz]
      generalize (resP l[i].1 data) = R at *
      generalize (errP l[i].1 data) = E at *
      simp only [mC] at h3 hr
      refine PS_any (af := a17) rfl rfl ?_
      unfold a17
      dsimp only [List.map, ofPV, initEnv, evC]
      repeat' (first | exact hd | exact hr | (simp (disch := omega) only [go_sem, seval, reduceCtorEq, c1, c2, memPV_length, memPV_sz, h3, i1, i2, i3, t1]) | with_reducible exact Ev.mk | apply x_call | ((first | apply x_split | apply x_splitg) <;> intro hβ hb <;> (try simp only [hβ]) <;> clear hβ))
      exact ⟨_, rfl, CluP.zero E⟩
  · have en : nodeR l[i].1 ⟨7, ((i + 1 : Nat) : Int), at_, data⟩ = (restartR l[i].1, [], 0) := by simp [nodeR]
    rw [en] at fin hq ⊢
    rw [if_pos rfl]
    obtain ⟨g, hr⟩ := ps44 l[i].1 l[i].2 hfew.toMIn
    have hw := ps_rwith l a net b (restartR l[i].1) g [] true v2 (by omega) (by simp)
    have fin := fin g true rfl
    generalize (restartR l[i].1) = R at *
    simp only [mC, netPV_nil] at h3 hr hw
    refine PS_any (af := a17) rfl rfl ?_
    unfold a17
    dsimp only [List.map, ofPV, initEnv, evC]
    repeat' (first | exact hd | exact hr | exact hw | (simp (disch := omega) only [go_sem, seval, reduceCtorEq, c1, c2, memPV_length, memPV_sz, h3, i1, i2, i3]) | with_reducible exact Ev.mk | apply x_call | ((first | apply x_split | apply x_splitg) <;> intro hβ hb <;> (try simp only [hβ]) <;> clear hβ))
    have fin : CluP (((fsts l).set i R, sendR (fstx net) []), 0) (.tuple [.agg [.slice false (memPV (putM l R g)), .slice false (netPV ((net ++ []).take 256))], .int .i64 0]) := fin
    rw [List.append_nil] at fin
    exact ⟨_, rfl, fin⟩

end

theorem ps_rdo (l : List (M × Fl)) (a : Bool) (net : List (X × Bool)) (b : Bool) (kind node at_ : Int) (data : ByteArray) (hl : l.length ≤ 9223372036854775807) (hn : net.length ≤ 9223372036854775807) (hm : ∀ t ∈ l, MIn t.1) (hi : ∀ t ∈ net, t.1.items.length ≤ 9223372036854775807) :
    ∃ p, PS tb 17 [.agg [.slice a (memPV l), .slice b (netPV net)], .agg (evC ⟨kind, node, at_, data⟩)] p ∧ CluP (evR (fsts l) (fstx net) ⟨kind, node, at_, data⟩) p := by
  by_cases h : okC (fsts l) (fstx net) = false ∨ kind < 1 ∨ 7 < kind
  · exact ps_rdoV l a net b kind node at_ data hl hn hm hi h
  · have hv : okC (fsts l) (fstx net) = true := by
      cases e : okC (fsts l) (fstx net)
      · exact absurd (.inl e) h
      · rfl
    have hk : ¬ (kind < 1 ∨ 7 < kind) := fun e => h (.inr e)
    by_cases c : kind = 4 ∨ kind = 5 ∨ kind = 6
    · exact ps_rdoT l a net b kind node at_ data hv c
    · have c' : kind = 1 ∨ kind = 2 ∨ kind = 3 ∨ kind = 7 := by omega
      by_cases d : node < 1 ∨ (l.length : Int) < node
      · exact ps_rdoX l a net b kind node at_ data hv c' d
      · exact ps_rdoN l a net b kind node at_ data hv c' (node - 1).toNat (by omega) (by omega)

theorem evR_err {ms : List M} {net : List X} {e : Evt} (hz : (evR ms net e).2 ≠ 0) : (evR ms net e).1 = ([], []) := by
  unfold evR at hz ⊢
  split
  · rfl
  · rename_i c1
    rw [if_neg c1] at hz
    split
    · rename_i c2
      rw [if_pos c2] at hz
      unfold transitR at hz ⊢
      split
      · rfl
      · rename_i c3
        rw [if_neg c3] at hz
        split
        · rename_i c4; rw [if_pos c4] at hz; exact absurd rfl hz
        · rename_i c4
          rw [if_neg c4] at hz
          split
          · rename_i c5; rw [if_pos c5] at hz; exact absurd rfl hz
          · rename_i c5
            rw [if_neg c5] at hz
            split
            · rfl
            · rename_i c6; rw [if_neg c6] at hz; exact absurd rfl hz
    · rename_i c2
      rw [if_neg c2] at hz
      split
      · rfl
      · rename_i c3
        rw [if_neg c3] at hz
        split
        · rename_i c4; rw [if_pos c4] at hz; exact absurd rfl hz
        · rfl

theorem ps_sameE {R : (List M × List X) × Int} (h : R.2 = 0 → okC R.1.1 R.1.2 = true) (hz : R.2 ≠ 0 → R.1 = ([], [])) {l l' : List (M × Fl)} {a a' : Bool} {net net' : List (X × Bool)} {b b' : Bool} (e1 : fsts l = R.1.1) (e2 : fstx net = R.1.2) (e3 : fsts l' = R.1.1) (e4 : fstx net' = R.1.2) :
    PS tb 18 [.agg [.slice a (memPV l), .slice b (netPV net)], .agg [.slice a' (memPV l'), .slice b' (netPV net')]] (.bool true) := by
  by_cases hc : R.2 = 0
  · have hv := h hc
    rw [← e1, ← e2] at hv
    have sm := smallM_of hv
    have sn := small_of hv
    exact ps_sameC l l' a a' net net' b b' sm.1 sn.1 (by rw [e1, e3]) (by rw [e2, e4]) (fun t ht => (sm.2 t ht).toMIn) (fun t ht => by have := sn.2 t ht; omega)
  · have hv := hz hc
    rw [hv] at e1 e2 e3 e4
    have l0 : l = [] := List.eq_nil_of_length_eq_zero (by rw [← fsts_length, e1]; rfl)
    have n0 : net = [] := List.eq_nil_of_length_eq_zero (by rw [← fstx_length, e2]; rfl)
    subst l0; subst n0
    exact ps_sameC [] l' a a' [] net' b b' (by simp) (by simp) (by rw [e3]; rfl) (by rw [e4]; rfl) (by simp) (by simp)

theorem walkQuorumDoes {u v : List PV} (h : Fits [.slice [.int .i64, .int .i64, .int .i64, .int .i64, .slice [.int .i64, .str], .int .i64, .int .i64, .slice [.int .i64], .slice [.int .i64], .slice [.int .i64]], .slice [.int .i64, .int .i64, .int .i64, .int .i64, .int .i64, .int .i64, .int .i64, .bool, .slice [.int .i64, .str]]] u)
    (h' : Fits [.int .i64, .int .i64, .int .i64, .str] v) : PS tb 4 [.agg u, .agg v] (.bool true) := by
  obtain ⟨l, net, rfl, hl, hn, hm, hi⟩ := fit_cluster h
  obtain ⟨e, rfl, _⟩ := fit_event h'
  obtain ⟨p, hp, l2, a2, n2, b2, rfl, e1, e2⟩ := ps_do l false net false e.kind e.node e.at_ e.data hl hn hm
  obtain ⟨p, hp', l3, a3, n3, b3, rfl, e3, e4⟩ := ps_rdo l false net false e.kind e.node e.at_ e.data hl hn hm hi
  have q := ps_sameE (R := evR (fsts l) (fstx net) ⟨e.kind, e.node, e.at_, e.data⟩) (fun hz => (okC_do hz).2.1) evR_err e1 e2 e3 e4 (a := a2) (a' := a3) (b := b2) (b' := b3)
  generalize evR (fsts l) (fstx net) ⟨e.kind, e.node, e.at_, e.data⟩ = R at *
  have t1 : (R.2 == R.2) = true := by simp
  simp only [evC] at hp hp'
  refine PS_of (af := a4) rfl rfl ?_
  unfold a4
  dsimp only [List.map, ofPV, initEnv, evC]
  repeat' (first | exact hp | exact hp' | exact q | exact ps_examples | (simp (disch := omega) only [go_sem, seval, reduceCtorEq, t1]) | with_reducible exact Ev.mk | apply x_call | ((first | apply x_split | apply x_splitg) <;> intro hβ hb <;> (try simp only [hβ]) <;> clear hβ))

end Go.Dv.Tryz
