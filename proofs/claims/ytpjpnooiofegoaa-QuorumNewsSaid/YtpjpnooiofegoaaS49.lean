/-
  Specifications of the functions of this claim, parts 49, 7, 8.
-/
import Derived.Test.YtpjpnooiofegoaaTab
import Derived.Test.YtpjpnooiofegoaaStep
import Derived.Test.YtpjpnooiofegoaaS1
import Derived.Test.YtpjpnooiofegoaaS7
import Derived.Test.YtpjpnooiofegoaaS12
import Derived.Test.YtpjpnooiofegoaaS16
import Derived.Test.YtpjpnooiofegoaaS24
import Derived.Test.YtpjpnooiofegoaaS37
import Derived.Test.YtpjpnooiofegoaaS42
import Derived.Test.YtpjpnooiofegoaaS46
set_option linter.unusedVariables false
set_option linter.unusedSimpArgs false
set_option maxRecDepth 100000
set_option maxHeartbeats 16000000
namespace Go.Dv.Try
open Go Go.Dv

theorem asksN_mem {c : M} {k : Nat} : ∀ y ∈ asksN c k, ∃ t : Nat, t < k ∧ ((t + 1 : Nat) : Int) ≠ c.id ∧ y = askX c (t + 1 : Nat) := by
  induction k with
  | zero => simp [asksN]
  | succ k ih =>
    intro y hy
    simp only [asksN] at hy
    split at hy
    · obtain ⟨t, h1, h2, h3⟩ := ih y hy
      exact ⟨t, by omega, h2, h3⟩
    · rename_i ne
      rcases List.mem_append.1 hy with h | h
      · obtain ⟨t, h1, h2, h3⟩ := ih y h
        exact ⟨t, by omega, h2, h3⟩
      · simp only [List.mem_singleton] at h
        exact ⟨k, by omega, ne, h⟩

theorem won_fields (m : M) : (wonM m).term = m.term ∧ (wonM m).vote = m.vote ∧ (wonM m).id = m.id ∧ (wonM m).members = m.members ∧ (wonM m).log = m.log := by
  unfold wonM; split <;> exact ⟨rfl, rfl, rfl, rfl, rfl⟩

theorem timeout_ok {m : M} (ho : okM m = true) : ∀ y ∈ (timeoutR m).2, okX y m.members = true ∧ y.frm = m.id ∧ y.term = (timeoutR m).1.term ∧ y.kind = 1 := by
  obtain ⟨hh, _⟩ := (okM_iff m).1 ho
  have i1 := hh.id1; have i2 := hh.id2; have i3 := hh.me1; have i4 := hh.me2; have t1 := hh.te1; have t2 := hh.te2
  have lg := ((okLog_iff _).1 hh.lg).1
  unfold timeoutR
  split
  · rename_i hc
    intro y hy
    obtain ⟨t, h1, h2, rfl⟩ := asksN_mem y hy
    have h1 : t < m.members.toNat := h1
    have h2 : ((t + 1 : Nat) : Int) ≠ m.id := h2
    obtain ⟨u1, u2⟩ := termN_ok hh.lg (n := m.log.length) (by omega) (Int.le_refl _)
    have tn := hc.2.2
    refine ⟨okX_mk i3 i4 i1 i2 (by show 1 ≤ ((t + 1 : Nat) : Int); omega) (by show ((t + 1 : Nat) : Int) ≤ m.members; omega) (by show m.id ≠ ((t + 1 : Nat) : Int); omega) (by show 1 ≤ m.term + 1; omega) (by show m.term + 1 ≤ _; omega) (by show (0 : Int) ≤ m.log.length; omega) (by show (m.log.length : Int) ≤ _; omega) u1 u2
      (by show (0 : Int) ≤ 0; omega) (by show (0 : Int) ≤ _; omega) okLog_nil (by show (1 : Int) ≤ 1; omega) (by show (1 : Int) ≤ 4; omega) rfl, rfl, (won_fields (candM m)).1.symm, rfl⟩
  · intro y hy; simp at hy

theorem okC_mk {ms : List M} {net : List X} (h1 : 1 ≤ ms.length) (h2 : ms.length ≤ 7) (h3 : net.length ≤ 256) (h4 : ∀ (i : Nat) (m : M), ms[i]? = some m → m.id = ((i + 1 : Nat) : Int) ∧ m.members = ms.length ∧ okM m = true) (h5 : ∀ x ∈ net, okX x ms.length = true) : okC ms net = true := by
  simp only [okC, Bool.and_eq_true, decide_eq_true_eq, List.all_eq_true, List.mem_range]
  refine ⟨⟨⟨⟨h1, h2⟩, h3⟩, fun i hi => ?_⟩, h5⟩
  have := h4 i ms[i] (List.getElem?_eq_getElem hi)
  simp only [okAtC, Bool.and_eq_true, decide_eq_true_eq, List.getD_eq_getElem?_getD, List.getElem?_eq_getElem hi, Option.getD_some]
  exact ⟨⟨this.1, this.2.1⟩, this.2.2⟩

/-- A member put in another's place. -/
theorem okC_put {ms : List M} {net net' : List X} (h : okC ms net = true) (hn : net'.length ≤ 256) (hx : ∀ x ∈ net', okX x ms.length = true) {i : Nat} {m a : M} (hi : ms[i]? = some m) (ha : okM a = true) (h1 : a.id = m.id) (h2 : a.members = m.members) : okC (ms.set i a) net' = true := by
  obtain ⟨v1, v2, v3, v4, v5⟩ := okC_facts h
  refine okC_mk (by simpa using v1) (by simpa using v2) hn (fun j b hb => ?_) (by simpa using hx)
  rw [List.getElem?_set] at hb
  rw [List.length_set]
  split at hb
  · rename_i e
    subst e
    split at hb
    · obtain rfl := Option.some.inj hb
      have := v4 i m hi
      exact ⟨by rw [h1]; exact this.1, by rw [h2]; exact this.2.1, ha⟩
    · cases hb
  · exact v4 j b hb

theorem sendR_ok {net q : List X} {n : Int} (h : ∀ x ∈ net, okX x n = true) (k : ∀ x ∈ q, okX x n = true) : (sendR net q).length ≤ 256 ∧ ∀ x ∈ sendR net q, okX x n = true := by
  refine ⟨by simp [sendR]; omega, fun x hx => ?_⟩
  rcases List.mem_append.1 (List.mem_of_mem_take hx) with e | e
  · exact h x e
  · exact k x e

theorem delX_ok {net : List X} {n : Int} {k : Nat} (h : ∀ x ∈ net, okX x n = true) : ∀ x ∈ delX net k, okX x n = true := by
  intro x hx
  rcases List.mem_append.1 hx with e | e
  · exact h x (List.mem_of_mem_take e)
  · exact h x (List.mem_of_mem_drop e)

/-- What a member does at an event of its own keeps it valid. -/
theorem nodeR_ok {m : M} {e : Evt} (ho : okM m = true) : okM (nodeR m e).1 = true ∧ (nodeR m e).1.id = m.id ∧ (nodeR m e).1.members = m.members ∧ ∀ y ∈ (nodeR m e).2.1, okX y m.members = true := by
  unfold nodeR
  split
  · have k := keeps_timeout ho
    exact ⟨k.ok, k.id, k.mem, fun y hy => (timeout_ok ho y hy).1⟩
  · split
    · refine ⟨ho, rfl, rfl, fun y hy => ?_⟩
      have hy : y ∈ beatsOf m := hy
      unfold beatsOf at hy
      split at hy
      · rename_i hc
        exact (beats_ok ho hc.2 m.members.toNat (by have := ((okM_iff m).1 ho).1.me1; omega) y hy).1
      · simp at hy
    · split
      · split
        · rename_i h
          have g := (goes_propose h).1
          exact ⟨g.ok, g.id, g.mem, by simp⟩
        · exact ⟨ho, rfl, rfl, by simp⟩
      · have k := keeps_restart ho
        exact ⟨k.ok, k.id, k.mem, by simp⟩

theorem recv_ok {m : M} {x y : X} (hy : y ∈ (receiveR m x).2.toList) : okX y m.members = true := (receive_ok (by simpa using hy)).1

theorem okC_do {ms : List M} {net : List X} {e : Evt} (hc : (evR ms net e).2 = 0) : okC ms net = true ∧ okC (evR ms net e).1.1 (evR ms net e).1.2 = true ∧ (evR ms net e).1.1.length = ms.length := by
  unfold evR at hc ⊢
  split
  · rename_i h; rw [if_pos h] at hc; cases hc
  · rename_i h
    rw [if_neg h] at hc
    have hv : okC ms net = true := by
      cases q : okC ms net
      · exact absurd (.inl q) h
      · rfl
    obtain ⟨v1, v2, v3, v4, v5⟩ := okC_facts hv
    refine ⟨hv, ?_⟩
    split
    · rename_i h2
      rw [if_pos h2] at hc
      unfold transitR at hc ⊢
      split
      · rename_i h3; rw [if_pos h3] at hc; cases hc
      · rename_i h3
        rw [if_neg h3] at hc
        have hk : e.at_.toNat < net.length := by omega
        have hX : net.getD e.at_.toNat zeroXF ∈ net := by rw [List.getD_eq_getElem?_getD, List.getElem?_eq_getElem hk]; exact List.getElem_mem hk
        have fx := okX_facts (v5 _ hX)
        split
        · have hio : ((net.getD e.at_.toNat zeroXF).to - 1).toNat < ms.length := by omega
          have hget : ms.getD ((net.getD e.at_.toNat zeroXF).to - 1).toNat zeroM = ms[((net.getD e.at_.toNat zeroXF).to - 1).toNat] := by rw [List.getD_eq_getElem?_getD, List.getElem?_eq_getElem hio]; rfl
          have hm := v4 _ _ (List.getElem?_eq_getElem hio)
          have gg := receive_goes (x := net.getD e.at_.toNat zeroXF) hm.2.2
          rw [hget]
          have hs := sendR_ok (delX_ok (k := e.at_.toNat) v5) (q := (receiveR ms[((net.getD e.at_.toNat zeroXF).to - 1).toNat] (net.getD e.at_.toNat zeroXF)).2.toList) (fun y hy => by have := recv_ok hy; rw [hm.2.1] at this; exact this)
          exact ⟨okC_put hv hs.1 hs.2 (List.getElem?_eq_getElem hio) gg.ok gg.id gg.mem, by simp⟩
        · split
          · have hs := sendR_ok (delX_ok (k := e.at_.toNat) v5) (q := []) (by simp)
            exact ⟨okC_mk v1 v2 hs.1 v4 hs.2, rfl⟩
          · split
            · rename_i h4 h5 h6
              rw [if_neg h4, if_neg h5, if_pos h6] at hc; cases hc
            · have hs := sendR_ok (net := net ++ [net.getD e.at_.toNat zeroXF]) (q := []) (n := ms.length) (fun x hx => by
                rcases List.mem_append.1 hx with e1 | e1
                · exact v5 x e1
                · simp only [List.mem_singleton] at e1; subst e1; exact v5 _ hX) (by simp)
              exact ⟨okC_mk v1 v2 hs.1 v4 hs.2, rfl⟩
    · rename_i h2
      rw [if_neg h2] at hc
      split
      · rename_i h3; rw [if_pos h3] at hc; cases hc
      · rename_i h3
        rw [if_neg h3] at hc
        split
        · have hio : (e.node - 1).toNat < ms.length := by omega
          have hget : ms.getD (e.node - 1).toNat zeroM = ms[(e.node - 1).toNat] := by rw [List.getD_eq_getElem?_getD, List.getElem?_eq_getElem hio]; rfl
          have hm := v4 _ _ (List.getElem?_eq_getElem hio)
          obtain ⟨a1, a2, a3, a4⟩ := nodeR_ok (e := e) hm.2.2
          rw [hget]
          have hs := sendR_ok v5 (q := (nodeR ms[(e.node - 1).toNat] e).2.1) (fun y hy => by have := a4 y hy; rw [hm.2.1] at this; exact this)
          exact ⟨okC_put hv hs.1 hs.2 (List.getElem?_eq_getElem hio) a1 a2 a3, by simp⟩
        · rename_i h4; rw [if_neg h4] at hc; exact absurd hc h4

theorem fit_rows {α : Type} {sh : List Sh} {y : PV} {c : α → List PV} {P : α → Prop} (hc : ∀ u, Fits sh u → ∃ a, u = c a ∧ P a) (h : Fit (.slice sh) y) : ∃ l : List α, y = .slice false (l.map c) ∧ l.length ≤ 9223372036854775807 ∧ ∀ a ∈ l, P a := by
  cases h with
  | slice l xs h hl hr =>
    have : ∀ xs : List (List PV), (∀ x ∈ xs, Fits sh x) → ∃ l : List α, xs = l.map c ∧ ∀ a ∈ l, P a := by
      intro xs
      induction xs with
      | nil => intro _; exact ⟨[], rfl, by simp⟩
      | cons x xs ih =>
        intro hx
        obtain ⟨n, hn, hp⟩ := hc x (hx x (by simp))
        obtain ⟨l, hl, hq⟩ := ih fun y hy => hx y (by simp [hy])
        exact ⟨n :: l, by rw [hn, hl]; rfl, fun a ha => by rcases List.mem_cons.1 ha with rfl | e; exact hp; exact hq a e⟩
    obtain ⟨l, e, hp⟩ := this xs fun x hx => ⟨hl x hx, fun j s y h1 h2 => by
      obtain ⟨i, hi⟩ := List.mem_iff_getElem?.1 hx
      exact hr i x j s y hi h1 h2⟩
    refine ⟨l, by rw [e], ?_, hp⟩
    rw [e] at h
    simpa [maxLen] using h

theorem fit_intsL {y : PV} (h : Fit (.slice [.int .i64]) y) : ∃ l, y = .slice false (intsPV l) ∧ l.length ≤ 9223372036854775807 := by
  obtain ⟨l, e, hl, _⟩ := fit_rows (c := intPV) (P := fun _ => True) (fun u h => by
    obtain ⟨y0, u0, rfl, e0, h⟩ := h.cons
    have hn := h.nil
    subst hn
    obtain ⟨n0, rfl, _⟩ := fit_int e0
    exact ⟨n0, rfl, trivial⟩) h
  exact ⟨l, e, hl⟩

theorem fit_itemsL {y : PV} (h : Fit (.slice [.int .i64, .str]) y) : ∃ l, y = .slice false (itemsPV l) ∧ l.length ≤ 9223372036854775807 := by
  obtain ⟨l, e, hl, _⟩ := fit_rows (c := itemPV) (P := fun _ => True) (fun u h => by
    obtain ⟨y0, u0, rfl, e0, h⟩ := h.cons
    obtain ⟨y1, u1, rfl, e1, h⟩ := h.cons
    have hn := h.nil
    subst hn
    obtain ⟨n0, rfl, _⟩ := fit_int e0
    obtain ⟨n1, rfl⟩ := fit_str e1
    exact ⟨(n0, n1), rfl, trivial⟩) h
  exact ⟨l, e, hl⟩

theorem fit_memberL {u : List PV} (h : Fits [.int .i64, .int .i64, .int .i64, .int .i64, .slice [.int .i64, .str], .int .i64, .int .i64, .slice [.int .i64], .slice [.int .i64], .slice [.int .i64]] u) : ∃ t : M × Fl, u = mC t.1 t.2 ∧ MIn t.1 := by
  obtain ⟨y0, u0, rfl, e0, h⟩ := h.cons
  obtain ⟨y1, u1, rfl, e1, h⟩ := h.cons
  obtain ⟨y2, u2, rfl, e2, h⟩ := h.cons
  obtain ⟨y3, u3, rfl, e3, h⟩ := h.cons
  obtain ⟨y4, u4, rfl, e4, h⟩ := h.cons
  obtain ⟨y5, u5, rfl, e5, h⟩ := h.cons
  obtain ⟨y6, u6, rfl, e6, h⟩ := h.cons
  obtain ⟨y7, u7, rfl, e7, h⟩ := h.cons
  obtain ⟨y8, u8, rfl, e8, h⟩ := h.cons
  obtain ⟨y9, u9, rfl, e9, h⟩ := h.cons
  have hn := h.nil
  subst hn
  obtain ⟨n0, rfl, a0, b0⟩ := fit_int e0
  obtain ⟨n1, rfl, a1, b1⟩ := fit_int e1
  obtain ⟨n2, rfl, _⟩ := fit_int e2
  obtain ⟨n3, rfl, _⟩ := fit_int e3
  obtain ⟨n4, rfl, c4⟩ := fit_itemsL e4
  obtain ⟨n5, rfl, _⟩ := fit_int e5
  obtain ⟨n6, rfl, _⟩ := fit_int e6
  obtain ⟨n7, rfl, c7⟩ := fit_intsL e7
  obtain ⟨n8, rfl, c8⟩ := fit_intsL e8
  obtain ⟨n9, rfl, c9⟩ := fit_intsL e9
  exact ⟨(⟨n0, n1, n2, n3, n4, n5, n6, n7, n8, n9⟩, ⟨false, false, false, false⟩), rfl, ⟨a0, b0, a1, b1, c4, c7, c8, c9⟩⟩

theorem fit_msgL {u : List PV} (h : Fits [.int .i64, .int .i64, .int .i64, .int .i64, .int .i64, .int .i64, .int .i64, .bool, .slice [.int .i64, .str]] u) : ∃ t : X × Bool, u = xC t.1 t.2 ∧ t.1.items.length ≤ 9223372036854775807 := by
  obtain ⟨y0, u0, rfl, e0, h⟩ := h.cons
  obtain ⟨y1, u1, rfl, e1, h⟩ := h.cons
  obtain ⟨y2, u2, rfl, e2, h⟩ := h.cons
  obtain ⟨y3, u3, rfl, e3, h⟩ := h.cons
  obtain ⟨y4, u4, rfl, e4, h⟩ := h.cons
  obtain ⟨y5, u5, rfl, e5, h⟩ := h.cons
  obtain ⟨y6, u6, rfl, e6, h⟩ := h.cons
  obtain ⟨y7, u7, rfl, e7, h⟩ := h.cons
  obtain ⟨y8, u8, rfl, e8, h⟩ := h.cons
  have hn := h.nil
  subst hn
  obtain ⟨n0, rfl, _⟩ := fit_int e0
  obtain ⟨n1, rfl, _⟩ := fit_int e1
  obtain ⟨n2, rfl, _⟩ := fit_int e2
  obtain ⟨n3, rfl, _⟩ := fit_int e3
  obtain ⟨n4, rfl, _⟩ := fit_int e4
  obtain ⟨n5, rfl, _⟩ := fit_int e5
  obtain ⟨n6, rfl, _⟩ := fit_int e6
  obtain ⟨n7, rfl⟩ := fit_bool e7
  obtain ⟨n8, rfl, c8⟩ := fit_itemsL e8
  exact ⟨(⟨n0, n1, n2, n3, n4, n5, n6, n7, n8⟩, false), rfl, c8⟩

theorem fit_cluster {u : List PV} (h : Fits [.slice [.int .i64, .int .i64, .int .i64, .int .i64, .slice [.int .i64, .str], .int .i64, .int .i64, .slice [.int .i64], .slice [.int .i64], .slice [.int .i64]], .slice [.int .i64, .int .i64, .int .i64, .int .i64, .int .i64, .int .i64, .int .i64, .bool, .slice [.int .i64, .str]]] u) :
    ∃ (l : List (M × Fl)) (net : List (X × Bool)), u = [.slice false (memPV l), .slice false (netPV net)] ∧ l.length ≤ 9223372036854775807 ∧ net.length ≤ 9223372036854775807 ∧ (∀ t ∈ l, MIn t.1) ∧ ∀ t ∈ net, t.1.items.length ≤ 9223372036854775807 := by
  obtain ⟨y0, u0, rfl, e0, h⟩ := h.cons
  obtain ⟨y1, u1, rfl, e1, h⟩ := h.cons
  have hn := h.nil
  subst hn
  obtain ⟨l, rfl, hl, pl⟩ := fit_rows (c := fun t : M × Fl => mC t.1 t.2) (fun u h => fit_memberL h) e0
  obtain ⟨n, rfl, hn, pn⟩ := fit_rows (c := fun t : X × Bool => xC t.1 t.2) (fun u h => fit_msgL h) e1
  exact ⟨l, n, rfl, hl, hn, pl, pn⟩

theorem fit_event {u : List PV} (h : Fits [.int .i64, .int .i64, .int .i64, .str] u) : ∃ e : Evt, u = evC e ∧ True := by
  obtain ⟨y0, u0, rfl, e0, h⟩ := h.cons
  obtain ⟨y1, u1, rfl, e1, h⟩ := h.cons
  obtain ⟨y2, u2, rfl, e2, h⟩ := h.cons
  obtain ⟨y3, u3, rfl, e3, h⟩ := h.cons
  have hn := h.nil
  subst hn
  obtain ⟨n0, rfl, _⟩ := fit_int e0
  obtain ⟨n1, rfl, _⟩ := fit_int e1
  obtain ⟨n2, rfl, _⟩ := fit_int e2
  obtain ⟨n3, rfl⟩ := fit_str e3
  exact ⟨⟨n0, n1, n2, n3⟩, rfl, trivial⟩

theorem examples_run : ((cfs tb.A tb.X 16).pure 16 []) = some (.bool true) := by kernel_rfl

theorem ps_examples : PS tb 16 [] (.bool true) := ⟨16, examples_run⟩

theorem l_rv1 (l : List (M × Fl)) (a : Bool) (net : List (X × Bool)) (b : Bool) (hl : l.length ≤ 7) (hm : ∀ t ∈ l, MIn t.1) (K : Ex → St → Prop)
    (hx : (∀ j, j < l.length → okAtC (fsts l) j = true) → K (.exit 0) ⟨[(1, .ptr 0 0), (3, .p (.int .i64 l.length))], [(0, .var false [.p (.slice a (memPV l)), .p (.slice b (netPV net))])], 1, [0]⟩)
    (hr : ∀ i, i < l.length → okAtC (fsts l) i = false → ∀ s', aget s'.env 2 = some (.p (.bool false)) → K .ret s') : ∀ (m i : Nat), i + m = l.length → (∀ j, j < i → okAtC (fsts l) j = true) →
    W tb a24_l1 ⟨[(1, .ptr 0 0), (3, .p (.int .i64 l.length)), (4, .p (.int .i64 i))], [(0, .var false [.p (.slice a (memPV l)), .p (.slice b (netPV net))])], 1, [0]⟩ (LK tb (.ghost (.free [5]) (.ghost .lower a24_l1)) K) := by
  intro m
  induction m with
  | zero =>
    intro i hi ht
    have h1 : ¬ (i : Int) < l.length := by omega
    refine i_code (by unfold a24_l1; exact rfl) ?_
    repeat' (first | (simp (disch := omega) only [go_sem, seval, reduceCtorEq, h1]) | with_reducible exact Ev.mk | ((first | apply x_split | apply x_splitg) <;> intro hβ hb <;> (simp (disch := omega) only [go_sem, seval, reduceCtorEq, h1, hβ]) <;> clear hβ))
    exact hx (fun j hj => ht j (by omega))
  | succ m ih =>
    intro i hi ht
    have h1 : (i : Int) < l.length := by omega
    have h2 : i < l.length := by omega
    have h4 : (0 : Int) ≤ i := by omega
    have h3 := memPV_get l i h2
    have hmi := hm l[i] (List.getElem_mem h2)
    have hq : okAtC (fsts l) i = (decide (l[i].1.id = ((i + 1 : Nat) : Int)) && decide (l[i].1.members = l.length) && okM l[i].1) := by rw [okAtC, fsts_getD l i h2, fsts_length]
    have g := ps29 l[i].1 l[i].2 hmi
    refine i_code (by unfold a24_l1; exact rfl) ?_
    repeat' (first | exact g | (simp (disch := omega) only [go_sem, seval, reduceCtorEq, h1, h3, h4, mC]) | with_reducible exact Ev.mk | apply x_call | ((first | apply x_split | apply x_splitg) <;> intro hβ hb <;> (simp (disch := omega) only [go_sem, seval, reduceCtorEq, h1, h3, h4, mC, hβ]) <;> clear hβ))
    all_goals first
      | exact hr i h2 (by rw [hq]; simp_all) _ rfl
      | (refine i_lk (W_round ?_)
         (try simp (disch := omega) only [go_sem, seval, reduceCtorEq])
         exact ih (i + 1) (by omega) (lt_step' ht (by rw [hq]; simp_all)))

theorem l_rv0 (l : List (M × Fl)) (a : Bool) (net : List (X × Bool)) (b : Bool) (hl : l.length ≤ 7) (hn : net.length ≤ 256) (hni : ∀ t ∈ net, t.1.items.length ≤ 9223372036854775807) (K : Ex → St → Prop)
    (hx : (∀ j, j < net.length → (fun j => okX (getX net j) l.length) j = true) → K (.exit 2) ⟨[], [], 0, [0]⟩)
    (hr : ∀ i, i < net.length → (fun j => okX (getX net j) l.length) i = false → ∀ s', aget s'.env 2 = some (.p (.bool false)) → K .ret s') : ∀ (m i : Nat), i + m = net.length → (∀ j, j < i → (fun j => okX (getX net j) l.length) j = true) →
    W tb a24_l0 ⟨[(1, .ptr 0 0), (3, .p (.int .i64 l.length)), (6, .p (.int .i64 i))], [(0, .var false [.p (.slice a (memPV l)), .p (.slice b (netPV net))])], 1, [0]⟩ (LK tb (.ghost .lower a24_l0) K) := by
  intro m
  induction m with
  | zero =>
    intro i hi ht
    have h1 : ¬ (i : Int) < net.length := by omega
    refine i_code (by unfold a24_l0; exact rfl) ?_
    repeat' (first | (simp (disch := omega) only [go_sem, seval, reduceCtorEq, h1, netPV_length]) | with_reducible exact Ev.mk | ((first | apply x_split | apply x_splitg) <;> intro hβ hb <;> (simp (disch := omega) only [go_sem, seval, reduceCtorEq, h1, netPV_length, hβ]) <;> clear hβ))
    exact hx (fun j hj => ht j (by omega))
  | succ m ih =>
    intro i hi ht
    have h1 : (i : Int) < net.length := by omega
    have h2 : i < net.length := by omega
    have h4 : (0 : Int) ≤ i := by omega
    have h3 := netPV_get net i h2
    have hq := getX_get net i h2
    have g := ps40 net[i].1 net[i].2 l.length (hni _ (List.getElem_mem h2))
    refine i_code (by unfold a24_l0; exact rfl) ?_
    repeat' (first | exact g | (simp (disch := omega) only [go_sem, seval, reduceCtorEq, h1, h3, h4, xC, netPV_length]) | with_reducible exact Ev.mk | apply x_call | ((first | apply x_split | apply x_splitg) <;> intro hβ hb <;> (simp (disch := omega) only [go_sem, seval, reduceCtorEq, h1, h3, h4, xC, netPV_length, hβ]) <;> clear hβ))
    all_goals first
      | exact hr i h2 (by simp only [hq]; simp_all) _ rfl
      | (refine i_lk (W_round ?_)
         (try simp (disch := omega) only [go_sem, seval, reduceCtorEq])
         exact ih (i + 1) (by omega) (lt_step' ht (by simp only [hq]; simp_all)))

theorem ps_rvalid (l : List (M × Fl)) (a : Bool) (net : List (X × Bool)) (b : Bool) (hl : l.length ≤ 9223372036854775807) (hn : net.length ≤ 9223372036854775807) (hm : ∀ t ∈ l, MIn t.1) (hni : ∀ t ∈ net, t.1.items.length ≤ 9223372036854775807) :
    PS tb 24 [.agg [.slice a (memPV l), .slice b (netPV net)]] (.bool (okC (fsts l) (fstx net))) := by
  refine PS_of (af := a24) rfl rfl ?_
  unfold a24
  dsimp only [List.map, ofPV, initEnv]
  have e1 := fsts_length l
  have e2 := fstx_length net
  by_cases c1 : (l.length : Int) < 1
  · have : okC (fsts l) (fstx net) = false := by simp [okC]; omega
    rw [this]
    repeat' (first | (simp (disch := omega) only [go_sem, seval, reduceCtorEq, memPV_length, netPV_length, c1]) | with_reducible exact Ev.mk | ((first | apply x_split | apply x_splitg) <;> intro hβ hb <;> (simp (disch := omega) only [go_sem, seval, reduceCtorEq, memPV_length, netPV_length, c1, hβ]) <;> clear hβ))
  · by_cases c2 : (7 : Int) < l.length
    · have : okC (fsts l) (fstx net) = false := by simp [okC]; omega
      rw [this]
      repeat' (first | (simp (disch := omega) only [go_sem, seval, reduceCtorEq, memPV_length, netPV_length, c1, c2]) | with_reducible exact Ev.mk | ((first | apply x_split | apply x_splitg) <;> intro hβ hb <;> (simp (disch := omega) only [go_sem, seval, reduceCtorEq, memPV_length, netPV_length, c1, c2, hβ]) <;> clear hβ))
    · by_cases c3 : (256 : Int) < net.length
      · have : okC (fsts l) (fstx net) = false := by simp [okC]; omega
        rw [this]
        repeat' (first | (simp (disch := omega) only [go_sem, seval, reduceCtorEq, memPV_length, netPV_length, c1, c2, c3]) | with_reducible exact Ev.mk | ((first | apply x_split | apply x_splitg) <;> intro hβ hb <;> (simp (disch := omega) only [go_sem, seval, reduceCtorEq, memPV_length, netPV_length, c1, c2, c3, hβ]) <;> clear hβ))
      · repeat' (first | (simp (disch := omega) only [go_sem, seval, reduceCtorEq, memPV_length, netPV_length, c1, c2, c3]) | with_reducible exact Ev.mk | ((first | apply x_split | apply x_splitg) <;> intro hβ hb <;> (simp (disch := omega) only [go_sem, seval, reduceCtorEq, memPV_length, netPV_length, c1, c2, c3, hβ]) <;> clear hβ))
        refine W_round ?_
        (try simp (disch := omega) only [go_sem, seval, reduceCtorEq])
        refine l_rv1 l a net b (by omega) hm _ ?_ ?_ l.length 0 (by omega) (fun j hj => by omega)
        · intro h1
          (try simp (disch := omega) only [go_sem, seval, reduceCtorEq, netPV_length])
          refine W_round ?_
          (try simp (disch := omega) only [go_sem, seval, reduceCtorEq])
          refine l_rv0 l a net b (by omega) (by omega) hni _ ?_ ?_ net.length 0 (by omega) (fun j hj => by omega)
          · intro h2
            have : okC (fsts l) (fstx net) = true := by
              have h3 : (List.range (fsts l).length).all (okAtC (fsts l)) = true := by rw [List.all_eq_true]; intro j hj; rw [e1] at hj; exact h1 j (List.mem_range.1 hj)
              have h4 : (fstx net).all (fun x => okX x (fsts l).length) = true := by rw [← all_net, e1]; exact h2
              unfold okC
              rw [h3, h4]
              simp only [e1, e2, Bool.and_true, Bool.and_eq_true, decide_eq_true_eq]
              omega
            rw [this]
            repeat' (first | (simp (disch := omega) only [go_sem, seval, reduceCtorEq]) | with_reducible exact Ev.mk | ((first | apply x_split | apply x_splitg) <;> intro hβ hb <;> (simp (disch := omega) only [go_sem, seval, reduceCtorEq, hβ]) <;> clear hβ))
          · intro i hi h2 s' hs
            have : okC (fsts l) (fstx net) = false := by
              have h4 : (fstx net).all (fun x => okX x (fsts l).length) = false := by
                cases h : (fstx net).all (fun x => okX x (fsts l).length) with
                | false => rfl
                | true =>
                  have h5 := (all_net net _).2 h i hi
                  simp only [e1] at h5
                  have h6 : okX (getX net i) l.length = false := h2
                  rw [h5] at h6; cases h6
              simp only [okC, h4, Bool.and_false]
            rw [this]
            (try simp (disch := omega) only [go_sem, seval, reduceCtorEq, hs])
        · intro i hi h2 s' hs
          have : okC (fsts l) (fstx net) = false := by
            have h3 : (List.range (fsts l).length).all (okAtC (fsts l)) = false := by
              cases h : (List.range (fsts l).length).all (okAtC (fsts l)) with
              | false => rfl
              | true =>
                have := List.all_eq_true.1 h i (List.mem_range.2 (by rw [e1]; exact hi))
                rw [this] at h2; cases h2
            simp only [okC, h3, Bool.and_false, Bool.false_and]
          rw [this]
          (try simp (disch := omega) only [go_sem, seval, reduceCtorEq, hs])

theorem walkQuorumStaysValid {u v : List PV} (h : Fits [.slice [.int .i64, .int .i64, .int .i64, .int .i64, .slice [.int .i64, .str], .int .i64, .int .i64, .slice [.int .i64], .slice [.int .i64], .slice [.int .i64]], .slice [.int .i64, .int .i64, .int .i64, .int .i64, .int .i64, .int .i64, .int .i64, .bool, .slice [.int .i64, .str]]] u)
    (h' : Fits [.int .i64, .int .i64, .int .i64, .str] v) : PS tb 7 [.agg u, .agg v] (.bool true) := by
  obtain ⟨l, net, rfl, hl, hn, hm, hi⟩ := fit_cluster h
  obtain ⟨e, rfl, _⟩ := fit_event h'
  obtain ⟨p, hp, l2, a2, n2, b2, rfl, e1, e2⟩ := ps_do l false net false e.kind e.node e.at_ e.data hl hn hm
  have key := okC_do (ms := fsts l) (net := fstx net) (e := e)
  obtain ⟨kind, node, at_, data⟩ := e
  generalize hR : evR (fsts l) (fstx net) ⟨kind, node, at_, data⟩ = R at *
  simp only [evC] at hp
  refine PS_of (af := a7) rfl rfl ?_
  unfold a7
  dsimp only [List.map, ofPV, initEnv, evC]
  by_cases hz : R.2 = 0
  · obtain ⟨k1, k2, k3⟩ := key hz
    rw [← e1, ← e2] at k2
    rw [← e1, fsts_length, fsts_length] at k3
    have t1 : (R.2 != 0) = false := by simp [hz]
    have sm := smallM_of k2
    have sn := small_of k2
    have q := ps_rvalid l2 a2 n2 b2 (by have := sm.1; omega) (by have := sn.1; omega) (fun t ht => (sm.2 t ht).toMIn) (fun t ht => by have := sn.2 t ht; omega)
    rw [k2] at q
    repeat' (first | exact hp | exact q | exact ps_examples | (simp (disch := omega) only [go_sem, seval, reduceCtorEq, t1, memPV_length, k3]) | with_reducible exact Ev.mk | apply x_call | ((first | apply x_split | apply x_splitg) <;> intro hβ hb <;> (simp (disch := omega) only [go_sem, seval, reduceCtorEq, t1, memPV_length, k3, hβ]) <;> clear hβ))
  · have t1 : (R.2 != 0) = true := by simpa using hz
    have e3 : R.1 = ([], []) := by
      rw [← hR] at hz ⊢
      unfold evR at hz ⊢
      split
      · rfl
      · rename_i c1
        rw [if_neg c1] at hz
        split
        · rename_i c2
          rw [if_pos c2] at hz
          unfold transitR at hz ⊢
          split
          · rfl
          · rename_i c3
            rw [if_neg c3] at hz
            split
            · rename_i c4; rw [if_pos c4] at hz; exact absurd rfl hz
            · rename_i c4
              rw [if_neg c4] at hz
              split
              · rename_i c5; rw [if_pos c5] at hz; exact absurd rfl hz
              · rename_i c5
                rw [if_neg c5] at hz
                split
                · rfl
                · rename_i c6; rw [if_neg c6] at hz; exact absurd rfl hz
        · rename_i c2
          rw [if_neg c2] at hz
          split
          · rfl
          · rename_i c3
            rw [if_neg c3] at hz
            split
            · rename_i c4; rw [if_pos c4] at hz; exact absurd rfl hz
            · rfl
    rw [e3] at e1 e2
    have l0 : l2.length = 0 := by rw [← fsts_length, e1]; rfl
    have n0 : n2.length = 0 := by rw [← fstx_length, e2]; rfl
    repeat' (first | exact hp | exact ps_examples | (simp (disch := omega) only [go_sem, seval, reduceCtorEq, t1, memPV_length, netPV_length, l0, n0]) | with_reducible exact Ev.mk | apply x_call | ((first | apply x_split | apply x_splitg) <;> intro hβ hb <;> (simp (disch := omega) only [go_sem, seval, reduceCtorEq, t1, memPV_length, netPV_length, l0, n0, hβ]) <;> clear hβ))

def newC (n : Nat) : List (M × Fl) := (List.range n).map fun i => ((⟨(i + 1 : Nat), n, 0, 0, [], 1, 0, [], [], []⟩ : M), ⟨true, true, true, true⟩)

theorem ps_newBad (n : Int) (h : n < 1 ∨ 7 < n) : PS tb 13 [.int .i64 n] (.tuple [.agg [.slice true [], .slice true []], .int .i64 1]) := by
  refine PS_of (af := a13) rfl rfl ?_
  unfold a13
  dsimp only [List.map, ofPV, initEnv]
  by_cases c : n < 1
  · repeat' (first | (simp (disch := omega) only [go_sem, seval, reduceCtorEq, c]) | with_reducible exact Ev.mk | ((first | apply x_split | apply x_splitg) <;> intro hβ hb <;> (simp (disch := omega) only [go_sem, seval, reduceCtorEq, c, hβ]) <;> clear hβ))
  · have c2 : 7 < n := by omega
    repeat' (first | (simp (disch := omega) only [go_sem, seval, reduceCtorEq, c, c2]) | with_reducible exact Ev.mk | ((first | apply x_split | apply x_splitg) <;> intro hβ hb <;> (simp (disch := omega) only [go_sem, seval, reduceCtorEq, c, c2, hβ]) <;> clear hβ))

theorem new1 : ((cfs tb.A tb.X 10).pure 13 [.int .i64 1]) = some (.tuple [.agg [.slice false (memPV (newC 1)), .slice true []], .int .i64 0]) := by kernel_rfl

theorem new2 : ((cfs tb.A tb.X 10).pure 13 [.int .i64 2]) = some (.tuple [.agg [.slice false (memPV (newC 2)), .slice true []], .int .i64 0]) := by kernel_rfl

theorem new3 : ((cfs tb.A tb.X 10).pure 13 [.int .i64 3]) = some (.tuple [.agg [.slice false (memPV (newC 3)), .slice true []], .int .i64 0]) := by kernel_rfl

theorem new4 : ((cfs tb.A tb.X 10).pure 13 [.int .i64 4]) = some (.tuple [.agg [.slice false (memPV (newC 4)), .slice true []], .int .i64 0]) := by kernel_rfl

theorem new5 : ((cfs tb.A tb.X 10).pure 13 [.int .i64 5]) = some (.tuple [.agg [.slice false (memPV (newC 5)), .slice true []], .int .i64 0]) := by kernel_rfl

theorem new6 : ((cfs tb.A tb.X 10).pure 13 [.int .i64 6]) = some (.tuple [.agg [.slice false (memPV (newC 6)), .slice true []], .int .i64 0]) := by kernel_rfl

theorem new7 : ((cfs tb.A tb.X 10).pure 13 [.int .i64 7]) = some (.tuple [.agg [.slice false (memPV (newC 7)), .slice true []], .int .i64 0]) := by kernel_rfl

theorem ps_new (n : Nat) (h1 : 1 ≤ n) (h7 : n ≤ 7) : PS tb 13 [.int .i64 n] (.tuple [.agg [.slice false (memPV (newC n)), .slice true []], .int .i64 0]) := by
  have : n = 1 ∨ n = 2 ∨ n = 3 ∨ n = 4 ∨ n = 5 ∨ n = 6 ∨ n = 7 := by omega
  rcases this with rfl | rfl | rfl | rfl | rfl | rfl | rfl
  · exact ⟨10, new1⟩
  · exact ⟨10, new2⟩
  · exact ⟨10, new3⟩
  · exact ⟨10, new4⟩
  · exact ⟨10, new5⟩
  · exact ⟨10, new6⟩
  · exact ⟨10, new7⟩

theorem ps_rnewBad (n : Int) (h : n < 1 ∨ 7 < n) : PS tb 14 [.int .i64 n] (.tuple [.agg [.slice true [], .slice true []], .int .i64 1]) := by
  refine PS_of (af := a14) rfl rfl ?_
  unfold a14
  dsimp only [List.map, ofPV, initEnv]
  by_cases c : n < 1
  · repeat' (first | (simp (disch := omega) only [go_sem, seval, reduceCtorEq, c]) | with_reducible exact Ev.mk | ((first | apply x_split | apply x_splitg) <;> intro hβ hb <;> (simp (disch := omega) only [go_sem, seval, reduceCtorEq, c, hβ]) <;> clear hβ))
  · have c2 : 7 < n := by omega
    repeat' (first | (simp (disch := omega) only [go_sem, seval, reduceCtorEq, c, c2]) | with_reducible exact Ev.mk | ((first | apply x_split | apply x_splitg) <;> intro hβ hb <;> (simp (disch := omega) only [go_sem, seval, reduceCtorEq, c, c2, hβ]) <;> clear hβ))

theorem same0 : ((cfs tb.A tb.X 10).pure 15 [.agg [.slice true [], .slice true []], .agg [.slice true [], .slice true []]]) = some (.bool true) := by kernel_rfl

theorem rnew1 : ((cfs tb.A tb.X 10).pure 14 [.int .i64 1]) = some (.tuple [.agg [.slice false (memPV (newC 1)), .slice true []], .int .i64 0]) := by kernel_rfl

theorem same1 : ((cfs tb.A tb.X 10).pure 15 [.agg [.slice false (memPV (newC 1)), .slice true []], .agg [.slice false (memPV (newC 1)), .slice true []]]) = some (.bool true) := by kernel_rfl

theorem rnew2 : ((cfs tb.A tb.X 10).pure 14 [.int .i64 2]) = some (.tuple [.agg [.slice false (memPV (newC 2)), .slice true []], .int .i64 0]) := by kernel_rfl

theorem same2 : ((cfs tb.A tb.X 10).pure 15 [.agg [.slice false (memPV (newC 2)), .slice true []], .agg [.slice false (memPV (newC 2)), .slice true []]]) = some (.bool true) := by kernel_rfl

theorem rnew3 : ((cfs tb.A tb.X 10).pure 14 [.int .i64 3]) = some (.tuple [.agg [.slice false (memPV (newC 3)), .slice true []], .int .i64 0]) := by kernel_rfl

theorem same3 : ((cfs tb.A tb.X 10).pure 15 [.agg [.slice false (memPV (newC 3)), .slice true []], .agg [.slice false (memPV (newC 3)), .slice true []]]) = some (.bool true) := by kernel_rfl

theorem rnew4 : ((cfs tb.A tb.X 10).pure 14 [.int .i64 4]) = some (.tuple [.agg [.slice false (memPV (newC 4)), .slice true []], .int .i64 0]) := by kernel_rfl

theorem same4 : ((cfs tb.A tb.X 10).pure 15 [.agg [.slice false (memPV (newC 4)), .slice true []], .agg [.slice false (memPV (newC 4)), .slice true []]]) = some (.bool true) := by kernel_rfl

theorem rnew5 : ((cfs tb.A tb.X 10).pure 14 [.int .i64 5]) = some (.tuple [.agg [.slice false (memPV (newC 5)), .slice true []], .int .i64 0]) := by kernel_rfl

theorem same5 : ((cfs tb.A tb.X 10).pure 15 [.agg [.slice false (memPV (newC 5)), .slice true []], .agg [.slice false (memPV (newC 5)), .slice true []]]) = some (.bool true) := by kernel_rfl

theorem rnew6 : ((cfs tb.A tb.X 10).pure 14 [.int .i64 6]) = some (.tuple [.agg [.slice false (memPV (newC 6)), .slice true []], .int .i64 0]) := by kernel_rfl

theorem same6 : ((cfs tb.A tb.X 10).pure 15 [.agg [.slice false (memPV (newC 6)), .slice true []], .agg [.slice false (memPV (newC 6)), .slice true []]]) = some (.bool true) := by kernel_rfl

theorem rnew7 : ((cfs tb.A tb.X 10).pure 14 [.int .i64 7]) = some (.tuple [.agg [.slice false (memPV (newC 7)), .slice true []], .int .i64 0]) := by kernel_rfl

theorem same7 : ((cfs tb.A tb.X 10).pure 15 [.agg [.slice false (memPV (newC 7)), .slice true []], .agg [.slice false (memPV (newC 7)), .slice true []]]) = some (.bool true) := by kernel_rfl

theorem ps_rnew (n : Nat) (h1 : 1 ≤ n) (h7 : n ≤ 7) : PS tb 14 [.int .i64 n] (.tuple [.agg [.slice false (memPV (newC n)), .slice true []], .int .i64 0]) ∧ PS tb 15 [.agg [.slice false (memPV (newC n)), .slice true []], .agg [.slice false (memPV (newC n)), .slice true []]] (.bool true) := by
  have : n = 1 ∨ n = 2 ∨ n = 3 ∨ n = 4 ∨ n = 5 ∨ n = 6 ∨ n = 7 := by omega
  rcases this with rfl | rfl | rfl | rfl | rfl | rfl | rfl
  · exact ⟨⟨10, rnew1⟩, ⟨10, same1⟩⟩
  · exact ⟨⟨10, rnew2⟩, ⟨10, same2⟩⟩
  · exact ⟨⟨10, rnew3⟩, ⟨10, same3⟩⟩
  · exact ⟨⟨10, rnew4⟩, ⟨10, same4⟩⟩
  · exact ⟨⟨10, rnew5⟩, ⟨10, same5⟩⟩
  · exact ⟨⟨10, rnew6⟩, ⟨10, same6⟩⟩
  · exact ⟨⟨10, rnew7⟩, ⟨10, same7⟩⟩

theorem walkQuorumNews {u : PV} (h : Fit (.int .i64) u) : PS tb 4 [u] (.bool true) := by
  obtain ⟨z, rfl, _⟩ := fit_int h
  refine PS_of (af := a4) rfl rfl ?_
  unfold a4
  dsimp only [List.map, ofPV, initEnv]
  by_cases c : z < 1 ∨ 7 < z
  · have q1 := ps_newBad z c
    have q2 := ps_rnewBad z c
    have q3 : PS tb 15 [.agg [.slice true [], .slice true []], .agg [.slice true [], .slice true []]] (.bool true) := ⟨10, same0⟩
    repeat' (first | exact q1 | exact q2 | exact q3 | exact ps_examples | (simp (disch := omega) only [go_sem, seval, reduceCtorEq]) | with_reducible exact Ev.mk | apply x_call | ((first | apply x_split | apply x_splitg) <;> intro hβ hb <;> (simp (disch := omega) only [go_sem, seval, reduceCtorEq, hβ]) <;> clear hβ))
  · obtain ⟨n, rfl⟩ := Int.eq_ofNat_of_zero_le (show 0 ≤ z by omega)
    have q1 := ps_new n (by omega) (by omega)
    obtain ⟨q2, q3⟩ := ps_rnew n (by omega) (by omega)
    generalize memPV (newC n) = R at *
    repeat' (first | exact q1 | exact q2 | exact q3 | exact ps_examples | (simp (disch := omega) only [go_sem, seval, reduceCtorEq]) | with_reducible exact Ev.mk | apply x_call | ((first | apply x_split | apply x_splitg) <;> intro hβ hb <;> (simp (disch := omega) only [go_sem, seval, reduceCtorEq, hβ]) <;> clear hβ))

end Go.Dv.Try
