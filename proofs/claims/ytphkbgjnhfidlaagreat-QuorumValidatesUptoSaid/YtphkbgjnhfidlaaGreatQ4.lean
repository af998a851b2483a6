/-
  Specifications of the functions of this claim, parts 4, 13, 7, 8, 10, 43, 34, 14, 35, 36.
-/
import Derived.Test.YtphkbgjnhfidlaaGreatTab
import Derived.Test.YtphkbgjnhfidlaaGreatStep
import Derived.Test.YtphkbgjnhfidlaaGreatS1
import Derived.Test.YtphkbgjnhfidlaaGreatS7
import Derived.Test.YtphkbgjnhfidlaaGreatS12
import Derived.Test.YtphkbgjnhfidlaaGreatS16
import Derived.Test.YtphkbgjnhfidlaaGreatBridge
import Derived.Test.YtphkbgjnhfidlaaGreatBulk
set_option linter.unusedVariables false
set_option linter.unusedSimpArgs false
set_option maxRecDepth 100000
set_option maxHeartbeats 16000000
namespace Go.Dv.Tryz
open Go Go.Dv

def okAtC (ms : List M) (i : Nat) : Bool := decide ((ms.getD i zeroM).id = ((i + 1 : Nat) : Int)) && decide ((ms.getD i zeroM).members = ms.length) && okM (ms.getD i zeroM)

def okC (ms : List M) (net : List X) : Bool := decide (1 ≤ ms.length) && decide (ms.length ≤ 7) && decide (net.length ≤ 256) && (List.range ms.length).all (okAtC ms) && net.all (fun x => okX x ms.length)

def fsts (l : List (M × Fl)) : List M := l.map (·.1)

def fstx (l : List (X × Bool)) : List X := l.map (·.1)

theorem fsts_length (l : List (M × Fl)) : (fsts l).length = l.length := by simp [fsts]

theorem fstx_length (l : List (X × Bool)) : (fstx l).length = l.length := by simp [fstx]

theorem fsts_getD (l : List (M × Fl)) (i : Nat) (h : i < l.length) : (fsts l).getD i zeroM = l[i].1 := by simp [fsts, List.getD_eq_getElem?_getD, h]

theorem lt_step' {q : Nat → Bool} {i : Nat} (h : ∀ j, j < i → q j = true) (hi : q i = true) : ∀ j, j < i + 1 → q j = true := by
  intro j hj
  rcases Nat.lt_or_ge j i with h1 | h1
  · exact h j h1
  · have : j = i := by omega
    rw [this]; exact hi

theorem l_qv1 (l : List (M × Fl)) (a : Bool) (net : List (X × Bool)) (b : Bool) (hl : l.length ≤ 7) (hm : ∀ t ∈ l, MIn t.1) (K : Ex → St → Prop)
    (hx : (∀ j, j < l.length → okAtC (fsts l) j = true) → K (.exit 0) ⟨[(1, .ptr 0 0), (3, .p (.int .i64 l.length))], [(0, .var false [.p (.slice a (memPV l)), .p (.slice b (netPV net))])], 1, [0]⟩)
    (hr : ∀ i, i < l.length → okAtC (fsts l) i = false → ∀ s', aget s'.env 2 = some (.p (.bool false)) → K .ret s') : ∀ (m i : Nat), i + m = l.length → (∀ j, j < i → okAtC (fsts l) j = true) →
    W tb a6_l1 ⟨[(1, .ptr 0 0), (3, .p (.int .i64 l.length)), (24, .p (.slice a (memPV l))), (25, .p (.int .i64 l.length)), (26, .p (.int .i64 i))], [(0, .var false [.p (.slice a (memPV l)), .p (.slice b (netPV net))])], 1, [0]⟩ (LK tb (.ghost (.free [5]) (.ghost .lower a6_l1)) K) := by
  intro m
  induction m with
  | zero =>
    intro i hi ht
    have h1 : ¬ (i : Int) < l.length := by omega
    refine i_code (by unfold a6_l1; exact rfl) ?_
    repeat' (first | (simp (disch := omega) only [go_sem, seval, reduceCtorEq, h1]) | with_reducible exact Ev.mk | ((first | apply x_split | apply x_splitg) <;> intro hβ hb <;> (simp (disch := omega) only [go_sem, seval, reduceCtorEq, h1, hβ]) <;> clear hβ))
    exact hx (fun j hj => ht j (by omega))
  | succ m ih =>
    intro i hi ht
    have h1 : (i : Int) < l.length := by omega
    have h2 : i < l.length := by omega
    have h4 : (0 : Int) ≤ i := by omega
    have h3 := memPV_get l i h2
    have hmi := hm l[i] (List.getElem_mem h2)
    have hq : okAtC (fsts l) i = (decide (l[i].1.id = ((i + 1 : Nat) : Int)) && decide (l[i].1.members = l.length) && okM l[i].1) := by rw [okAtC, fsts_getD l i h2, fsts_length]
    have g := ps28 l[i].1 l[i].2 hmi
    refine i_code (by unfold a6_l1; exact rfl) ?_
    repeat' (first | exact g | (simp (disch := omega) only [go_sem, seval, reduceCtorEq, h1, h3, h4, mC]) | with_reducible exact Ev.mk | apply x_call | ((first | apply x_split | apply x_splitg) <;> intro hβ hb <;> (simp (disch := omega) only [go_sem, seval, reduceCtorEq, h1, h3, h4, mC, hβ]) <;> clear hβ))
    all_goals first
      | exact hr i h2 (by rw [hq]; simp_all) _ rfl
      | (refine i_lk (W_round ?_)
         (try simp (disch := omega) only [go_sem, seval, reduceCtorEq])
         exact ih (i + 1) (by omega) (lt_step' ht (by rw [hq]; simp_all)))

theorem l_qv0 (l : List (M × Fl)) (a : Bool) (net : List (X × Bool)) (b : Bool) (hl : l.length ≤ 7) (hn : net.length ≤ 256) (K : Ex → St → Prop)
    (hx : (∀ j, j < net.length → (fun j => okX (getX net j) l.length) j = true) → K (.exit 2) ⟨[], [], 0, [0]⟩)
    (hr : ∀ i, i < net.length → (fun j => okX (getX net j) l.length) i = false → ∀ s', aget s'.env 2 = some (.p (.bool false)) → K .ret s') : ∀ (m i : Nat), i + m = net.length → (∀ j, j < i → (fun j => okX (getX net j) l.length) j = true) →
    W tb a6_l0 ⟨[(3, .p (.int .i64 l.length)), (49, .p (.slice b (netPV net))), (50, .p (.int .i64 net.length)), (51, .p (.int .i64 i))], [], 0, [0]⟩ (LK tb (.ghost (.free [1, 7]) (.ghost .lower a6_l0)) K) := by
  intro m
  induction m with
  | zero =>
    intro i hi ht
    have h1 : ¬ (i : Int) < net.length := by omega
    refine i_code (by unfold a6_l0; exact rfl) ?_
    repeat' (first | (simp (disch := omega) only [go_sem, seval, reduceCtorEq, h1]) | with_reducible exact Ev.mk | ((first | apply x_split | apply x_splitg) <;> intro hβ hb <;> (simp (disch := omega) only [go_sem, seval, reduceCtorEq, h1, hβ]) <;> clear hβ))
    exact hx (fun j hj => ht j (by omega))
  | succ m ih =>
    intro i hi ht
    have h1 : (i : Int) < net.length := by omega
    have h2 : i < net.length := by omega
    have h4 : (0 : Int) ≤ i := by omega
    have h3 := netPV_get net i h2
    have hq := getX_get net i h2
    have g := ps131 net[i].1 net[i].2 l.length
    refine i_code (by unfold a6_l0; exact rfl) ?_
    repeat' (first | exact g | (simp (disch := omega) only [go_sem, seval, reduceCtorEq, h1, h3, h4, xC]) | with_reducible exact Ev.mk | apply x_call | ((first | apply x_split | apply x_splitg) <;> intro hβ hb <;> (simp (disch := omega) only [go_sem, seval, reduceCtorEq, h1, h3, h4, xC, hβ]) <;> clear hβ))
    all_goals first
      | exact hr i h2 (by simp only [hq]; simp_all) _ rfl
      | (refine i_lk (W_round ?_)
         (try simp (disch := omega) only [go_sem, seval, reduceCtorEq])
         exact ih (i + 1) (by omega) (lt_step' ht (by simp only [hq]; simp_all)))

theorem all_net (net : List (X × Bool)) (p : X → Bool) : (∀ j, j < net.length → p (getX net j) = true) ↔ (fstx net).all p = true := by
  rw [List.all_eq_true]
  constructor
  · intro h x hx
    obtain ⟨t, ht, rfl⟩ := List.mem_map.1 hx
    obtain ⟨j, hj, rfl⟩ := List.getElem_of_mem ht
    rw [← getX_get net j hj]
    exact h j hj
  · intro h j hj
    rw [getX_get net j hj]
    exact h _ (List.mem_map.2 ⟨_, List.getElem_mem hj, rfl⟩)

theorem ps_qvalid (l : List (M × Fl)) (a : Bool) (net : List (X × Bool)) (b : Bool) (hl : l.length ≤ 9223372036854775807) (hn : net.length ≤ 9223372036854775807) (hm : ∀ t ∈ l, MIn t.1) :
    PS tb 6 [.agg [.slice a (memPV l), .slice b (netPV net)]] (.bool (okC (fsts l) (fstx net))) := by
  refine PS_of (af := a6) rfl rfl ?_
  unfold a6
  dsimp only [List.map, ofPV, initEnv]
  have e1 := fsts_length l
  have e2 := fstx_length net
  by_cases c1 : (l.length : Int) < 1
  · have : okC (fsts l) (fstx net) = false := by simp [okC]; omega
    rw [this]
    repeat' (first | (simp (disch := omega) only [go_sem, seval, reduceCtorEq, memPV_length, netPV_length, c1]) | with_reducible exact Ev.mk | ((first | apply x_split | apply x_splitg) <;> intro hβ hb <;> (simp (disch := omega) only [go_sem, seval, reduceCtorEq, memPV_length, netPV_length, c1, hβ]) <;> clear hβ))
  · by_cases c2 : (7 : Int) < l.length
    · have : okC (fsts l) (fstx net) = false := by simp [okC]; omega
      rw [this]
      repeat' (first | (simp (disch := omega) only [go_sem, seval, reduceCtorEq, memPV_length, netPV_length, c1, c2]) | with_reducible exact Ev.mk | ((first | apply x_split | apply x_splitg) <;> intro hβ hb <;> (simp (disch := omega) only [go_sem, seval, reduceCtorEq, memPV_length, netPV_length, c1, c2, hβ]) <;> clear hβ))
    · by_cases c3 : (256 : Int) < net.length
      · have : okC (fsts l) (fstx net) = false := by simp [okC]; omega
        rw [this]
        repeat' (first | (simp (disch := omega) only [go_sem, seval, reduceCtorEq, memPV_length, netPV_length, c1, c2, c3]) | with_reducible exact Ev.mk | ((first | apply x_split | apply x_splitg) <;> intro hβ hb <;> (simp (disch := omega) only [go_sem, seval, reduceCtorEq, memPV_length, netPV_length, c1, c2, c3, hβ]) <;> clear hβ))
      · repeat' (first | (simp (disch := omega) only [go_sem, seval, reduceCtorEq, memPV_length, netPV_length, c1, c2, c3]) | with_reducible exact Ev.mk | ((first | apply x_split | apply x_splitg) <;> intro hβ hb <;> (simp (disch := omega) only [go_sem, seval, reduceCtorEq, memPV_length, netPV_length, c1, c2, c3, hβ]) <;> clear hβ))
        refine W_round ?_
        (try simp (disch := omega) only [go_sem, seval, reduceCtorEq])
        refine l_qv1 l a net b (by omega) hm _ ?_ ?_ l.length 0 (by omega) (fun j hj => by omega)
        · intro h1
          (try simp (disch := omega) only [go_sem, seval, reduceCtorEq, netPV_length])
          refine W_round ?_
          (try simp (disch := omega) only [go_sem, seval, reduceCtorEq])
          refine l_qv0 l a net b (by omega) (by omega) _ ?_ ?_ net.length 0 (by omega) (fun j hj => by omega)
          · intro h2
            have : okC (fsts l) (fstx net) = true := by
              have h3 : (List.range (fsts l).length).all (okAtC (fsts l)) = true := by rw [List.all_eq_true]; intro j hj; rw [e1] at hj; exact h1 j (List.mem_range.1 hj)
              have h4 : (fstx net).all (fun x => okX x (fsts l).length) = true := by rw [← all_net, e1]; exact h2
              unfold okC
              rw [h3, h4]
              simp only [e1, e2, Bool.and_true, Bool.and_eq_true, decide_eq_true_eq]
              omega
            rw [this]
            repeat' (first | (simp (disch := omega) only [go_sem, seval, reduceCtorEq]) | with_reducible exact Ev.mk | ((first | apply x_split | apply x_splitg) <;> intro hβ hb <;> (simp (disch := omega) only [go_sem, seval, reduceCtorEq, hβ]) <;> clear hβ))
          · intro i hi h2 s' hs
            have : okC (fsts l) (fstx net) = false := by
              have h4 : (fstx net).all (fun x => okX x (fsts l).length) = false := by
                cases h : (fstx net).all (fun x => okX x (fsts l).length) with
                | false => rfl
                | true =>
                  have h5 := (all_net net _).2 h i hi
                  simp only [e1] at h5
                  have h6 : okX (getX net i) l.length = false := h2
                  rw [h5] at h6; cases h6
              simp only [okC, h4, Bool.and_false]
            rw [this]
            (try simp (disch := omega) only [go_sem, seval, reduceCtorEq, hs])
        · intro i hi h2 s' hs
          have : okC (fsts l) (fstx net) = false := by
            have h3 : (List.range (fsts l).length).all (okAtC (fsts l)) = false := by
              cases h : (List.range (fsts l).length).all (okAtC (fsts l)) with
              | false => rfl
              | true =>
                have := List.all_eq_true.1 h i (List.mem_range.2 (by rw [e1]; exact hi))
                rw [this] at h2; cases h2
            simp only [okC, h3, Bool.and_false, Bool.false_and]
          rw [this]
          (try simp (disch := omega) only [go_sem, seval, reduceCtorEq, hs])

theorem fit_int {y : PV} (h : Fit (.int .i64) y) : ∃ n, y = .int .i64 n ∧ -9223372036854775808 ≤ n ∧ n ≤ 9223372036854775807 := by
  cases h with
  | int k n h =>
    refine ⟨n, rfl, ?_⟩
    simp [Lit.wf, IntKind.min, IntKind.max, IntKind.signed, IntKind.bits] at h
    omega

theorem fit_str {y : PV} (h : Fit .str y) : ∃ s, y = .str s := by
  cases h with
  | str s h => exact ⟨s, rfl⟩

theorem fit_bool {y : PV} (h : Fit .bool y) : ∃ s, y = .bool s := by
  cases h with
  | bool s => exact ⟨s, rfl⟩

theorem fit_rows {α : Type} {sh : List Sh} {y : PV} {c : α → List PV} {P : α → Prop} (hc : ∀ u, Fits sh u → ∃ a, u = c a ∧ P a) (h : Fit (.slice sh) y) : ∃ l : List α, y = .slice false (l.map c) ∧ l.length ≤ 9223372036854775807 ∧ ∀ a ∈ l, P a := by
  cases h with
  | slice l xs h hl hr =>
    have : ∀ xs : List (List PV), (∀ x ∈ xs, Fits sh x) → ∃ l : List α, xs = l.map c ∧ ∀ a ∈ l, P a := by
      intro xs
      induction xs with
      | nil => intro _; exact ⟨[], rfl, by simp⟩
      | cons x xs ih =>
        intro hx
        obtain ⟨n, hn, hp⟩ := hc x (hx x (by simp))
        obtain ⟨l, hl, hq⟩ := ih fun y hy => hx y (by simp [hy])
        exact ⟨n :: l, by rw [hn, hl]; rfl, fun a ha => by rcases List.mem_cons.1 ha with rfl | e; exact hp; exact hq a e⟩
    obtain ⟨l, e, hp⟩ := this xs fun x hx => ⟨hl x hx, fun j s y h1 h2 => by
      obtain ⟨i, hi⟩ := List.mem_iff_getElem?.1 hx
      exact hr i x j s y hi h1 h2⟩
    refine ⟨l, by rw [e], ?_, hp⟩
    rw [e] at h
    simpa [maxLen] using h

theorem fit_intsL {y : PV} (h : Fit (.slice [.int .i64]) y) : ∃ l, y = .slice false (intsPV l) ∧ l.length ≤ 9223372036854775807 := by
  obtain ⟨l, e, hl, _⟩ := fit_rows (c := intPV) (P := fun _ => True) (fun u h => by
    obtain ⟨y0, u0, rfl, e0, h⟩ := h.cons
    have hn := h.nil
    subst hn
    obtain ⟨n0, rfl, _⟩ := fit_int e0
    exact ⟨n0, rfl, trivial⟩) h
  exact ⟨l, e, hl⟩

theorem fit_itemsL {y : PV} (h : Fit (.slice [.int .i64, .str]) y) : ∃ l, y = .slice false (itemsPV l) ∧ l.length ≤ 9223372036854775807 := by
  obtain ⟨l, e, hl, _⟩ := fit_rows (c := itemPV) (P := fun _ => True) (fun u h => by
    obtain ⟨y0, u0, rfl, e0, h⟩ := h.cons
    obtain ⟨y1, u1, rfl, e1, h⟩ := h.cons
    have hn := h.nil
    subst hn
    obtain ⟨n0, rfl, _⟩ := fit_int e0
    obtain ⟨n1, rfl⟩ := fit_str e1
    exact ⟨(n0, n1), rfl, trivial⟩) h
  exact ⟨l, e, hl⟩

theorem fit_memberL {u : List PV} (h : Fits [.int .i64, .int .i64, .int .i64, .int .i64, .slice [.int .i64, .str], .int .i64, .int .i64, .slice [.int .i64], .slice [.int .i64], .slice [.int .i64]] u) : ∃ t : M × Fl, u = mC t.1 t.2 ∧ MIn t.1 := by
  obtain ⟨y0, u0, rfl, e0, h⟩ := h.cons
  obtain ⟨y1, u1, rfl, e1, h⟩ := h.cons
  obtain ⟨y2, u2, rfl, e2, h⟩ := h.cons
  obtain ⟨y3, u3, rfl, e3, h⟩ := h.cons
  obtain ⟨y4, u4, rfl, e4, h⟩ := h.cons
  obtain ⟨y5, u5, rfl, e5, h⟩ := h.cons
  obtain ⟨y6, u6, rfl, e6, h⟩ := h.cons
  obtain ⟨y7, u7, rfl, e7, h⟩ := h.cons
  obtain ⟨y8, u8, rfl, e8, h⟩ := h.cons
  obtain ⟨y9, u9, rfl, e9, h⟩ := h.cons
  have hn := h.nil
  subst hn
  obtain ⟨n0, rfl, a0, b0⟩ := fit_int e0
  obtain ⟨n1, rfl, a1, b1⟩ := fit_int e1
  obtain ⟨n2, rfl, _⟩ := fit_int e2
  obtain ⟨n3, rfl, _⟩ := fit_int e3
  obtain ⟨n4, rfl, c4⟩ := fit_itemsL e4
  obtain ⟨n5, rfl, _⟩ := fit_int e5
  obtain ⟨n6, rfl, _⟩ := fit_int e6
  obtain ⟨n7, rfl, c7⟩ := fit_intsL e7
  obtain ⟨n8, rfl, c8⟩ := fit_intsL e8
  obtain ⟨n9, rfl, c9⟩ := fit_intsL e9
  exact ⟨(⟨n0, n1, n2, n3, n4, n5, n6, n7, n8, n9⟩, ⟨false, false, false, false⟩), rfl, ⟨a0, b0, a1, b1, c4, c7, c8, c9⟩⟩

theorem fit_msgL {u : List PV} (h : Fits [.int .i64, .int .i64, .int .i64, .int .i64, .int .i64, .int .i64, .int .i64, .bool, .slice [.int .i64, .str]] u) : ∃ t : X × Bool, u = xC t.1 t.2 ∧ t.1.items.length ≤ 9223372036854775807 := by
  obtain ⟨y0, u0, rfl, e0, h⟩ := h.cons
  obtain ⟨y1, u1, rfl, e1, h⟩ := h.cons
  obtain ⟨y2, u2, rfl, e2, h⟩ := h.cons
  obtain ⟨y3, u3, rfl, e3, h⟩ := h.cons
  obtain ⟨y4, u4, rfl, e4, h⟩ := h.cons
  obtain ⟨y5, u5, rfl, e5, h⟩ := h.cons
  obtain ⟨y6, u6, rfl, e6, h⟩ := h.cons
  obtain ⟨y7, u7, rfl, e7, h⟩ := h.cons
  obtain ⟨y8, u8, rfl, e8, h⟩ := h.cons
  have hn := h.nil
  subst hn
  obtain ⟨n0, rfl, _⟩ := fit_int e0
  obtain ⟨n1, rfl, _⟩ := fit_int e1
  obtain ⟨n2, rfl, _⟩ := fit_int e2
  obtain ⟨n3, rfl, _⟩ := fit_int e3
  obtain ⟨n4, rfl, _⟩ := fit_int e4
  obtain ⟨n5, rfl, _⟩ := fit_int e5
  obtain ⟨n6, rfl, _⟩ := fit_int e6
  obtain ⟨n7, rfl⟩ := fit_bool e7
  obtain ⟨n8, rfl, c8⟩ := fit_itemsL e8
  exact ⟨(⟨n0, n1, n2, n3, n4, n5, n6, n7, n8⟩, false), rfl, c8⟩

theorem fit_cluster {u : List PV} (h : Fits [.slice [.int .i64, .int .i64, .int .i64, .int .i64, .slice [.int .i64, .str], .int .i64, .int .i64, .slice [.int .i64], .slice [.int .i64], .slice [.int .i64]], .slice [.int .i64, .int .i64, .int .i64, .int .i64, .int .i64, .int .i64, .int .i64, .bool, .slice [.int .i64, .str]]] u) :
    ∃ (l : List (M × Fl)) (net : List (X × Bool)), u = [.slice false (memPV l), .slice false (netPV net)] ∧ l.length ≤ 9223372036854775807 ∧ net.length ≤ 9223372036854775807 ∧ (∀ t ∈ l, MIn t.1) ∧ ∀ t ∈ net, t.1.items.length ≤ 9223372036854775807 := by
  obtain ⟨y0, u0, rfl, e0, h⟩ := h.cons
  obtain ⟨y1, u1, rfl, e1, h⟩ := h.cons
  have hn := h.nil
  subst hn
  obtain ⟨l, rfl, hl, pl⟩ := fit_rows (c := fun t : M × Fl => mC t.1 t.2) (fun u h => fit_memberL h) e0
  obtain ⟨n, rfl, hn, pn⟩ := fit_rows (c := fun t : X × Bool => xC t.1 t.2) (fun u h => fit_msgL h) e1
  exact ⟨l, n, rfl, hl, hn, pl, pn⟩

theorem examples_run : ((cfs tb.A tb.X 16).pure 15 []) = some (.bool true) := by kernel_rfl

theorem ps_examples : PS tb 15 [] (.bool true) := ⟨16, examples_run⟩

theorem l_rv1 (l : List (M × Fl)) (a : Bool) (net : List (X × Bool)) (b : Bool) (hl : l.length ≤ 7) (hm : ∀ t ∈ l, MIn t.1) (K : Ex → St → Prop)
    (hx : (∀ j, j < l.length → okAtC (fsts l) j = true) → K (.exit 0) ⟨[(1, .ptr 0 0), (3, .p (.int .i64 l.length))], [(0, .var false [.p (.slice a (memPV l)), .p (.slice b (netPV net))])], 1, [0]⟩)
    (hr : ∀ i, i < l.length → okAtC (fsts l) i = false → ∀ s', aget s'.env 2 = some (.p (.bool false)) → K .ret s') : ∀ (m i : Nat), i + m = l.length → (∀ j, j < i → okAtC (fsts l) j = true) →
    W tb a7_l1 ⟨[(1, .ptr 0 0), (3, .p (.int .i64 l.length)), (4, .p (.int .i64 i))], [(0, .var false [.p (.slice a (memPV l)), .p (.slice b (netPV net))])], 1, [0]⟩ (LK tb (.ghost (.free [5]) (.ghost .lower a7_l1)) K) := by
  intro m
  induction m with
  | zero =>
    intro i hi ht
    have h1 : ¬ (i : Int) < l.length := by omega
    refine i_code (by unfold a7_l1; exact rfl) ?_
    repeat' (first | (simp (disch := omega) only [go_sem, seval, reduceCtorEq, h1]) | with_reducible exact Ev.mk | ((first | apply x_split | apply x_splitg) <;> intro hβ hb <;> (simp (disch := omega) only [go_sem, seval, reduceCtorEq, h1, hβ]) <;> clear hβ))
    exact hx (fun j hj => ht j (by omega))
  | succ m ih =>
    intro i hi ht
    have h1 : (i : Int) < l.length := by omega
    have h2 : i < l.length := by omega
    have h4 : (0 : Int) ≤ i := by omega
    have h3 := memPV_get l i h2
    have hmi := hm l[i] (List.getElem_mem h2)
    have hq : okAtC (fsts l) i = (decide (l[i].1.id = ((i + 1 : Nat) : Int)) && decide (l[i].1.members = l.length) && okM l[i].1) := by rw [okAtC, fsts_getD l i h2, fsts_length]
    have g := ps29 l[i].1 l[i].2 hmi
    refine i_code (by unfold a7_l1; exact rfl) ?_
    repeat' (first | exact g | (simp (disch := omega) only [go_sem, seval, reduceCtorEq, h1, h3, h4, mC]) | with_reducible exact Ev.mk | apply x_call | ((first | apply x_split | apply x_splitg) <;> intro hβ hb <;> (simp (disch := omega) only [go_sem, seval, reduceCtorEq, h1, h3, h4, mC, hβ]) <;> clear hβ))
    all_goals first
      | exact hr i h2 (by rw [hq]; simp_all) _ rfl
      | (refine i_lk (W_round ?_)
         (try simp (disch := omega) only [go_sem, seval, reduceCtorEq])
         exact ih (i + 1) (by omega) (lt_step' ht (by rw [hq]; simp_all)))

theorem l_rv0 (l : List (M × Fl)) (a : Bool) (net : List (X × Bool)) (b : Bool) (hl : l.length ≤ 7) (hn : net.length ≤ 256) (hni : ∀ t ∈ net, t.1.items.length ≤ 9223372036854775807) (K : Ex → St → Prop)
    (hx : (∀ j, j < net.length → (fun j => okX (getX net j) l.length) j = true) → K (.exit 2) ⟨[], [], 0, [0]⟩)
    (hr : ∀ i, i < net.length → (fun j => okX (getX net j) l.length) i = false → ∀ s', aget s'.env 2 = some (.p (.bool false)) → K .ret s') : ∀ (m i : Nat), i + m = net.length → (∀ j, j < i → (fun j => okX (getX net j) l.length) j = true) →
    W tb a7_l0 ⟨[(1, .ptr 0 0), (3, .p (.int .i64 l.length)), (6, .p (.int .i64 i))], [(0, .var false [.p (.slice a (memPV l)), .p (.slice b (netPV net))])], 1, [0]⟩ (LK tb (.ghost .lower a7_l0) K) := by
  intro m
  induction m with
  | zero =>
    intro i hi ht
    have h1 : ¬ (i : Int) < net.length := by omega
    refine i_code (by unfold a7_l0; exact rfl) ?_
    repeat' (first | (simp (disch := omega) only [go_sem, seval, reduceCtorEq, h1, netPV_length]) | with_reducible exact Ev.mk | ((first | apply x_split | apply x_splitg) <;> intro hβ hb <;> (simp (disch := omega) only [go_sem, seval, reduceCtorEq, h1, netPV_length, hβ]) <;> clear hβ))
    exact hx (fun j hj => ht j (by omega))
  | succ m ih =>
    intro i hi ht
    have h1 : (i : Int) < net.length := by omega
    have h2 : i < net.length := by omega
    have h4 : (0 : Int) ≤ i := by omega
    have h3 := netPV_get net i h2
    have hq := getX_get net i h2
    have g := ps40 net[i].1 net[i].2 l.length (hni _ (List.getElem_mem h2))
    refine i_code (by unfold a7_l0; exact rfl) ?_
    repeat' (first | exact g | (simp (disch := omega) only [go_sem, seval, reduceCtorEq, h1, h3, h4, xC, netPV_length]) | with_reducible exact Ev.mk | apply x_call | ((first | apply x_split | apply x_splitg) <;> intro hβ hb <;> (simp (disch := omega) only [go_sem, seval, reduceCtorEq, h1, h3, h4, xC, netPV_length, hβ]) <;> clear hβ))
    all_goals first
      | exact hr i h2 (by simp only [hq]; simp_all) _ rfl
      | (refine i_lk (W_round ?_)
         (try simp (disch := omega) only [go_sem, seval, reduceCtorEq])
         exact ih (i + 1) (by omega) (lt_step' ht (by simp only [hq]; simp_all)))

theorem ps_rvalid (l : List (M × Fl)) (a : Bool) (net : List (X × Bool)) (b : Bool) (hl : l.length ≤ 9223372036854775807) (hn : net.length ≤ 9223372036854775807) (hm : ∀ t ∈ l, MIn t.1) (hni : ∀ t ∈ net, t.1.items.length ≤ 9223372036854775807) :
    PS tb 7 [.agg [.slice a (memPV l), .slice b (netPV net)]] (.bool (okC (fsts l) (fstx net))) := by
  refine PS_of (af := a7) rfl rfl ?_
  unfold a7
  dsimp only [List.map, ofPV, initEnv]
  have e1 := fsts_length l
  have e2 := fstx_length net
  by_cases c1 : (l.length : Int) < 1
  · have : okC (fsts l) (fstx net) = false := by simp [okC]; omega
    rw [this]
    repeat' (first | (simp (disch := omega) only [go_sem, seval, reduceCtorEq, memPV_length, netPV_length, c1]) | with_reducible exact Ev.mk | ((first | apply x_split | apply x_splitg) <;> intro hβ hb <;> (simp (disch := omega) only [go_sem, seval, reduceCtorEq, memPV_length, netPV_length, c1, hβ]) <;> clear hβ))
  · by_cases c2 : (7 : Int) < l.length
    · have : okC (fsts l) (fstx net) = false := by simp [okC]; omega
      rw [this]
      repeat' (first | (simp (disch := omega) only [go_sem, seval, reduceCtorEq, memPV_length, netPV_length, c1, c2]) | with_reducible exact Ev.mk | ((first | apply x_split | apply x_splitg) <;> intro hβ hb <;> (simp (disch := omega) only [go_sem, seval, reduceCtorEq, memPV_length, netPV_length, c1, c2, hβ]) <;> clear hβ))
    · by_cases c3 : (256 : Int) < net.length
      · have : okC (fsts l) (fstx net) = false := by simp [okC]; omega
        rw [this]
        repeat' (first | (simp (disch := omega) only [go_sem, seval, reduceCtorEq, memPV_length, netPV_length, c1, c2, c3]) | with_reducible exact Ev.mk | ((first | apply x_split | apply x_splitg) <;> intro hβ hb <;> (simp (disch := omega) only [go_sem, seval, reduceCtorEq, memPV_length, netPV_length, c1, c2, c3, hβ]) <;> clear hβ))
      · repeat' (first | (simp (disch := omega) only [go_sem, seval, reduceCtorEq, memPV_length, netPV_length, c1, c2, c3]) | with_reducible exact Ev.mk | ((first | apply x_split | apply x_splitg) <;> intro hβ hb <;> (simp (disch := omega) only [go_sem, seval, reduceCtorEq, memPV_length, netPV_length, c1, c2, c3, hβ]) <;> clear hβ))
        refine W_round ?_
        (try simp (disch := omega) only [go_sem, seval, reduceCtorEq])
        refine l_rv1 l a net b (by omega) hm _ ?_ ?_ l.length 0 (by omega) (fun j hj => by omega)
        · intro h1
          (try simp (disch := omega) only [go_sem, seval, reduceCtorEq, netPV_length])
          refine W_round ?_
          (try simp (disch := omega) only [go_sem, seval, reduceCtorEq])
          refine l_rv0 l a net b (by omega) (by omega) hni _ ?_ ?_ net.length 0 (by omega) (fun j hj => by omega)
          · intro h2
            have : okC (fsts l) (fstx net) = true := by
              have h3 : (List.range (fsts l).length).all (okAtC (fsts l)) = true := by rw [List.all_eq_true]; intro j hj; rw [e1] at hj; exact h1 j (List.mem_range.1 hj)
              have h4 : (fstx net).all (fun x => okX x (fsts l).length) = true := by rw [← all_net, e1]; exact h2
              unfold okC
              rw [h3, h4]
              simp only [e1, e2, Bool.and_true, Bool.and_eq_true, decide_eq_true_eq]
              omega
            rw [this]
            repeat' (first | (simp (disch := omega) only [go_sem, seval, reduceCtorEq]) | with_reducible exact Ev.mk | ((first | apply x_split | apply x_splitg) <;> intro hβ hb <;> (simp (disch := omega) only [go_sem, seval, reduceCtorEq, hβ]) <;> clear hβ))
          · intro i hi h2 s' hs
            have : okC (fsts l) (fstx net) = false := by
              have h4 : (fstx net).all (fun x => okX x (fsts l).length) = false := by
                cases h : (fstx net).all (fun x => okX x (fsts l).length) with
                | false => rfl
                | true =>
                  have h5 := (all_net net _).2 h i hi
                  simp only [e1] at h5
                  have h6 : okX (getX net i) l.length = false := h2
                  rw [h5] at h6; cases h6
              simp only [okC, h4, Bool.and_false]
            rw [this]
            (try simp (disch := omega) only [go_sem, seval, reduceCtorEq, hs])
        · intro i hi h2 s' hs
          have : okC (fsts l) (fstx net) = false := by
            have h3 : (List.range (fsts l).length).all (okAtC (fsts l)) = false := by
              cases h : (List.range (fsts l).length).all (okAtC (fsts l)) with
              | false => rfl
              | true =>
                have := List.all_eq_true.1 h i (List.mem_range.2 (by rw [e1]; exact hi))
                rw [this] at h2; cases h2
            simp only [okC, h3, Bool.and_false, Bool.false_and]
          rw [this]
          (try simp (disch := omega) only [go_sem, seval, reduceCtorEq, hs])

theorem itemsPV_take (a : List (Int × ByteArray)) (n : Nat) : (itemsPV a).take n = itemsPV (a.take n) := by simp [itemsPV, List.map_take]

theorem itemsPV_sz (a : List (Int × ByteArray)) : allSz 2 (itemsPV a) = true := by simp [allSz, itemsPV, itemPV]

theorem maxB (n : Nat) (h : n ≤ 140737488355328) : (n ≤ maxBytes) = True := by simp [maxBytes, h]

def strPV (s : ByteArray) : List PV := [.str s]

def strsPV (l : List ByteArray) : List (List PV) := l.map strPV

theorem strsPV_length (l : List ByteArray) : (strsPV l).length = l.length := by simp [strsPV]

theorem strsPV_sz (l : List ByteArray) : allSz 1 (strsPV l) = true := by simp [allSz, strsPV, strPV]

theorem strsPV_append (a b : List ByteArray) : strsPV a ++ strsPV b = strsPV (a ++ b) := by simp [strsPV]

theorem strsPV_take (a : List ByteArray) (n : Nat) : (strsPV a).take n = strsPV (a.take n) := by simp [strsPV, List.map_take]

theorem strsPV_sing (s : ByteArray) : [[PV.str s]] = strsPV [s] := rfl

theorem strsPV_get (l : List ByteArray) (i : Nat) (h : i < l.length) : (strsPV l)[i]? = some [.str l[i]] := by simp [strsPV, strPV, h]

def dataL (l : List (Int × ByteArray)) : List ByteArray := l.map (·.2)

theorem dataL_len (l : List (Int × ByteArray)) : (dataL l).length = l.length := by simp [dataL]

theorem dataL_step (l : List (Int × ByteArray)) (i : Nat) (h : i < l.length) : dataL (l.take (i + 1)) = dataL (l.take i) ++ [l[i].2] := by
  unfold dataL
  rw [List.take_add_one, List.map_append, List.getElem?_eq_getElem h]
  rfl

/-- How many items are committed. -/
def comN (m : M) : Nat := (max (min m.commit m.log.length) 0).toNat

def comL (m : M) : List ByteArray := dataL (m.log.take (comN m))

theorem comN_le (m : M) : comN m ≤ m.log.length := by unfold comN; omega

theorem l57L (l : List (Int × ByteArray)) (b : Bool) (hl : l.length ≤ 5864062014805) (K : Ex → St → Prop)
    (hx : K (.exit 0) ⟨[(3, .ref 1 (dataL l).length 0 (dataL l).length)], [(1, .row false 1 (strsPV (dataL l)))], 2, [0]⟩) : ∀ (n i : Nat), i + n = l.length →
    W tb a27_l0 ⟨[(3, .ref 1 (dataL (l.take i)).length 0 (dataL (l.take i)).length), (15, .p (.slice b (itemsPV l))), (16, .p (.int .i64 l.length)), (17, .p (.int .i64 i))], [(1, .row false 1 (strsPV (dataL (l.take i))))], 2, [0]⟩ (LK tb (.ghost (.free [1, 5]) (.ghost .lower a27_l0)) K) := by
  intro n
  induction n with
  | zero =>
    intro i hi
    have h1 : ¬ (i : Int) < l.length := by omega
    rw [List.take_of_length_le (by omega)]
    refine i_code (by unfold a27_l0; exact rfl) ?_
    repeat' (first | (simp (disch := omega) only [go_sem, seval, reduceCtorEq, h1, itemsPV_length]) | with_reducible exact Ev.mk | ((first | apply x_split | apply x_splitg) <;> intro hβ hb <;> (simp (disch := omega) only [go_sem, seval, reduceCtorEq, h1, itemsPV_length, hβ]) <;> clear hβ))
    exact hx
  | succ n ih =>
    intro i hi
    have h1 : (i : Int) < l.length := by omega
    have h2 : i < l.length := by omega
    have h3 := itemsPV_get l i h2
    have h4 : (0 : Int) ≤ i := by omega
    have h5 : (l.take i).length ≤ 5864062014805 := by simp; omega
    have h6 := dataL_len (l.take i)
    have ih := ih (i + 1) (by omega)
    rw [dataL_step l i h2] at ih
    simp only [List.length_append, List.length_cons, List.length_nil, Nat.zero_add] at ih
    refine i_code (by unfold a27_l0; exact rfl) ?_
    repeat' (first | (simp (disch := omega) only [go_sem, seval, reduceCtorEq, h1, h3, h4, itemPV, itemsPV_length, strsPV_sing, strsPV_sz, strsPV_append, strsPV_length, List.take_length, List.length_append, maxB, h6]) | with_reducible exact Ev.mk | ((first | apply x_split | apply x_splitg) <;> intro hβ hb <;> (simp (disch := omega) only [go_sem, seval, reduceCtorEq, h1, h3, h4, itemPV, itemsPV_length, strsPV_sing, strsPV_sz, strsPV_append, strsPV_length, List.take_length, List.length_append, maxB, h6, hβ]) <;> clear hβ))
    refine i_lk (W_round ?_)
    (try simp (disch := omega) only [go_sem, seval, reduceCtorEq])
    rw [h6] at ih
    exact ih

theorem ps57L (m : M) (f : Fl) (hl0 : m.log.length ≤ 5864062014805) : PS tb 27 [.agg (mC m f)] (.slice false (strsPV (comL m))) := by
  have c0 := comN_le m
  have hk : (max (min m.commit m.log.length) 0) = (comN m : Int) := by unfold comN; omega
  have e1 : (if (if (m.log.length : Int) < m.commit then (m.log.length : Int) else m.commit) < 0 then (0 : Int) else (if (m.log.length : Int) < m.commit then (m.log.length : Int) else m.commit)) = (comN m : Int) := by
    rw [← hk]; split <;> split <;> omega
  have c1 : (comN m : Int) ≤ m.log.length := by omega
  have c2 : (0 : Int) ≤ (comN m : Int) := by omega
  have c3 : (m.log.take (comN m)).length = comN m := by simp; omega
  have c4 : (dataL (m.log.take (comN m))).length = comN m := by rw [dataL_len, c3]
  have c5 : (dataL (m.log.take (comN m))).take (comN m) = dataL (m.log.take (comN m)) := List.take_of_length_le (by omega)
  have loop := fun b => l57L (m.log.take (comN m)) b (by omega)
  rw [c3] at loop
  refine PS_of (af := a27) rfl rfl ?_
  unfold a27
  dsimp only [List.map, ofPV, initEnv]
  unfold comL
  repeat' (first | (simp (disch := omega) only [go_sem, seval, reduceCtorEq, mC, e1, c1, c2, itemsPV_length, itemsPV_sz, itemsPV_take, c3]) | with_reducible exact Ev.mk | ((first | apply x_split | apply x_splitg) <;> intro hβ hb <;> (simp (disch := omega) only [go_sem, seval, reduceCtorEq, mC, e1, c1, c2, itemsPV_length, itemsPV_sz, itemsPV_take, c3, hβ]) <;> clear hβ))
  refine W_round ?_
  (try simp (disch := omega) only [go_sem, seval, reduceCtorEq, mC])
  refine loop _ _ ?_ (comN m) 0 (Nat.zero_add _)
  (try simp (disch := omega) only [go_sem, seval, reduceCtorEq, c4])
  all_goals first | rfl | ((try simp (disch := omega) only [go_sem, seval, reduceCtorEq, c4, c5, strsPV_length, strsPV_take]) <;> rfl)

theorem l58L (m : M) (f : Fl) (hl : m.log.length ≤ 5864062014805) (K : Ex → St → Prop)
    (hx : K (.exit 0) ⟨[(3, .ref 1 (comL m).length 0 (comL m).length)], [(1, .row false 1 (strsPV (comL m)))], 2, [0]⟩) : ∀ (n i : Nat), i + n = comN m →
    W tb a29_l0 ⟨[(1, .ptr 0 0), (3, .ref 1 (dataL (m.log.take i)).length 0 (dataL (m.log.take i)).length), (4, .p (.int .i64 i))], [(1, .row false 1 (strsPV (dataL (m.log.take i)))), (0, .var false ((mC m f).map .p))], 2, [0]⟩ (LK tb (.ghost .lower a29_l0) K) := by
  have c0 := comN_le m
  intro n
  induction n with
  | zero =>
    intro i hi
    have e : i = comN m := by omega
    subst e
    refine i_code (by unfold a29_l0; exact rfl) ?_
    by_cases h1 : (comN m : Int) < m.commit
    · have h2 : ¬ (comN m : Int) < m.log.length := by unfold comN at *; omega
      repeat' (first | (simp (disch := omega) only [go_sem, seval, reduceCtorEq, h1, h2, itemsPV_length, mC]) | with_reducible exact Ev.mk | ((first | apply x_split | apply x_splitg) <;> intro hβ hb <;> (simp (disch := omega) only [go_sem, seval, reduceCtorEq, h1, h2, itemsPV_length, mC, hβ]) <;> clear hβ))
      exact hx
    · repeat' (first | (simp (disch := omega) only [go_sem, seval, reduceCtorEq, h1, itemsPV_length, mC]) | with_reducible exact Ev.mk | ((first | apply x_split | apply x_splitg) <;> intro hβ hb <;> (simp (disch := omega) only [go_sem, seval, reduceCtorEq, h1, itemsPV_length, mC, hβ]) <;> clear hβ))
      exact hx
  | succ n ih =>
    intro i hi
    have h1 : (i : Int) < m.log.length := by omega
    have h0 : (i : Int) < m.commit := by unfold comN at hi; omega
    have h2 : i < m.log.length := by omega
    have h3 := itemsPV_get m.log i h2
    have h4 : (0 : Int) ≤ i := by omega
    have h5 : (m.log.take i).length ≤ 5864062014805 := by simp; omega
    have h6 := dataL_len (m.log.take i)
    have ih := ih (i + 1) (by omega)
    rw [dataL_step m.log i h2] at ih
    simp only [List.length_append, List.length_cons, List.length_nil, Nat.zero_add] at ih
    refine i_code (by unfold a29_l0; exact rfl) ?_
    repeat' (first | (simp (disch := omega) only [go_sem, seval, reduceCtorEq, h0, h1, h3, h4, itemPV, itemsPV_length, strsPV_sing, strsPV_sz, strsPV_append, strsPV_length, List.take_length, List.length_append, maxB, h6, mC]) | with_reducible exact Ev.mk | ((first | apply x_split | apply x_splitg) <;> intro hβ hb <;> (simp (disch := omega) only [go_sem, seval, reduceCtorEq, h0, h1, h3, h4, itemPV, itemsPV_length, strsPV_sing, strsPV_sz, strsPV_append, strsPV_length, List.take_length, List.length_append, maxB, h6, mC, hβ]) <;> clear hβ))
    refine i_lk (W_round ?_)
    (try simp (disch := omega) only [go_sem, seval, reduceCtorEq, mC])
    rw [h6] at ih
    exact ih

theorem ps58L (m : M) (f : Fl) (hl0 : m.log.length ≤ 5864062014805) : PS tb 29 [.agg (mC m f)] (.slice false (strsPV (comL m))) := by
  have c0 := comN_le m
  have c4 : (comL m).length = comN m := by unfold comL; rw [dataL_len]; simp; omega
  have c5 : (comL m).take (comN m) = comL m := List.take_of_length_le (by omega)
  refine PS_of (af := a29) rfl rfl ?_
  unfold a29
  dsimp only [List.map, ofPV, initEnv]
  repeat' (first | (simp (disch := omega) only [go_sem, seval, reduceCtorEq, mC]) | with_reducible exact Ev.mk | ((first | apply x_split | apply x_splitg) <;> intro hβ hb <;> (simp (disch := omega) only [go_sem, seval, reduceCtorEq, mC, hβ]) <;> clear hβ))
  refine W_round ?_
  (try simp (disch := omega) only [go_sem, seval, reduceCtorEq, mC])
  refine l58L m f (by omega) _ ?_ (comN m) 0 (Nat.zero_add _)
  (try simp (disch := omega) only [go_sem, seval, reduceCtorEq, c4])
  all_goals first | rfl | ((try simp (disch := omega) only [go_sem, seval, reduceCtorEq, c4, c5, strsPV_length, strsPV_take]) <;> rfl)

def preB : List ByteArray → List ByteArray → Bool
  | x :: a, y :: c => (x.toList == y.toList) && preB a c
  | _, _ => true

theorem preB_nil (a : List ByteArray) : preB a [] = true := by cases a <;> rfl

theorem preB_nil' (a : List ByteArray) : preB [] a = true := by cases a <;> rfl

theorem preB_comm : ∀ (a c : List ByteArray), preB a c = preB c a
  | [], c => by rw [preB_nil, preB_nil']
  | _ :: _, [] => by rw [preB_nil, preB_nil']
  | x :: a, y :: c => by
    simp only [preB]
    rw [preB_comm a c, Bool.beq_comm]

theorem preB_refl : ∀ (a : List ByteArray), preB a a = true
  | [] => rfl
  | x :: a => by simp [preB, preB_refl a]

theorem preB_take : ∀ (n : Nat) (a c : List ByteArray), min a.length c.length ≤ n → preB (a.take n) (c.take n) = preB a c
  | _, [], c, _ => by rw [List.take_nil, preB_nil', preB_nil']
  | n, x :: a, [], _ => by rw [List.take_nil, preB_nil, preB_nil]
  | 0, x :: a, y :: c, h => by simp at h
  | n + 1, x :: a, y :: c, h => by
    simp only [List.take_succ_cons, preB]
    rw [preB_take n a c (by simp at h; omega)]

theorem preB_step {a c : List ByteArray} {i : Nat} (h1 : i < a.length) (h2 : i < c.length) : preB (a.drop i) (c.drop i) = ((a[i].toList == c[i].toList) && preB (a.drop (i + 1)) (c.drop (i + 1))) := by
  rw [List.drop_eq_getElem_cons h1, List.drop_eq_getElem_cons h2]
  rfl

theorem neqS {a c : ByteArray} (h : (a.toList == c.toList) = false) : bytesCmp .neq a c = some (.bool true) := by simp only [bytesCmp]; rw [h]; rfl

theorem eqS {a c : ByteArray} (h : (a.toList == c.toList) = true) : bytesCmp .neq a c = some (.bool false) := by simp only [bytesCmp]; rw [h]; rfl

theorem l_eqB (a c : List ByteArray) (b d : Bool) (hl : a.length ≤ 9223372036854775807) (hc : c.length = a.length) (K : Ex → St → Prop) (hx : preB a c = true → K (.exit 0) ⟨[], [], 0, [0]⟩)
    (hr : preB a c = false → ∀ s', aget s'.env 4 = some (.p (.bool false)) → K .ret s') : ∀ (m i : Nat), i + m = a.length → preB a c = preB (a.drop i) (c.drop i) →
    W tb a63_l0 ⟨[(0, .p (.slice b (strsPV a))), (1, .p (.slice d (strsPV c))), (12, .p (.int .i64 a.length)), (13, .p (.int .i64 i))], [], 0, [0]⟩ (LK tb (.ghost .lower a63_l0) K) := by
  intro m
  induction m with
  | zero =>
    intro i hi hp
    have h1 : ¬ (i : Int) < a.length := by omega
    rw [List.drop_of_length_le (by omega), preB_nil'] at hp
    refine i_code (by unfold a63_l0; exact rfl) ?_
    repeat' (first | (simp (disch := omega) only [go_sem, seval, reduceCtorEq, h1]) | with_reducible exact Ev.mk | ((first | apply x_split | apply x_splitg) <;> intro hβ hb <;> (simp (disch := omega) only [go_sem, seval, reduceCtorEq, h1, hβ]) <;> clear hβ))
    exact hx hp
  | succ m ih =>
    intro i hi hp
    have h1 : (i : Int) < a.length := by omega
    have h2 : i < a.length := by omega
    have h2' : i < c.length := by omega
    have h4 : (0 : Int) ≤ i := by omega
    have h3 := strsPV_get a i h2
    have h3' := strsPV_get c i h2'
    rw [preB_step h2 h2'] at hp
    refine i_code (by unfold a63_l0; exact rfl) ?_
    cases he : a[i].toList == c[i].toList with
    | false =>
      have h5 := neqS he
      rw [he] at hp
      repeat' (first | (simp (disch := omega) only [go_sem, seval, reduceCtorEq, h1, h4, strsPV_length, hc, h3, h3', h5]) | with_reducible exact Ev.mk | ((first | apply x_split | apply x_splitg) <;> intro hβ hb <;> (simp (disch := omega) only [go_sem, seval, reduceCtorEq, h1, h4, strsPV_length, hc, h3, h3', h5, hβ]) <;> clear hβ))
      exact hr hp _ rfl
    | true =>
      have h5 := eqS he
      rw [he, Bool.true_and] at hp
      repeat' (first | (simp (disch := omega) only [go_sem, seval, reduceCtorEq, h1, h4, strsPV_length, hc, h3, h3', h5]) | with_reducible exact Ev.mk | ((first | apply x_split | apply x_splitg) <;> intro hβ hb <;> (simp (disch := omega) only [go_sem, seval, reduceCtorEq, h1, h4, strsPV_length, hc, h3, h3', h5, hβ]) <;> clear hβ))
      refine i_lk (W_round ?_)
      (try simp (disch := omega) only [go_sem, seval, reduceCtorEq])
      exact ih (i + 1) (by omega) hp

theorem ps_eqB (a c : List ByteArray) (b d : Bool) (hl : a.length ≤ 9223372036854775807) (hc : c.length = a.length) : PS tb 63 [.slice b (strsPV a), .slice d (strsPV c)] (.bool (preB a c)) := by
  refine PS_of (af := a63) rfl rfl ?_
  unfold a63
  dsimp only [List.map, ofPV, initEnv]
  have e : ((a.length : Int) != (a.length : Int)) = false := by simp
  repeat' (first | (simp (disch := omega) only [go_sem, seval, reduceCtorEq, strsPV_length, hc, e]) | with_reducible exact Ev.mk | ((first | apply x_split | apply x_splitg) <;> intro hβ hb <;> (simp (disch := omega) only [go_sem, seval, reduceCtorEq, strsPV_length, hc, e, hβ]) <;> clear hβ))
  refine W_round ?_
  (try simp (disch := omega) only [go_sem, seval, reduceCtorEq])
  refine l_eqB a c b d hl hc _ ?_ ?_ a.length 0 (by omega) rfl
  · intro h
    rw [h]
    (try simp (disch := omega) only [go_sem, seval, reduceCtorEq])
  · intro h s' hs
    rw [h]
    (try simp (disch := omega) only [go_sem, seval, reduceCtorEq, hs])

theorem ps_prefixB (a c : List ByteArray) (b d : Bool) (hl : a.length ≤ 9223372036854775807) (hc : c.length ≤ 9223372036854775807) : PS tb 32 [.slice b (strsPV a), .slice d (strsPV c)] (.bool (preB a c)) := by
  refine PS_of (af := a32) rfl rfl ?_
  unfold a32
  dsimp only [List.map, ofPV, initEnv]
  by_cases hlt : c.length < a.length
  · have c1 : (c.length : Int) < a.length := by omega
    have c2 : (0 : Int) ≤ c.length := by omega
    have c3 : (c.length : Int) ≤ a.length := by omega
    have e := preB_take c.length a c (by omega)
    have q := fun x y => ps_eqB (a.take c.length) (c.take c.length) x y (by simp; omega) (by simp; omega)
    rw [e] at q
    repeat' (first | exact q _ _ | (simp (disch := omega) only [go_sem, seval, reduceCtorEq, strsPV_length, c1, c2, c3, strsPV_sz, strsPV_take]) | with_reducible exact Ev.mk | apply x_call | ((first | apply x_split | apply x_splitg) <;> intro hβ hb <;> (simp (disch := omega) only [go_sem, seval, reduceCtorEq, strsPV_length, c1, c2, c3, strsPV_sz, strsPV_take, hβ]) <;> clear hβ))
  · have c1 : ¬ (c.length : Int) < a.length := by omega
    have c2 : (0 : Int) ≤ a.length := by omega
    have c3 : (a.length : Int) ≤ c.length := by omega
    have e := preB_take a.length a c (by omega)
    have q := fun x y => ps_eqB (a.take a.length) (c.take a.length) x y (by simp; omega) (by simp; omega)
    rw [e] at q
    repeat' (first | exact q _ _ | (simp (disch := omega) only [go_sem, seval, reduceCtorEq, strsPV_length, c1, c2, c3, strsPV_sz, strsPV_take]) | with_reducible exact Ev.mk | apply x_call | ((first | apply x_split | apply x_splitg) <;> intro hβ hb <;> (simp (disch := omega) only [go_sem, seval, reduceCtorEq, strsPV_length, c1, c2, c3, strsPV_sz, strsPV_take, hβ]) <;> clear hβ))

theorem l_rpre (a c : List ByteArray) (b d : Bool) (hl : a.length ≤ 9223372036854775807) (hc : c.length ≤ 9223372036854775807) (K : Ex → St → Prop) (hx : preB a c = true → K (.exit 0) ⟨[], [], 0, [0]⟩)
    (hr : preB a c = false → ∀ s', aget s'.env 4 = some (.p (.bool false)) → K .ret s') : ∀ (m i : Nat), i + m = min a.length c.length → preB a c = preB (a.drop i) (c.drop i) →
    W tb a26_l0 ⟨[(0, .p (.slice b (strsPV a))), (1, .p (.slice d (strsPV c))), (5, .p (.int .i64 i))], [], 0, [0]⟩ (LK tb (.ghost .lower a26_l0) K) := by
  intro m
  induction m with
  | zero =>
    intro i hi hp
    refine i_code (by unfold a26_l0; exact rfl) ?_
    by_cases h1 : (i : Int) < a.length
    · have h2 : ¬ (i : Int) < c.length := by omega
      rw [List.drop_of_length_le (show c.length ≤ i by omega), preB_nil] at hp
      repeat' (first | (simp (disch := omega) only [go_sem, seval, reduceCtorEq, h1, h2, strsPV_length]) | with_reducible exact Ev.mk | ((first | apply x_split | apply x_splitg) <;> intro hβ hb <;> (simp (disch := omega) only [go_sem, seval, reduceCtorEq, h1, h2, strsPV_length, hβ]) <;> clear hβ))
      exact hx hp
    · rw [List.drop_of_length_le (show a.length ≤ i by omega), preB_nil'] at hp
      repeat' (first | (simp (disch := omega) only [go_sem, seval, reduceCtorEq, h1, strsPV_length]) | with_reducible exact Ev.mk | ((first | apply x_split | apply x_splitg) <;> intro hβ hb <;> (simp (disch := omega) only [go_sem, seval, reduceCtorEq, h1, strsPV_length, hβ]) <;> clear hβ))
      exact hx hp
  | succ m ih =>
    intro i hi hp
    have h1 : (i : Int) < a.length := by omega
    have h2 : (i : Int) < c.length := by omega
    have k1 : i < a.length := by omega
    have k2 : i < c.length := by omega
    have h4 : (0 : Int) ≤ i := by omega
    have h3 := strsPV_get a i k1
    have h5 := strsPV_get c i k2
    rw [preB_step k1 k2] at hp
    refine i_code (by unfold a26_l0; exact rfl) ?_
    cases he : a[i].toList == c[i].toList with
    | false =>
      have h6 := neqS he
      rw [he] at hp
      repeat' (first | (simp (disch := omega) only [go_sem, seval, reduceCtorEq, h1, h2, h4, strsPV_length, strsPV_sz, h3, h5, h6]) | with_reducible exact Ev.mk | ((first | apply x_split | apply x_splitg) <;> intro hβ hb <;> (simp (disch := omega) only [go_sem, seval, reduceCtorEq, h1, h2, h4, strsPV_length, strsPV_sz, h3, h5, h6, hβ]) <;> clear hβ))
      exact hr hp _ rfl
    | true =>
      have h6 := eqS he
      rw [he, Bool.true_and] at hp
      repeat' (first | (simp (disch := omega) only [go_sem, seval, reduceCtorEq, h1, h2, h4, strsPV_length, strsPV_sz, h3, h5, h6]) | with_reducible exact Ev.mk | ((first | apply x_split | apply x_splitg) <;> intro hβ hb <;> (simp (disch := omega) only [go_sem, seval, reduceCtorEq, h1, h2, h4, strsPV_length, strsPV_sz, h3, h5, h6, hβ]) <;> clear hβ))
      refine i_lk (W_round ?_)
      (try simp (disch := omega) only [go_sem, seval, reduceCtorEq])
      exact ih (i + 1) (by omega) hp

theorem ps_rpre (a c : List ByteArray) (b d : Bool) (hl : a.length ≤ 9223372036854775807) (hc : c.length ≤ 9223372036854775807) : PS tb 26 [.slice b (strsPV a), .slice d (strsPV c)] (.bool (preB a c)) := by
  refine PS_of (af := a26) rfl rfl ?_
  unfold a26
  dsimp only [List.map, ofPV, initEnv]
  (try simp (disch := omega) only [go_sem, seval, reduceCtorEq])
  refine W_round ?_
  (try simp (disch := omega) only [go_sem, seval, reduceCtorEq])
  refine l_rpre a c b d hl hc _ ?_ ?_ (min a.length c.length) 0 (by omega) rfl
  · intro h
    rw [h]
    (try simp (disch := omega) only [go_sem, seval, reduceCtorEq])
  · intro h s' hs
    rw [h]
    (try simp (disch := omega) only [go_sem, seval, reduceCtorEq, hs])

theorem ps_strs (a : List ByteArray) (b d : Bool) (hl : a.length ≤ 9223372036854775807) : PS tb 10 [.slice b (strsPV a), .slice d (strsPV a)] (.bool true) := by
  have q := ps_rpre a a b d hl hl
  rw [preB_refl] at q
  have e : ((a.length : Int) == (a.length : Int)) = true := by simp
  refine PS_of (af := a10) rfl rfl ?_
  unfold a10
  dsimp only [List.map, ofPV, initEnv]
  repeat' (first | exact q | (simp (disch := omega) only [go_sem, seval, reduceCtorEq, strsPV_length, e]) | with_reducible exact Ev.mk | apply x_call | ((first | apply x_split | apply x_splitg) <;> intro hβ hb <;> (simp (disch := omega) only [go_sem, seval, reduceCtorEq, strsPV_length, e, hβ]) <;> clear hβ))

def llPV (L : List (List ByteArray)) : List (List PV) := L.map fun x => [.slice false (strsPV x)]

theorem llPV_length (l : List (List ByteArray)) : (llPV l).length = l.length := by simp [llPV]

theorem llPV_get (l : List (List ByteArray)) (i : Nat) (h : i < l.length) : (llPV l)[i]? = some [.slice false (strsPV l[i])] := by simp [llPV, h]

theorem llPV_sz (l : List (List ByteArray)) : allSz 1 (llPV l) = true := by simp [allSz, llPV]

theorem llPV_append (a b : List (List ByteArray)) : llPV a ++ llPV b = llPV (a ++ b) := by simp [llPV]

theorem llPV_take (a : List (List ByteArray)) (n : Nat) : (llPV a).take n = llPV (a.take n) := by simp [llPV, List.map_take]

theorem llPV_sing (x : List ByteArray) : [[PV.slice false (strsPV x)]] = llPV [x] := rfl

theorem ps_agrB (k x : List ByteArray) (hk : k.length ≤ 9223372036854775807) (hx : x.length ≤ 9223372036854775807) : PS tb 31 [.slice false (strsPV k), .vptr [.slice false (strsPV x)]] (.bool (!preB k x)) := by
  refine PS_of (af := a31) rfl rfl ?_
  unfold a31
  dsimp only [List.map, ofPV, initEnv]
  repeat' (first | exact ps_prefixB k x false false hk hx | (simp (disch := omega) only [go_sem, seval, reduceCtorEq]) | with_reducible exact Ev.mk | apply x_call | ((first | apply x_split | apply x_splitg) <;> intro hβ hb <;> (simp (disch := omega) only [go_sem, seval, reduceCtorEq, hβ]) <;> clear hβ))

theorem l_idxB (L : List (List ByteArray)) (w : Bool) (x : List ByteArray) (hL : L.length ≤ 9223372036854775807) (hx : x.length ≤ 9223372036854775807) (hk : ∀ k ∈ L, k.length ≤ 9223372036854775807) (K : Ex → St → Prop)
    (hx : L.all (fun k => preB k x) = true → K (.exit 0) ⟨[], [], 0, [0]⟩) (hr : L.all (fun k => preB k x) = false → ∀ (j : Nat) s', aget s'.env 4 = some (.p (.int .i64 j)) → K .ret s') : ∀ (m i : Nat), i + m = L.length → L.all (fun k => preB k x) = (L.drop i).all (fun k => preB k x) →
    W tb a62_l0 ⟨[(0, .p (.slice w (llPV L))), (1, .p (.func 31 [.vptr [.slice false (strsPV x)]])), (7, .p (.int .i64 L.length)), (8, .p (.int .i64 i))], [], 0, [0]⟩ (LK tb (.ghost .lower a62_l0) K) := by
  intro m
  induction m with
  | zero =>
    intro i hi hp
    have h1 : ¬ (i : Int) < L.length := by omega
    rw [List.drop_of_length_le (by omega)] at hp
    refine i_code (by unfold a62_l0; exact rfl) ?_
    repeat' (first | (simp (disch := omega) only [go_sem, seval, reduceCtorEq, h1]) | with_reducible exact Ev.mk | ((first | apply x_split | apply x_splitg) <;> intro hβ hb <;> (simp (disch := omega) only [go_sem, seval, reduceCtorEq, h1, hβ]) <;> clear hβ))
    exact hx hp
  | succ m ih =>
    intro i hi hp
    have h1 : (i : Int) < L.length := by omega
    have h2 : i < L.length := by omega
    have h4 : (0 : Int) ≤ i := by omega
    have h3 := llPV_get L i h2
    have q := ps_agrB L[i] x (hk _ (List.getElem_mem h2)) (by assumption)
    rw [List.drop_eq_getElem_cons h2, List.all_cons] at hp
    refine i_code (by unfold a62_l0; exact rfl) ?_
    cases he : preB L[i] x with
    | false =>
      rw [he] at hp q
      repeat' (first | exact q | (simp (disch := omega) only [go_sem, seval, reduceCtorEq, h1, h4, h3]) | with_reducible exact Ev.mk | apply x_call | ((first | apply x_split | apply x_splitg) <;> intro hβ hb <;> (simp (disch := omega) only [go_sem, seval, reduceCtorEq, h1, h4, h3, hβ]) <;> clear hβ))
      exact hr hp i _ rfl
    | true =>
      rw [he, Bool.true_and] at hp
      rw [he] at q
      repeat' (first | exact q | (simp (disch := omega) only [go_sem, seval, reduceCtorEq, h1, h4, h3]) | with_reducible exact Ev.mk | apply x_call | ((first | apply x_split | apply x_splitg) <;> intro hβ hb <;> (simp (disch := omega) only [go_sem, seval, reduceCtorEq, h1, h4, h3, hβ]) <;> clear hβ))
      refine i_lk (W_round ?_)
      (try simp (disch := omega) only [go_sem, seval, reduceCtorEq])
      exact ih (i + 1) (by omega) hp

theorem ps_contB (L : List (List ByteArray)) (w : Bool) (x : List ByteArray) (hL : L.length ≤ 9223372036854775807) (hx : x.length ≤ 9223372036854775807) (hk : ∀ k ∈ L, k.length ≤ 9223372036854775807) : PS tb 30 [.slice w (llPV L), .func 31 [.vptr [.slice false (strsPV x)]]] (.bool (!L.all (fun k => preB k x))) := by
  have q : ∃ p, PS tb 62 [.slice w (llPV L), .func 31 [.vptr [.slice false (strsPV x)]]] p ∧ ∃ z : Int, p = .int .i64 z ∧ decide (z ≥ 0) = !L.all (fun k => preB k x) := by
    refine PS_any (af := a62) rfl rfl ?_
    unfold a62
    dsimp only [List.map, ofPV, initEnv]
    repeat' (first | (simp (disch := omega) only [go_sem, seval, reduceCtorEq, llPV_length]) | with_reducible exact Ev.mk | ((first | apply x_split | apply x_splitg) <;> intro hβ hb <;> (simp (disch := omega) only [go_sem, seval, reduceCtorEq, llPV_length, hβ]) <;> clear hβ))
    refine W_round ?_
    (try simp (disch := omega) only [go_sem, seval, reduceCtorEq])
    refine l_idxB L w x hL hx hk _ ?_ ?_ L.length 0 (by omega) rfl
    · intro h
      rw [h]
      (try simp (disch := omega) only [go_sem, seval, reduceCtorEq])
      exact ⟨_, rfl, _, rfl, by simp⟩
    · intro h j s' hs
      rw [h]
      (try simp (disch := omega) only [go_sem, seval, reduceCtorEq, hs])
      exact ⟨_, rfl, _, rfl, by simp⟩
  obtain ⟨p, hp, z, rfl, hz⟩ := q
  refine PS_of (af := a30) rfl rfl ?_
  unfold a30
  dsimp only [List.map, ofPV, initEnv]
  rw [← hz]
  repeat' (first | exact hp | (simp (disch := omega) only [go_sem, seval, reduceCtorEq]) | with_reducible exact Ev.mk | apply x_call | ((first | apply x_split | apply x_splitg) <;> intro hβ hb <;> (simp (disch := omega) only [go_sem, seval, reduceCtorEq, hβ]) <;> clear hβ))
  all_goals simp_all

def comsOf (l : List (M × Fl)) : List (List ByteArray) := l.map fun t => comL t.1

theorem comsOf_length (l : List (M × Fl)) : (comsOf l).length = l.length := by simp [comsOf]

theorem comsOf_step (l : List (M × Fl)) (i : Nat) (h : i < l.length) : comsOf (l.take i) ++ [comL l[i].1] = comsOf (l.take (i + 1)) := by
  rw [List.take_add_one, List.getElem?_eq_getElem h]
  simp only [comsOf, List.map_append, List.map_cons, List.map_nil, Option.toList]

/-- Sizes that fit into a machine's memory. -/
def FitC (l : List (M × Fl)) : Prop := l.length ≤ 977343669134 ∧ ∀ t ∈ l, t.1.log.length ≤ 5864062014805

theorem comL_le {m : M} : (comL m).length ≤ m.log.length := by
  have := comN_le m
  unfold comL; rw [dataL_len]; simp; omega

/-- Do the first i lists agree? -/
def agB (l : List (M × Fl)) : Nat → Bool
  | 0 => true
  | i + 1 => agB l i && (comsOf (l.take i)).all fun k => preB k (comL (l.getD i (zeroM, ⟨true, true, true, true⟩)).1)

theorem agB_false (l : List (M × Fl)) {i : Nat} (h : agB l i = false) : ∀ n, i ≤ n → agB l n = false
  | 0, hn => by obtain rfl : i = 0 := by omega
                exact h
  | n + 1, hn => by
    by_cases e : i = n + 1
    · rw [← e]; exact h
    · simp only [agB]; rw [agB_false l h n (by omega)]; rfl

theorem agB_step (l : List (M × Fl)) (i : Nat) (h : i < l.length) : agB l (i + 1) = (agB l i && (comsOf (l.take i)).all fun k => preB k (comL l[i].1)) := by
  simp only [agB]
  rw [List.getD_eq_getElem?_getD, List.getElem?_eq_getElem h]; rfl

theorem l_agB (l : List (M × Fl)) (a : Bool) (h : FitC l) (K : Ex → St → Prop) (hx : agB l l.length = true → ∀ s, s.env = [] → K (.exit 0) s) (hr : agB l l.length = false → ∀ s', aget s'.env 2 = some (.p (.bool false)) → K .ret s') : ∀ (m i : Nat), i + m = l.length → agB l i = true →
    W tb a13_l0 ⟨[(3, .ref 1 i 0 i), (8, .p (.slice a (memPV l))), (9, .p (.int .i64 l.length)), (10, .p (.int .i64 i))], [(1, .row false 1 (llPV (comsOf (l.take i))))], 2, [0]⟩ (LK tb (.ghost (.free [1, 5, 6]) (.ghost .lower a13_l0)) K) := by
  obtain ⟨h7, h256⟩ := h
  intro m
  induction m with
  | zero =>
    intro i hi ha
    have h1 : ¬ (i : Int) < l.length := by omega
    have e : i = l.length := by omega
    subst e
    refine i_code (by unfold a13_l0; exact rfl) ?_
    repeat' (first | (simp (disch := omega) only [go_sem, seval, reduceCtorEq, h1]) | with_reducible exact Ev.mk | ((first | apply x_split | apply x_splitg) <;> intro hβ hb <;> (simp (disch := omega) only [go_sem, seval, reduceCtorEq, h1, hβ]) <;> clear hβ))
    exact hx ha _ rfl
  | succ m ih =>
    intro i hi ha
    have h1 : (i : Int) < l.length := by omega
    have h2 : i < l.length := by omega
    have h4 : (0 : Int) ≤ i := by omega
    have h3 := memPV_get l i h2
    have hm := List.getElem_mem h2
    have e1 : (comsOf (l.take i)).length = i := by rw [comsOf_length, List.length_take]; omega
    have e2 := comsOf_step l i h2
    have e3 : (comsOf (l.take i)).take i = comsOf (l.take i) := List.take_of_length_le (by omega)
    have q1 := ps57L l[i].1 l[i].2 (h256 _ hm)
    have hcl := fun t (ht : t ∈ l) => Nat.le_trans (comL_le (m := t.1)) (h256 t ht)
    have q2 := ps_contB (comsOf (l.take i)) false (comL l[i].1) (by omega) (by have := hcl _ hm; omega) (fun k hk => by
      obtain ⟨t, ht, rfl⟩ := List.mem_map.1 hk
      have := hcl t (List.mem_of_mem_take ht)
      show (comL t.1).length ≤ _
      omega)
    have st := agB_step l i h2
    rw [ha, Bool.true_and] at st
    have m1 : (i + 1) * 24 ≤ 140737488355328 := by omega
    have m2 : i + 1 ≤ 140737488355328 := by omega
    refine i_code (by unfold a13_l0; exact rfl) ?_
    cases he : (comsOf (l.take i)).all fun k => preB k (comL l[i].1) with
    | false =>
      rw [he] at q2 st
      repeat' (first | exact q1 | exact q2 | (simp (disch := omega) only [go_sem, seval, reduceCtorEq, h1, h3, h4, mC, llPV_length, llPV_take, llPV_sz, llPV_sing, llPV_append, e1, e2, e3, m1, m2, maxBytes]) | with_reducible exact Ev.mk | apply x_call | ((first | apply x_split | apply x_splitg) <;> intro hβ hb <;> (simp (disch := omega) only [go_sem, seval, reduceCtorEq, h1, h3, h4, mC, llPV_length, llPV_take, llPV_sz, llPV_sing, llPV_append, e1, e2, e3, m1, m2, maxBytes, hβ]) <;> clear hβ))
      exact hr (agB_false l st _ (by omega)) _ rfl
    | true =>
      rw [he] at q2 st
      repeat' (first | exact q1 | exact q2 | (simp (disch := omega) only [go_sem, seval, reduceCtorEq, h1, h3, h4, mC, llPV_length, llPV_take, llPV_sz, llPV_sing, llPV_append, e1, e2, e3, m1, m2, maxBytes]) | with_reducible exact Ev.mk | apply x_call | ((first | apply x_split | apply x_splitg) <;> intro hβ hb <;> (simp (disch := omega) only [go_sem, seval, reduceCtorEq, h1, h3, h4, mC, llPV_length, llPV_take, llPV_sz, llPV_sing, llPV_append, e1, e2, e3, m1, m2, maxBytes, hβ]) <;> clear hβ))
      refine i_lk (W_round ?_)
      (try simp (disch := omega) only [go_sem, seval, reduceCtorEq])
      exact ih (i + 1) (by omega) st

theorem ps_agree (l : List (M × Fl)) (a : Bool) (net : List (X × Bool)) (b : Bool) (h : FitC l) : PS tb 13 [.agg [.slice a (memPV l), .slice b (netPV net)]] (.bool (agB l l.length)) := by
  have h7 := h.1
  refine PS_of (af := a13) rfl rfl ?_
  unfold a13
  dsimp only [List.map, ofPV, initEnv]
  repeat' (first | (simp (disch := omega) only [go_sem, seval, reduceCtorEq, memPV_length]) | with_reducible exact Ev.mk | ((first | apply x_split | apply x_splitg) <;> intro hβ hb <;> (simp (disch := omega) only [go_sem, seval, reduceCtorEq, memPV_length, hβ]) <;> clear hβ))
  refine W_round ?_
  (try simp (disch := omega) only [go_sem, seval, reduceCtorEq])
  refine l_agB l a h _ ?_ ?_ l.length 0 (by omega) rfl
  · intro ha s hs
    rw [ha]
    obtain ⟨e, H, nx, mk⟩ := s
    cases hs
    (try simp (disch := omega) only [go_sem, seval, reduceCtorEq])
  · intro ha s' hs
    rw [ha]
    (try simp (disch := omega) only [go_sem, seval, reduceCtorEq, hs])

theorem PS_out {T : Tab} {f : FuncId} {l : List PV} {r : PV} (h : T.A f = none) (hx : T.X.pure f l = some r) : PS T f l r := ⟨0, by simp only [cfs, h, hx]⟩

theorem comsOf_take (l : List (M × Fl)) (i : Nat) : (comsOf l).take i = comsOf (l.take i) := by simp [comsOf, List.map_take]

theorem comsOf_get (l : List (M × Fl)) (i : Nat) (h : i < l.length) : (comsOf l)[i]? = some (comL l[i].1) := by simp [comsOf, h]

theorem l_rag0 (l : List (M × Fl)) (a : Bool) (net : List (X × Bool)) (b : Bool) (h : FitC l) (i : Nat) (hi : i < l.length) (K : Ex → St → Prop)
    (hx : (comsOf (l.take i)).all (fun k => preB k (comL l[i].1)) = true → K (.exit 2) ⟨[(1, .ptr 0 0), (3, .p (.int .i64 i))], [(0, .var false [.p (.slice a (memPV l)), .p (.slice b (netPV net))])], 1, [0]⟩)
    (hr : (comsOf (l.take i)).all (fun k => preB k (comL l[i].1)) = false → ∀ s', aget s'.env 2 = some (.p (.bool false)) → K .ret s') : ∀ (r k : Nat), k + r = i → (comsOf (l.take k)).all (fun k => preB k (comL l[i].1)) = true →
    W tb a14_l0 ⟨[(1, .ptr 0 0), (3, .p (.int .i64 i)), (4, .p (.int .i64 k))], [(0, .var false [.p (.slice a (memPV l)), .p (.slice b (netPV net))])], 1, [0]⟩ (LK tb (.ghost .lower a14_l0) K) := by
  obtain ⟨h7, h256⟩ := h
  intro r
  induction r with
  | zero =>
    intro k hk ha
    obtain rfl : k = i := by omega
    have h1 : ¬ (k : Int) < k := by omega
    refine i_code (by unfold a14_l0; exact rfl) ?_
    repeat' (first | (simp (disch := omega) only [go_sem, seval, reduceCtorEq, h1]) | with_reducible exact Ev.mk | ((first | apply x_split | apply x_splitg) <;> intro hβ hb <;> (simp (disch := omega) only [go_sem, seval, reduceCtorEq, h1, hβ]) <;> clear hβ))
    exact hx ha
  | succ r ih =>
    intro k hk ha
    have h0 : k < l.length := by omega
    have h1 : (k : Int) < i := by omega
    have h4 : (0 : Int) ≤ i := by omega
    have h5 : (0 : Int) ≤ k := by omega
    have h6 : (i : Int) < l.length := by omega
    have h8 : (k : Int) < l.length := by omega
    have h3 := memPV_get l i hi
    have h3' := memPV_get l k h0
    have c1 := h256 _ (List.getElem_mem hi)
    have c2 := h256 _ (List.getElem_mem h0)
    have q1 := ps58L l[i].1 l[i].2 c1
    have q2 := ps58L l[k].1 l[k].2 c2
    have d1 := comL_le (m := l[i].1)
    have d2 := comL_le (m := l[k].1)
    have q3 := ps_rpre (comL l[i].1) (comL l[k].1) false false (by omega) (by omega)
    rw [preB_comm] at q3
    have st : (comsOf (l.take (k + 1))).all (fun k => preB k (comL l[i].1)) = preB (comL l[k].1) (comL l[i].1) := by
      rw [← comsOf_step l k h0, List.all_append, ha]
      simp
    have fin : preB (comL l[k].1) (comL l[i].1) = false → (comsOf (l.take i)).all (fun k => preB k (comL l[i].1)) = false := by
      intro hf
      rw [List.all_eq_false]
      refine ⟨comL l[k].1, ?_, by simp [hf]⟩
      refine List.mem_of_getElem? (i := k) ?_
      rw [← comsOf_take, List.getElem?_take, if_pos (by omega), comsOf_get l k h0]
    simp only [mC] at h3 h3' q1 q2
    generalize comL l[i].1 = A at *
    generalize comL l[k].1 = C at *
    refine i_code (by unfold a14_l0; exact rfl) ?_
    cases he : preB C A with
    | false =>
      rw [he] at q3
      repeat' (first | exact q1 | exact q2 | exact q3 | (simp (disch := omega) only [go_sem, seval, reduceCtorEq, memPV_length, memPV_sz, h1, h4, h5, h6, h8, h3, h3']) | with_reducible exact Ev.mk | apply x_call | ((first | apply x_split | apply x_splitg) <;> intro hβ hb <;> (simp (disch := omega) only [go_sem, seval, reduceCtorEq, memPV_length, memPV_sz, h1, h4, h5, h6, h8, h3, h3', hβ]) <;> clear hβ))
      exact hr (fin he) _ rfl
    | true =>
      rw [he] at q3
      repeat' (first | exact q1 | exact q2 | exact q3 | (simp (disch := omega) only [go_sem, seval, reduceCtorEq, memPV_length, memPV_sz, h1, h4, h5, h6, h8, h3, h3']) | with_reducible exact Ev.mk | apply x_call | ((first | apply x_split | apply x_splitg) <;> intro hβ hb <;> (simp (disch := omega) only [go_sem, seval, reduceCtorEq, memPV_length, memPV_sz, h1, h4, h5, h6, h8, h3, h3', hβ]) <;> clear hβ))
      refine i_lk (W_round ?_)
      (try simp (disch := omega) only [go_sem, seval, reduceCtorEq])
      exact ih (k + 1) (by omega) (by rw [st]; exact he)

theorem l_rag1 (l : List (M × Fl)) (a : Bool) (net : List (X × Bool)) (b : Bool) (h : FitC l) (K : Ex → St → Prop)
    (hx : agB l l.length = true → K (.exit 0) ⟨[], [], 0, [0]⟩)
    (hr : agB l l.length = false → ∀ s', aget s'.env 2 = some (.p (.bool false)) → K .ret s') : ∀ (r i : Nat), i + r = l.length → agB l i = true →
    W tb a14_l1 ⟨[(1, .ptr 0 0), (3, .p (.int .i64 i))], [(0, .var false [.p (.slice a (memPV l)), .p (.slice b (netPV net))])], 1, [0]⟩ (LK tb (.ghost .lower a14_l1) K) := by
  have h7 := h.1
  intro r
  induction r with
  | zero =>
    intro i hi ha
    obtain rfl : i = l.length := by omega
    have h1 : ¬ (l.length : Int) < l.length := by omega
    refine i_code (by unfold a14_l1; exact rfl) ?_
    repeat' (first | (simp (disch := omega) only [go_sem, seval, reduceCtorEq, memPV_length, h1]) | with_reducible exact Ev.mk | ((first | apply x_split | apply x_splitg) <;> intro hβ hb <;> (simp (disch := omega) only [go_sem, seval, reduceCtorEq, memPV_length, h1, hβ]) <;> clear hβ))
    exact hx ha
  | succ r ih =>
    intro i hi ha
    have h0 : i < l.length := by omega
    have h1 : (i : Int) < l.length := by omega
    have st := agB_step l i h0
    rw [ha, Bool.true_and] at st
    refine i_code (by unfold a14_l1; exact rfl) ?_
    repeat' (first | (simp (disch := omega) only [go_sem, seval, reduceCtorEq, memPV_length, h1]) | with_reducible exact Ev.mk | ((first | apply x_split | apply x_splitg) <;> intro hβ hb <;> (simp (disch := omega) only [go_sem, seval, reduceCtorEq, memPV_length, h1, hβ]) <;> clear hβ))
    refine W_round ?_
    (try simp (disch := omega) only [go_sem, seval, reduceCtorEq])
    refine l_rag0 l a net b h i h0 _ ?_ ?_ i 0 (by omega) rfl
    · intro he
      rw [he] at st
      (try simp (disch := omega) only [go_sem, seval, reduceCtorEq])
      refine i_lk (W_round ?_)
      (try simp (disch := omega) only [go_sem, seval, reduceCtorEq])
      exact ih (i + 1) (by omega) st
    · intro he s' hs
      rw [he] at st
      (try simp (disch := omega) only [go_sem, seval, reduceCtorEq])
      exact hr (agB_false l st _ (by omega)) s' hs

theorem ps_ragree (l : List (M × Fl)) (a : Bool) (net : List (X × Bool)) (b : Bool) (h : FitC l) : PS tb 14 [.agg [.slice a (memPV l), .slice b (netPV net)]] (.bool (agB l l.length)) := by
  refine PS_of (af := a14) rfl rfl ?_
  unfold a14
  dsimp only [List.map, ofPV, initEnv]
  repeat' (first | (simp (disch := omega) only [go_sem, seval, reduceCtorEq]) | with_reducible exact Ev.mk | ((first | apply x_split | apply x_splitg) <;> intro hβ hb <;> (simp (disch := omega) only [go_sem, seval, reduceCtorEq, hβ]) <;> clear hβ))
  refine W_round ?_
  (try simp (disch := omega) only [go_sem, seval, reduceCtorEq])
  refine l_rag1 l a net b h _ ?_ ?_ l.length 0 (by omega) rfl
  · intro ha
    rw [ha]
    (try simp (disch := omega) only [go_sem, seval, reduceCtorEq])
  · intro ha s' hs
    rw [ha]
    (try simp (disch := omega) only [go_sem, seval, reduceCtorEq, hs])

theorem ps_cloneS (l : List ByteArray) (b : Bool) (h : l.length ≤ 5864062014805) : PS tb 28 [.slice b (strsPV l)] (.slice false (strsPV l)) := by
  refine PS_out (show tab 28 = none from rfl) ?_
  show outside.pure 28 _ = _
  simp [outside, clones, cloneOf, strsPV_sz, strsPV_length, maxBytes]
  omega

/-- The longer of two lists, the first one if they are equally long. -/
def longer (b x : List ByteArray) : List ByteArray := if b.length < x.length then x else b

def bestOf (l : List (M × Fl)) : List ByteArray := (comsOf l).foldl longer []

theorem bestOf_step (l : List (M × Fl)) (i : Nat) (h : i < l.length) : bestOf (l.take (i + 1)) = longer (bestOf (l.take i)) (comL l[i].1) := by
  unfold bestOf
  rw [← comsOf_step l i h, List.foldl_append]
  rfl

theorem best_mem : ∀ (L : List (List ByteArray)) (b : List ByteArray), L.foldl longer b = b ∨ L.foldl longer b ∈ L
  | [], b => .inl rfl
  | x :: r, b => by
    rw [List.foldl_cons]
    rcases best_mem r (longer b x) with e | e
    · rw [e]
      unfold longer
      split
      · exact .inr (by simp)
      · exact .inl rfl
    · exact .inr (List.mem_cons_of_mem _ e)

theorem bestOf_le {l : List (M × Fl)} (h : FitC l) : (bestOf l).length ≤ 5864062014805 := by
  rcases best_mem (comsOf l) [] with e | e
  · unfold bestOf; rw [e]; simp
  · obtain ⟨t, ht, he⟩ := List.mem_map.1 e
    unfold bestOf; rw [← he]
    exact Nat.le_trans (comL_le (m := t.1)) (h.2 t ht)

theorem l_qcom (l : List (M × Fl)) (a : Bool) (h : FitC l) (K : Ex → St → Prop) (hx : ∀ w, K (.exit 0) ⟨[(3, .p (.slice w (strsPV (bestOf l))))], [], 0, [0]⟩) : ∀ (m i : Nat), i + m = l.length → ∀ w,
    W tb a11_l0 ⟨[(3, .p (.slice w (strsPV (bestOf (l.take i))))), (8, .p (.slice a (memPV l))), (9, .p (.int .i64 l.length)), (10, .p (.int .i64 i))], [], 0, [0]⟩ (LK tb (.ghost (.free [1, 5]) (.ghost .lower a11_l0)) K) := by
  obtain ⟨h7, h256⟩ := h
  intro m
  induction m with
  | zero =>
    intro i hi w
    have h1 : ¬ (i : Int) < l.length := by omega
    have e : i = l.length := by omega
    subst e
    rw [List.take_length]
    refine i_code (by unfold a11_l0; exact rfl) ?_
    repeat' (first | (simp (disch := omega) only [go_sem, seval, reduceCtorEq, h1]) | with_reducible exact Ev.mk | ((first | apply x_split | apply x_splitg) <;> intro hβ hb <;> (simp (disch := omega) only [go_sem, seval, reduceCtorEq, h1, hβ]) <;> clear hβ))
    exact hx w
  | succ m ih =>
    intro i hi w
    have h1 : (i : Int) < l.length := by omega
    have h2 : i < l.length := by omega
    have h4 : (0 : Int) ≤ i := by omega
    have h3 := memPV_get l i h2
    have hm := List.getElem_mem h2
    have q1 := ps57L l[i].1 l[i].2 (h256 _ hm)
    have e := bestOf_step l i h2
    refine i_code (by unfold a11_l0; exact rfl) ?_
    by_cases hb : (bestOf (l.take i)).length < (comL l[i].1).length
    · have h5 : ((bestOf (l.take i)).length : Int) < (comL l[i].1).length := by omega
      have e2 : bestOf (l.take (i + 1)) = comL l[i].1 := by rw [e]; exact if_pos hb
      repeat' (first | exact q1 | (simp (disch := omega) only [go_sem, seval, reduceCtorEq, h1, h3, h4, mC, strsPV_length, h5]) | with_reducible exact Ev.mk | apply x_call | ((first | apply x_split | apply x_splitg) <;> intro hβ hb <;> (simp (disch := omega) only [go_sem, seval, reduceCtorEq, h1, h3, h4, mC, strsPV_length, h5, hβ]) <;> clear hβ))
      refine i_lk (W_round ?_)
      (try simp (disch := omega) only [go_sem, seval, reduceCtorEq])
      have := ih (i + 1) (by omega) false
      rw [e2] at this
      exact this
    · have h5 : ¬ ((bestOf (l.take i)).length : Int) < (comL l[i].1).length := by omega
      have e2 : bestOf (l.take (i + 1)) = bestOf (l.take i) := by rw [e]; exact if_neg hb
      repeat' (first | exact q1 | (simp (disch := omega) only [go_sem, seval, reduceCtorEq, h1, h3, h4, mC, strsPV_length, h5]) | with_reducible exact Ev.mk | apply x_call | ((first | apply x_split | apply x_splitg) <;> intro hβ hb <;> (simp (disch := omega) only [go_sem, seval, reduceCtorEq, h1, h3, h4, mC, strsPV_length, h5, hβ]) <;> clear hβ))
      refine i_lk (W_round ?_)
      (try simp (disch := omega) only [go_sem, seval, reduceCtorEq])
      have := ih (i + 1) (by omega) w
      rw [e2] at this
      exact this

theorem ps_qcom (l : List (M × Fl)) (a : Bool) (net : List (X × Bool)) (b : Bool) (h : FitC l) : PS tb 11 [.agg [.slice a (memPV l), .slice b (netPV net)]] (.slice false (strsPV (bestOf l))) := by
  have h7 := h.1
  have q := fun w => ps_cloneS (bestOf l) w (bestOf_le h)
  have h0 : ([] : List (List PV)) = strsPV (bestOf (l.take 0)) := rfl
  refine PS_of (af := a11) rfl rfl ?_
  unfold a11
  dsimp only [List.map, ofPV, initEnv]
  repeat' (first | (simp (disch := omega) only [go_sem, seval, reduceCtorEq, memPV_length]) | with_reducible exact Ev.mk | ((first | apply x_split | apply x_splitg) <;> intro hβ hb <;> (simp (disch := omega) only [go_sem, seval, reduceCtorEq, memPV_length, hβ]) <;> clear hβ))
  refine W_round ?_
  (try simp (disch := omega) only [go_sem, seval, reduceCtorEq])
  refine l_qcom l a h _ ?_ l.length 0 (by omega) true
  intro w
  repeat' (first | exact q w | (simp (disch := omega) only [go_sem, seval, reduceCtorEq]) | with_reducible exact Ev.mk | apply x_call | ((first | apply x_split | apply x_splitg) <;> intro hβ hb <;> (simp (disch := omega) only [go_sem, seval, reduceCtorEq, hβ]) <;> clear hβ))

theorem l_rcom (l : List (M × Fl)) (a : Bool) (net : List (X × Bool)) (b : Bool) (h : FitC l) (K : Ex → St → Prop) (hx : ∀ w, K (.exit 0) ⟨[(3, .p (.slice w (strsPV (bestOf l))))], [], 0, [0]⟩) : ∀ (m i : Nat), i + m = l.length → ∀ w,
    W tb a12_l0 ⟨[(1, .ptr 0 0), (3, .p (.slice w (strsPV (bestOf (l.take i))))), (4, .p (.int .i64 i))], [(0, .var false [.p (.slice a (memPV l)), .p (.slice b (netPV net))])], 1, [0]⟩ (LK tb (.ghost .lower a12_l0) K) := by
  obtain ⟨h7, h256⟩ := h
  intro m
  induction m with
  | zero =>
    intro i hi w
    have h1 : ¬ (i : Int) < l.length := by omega
    have e : i = l.length := by omega
    subst e
    rw [List.take_length]
    refine i_code (by unfold a12_l0; exact rfl) ?_
    repeat' (first | (simp (disch := omega) only [go_sem, seval, reduceCtorEq, memPV_length, h1]) | with_reducible exact Ev.mk | ((first | apply x_split | apply x_splitg) <;> intro hβ hb <;> (simp (disch := omega) only [go_sem, seval, reduceCtorEq, memPV_length, h1, hβ]) <;> clear hβ))
    exact hx w
  | succ m ih =>
    intro i hi w
    have h1 : (i : Int) < l.length := by omega
    have h2 : i < l.length := by omega
    have h4 : (0 : Int) ≤ i := by omega
    have h3 := memPV_get l i h2
    have hm := List.getElem_mem h2
    have q1 := ps58L l[i].1 l[i].2 (h256 _ hm)
    have e := bestOf_step l i h2
    simp only [mC] at h3 q1
    refine i_code (by unfold a12_l0; exact rfl) ?_
    by_cases hb : (bestOf (l.take i)).length < (comL l[i].1).length
    · have h5 : ((bestOf (l.take i)).length : Int) < (comL l[i].1).length := by omega
      have e2 : bestOf (l.take (i + 1)) = comL l[i].1 := by rw [e]; exact if_pos hb
      repeat' (first | exact q1 | (simp (disch := omega) only [go_sem, seval, reduceCtorEq, memPV_length, memPV_sz, h1, h3, h4, strsPV_length, h5]) | with_reducible exact Ev.mk | apply x_call | ((first | apply x_split | apply x_splitg) <;> intro hβ hb <;> (simp (disch := omega) only [go_sem, seval, reduceCtorEq, memPV_length, memPV_sz, h1, h3, h4, strsPV_length, h5, hβ]) <;> clear hβ))
      refine i_lk (W_round ?_)
      (try simp (disch := omega) only [go_sem, seval, reduceCtorEq])
      have := ih (i + 1) (by omega) false
      rw [e2] at this
      exact this
    · have h5 : ¬ ((bestOf (l.take i)).length : Int) < (comL l[i].1).length := by omega
      have e2 : bestOf (l.take (i + 1)) = bestOf (l.take i) := by rw [e]; exact if_neg hb
      repeat' (first | exact q1 | (simp (disch := omega) only [go_sem, seval, reduceCtorEq, memPV_length, memPV_sz, h1, h3, h4, strsPV_length, h5]) | with_reducible exact Ev.mk | apply x_call | ((first | apply x_split | apply x_splitg) <;> intro hβ hb <;> (simp (disch := omega) only [go_sem, seval, reduceCtorEq, memPV_length, memPV_sz, h1, h3, h4, strsPV_length, h5, hβ]) <;> clear hβ))
      refine i_lk (W_round ?_)
      (try simp (disch := omega) only [go_sem, seval, reduceCtorEq])
      have := ih (i + 1) (by omega) w
      rw [e2] at this
      exact this

theorem ps_rcom (l : List (M × Fl)) (a : Bool) (net : List (X × Bool)) (b : Bool) (h : FitC l) : ∃ w, PS tb 12 [.agg [.slice a (memPV l), .slice b (netPV net)]] (.slice w (strsPV (bestOf l))) := by
  have key : ∃ p, PS tb 12 [.agg [.slice a (memPV l), .slice b (netPV net)]] p ∧ ∃ w, p = .slice w (strsPV (bestOf l)) := by
    have h7 := h.1
    refine PS_any (af := a12) rfl rfl ?_
    unfold a12
    dsimp only [List.map, ofPV, initEnv]
    repeat' (first | (simp (disch := omega) only [go_sem, seval, reduceCtorEq]) | with_reducible exact Ev.mk | ((first | apply x_split | apply x_splitg) <;> intro hβ hb <;> (simp (disch := omega) only [go_sem, seval, reduceCtorEq, hβ]) <;> clear hβ))
    refine W_round ?_
    (try simp (disch := omega) only [go_sem, seval, reduceCtorEq])
    refine l_rcom l a net b h _ ?_ l.length 0 (by omega) true
    intro w
    (try simp (disch := omega) only [go_sem, seval, reduceCtorEq])
    exact ⟨_, rfl, w, rfl⟩
  obtain ⟨p, hp, w, rfl⟩ := key
  exact ⟨w, hp⟩

/-- The number of the first leader with the greatest term among the first i members, or 0. -/
def ledN (l : List (M × Fl)) : Nat → Nat
  | 0 => 0
  | i + 1 => if (l.getD i (zeroM, ⟨true, true, true, true⟩)).1.role = 3 ∧ (ledN l i = 0 ∨ (l.getD (ledN l i - 1) (zeroM, ⟨true, true, true, true⟩)).1.term < (l.getD i (zeroM, ⟨true, true, true, true⟩)).1.term) then i + 1 else ledN l i

theorem ledN_le (l : List (M × Fl)) : ∀ i, ledN l i ≤ i
  | 0 => Nat.le_refl _
  | i + 1 => by
    simp only [ledN]
    split
    · exact Nat.le_refl _
    · exact Nat.le_succ_of_le (ledN_le l i)

def ledT (l : List (M × Fl)) (i : Nat) : Int := if ledN l i = 0 then 0 else (l.getD (ledN l i - 1) (zeroM, ⟨true, true, true, true⟩)).1.term

theorem getD_of (l : List (M × Fl)) (i : Nat) (h : i < l.length) : l.getD i (zeroM, ⟨true, true, true, true⟩) = l[i] := by rw [List.getD_eq_getElem?_getD, List.getElem?_eq_getElem h]; rfl

theorem l_rlead (l : List (M × Fl)) (a : Bool) (net : List (X × Bool)) (b : Bool) (h7 : l.length ≤ 977343669134) (K : Ex → St → Prop) (hx : K (.exit 0) ⟨[(3, .p (.int .i64 (ledN l l.length)))], [], 0, [0]⟩) : ∀ (r i : Nat), i + r = l.length →
    W tb a9_l0 ⟨[(1, .ptr 0 0), (3, .p (.int .i64 (ledN l i))), (4, .p (.int .i64 (ledT l i))), (5, .p (.int .i64 i))], [(0, .var false [.p (.slice a (memPV l)), .p (.slice b (netPV net))])], 1, [0]⟩ (LK tb (.ghost (.free [6]) (.ghost .lower a9_l0)) K) := by
  intro r
  induction r with
  | zero =>
    intro i hi
    have e : i = l.length := by omega
    subst e
    have h1 : ¬ (l.length : Int) < l.length := by omega
    refine i_code (by unfold a9_l0; exact rfl) ?_
    repeat' (first | (simp (disch := omega) only [go_sem, seval, reduceCtorEq, memPV_length, h1]) | with_reducible exact Ev.mk | ((first | apply x_split | apply x_splitg) <;> intro hβ hb <;> (simp (disch := omega) only [go_sem, seval, reduceCtorEq, memPV_length, h1, hβ]) <;> clear hβ))
    exact hx
  | succ r ih =>
    intro i hi
    have h0 : i < l.length := by omega
    have h1 : (i : Int) < l.length := by omega
    have h4 : (0 : Int) ≤ i := by omega
    have h3 := memPV_get l i h0
    have hg := getD_of l i h0
    have ih := ih (i + 1) (by omega)
    have e1 : ledN l (i + 1) = if l[i].1.role = 3 ∧ (ledN l i = 0 ∨ ledT l i < l[i].1.term) then i + 1 else ledN l i := by
      simp only [ledN, hg]
      by_cases hz : ledN l i = 0
      · simp only [hz, true_or, and_true]
      · simp only [ledT, if_neg hz]
    have e2 : ledT l (i + 1) = if l[i].1.role = 3 ∧ (ledN l i = 0 ∨ ledT l i < l[i].1.term) then l[i].1.term else ledT l i := by
      unfold ledT
      rw [e1]
      by_cases hc : l[i].1.role = 3 ∧ (ledN l i = 0 ∨ ledT l i < l[i].1.term)
      · rw [if_pos hc]
        have hc' : l[i].1.role = 3 ∧ (ledN l i = 0 ∨ (if ledN l i = 0 then 0 else (l.getD (ledN l i - 1) (zeroM, ⟨true, true, true, true⟩)).1.term) < l[i].1.term) := hc
        rw [if_pos hc', if_neg (by omega), Nat.add_sub_cancel, hg]
      · rw [if_neg hc]
        have hc' : ¬ (l[i].1.role = 3 ∧ (ledN l i = 0 ∨ (if ledN l i = 0 then 0 else (l.getD (ledN l i - 1) (zeroM, ⟨true, true, true, true⟩)).1.term) < l[i].1.term)) := hc
        rw [if_neg hc']
    simp only [mC] at h3
    refine i_code (by unfold a9_l0; exact rfl) ?_
    by_cases c1 : l[i].1.role = 3
    · have t1 : (l[i].1.role == 3) = true := by simp [c1]
      by_cases c2 : ledN l i = 0
      · have t2 : ((ledN l i : Int) == 0) = true := by simp [c2]
        rw [if_pos ⟨c1, .inl c2⟩] at e1 e2
        rw [e1, e2] at ih
        repeat' (first | (simp (disch := omega) only [go_sem, seval, reduceCtorEq, memPV_length, memPV_sz, h1, h3, h4, t1, t2]) | with_reducible exact Ev.mk | ((first | apply x_split | apply x_splitg) <;> intro hβ hb <;> (simp (disch := omega) only [go_sem, seval, reduceCtorEq, memPV_length, memPV_sz, h1, h3, h4, t1, t2, hβ]) <;> clear hβ))
        refine i_lk (W_round ?_)
        (try simp (disch := omega) only [go_sem, seval, reduceCtorEq])
        exact ih
      · have t2 : ((ledN l i : Int) == 0) = false := by simp [c2]
        by_cases c3 : ledT l i < l[i].1.term
        · rw [if_pos ⟨c1, .inr c3⟩] at e1 e2
          rw [e1, e2] at ih
          repeat' (first | (simp (disch := omega) only [go_sem, seval, reduceCtorEq, memPV_length, memPV_sz, h1, h3, h4, t1, t2, c3]) | with_reducible exact Ev.mk | ((first | apply x_split | apply x_splitg) <;> intro hβ hb <;> (simp (disch := omega) only [go_sem, seval, reduceCtorEq, memPV_length, memPV_sz, h1, h3, h4, t1, t2, c3, hβ]) <;> clear hβ))
          refine i_lk (W_round ?_)
          (try simp (disch := omega) only [go_sem, seval, reduceCtorEq])
          exact ih
        · rw [if_neg (fun h => h.2.elim c2 c3)] at e1 e2
          rw [e1, e2] at ih
          repeat' (first | (simp (disch := omega) only [go_sem, seval, reduceCtorEq, memPV_length, memPV_sz, h1, h3, h4, t1, t2, c3]) | with_reducible exact Ev.mk | ((first | apply x_split | apply x_splitg) <;> intro hβ hb <;> (simp (disch := omega) only [go_sem, seval, reduceCtorEq, memPV_length, memPV_sz, h1, h3, h4, t1, t2, c3, hβ]) <;> clear hβ))
          refine i_lk (W_round ?_)
          (try simp (disch := omega) only [go_sem, seval, reduceCtorEq])
          exact ih
    · have t1 : (l[i].1.role == 3) = false := by simpa using c1
      rw [if_neg (fun h => c1 h.1)] at e1 e2
      rw [e1, e2] at ih
      repeat' (first | (simp (disch := omega) only [go_sem, seval, reduceCtorEq, memPV_length, memPV_sz, h1, h3, h4, t1]) | with_reducible exact Ev.mk | ((first | apply x_split | apply x_splitg) <;> intro hβ hb <;> (simp (disch := omega) only [go_sem, seval, reduceCtorEq, memPV_length, memPV_sz, h1, h3, h4, t1, hβ]) <;> clear hβ))
      refine i_lk (W_round ?_)
      (try simp (disch := omega) only [go_sem, seval, reduceCtorEq])
      exact ih

theorem ps_rlead (l : List (M × Fl)) (a : Bool) (net : List (X × Bool)) (b : Bool) (h7 : l.length ≤ 977343669134) : PS tb 9 [.agg [.slice a (memPV l), .slice b (netPV net)]] (.int .i64 (ledN l l.length)) := by
  refine PS_of (af := a9) rfl rfl ?_
  unfold a9
  dsimp only [List.map, ofPV, initEnv]
  repeat' (first | (simp (disch := omega) only [go_sem, seval, reduceCtorEq]) | with_reducible exact Ev.mk | ((first | apply x_split | apply x_splitg) <;> intro hβ hb <;> (simp (disch := omega) only [go_sem, seval, reduceCtorEq, hβ]) <;> clear hβ))
  refine W_round ?_
  (try simp (disch := omega) only [go_sem, seval, reduceCtorEq])
  refine l_rlead l a net b h7 _ ?_ l.length 0 (by omega)
  (try simp (disch := omega) only [go_sem, seval, reduceCtorEq])

theorem l_qlead (l : List (M × Fl)) (a : Bool) (net : List (X × Bool)) (b : Bool) (h7 : l.length ≤ 977343669134) (K : Ex → St → Prop) (hx : K (.exit 0) ⟨[(3, .p (.int .i64 ((ledN l l.length : Int) - 1)))], [], 0, [0]⟩) : ∀ (r i : Nat), i + r = l.length →
    W tb a8_l0 ⟨[(1, .ptr 0 0), (3, .p (.int .i64 ((ledN l i : Int) - 1))), (7, .p (.slice a (memPV l))), (8, .p (.int .i64 l.length)), (9, .p (.int .i64 i))], [(0, .var false [.p (.slice a (memPV l)), .p (.slice b (netPV net))])], 1, [0]⟩ (LK tb (.ghost (.free [5]) (.ghost .lower a8_l0)) K) := by
  intro r
  induction r with
  | zero =>
    intro i hi
    have e : i = l.length := by omega
    subst e
    have h1 : ¬ (l.length : Int) < l.length := by omega
    refine i_code (by unfold a8_l0; exact rfl) ?_
    repeat' (first | (simp (disch := omega) only [go_sem, seval, reduceCtorEq, h1]) | with_reducible exact Ev.mk | ((first | apply x_split | apply x_splitg) <;> intro hβ hb <;> (simp (disch := omega) only [go_sem, seval, reduceCtorEq, h1, hβ]) <;> clear hβ))
    exact hx
  | succ r ih =>
    intro i hi
    have h0 : i < l.length := by omega
    have h1 : (i : Int) < l.length := by omega
    have h4 : (0 : Int) ≤ i := by omega
    have h3 := memPV_get l i h0
    have hg := getD_of l i h0
    have hle := ledN_le l i
    have ih := ih (i + 1) (by omega)
    have z1 : ((i + 1 : Nat) : Int) - 1 = i := by omega
    simp only [mC] at h3
    refine i_code (by unfold a8_l0; exact rfl) ?_
    by_cases c1 : l[i].1.role = 3
    · have t1 : (l[i].1.role == 3) = true := by simp [c1]
      by_cases c2 : ledN l i = 0
      · have t2 : (ledN l i : Int) - 1 < 0 := by omega
        have e1 : ledN l (i + 1) = i + 1 := by simp only [ledN, hg]; rw [if_pos ⟨c1, .inl c2⟩]
        rw [e1, z1] at ih
        repeat' (first | (simp (disch := omega) only [go_sem, seval, reduceCtorEq, memPV_length, memPV_sz, h1, h3, h4, t1, t2]) | with_reducible exact Ev.mk | ((first | apply x_split | apply x_splitg) <;> intro hβ hb <;> (simp (disch := omega) only [go_sem, seval, reduceCtorEq, memPV_length, memPV_sz, h1, h3, h4, t1, t2, hβ]) <;> clear hβ))
        refine i_lk (W_round ?_)
        (try simp (disch := omega) only [go_sem, seval, reduceCtorEq])
        exact ih
      · obtain ⟨j, hj⟩ : ∃ j, ledN l i = j + 1 := ⟨ledN l i - 1, by omega⟩
        have hjl : j < l.length := by omega
        have e0 : ledN l (i + 1) = if l[i].1.role = 3 ∧ (ledN l i = 0 ∨ l[j].1.term < l[i].1.term) then i + 1 else ledN l i := by
          simp only [ledN, hg, hj, Nat.add_sub_cancel, getD_of l j hjl]
        rw [hj] at e0 ⊢
        have z2 : ((j + 1 : Nat) : Int) - 1 = j := by omega
        have t2 : ¬ (j : Int) < 0 := by omega
        have t3 : (0 : Int) ≤ j := by omega
        have t4 : (j : Int) < l.length := by omega
        have h3' := memPV_get l j hjl
        simp only [mC] at h3'
        by_cases c3 : l[j].1.term < l[i].1.term
        · rw [if_pos ⟨c1, .inr c3⟩] at e0
          rw [e0, z1] at ih
          repeat' (first | (simp (disch := omega) only [go_sem, seval, reduceCtorEq, memPV_length, memPV_sz, h1, h3, h4, t1, z2, t2, t3, t4, h3', c3]) | with_reducible exact Ev.mk | ((first | apply x_split | apply x_splitg) <;> intro hβ hb <;> (simp (disch := omega) only [go_sem, seval, reduceCtorEq, memPV_length, memPV_sz, h1, h3, h4, t1, z2, t2, t3, t4, h3', c3, hβ]) <;> clear hβ))
          refine i_lk (W_round ?_)
          (try simp (disch := omega) only [go_sem, seval, reduceCtorEq])
          exact ih
        · rw [if_neg (fun h => h.2.elim (by omega) c3)] at e0
          rw [e0, z2] at ih
          repeat' (first | (simp (disch := omega) only [go_sem, seval, reduceCtorEq, memPV_length, memPV_sz, h1, h3, h4, t1, z2, t2, t3, t4, h3', c3]) | with_reducible exact Ev.mk | ((first | apply x_split | apply x_splitg) <;> intro hβ hb <;> (simp (disch := omega) only [go_sem, seval, reduceCtorEq, memPV_length, memPV_sz, h1, h3, h4, t1, z2, t2, t3, t4, h3', c3, hβ]) <;> clear hβ))
          refine i_lk (W_round ?_)
          (try simp (disch := omega) only [go_sem, seval, reduceCtorEq])
          exact ih
    · have t1 : (l[i].1.role == 3) = false := by simpa using c1
      have e1 : ledN l (i + 1) = ledN l i := by simp only [ledN, hg]; rw [if_neg (fun h => c1 h.1)]
      rw [e1] at ih
      repeat' (first | (simp (disch := omega) only [go_sem, seval, reduceCtorEq, memPV_length, memPV_sz, h1, h3, h4, t1]) | with_reducible exact Ev.mk | ((first | apply x_split | apply x_splitg) <;> intro hβ hb <;> (simp (disch := omega) only [go_sem, seval, reduceCtorEq, memPV_length, memPV_sz, h1, h3, h4, t1, hβ]) <;> clear hβ))
      refine i_lk (W_round ?_)
      (try simp (disch := omega) only [go_sem, seval, reduceCtorEq])
      exact ih

theorem ps_qlead (l : List (M × Fl)) (a : Bool) (net : List (X × Bool)) (b : Bool) (h7 : l.length ≤ 977343669134) : PS tb 8 [.agg [.slice a (memPV l), .slice b (netPV net)]] (.int .i64 (ledN l l.length)) := by
  have hle := ledN_le l l.length
  have e : (ledN l l.length : Int) - 1 + 1 = ledN l l.length := by omega
  have z : (-1 : Int) = ((ledN l 0 : Nat) : Int) - 1 := rfl
  refine PS_of (af := a8) rfl rfl ?_
  unfold a8
  dsimp only [List.map, ofPV, initEnv]
  repeat' (first | (simp (disch := omega) only [go_sem, seval, reduceCtorEq, memPV_length]) | with_reducible exact Ev.mk | ((first | apply x_split | apply x_splitg) <;> intro hβ hb <;> (simp (disch := omega) only [go_sem, seval, reduceCtorEq, memPV_length, hβ]) <;> clear hβ))
  refine W_round ?_
  (try simp (disch := omega) only [go_sem, seval, reduceCtorEq])
  refine l_qlead l a net b h7 _ ?_ l.length 0 (by omega)
  repeat' (first | (simp (disch := omega) only [go_sem, seval, reduceCtorEq, e]) | with_reducible exact Ev.mk | ((first | apply x_split | apply x_splitg) <;> intro hβ hb <;> (simp (disch := omega) only [go_sem, seval, reduceCtorEq, e, hβ]) <;> clear hβ))

theorem walkQuorumValidatesL (l : List (M × Fl)) (net : List (X × Bool)) (hl : FitC l) (hn : net.length ≤ 9223372036854775807) (hm : ∀ t ∈ l, MIn t.1) (hi : ∀ t ∈ net, t.1.items.length ≤ 9223372036854775807) :
    PS tb 3 [.agg [.slice false (memPV l), .slice false (netPV net)]] (.bool true) := by
  have h7 := hl.1
  have q1 := ps_qvalid l false net false (by omega) hn hm
  have q2 := ps_rvalid l false net false (by omega) hn hm hi
  have q3 := ps_qlead l false net false h7
  have q4 := ps_rlead l false net false h7
  have q5 := ps_qcom l false net false hl
  obtain ⟨w, q6⟩ := ps_rcom l false net false hl
  have q7 := ps_strs (bestOf l) false w (by have := bestOf_le hl; omega)
  have q8 := ps_agree l false net false hl
  have q9 := ps_ragree l false net false hl
  have t1 : ∀ z : Int, (z == z) = true := fun z => by simp
  have t2 : ∀ z : Bool, (z == z) = true := fun z => by simp
  generalize okC (fsts l) (fstx net) = V at *
  generalize ledN l l.length = L at *
  generalize agB l l.length = G at *
  refine PS_of (af := a3) rfl rfl ?_
  unfold a3
  dsimp only [List.map, ofPV, initEnv]
  repeat' (first | exact q1 | exact q2 | exact q3 | exact q4 | exact q5 | exact q6 | exact q7 | exact q8 | exact q9 | exact ps_examples | (simp (disch := omega) only [go_sem, seval, reduceCtorEq, t1, t2]) | with_reducible exact Ev.mk | apply x_call | ((first | apply x_split | apply x_splitg) <;> intro hβ hb <;> (simp (disch := omega) only [go_sem, seval, reduceCtorEq, t1, t2, hβ]) <;> clear hβ))

theorem szPV_pos : ∀ v : PV, 1 ≤ szPV v
  | .slice _ _ => by simp only [szPV]; omega
  | .str _ => by simp only [szPV]; omega
  | .int _ _ | .bool _ | .vptr _ | .func _ _ | .agg _ | .tuple _ | .undef | .z _ => by simp only [szPV]; omega

theorem szRow_mem {x : PV} : ∀ {r : List PV}, x ∈ r → szPV x ≤ szRow r
  | y :: r, h => by
    simp only [szRow]
    rcases List.mem_cons.1 h with rfl | h
    · omega
    · have := szRow_mem h; omega

theorem szRows_mem {x : List PV} : ∀ {r : List (List PV)}, x ∈ r → szRow x ≤ szRows r
  | y :: r, h => by
    simp only [szRows]
    rcases List.mem_cons.1 h with rfl | h
    · omega
    · have := szRows_mem h; omega

theorem szRows_len : ∀ {r : List (List PV)}, (∀ x ∈ r, x ≠ []) → r.length ≤ szRows r
  | [], _ => Nat.zero_le _
  | [] :: r, h => absurd rfl (h [] List.mem_cons_self)
  | (a :: x) :: r, h => by
    have := szRows_len (r := r) fun y hy => h y (List.mem_cons_of_mem _ hy)
    have := szPV_pos a
    simp only [szRows, szRow, List.length_cons]
    omega

theorem szRows_items (l : List (Int × ByteArray)) : l.length ≤ szRows (itemsPV l) := by
  have := szRows_len (r := itemsPV l) fun x hx => by
    obtain ⟨t, _, rfl⟩ := List.mem_map.1 hx
    simp [itemPV]
  rwa [itemsPV_length] at this

theorem walkQuorumValidates {u : List PV} (h : Fits [.slice [.int .i64, .int .i64, .int .i64, .int .i64, .slice [.int .i64, .str], .int .i64, .int .i64, .slice [.int .i64], .slice [.int .i64], .slice [.int .i64]], .slice [.int .i64, .int .i64, .int .i64, .int .i64, .int .i64, .int .i64, .int .i64, .bool, .slice [.int .i64, .str]]] u)
    (y0 : szRow u ≤ 1048576) : PS tb 3 [.agg u] (.bool true) := by
  obtain ⟨l, net, rfl, hl, hn, hm, hi⟩ := fit_cluster h
  simp only [szRow, szPV] at y0
  have y1 : szRows (memPV l) ≤ 1048576 := by omega
  refine walkQuorumValidatesL l net ⟨?_, fun t ht => ?_⟩ hn hm hi
  · have := szRows_len (r := memPV l) fun x hx => by
      obtain ⟨t, _, rfl⟩ := List.mem_map.1 hx
      simp [mC]
    rw [memPV_length] at this
    omega
  · have h1 := szRows_mem (r := memPV l) (List.mem_map_of_mem (f := fun t : M × Fl => mC t.1 t.2) ht)
    have h2 := szRow_mem (x := .slice t.2.a (itemsPV t.1.log)) (r := mC t.1 t.2) (by simp [mC])
    have h3 := szRows_items t.1.log
    simp only [szPV] at h2
    omega

end Go.Dv.Tryz
