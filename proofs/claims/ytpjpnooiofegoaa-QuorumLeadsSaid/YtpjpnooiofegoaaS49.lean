/-
  Specifications of the functions of this claim, parts 49, 7, 8, 9.
-/
import Derived.Test.YtpjpnooiofegoaaTab
import Derived.Test.YtpjpnooiofegoaaStep
import Derived.Test.YtpjpnooiofegoaaS1
import Derived.Test.YtpjpnooiofegoaaS7
import Derived.Test.YtpjpnooiofegoaaS12
import Derived.Test.YtpjpnooiofegoaaS16
import Derived.Test.YtpjpnooiofegoaaS24
import Derived.Test.YtpjpnooiofegoaaS37
import Derived.Test.YtpjpnooiofegoaaS42
import Derived.Test.YtpjpnooiofegoaaS46
set_option linter.unusedVariables false
set_option linter.unusedSimpArgs false
set_option maxRecDepth 100000
set_option maxHeartbeats 16000000
namespace Go.Dv.Try
open Go Go.Dv

theorem vote_some {m : M} {x y : X} (h : (voteR m x).2 = some y) : concernsX m x 1 = true ∧ (voteR m x).1 = castM (newer m x) x ∧ y = voteReplyX (castM (newer m x) x) x.frm (grants (newer m x) x) := by
  unfold voteR at h ⊢
  split at h
  · rename_i hc
    simp only [Option.some.injEq] at h
    rw [if_pos hc]
    exact ⟨hc, rfl, h.symm⟩
  · cases h

theorem asksN_mem {c : M} {k : Nat} : ∀ y ∈ asksN c k, ∃ t : Nat, t < k ∧ ((t + 1 : Nat) : Int) ≠ c.id ∧ y = askX c (t + 1 : Nat) := by
  induction k with
  | zero => simp [asksN]
  | succ k ih =>
    intro y hy
    simp only [asksN] at hy
    split at hy
    · obtain ⟨t, h1, h2, h3⟩ := ih y hy
      exact ⟨t, by omega, h2, h3⟩
    · rename_i ne
      rcases List.mem_append.1 hy with h | h
      · obtain ⟨t, h1, h2, h3⟩ := ih y h
        exact ⟨t, by omega, h2, h3⟩
      · simp only [List.mem_singleton] at h
        exact ⟨k, by omega, ne, h⟩

theorem won_fields (m : M) : (wonM m).term = m.term ∧ (wonM m).vote = m.vote ∧ (wonM m).id = m.id ∧ (wonM m).members = m.members ∧ (wonM m).log = m.log := by
  unfold wonM; split <;> exact ⟨rfl, rfl, rfl, rfl, rfl⟩

theorem timeout_ok {m : M} (ho : okM m = true) : ∀ y ∈ (timeoutR m).2, okX y m.members = true ∧ y.frm = m.id ∧ y.term = (timeoutR m).1.term ∧ y.kind = 1 := by
  obtain ⟨hh, _⟩ := (okM_iff m).1 ho
  have i1 := hh.id1; have i2 := hh.id2; have i3 := hh.me1; have i4 := hh.me2; have t1 := hh.te1; have t2 := hh.te2
  have lg := ((okLog_iff _).1 hh.lg).1
  unfold timeoutR
  split
  · rename_i hc
    intro y hy
    obtain ⟨t, h1, h2, rfl⟩ := asksN_mem y hy
    have h1 : t < m.members.toNat := h1
    have h2 : ((t + 1 : Nat) : Int) ≠ m.id := h2
    obtain ⟨u1, u2⟩ := termN_ok hh.lg (n := m.log.length) (by omega) (Int.le_refl _)
    have tn := hc.2.2
    refine ⟨okX_mk i3 i4 i1 i2 (by show 1 ≤ ((t + 1 : Nat) : Int); omega) (by show ((t + 1 : Nat) : Int) ≤ m.members; omega) (by show m.id ≠ ((t + 1 : Nat) : Int); omega) (by show 1 ≤ m.term + 1; omega) (by show m.term + 1 ≤ _; omega) (by show (0 : Int) ≤ m.log.length; omega) (by show (m.log.length : Int) ≤ _; omega) u1 u2
      (by show (0 : Int) ≤ 0; omega) (by show (0 : Int) ≤ _; omega) okLog_nil (by show (1 : Int) ≤ 1; omega) (by show (1 : Int) ≤ 4; omega) rfl, rfl, (won_fields (candM m)).1.symm, rfl⟩
  · intro y hy; simp at hy

theorem okC_mk {ms : List M} {net : List X} (h1 : 1 ≤ ms.length) (h2 : ms.length ≤ 7) (h3 : net.length ≤ 256) (h4 : ∀ (i : Nat) (m : M), ms[i]? = some m → m.id = ((i + 1 : Nat) : Int) ∧ m.members = ms.length ∧ okM m = true) (h5 : ∀ x ∈ net, okX x ms.length = true) : okC ms net = true := by
  simp only [okC, Bool.and_eq_true, decide_eq_true_eq, List.all_eq_true, List.mem_range]
  refine ⟨⟨⟨⟨h1, h2⟩, h3⟩, fun i hi => ?_⟩, h5⟩
  have := h4 i ms[i] (List.getElem?_eq_getElem hi)
  simp only [okAtC, Bool.and_eq_true, decide_eq_true_eq, List.getD_eq_getElem?_getD, List.getElem?_eq_getElem hi, Option.getD_some]
  exact ⟨⟨this.1, this.2.1⟩, this.2.2⟩

/-- A member put in another's place. -/
theorem okC_put {ms : List M} {net net' : List X} (h : okC ms net = true) (hn : net'.length ≤ 256) (hx : ∀ x ∈ net', okX x ms.length = true) {i : Nat} {m a : M} (hi : ms[i]? = some m) (ha : okM a = true) (h1 : a.id = m.id) (h2 : a.members = m.members) : okC (ms.set i a) net' = true := by
  obtain ⟨v1, v2, v3, v4, v5⟩ := okC_facts h
  refine okC_mk (by simpa using v1) (by simpa using v2) hn (fun j b hb => ?_) (by simpa using hx)
  rw [List.getElem?_set] at hb
  rw [List.length_set]
  split at hb
  · rename_i e
    subst e
    split at hb
    · obtain rfl := Option.some.inj hb
      have := v4 i m hi
      exact ⟨by rw [h1]; exact this.1, by rw [h2]; exact this.2.1, ha⟩
    · cases hb
  · exact v4 j b hb

theorem sendR_ok {net q : List X} {n : Int} (h : ∀ x ∈ net, okX x n = true) (k : ∀ x ∈ q, okX x n = true) : (sendR net q).length ≤ 256 ∧ ∀ x ∈ sendR net q, okX x n = true := by
  refine ⟨by simp [sendR]; omega, fun x hx => ?_⟩
  rcases List.mem_append.1 (List.mem_of_mem_take hx) with e | e
  · exact h x e
  · exact k x e

theorem delX_ok {net : List X} {n : Int} {k : Nat} (h : ∀ x ∈ net, okX x n = true) : ∀ x ∈ delX net k, okX x n = true := by
  intro x hx
  rcases List.mem_append.1 hx with e | e
  · exact h x (List.mem_of_mem_take e)
  · exact h x (List.mem_of_mem_drop e)

/-- What a member does at an event of its own keeps it valid. -/
theorem nodeR_ok {m : M} {e : Evt} (ho : okM m = true) : okM (nodeR m e).1 = true ∧ (nodeR m e).1.id = m.id ∧ (nodeR m e).1.members = m.members ∧ ∀ y ∈ (nodeR m e).2.1, okX y m.members = true := by
  unfold nodeR
  split
  · have k := keeps_timeout ho
    exact ⟨k.ok, k.id, k.mem, fun y hy => (timeout_ok ho y hy).1⟩
  · split
    · refine ⟨ho, rfl, rfl, fun y hy => ?_⟩
      have hy : y ∈ beatsOf m := hy
      unfold beatsOf at hy
      split at hy
      · rename_i hc
        exact (beats_ok ho hc.2 m.members.toNat (by have := ((okM_iff m).1 ho).1.me1; omega) y hy).1
      · simp at hy
    · split
      · split
        · rename_i h
          have g := (goes_propose h).1
          exact ⟨g.ok, g.id, g.mem, by simp⟩
        · exact ⟨ho, rfl, rfl, by simp⟩
      · have k := keeps_restart ho
        exact ⟨k.ok, k.id, k.mem, by simp⟩

theorem recv_ok {m : M} {x y : X} (hy : y ∈ (receiveR m x).2.toList) : okX y m.members = true := (receive_ok (by simpa using hy)).1

theorem okC_do {ms : List M} {net : List X} {e : Evt} (hc : (evR ms net e).2 = 0) : okC ms net = true ∧ okC (evR ms net e).1.1 (evR ms net e).1.2 = true ∧ (evR ms net e).1.1.length = ms.length := by
  unfold evR at hc ⊢
  split
  · rename_i h; rw [if_pos h] at hc; cases hc
  · rename_i h
    rw [if_neg h] at hc
    have hv : okC ms net = true := by
      cases q : okC ms net
      · exact absurd (.inl q) h
      · rfl
    obtain ⟨v1, v2, v3, v4, v5⟩ := okC_facts hv
    refine ⟨hv, ?_⟩
    split
    · rename_i h2
      rw [if_pos h2] at hc
      unfold transitR at hc ⊢
      split
      · rename_i h3; rw [if_pos h3] at hc; cases hc
      · rename_i h3
        rw [if_neg h3] at hc
        have hk : e.at_.toNat < net.length := by omega
        have hX : net.getD e.at_.toNat zeroXF ∈ net := by rw [List.getD_eq_getElem?_getD, List.getElem?_eq_getElem hk]; exact List.getElem_mem hk
        have fx := okX_facts (v5 _ hX)
        split
        · have hio : ((net.getD e.at_.toNat zeroXF).to - 1).toNat < ms.length := by omega
          have hget : ms.getD ((net.getD e.at_.toNat zeroXF).to - 1).toNat zeroM = ms[((net.getD e.at_.toNat zeroXF).to - 1).toNat] := by rw [List.getD_eq_getElem?_getD, List.getElem?_eq_getElem hio]; rfl
          have hm := v4 _ _ (List.getElem?_eq_getElem hio)
          have gg := receive_goes (x := net.getD e.at_.toNat zeroXF) hm.2.2
          rw [hget]
          have hs := sendR_ok (delX_ok (k := e.at_.toNat) v5) (q := (receiveR ms[((net.getD e.at_.toNat zeroXF).to - 1).toNat] (net.getD e.at_.toNat zeroXF)).2.toList) (fun y hy => by have := recv_ok hy; rw [hm.2.1] at this; exact this)
          exact ⟨okC_put hv hs.1 hs.2 (List.getElem?_eq_getElem hio) gg.ok gg.id gg.mem, by simp⟩
        · split
          · have hs := sendR_ok (delX_ok (k := e.at_.toNat) v5) (q := []) (by simp)
            exact ⟨okC_mk v1 v2 hs.1 v4 hs.2, rfl⟩
          · split
            · rename_i h4 h5 h6
              rw [if_neg h4, if_neg h5, if_pos h6] at hc; cases hc
            · have hs := sendR_ok (net := net ++ [net.getD e.at_.toNat zeroXF]) (q := []) (n := ms.length) (fun x hx => by
                rcases List.mem_append.1 hx with e1 | e1
                · exact v5 x e1
                · simp only [List.mem_singleton] at e1; subst e1; exact v5 _ hX) (by simp)
              exact ⟨okC_mk v1 v2 hs.1 v4 hs.2, rfl⟩
    · rename_i h2
      rw [if_neg h2] at hc
      split
      · rename_i h3; rw [if_pos h3] at hc; cases hc
      · rename_i h3
        rw [if_neg h3] at hc
        split
        · have hio : (e.node - 1).toNat < ms.length := by omega
          have hget : ms.getD (e.node - 1).toNat zeroM = ms[(e.node - 1).toNat] := by rw [List.getD_eq_getElem?_getD, List.getElem?_eq_getElem hio]; rfl
          have hm := v4 _ _ (List.getElem?_eq_getElem hio)
          obtain ⟨a1, a2, a3, a4⟩ := nodeR_ok (e := e) hm.2.2
          rw [hget]
          have hs := sendR_ok v5 (q := (nodeR ms[(e.node - 1).toNat] e).2.1) (fun y hy => by have := a4 y hy; rw [hm.2.1] at this; exact this)
          exact ⟨okC_put hv hs.1 hs.2 (List.getElem?_eq_getElem hio) a1 a2 a3, by simp⟩
        · rename_i h4; rw [if_neg h4] at hc; exact absurd hc h4

theorem fit_rows {α : Type} {sh : List Sh} {y : PV} {c : α → List PV} {P : α → Prop} (hc : ∀ u, Fits sh u → ∃ a, u = c a ∧ P a) (h : Fit (.slice sh) y) : ∃ l : List α, y = .slice false (l.map c) ∧ l.length ≤ 9223372036854775807 ∧ ∀ a ∈ l, P a := by
  cases h with
  | slice l xs h hl hr =>
    have : ∀ xs : List (List PV), (∀ x ∈ xs, Fits sh x) → ∃ l : List α, xs = l.map c ∧ ∀ a ∈ l, P a := by
      intro xs
      induction xs with
      | nil => intro _; exact ⟨[], rfl, by simp⟩
      | cons x xs ih =>
        intro hx
        obtain ⟨n, hn, hp⟩ := hc x (hx x (by simp))
        obtain ⟨l, hl, hq⟩ := ih fun y hy => hx y (by simp [hy])
        exact ⟨n :: l, by rw [hn, hl]; rfl, fun a ha => by rcases List.mem_cons.1 ha with rfl | e; exact hp; exact hq a e⟩
    obtain ⟨l, e, hp⟩ := this xs fun x hx => ⟨hl x hx, fun j s y h1 h2 => by
      obtain ⟨i, hi⟩ := List.mem_iff_getElem?.1 hx
      exact hr i x j s y hi h1 h2⟩
    refine ⟨l, by rw [e], ?_, hp⟩
    rw [e] at h
    simpa [maxLen] using h

theorem fit_event {u : List PV} (h : Fits [.int .i64, .int .i64, .int .i64, .str] u) : ∃ e : Evt, u = evC e ∧ True := by
  obtain ⟨y0, u0, rfl, e0, h⟩ := h.cons
  obtain ⟨y1, u1, rfl, e1, h⟩ := h.cons
  obtain ⟨y2, u2, rfl, e2, h⟩ := h.cons
  obtain ⟨y3, u3, rfl, e3, h⟩ := h.cons
  have hn := h.nil
  subst hn
  obtain ⟨n0, rfl, _⟩ := fit_int e0
  obtain ⟨n1, rfl, _⟩ := fit_int e1
  obtain ⟨n2, rfl, _⟩ := fit_int e2
  obtain ⟨n3, rfl⟩ := fit_str e3
  exact ⟨⟨n0, n1, n2, n3⟩, rfl, trivial⟩

theorem examples_run : ((cfs tb.A tb.X 16).pure 16 []) = some (.bool true) := by kernel_rfl

theorem ps_examples : PS tb 16 [] (.bool true) := ⟨16, examples_run⟩

def newC (n : Nat) : List (M × Fl) := (List.range n).map fun i => ((⟨(i + 1 : Nat), n, 0, 0, [], 1, 0, [], [], []⟩ : M), ⟨true, true, true, true⟩)

theorem ps_newBad (n : Int) (h : n < 1 ∨ 7 < n) : PS tb 13 [.int .i64 n] (.tuple [.agg [.slice true [], .slice true []], .int .i64 1]) := by
  refine PS_of (af := a13) rfl rfl ?_
  unfold a13
  dsimp only [List.map, ofPV, initEnv]
  by_cases c : n < 1
  · repeat' (first | (simp (disch := omega) only [go_sem, seval, reduceCtorEq, c]) | with_reducible exact Ev.mk | ((first | apply x_split | apply x_splitg) <;> intro hβ hb <;> (simp (disch := omega) only [go_sem, seval, reduceCtorEq, c, hβ]) <;> clear hβ))
  · have c2 : 7 < n := by omega
    repeat' (first | (simp (disch := omega) only [go_sem, seval, reduceCtorEq, c, c2]) | with_reducible exact Ev.mk | ((first | apply x_split | apply x_splitg) <;> intro hβ hb <;> (simp (disch := omega) only [go_sem, seval, reduceCtorEq, c, c2, hβ]) <;> clear hβ))

theorem new1 : ((cfs tb.A tb.X 10).pure 13 [.int .i64 1]) = some (.tuple [.agg [.slice false (memPV (newC 1)), .slice true []], .int .i64 0]) := by kernel_rfl

theorem new2 : ((cfs tb.A tb.X 10).pure 13 [.int .i64 2]) = some (.tuple [.agg [.slice false (memPV (newC 2)), .slice true []], .int .i64 0]) := by kernel_rfl

theorem new3 : ((cfs tb.A tb.X 10).pure 13 [.int .i64 3]) = some (.tuple [.agg [.slice false (memPV (newC 3)), .slice true []], .int .i64 0]) := by kernel_rfl

theorem new4 : ((cfs tb.A tb.X 10).pure 13 [.int .i64 4]) = some (.tuple [.agg [.slice false (memPV (newC 4)), .slice true []], .int .i64 0]) := by kernel_rfl

theorem new5 : ((cfs tb.A tb.X 10).pure 13 [.int .i64 5]) = some (.tuple [.agg [.slice false (memPV (newC 5)), .slice true []], .int .i64 0]) := by kernel_rfl

theorem new6 : ((cfs tb.A tb.X 10).pure 13 [.int .i64 6]) = some (.tuple [.agg [.slice false (memPV (newC 6)), .slice true []], .int .i64 0]) := by kernel_rfl

theorem new7 : ((cfs tb.A tb.X 10).pure 13 [.int .i64 7]) = some (.tuple [.agg [.slice false (memPV (newC 7)), .slice true []], .int .i64 0]) := by kernel_rfl

theorem ps_new (n : Nat) (h1 : 1 ≤ n) (h7 : n ≤ 7) : PS tb 13 [.int .i64 n] (.tuple [.agg [.slice false (memPV (newC n)), .slice true []], .int .i64 0]) := by
  have : n = 1 ∨ n = 2 ∨ n = 3 ∨ n = 4 ∨ n = 5 ∨ n = 6 ∨ n = 7 := by omega
  rcases this with rfl | rfl | rfl | rfl | rfl | rfl | rfl
  · exact ⟨10, new1⟩
  · exact ⟨10, new2⟩
  · exact ⟨10, new3⟩
  · exact ⟨10, new4⟩
  · exact ⟨10, new5⟩
  · exact ⟨10, new6⟩
  · exact ⟨10, new7⟩

def evsPV (l : List Evt) : List (List PV) := l.map evC

theorem evsPV_length (l : List Evt) : (evsPV l).length = l.length := by simp [evsPV]

theorem evsPV_get (l : List Evt) (i : Nat) (h : i < l.length) : (evsPV l)[i]? = some (evC l[i]) := by simp [evsPV, h]

def stepR (c : List M × List X) (e : Evt) : List M × List X := if (evR c.1 c.2 e).2 = 0 then (evR c.1 c.2 e).1 else c

def runR (c : List M × List X) (l : List Evt) : List M × List X := l.foldl stepR c

theorem okC_step {c : List M × List X} {e : Evt} (h : okC c.1 c.2 = true) : okC (stepR c e).1 (stepR c e).2 = true ∧ (stepR c e).1.length = c.1.length := by
  unfold stepR
  split
  · rename_i hz
    obtain ⟨_, b, l⟩ := okC_do hz
    exact ⟨b, l⟩
  · exact ⟨h, rfl⟩

theorem okC_run : ∀ (l : List Evt) {c : List M × List X}, okC c.1 c.2 = true → okC (runR c l).1 (runR c l).2 = true ∧ (runR c l).1.length = c.1.length
  | [], c, h => ⟨h, rfl⟩
  | e :: r, c, h => by
    obtain ⟨a, b⟩ := okC_step (e := e) h
    obtain ⟨p, q⟩ := okC_run r a
    exact ⟨p, by rw [← b]; exact q⟩

theorem l_run (evs : List Evt) (w : Bool) (hl : evs.length ≤ 100000) (fin : List M × List X) (K : Ex → St → Prop)
    (hx : ∀ l a net b, fsts l = fin.1 → fstx net = fin.2 → K (.exit 0) ⟨[(4, .ptr 0 0), (6, .ptr 1 0)], [(1, .var false [.p (.slice a (memPV l)), .p (.slice b (netPV net))]), (0, .var false [.p (.slice true []), .p (.slice true [])])], 2, [0]⟩) : ∀ (m i : Nat), i + m = evs.length →
    ∀ l a net b, okC (fsts l) (fstx net) = true → runR (fsts l, fstx net) (evs.drop i) = fin →
    W tb a18_l0 ⟨[(4, .ptr 0 0), (6, .ptr 1 0), (21, .p (.slice w (evsPV evs))), (22, .p (.int .i64 evs.length)), (23, .p (.int .i64 i))], [(1, .var false [.p (.slice a (memPV l)), .p (.slice b (netPV net))]), (0, .var false [.p (.slice true []), .p (.slice true [])])], 2, [0]⟩ (LK tb (.ghost (.free [9, 10]) (.ghost .lower a18_l0)) K) := by
  intro m
  induction m with
  | zero =>
    intro i hi l a net b hv hf
    have h1 : ¬ (i : Int) < evs.length := by omega
    have e : evs.drop i = [] := List.drop_of_length_le (by omega)
    rw [e] at hf
    subst hf
    refine i_code (by unfold a18_l0; exact rfl) ?_
    repeat' (first | (simp (disch := omega) only [go_sem, seval, reduceCtorEq, h1]) | with_reducible exact Ev.mk | ((first | apply x_split | apply x_splitg) <;> intro hβ hb <;> (simp (disch := omega) only [go_sem, seval, reduceCtorEq, h1, hβ]) <;> clear hβ))
    exact hx l a net b rfl rfl
  | succ m ih =>
    intro i hi l a net b hv hf
    have h1 : (i : Int) < evs.length := by omega
    have h2 : i < evs.length := by omega
    have h4 : (0 : Int) ≤ i := by omega
    have h3 := evsPV_get evs i h2
    have hd : evs.drop i = evs[i] :: evs.drop (i + 1) := List.drop_eq_getElem_cons h2
    rw [hd] at hf
    have sm := smallM_of hv
    have sn := small_of hv
    generalize evs[i] = e at *
    obtain ⟨p, hp, l2, a2, n2, b2, rfl, e1, e2⟩ := ps_do l a net b e.kind e.node e.at_ e.data (by have := sm.1; omega) (by have := sn.1; omega) (fun t ht => (sm.2 t ht).toMIn)
    have ok := okC_step (c := (fsts l, fstx net)) (e := e) hv
    have hf : runR (stepR (fsts l, fstx net) e) (evs.drop (i + 1)) = fin := hf
    unfold stepR at ok hf
    simp only at ok hf
    obtain ⟨kind, node, at_, data⟩ := e
    generalize evR (fsts l) (fstx net) ⟨kind, node, at_, data⟩ = R at *
    simp only [evC] at hp h3
    refine i_code (by unfold a18_l0; exact rfl) ?_
    by_cases hz : R.2 = 0
    · have t1 : (R.2 == 0) = true := by simp [hz]
      rw [if_pos hz] at ok hf
      repeat' (first | exact hp | (simp (disch := omega) only [go_sem, seval, reduceCtorEq, h1, h3, h4, t1]) | with_reducible exact Ev.mk | apply x_call | ((first | apply x_split | apply x_splitg) <;> intro hβ hb <;> (simp (disch := omega) only [go_sem, seval, reduceCtorEq, h1, h3, h4, t1, hβ]) <;> clear hβ))
      refine i_lk (W_round ?_)
      (try simp (disch := omega) only [go_sem, seval, reduceCtorEq])
      refine ih (i + 1) (by omega) l2 a2 n2 b2 ?_ ?_
      · rw [e1, e2]; exact ok.1
      · rw [e1, e2]; exact hf
    · have t1 : (R.2 == 0) = false := by simpa using hz
      rw [if_neg hz] at ok hf
      repeat' (first | exact hp | (simp (disch := omega) only [go_sem, seval, reduceCtorEq, h1, h3, h4, t1]) | with_reducible exact Ev.mk | apply x_call | ((first | apply x_split | apply x_splitg) <;> intro hβ hb <;> (simp (disch := omega) only [go_sem, seval, reduceCtorEq, h1, h3, h4, t1, hβ]) <;> clear hβ))
      refine i_lk (W_round ?_)
      (try simp (disch := omega) only [go_sem, seval, reduceCtorEq])
      exact ih (i + 1) (by omega) l a net b hv hf

/-- The members of a new group. -/
def newMs (n : Nat) : List M := fsts (newC n)

theorem newMs_length (n : Nat) : (newMs n).length = n := by simp [newMs, fsts, newC]

theorem newMs_get (n i : Nat) (m : M) (h : (newMs n)[i]? = some m) : i < n ∧ m = ⟨(i + 1 : Nat), n, 0, 0, [], 1, 0, [], [], []⟩ := by
  simp only [newMs, fsts, newC, List.map_map, List.getElem?_map] at h
  rcases Nat.lt_or_ge i n with hi | hi
  · rw [List.getElem?_range hi] at h
    simp only [Option.map_some, Option.some.injEq] at h
    exact ⟨hi, h.symm⟩
  · rw [List.getElem?_eq_none (by simpa using hi)] at h
    cases h

theorem okC_new (n : Nat) (h1 : 1 ≤ n) (h7 : n ≤ 7) : okC (newMs n) [] = true := by
  refine okC_mk (by rw [newMs_length]; exact h1) (by rw [newMs_length]; exact h7) (by simp) (fun i m hm => ?_) (by simp)
  obtain ⟨hi, rfl⟩ := newMs_get n i m hm
  refine ⟨rfl, by rw [newMs_length], ?_⟩
  simp only [okM, okHead, okMid, okRole, okLog, List.length_nil, List.all_nil, Bool.and_eq_true, decide_eq_true_eq]
  refine ⟨⟨⟨⟨⟨⟨⟨⟨⟨?_, ?_⟩, ?_⟩, ?_⟩, ?_⟩, ?_⟩, ?_⟩, ?_⟩, ⟨⟨?_, ?_⟩, ?_⟩⟩, ?_⟩ <;> (try simp) <;> (try omega)

theorem ps_run (n : Nat) (h1 : 1 ≤ n) (h7 : n ≤ 7) (evs : List Evt) (w : Bool) (hl : evs.length ≤ 100000) : ∃ l a net b, PS tb 18 [.int .i64 n, .slice w (evsPV evs)] (.tuple [.agg [.slice a (memPV l), .slice b (netPV net)], .int .i64 0]) ∧ fsts l = (runR (newMs n, []) evs).1 ∧ fstx net = (runR (newMs n, []) evs).2 := by
  have key : ∃ p, PS tb 18 [.int .i64 n, .slice w (evsPV evs)] p ∧ ∃ l a net b, p = .tuple [.agg [.slice a (memPV l), .slice b (netPV net)], .int .i64 0] ∧ fsts l = (runR (newMs n, []) evs).1 ∧ fstx net = (runR (newMs n, []) evs).2 := by
    have q := ps_new n h1 h7
    refine PS_any (af := a18) rfl rfl ?_
    unfold a18
    dsimp only [List.map, ofPV, initEnv]
    have hv : okC (fsts (newC n)) (fstx []) = true := okC_new n h1 h7
    have hnil : ([] : List (List PV)) = netPV [] := rfl
    have hf : runR (fsts (newC n), fstx []) (evs.drop 0) = runR (newMs n, []) evs := rfl
    generalize newC n = l0 at *
    repeat' (first | exact q | (simp (disch := omega) only [go_sem, seval, reduceCtorEq, evsPV_length]) | with_reducible exact Ev.mk | apply x_call | ((first | apply x_split | apply x_splitg) <;> intro hβ hb <;> (simp (disch := omega) only [go_sem, seval, reduceCtorEq, evsPV_length, hβ]) <;> clear hβ))
    refine W_round ?_
    (try simp (disch := omega) only [go_sem, seval, reduceCtorEq])
    refine l_run evs w hl (runR (newMs n, []) evs) _ ?_ evs.length 0 (by omega) l0 false [] true hv hf
    intro l a net b e1 e2
    (try simp (disch := omega) only [go_sem, seval, reduceCtorEq])
    exact ⟨_, rfl, l, a, net, b, rfl, e1, e2⟩
  obtain ⟨p, hp, l, a, net, b, rfl, e1, e2⟩ := key
  exact ⟨l, a, net, b, hp, e1, e2⟩

theorem ps_runBad (n : Int) (h : n < 1 ∨ 7 < n) (evs : List Evt) (w : Bool) : PS tb 18 [.int .i64 n, .slice w (evsPV evs)] (.tuple [.agg [.slice true [], .slice true []], .int .i64 1]) := by
  have q := ps_newBad n h
  refine PS_of (af := a18) rfl rfl ?_
  unfold a18
  dsimp only [List.map, ofPV, initEnv]
  repeat' (first | exact q | (simp (disch := omega) only [go_sem, seval, reduceCtorEq]) | with_reducible exact Ev.mk | apply x_call | ((first | apply x_split | apply x_splitg) <;> intro hβ hb <;> (simp (disch := omega) only [go_sem, seval, reduceCtorEq, hβ]) <;> clear hβ))

def shortE (e : Evt) : Bool := decide (e.data.size ≤ 100)

def fewE (l : List Evt) (most : Nat) : Bool := (l.take most).all shortE && decide (l.length ≤ most)

theorem l_few (l : List Evt) (w : Bool) (most : Nat) (hl : l.length ≤ 9223372036854775807) (hm : most ≤ 1000) (K : Ex → St → Prop)
    (hx : (l.take most).all shortE = true → K (.exit 0) ⟨[(0, .p (.slice w (evsPV l))), (1, .p (.int .i64 most))], [], 0, [0]⟩)
    (hr : fewE l most = false → ∀ s', aget s'.env 4 = some (.p (.bool false)) → K .ret s') : ∀ (m i : Nat), i + m = min most l.length → (l.take i).all shortE = true →
    W tb a17_l0 ⟨[(0, .p (.slice w (evsPV l))), (1, .p (.int .i64 most)), (5, .p (.int .i64 i))], [], 0, [0]⟩ (LK tb (.ghost .lower a17_l0) K) := by
  intro m
  induction m with
  | zero =>
    intro i hi ht
    have et : (l.take most).all shortE = true := by
      rcases Nat.le_total most l.length with h | h
      · have : i = most := by omega
        rw [← this]; exact ht
      · have : i = l.length := by omega
        rw [this, List.take_length] at ht
        rw [List.take_of_length_le h]; exact ht
    refine i_code (by unfold a17_l0; exact rfl) ?_
    by_cases h1 : (i : Int) < l.length
    · have h5 : ¬ (i : Int) < most := by omega
      repeat' (first | (simp (disch := omega) only [go_sem, seval, reduceCtorEq, h1, h5, evsPV_length]) | with_reducible exact Ev.mk | ((first | apply x_split | apply x_splitg) <;> intro hβ hb <;> (simp (disch := omega) only [go_sem, seval, reduceCtorEq, h1, h5, evsPV_length, hβ]) <;> clear hβ))
      exact hx et
    · repeat' (first | (simp (disch := omega) only [go_sem, seval, reduceCtorEq, h1, evsPV_length]) | with_reducible exact Ev.mk | ((first | apply x_split | apply x_splitg) <;> intro hβ hb <;> (simp (disch := omega) only [go_sem, seval, reduceCtorEq, h1, evsPV_length, hβ]) <;> clear hβ))
      exact hx et
  | succ m ih =>
    intro i hi ht
    have h1 : (i : Int) < l.length := by omega
    have h5 : (i : Int) < most := by omega
    have h2 : i < l.length := by omega
    have h4 : (0 : Int) ≤ i := by omega
    have h3 := evsPV_get l i h2
    simp only [evC] at h3
    refine i_code (by unfold a17_l0; exact rfl) ?_
    by_cases h6 : (100 : Int) < l[i].data.size
    · repeat' (first | (simp (disch := omega) only [go_sem, seval, reduceCtorEq, h1, h3, h4, h5, h6, evsPV_length]) | with_reducible exact Ev.mk | ((first | apply x_split | apply x_splitg) <;> intro hβ hb <;> (simp (disch := omega) only [go_sem, seval, reduceCtorEq, h1, h3, h4, h5, h6, evsPV_length, hβ]) <;> clear hβ))
      refine hr ?_ _ rfl
      have : (l.take most).all shortE = false := by
        rw [List.all_eq_false]
        refine ⟨l[i], ?_, by simp [shortE]; omega⟩
        refine List.mem_of_getElem? (i := i) ?_
        rw [List.getElem?_take, if_pos (by omega), List.getElem?_eq_getElem h2]
      unfold fewE
      rw [this]; rfl
    · repeat' (first | (simp (disch := omega) only [go_sem, seval, reduceCtorEq, h1, h3, h4, h5, h6, evsPV_length]) | with_reducible exact Ev.mk | ((first | apply x_split | apply x_splitg) <;> intro hβ hb <;> (simp (disch := omega) only [go_sem, seval, reduceCtorEq, h1, h3, h4, h5, h6, evsPV_length, hβ]) <;> clear hβ))
      refine i_lk (W_round ?_)
      (try simp (disch := omega) only [go_sem, seval, reduceCtorEq])
      refine ih (i + 1) (by omega) ?_
      rw [List.take_add_one, List.all_append, ht, List.getElem?_eq_getElem h2]
      simp [shortE]; omega

theorem ps_few (l : List Evt) (w : Bool) (most : Nat) (hl : l.length ≤ 9223372036854775807) (hm : most ≤ 1000) : PS tb 17 [.slice w (evsPV l), .int .i64 most] (.bool (fewE l most)) := by
  refine PS_of (af := a17) rfl rfl ?_
  unfold a17
  dsimp only [List.map, ofPV, initEnv]
  (try simp (disch := omega) only [go_sem, seval, reduceCtorEq])
  refine W_round ?_
  (try simp (disch := omega) only [go_sem, seval, reduceCtorEq])
  refine l_few l w most hl hm _ ?_ ?_ (min most l.length) 0 (by omega) (by simp)
  · intro ha
    have e : decide ((l.length : Int) ≤ most) = decide (l.length ≤ most) := decide_eq_decide.2 (by omega)
    repeat' (first | (simp (disch := omega) only [go_sem, seval, reduceCtorEq, evsPV_length]) | with_reducible exact Ev.mk | ((first | apply x_split | apply x_splitg) <;> intro hβ hb <;> (simp (disch := omega) only [go_sem, seval, reduceCtorEq, evsPV_length, hβ]) <;> clear hβ))
    all_goals simp [pur, dep, fewE, ha, e]
  · intro ha s' hs
    (try simp (disch := omega) only [go_sem, seval, reduceCtorEq, hs])
    simp [pur, dep, ha]

theorem fit_events {y : PV} (h : Fit (.slice [.int .i64, .int .i64, .int .i64, .str]) y) : ∃ l : List Evt, y = .slice false (evsPV l) ∧ l.length ≤ 9223372036854775807 := by
  obtain ⟨l, e, hl, _⟩ := fit_rows (c := evC) (P := fun _ => True) (fun u h => fit_event h) h
  exact ⟨l, e, hl⟩

end Go.Dv.Try
