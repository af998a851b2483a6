/-
  Specifications of the functions of this claim, parts 49, 7, 8, 9, 10, 16, 17, 18, 19, 25, 13, 43, 26.
-/
import Derived.Test.YtpjpnooiofegoaaTab
import Derived.Test.YtpjpnooiofegoaaStep
import Derived.Test.YtpjpnooiofegoaaS1
import Derived.Test.YtpjpnooiofegoaaS7
import Derived.Test.YtpjpnooiofegoaaS12
import Derived.Test.YtpjpnooiofegoaaS16
import Derived.Test.YtpjpnooiofegoaaS17
import Derived.Test.YtpjpnooiofegoaaS18
import Derived.Test.YtpjpnooiofegoaaS24
import Derived.Test.YtpjpnooiofegoaaS37
import Derived.Test.YtpjpnooiofegoaaS42
import Derived.Test.YtpjpnooiofegoaaS46
import Derived.Test.YtpjpnooiofegoaaBridge
set_option linter.unusedVariables false
set_option linter.unusedSimpArgs false
set_option maxRecDepth 100000
set_option maxHeartbeats 16000000
namespace Go.Dv.Try
open Go Go.Dv

theorem asksN_mem {c : M} {k : Nat} : ∀ y ∈ asksN c k, ∃ t : Nat, t < k ∧ ((t + 1 : Nat) : Int) ≠ c.id ∧ y = askX c (t + 1 : Nat) := by
  induction k with
  | zero => simp [asksN]
  | succ k ih =>
    intro y hy
    simp only [asksN] at hy
    split at hy
    · obtain ⟨t, h1, h2, h3⟩ := ih y hy
      exact ⟨t, by omega, h2, h3⟩
    · rename_i ne
      rcases List.mem_append.1 hy with h | h
      · obtain ⟨t, h1, h2, h3⟩ := ih y h
        exact ⟨t, by omega, h2, h3⟩
      · simp only [List.mem_singleton] at h
        exact ⟨k, by omega, ne, h⟩

theorem won_fields (m : M) : (wonM m).term = m.term ∧ (wonM m).vote = m.vote ∧ (wonM m).id = m.id ∧ (wonM m).members = m.members ∧ (wonM m).log = m.log := by
  unfold wonM; split <;> exact ⟨rfl, rfl, rfl, rfl, rfl⟩

theorem timeout_ok {m : M} (ho : okM m = true) : ∀ y ∈ (timeoutR m).2, okX y m.members = true ∧ y.frm = m.id ∧ y.term = (timeoutR m).1.term ∧ y.kind = 1 := by
  obtain ⟨hh, _⟩ := (okM_iff m).1 ho
  have i1 := hh.id1; have i2 := hh.id2; have i3 := hh.me1; have i4 := hh.me2; have t1 := hh.te1; have t2 := hh.te2
  have lg := ((okLog_iff _).1 hh.lg).1
  unfold timeoutR
  split
  · rename_i hc
    intro y hy
    obtain ⟨t, h1, h2, rfl⟩ := asksN_mem y hy
    have h1 : t < m.members.toNat := h1
    have h2 : ((t + 1 : Nat) : Int) ≠ m.id := h2
    obtain ⟨u1, u2⟩ := termN_ok hh.lg (n := m.log.length) (by omega) (Int.le_refl _)
    have tn := hc.2.2
    refine ⟨okX_mk i3 i4 i1 i2 (by show 1 ≤ ((t + 1 : Nat) : Int); omega) (by show ((t + 1 : Nat) : Int) ≤ m.members; omega) (by show m.id ≠ ((t + 1 : Nat) : Int); omega) (by show 1 ≤ m.term + 1; omega) (by show m.term + 1 ≤ _; omega) (by show (0 : Int) ≤ m.log.length; omega) (by show (m.log.length : Int) ≤ _; omega) u1 u2
      (by show (0 : Int) ≤ 0; omega) (by show (0 : Int) ≤ _; omega) okLog_nil (by show (1 : Int) ≤ 1; omega) (by show (1 : Int) ≤ 4; omega) rfl, rfl, (won_fields (candM m)).1.symm, rfl⟩
  · intro y hy; simp at hy

theorem okC_mk {ms : List M} {net : List X} (h1 : 1 ≤ ms.length) (h2 : ms.length ≤ 7) (h3 : net.length ≤ 256) (h4 : ∀ (i : Nat) (m : M), ms[i]? = some m → m.id = ((i + 1 : Nat) : Int) ∧ m.members = ms.length ∧ okM m = true) (h5 : ∀ x ∈ net, okX x ms.length = true) : okC ms net = true := by
  simp only [okC, Bool.and_eq_true, decide_eq_true_eq, List.all_eq_true, List.mem_range]
  refine ⟨⟨⟨⟨h1, h2⟩, h3⟩, fun i hi => ?_⟩, h5⟩
  have := h4 i ms[i] (List.getElem?_eq_getElem hi)
  simp only [okAtC, Bool.and_eq_true, decide_eq_true_eq, List.getD_eq_getElem?_getD, List.getElem?_eq_getElem hi, Option.getD_some]
  exact ⟨⟨this.1, this.2.1⟩, this.2.2⟩

/-- A member put in another's place. -/
theorem okC_put {ms : List M} {net net' : List X} (h : okC ms net = true) (hn : net'.length ≤ 256) (hx : ∀ x ∈ net', okX x ms.length = true) {i : Nat} {m a : M} (hi : ms[i]? = some m) (ha : okM a = true) (h1 : a.id = m.id) (h2 : a.members = m.members) : okC (ms.set i a) net' = true := by
  obtain ⟨v1, v2, v3, v4, v5⟩ := okC_facts h
  refine okC_mk (by simpa using v1) (by simpa using v2) hn (fun j b hb => ?_) (by simpa using hx)
  rw [List.getElem?_set] at hb
  rw [List.length_set]
  split at hb
  · rename_i e
    subst e
    split at hb
    · obtain rfl := Option.some.inj hb
      have := v4 i m hi
      exact ⟨by rw [h1]; exact this.1, by rw [h2]; exact this.2.1, ha⟩
    · cases hb
  · exact v4 j b hb

theorem sendR_ok {net q : List X} {n : Int} (h : ∀ x ∈ net, okX x n = true) (k : ∀ x ∈ q, okX x n = true) : (sendR net q).length ≤ 256 ∧ ∀ x ∈ sendR net q, okX x n = true := by
  refine ⟨by simp [sendR]; omega, fun x hx => ?_⟩
  rcases List.mem_append.1 (List.mem_of_mem_take hx) with e | e
  · exact h x e
  · exact k x e

theorem delX_ok {net : List X} {n : Int} {k : Nat} (h : ∀ x ∈ net, okX x n = true) : ∀ x ∈ delX net k, okX x n = true := by
  intro x hx
  rcases List.mem_append.1 hx with e | e
  · exact h x (List.mem_of_mem_take e)
  · exact h x (List.mem_of_mem_drop e)

/-- What a member does at an event of its own keeps it valid. -/
theorem nodeR_ok {m : M} {e : Evt} (ho : okM m = true) : okM (nodeR m e).1 = true ∧ (nodeR m e).1.id = m.id ∧ (nodeR m e).1.members = m.members ∧ ∀ y ∈ (nodeR m e).2.1, okX y m.members = true := by
  unfold nodeR
  split
  · have k := keeps_timeout ho
    exact ⟨k.ok, k.id, k.mem, fun y hy => (timeout_ok ho y hy).1⟩
  · split
    · refine ⟨ho, rfl, rfl, fun y hy => ?_⟩
      have hy : y ∈ beatsOf m := hy
      unfold beatsOf at hy
      split at hy
      · rename_i hc
        exact (beats_ok ho hc.2 m.members.toNat (by have := ((okM_iff m).1 ho).1.me1; omega) y hy).1
      · simp at hy
    · split
      · split
        · rename_i h
          have g := (goes_propose h).1
          exact ⟨g.ok, g.id, g.mem, by simp⟩
        · exact ⟨ho, rfl, rfl, by simp⟩
      · have k := keeps_restart ho
        exact ⟨k.ok, k.id, k.mem, by simp⟩

theorem recv_ok {m : M} {x y : X} (hy : y ∈ (receiveR m x).2.toList) : okX y m.members = true := (receive_ok (by simpa using hy)).1

theorem okC_do {ms : List M} {net : List X} {e : Evt} (hc : (evR ms net e).2 = 0) : okC ms net = true ∧ okC (evR ms net e).1.1 (evR ms net e).1.2 = true ∧ (evR ms net e).1.1.length = ms.length := by
  unfold evR at hc ⊢
  split
  · rename_i h; rw [if_pos h] at hc; cases hc
  · rename_i h
    rw [if_neg h] at hc
    have hv : okC ms net = true := by
      cases q : okC ms net
      · exact absurd (.inl q) h
      · rfl
    obtain ⟨v1, v2, v3, v4, v5⟩ := okC_facts hv
    refine ⟨hv, ?_⟩
    split
    · rename_i h2
      rw [if_pos h2] at hc
      unfold transitR at hc ⊢
      split
      · rename_i h3; rw [if_pos h3] at hc; cases hc
      · rename_i h3
        rw [if_neg h3] at hc
        have hk : e.at_.toNat < net.length := by omega
        have hX : net.getD e.at_.toNat zeroXF ∈ net := by rw [List.getD_eq_getElem?_getD, List.getElem?_eq_getElem hk]; exact List.getElem_mem hk
        have fx := okX_facts (v5 _ hX)
        split
        · have hio : ((net.getD e.at_.toNat zeroXF).to - 1).toNat < ms.length := by omega
          have hget : ms.getD ((net.getD e.at_.toNat zeroXF).to - 1).toNat zeroM = ms[((net.getD e.at_.toNat zeroXF).to - 1).toNat] := by rw [List.getD_eq_getElem?_getD, List.getElem?_eq_getElem hio]; rfl
          have hm := v4 _ _ (List.getElem?_eq_getElem hio)
          have gg := receive_goes (x := net.getD e.at_.toNat zeroXF) hm.2.2
          rw [hget]
          have hs := sendR_ok (delX_ok (k := e.at_.toNat) v5) (q := (receiveR ms[((net.getD e.at_.toNat zeroXF).to - 1).toNat] (net.getD e.at_.toNat zeroXF)).2.toList) (fun y hy => by have := recv_ok hy; rw [hm.2.1] at this; exact this)
          exact ⟨okC_put hv hs.1 hs.2 (List.getElem?_eq_getElem hio) gg.ok gg.id gg.mem, by simp⟩
        · split
          · have hs := sendR_ok (delX_ok (k := e.at_.toNat) v5) (q := []) (by simp)
            exact ⟨okC_mk v1 v2 hs.1 v4 hs.2, rfl⟩
          · split
            · rename_i h4 h5 h6
              rw [if_neg h4, if_neg h5, if_pos h6] at hc; cases hc
            · have hs := sendR_ok (net := net ++ [net.getD e.at_.toNat zeroXF]) (q := []) (n := ms.length) (fun x hx => by
                rcases List.mem_append.1 hx with e1 | e1
                · exact v5 x e1
                · simp only [List.mem_singleton] at e1; subst e1; exact v5 _ hX) (by simp)
              exact ⟨okC_mk v1 v2 hs.1 v4 hs.2, rfl⟩
    · rename_i h2
      rw [if_neg h2] at hc
      split
      · rename_i h3; rw [if_pos h3] at hc; cases hc
      · rename_i h3
        rw [if_neg h3] at hc
        split
        · have hio : (e.node - 1).toNat < ms.length := by omega
          have hget : ms.getD (e.node - 1).toNat zeroM = ms[(e.node - 1).toNat] := by rw [List.getD_eq_getElem?_getD, List.getElem?_eq_getElem hio]; rfl
          have hm := v4 _ _ (List.getElem?_eq_getElem hio)
          obtain ⟨a1, a2, a3, a4⟩ := nodeR_ok (e := e) hm.2.2
          rw [hget]
          have hs := sendR_ok v5 (q := (nodeR ms[(e.node - 1).toNat] e).2.1) (fun y hy => by have := a4 y hy; rw [hm.2.1] at this; exact this)
          exact ⟨okC_put hv hs.1 hs.2 (List.getElem?_eq_getElem hio) a1 a2 a3, by simp⟩
        · rename_i h4; rw [if_neg h4] at hc; exact absurd hc h4

theorem examples_run : ((cfs tb.A tb.X 16).pure 16 []) = some (.bool true) := by kernel_rfl

theorem ps_examples : PS tb 16 [] (.bool true) := ⟨16, examples_run⟩

def newC (n : Nat) : List (M × Fl) := (List.range n).map fun i => ((⟨(i + 1 : Nat), n, 0, 0, [], 1, 0, [], [], []⟩ : M), ⟨true, true, true, true⟩)

theorem new1 : ((cfs tb.A tb.X 10).pure 13 [.int .i64 1]) = some (.tuple [.agg [.slice false (memPV (newC 1)), .slice true []], .int .i64 0]) := by kernel_rfl

theorem new2 : ((cfs tb.A tb.X 10).pure 13 [.int .i64 2]) = some (.tuple [.agg [.slice false (memPV (newC 2)), .slice true []], .int .i64 0]) := by kernel_rfl

theorem new3 : ((cfs tb.A tb.X 10).pure 13 [.int .i64 3]) = some (.tuple [.agg [.slice false (memPV (newC 3)), .slice true []], .int .i64 0]) := by kernel_rfl

theorem new4 : ((cfs tb.A tb.X 10).pure 13 [.int .i64 4]) = some (.tuple [.agg [.slice false (memPV (newC 4)), .slice true []], .int .i64 0]) := by kernel_rfl

theorem new5 : ((cfs tb.A tb.X 10).pure 13 [.int .i64 5]) = some (.tuple [.agg [.slice false (memPV (newC 5)), .slice true []], .int .i64 0]) := by kernel_rfl

theorem new6 : ((cfs tb.A tb.X 10).pure 13 [.int .i64 6]) = some (.tuple [.agg [.slice false (memPV (newC 6)), .slice true []], .int .i64 0]) := by kernel_rfl

theorem new7 : ((cfs tb.A tb.X 10).pure 13 [.int .i64 7]) = some (.tuple [.agg [.slice false (memPV (newC 7)), .slice true []], .int .i64 0]) := by kernel_rfl

theorem ps_new (n : Nat) (h1 : 1 ≤ n) (h7 : n ≤ 7) : PS tb 13 [.int .i64 n] (.tuple [.agg [.slice false (memPV (newC n)), .slice true []], .int .i64 0]) := by
  have : n = 1 ∨ n = 2 ∨ n = 3 ∨ n = 4 ∨ n = 5 ∨ n = 6 ∨ n = 7 := by omega
  rcases this with rfl | rfl | rfl | rfl | rfl | rfl | rfl
  · exact ⟨10, new1⟩
  · exact ⟨10, new2⟩
  · exact ⟨10, new3⟩
  · exact ⟨10, new4⟩
  · exact ⟨10, new5⟩
  · exact ⟨10, new6⟩
  · exact ⟨10, new7⟩

def evsPV (l : List Evt) : List (List PV) := l.map evC

theorem evsPV_length (l : List Evt) : (evsPV l).length = l.length := by simp [evsPV]

theorem evsPV_get (l : List Evt) (i : Nat) (h : i < l.length) : (evsPV l)[i]? = some (evC l[i]) := by simp [evsPV, h]

theorem evsPV_sz (l : List Evt) : allSz 4 (evsPV l) = true := by simp [allSz, evsPV, evC]

theorem evsPV_take (a : List Evt) (n : Nat) : (evsPV a).take n = evsPV (a.take n) := by simp [evsPV, List.map_take]

def stepR (c : List M × List X) (e : Evt) : List M × List X := if (evR c.1 c.2 e).2 = 0 then (evR c.1 c.2 e).1 else c

def runR (c : List M × List X) (l : List Evt) : List M × List X := l.foldl stepR c

theorem okC_step {c : List M × List X} {e : Evt} (h : okC c.1 c.2 = true) : okC (stepR c e).1 (stepR c e).2 = true ∧ (stepR c e).1.length = c.1.length := by
  unfold stepR
  split
  · rename_i hz
    obtain ⟨_, b, l⟩ := okC_do hz
    exact ⟨b, l⟩
  · exact ⟨h, rfl⟩

theorem okC_run : ∀ (l : List Evt) {c : List M × List X}, okC c.1 c.2 = true → okC (runR c l).1 (runR c l).2 = true ∧ (runR c l).1.length = c.1.length
  | [], c, h => ⟨h, rfl⟩
  | e :: r, c, h => by
    obtain ⟨a, b⟩ := okC_step (e := e) h
    obtain ⟨p, q⟩ := okC_run r a
    exact ⟨p, by rw [← b]; exact q⟩

theorem l_run (evs : List Evt) (w : Bool) (hl : evs.length ≤ 100000) (fin : List M × List X) (K : Ex → St → Prop)
    (hx : ∀ l a net b, fsts l = fin.1 → fstx net = fin.2 → K (.exit 0) ⟨[(4, .ptr 0 0), (6, .ptr 1 0)], [(1, .var false [.p (.slice a (memPV l)), .p (.slice b (netPV net))]), (0, .var false [.p (.slice true []), .p (.slice true [])])], 2, [0]⟩) : ∀ (m i : Nat), i + m = evs.length →
    ∀ l a net b, okC (fsts l) (fstx net) = true → runR (fsts l, fstx net) (evs.drop i) = fin →
    W tb a18_l0 ⟨[(4, .ptr 0 0), (6, .ptr 1 0), (21, .p (.slice w (evsPV evs))), (22, .p (.int .i64 evs.length)), (23, .p (.int .i64 i))], [(1, .var false [.p (.slice a (memPV l)), .p (.slice b (netPV net))]), (0, .var false [.p (.slice true []), .p (.slice true [])])], 2, [0]⟩ (LK tb (.ghost (.free [9, 10]) (.ghost .lower a18_l0)) K) := by
  intro m
  induction m with
  | zero =>
    intro i hi l a net b hv hf
    have h1 : ¬ (i : Int) < evs.length := by omega
    have e : evs.drop i = [] := List.drop_of_length_le (by omega)
    rw [e] at hf
    subst hf
    refine i_code (by unfold a18_l0; exact rfl) ?_
    repeat' (first | (simp (disch := omega) only [go_sem, seval, reduceCtorEq, h1]) | with_reducible exact Ev.mk | ((first | apply x_split | apply x_splitg) <;> intro hβ hb <;> (simp (disch := omega) only [go_sem, seval, reduceCtorEq, h1, hβ]) <;> clear hβ))
    exact hx l a net b rfl rfl
  | succ m ih =>
    intro i hi l a net b hv hf
    have h1 : (i : Int) < evs.length := by omega
    have h2 : i < evs.length := by omega
    have h4 : (0 : Int) ≤ i := by omega
    have h3 := evsPV_get evs i h2
    have hd : evs.drop i = evs[i] :: evs.drop (i + 1) := List.drop_eq_getElem_cons h2
    rw [hd] at hf
    have sm := smallM_of hv
    have sn := small_of hv
    generalize evs[i] = e at *
    obtain ⟨p, hp, l2, a2, n2, b2, rfl, e1, e2⟩ := ps_do l a net b e.kind e.node e.at_ e.data (by have := sm.1; omega) (by have := sn.1; omega) (fun t ht => (sm.2 t ht).toMIn)
    have ok := okC_step (c := (fsts l, fstx net)) (e := e) hv
    have hf : runR (stepR (fsts l, fstx net) e) (evs.drop (i + 1)) = fin := hf
    unfold stepR at ok hf
    simp only at ok hf
    obtain ⟨kind, node, at_, data⟩ := e
    generalize evR (fsts l) (fstx net) ⟨kind, node, at_, data⟩ = R at *
    simp only [evC] at hp h3
    refine i_code (by unfold a18_l0; exact rfl) ?_
    by_cases hz : R.2 = 0
    · have t1 : (R.2 == 0) = true := by simp [hz]
      rw [if_pos hz] at ok hf
      repeat' (first | exact hp | (simp (disch := omega) only [go_sem, seval, reduceCtorEq, h1, h3, h4, t1]) | with_reducible exact Ev.mk | apply x_call | ((first | apply x_split | apply x_splitg) <;> intro hβ hb <;> (simp (disch := omega) only [go_sem, seval, reduceCtorEq, h1, h3, h4, t1, hβ]) <;> clear hβ))
      refine i_lk (W_round ?_)
      (try simp (disch := omega) only [go_sem, seval, reduceCtorEq])
      refine ih (i + 1) (by omega) l2 a2 n2 b2 ?_ ?_
      · rw [e1, e2]; exact ok.1
      · rw [e1, e2]; exact hf
    · have t1 : (R.2 == 0) = false := by simpa using hz
      rw [if_neg hz] at ok hf
      repeat' (first | exact hp | (simp (disch := omega) only [go_sem, seval, reduceCtorEq, h1, h3, h4, t1]) | with_reducible exact Ev.mk | apply x_call | ((first | apply x_split | apply x_splitg) <;> intro hβ hb <;> (simp (disch := omega) only [go_sem, seval, reduceCtorEq, h1, h3, h4, t1, hβ]) <;> clear hβ))
      refine i_lk (W_round ?_)
      (try simp (disch := omega) only [go_sem, seval, reduceCtorEq])
      exact ih (i + 1) (by omega) l a net b hv hf

/-- The members of a new group. -/
def newMs (n : Nat) : List M := fsts (newC n)

theorem newMs_length (n : Nat) : (newMs n).length = n := by simp [newMs, fsts, newC]

theorem newMs_get (n i : Nat) (m : M) (h : (newMs n)[i]? = some m) : i < n ∧ m = ⟨(i + 1 : Nat), n, 0, 0, [], 1, 0, [], [], []⟩ := by
  simp only [newMs, fsts, newC, List.map_map, List.getElem?_map] at h
  rcases Nat.lt_or_ge i n with hi | hi
  · rw [List.getElem?_range hi] at h
    simp only [Option.map_some, Option.some.injEq] at h
    exact ⟨hi, h.symm⟩
  · rw [List.getElem?_eq_none (by simpa using hi)] at h
    cases h

theorem okC_new (n : Nat) (h1 : 1 ≤ n) (h7 : n ≤ 7) : okC (newMs n) [] = true := by
  refine okC_mk (by rw [newMs_length]; exact h1) (by rw [newMs_length]; exact h7) (by simp) (fun i m hm => ?_) (by simp)
  obtain ⟨hi, rfl⟩ := newMs_get n i m hm
  refine ⟨rfl, by rw [newMs_length], ?_⟩
  simp only [okM, okHead, okMid, okRole, okLog, List.length_nil, List.all_nil, Bool.and_eq_true, decide_eq_true_eq]
  refine ⟨⟨⟨⟨⟨⟨⟨⟨⟨?_, ?_⟩, ?_⟩, ?_⟩, ?_⟩, ?_⟩, ?_⟩, ?_⟩, ⟨⟨?_, ?_⟩, ?_⟩⟩, ?_⟩ <;> (try simp) <;> (try omega)

theorem ps_run (n : Nat) (h1 : 1 ≤ n) (h7 : n ≤ 7) (evs : List Evt) (w : Bool) (hl : evs.length ≤ 100000) : ∃ l a net b, PS tb 18 [.int .i64 n, .slice w (evsPV evs)] (.tuple [.agg [.slice a (memPV l), .slice b (netPV net)], .int .i64 0]) ∧ fsts l = (runR (newMs n, []) evs).1 ∧ fstx net = (runR (newMs n, []) evs).2 := by
  have key : ∃ p, PS tb 18 [.int .i64 n, .slice w (evsPV evs)] p ∧ ∃ l a net b, p = .tuple [.agg [.slice a (memPV l), .slice b (netPV net)], .int .i64 0] ∧ fsts l = (runR (newMs n, []) evs).1 ∧ fstx net = (runR (newMs n, []) evs).2 := by
    have q := ps_new n h1 h7
    refine PS_any (af := a18) rfl rfl ?_
    unfold a18
    dsimp only [List.map, ofPV, initEnv]
    have hv : okC (fsts (newC n)) (fstx []) = true := okC_new n h1 h7
    have hnil : ([] : List (List PV)) = netPV [] := rfl
    have hf : runR (fsts (newC n), fstx []) (evs.drop 0) = runR (newMs n, []) evs := rfl
    generalize newC n = l0 at *
    repeat' (first | exact q | (simp (disch := omega) only [go_sem, seval, reduceCtorEq, evsPV_length]) | with_reducible exact Ev.mk | apply x_call | ((first | apply x_split | apply x_splitg) <;> intro hβ hb <;> (simp (disch := omega) only [go_sem, seval, reduceCtorEq, evsPV_length, hβ]) <;> clear hβ))
    refine W_round ?_
    (try simp (disch := omega) only [go_sem, seval, reduceCtorEq])
    refine l_run evs w hl (runR (newMs n, []) evs) _ ?_ evs.length 0 (by omega) l0 false [] true hv hf
    intro l a net b e1 e2
    (try simp (disch := omega) only [go_sem, seval, reduceCtorEq])
    exact ⟨_, rfl, l, a, net, b, rfl, e1, e2⟩
  obtain ⟨p, hp, l, a, net, b, rfl, e1, e2⟩ := key
  exact ⟨l, a, net, b, hp, e1, e2⟩

theorem strNeQ (a : ByteArray) : bytesCmp .neq a a = some (.bool false) := by simp [bytesCmp]

/-- The same items with other data. -/
def dL (d : ByteArray) (l : List (Int × ByteArray)) : List (Int × ByteArray) := l.map fun x => (x.1, d)

def mL (d : ByteArray) (m : M) : M := ⟨m.id, m.members, m.term, m.vote, dL d m.log, m.role, m.commit, m.votes, m.next, m.mtch⟩

def xL (d : ByteArray) (x : X) : X := ⟨x.kind, x.frm, x.to, x.term, x.index, x.logTerm, x.commit, x.ok, dL d x.items⟩

theorem dL_len (d : ByteArray) (l : List (Int × ByteArray)) : (dL d l).length = l.length := by simp [dL]

theorem dL_append (d : ByteArray) (a b : List (Int × ByteArray)) : dL d (a ++ b) = dL d a ++ dL d b := by simp [dL]

theorem dL_take (d : ByteArray) (a : List (Int × ByteArray)) (n : Nat) : dL d (a.take n) = (dL d a).take n := by simp [dL, List.map_take]

theorem dL_drop (d : ByteArray) (a : List (Int × ByteArray)) (n : Nat) : dL d (a.drop n) = (dL d a).drop n := by simp [dL, List.map_drop]

theorem itTerm_dL (d : ByteArray) (l : List (Int × ByteArray)) (i : Nat) : itTerm (dL d l) i = itTerm l i := by
  simp only [itTerm, dL, List.getD_eq_getElem?_getD, List.getElem?_map]
  cases l[i]? <;> rfl

theorem termN_dL (d : ByteArray) (l : List (Int × ByteArray)) (n : Int) : termN (dL d l) n = termN l n := by simp [termN, itTerm_dL]

/-- Terms of items are in range. -/
def okT (l : List (Int × ByteArray)) : Bool := decide (l.length ≤ 256) && l.all fun x => decide (1 ≤ x.1) && decide (x.1 ≤ 1099511627776)

theorem okLog_dL {d : ByteArray} (hd : d.size ≤ 4096) (l : List (Int × ByteArray)) : okLog (dL d l) = okT l := by
  have hd' : decide (d.size ≤ 4096) = true := decide_eq_true hd
  simp only [okLog, okT, dL_len]
  congr 1
  induction l with
  | nil => rfl
  | cons a r ih =>
    simp only [dL, List.map_cons, List.all_cons] at ih ⊢
    rw [ih]
    simp [okItem, hd]

section

variable {d : ByteArray} (hd : d.size ≤ 4096)

include hd

def okMT (m : M) : Bool := okHead m && (okT m.log && decide (0 ≤ m.commit) && decide (m.commit ≤ m.log.length)) && okRole m

theorem okM_mL (m : M) : okM (mL d m) = okMT m := by
  have h1 : okHead (mL d m) = okHead m := rfl
  have h2 : okMid (mL d m) = (okT m.log && decide (0 ≤ m.commit) && decide (m.commit ≤ m.log.length)) := by
    unfold okMid mL
    dsimp only
    rw [okLog_dL hd, dL_len]
  have h3 : okRole (mL d m) = okRole m := by
    have p : okProg (mL d m) = okProg m := by
      have pp : ∀ i, pOK (mL d m) i = pOK m i := fun i => by unfold pOK mL; dsimp only; rw [dL_len]
      have pe : pOK (mL d m) = pOK m := funext pp
      unfold okProg
      rw [pe]
      unfold mL
      dsimp only
      rw [dL_len]
    have v : okVotes (mL d m) = okVotes m := rfl
    simp only [okRole, p, v]
    rfl
  unfold okM okMT
  rw [h1, h2, h3]

def okXT (x : X) (mem : Int) : Bool := within mem 1 7 && within x.frm 1 mem && within x.to 1 mem && decide (x.frm ≠ x.to) && within x.term 1 1099511627776 && within x.index 0 1099511627776 && within x.logTerm 0 1099511627776 && within x.commit 0 1099511627776 &&
  okT x.items && decide (1 ≤ x.kind) && decide (x.kind ≤ 4) && plainX x

theorem okX_xL (x : X) (mem : Int) : okX (xL d x) mem = okXT x mem := by
  have h1 : plainX (xL d x) = plainX x := by unfold plainX xL; dsimp only; rw [dL_len]
  unfold okX okXT
  rw [h1]
  unfold xL
  dsimp only
  rw [okLog_dL hd]

def conT (m : M) (x : X) (kind : Int) : Bool := okMT m && okXT x m.members && decide (x.to = m.id) && decide (x.kind = kind)

theorem con_L (m : M) (x : X) (kind : Int) : concernsX (mL d m) (xL d x) kind = conT m x kind := by
  unfold concernsX conT
  rw [okM_mL hd]
  show (okMT m && okX (xL d x) m.members && _ && _) = _
  rw [okX_xL hd]
  rfl

end

def sameT (log : List (Int × ByteArray)) : Nat → List (Int × ByteArray) → Nat
  | _, [] => 0
  | k, x :: r => match log[k]? with
    | some y => if y.1 == x.1 then sameT log (k + 1) r + 1 else 0
    | none => 0

theorem sameN_T (d : ByteArray) (log : List (Int × ByteArray)) : ∀ (r : List (Int × ByteArray)) (k : Nat), sameN (dL d log) k (dL d r) = sameT log k r
  | [], k => by simp [dL, sameN, sameT]
  | x :: r, k => by
    have ih := sameN_T d log r (k + 1)
    simp only [dL, List.map_cons, sameN, sameT, List.getElem?_map] at ih ⊢
    cases log[k]? with
    | none => rfl
    | some y =>
      simp only [Option.map_some, sameIt, beq_self_eq_true, Bool.and_true]
      rw [ih]

theorem newer_L (d : ByteArray) (m : M) (x : X) : newer (mL d m) (xL d x) = mL d (newer m x) := by
  unfold newer
  show (if m.term < x.term then _ else _) = _
  split <;> rfl

theorem upTo_L (d : ByteArray) (m : M) (i t : Int) : upTo (mL d m) i t = upTo m i t := by
  unfold upTo mL
  dsimp only
  rw [termN_dL, dL_len]

theorem grants_L (d : ByteArray) (m : M) (x : X) : grants (mL d m) (xL d x) = grants m x := by
  unfold grants
  rw [show (xL d x).index = x.index from rfl, show (xL d x).logTerm = x.logTerm from rfl, upTo_L]
  rfl

theorem cast_L (d : ByteArray) (m : M) (x : X) : castM (mL d m) (xL d x) = mL d (castM m x) := by
  unfold castM
  rw [grants_L]
  split <;> rfl

theorem lead_L (d : ByteArray) (m : M) : leadM (mL d m) = mL d (leadM m) := by
  unfold leadM mL
  dsimp only
  rw [dL_len]

theorem won_L (d : ByteArray) (m : M) : wonM (mL d m) = mL d (wonM m) := by
  unfold wonM
  rw [lead_L]
  show (if maj m.members ≤ (m.votes.length : Int) then _ else _) = _
  split <;> rfl

section

variable {d : ByteArray} (hd : d.size ≤ 4096)

include hd

def voteT (m : M) (x : X) : M × Option X := if conT m x 1 then (castM (newer m x) x, some (voteReplyX (castM (newer m x) x) x.frm (grants (newer m x) x))) else (m, none)

theorem vote_L (m : M) (x : X) : voteR (mL d m) (xL d x) = (mL d (voteT m x).1, (voteT m x).2.map (xL d)) := by
  unfold voteR voteT
  rw [con_L hd, newer_L, cast_L, grants_L]
  split <;> rfl

def countT (m : M) (x : X) : M :=
  if conT m x 2 then
    if m.term < x.term then followM m x.term
    else if x.term < m.term ∨ m.role ≠ 2 ∨ x.ok = false ∨ x.frm ∈ m.votes then m
    else wonM { m with votes := insGo x.frm m.votes false }
  else m

theorem count_L (m : M) (x : X) : countR (mL d m) (xL d x) = mL d (countT m x) := by
  unfold countR countT
  rw [con_L hd]
  split
  · show (if m.term < x.term then _ else if x.term < m.term ∨ m.role ≠ 2 ∨ x.ok = false ∨ x.frm ∈ m.votes then _ else _) = _
    split
    · rfl
    · split
      · rfl
      · exact won_L d { m with votes := insGo x.frm m.votes false }
  · rfl

def fullT (m : M) (x : X) : Bool := decide (256 < x.index + (x.items.length : Int)) || (decide ((sameT m.log x.index.toNat x.items : Int) < (x.items.length : Int)) && decide (x.index + (sameT m.log x.index.toNat x.items : Int) < m.commit))

def logT (m : M) (x : X) : List (Int × ByteArray) := if (sameT m.log x.index.toNat x.items : Int) < (x.items.length : Int) then m.log.take (x.index.toNat + sameT m.log x.index.toNat x.items) ++ x.items.drop (sameT m.log x.index.toNat x.items) else m.log

def app4T (m : M) (x : X) : M := { m with log := logT m x, commit := mx m.commit (mn x.commit (x.index + (x.items.length : Int))) }

def app3T (m : M) (x : X) : M × Option X :=
  if missX m x = true then (m, some (replyX m x.frm (mn m.log.length (x.index - 1)) false))
  else if fullT m x = true then (m, none)
  else (app4T m x, some (replyX (app4T m x) x.frm (x.index + (x.items.length : Int)) true))

def appT (m : M) (x : X) : M × Option X :=
  if conT m x 3 = false then (m, none)
  else if x.term < m.term then (m, some (replyX m x.frm 0 false))
  else if (app1 m x).role = 3 then (app1 m x, none)
  else app3T (app2 m x) x

omit hd in
theorem full_L (m : M) (x : X) : fullX (mL d m) (xL d x) = fullT m x := by
  unfold fullX sameX fullT mL xL
  dsimp only
  rw [sameN_T, dL_len]

omit hd in
theorem log_L (m : M) (x : X) : logX (mL d m) (xL d x) = dL d (logT m x) := by
  unfold logX sameX logT mL xL
  dsimp only
  rw [sameN_T, dL_len]
  split
  · rw [dL_append, dL_take, dL_drop]
  · rfl

omit hd in
theorem app4_L (m : M) (x : X) : app4 (mL d m) (xL d x) = mL d (app4T m x) := by
  unfold app4 app4T
  rw [log_L]
  unfold mL xL
  dsimp only
  rw [dL_len]

omit hd in
theorem miss_L (m : M) (x : X) : missX (mL d m) (xL d x) = missX m x := by
  unfold missX mL xL
  dsimp only
  rw [termN_dL, dL_len]

omit hd in
theorem app3_L (m : M) (x : X) : app3 (mL d m) (xL d x) = (mL d (app3T m x).1, (app3T m x).2.map (xL d)) := by
  unfold app3 app3T
  rw [miss_L, full_L, app4_L]
  split
  · unfold mL xL replyX
    dsimp only
    rw [dL_len]
    rfl
  · split
    · rfl
    · unfold xL
      dsimp only
      rw [dL_len]
      rfl

theorem app_L (m : M) (x : X) : appR (mL d m) (xL d x) = (mL d (appT m x).1, (appT m x).2.map (xL d)) := by
  have e1 : app1 (mL d m) (xL d x) = mL d (app1 m x) := by
    unfold app1
    show (if m.term < x.term then _ else _) = _
    split <;> rfl
  have e2 : app2 (mL d m) (xL d x) = mL d (app2 m x) := by
    unfold app2
    rw [e1]
    rfl
  unfold appR appT
  rw [con_L hd, e1, e2, app3_L]
  split
  · rfl
  · show (if x.term < m.term then _ else if (app1 m x).role = 3 then _ else _) = _
    split
    · rfl
    · split
      · rfl
      · rfl

omit hd in
theorem comm_L (m : M) : ∀ k, comm (mL d m) k = comm m k
  | 0 => rfl
  | k + 1 => by
    have ih := comm_L m k
    unfold comm
    rw [ih]
    unfold mL
    dsimp only
    rw [itTerm_dL]

omit hd in
theorem commOf_L (m : M) : commOf (mL d m) = commOf m := by
  unfold commOf
  rw [comm_L]
  show comm m (dL d m.log).length = _
  rw [dL_len]

omit hd in
theorem ackN_L (m : M) (x : X) : ackN (mL d m) (xL d x) = mL d (ackN m x) := by
  unfold ackN
  show (if x.ok = true then _ else _) = _
  split <;> rfl

def ackTT (m : M) (x : X) : M :=
  if conT m x 4 then
    if m.term < x.term then followM m x.term
    else if x.term < m.term ∨ m.role ≠ 3 ∨ (x.ok = true ∧ (m.log.length : Int) < x.index) then m
    else { ackN m x with commit := commOf (ackN m x) }
  else m

theorem ack_L (m : M) (x : X) : ackT (mL d m) (xL d x) = mL d (ackTT m x) := by
  unfold ackT ackTT
  rw [con_L hd, ackN_L, commOf_L]
  split
  · show (if m.term < x.term then _ else if x.term < m.term ∨ m.role ≠ 3 ∨ (x.ok = true ∧ ((dL d m.log).length : Int) < x.index) then _ else _) = _
    simp only [dL_len]
    split
    · rfl
    · split
      · rfl
      · rfl
  · rfl

def receiveT (m : M) (x : X) : M × Option X :=
  if x.kind = 1 then voteT m x else if x.kind = 2 then (countT m x, none) else if x.kind = 3 then appT m x else if x.kind = 4 then (ackTT m x, none) else (m, none)

theorem receive_L (m : M) (x : X) : receiveR (mL d m) (xL d x) = (mL d (receiveT m x).1, (receiveT m x).2.map (xL d)) := by
  unfold receiveR receiveT
  rw [vote_L hd, count_L hd, app_L hd, ack_L hd]
  show (if x.kind = 1 then _ else if x.kind = 2 then _ else if x.kind = 3 then _ else if x.kind = 4 then _ else _) = _
  split
  · rfl
  · split
    · rfl
    · split
      · rfl
      · split <;> rfl

omit hd in
theorem asksN_L (m : M) : ∀ k, asksN (mL d m) k = (asksN m k).map (xL d)
  | 0 => rfl
  | k + 1 => by
    have ih := asksN_L m k
    have e : askX (mL d m) (k + 1 : Nat) = xL d (askX m (k + 1 : Nat)) := by
      unfold askX mL xL
      dsimp only
      rw [termN_dL, dL_len]
      rfl
    unfold asksN
    rw [ih, e]
    show (if ((k + 1 : Nat) : Int) = m.id then _ else _) = _
    split <;> simp

def timeoutT (m : M) : M × List X := if okMT m = true ∧ m.role ≠ 3 ∧ m.term ≠ 1099511627776 then (wonM (candM m), asks (candM m)) else (m, [])

theorem timeout_L (m : M) : timeoutR (mL d m) = (mL d (timeoutT m).1, (timeoutT m).2.map (xL d)) := by
  have c : candM (mL d m) = mL d (candM m) := rfl
  unfold timeoutR timeoutT
  rw [okM_mL hd, c, won_L]
  show (if okMT m = true ∧ m.role ≠ 3 ∧ m.term ≠ 1099511627776 then _ else _) = _
  split
  · unfold asks
    rw [asksN_L]
    rfl
  · rfl

omit hd in
theorem beats_L (m : M) : ∀ k, beats (mL d m) k = (beats m k).map (xL d)
  | 0 => rfl
  | k + 1 => by
    have ih := beats_L m k
    have e : beat (mL d m) k = xL d (beat m k) := by
      unfold beat mL xL
      dsimp only
      rw [termN_dL, dL_drop]
    unfold beats
    rw [ih, e]
    show (if ((k + 1 : Nat) : Int) = m.id then _ else _) = _
    split <;> simp

def beatsT (m : M) : List X := if okMT m = true ∧ m.role = 3 then beats m m.members.toNat else []

theorem beatsOf_L (m : M) : beatsOf (mL d m) = (beatsT m).map (xL d) := by
  unfold beatsOf beatsT
  rw [okM_mL hd, beats_L]
  show (if okMT m = true ∧ m.role = 3 then _ else _) = _
  split <;> rfl

def restartT (m : M) : M := if okMT m then ⟨m.id, m.members, m.term, m.vote, m.log, 1, 0, [], [], []⟩ else m

theorem restart_L (m : M) : restartR (mL d m) = mL d (restartT m) := by
  unfold restartR restartT
  rw [okM_mL hd]
  split <;> rfl

def errT (m : M) : Int := if okMT m = false then 1 else if m.role ≠ 3 then 21 else if 256 ≤ (m.log.length : Int) then 17 else 0

theorem err_L (m : M) : errP (mL d m) d = errT m := by
  have hs : ¬ (4096 : Int) < d.size := by omega
  unfold errP errT
  rw [okM_mL hd, if_neg hs]
  show (if okMT m = false then (1 : Int) else if m.role ≠ 3 then 21 else if 256 ≤ ((dL d m.log).length : Int) then 17 else 0) = _
  rw [dL_len]

omit hd in
theorem proposed_L (m : M) : proposed (mL d m) d = mL d (proposed m ByteArray.empty) := by
  have e : withItem (mL d m) d = mL d (withItem m ByteArray.empty) := by
    unfold withItem mL
    dsimp only
    rw [dL_append, dL_len]
    rfl
  unfold proposed
  rw [e, commOf_L]
  rfl

end

def cL (d : ByteArray) (c : List M × List X) : List M × List X := (c.1.map (mL d), c.2.map (xL d))

theorem getD_mL (d : ByteArray) (ms : List M) (i : Nat) : (ms.map (mL d)).getD i zeroM = mL d (ms.getD i zeroM) := by
  simp only [List.getD_eq_getElem?_getD, List.getElem?_map]
  cases ms[i]? <;> rfl

theorem getD_xL (d : ByteArray) (net : List X) (i : Nat) : (net.map (xL d)).getD i zeroXF = xL d (net.getD i zeroXF) := by
  simp only [List.getD_eq_getElem?_getD, List.getElem?_map]
  cases net[i]? <;> rfl

theorem send_L (d : ByteArray) (net q : List X) : sendR (net.map (xL d)) (q.map (xL d)) = (sendR net q).map (xL d) := by
  unfold sendR
  rw [← List.map_append, List.map_take]

theorem del_L (d : ByteArray) (net : List X) (k : Nat) : delX (net.map (xL d)) k = (delX net k).map (xL d) := by
  simp [delX, List.map_take, List.map_drop]

theorem set_L (d : ByteArray) (ms : List M) (i : Nat) (m : M) : (ms.map (mL d)).set i (mL d m) = (ms.set i m).map (mL d) := by rw [List.map_set]

theorem toList_L (d : ByteArray) (o : Option X) : (o.map (xL d)).toList = o.toList.map (xL d) := by cases o <;> rfl

def okAtT (ms : List M) (i : Nat) : Bool := decide ((ms.getD i zeroM).id = ((i + 1 : Nat) : Int)) && decide ((ms.getD i zeroM).members = ms.length) && okMT (ms.getD i zeroM)

def okCT (ms : List M) (net : List X) : Bool := decide (1 ≤ ms.length) && decide (ms.length ≤ 7) && decide (net.length ≤ 256) && (List.range ms.length).all (okAtT ms) && net.all (fun x => okXT x ms.length)

def nodeT (m : M) (e : Evt) : M × List X × Int :=
  if e.kind = 1 then ((timeoutT m).1, (timeoutT m).2, 0) else if e.kind = 2 then (m, beatsT m, 0) else if e.kind = 3 then (if errT m = 0 then proposed m ByteArray.empty else m, [], errT m) else (restartT m, [], 0)

def transitT (ms : List M) (net : List X) (e : Evt) : (List M × List X) × Int :=
  if e.at_ < 0 ∨ (net.length : Int) ≤ e.at_ then (([], []), 9)
  else if e.kind = 4 then ((ms.set ((net.getD e.at_.toNat zeroXF).to - 1).toNat (receiveT (ms.getD ((net.getD e.at_.toNat zeroXF).to - 1).toNat zeroM) (net.getD e.at_.toNat zeroXF)).1, sendR (delX net e.at_.toNat) (receiveT (ms.getD ((net.getD e.at_.toNat zeroXF).to - 1).toNat zeroM) (net.getD e.at_.toNat zeroXF)).2.toList), 0)
  else if e.kind = 5 then ((ms, sendR (delX net e.at_.toNat) []), 0)
  else if 256 ≤ net.length then (([], []), 17)
  else ((ms, sendR (net ++ [net.getD e.at_.toNat zeroXF]) []), 0)

def evT (ms : List M) (net : List X) (e : Evt) : (List M × List X) × Int :=
  if okCT ms net = false ∨ e.kind < 1 ∨ 7 < e.kind then (([], []), 1)
  else if 4 ≤ e.kind ∧ e.kind ≤ 6 then transitT ms net e
  else if e.node < 1 ∨ (ms.length : Int) < e.node then (([], []), 1)
  else if (nodeT (ms.getD (e.node - 1).toNat zeroM) e).2.2 = 0 then ((ms.set (e.node - 1).toNat (nodeT (ms.getD (e.node - 1).toNat zeroM) e).1, sendR net (nodeT (ms.getD (e.node - 1).toNat zeroM) e).2.1), 0)
  else (([], []), (nodeT (ms.getD (e.node - 1).toNat zeroM) e).2.2)

def stepT (c : List M × List X) (e : Evt) : List M × List X := if (evT c.1 c.2 e).2 = 0 then (evT c.1 c.2 e).1 else c

def runT (c : List M × List X) (l : List Evt) : List M × List X := l.foldl stepT c

section

variable {d : ByteArray} (hd : d.size ≤ 4096)

include hd

theorem okC_L (ms : List M) (net : List X) : okC (ms.map (mL d)) (net.map (xL d)) = okCT ms net := by
  have h1 : okAtC (ms.map (mL d)) = okAtT ms := by
    funext i
    unfold okAtC okAtT
    rw [getD_mL, okM_mL hd, List.length_map]
    rfl
  have h2 : ∀ k : Int, (net.map (xL d)).all (fun x => okX x k) = net.all (fun x => okXT x k) := by
    intro k
    rw [List.all_map]
    congr 1
    funext x
    exact okX_xL hd x k
  unfold okC okCT
  rw [h1, h2, List.length_map, List.length_map]

theorem node_L (m : M) (e : Evt) (he : e.kind = 3 → e.data = d) : nodeR (mL d m) e = (mL d (nodeT m e).1, (nodeT m e).2.1.map (xL d), (nodeT m e).2.2) := by
  unfold nodeR nodeT
  split
  · rw [timeout_L hd]
  · split
    · rw [beatsOf_L hd]
    · split
      · rename_i h
        rw [he h, err_L hd, proposed_L]
        split <;> rfl
      · rw [restart_L hd]
        rfl

theorem transit_L (ms : List M) (net : List X) (e : Evt) : transitR (ms.map (mL d)) (net.map (xL d)) e = (cL d (transitT ms net e).1, (transitT ms net e).2) := by
  unfold transitR transitT
  rw [getD_xL, List.length_map, show (xL d (net.getD e.at_.toNat zeroXF)).to = (net.getD e.at_.toNat zeroXF).to from rfl, getD_mL, receive_L hd, del_L]
  split
  · rfl
  · split
    · dsimp only
      rw [set_L, toList_L, send_L]
      rfl
    · split
      · have := send_L d (delX net e.at_.toNat) []
        simp only [List.map_nil] at this
        rw [this]
        rfl
      · split
        · rfl
        · have := send_L d (net ++ [net.getD e.at_.toNat zeroXF]) []
          simp only [List.map_nil, List.map_append, List.map_cons] at this
          rw [this]
          rfl

theorem ev_L (ms : List M) (net : List X) (e : Evt) (he : e.kind = 3 → e.data = d) : evR (ms.map (mL d)) (net.map (xL d)) e = (cL d (evT ms net e).1, (evT ms net e).2) := by
  unfold evR evT
  rw [okC_L hd, transit_L hd, getD_mL, node_L hd _ _ he, List.length_map]
  split
  · rfl
  · split
    · rfl
    · split
      · rfl
      · dsimp only
        split
        · rw [set_L, send_L]
          rfl
        · rfl

theorem step_L (c : List M × List X) (e : Evt) (he : e.kind = 3 → e.data = d) : stepR (cL d c) e = cL d (stepT c e) := by
  unfold stepR stepT
  have h : evR (cL d c).1 (cL d c).2 e = _ := ev_L hd c.1 c.2 e he
  rw [h]
  dsimp only
  split <;> rfl

theorem run_L : ∀ (l : List Evt) (c : List M × List X), (∀ e ∈ l, e.kind = 3 → e.data = d) → runR (cL d c) l = cL d (runT c l)
  | [], c, _ => rfl
  | e :: r, c, h => by
    show runR (stepR (cL d c) e) r = cL d (runT (stepT c e) r)
    rw [step_L hd c e (h e (by simp))]
    exact run_L r (stepT c e) (fun x hx => h x (by simp [hx]))

end

def flush (n : Nat) : List Evt := List.replicate (4 * n) ⟨4, 0, 0, ByteArray.empty⟩

def evsQ (n : Nat) (d : ByteArray) : List Evt := ⟨1, 1, 0, ByteArray.empty⟩ :: (flush n ++ ⟨3, 1, 0, d⟩ :: ⟨2, 1, 0, ByteArray.empty⟩ :: (flush n ++ ⟨2, 1, 0, ByteArray.empty⟩ :: flush n))

/-- Every member has one item and knows that it is committed; the first one leads, no other. -/
def finT (n : Nat) (c : List M × List X) : Bool := c.1.length == n && c.1.all (fun m => m.log.length == 1 && m.commit == 1) && (List.range n).all (fun i => (c.1.getD i zeroM).role == (if i = 0 then 3 else 1))

theorem fin1 : finT 1 (runT (newMs 1, []) (evsQ 1 ByteArray.empty)) = true := by kernel_rfl

theorem fin2 : finT 2 (runT (newMs 2, []) (evsQ 2 ByteArray.empty)) = true := by kernel_rfl

theorem fin3 : finT 3 (runT (newMs 3, []) (evsQ 3 ByteArray.empty)) = true := by kernel_rfl

theorem fin4 : finT 4 (runT (newMs 4, []) (evsQ 4 ByteArray.empty)) = true := by kernel_rfl

theorem fin5 : finT 5 (runT (newMs 5, []) (evsQ 5 ByteArray.empty)) = true := by kernel_rfl

theorem fin6 : finT 6 (runT (newMs 6, []) (evsQ 6 ByteArray.empty)) = true := by kernel_rfl

theorem fin7 : finT 7 (runT (newMs 7, []) (evsQ 7 ByteArray.empty)) = true := by kernel_rfl

def qlH (l : List (M × Fl)) (a : Bool) (net : List (X × Bool)) (b : Bool) : Heap := [(0, .var false [.p (.slice a (memPV l)), .p (.slice b (netPV net))])]

theorem l_ql (l : List (M × Fl)) (a : Bool) (net : List (X × Bool)) (b : Bool) (h7 : l.length ≤ 7) (hr : ∀ i (hi : i < l.length), 0 < i → l[i].1.role ≠ 3) (K : Ex → St → Prop) (hx : K (.exit 0) ⟨[(3, .p (.int .i64 0))], [], 0, [0]⟩) : ∀ (r i : Nat), 0 < i → i + r = l.length →
    W tb a25_l0 ⟨[(1, .ptr 0 0), (3, .p (.int .i64 0)), (7, .p (.slice a (memPV l))), (8, .p (.int .i64 l.length)), (9, .p (.int .i64 i))], qlH l a net b, 1, [0]⟩ (LK tb (.ghost (.free [5]) (.ghost .lower a25_l0)) K) := by
  intro r
  induction r with
  | zero =>
    intro i h0 hi
    have h1 : ¬ (i : Int) < l.length := by omega
    refine i_code (by unfold a25_l0; exact rfl) ?_
    repeat' (first | (simp (disch := omega) only [go_sem, seval, reduceCtorEq, qlH, h1]) | with_reducible exact Ev.mk | ((first | apply x_split | apply x_splitg) <;> intro hβ hb <;> (simp (disch := omega) only [go_sem, seval, reduceCtorEq, qlH, h1, hβ]) <;> clear hβ))
    exact hx
  | succ r ih =>
    intro i h0 hi
    have h1 : (i : Int) < l.length := by omega
    have h2 : i < l.length := by omega
    have h4 : (0 : Int) ≤ i := by omega
    have h3 := memPV_get l i h2
    have t1 : (l[i].1.role == 3) = false := by simpa using hr i h2 h0
    have ih := ih (i + 1) (by omega) (by omega)
    simp only [qlH] at ih
    refine i_code (by unfold a25_l0; exact rfl) ?_
    repeat' (first | (simp (disch := omega) only [go_sem, seval, reduceCtorEq, qlH, h1, h3, h4, mC, t1, memPV_length]) | with_reducible exact Ev.mk | ((first | apply x_split | apply x_splitg) <;> intro hβ hb <;> (simp (disch := omega) only [go_sem, seval, reduceCtorEq, qlH, h1, h3, h4, mC, t1, memPV_length, hβ]) <;> clear hβ))
    refine i_lk (W_round ?_)
    (try simp (disch := omega) only [go_sem, seval, reduceCtorEq])
    exact ih

theorem ps_qlead (l : List (M × Fl)) (a : Bool) (net : List (X × Bool)) (b : Bool) (h7 : l.length ≤ 7) (h0 : 0 < l.length) (hl : l[0].1.role = 3) (hr : ∀ i (hi : i < l.length), 0 < i → l[i].1.role ≠ 3) : PS tb 25 [.agg [.slice a (memPV l), .slice b (netPV net)]] (.int .i64 1) := by
  have h1 : (0 : Int) < l.length := by omega
  have h3 := memPV_get l 0 h0
  have t1 : (l[0].1.role == 3) = true := by simp [hl]
  refine PS_of (af := a25) rfl rfl ?_
  unfold a25
  dsimp only [List.map, ofPV, initEnv]
  repeat' (first | (simp (disch := omega) only [go_sem, seval, reduceCtorEq, memPV_length]) | with_reducible exact Ev.mk | ((first | apply x_split | apply x_splitg) <;> intro hβ hb <;> (simp (disch := omega) only [go_sem, seval, reduceCtorEq, memPV_length, hβ]) <;> clear hβ))
  refine W_round ?_
  (try simp (disch := omega) only [go_sem, seval, reduceCtorEq])
  refine i_code (by unfold a25_l0; exact rfl) ?_
  repeat' (first | (simp (disch := omega) only [go_sem, seval, reduceCtorEq, h1, h3, mC, t1, memPV_length]) | with_reducible exact Ev.mk | ((first | apply x_split | apply x_splitg) <;> intro hβ hb <;> (simp (disch := omega) only [go_sem, seval, reduceCtorEq, h1, h3, mC, t1, memPV_length, hβ]) <;> clear hβ))
  refine i_lk (W_round ?_)
  (try simp (disch := omega) only [go_sem, seval, reduceCtorEq])
  refine l_ql l a net b h7 hr _ ?_ (l.length - 1) 1 (by omega) (by omega)
  repeat' (first | (simp (disch := omega) only [go_sem, seval, reduceCtorEq]) | with_reducible exact Ev.mk | ((first | apply x_split | apply x_splitg) <;> intro hβ hb <;> (simp (disch := omega) only [go_sem, seval, reduceCtorEq, hβ]) <;> clear hβ))

theorem fit_str {y : PV} (h : Fit .str y) : ∃ s, y = .str s := by
  cases h with
  | str s h => exact ⟨s, rfl⟩

def strPV (s : ByteArray) : List PV := [.str s]

def strsPV (l : List ByteArray) : List (List PV) := l.map strPV

theorem strsPV_length (l : List ByteArray) : (strsPV l).length = l.length := by simp [strsPV]

theorem strsPV_sz (l : List ByteArray) : allSz 1 (strsPV l) = true := by simp [allSz, strsPV, strPV]

theorem strsPV_append (a b : List ByteArray) : strsPV a ++ strsPV b = strsPV (a ++ b) := by simp [strsPV]

theorem strsPV_take (a : List ByteArray) (n : Nat) : (strsPV a).take n = strsPV (a.take n) := by simp [strsPV, List.map_take]

theorem strsPV_sing (s : ByteArray) : [[PV.str s]] = strsPV [s] := rfl

def dataL (l : List (Int × ByteArray)) : List ByteArray := l.map (·.2)

theorem dataL_len (l : List (Int × ByteArray)) : (dataL l).length = l.length := by simp [dataL]

theorem dataL_step (l : List (Int × ByteArray)) (i : Nat) (h : i < l.length) : dataL (l.take (i + 1)) = dataL (l.take i) ++ [l[i].2] := by
  unfold dataL
  rw [List.take_add_one, List.map_append, List.getElem?_eq_getElem h]
  rfl

/-- How many items are committed. -/
def comN (m : M) : Nat := (max (min m.commit m.log.length) 0).toNat

def comL (m : M) : List ByteArray := dataL (m.log.take (comN m))

theorem comN_le (m : M) : comN m ≤ m.log.length := by unfold comN; omega

theorem l58 (m : M) (f : Fl) (hl : m.log.length ≤ 100000) (K : Ex → St → Prop)
    (hx : K (.exit 0) ⟨[(3, .ref 1 (comL m).length 0 (comL m).length)], [(1, .row false 1 (strsPV (comL m)))], 2, [0]⟩) : ∀ (n i : Nat), i + n = comN m →
    W tb a21_l0 ⟨[(1, .ptr 0 0), (3, .ref 1 (dataL (m.log.take i)).length 0 (dataL (m.log.take i)).length), (4, .p (.int .i64 i))], [(1, .row false 1 (strsPV (dataL (m.log.take i)))), (0, .var false ((mC m f).map .p))], 2, [0]⟩ (LK tb (.ghost .lower a21_l0) K) := by
  have c0 := comN_le m
  intro n
  induction n with
  | zero =>
    intro i hi
    have e : i = comN m := by omega
    subst e
    refine i_code (by unfold a21_l0; exact rfl) ?_
    by_cases h1 : (comN m : Int) < m.commit
    · have h2 : ¬ (comN m : Int) < m.log.length := by unfold comN at *; omega
      repeat' (first | (simp (maxSteps := 2000000) (disch := omega) only [go_sem, seval, reduceCtorEq, h1, h2, itemsPV_length, mC]) | with_reducible exact Ev.mk | ((first | apply x_split | apply x_splitg) <;> intro hβ hb <;> (simp (maxSteps := 2000000) (disch := omega) only [go_sem, seval, reduceCtorEq, h1, h2, itemsPV_length, mC, hβ]) <;> clear hβ))
      exact hx
    · repeat' (first | (simp (maxSteps := 2000000) (disch := omega) only [go_sem, seval, reduceCtorEq, h1, itemsPV_length, mC]) | with_reducible exact Ev.mk | ((first | apply x_split | apply x_splitg) <;> intro hβ hb <;> (simp (maxSteps := 2000000) (disch := omega) only [go_sem, seval, reduceCtorEq, h1, itemsPV_length, mC, hβ]) <;> clear hβ))
      exact hx
  | succ n ih =>
    intro i hi
    have h1 : (i : Int) < m.log.length := by omega
    have h0 : (i : Int) < m.commit := by unfold comN at hi; omega
    have h2 : i < m.log.length := by omega
    have h3 := itemsPV_get m.log i h2
    have h4 : (0 : Int) ≤ i := by omega
    have h5 : (m.log.take i).length ≤ 100000 := by simp; omega
    have h6 := dataL_len (m.log.take i)
    have ih := ih (i + 1) (by omega)
    rw [dataL_step m.log i h2] at ih
    simp only [List.length_append, List.length_cons, List.length_nil, Nat.zero_add] at ih
    refine i_code (by unfold a21_l0; exact rfl) ?_
    repeat' (first | (simp (maxSteps := 2000000) (disch := omega) only [go_sem, seval, reduceCtorEq, h0, h1, h3, h4, itemPV, itemsPV_length, strsPV_sing, strsPV_sz, strsPV_append, strsPV_length, List.take_length, List.length_append, maxB, h6, mC]) | with_reducible exact Ev.mk | ((first | apply x_split | apply x_splitg) <;> intro hβ hb <;> (simp (maxSteps := 2000000) (disch := omega) only [go_sem, seval, reduceCtorEq, h0, h1, h3, h4, itemPV, itemsPV_length, strsPV_sing, strsPV_sz, strsPV_append, strsPV_length, List.take_length, List.length_append, maxB, h6, mC, hβ]) <;> clear hβ))
    refine i_lk (W_round ?_)
    (try simp (maxSteps := 2000000) (disch := omega) only [go_sem, seval, reduceCtorEq, mC])
    rw [h6] at ih
    exact ih

theorem ps58 (m : M) (f : Fl) (hm : MFew m) : PS tb 21 [.agg (mC m f)] (.slice false (strsPV (comL m))) := by
  have := hm.few1
  have c0 := comN_le m
  have c4 : (comL m).length = comN m := by unfold comL; rw [dataL_len]; simp; omega
  have c5 : (comL m).take (comN m) = comL m := List.take_of_length_le (by omega)
  refine PS_of (af := a21) rfl rfl ?_
  unfold a21
  dsimp only [List.map, ofPV, initEnv]
  repeat' (first | (simp (maxSteps := 2000000) (disch := omega) only [go_sem, seval, reduceCtorEq, mC]) | with_reducible exact Ev.mk | ((first | apply x_split | apply x_splitg) <;> intro hβ hb <;> (simp (maxSteps := 2000000) (disch := omega) only [go_sem, seval, reduceCtorEq, mC, hβ]) <;> clear hβ))
  refine W_round ?_
  (try simp (maxSteps := 2000000) (disch := omega) only [go_sem, seval, reduceCtorEq, mC])
  refine l58 m f (by omega) _ ?_ (comN m) 0 (Nat.zero_add _)
  (try simp (maxSteps := 2000000) (disch := omega) only [go_sem, seval, reduceCtorEq, c4])
  all_goals first | rfl | ((try simp (maxSteps := 2000000) (disch := omega) only [go_sem, seval, reduceCtorEq, c4, c5, strsPV_length, strsPV_take]) <;> rfl)

theorem mL_new (d : ByteArray) (n : Nat) : (newMs n).map (mL d) = newMs n := by
  simp [newMs, fsts, newC, mL, dL, Function.comp_def]

theorem runT_data (d : ByteArray) (c : List M × List X) (n : Nat) : runT c (evsQ n d) = runT c (evsQ n ByteArray.empty) := by
  have e : ∀ c, stepT c ⟨3, 1, 0, d⟩ = stepT c ⟨3, 1, 0, ByteArray.empty⟩ := fun c => rfl
  unfold runT evsQ
  simp only [List.foldl_cons, List.foldl_append, e]

theorem evsQ_data (n : Nat) (d : ByteArray) : ∀ e ∈ evsQ n d, e.kind = 3 → e.data = d := by
  intro e he h
  simp only [evsQ, flush, List.mem_cons, List.mem_append, List.mem_replicate] at he
  rcases he with rfl | ⟨_, rfl⟩ | rfl | rfl | ⟨_, rfl⟩ | rfl | ⟨_, rfl⟩ <;> first | rfl | (simp at h)

theorem fin_all (n : Nat) (h1 : 1 ≤ n) (h7 : n ≤ 7) : finT n (runT (newMs n, []) (evsQ n ByteArray.empty)) = true := by
  have : n = 1 ∨ n = 2 ∨ n = 3 ∨ n = 4 ∨ n = 5 ∨ n = 6 ∨ n = 7 := by omega
  rcases this with rfl | rfl | rfl | rfl | rfl | rfl | rfl
  · exact fin1
  · exact fin2
  · exact fin3
  · exact fin4
  · exact fin5
  · exact fin6
  · exact fin7

theorem fin_run (n : Nat) (h1 : 1 ≤ n) (h7 : n ≤ 7) (d : ByteArray) (hd : d.size ≤ 4096) : (runR (newMs n, []) (evsQ n d)).1.length = n ∧
    ∀ (i : Nat) (m : M), (runR (newMs n, []) (evsQ n d)).1[i]? = some m → m.role = (if i = 0 then 3 else 1) ∧ comL m = [d] := by
  have e := run_L hd (evsQ n d) (newMs n, []) (evsQ_data n d)
  have e0 : cL d (newMs n, []) = (newMs n, []) := by unfold cL; rw [mL_new]; rfl
  rw [e0, runT_data] at e
  have f := fin_all n h1 h7
  generalize runT (newMs n, []) (evsQ n ByteArray.empty) = T at e f
  obtain ⟨ms, net⟩ := T
  simp only [finT, Bool.and_eq_true, beq_iff_eq, List.all_eq_true, List.mem_range] at f
  obtain ⟨⟨f1, f2⟩, f3⟩ := f
  rw [e]
  refine ⟨by simp [cL, f1], fun i m hm => ?_⟩
  simp only [cL, List.getElem?_map, Option.map_eq_some_iff] at hm
  obtain ⟨t, ht, rfl⟩ := hm
  obtain ⟨hi, rfl⟩ := List.getElem?_eq_some_iff.1 ht
  have g3 := f3 i (by rw [← f1]; exact hi)
  rw [List.getD_eq_getElem?_getD, ht] at g3
  simp only [Option.getD_some] at g3
  obtain ⟨g1, g2⟩ := f2 _ (List.getElem_mem hi)
  refine ⟨g3, ?_⟩
  generalize ms[i] = t at g1 g2
  have l1 : (mL d t).log.length = 1 := by simp [mL, dL_len, g1]
  have c1 : comN (mL d t) = 1 := by
    unfold comN
    rw [l1]
    have : (mL d t).commit = 1 := by simp [mL, g2]
    rw [this]; rfl
  unfold comL
  rw [c1]
  have : t.log.length = 1 := g1
  obtain ⟨x, hx⟩ := List.length_eq_one_iff.1 this
  simp [mL, hx, dL, dataL]

def ev4 : Evt := ⟨4, 0, 0, ByteArray.empty⟩

theorem evs2 (l : List Evt) : evsPV l ++ [[PV.int .i64 2, .int .i64 1, .int .i64 0, .str ⟨#[]⟩]] = evsPV (l ++ [⟨2, 1, 0, ByteArray.empty⟩]) := by simp [evsPV, evC]; rfl

theorem evs3 (l : List Evt) (d : ByteArray) : evsPV l ++ [[PV.int .i64 3, .int .i64 1, .int .i64 0, .str d]] = evsPV (l ++ [⟨3, 1, 0, d⟩]) := by simp [evsPV, evC]

theorem evs4 (l : List Evt) : evsPV l ++ [[PV.int .i64 4, .int .i64 0, .int .i64 0, .str ⟨#[]⟩]] = evsPV (l ++ [ev4]) := by simp [evsPV, evC, ev4]; rfl

theorem sz4 (a b c d : PV) : allSz 4 [[a, b, c, d]] = true := rfl

theorem l_c3 (d : ByteArray) (n : Nat) (h7 : n ≤ 7) (K : Ex → St → Prop) : ∀ (m i : Nat) (l : List Evt), i + m = 4 * n → l.length + m ≤ 1000 →
    (K (.exit 0) ⟨[(1, .p (.str d)), (5, .p (.int .i64 n)), (6, .ref 0 (l ++ List.replicate m ev4).length 0 (l ++ List.replicate m ev4).length), (7, .p (.int .i64 (4 * n)))], [(0, .row false 4 (evsPV (l ++ List.replicate m ev4)))], 1, [0]⟩) →
    W tb a8_l3 ⟨[(1, .p (.str d)), (5, .p (.int .i64 n)), (6, .ref 0 l.length 0 l.length), (7, .p (.int .i64 (4 * n))), (8, .p (.int .i64 i))], [(0, .row false 4 (evsPV l))], 1, [0]⟩ (LK tb (.ghost .lower a8_l3) K) := by
  intro m
  induction m with
  | zero =>
    intro i l hi hl hx
    have h1 : ¬ (i : Int) < 4 * n := by omega
    simp only [List.replicate_zero, List.append_nil] at hx
    refine i_code (by unfold a8_l3; exact rfl) ?_
    repeat' (first | (simp (disch := omega) only [go_sem, seval, reduceCtorEq, h1]) | with_reducible exact Ev.mk | ((first | apply x_split | apply x_splitg) <;> intro hβ hb <;> (simp (disch := omega) only [go_sem, seval, reduceCtorEq, h1, hβ]) <;> clear hβ))
    exact hx
  | succ m ih =>
    intro i l hi hl hx
    have h1 : (i : Int) < 4 * n := by omega
    have ihk := ih (i + 1) (l ++ [ev4]) (by omega) (by simp; omega) (by rw [List.append_assoc]; exact hx)
    simp only [List.length_append, List.length_cons, List.length_nil] at ihk
    have m1 : (l.length + 1) * 40 ≤ 140737488355328 := by omega
    have m2 : l.length + 1 ≤ 140737488355328 := by omega
    refine i_code (by unfold a8_l3; exact rfl) ?_
    repeat' (first | (simp (disch := omega) only [go_sem, seval, reduceCtorEq, h1, evs4, sz4, evsPV_length, m1, m2, maxBytes]) | with_reducible exact Ev.mk | ((first | apply x_split | apply x_splitg) <;> intro hβ hb <;> (simp (disch := omega) only [go_sem, seval, reduceCtorEq, h1, evs4, sz4, evsPV_length, m1, m2, maxBytes, hβ]) <;> clear hβ))
    refine i_lk (W_round ?_)
    (try simp (disch := omega) only [go_sem, seval, reduceCtorEq])
    exact ihk

theorem l_c1 (d : ByteArray) (n : Nat) (h7 : n ≤ 7) (r : Nat) (K : Ex → St → Prop) : ∀ (m i : Nat) (l : List Evt), i + m = 4 * n → l.length + m ≤ 1000 →
    (K (.exit 4) ⟨[(1, .p (.str d)), (5, .p (.int .i64 n)), (6, .ref 0 (l ++ List.replicate m ev4).length 0 (l ++ List.replicate m ev4).length), (7, .p (.int .i64 (4 * n))), (9, .p (.int .i64 r))], [(0, .row false 4 (evsPV (l ++ List.replicate m ev4)))], 1, [0]⟩) →
    W tb a8_l1 ⟨[(1, .p (.str d)), (5, .p (.int .i64 n)), (6, .ref 0 l.length 0 l.length), (7, .p (.int .i64 (4 * n))), (9, .p (.int .i64 r)), (10, .p (.int .i64 i))], [(0, .row false 4 (evsPV l))], 1, [0]⟩ (LK tb (.ghost .lower a8_l1) K) := by
  intro m
  induction m with
  | zero =>
    intro i l hi hl hx
    have h1 : ¬ (i : Int) < 4 * n := by omega
    simp only [List.replicate_zero, List.append_nil] at hx
    refine i_code (by unfold a8_l1; exact rfl) ?_
    repeat' (first | (simp (disch := omega) only [go_sem, seval, reduceCtorEq, h1]) | with_reducible exact Ev.mk | ((first | apply x_split | apply x_splitg) <;> intro hβ hb <;> (simp (disch := omega) only [go_sem, seval, reduceCtorEq, h1, hβ]) <;> clear hβ))
    exact hx
  | succ m ih =>
    intro i l hi hl hx
    have h1 : (i : Int) < 4 * n := by omega
    have ihk := ih (i + 1) (l ++ [ev4]) (by omega) (by simp; omega) (by rw [List.append_assoc]; exact hx)
    simp only [List.length_append, List.length_cons, List.length_nil] at ihk
    have m1 : (l.length + 1) * 40 ≤ 140737488355328 := by omega
    have m2 : l.length + 1 ≤ 140737488355328 := by omega
    refine i_code (by unfold a8_l1; exact rfl) ?_
    repeat' (first | (simp (disch := omega) only [go_sem, seval, reduceCtorEq, h1, evs4, sz4, evsPV_length, m1, m2, maxBytes]) | with_reducible exact Ev.mk | ((first | apply x_split | apply x_splitg) <;> intro hβ hb <;> (simp (disch := omega) only [go_sem, seval, reduceCtorEq, h1, evs4, sz4, evsPV_length, m1, m2, maxBytes, hβ]) <;> clear hβ))
    refine i_lk (W_round ?_)
    (try simp (disch := omega) only [go_sem, seval, reduceCtorEq])
    exact ihk

/-- One round: a heartbeat and all deliveries. -/
def rnd (n : Nat) : List Evt := ⟨2, 1, 0, ByteArray.empty⟩ :: List.replicate (4 * n) ev4

def rnds (n : Nat) : Nat → List Evt
  | 0 => []
  | k + 1 => rnd n ++ rnds n k

theorem l_c2 (d : ByteArray) (n : Nat) (h7 : n ≤ 7) (K : Ex → St → Prop) : ∀ (m i : Nat) (l : List Evt), i + m = 2 → l.length + m * 29 ≤ 1000 →
    (K (.exit 2) ⟨[(1, .p (.str d)), (5, .p (.int .i64 n)), (6, .ref 0 (l ++ rnds n m).length 0 (l ++ rnds n m).length)], [(0, .row false 4 (evsPV (l ++ rnds n m)))], 1, [0]⟩) →
    W tb a8_l2 ⟨[(1, .p (.str d)), (5, .p (.int .i64 n)), (6, .ref 0 l.length 0 l.length), (7, .p (.int .i64 (4 * n))), (9, .p (.int .i64 i))], [(0, .row false 4 (evsPV l))], 1, [0]⟩ (LK tb (.ghost .lower a8_l2) K) := by
  intro m
  induction m with
  | zero =>
    intro i l hi hl hx
    have h1 : ¬ (i : Int) < 2 := by omega
    simp only [rnds, List.append_nil] at hx
    refine i_code (by unfold a8_l2; exact rfl) ?_
    repeat' (first | (simp (disch := omega) only [go_sem, seval, reduceCtorEq, h1]) | with_reducible exact Ev.mk | ((first | apply x_split | apply x_splitg) <;> intro hβ hb <;> (simp (disch := omega) only [go_sem, seval, reduceCtorEq, h1, hβ]) <;> clear hβ))
    exact hx
  | succ m ih =>
    intro i l hi hl hx
    have h1 : (i : Int) < 2 := by omega
    have hlen : (l ++ rnd n).length + m * 29 ≤ 1000 := by simp [rnd]; omega
    have ihk := ih (i + 1) (l ++ rnd n) (by omega) hlen (by rw [List.append_assoc]; exact hx)
    have q := l_c1 d n h7 i
    have m1 : (l.length + 1) * 40 ≤ 140737488355328 := by omega
    have m2 : l.length + 1 ≤ 140737488355328 := by omega
    refine i_code (by unfold a8_l2; exact rfl) ?_
    repeat' (first | (simp (disch := omega) only [go_sem, seval, reduceCtorEq, h1, evs2, sz4, evsPV_length, m1, m2, maxBytes]) | with_reducible exact Ev.mk | ((first | apply x_split | apply x_splitg) <;> intro hβ hb <;> (simp (disch := omega) only [go_sem, seval, reduceCtorEq, h1, evs2, sz4, evsPV_length, m1, m2, maxBytes, hβ]) <;> clear hβ))
    refine W_round ?_
    (try simp (disch := omega) only [go_sem, seval, reduceCtorEq])
    have e0 : l.length + 1 = (l ++ [(⟨2, 1, 0, ByteArray.empty⟩ : Evt)]).length := by simp
    have e1 : (l ++ [(⟨2, 1, 0, ByteArray.empty⟩ : Evt)]) ++ List.replicate (4 * n) ev4 = l ++ rnd n := by simp [rnd]
    rw [e0]
    refine q _ (4 * n) 0 _ (by omega) (by simp; omega) ?_
    rw [e1]
    (try simp (disch := omega) only [go_sem, seval, reduceCtorEq])
    refine i_lk (W_round ?_)
    (try simp (disch := omega) only [go_sem, seval, reduceCtorEq])
    exact ihk

def qcH (l : List (M × Fl)) (a : Bool) (net : List (X × Bool)) (b : Bool) (fz : Bool) (rows : List (List PV)) : Heap := [(1, .var false [.p (.slice a (memPV l)), .p (.slice b (netPV net))]), (0, .row fz 4 rows)]

theorem l_c0 (d : ByteArray) (l : List (M × Fl)) (a : Bool) (net : List (X × Bool)) (b : Bool) (fz : Bool) (rows : List (List PV)) (h7 : l.length ≤ 7) (hf : ∀ t ∈ l, MFew t.1) (hc : ∀ t ∈ l, comL t.1 = [d]) (K : Ex → St → Prop)
    (hx : ∀ s, s.env = [] → K (.exit 6) s) : ∀ (m i : Nat), i + m = l.length →
    W tb a8_l0 ⟨[(1, .p (.str d)), (5, .p (.int .i64 l.length)), (11, .ptr 1 0), (13, .p (.int .i64 i))], qcH l a net b fz rows, 2, [0]⟩ (LK tb (.ghost .lower a8_l0) K) := by
  intro m
  induction m with
  | zero =>
    intro i hi
    have h1 : ¬ (i : Int) < l.length := by omega
    refine i_code (by unfold a8_l0; exact rfl) ?_
    repeat' (first | (simp (disch := omega) only [go_sem, seval, reduceCtorEq, qcH, h1]) | with_reducible exact Ev.mk | ((first | apply x_split | apply x_splitg) <;> intro hβ hb <;> (simp (disch := omega) only [go_sem, seval, reduceCtorEq, qcH, h1, hβ]) <;> clear hβ))
    exact hx _ rfl
  | succ m ih =>
    intro i hi
    have h1 : (i : Int) < l.length := by omega
    have h2 : i < l.length := by omega
    have h4 : (0 : Int) ≤ i := by omega
    have h3 := memPV_get l i h2
    have hm := List.getElem_mem h2
    have q := ps58 l[i].1 l[i].2 (hf _ hm)
    have e := hc _ hm
    rw [e] at q
    have e2 : strsPV [d] = [[PV.str d]] := rfl
    rw [e2] at q
    have h9 : bytesCmp .neq d d = some (.bool false) := strNeQ _
    have ihk := ih (i + 1) (by omega)
    simp only [qcH] at ihk
    refine i_code (by unfold a8_l0; exact rfl) ?_
    repeat' (first | exact q | (simp (disch := omega) only [go_sem, seval, reduceCtorEq, qcH, h1, h3, h4, h9, memPV_length, mC]) | with_reducible exact Ev.mk | apply x_call | ((first | apply x_split | apply x_splitg) <;> intro hβ hb <;> (simp (disch := omega) only [go_sem, seval, reduceCtorEq, qcH, h1, h3, h4, h9, memPV_length, mC, hβ]) <;> clear hβ))
    refine i_lk (W_round ?_)
    (try simp (disch := omega) only [go_sem, seval, reduceCtorEq])
    exact ihk

theorem walkQuorumCommits {u v : PV} (h : Fit (.int .u8) u) (h' : Fit .str v) : PS tb 8 [u, v] (.bool true) := by
  obtain ⟨d, rfl⟩ := fit_str h'
  have hz : ∃ z : Nat, u = .int .u8 z ∧ z ≤ 255 := by
    cases h with
    | int k n h =>
      simp [Lit.wf, IntKind.min, IntKind.max, IntKind.signed, IntKind.bits] at h
      exact ⟨n.toNat, by rw [Int.toNat_of_nonneg (by omega)], by omega⟩
  obtain ⟨z, rfl, hz⟩ := hz
  have et : (z : Int).tmod 7 = ((z % 7 : Nat) : Int) := by rw [Int.tmod_eq_emod_of_nonneg (by omega)]; rfl
  have en : ((z % 7 : Nat) : Int) + 1 = ((z % 7 + 1 : Nat) : Int) := by omega
  obtain ⟨n, hn⟩ : ∃ n, z % 7 + 1 = n := ⟨_, rfl⟩
  have n1 : 1 ≤ n := by omega
  have n7 : n ≤ 7 := by omega
  rw [hn] at en
  refine PS_of (af := a8) rfl rfl ?_
  unfold a8
  dsimp only [List.map, ofPV, initEnv]
  by_cases hd : (100 : Int) < d.size
  · repeat' (first | exact ps_examples | (simp (disch := omega) only [go_sem, seval, reduceCtorEq, et, en, hd]) | with_reducible exact Ev.mk | apply x_call | ((first | apply x_split | apply x_splitg) <;> intro hβ hb <;> (simp (disch := omega) only [go_sem, seval, reduceCtorEq, et, en, hd, hβ]) <;> clear hβ))
  · have hd' : d.size ≤ 4096 := by omega
    obtain ⟨fl, fm⟩ := fin_run n n1 n7 d hd'
    have hel : (evsQ n d).length ≤ 100000 := by simp [evsQ, flush]; omega
    obtain ⟨la, a, xa, na, ra, ea, ea'⟩ := ps_run n n1 n7 (evsQ n d) false hel
    have va := (okC_run (evsQ n d) (c := (newMs n, [])) (okC_new n n1 n7)).1
    rw [← ea, ← ea'] at va
    rw [← ea] at fl fm
    rw [fsts_length] at fl
    have sa := smallM_of va
    have fm' : ∀ i (hi : i < la.length), la[i].1.role = (if i = 0 then 3 else 1) ∧ comL la[i].1 = [d] := fun i hi => fm i _ (fsts_get la i hi)
    have g := ps_qlead la a xa na (by omega) (by omega) (by have := (fm' 0 (by omega)).1; simpa using this) (fun i hi h0 => by rw [(fm' i hi).1, if_neg (by omega)]; decide)
    have e1 : ([] : List (List PV)) = evsPV [] := rfl
    have w1 : -9223372036854775808 ≤ 4 * (n : Int) := by omega
    have w2 : 4 * (n : Int) ≤ 9223372036854775807 := by omega
    have q3 := l_c3 d n n7
    have q2 := l_c2 d n n7
    have en2 : ((la.length : Int) != (n : Int)) = false := by rw [fl]; simp
    have s1 : [[PV.int .i64 1, .int .i64 1, .int .i64 0, .str ⟨#[]⟩]] = evsPV [⟨1, 1, 0, ByteArray.empty⟩] := rfl
    repeat' (first | (simp (disch := omega) only [go_sem, seval, reduceCtorEq, et, en, hd, s1, sz4, evsPV_length, evsPV_sz, maxBytes]) | with_reducible exact Ev.mk | ((first | apply x_split | apply x_splitg) <;> intro hβ hb <;> (simp (disch := omega) only [go_sem, seval, reduceCtorEq, et, en, hd, s1, sz4, evsPV_length, evsPV_sz, maxBytes, hβ]) <;> clear hβ))
    refine W_round ?_
    (try simp (disch := omega) only [go_sem, seval, reduceCtorEq])
    refine q3 _ (4 * n) 0 [⟨1, 1, 0, ByteArray.empty⟩] (by omega) (by simp; omega) ?_
    generalize hL : [(⟨1, 1, 0, ByteArray.empty⟩ : Evt)] ++ List.replicate (4 * n) ev4 = L
    have Ll : L.length = 4 * n + 1 := by rw [← hL]; simp
    have m1 : (L.length + 1) * 40 ≤ 140737488355328 := by omega
    have m2 : L.length + 1 ≤ 140737488355328 := by omega
    repeat' (first | (simp (disch := omega) only [go_sem, seval, reduceCtorEq, evs3, sz4, evsPV_length, m1, m2, maxBytes]) | with_reducible exact Ev.mk | ((first | apply x_split | apply x_splitg) <;> intro hβ hb <;> (simp (disch := omega) only [go_sem, seval, reduceCtorEq, evs3, sz4, evsPV_length, m1, m2, maxBytes, hβ]) <;> clear hβ))
    refine W_round ?_
    (try simp (disch := omega) only [go_sem, seval, reduceCtorEq])
    have e0 : L.length + 1 = (L ++ [(⟨3, 1, 0, d⟩ : Evt)]).length := by simp
    rw [e0]
    refine q2 _ 2 0 _ (by omega) (by simp; omega) ?_
    have eL : L ++ [(⟨3, 1, 0, d⟩ : Evt)] ++ rnds n 2 = evsQ n d := by
      rw [← hL]
      simp [evsQ, rnds, rnd, flush, ev4]
    rw [eL]
    repeat' (first | exact ra | exact g | (simp (disch := omega) only [go_sem, seval, reduceCtorEq, evsPV_length, evsPV_take, List.take_length, en2, memPV_length]) | with_reducible exact Ev.mk | apply x_call | ((first | apply x_split | apply x_splitg) <;> intro hβ hb <;> (simp (disch := omega) only [go_sem, seval, reduceCtorEq, evsPV_length, evsPV_take, List.take_length, en2, memPV_length, hβ]) <;> clear hβ))
    refine W_round ?_
    (try simp (disch := omega) only [go_sem, seval, reduceCtorEq])
    have := l_c0 d la a xa na true (evsPV (evsQ n d)) (by omega) sa.2 (fun t ht => by
      obtain ⟨i, hi, rfl⟩ := List.getElem_of_mem ht
      exact (fm' i hi).2)
    rw [fl] at this
    refine this _ ?_ n 0 (by omega)
    intro s hs
    obtain ⟨e, H, nx, mk⟩ := s
    cases hs
    repeat' (first | exact ps_examples | (simp (disch := omega) only [go_sem, seval, reduceCtorEq]) | with_reducible exact Ev.mk | apply x_call | ((first | apply x_split | apply x_splitg) <;> intro hβ hb <;> (simp (disch := omega) only [go_sem, seval, reduceCtorEq, hβ]) <;> clear hβ))

end Go.Dv.Try
