/-
  Specifications of the functions of this claim, parts 37, 6, 13.
-/
import Derived.Test.YtphkbgjnhfidlaaGreatTab
import Derived.Test.YtphkbgjnhfidlaaGreatStep
import Derived.Test.YtphkbgjnhfidlaaGreatS1
import Derived.Test.YtphkbgjnhfidlaaGreatS7
import Derived.Test.YtphkbgjnhfidlaaGreatS8
import Derived.Test.YtphkbgjnhfidlaaGreatS12
import Derived.Test.YtphkbgjnhfidlaaGreatS24
import Derived.Test.YtphkbgjnhfidlaaGreatS30
import Derived.Test.YtphkbgjnhfidlaaGreatS46
import Derived.Test.YtphkbgjnhfidlaaGreatBridge
set_option linter.unusedVariables false
set_option linter.unusedSimpArgs false
set_option maxRecDepth 100000
set_option maxHeartbeats 16000000
namespace Go.Dv.Tryz
open Go Go.Dv

theorem asksN_items {m : M} {k : Nat} : ∀ y ∈ asksN m k, y.items = [] := by
  induction k with
  | zero => simp [asksN]
  | succ k ih =>
    intro y hy
    simp only [asksN] at hy
    split at hy
    · exact ih y hy
    · rcases List.mem_append.1 hy with h | h
      · exact ih y h
      · simp at h; subst h; rfl

theorem timeout_msgs {m : M} (h : m.members ≤ 9223372036854775807) : (timeoutR m).2.length ≤ 9223372036854775807 ∧ ∀ y ∈ (timeoutR m).2, y.items = [] := by
  unfold timeoutR
  split
  · rename_i hc
    obtain ⟨hh, _⟩ := (okM_iff m).1 hc.1
    have al := asksN_length (candM m) m.members.toNat
    have me := hh.me2
    refine ⟨?_, asksN_items⟩
    show (asksN (candM m) m.members.toNat).length ≤ _
    omega
  · simp

def evR (ms : List M) (net : List X) (e : Evt) : (List M × List X) × Int :=
  if okC ms net = false ∨ e.kind < 1 ∨ 7 < e.kind then (([], []), 1)
  else if 4 ≤ e.kind ∧ e.kind ≤ 6 then transitR ms net e
  else if e.node < 1 ∨ (ms.length : Int) < e.node then (([], []), 1)
  else if (nodeR (ms.getD (e.node - 1).toNat zeroM) e).2.2 = 0 then ((ms.set (e.node - 1).toNat (nodeR (ms.getD (e.node - 1).toNat zeroM) e).1, sendR net (nodeR (ms.getD (e.node - 1).toNat zeroM) e).2.1), 0)
  else (([], []), (nodeR (ms.getD (e.node - 1).toNat zeroM) e).2.2)

theorem nodeR_msgs {m : M} {e : Evt} (ho : okM m = true) : (nodeR m e).2.1.length ≤ 1000 ∧ ∀ y ∈ (nodeR m e).2.1, y.items.length ≤ 100000 := by
  have hf := okM_few ho
  have hh := ((okM_iff m).1 ho).1
  have := hh.me1; have := hh.me2
  unfold nodeR
  split
  · have h1 := (timeout_msgs (m := m) (by omega)).2
    refine ⟨?_, fun y hy => by rw [h1 y hy]; simp⟩
    show (timeoutR m).2.length ≤ 1000
    unfold timeoutR
    split
    · have := asksN_length (candM m) (candM m).members.toNat
      have e : (candM m).members = m.members := rfl
      show (asks (candM m)).length ≤ 1000
      unfold asks
      omega
    · simp
  · split
    · refine ⟨?_, fun y hy => ?_⟩
      · show (beatsOf m).length ≤ 1000
        unfold beatsOf
        split
        · have := beats_length m m.members.toNat
          omega
        · simp
      · have hy : y ∈ beatsOf m := hy
        unfold beatsOf at hy
        split at hy
        · have := beats_items m m.members.toNat y hy
          have := hf.few1
          omega
        · simp at hy
    · split
      · simp
      · simp

section

variable (l : List (M × Fl)) (a : Bool) (net : List (X × Bool)) (b : Bool) (kind node at_ : Int) (data : ByteArray)

theorem ps_doV (hl : l.length ≤ 9223372036854775807) (hn : net.length ≤ 9223372036854775807) (hm : ∀ t ∈ l, MIn t.1) (h : okC (fsts l) (fstx net) = false ∨ kind < 1 ∨ 7 < kind) :
    ∃ p, PS tb 16 [.agg [.slice a (memPV l), .slice b (netPV net)], .agg (evC ⟨kind, node, at_, data⟩)] p ∧ CluP (evR (fsts l) (fstx net) ⟨kind, node, at_, data⟩) p := by
  have er : evR (fsts l) (fstx net) ⟨kind, node, at_, data⟩ = (([], []), 1) := if_pos h
  rw [er]
  have hd := ps_qvalid l a net b hl hn hm
  refine PS_any (af := a16) rfl rfl ?_
  unfold a16
  dsimp only [List.map, ofPV, initEnv, evC]
  cases hv : okC (fsts l) (fstx net) with
  | false =>
    rw [hv] at hd
    repeat' (first | exact hd | (simp (disch := omega) only [go_sem, seval, reduceCtorEq]) | with_reducible exact Ev.mk | apply x_call | ((first | apply x_split | apply x_splitg) <;> intro hβ hb <;> (try simp only [hβ]) <;> clear hβ))
    exact ⟨_, rfl, CluP.zero 1⟩
  | true =>
    rw [hv] at hd
    have h : kind < 1 ∨ 7 < kind := by
      rcases h with h | h
      · rw [hv] at h; cases h
      · exact h
    by_cases c : kind < 1
    · repeat' (first | exact hd | (simp (disch := omega) only [go_sem, seval, reduceCtorEq, c]) | with_reducible exact Ev.mk | apply x_call | ((first | apply x_split | apply x_splitg) <;> intro hβ hb <;> (try simp only [hβ]) <;> clear hβ))
      exact ⟨_, rfl, CluP.zero 1⟩
    · have c2 : 7 < kind := by omega
      repeat' (first | exact hd | (simp (disch := omega) only [go_sem, seval, reduceCtorEq, c, c2]) | with_reducible exact Ev.mk | apply x_call | ((first | apply x_split | apply x_splitg) <;> intro hβ hb <;> (try simp only [hβ]) <;> clear hβ))
      exact ⟨_, rfl, CluP.zero 1⟩

theorem ps_doT (hv : okC (fsts l) (fstx net) = true) (hk : kind = 4 ∨ kind = 5 ∨ kind = 6) :
    ∃ p, PS tb 16 [.agg [.slice a (memPV l), .slice b (netPV net)], .agg (evC ⟨kind, node, at_, data⟩)] p ∧ CluP (evR (fsts l) (fstx net) ⟨kind, node, at_, data⟩) p := by
  have er : evR (fsts l) (fstx net) ⟨kind, node, at_, data⟩ = transitR (fsts l) (fstx net) ⟨kind, node, at_, data⟩ := by
    have c1 : ¬ (okC (fsts l) (fstx net) = false ∨ kind < 1 ∨ 7 < kind) := by rw [hv]; simp; omega
    have c2 : 4 ≤ kind ∧ kind ≤ 6 := by omega
    simp only [evR, if_neg c1, if_pos c2]
  rw [er]
  obtain ⟨v1, v2, v3, v4, v5⟩ := okC_facts hv
  rw [fsts_length] at v1 v2
  rw [fstx_length] at v3
  have sm := smallM_of hv
  have hd := ps_qvalid l a net b (by omega) (by omega) (fun t ht => (sm.2 t ht).toMIn)
  rw [hv] at hd
  obtain ⟨p, ht, l2, a2, n2, b2, rfl, hp⟩ := ps_transit l a net b kind node at_ data hv hk
  generalize (transitR (fsts l) (fstx net) ⟨kind, node, at_, data⟩) = R at *
  refine PS_any (af := a16) rfl rfl ?_
  unfold a16
  dsimp only [List.map, ofPV, initEnv, evC]
  simp only [evC] at ht
  rcases hk with rfl | rfl | rfl
  all_goals
    repeat' (first | exact hd | exact ht | (simp (disch := omega) only [go_sem, seval, reduceCtorEq]) | with_reducible exact Ev.mk | apply x_call | ((first | apply x_split | apply x_splitg) <;> intro hβ hb <;> (try simp only [hβ]) <;> clear hβ))
    exact ⟨_, rfl, _, _, _, _, rfl, hp⟩

theorem ps_doX (hv : okC (fsts l) (fstx net) = true) (hk : kind = 1 ∨ kind = 2 ∨ kind = 3 ∨ kind = 7) (h : node < 1 ∨ (l.length : Int) < node) :
    ∃ p, PS tb 16 [.agg [.slice a (memPV l), .slice b (netPV net)], .agg (evC ⟨kind, node, at_, data⟩)] p ∧ CluP (evR (fsts l) (fstx net) ⟨kind, node, at_, data⟩) p := by
  have er : evR (fsts l) (fstx net) ⟨kind, node, at_, data⟩ = (([], []), 1) := by
    have c1 : ¬ (okC (fsts l) (fstx net) = false ∨ kind < 1 ∨ 7 < kind) := by rw [hv]; simp; omega
    have c2 : ¬ (4 ≤ kind ∧ kind ≤ 6) := by omega
    have c3 : node < 1 ∨ ((fsts l).length : Int) < node := by rw [fsts_length]; exact h
    simp only [evR, if_neg c1, if_neg c2, if_pos c3]
  rw [er]
  obtain ⟨v1, v2, v3, v4, v5⟩ := okC_facts hv
  rw [fsts_length] at v1 v2
  rw [fstx_length] at v3
  have sm := smallM_of hv
  have hd := ps_qvalid l a net b (by omega) (by omega) (fun t ht => (sm.2 t ht).toMIn)
  rw [hv] at hd
  refine PS_any (af := a16) rfl rfl ?_
  unfold a16
  dsimp only [List.map, ofPV, initEnv, evC]
  rcases hk with rfl | rfl | rfl | rfl
  all_goals
    by_cases c : node < 1
    · repeat' (first | exact hd | (simp (disch := omega) only [go_sem, seval, reduceCtorEq, c, memPV_length]) | with_reducible exact Ev.mk | apply x_call | ((first | apply x_split | apply x_splitg) <;> intro hβ hb <;> (try simp only [hβ]) <;> clear hβ))
      exact ⟨_, rfl, CluP.zero 1⟩
    · have c2 : (l.length : Int) < node := by omega
      repeat' (first | exact hd | (simp (disch := omega) only [go_sem, seval, reduceCtorEq, c, c2, memPV_length]) | with_reducible exact Ev.mk | apply x_call | ((first | apply x_split | apply x_splitg) <;> intro hβ hb <;> (try simp only [hβ]) <;> clear hβ))
      exact ⟨_, rfl, CluP.zero 1⟩

theorem ps_doN (hv : okC (fsts l) (fstx net) = true) (hk : kind = 1 ∨ kind = 2 ∨ kind = 3 ∨ kind = 7) (i : Nat) (hi : i < l.length) (hni : node = (i : Int) + 1) :
    ∃ p, PS tb 16 [.agg [.slice a (memPV l), .slice b (netPV net)], .agg (evC ⟨kind, node, at_, data⟩)] p ∧ CluP (evR (fsts l) (fstx net) ⟨kind, node, at_, data⟩) p := by
  have ei : (node - 1).toNat = i := by omega
  have er : evR (fsts l) (fstx net) ⟨kind, node, at_, data⟩ = if (nodeR l[i].1 ⟨kind, node, at_, data⟩).2.2 = 0 then (((fsts l).set i (nodeR l[i].1 ⟨kind, node, at_, data⟩).1, sendR (fstx net) (nodeR l[i].1 ⟨kind, node, at_, data⟩).2.1), 0) else (([], []), (nodeR l[i].1 ⟨kind, node, at_, data⟩).2.2) := by
    have c1 : ¬ (okC (fsts l) (fstx net) = false ∨ kind < 1 ∨ 7 < kind) := by rw [hv]; simp; omega
    have c2 : ¬ (4 ≤ kind ∧ kind ≤ 6) := by omega
    have c3 : ¬ (node < 1 ∨ ((fsts l).length : Int) < node) := by rw [fsts_length]; omega
    simp only [evR, if_neg c1, if_neg c2, if_neg c3, ei, fsts_getD l i hi]
  rw [er]
  obtain ⟨v1, v2, v3, v4, v5⟩ := okC_facts hv
  rw [fsts_length] at v1 v2
  rw [fstx_length] at v3
  have sm := smallM_of hv
  have sn := small_of hv
  have hm := v4 i l[i].1 (fsts_get l i hi)
  have hd := ps_qvalid l a net b (by omega) (by omega) (fun t ht => (sm.2 t ht).toMIn)
  rw [hv] at hd
  have hq := nodeR_msgs (e := ⟨kind, node, at_, data⟩) hm.2.2
  have hfew := nodeR_few (e := ⟨kind, node, at_, data⟩) hm.2.2
  obtain ⟨fb, H', hchg, hcode, hrest⟩ := chg_node l[i].1 ⟨kind, node, at_, data⟩ hm.2.2 1 3 false ((3, .var false [.p (.int .i64 0)]) :: trH l a net b kind node at_ data) 4 (by omega) (by omega) (by omega) rfl rfl
  obtain ⟨r, H3, k3, hb, ⟨d, hr⟩, g1, g2, g3, g4⟩ := bs_change l sm a net (flg fb (nodeR l[i].1 ⟨kind, node, at_, data⟩).2.1) sn
      ⟨by rw [flg_length]; exact hq.1, fun t ht => by obtain ⟨y, hy, rfl⟩ := List.mem_map.1 ht; exact hq.2 y hy⟩ b i hi 36 [.ptr 1 0, .ptr 3 0] ((3, .var false [.p (.int .i64 0)]) :: trH l a net b kind node at_ data) H' 4 (fresh_of rfl) _ hfew hchg
  rw [← hni] at hb
  subst hr
  generalize (nodeR l[i].1 ⟨kind, node, at_, data⟩) = R at *
  obtain ⟨m2, q, code⟩ := R
  simp only at *
  have q2 : aget H3 2 = some (.var false [.p (.slice true []), .p (.slice true [])]) := by rw [g2 2 (by omega), hrest 2 (by omega)]; rfl
  have q3 : aget H3 3 = some (.var false [.p (.int .i64 code)]) := by rw [g2 3 (by omega)]; exact hcode
  have qk : aget H3 k3 = none := g4 k3 (by omega)
  have n2 : (k3 == 2) = false := by simp; omega
  have n3 : (k3 == 3) = false := by simp; omega
  have n7 : (k3 == 7) = false := by simp; omega
  have c1 : ¬ node < 1 := by omega
  have c2 : ¬ (l.length : Int) < node := by omega
  have e9 : ((own l).set i (m2, ffff)).take l.length = (own l).set i (m2, ffff) := List.take_of_length_le (by rw [List.length_set, own_length]; omega)
  refine PS_any (af := a16) rfl rfl ?_
  unfold a16
  dsimp only [List.map, ofPV, initEnv, evC]
  by_cases hz : code = 0
  · have t1 : (code != 0) = false := by simp [hz]
    rw [if_pos hz]
    rcases hk with rfl | rfl | rfl | rfl
    all_goals
      repeat' (first | exact hd | exact hb | (simp (disch := omega) only [go_sem, seval, reduceCtorEq, c1, c2, q2, q3, qk, n2, n3, n7, t1, g1, memPV_length, memPV_take, List.length_set, own_length, _root_.Go.Dv.aget_hset, if_true, if_false, e9]) | with_reducible exact Ev.mk | apply x_call | apply x_callr | ((first | apply x_split | apply x_splitg) <;> intro hβ hb <;> (try simp only [hβ]) <;> clear hβ))
      refine ⟨_, rfl, _, _, _, _, rfl, fsts_set _ _ _ _, ?_⟩
      rw [fstx_cut, fstx_clr, fstx_append, fstx_flg]
      rfl
  · have t1 : (code != 0) = true := by simpa using hz
    rw [if_neg hz]
    rcases hk with rfl | rfl | rfl | rfl
    all_goals
      repeat' (first | exact hd | exact hb | (simp (disch := omega) only [go_sem, seval, reduceCtorEq, c1, c2, q2, q3, qk, n2, n3, n7, t1, g1, memPV_length, memPV_take, List.length_set, own_length, _root_.Go.Dv.aget_hset, if_true, if_false, e9]) | with_reducible exact Ev.mk | apply x_call | apply x_callr | ((first | apply x_split | apply x_splitg) <;> intro hβ hb <;> (try simp only [hβ]) <;> clear hβ))
      exact ⟨_, rfl, CluP.zero code⟩

theorem ps_do (hl : l.length ≤ 9223372036854775807) (hn : net.length ≤ 9223372036854775807) (hm : ∀ t ∈ l, MIn t.1) :
    ∃ p, PS tb 16 [.agg [.slice a (memPV l), .slice b (netPV net)], .agg (evC ⟨kind, node, at_, data⟩)] p ∧ CluP (evR (fsts l) (fstx net) ⟨kind, node, at_, data⟩) p := by
  by_cases h : okC (fsts l) (fstx net) = false ∨ kind < 1 ∨ 7 < kind
  · exact ps_doV l a net b kind node at_ data hl hn hm h
  · have hv : okC (fsts l) (fstx net) = true := by
      cases e : okC (fsts l) (fstx net)
      · exact absurd (.inl e) h
      · rfl
    have hk : ¬ (kind < 1 ∨ 7 < kind) := fun e => h (.inr e)
    by_cases c : kind = 4 ∨ kind = 5 ∨ kind = 6
    · exact ps_doT l a net b kind node at_ data hv c
    · have c' : kind = 1 ∨ kind = 2 ∨ kind = 3 ∨ kind = 7 := by omega
      by_cases d : node < 1 ∨ (l.length : Int) < node
      · exact ps_doX l a net b kind node at_ data hv c' d
      · exact ps_doN l a net b kind node at_ data hv c' (node - 1).toNat (by omega) (by omega)

end

theorem fit_int {y : PV} (h : Fit (.int .i64) y) : ∃ n, y = .int .i64 n ∧ -9223372036854775808 ≤ n ∧ n ≤ 9223372036854775807 := by
  cases h with
  | int k n h =>
    refine ⟨n, rfl, ?_⟩
    simp [Lit.wf, IntKind.min, IntKind.max, IntKind.signed, IntKind.bits] at h
    omega

theorem fit_str {y : PV} (h : Fit .str y) : ∃ s, y = .str s := by
  cases h with
  | str s h => exact ⟨s, rfl⟩

theorem fit_bool {y : PV} (h : Fit .bool y) : ∃ s, y = .bool s := by
  cases h with
  | bool s => exact ⟨s, rfl⟩

end Go.Dv.Tryz
