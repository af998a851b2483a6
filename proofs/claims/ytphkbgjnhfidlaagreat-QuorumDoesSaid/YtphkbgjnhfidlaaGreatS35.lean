/-
  Specifications of the functions of this claim, parts 35.
-/
import Derived.Test.YtphkbgjnhfidlaaGreatTab
import Derived.Test.YtphkbgjnhfidlaaGreatStep
import Derived.Test.YtphkbgjnhfidlaaGreatS1
import Derived.Test.YtphkbgjnhfidlaaGreatS8
import Derived.Test.YtphkbgjnhfidlaaGreatS12
import Derived.Test.YtphkbgjnhfidlaaGreatS16
import Derived.Test.YtphkbgjnhfidlaaGreatS24
import Derived.Test.YtphkbgjnhfidlaaGreatS30
import Derived.Test.YtphkbgjnhfidlaaGreatS34
set_option linter.unusedVariables false
set_option linter.unusedSimpArgs false
set_option maxRecDepth 100000
set_option maxHeartbeats 16000000
namespace Go.Dv.Tryz
open Go Go.Dv

def withV (m : M) (v : List Int) : M := { m with votes := v }

theorem bs84c (m : M) (a : Nat) (w c : Nat) (n k : DV) (H : Heap) (nx p : Nat) (hp : aget H p = some (.var false (dC m (.ref a m.log.length 0 m.log.length) (.ref w c 0 c) n k))) (ha : aget H a = some (.row false 2 (itemsPV m.log))) (hf : ∀ j, nx ≤ j → aget H j = none) (hw1 : aget H w = some (.row false 1 (intsPV m.votes))) (hw2 : c = m.votes.length) (hm : m.members ≤ 10000) (h0 : 1 ≤ m.id) (h1 : m.id ≤ m.members) (hl : m.log.length ≤ 100000) (hw : maj m.members ≤ (m.votes.length : Int)) :
    BS tb 74 [.ptr p 0] H nx (.tuple []) ((nx + 1, .row false 1 (intsPV (leadM m).mtch)) :: (nx, .row false 1 (intsPV (leadM m).next)) :: hset H p (.var false (dC (leadM m) (.ref a m.log.length 0 m.log.length) (.p (.slice true [])) (.ref nx m.members.toNat 0 m.members.toNat) (.ref (nx + 1) m.members.toNat 0 m.members.toNat)))) (nx + 2) := by
  subst hw2
  unfold dC at hp
  have e1 := fun b => aget_hset (c := b) hp
  have e2 := hset_hset H p
  have hv : ¬ (m.votes.length : Int) < maj m.members := by omega
  have g0 := freshB hf
  have g1 := freshA hf 1
  have hpn : p ≠ nx := by intro e; subst e; rw [g0] at hp; cases hp
  have hpn1 : p ≠ nx + 1 := by intro e; subst e; rw [g1] at hp; cases hp
  have n1 : (nx == p) = false := by simpa using fun e => hpn e.symm
  have n2 : (nx + 1 == p) = false := by simpa using fun e => hpn1 e.symm
  have n3 : (nx + 1 == nx) = false := beqB 0 nx
  have n4 := fun c => aget_hset_ne (H := H) (c := c) hpn
  have n5 := fun c => aget_hset_ne (H := H) (c := c) hpn1
  have m0 : (0 : Int) ≤ m.members := by omega
  have m1 : (m.members.toNat * 8 ≤ maxBytes) = True := by simp [maxBytes]; omega
  have m2 : (0 : Int) ≤ m.id - 1 := by omega
  have m3 : m.id - 1 < (m.members.toNat : Int) := by omega
  have hlt : (m.id - 1).toNat < m.members.toNat := by omega
  have m4 : (intsPV (List.replicate m.members.toNat 0))[(m.id - 1).toNat]? = some [.int .i64 0] := by
    rw [intsPV_get _ _ (by simpa using hlt)]
    simp [intPV]
  have m5 : (m.members ≤ 140737488355328) = True := by simp; omega
  have hpa : p ≠ a := by intro e; subst e; rw [ha] at hp; cases hp
  have hxa : a ≠ nx := by intro e; subst e; rw [g0] at ha; cases ha
  have hxa1 : a ≠ nx + 1 := by intro e; subst e; rw [g1] at ha; cases ha
  have n6 : (nx == a) = false := by simpa using fun e => hxa e.symm
  have n7 : (nx + 1 == a) = false := by simpa using fun e => hxa1 e.symm
  have n8 := fun c => (aget_hset_ne (H := H) (c := c) hpa).trans ha
  refine BS_of (af := a74) rfl rfl ?_
  unfold a74
  dsimp only [List.map, ofPV, initEnv]
  repeat' (first | exact ps25 m.members (by omega) | (simp (maxSteps := 2000000) (disch := omega) only [go_sem, seval, reduceCtorEq, hp, hw1, e1, e2, hv, n1, n2, n3, n4, n5, n6, n7, n8, g0, g1, m0, m1, m5, zeros, List.length_replicate, Nat.add_assoc, intsPV_length]) | with_reducible exact Ev.mk | apply x_call | ((first | apply x_split | apply x_splitg) <;> intro hβ hb <;> (try simp only [hβ]) <;> clear hβ))
  refine W_round ?_
  rw [← fillN_zero (m.log.length : Int)]
  refine l84 { m with role := 3 } a _ _ nx p ?_ (e1 _) (n8 _) n6 n7 hl n1 n2 hm m0 _ ?_ m.members.toNat 0 (Nat.zero_add _)
  · simp [fillN]
  · (try simp (maxSteps := 2000000) (disch := omega) only [go_sem, seval, reduceCtorEq, dC, e1, n1, n2, n3, n6, n7, n8, m2, m3, m4, fillN_zero, intPV, List.length_replicate, itemsPV_length, intsPV_length, intsPV_set])
    simp [leadM, dC]

theorem bs84d (m : M) (a : Nat) (w c : Nat) (n k : DV) (H : Heap) (nx p : Nat) (hp : aget H p = some (.var false (dC m (.ref a m.log.length 0 m.log.length) (.ref w c 0 c) n k))) (hw1 : aget H w = some (.row false 1 (intsPV m.votes))) (hw2 : c = m.votes.length) (hm : m.members ≤ 10000) (hw : ¬ maj m.members ≤ (m.votes.length : Int)) :
    BS tb 74 [.ptr p 0] H nx (.tuple []) H nx := by
  subst hw2
  unfold dC at hp
  have hv : (m.votes.length : Int) < maj m.members := by omega
  refine BS_of (af := a74) rfl rfl ?_
  unfold a74
  dsimp only [List.map, ofPV, initEnv]
  repeat' (first | exact ps25 m.members (by omega) | (simp (maxSteps := 2000000) (disch := omega) only [go_sem, seval, reduceCtorEq, hp, hw1, hv, intsPV_length]) | with_reducible exact Ev.mk | apply x_call | ((first | apply x_split | apply x_splitg) <;> intro hβ hb <;> (try simp only [hβ]) <;> clear hβ))
  all_goals simp

theorem insGo_new (n : Int) : ∀ (l : List Int), n ∉ l → (insGo n l false).length = l.length + 1
  | [], _ => rfl
  | y :: r, h => by
    have e : ¬ y = n := fun e => h (by simp [e])
    have hr : n ∉ r := fun e => h (by simp [e])
    by_cases g : n ≤ y
    · have := insGo_done n r fun z hz e => hr (e ▸ hz)
      simp [insGo, g, e, this]
    · simp [insGo, g, e, insGo_new n r hr]

theorem ps41 (m : M) (f : Fl) (x : X) (q : Bool) (hm : MFew m) (hi : x.items.length ≤ 300) : ∃ g, PS tb 100 [.agg (mC m f), .agg (xC x q)] (.tuple [.agg (mC (countR m x) g), .slice true []]) := by
  have := hm.few1; have := hm.few2; have := hm.few3; have := hm.few4
  have hl1 : m.log.length ≤ 100000 := by omega
  have hl2 : m.votes.length ≤ 100000 := by omega
  have hl3 : m.next.length ≤ 100000 := by omega
  have hl4 : m.mtch.length ≤ 100000 := by omega
  cases hc : concernsX m x 2 with
  | false =>
    have hR : countR m x = m := by simp [countR, hc]
    refine ⟨⟨false, false, false, false⟩, ?_⟩
    rw [hR]
    refine PS_of (af := a100) rfl rfl ?_
    unfold a100
    dsimp only [List.map, ofPV, initEnv]
    repeat' (first | exact ps88 m f x q 2 hm.toMIn | exact bs83 m f _ _ (fresh_of rfl) hl1 hl2 hl3 hl4 | (simp (maxSteps := 2000000) (disch := omega) only [go_sem, seval, reduceCtorEq, mC, xC, rC, dC, itemsPV_length, intsPV_length, itemsPV_take, intsPV_take, List.take_length, hc]) | with_reducible exact Ev.mk | apply x_call | apply x_callr | ((first | apply x_split | apply x_splitg) <;> intro hβ hb <;> (try simp only [hβ]) <;> clear hβ))
    all_goals first | rfl | ((try simp (maxSteps := 2000000) (disch := omega) only [go_sem, seval, reduceCtorEq, mC, xC, rC, dC, itemsPV_length, intsPV_length, itemsPV_take, intsPV_take, List.take_length]) <;> rfl)
  | true =>
    by_cases ht : m.term < x.term
    · have hR : countR m x = followM m x.term := by simp [countR, hc, ht]
      refine ⟨⟨false, true, true, true⟩, ?_⟩
      rw [hR]
      refine PS_of (af := a100) rfl rfl ?_
      unfold a100
      dsimp only [List.map, ofPV, initEnv]
      repeat' (first | exact ps88 m f x q 2 hm.toMIn | exact bs83 m f _ _ (fresh_of rfl) hl1 hl2 hl3 hl4 | exact bs89 m 5 m.log.length _ _ _ _ _ _ _ rfl | (simp (maxSteps := 2000000) (disch := omega) only [go_sem, seval, reduceCtorEq, mC, xC, rC, dC, itemsPV_length, intsPV_length, itemsPV_take, intsPV_take, List.take_length, hc, ht]) | with_reducible exact Ev.mk | apply x_call | apply x_callr | ((first | apply x_split | apply x_splitg) <;> intro hβ hb <;> (try simp only [hβ]) <;> clear hβ))
      all_goals first | rfl | ((try simp (maxSteps := 2000000) (disch := omega) only [go_sem, seval, reduceCtorEq, mC, xC, rC, dC, itemsPV_length, intsPV_length, itemsPV_take, intsPV_take, List.take_length, followM]) <;> rfl)
    · by_cases h1 : x.term < m.term
      · have hR : countR m x = m := by simp [countR, hc, ht, h1]
        refine ⟨⟨false, false, false, false⟩, ?_⟩
        rw [hR]
        refine PS_of (af := a100) rfl rfl ?_
        unfold a100
        dsimp only [List.map, ofPV, initEnv]
        repeat' (first | exact ps88 m f x q 2 hm.toMIn | exact bs83 m f _ _ (fresh_of rfl) hl1 hl2 hl3 hl4 | (simp (maxSteps := 2000000) (disch := omega) only [go_sem, seval, reduceCtorEq, mC, xC, rC, dC, itemsPV_length, intsPV_length, itemsPV_take, intsPV_take, List.take_length, hc, ht, h1]) | with_reducible exact Ev.mk | apply x_call | apply x_callr | ((first | apply x_split | apply x_splitg) <;> intro hβ hb <;> (try simp only [hβ]) <;> clear hβ))
        all_goals first | rfl | ((try simp (maxSteps := 2000000) (disch := omega) only [go_sem, seval, reduceCtorEq, mC, xC, rC, dC, itemsPV_length, intsPV_length, itemsPV_take, intsPV_take, List.take_length]) <;> rfl)
      · by_cases h2 : m.role = 2
        · have h3 : (m.role != 2) = false := by simp [h2]
          cases h4 : x.ok with
          | false =>
            have h4n : (!x.ok) = true := by rw [h4]; rfl
            have hR : countR m x = m := by simp [countR, hc, ht, h4]
            refine ⟨⟨false, false, false, false⟩, ?_⟩
            rw [hR]
            refine PS_of (af := a100) rfl rfl ?_
            unfold a100
            dsimp only [List.map, ofPV, initEnv]
            repeat' (first | exact ps88 m f x q 2 hm.toMIn | exact bs83 m f _ _ (fresh_of rfl) hl1 hl2 hl3 hl4 | (simp (maxSteps := 2000000) (disch := omega) only [go_sem, seval, reduceCtorEq, mC, xC, rC, dC, itemsPV_length, intsPV_length, itemsPV_take, intsPV_take, List.take_length, hc, ht, h1, h3, h4n]) | with_reducible exact Ev.mk | apply x_call | apply x_callr | ((first | apply x_split | apply x_splitg) <;> intro hβ hb <;> (try simp only [hβ]) <;> clear hβ))
            all_goals first | rfl | ((try simp (maxSteps := 2000000) (disch := omega) only [go_sem, seval, reduceCtorEq, mC, xC, rC, dC, itemsPV_length, intsPV_length, itemsPV_take, intsPV_take, List.take_length]) <;> rfl)
          | true =>
            have h4n : (!x.ok) = false := by rw [h4]; rfl
            by_cases h5 : x.frm ∈ m.votes
            · have hR : countR m x = m := by simp [countR, hc, ht, h5]
              refine ⟨⟨false, false, false, false⟩, ?_⟩
              rw [hR]
              refine PS_of (af := a100) rfl rfl ?_
              unfold a100
              dsimp only [List.map, ofPV, initEnv]
              repeat' (first | exact ps88 m f x q 2 hm.toMIn | exact ps94 m.votes _ _ hl2 | exact bs83 m f _ _ (fresh_of rfl) hl1 hl2 hl3 hl4 | (simp (maxSteps := 2000000) (disch := omega) only [go_sem, seval, reduceCtorEq, mC, xC, rC, dC, itemsPV_length, intsPV_length, itemsPV_take, intsPV_take, List.take_length, hc, ht, h1, h3, h4n, h5, decide_true]) | with_reducible exact Ev.mk | apply x_call | apply x_callr | ((first | apply x_split | apply x_splitg) <;> intro hβ hb <;> (try simp only [hβ]) <;> clear hβ))
              all_goals first | rfl | ((try simp (maxSteps := 2000000) (disch := omega) only [go_sem, seval, reduceCtorEq, mC, xC, rC, dC, itemsPV_length, intsPV_length, itemsPV_take, intsPV_take, List.take_length]) <;> rfl)
            · obtain ⟨h6, h7, h8, h9⟩ := concerns_ok hc
              obtain ⟨hh, hr⟩ := (okM_iff m).1 h6
              have hv : okVotes m = true := by
                rcases hr with ⟨r, _⟩ | ⟨_, _, _, b, _⟩ | ⟨r, _⟩
                · omega
                · exact b
                · omega
              have hR : countR m x = wonM (withV m (insGo x.frm m.votes false)) := by simp [countR, hc, ht, h1, h2, h4, h5, withV]
              have up := votes_up hv
              have sz := insGo_new x.frm m.votes h5
              have hme : m.members ≤ 10000 := by have := hh.me2; omega
              have hid1 := hh.id1
              have hid2 := hh.id2
              have few : 1 ≤ m.votes.length ∧ m.votes.length ≤ 3 := by
                simp only [okVotes, Bool.and_eq_true, decide_eq_true_eq, List.any_eq_true] at hv
                obtain ⟨⟨_, y, hy, _⟩, hq⟩ := hv
                have := hh.me2; have := hh.me1
                refine ⟨List.length_pos_of_mem hy, ?_⟩
                have : maj m.members ≤ 4 := by unfold maj; split <;> omega
                omega
              have t1 : (m.votes ++ [x.frm]).take (m.votes.length + 1) = m.votes ++ [x.frm] := List.take_of_length_le (by simp)
              have t2 : (insGo x.frm m.votes false).take (m.votes.length + 1) = insGo x.frm m.votes false := List.take_of_length_le (by omega)
              have wl1 : (withV m (insGo x.frm m.votes false)).log = m.log := rfl
              have wl2 : (withV m (insGo x.frm m.votes false)).members = m.members := rfl
              have nl : (leadM (withV m (insGo x.frm m.votes false))).next.length = m.members.toNat := by simp [leadM, withV]
              have ml : (leadM (withV m (insGo x.frm m.votes false))).mtch.length = m.members.toNat := by simp [leadM, withV]
              have nt : (leadM (withV m (insGo x.frm m.votes false))).next.take m.members.toNat = (leadM (withV m (insGo x.frm m.votes false))).next := List.take_of_length_le (by omega)
              have mt : (leadM (withV m (insGo x.frm m.votes false))).mtch.take m.members.toNat = (leadM (withV m (insGo x.frm m.votes false))).mtch := List.take_of_length_le (by omega)
              by_cases hw : maj m.members ≤ ((insGo x.frm m.votes false).length : Int)
              · have hwon : wonM (withV m (insGo x.frm m.votes false)) = leadM (withV m (insGo x.frm m.votes false)) := if_pos hw
                refine ⟨⟨false, true, false, false⟩, ?_⟩
                rw [hR, hwon]
                refine PS_of (af := a100) rfl rfl ?_
                unfold a100
                dsimp only [List.map, ofPV, initEnv]
                repeat' (first | exact ps88 m f x q 2 hm.toMIn | exact ps94 m.votes _ _ hl2 | exact bs83 m f _ _ (fresh_of rfl) hl1 hl2 hl3 hl4 | exact bs95 m.votes x.frm up h5 few.1 _ 6 _ rfl few.2 | exact bs84c (withV m (insGo x.frm m.votes false)) 5 6 _ _ _ _ _ _ rfl rfl (fresh_of rfl) rfl sz.symm hme hid1 hid2 hl1 hw | (simp (maxSteps := 2000000) (disch := omega) only [go_sem, seval, reduceCtorEq, mC, xC, rC, dC, itemsPV_length, intsPV_length, itemsPV_take, intsPV_take, List.take_length, hc, ht, h1, h3, h4n, h5, decide_false, t1, t2, intsPV_sing, intsPV_append, intsPV_sz, List.length_append, maxB]) | with_reducible exact Ev.mk | apply x_call | apply x_callr | ((first | apply x_split | apply x_splitg) <;> intro hβ hb <;> (try simp only [hβ]) <;> clear hβ))
                all_goals first | rfl | ((try simp (maxSteps := 2000000) (disch := omega) only [go_sem, seval, reduceCtorEq, mC, xC, rC, dC, itemsPV_length, intsPV_length, itemsPV_take, intsPV_take, List.take_length, wl1, wl2, nl, ml, nt, mt, t2, sz]) <;> rfl)
              · have hwon : wonM (withV m (insGo x.frm m.votes false)) = (withV m (insGo x.frm m.votes false)) := if_neg hw
                refine ⟨⟨false, false, false, false⟩, ?_⟩
                rw [hR, hwon]
                refine PS_of (af := a100) rfl rfl ?_
                unfold a100
                dsimp only [List.map, ofPV, initEnv]
                repeat' (first | exact ps88 m f x q 2 hm.toMIn | exact ps94 m.votes _ _ hl2 | exact bs83 m f _ _ (fresh_of rfl) hl1 hl2 hl3 hl4 | exact bs95 m.votes x.frm up h5 few.1 _ 6 _ rfl few.2 | exact bs84d (withV m (insGo x.frm m.votes false)) 5 6 _ _ _ _ _ _ rfl rfl sz.symm hme hw | (simp (maxSteps := 2000000) (disch := omega) only [go_sem, seval, reduceCtorEq, mC, xC, rC, dC, itemsPV_length, intsPV_length, itemsPV_take, intsPV_take, List.take_length, hc, ht, h1, h3, h4n, h5, decide_false, t1, t2, intsPV_sing, intsPV_append, intsPV_sz, List.length_append, maxB]) | with_reducible exact Ev.mk | apply x_call | apply x_callr | ((first | apply x_split | apply x_splitg) <;> intro hβ hb <;> (try simp only [hβ]) <;> clear hβ))
                all_goals first | rfl | ((try simp (maxSteps := 2000000) (disch := omega) only [go_sem, seval, reduceCtorEq, mC, xC, rC, dC, itemsPV_length, intsPV_length, itemsPV_take, intsPV_take, List.take_length, t2, sz, withV]) <;> rfl)
        · have h3 : (m.role != 2) = true := by simp [h2]
          have hR : countR m x = m := by simp [countR, hc, ht, h2]
          refine ⟨⟨false, false, false, false⟩, ?_⟩
          rw [hR]
          refine PS_of (af := a100) rfl rfl ?_
          unfold a100
          dsimp only [List.map, ofPV, initEnv]
          repeat' (first | exact ps88 m f x q 2 hm.toMIn | exact bs83 m f _ _ (fresh_of rfl) hl1 hl2 hl3 hl4 | (simp (maxSteps := 2000000) (disch := omega) only [go_sem, seval, reduceCtorEq, mC, xC, rC, dC, itemsPV_length, intsPV_length, itemsPV_take, intsPV_take, List.take_length, hc, ht, h1, h3]) | with_reducible exact Ev.mk | apply x_call | apply x_callr | ((first | apply x_split | apply x_splitg) <;> intro hβ hb <;> (try simp only [hβ]) <;> clear hβ))
          all_goals first | rfl | ((try simp (maxSteps := 2000000) (disch := omega) only [go_sem, seval, reduceCtorEq, mC, xC, rC, dC, itemsPV_length, intsPV_length, itemsPV_take, intsPV_take, List.take_length]) <;> rfl)

end Go.Dv.Tryz
