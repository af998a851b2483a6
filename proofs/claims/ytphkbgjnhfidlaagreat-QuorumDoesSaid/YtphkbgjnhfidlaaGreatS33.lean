/-
  Specifications of the functions of this claim, parts 33.
-/
import Derived.Test.YtphkbgjnhfidlaaGreatTab
import Derived.Test.YtphkbgjnhfidlaaGreatStep
import Derived.Test.YtphkbgjnhfidlaaGreatS1
import Derived.Test.YtphkbgjnhfidlaaGreatS7
import Derived.Test.YtphkbgjnhfidlaaGreatS8
import Derived.Test.YtphkbgjnhfidlaaGreatS12
import Derived.Test.YtphkbgjnhfidlaaGreatS24
import Derived.Test.YtphkbgjnhfidlaaGreatS30
set_option linter.unusedVariables false
set_option linter.unusedSimpArgs false
set_option maxRecDepth 100000
set_option maxHeartbeats 16000000
namespace Go.Dv.Tryz
open Go Go.Dv

def h32w (m c : M) (k : Nat) : Heap := [(11, .row false 9 (rowsT (asksN c k))), (10, .row false 1 (intsPV (leadM c).mtch)), (9, .row false 1 (intsPV (leadM c).next)), (8, .var false (dC (leadM c) (.ref 4 m.log.length 0 m.log.length) (.p (.slice true [])) (.ref 9 m.members.toNat 0 m.members.toNat) (.ref 10 m.members.toNat 0 m.members.toNat))), (7, .row false 1 (intsPV m.mtch)), (6, .row false 1 (intsPV m.next)), (5, .row false 1 (intsPV m.votes)), (4, .row false 2 (itemsPV m.log)), (3, .var false (rC m 2)), (2, .var false (rC m 2)), (1, .var false (zC.map .p))]

theorem l32w (m c : M) (hme : m.members ≤ 100) (hl : m.log.length ≤ 100000) (h1 : c.id = m.id) (h2 : c.log = m.log) (h3 : c.members = m.members) (K : Ex → St → Prop)
    (hx : K (.exit 0) ⟨[(2, .ptr 1 0), (4, .ptr 8 0), (5, .ref 11 (asksN c m.members.toNat).length 0 (asksN c m.members.toNat).length)], h32w m c m.members.toNat, 12, [0]⟩) :
    ∀ (n k : Nat), k + n = m.members.toNat →
    W tb a37_l0 ⟨[(2, .ptr 1 0), (4, .ptr 8 0), (5, .ref 11 (asksN c k).length 0 (asksN c k).length), (6, .p (.int .i64 (k + 1 : Nat)))], h32w m c k, 12, [0]⟩ (LK tb (.ghost (.free [1]) (.ghost .lower a37_l0)) K) := by
  intro n
  induction n with
  | zero =>
    intro k hk
    have g1 : ¬ ((k + 1 : Nat) : Int) ≤ c.members := by omega
    have e : k = m.members.toNat := by omega
    refine i_code (by unfold a37_l0; exact rfl) ?_
    repeat' (first | (simp (maxSteps := 2000000) (disch := omega) only [go_sem, seval, reduceCtorEq, g1, h32w, zC, mC, rC, dC, itemsPV_length, intsPV_length, itemsPV_take, intsPV_take, List.take_length, leadM]) | with_reducible exact Ev.mk | ((first | apply x_split | apply x_splitg) <;> intro hβ hb <;> (try simp only [hβ]) <;> clear hβ))
    subst e
    exact hx
  | succ n ih =>
    intro k hk
    have g1 : ((k + 1 : Nat) : Int) ≤ c.members := by omega
    have bl := asksN_length c k
    have := ih (k + 1) (by omega)
    refine i_code (by unfold a37_l0; exact rfl) ?_
    by_cases e : ((k + 1 : Nat) : Int) = c.id
    · have e1 : (((k + 1 : Nat) : Int) != c.id) = false := by simpa using e
      simp only [h32w] at this
      rw [asksN, if_pos e] at this
      repeat' (first | (simp (maxSteps := 2000000) (disch := omega) only [go_sem, seval, reduceCtorEq, g1, e1, h32w, zC, mC, rC, dC, itemsPV_length, intsPV_length, itemsPV_take, intsPV_take, List.take_length, leadM]) | with_reducible exact Ev.mk | ((first | apply x_split | apply x_splitg) <;> intro hβ hb <;> (try simp only [hβ]) <;> clear hβ))
      refine i_lk (W_round ?_)
      (try simp (maxSteps := 2000000) (disch := omega) only [go_sem, seval, reduceCtorEq, zC, mC, rC, dC, itemsPV_length, intsPV_length, itemsPV_take, intsPV_take, List.take_length, leadM])
      exact this
    · have e1 : (((k + 1 : Nat) : Int) != c.id) = true := by simpa using e
      simp only [h32w] at this
      rw [asksN, if_neg e] at this
      simp only [askX, h2, List.length_append, List.length_cons, List.length_nil, Nat.zero_add] at this
      repeat' (first | exact ps81 m.log _ hl | (simp (maxSteps := 2000000) (disch := omega) only [go_sem, seval, reduceCtorEq, g1, e1, h32w, zC, mC, rC, dC, itemsPV_length, intsPV_length, itemsPV_take, intsPV_take, List.take_length, leadM, rowsT_sing, rowsT_sz, rowsT_append, rowsT_length, List.length_append, maxB]) | with_reducible exact Ev.mk | apply x_call | ((first | apply x_split | apply x_splitg) <;> intro hβ hb <;> (try simp only [hβ]) <;> clear hβ))
      refine i_lk (W_round ?_)
      (try simp (maxSteps := 2000000) (disch := omega) only [go_sem, seval, reduceCtorEq, zC, mC, rC, dC, itemsPV_length, intsPV_length, itemsPV_take, intsPV_take, List.take_length, leadM])
      exact this

def h32n (m c : M) (k : Nat) : Heap := [(9, .row false 9 (rowsT (asksN c k))), (8, .var false (dC c (.ref 4 m.log.length 0 m.log.length) (.p (.slice true [[.int .i64 m.id]])) (.ref 6 m.next.length 0 m.next.length) (.ref 7 m.mtch.length 0 m.mtch.length))), (7, .row false 1 (intsPV m.mtch)), (6, .row false 1 (intsPV m.next)), (5, .row false 1 (intsPV m.votes)), (4, .row false 2 (itemsPV m.log)), (3, .var false (rC m 2)), (2, .var false (rC m 2)), (1, .var false (zC.map .p))]

theorem l32n (m c : M) (hme : m.members ≤ 100) (hl : m.log.length ≤ 100000) (h1 : c.id = m.id) (h2 : c.log = m.log) (h3 : c.members = m.members) (K : Ex → St → Prop)
    (hx : K (.exit 0) ⟨[(2, .ptr 1 0), (4, .ptr 8 0), (5, .ref 9 (asksN c m.members.toNat).length 0 (asksN c m.members.toNat).length)], h32n m c m.members.toNat, 10, [0]⟩) :
    ∀ (n k : Nat), k + n = m.members.toNat →
    W tb a37_l0 ⟨[(2, .ptr 1 0), (4, .ptr 8 0), (5, .ref 9 (asksN c k).length 0 (asksN c k).length), (6, .p (.int .i64 (k + 1 : Nat)))], h32n m c k, 10, [0]⟩ (LK tb (.ghost (.free [1]) (.ghost .lower a37_l0)) K) := by
  intro n
  induction n with
  | zero =>
    intro k hk
    have g1 : ¬ ((k + 1 : Nat) : Int) ≤ c.members := by omega
    have e : k = m.members.toNat := by omega
    refine i_code (by unfold a37_l0; exact rfl) ?_
    repeat' (first | (simp (maxSteps := 2000000) (disch := omega) only [go_sem, seval, reduceCtorEq, g1, h32n, zC, mC, rC, dC, itemsPV_length, intsPV_length, itemsPV_take, intsPV_take, List.take_length]) | with_reducible exact Ev.mk | ((first | apply x_split | apply x_splitg) <;> intro hβ hb <;> (try simp only [hβ]) <;> clear hβ))
    subst e
    exact hx
  | succ n ih =>
    intro k hk
    have g1 : ((k + 1 : Nat) : Int) ≤ c.members := by omega
    have bl := asksN_length c k
    have := ih (k + 1) (by omega)
    refine i_code (by unfold a37_l0; exact rfl) ?_
    by_cases e : ((k + 1 : Nat) : Int) = c.id
    · have e1 : (((k + 1 : Nat) : Int) != c.id) = false := by simpa using e
      simp only [h32n] at this
      rw [asksN, if_pos e] at this
      repeat' (first | (simp (maxSteps := 2000000) (disch := omega) only [go_sem, seval, reduceCtorEq, g1, e1, h32n, zC, mC, rC, dC, itemsPV_length, intsPV_length, itemsPV_take, intsPV_take, List.take_length]) | with_reducible exact Ev.mk | ((first | apply x_split | apply x_splitg) <;> intro hβ hb <;> (try simp only [hβ]) <;> clear hβ))
      refine i_lk (W_round ?_)
      (try simp (maxSteps := 2000000) (disch := omega) only [go_sem, seval, reduceCtorEq, zC, mC, rC, dC, itemsPV_length, intsPV_length, itemsPV_take, intsPV_take, List.take_length])
      exact this
    · have e1 : (((k + 1 : Nat) : Int) != c.id) = true := by simpa using e
      simp only [h32n] at this
      rw [asksN, if_neg e] at this
      simp only [askX, h2, List.length_append, List.length_cons, List.length_nil, Nat.zero_add] at this
      repeat' (first | exact ps81 m.log _ hl | (simp (maxSteps := 2000000) (disch := omega) only [go_sem, seval, reduceCtorEq, g1, e1, h32n, zC, mC, rC, dC, itemsPV_length, intsPV_length, itemsPV_take, intsPV_take, List.take_length, rowsT_sing, rowsT_sz, rowsT_append, rowsT_length, List.length_append, maxB]) | with_reducible exact Ev.mk | apply x_call | ((first | apply x_split | apply x_splitg) <;> intro hβ hb <;> (try simp only [hβ]) <;> clear hβ))
      refine i_lk (W_round ?_)
      (try simp (maxSteps := 2000000) (disch := omega) only [go_sem, seval, reduceCtorEq, zC, mC, rC, dC, itemsPV_length, intsPV_length, itemsPV_take, intsPV_take, List.take_length])
      exact this

theorem ps32 (m : M) (f : Fl) (hm : MFew m) : ∃ g b, PS tb 37 [.agg (mC m f)] (.tuple [.agg (mC (timeoutR m).1 g), .slice b (rowsT (timeoutR m).2)]) := by
  have := hm.few1; have := hm.few2; have := hm.few3; have := hm.few4
  have hl1 : m.log.length ≤ 100000 := by omega
  have hl2 : m.votes.length ≤ 100000 := by omega
  have hl3 : m.next.length ≤ 100000 := by omega
  have hl4 : m.mtch.length ≤ 100000 := by omega
  by_cases ho : okM m = true
  · by_cases hr : m.role = 3
    · have hR : timeoutR m = (m, []) := if_neg fun h => h.2.1 hr
      have hr2 : (m.role == 3) = true := by simpa using hr
      refine ⟨⟨false, false, false, false⟩, true, ?_⟩
      rw [hR]
      refine PS_of (af := a37) rfl rfl ?_
      unfold a37
      dsimp only [List.map, ofPV, initEnv]
      repeat' (first | exact ps28 m f hm.toMIn | exact bs83 m f _ _ (fresh_of rfl) hl1 hl2 hl3 hl4 | (simp (maxSteps := 2000000) (disch := omega) only [go_sem, seval, reduceCtorEq, mC, rC, dC, itemsPV_length, intsPV_length, itemsPV_take, intsPV_take, List.take_length, ho, hr2]) | with_reducible exact Ev.mk | apply x_call | apply x_callr | ((first | apply x_split | apply x_splitg) <;> intro hβ hb <;> (try simp only [hβ]) <;> clear hβ))
      all_goals first | rfl | ((try simp (maxSteps := 2000000) (disch := omega) only [go_sem, seval, reduceCtorEq, mC, rC, dC, itemsPV_length, intsPV_length, itemsPV_take, intsPV_take, List.take_length]) <;> rfl)
    · have hr2 : (m.role == 3) = false := by simpa using hr
      by_cases ht : m.term = 1099511627776
      · have hR : timeoutR m = (m, []) := if_neg fun h => h.2.2 ht
        have ht2 : (m.term == 1099511627776) = true := by simpa using ht
        refine ⟨⟨false, false, false, false⟩, true, ?_⟩
        rw [hR]
        refine PS_of (af := a37) rfl rfl ?_
        unfold a37
        dsimp only [List.map, ofPV, initEnv]
        repeat' (first | exact ps28 m f hm.toMIn | exact bs83 m f _ _ (fresh_of rfl) hl1 hl2 hl3 hl4 | (simp (maxSteps := 2000000) (disch := omega) only [go_sem, seval, reduceCtorEq, mC, rC, dC, itemsPV_length, intsPV_length, itemsPV_take, intsPV_take, List.take_length, ho, hr2, ht2]) | with_reducible exact Ev.mk | apply x_call | apply x_callr | ((first | apply x_split | apply x_splitg) <;> intro hβ hb <;> (try simp only [hβ]) <;> clear hβ))
        all_goals first | rfl | ((try simp (maxSteps := 2000000) (disch := omega) only [go_sem, seval, reduceCtorEq, mC, rC, dC, itemsPV_length, intsPV_length, itemsPV_take, intsPV_take, List.take_length]) <;> rfl)
      · have hR : timeoutR m = (wonM (candM m), asks (candM m)) := if_pos ⟨ho, hr, ht⟩
        have ht2 : (m.term == 1099511627776) = false := by simpa using ht
        obtain ⟨hh, _⟩ := (okM_iff m).1 ho
        have := hh.te1; have := hh.te2; have := hh.me2; have := hh.id1; have := hh.me1
        have hme : m.members ≤ 10000 := by omega
        have hmt : m.term ≤ 1099511627776 := hh.te2
        have hid1 := hh.id1
        have hid2 := hh.id2
        have al := asksN_length (candM m) m.members.toNat
        have ae : asks (candM m) = asksN (candM m) m.members.toNat := rfl
        have nl : (leadM (candM m)).next.length = m.members.toNat := by simp [leadM, candM]
        have ml : (leadM (candM m)).mtch.length = m.members.toNat := by simp [leadM, candM]
        have nt : (leadM (candM m)).next.take m.members.toNat = (leadM (candM m)).next := List.take_of_length_le (by omega)
        have mt : (leadM (candM m)).mtch.take m.members.toNat = (leadM (candM m)).mtch := List.take_of_length_le (by omega)
        by_cases hw : maj m.members ≤ ((1 : Nat) : Int)
        · have hwon : wonM (candM m) = leadM (candM m) := if_pos hw
          refine ⟨⟨false, true, false, false⟩, false, ?_⟩
          rw [hR, hwon, ae]
          refine PS_of (af := a37) rfl rfl ?_
          unfold a37
          dsimp only [List.map, ofPV, initEnv]
          repeat' (first | exact ps28 m f hm.toMIn | exact bs83 m f _ _ (fresh_of rfl) hl1 hl2 hl3 hl4 | exact bs84a (candM m) 4 _ _ _ _ _ _ rfl rfl (fresh_of rfl) hme hid1 hid2 hl1 hw | (simp (maxSteps := 2000000) (disch := omega) only [go_sem, seval, reduceCtorEq, mC, rC, dC, itemsPV_length, intsPV_length, itemsPV_take, intsPV_take, List.take_length, ho, hr2, ht2]) | with_reducible exact Ev.mk | apply x_call | apply x_callr | ((first | apply x_split | apply x_splitg) <;> intro hβ hb <;> (try simp only [hβ]) <;> clear hβ))
          refine W_round ?_
          (try simp (maxSteps := 2000000) (disch := omega) only [go_sem, seval, reduceCtorEq, mC, rC, dC, itemsPV_length, intsPV_length, itemsPV_take, intsPV_take, List.take_length, zC])
          refine l32w m (candM m) (by omega) hl1 rfl rfl rfl _ ?_ m.members.toNat 0 (Nat.zero_add _)
          repeat' (first | (simp (maxSteps := 2000000) (disch := omega) only [go_sem, seval, reduceCtorEq, mC, rC, dC, itemsPV_length, intsPV_length, itemsPV_take, intsPV_take, List.take_length, h32w, zC, nl, ml, nt, mt, rowsT_length, rowsT_take]) | with_reducible exact Ev.mk | ((first | apply x_split | apply x_splitg) <;> intro hβ hb <;> (try simp only [hβ]) <;> clear hβ))
          all_goals first | rfl | ((try simp (maxSteps := 2000000) (disch := omega) only [go_sem, seval, reduceCtorEq, mC, rC, dC, itemsPV_length, intsPV_length, itemsPV_take, intsPV_take, List.take_length, nl, ml, nt, mt, rowsT_length, rowsT_take]) <;> rfl)
        · have hwon : wonM (candM m) = candM m := if_neg hw
          refine ⟨⟨false, true, false, false⟩, false, ?_⟩
          rw [hR, hwon, ae]
          refine PS_of (af := a37) rfl rfl ?_
          unfold a37
          dsimp only [List.map, ofPV, initEnv]
          repeat' (first | exact ps28 m f hm.toMIn | exact bs83 m f _ _ (fresh_of rfl) hl1 hl2 hl3 hl4 | exact bs84b (candM m) 4 _ _ _ _ _ _ rfl hme hw | (simp (maxSteps := 2000000) (disch := omega) only [go_sem, seval, reduceCtorEq, mC, rC, dC, itemsPV_length, intsPV_length, itemsPV_take, intsPV_take, List.take_length, ho, hr2, ht2]) | with_reducible exact Ev.mk | apply x_call | apply x_callr | ((first | apply x_split | apply x_splitg) <;> intro hβ hb <;> (try simp only [hβ]) <;> clear hβ))
          refine W_round ?_
          (try simp (maxSteps := 2000000) (disch := omega) only [go_sem, seval, reduceCtorEq, mC, rC, dC, itemsPV_length, intsPV_length, itemsPV_take, intsPV_take, List.take_length, zC])
          refine l32n m (candM m) (by omega) hl1 rfl rfl rfl _ ?_ m.members.toNat 0 (Nat.zero_add _)
          repeat' (first | (simp (maxSteps := 2000000) (disch := omega) only [go_sem, seval, reduceCtorEq, mC, rC, dC, itemsPV_length, intsPV_length, itemsPV_take, intsPV_take, List.take_length, h32n, zC, rowsT_length, rowsT_take]) | with_reducible exact Ev.mk | ((first | apply x_split | apply x_splitg) <;> intro hβ hb <;> (try simp only [hβ]) <;> clear hβ))
          all_goals first | rfl | ((try simp (maxSteps := 2000000) (disch := omega) only [go_sem, seval, reduceCtorEq, mC, rC, dC, itemsPV_length, intsPV_length, itemsPV_take, intsPV_take, List.take_length, rowsT_length, rowsT_take]) <;> rfl)
  · have hR : timeoutR m = (m, []) := if_neg fun h => ho h.1
    have ho2 : okM m = false := by simpa using ho
    refine ⟨⟨false, false, false, false⟩, true, ?_⟩
    rw [hR]
    refine PS_of (af := a37) rfl rfl ?_
    unfold a37
    dsimp only [List.map, ofPV, initEnv]
    repeat' (first | exact ps28 m f hm.toMIn | exact bs83 m f _ _ (fresh_of rfl) hl1 hl2 hl3 hl4 | (simp (maxSteps := 2000000) (disch := omega) only [go_sem, seval, reduceCtorEq, mC, rC, dC, itemsPV_length, intsPV_length, itemsPV_take, intsPV_take, List.take_length, ho2]) | with_reducible exact Ev.mk | apply x_call | apply x_callr | ((first | apply x_split | apply x_splitg) <;> intro hβ hb <;> (try simp only [hβ]) <;> clear hβ))
    all_goals first | rfl | ((try simp (maxSteps := 2000000) (disch := omega) only [go_sem, seval, reduceCtorEq, mC, rC, dC, itemsPV_length, intsPV_length, itemsPV_take, intsPV_take, List.take_length]) <;> rfl)

end Go.Dv.Tryz
