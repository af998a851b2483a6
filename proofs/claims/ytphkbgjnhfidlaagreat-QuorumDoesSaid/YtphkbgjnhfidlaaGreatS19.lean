/-
  Specifications of the functions of this claim, parts 19.
-/
import Derived.Test.YtphkbgjnhfidlaaGreatTab
import Derived.Test.YtphkbgjnhfidlaaGreatStep
import Derived.Test.YtphkbgjnhfidlaaGreatS1
import Derived.Test.YtphkbgjnhfidlaaGreatS8
import Derived.Test.YtphkbgjnhfidlaaGreatS12
import Derived.Test.YtphkbgjnhfidlaaGreatS16
import Derived.Test.YtphkbgjnhfidlaaGreatS17
import Derived.Test.YtphkbgjnhfidlaaGreatS18
set_option linter.unusedVariables false
set_option linter.unusedSimpArgs false
set_option maxRecDepth 100000
set_option maxHeartbeats 16000000
namespace Go.Dv.Tryz
open Go Go.Dv

theorem ps103' (l more : List (Int × ByteArray)) (b c : Bool) (n : Int) (h0 : 0 ≤ n) (hn : n ≤ (l.length : Int)) (hl : l.length ≤ 100000) (hm : more.length ≤ 100000) :
    PS tb 89 [.slice b (itemsPV l), .int .i64 n, .slice c (itemsPV more)] (.slice false (itemsPV (l.take n.toNat ++ more))) := by
  obtain ⟨k, rfl⟩ := Int.eq_ofNat_of_zero_le h0
  exact ps103 l more b c k (by omega) hl hm

theorem l53 (m : M) (g : Fl) (x : X) (q : Bool) (i0 : 0 ≤ x.index) (i1 : x.index ≤ 1099511627776) (hl : x.items.length ≤ 100000) (hg : m.log.length ≤ 100000) (K : Ex → St → Prop)
    (hx : K (.exit 0) ⟨[(2, .ptr 0 0), (3, .ptr 1 0), (4, .ptr 2 0), (6, .p (.int .i64 (sameN m.log x.index.toNat x.items)))], [(2, .var false (zC.map .p)), (1, .var false ((xC x q).map .p)), (0, .var false ((mC m g).map .p))], 3, [0]⟩) :
    ∀ (n i : Nat), i + n = x.items.length → sameN m.log x.index.toNat x.items = i + sameN m.log (x.index.toNat + i) (x.items.drop i) →
    W tb a109_l0 ⟨[(2, .ptr 0 0), (3, .ptr 1 0), (4, .ptr 2 0), (6, .p (.int .i64 i))], [(2, .var false (zC.map .p)), (1, .var false ((xC x q).map .p)), (0, .var false ((mC m g).map .p))], 3, [0]⟩ (LK tb (.ghost .lower a109_l0) K) := by
  intro n
  induction n with
  | zero =>
    intro i hi he
    have h1 : ¬ (i : Int) < x.items.length := by omega
    rw [sameN_end (by omega), Nat.add_zero] at he
    rw [he] at hx
    refine i_code (by unfold a109_l0; exact rfl) ?_
    repeat' (first | (simp (disch := omega) only [go_sem, seval, reduceCtorEq, h1, itemsPV_length, mC, xC, zC]) | with_reducible exact Ev.mk | ((first | apply x_split | apply x_splitg) <;> intro hβ hb <;> (try simp only [hβ]) <;> clear hβ))
    exact hx
  | succ n ih =>
    intro i hi he
    have h1 : (i : Int) < x.items.length := by omega
    have h2 : i < x.items.length := by omega
    have h3 := itemsPV_get x.items i h2
    have h4 : (0 : Int) ≤ i := by omega
    have h5 : x.index + (i : Int) = ((x.index.toNat + i : Nat) : Int) := by omega
    have h6 : (0 : Int) ≤ ((x.index.toNat + i : Nat) : Int) := by omega
    refine i_code (by unfold a109_l0; exact rfl) ?_
    by_cases g : x.index.toNat + i < m.log.length
    · have g1 : ((x.index.toNat + i : Nat) : Int) < (m.log.length : Int) := by omega
      have g2 := itemsPV_get m.log (x.index.toNat + i) g
      cases hq : (m.log[x.index.toNat + i].1 == x.items[i].1) with
      | false =>
        rw [sameN_no g h2 (by simp [sameIt, hq]), Nat.add_zero] at he
        rw [he] at hx
        repeat' (first | (simp (disch := omega) only [go_sem, seval, reduceCtorEq, h1, h3, h4, h5, h6, g1, g2, hq, itemPV, itemsPV_length, mC, xC, zC]) | with_reducible exact Ev.mk | ((first | apply x_split | apply x_splitg) <;> intro hβ hb <;> (try simp only [hβ]) <;> clear hβ))
        exact hx
      | true =>
        cases hw : (m.log[x.index.toNat + i].2.toList == x.items[i].2.toList) with
        | false =>
          rw [sameN_no g h2 (by simp only [sameIt, hq, hw]; rfl), Nat.add_zero] at he
          rw [he] at hx
          repeat' (first | (simp (disch := omega) only [go_sem, seval, reduceCtorEq, h1, h3, h4, h5, h6, g1, g2, hq, hw, itemPV, itemsPV_length, mC, xC, zC]) | with_reducible exact Ev.mk | ((first | apply x_split | apply x_splitg) <;> intro hβ hb <;> (try simp only [hβ]) <;> clear hβ))
          exact hx
        | true =>
          rw [sameN_yes g h2 (by simp only [sameIt, hq, hw]; rfl)] at he
          repeat' (first | (simp (disch := omega) only [go_sem, seval, reduceCtorEq, h1, h3, h4, h5, h6, g1, g2, hq, hw, itemPV, itemsPV_length, mC, xC, zC]) | with_reducible exact Ev.mk | ((first | apply x_split | apply x_splitg) <;> intro hβ hb <;> (try simp only [hβ]) <;> clear hβ))
          refine i_lk (W_round ?_)
          (try simp (disch := omega) only [go_sem, seval, reduceCtorEq, mC, xC, zC])
          exact ih (i + 1) (by omega) (by rw [he]; rw [Nat.add_assoc x.index.toNat i 1]; omega)
    · have g1 : ¬ ((x.index.toNat + i : Nat) : Int) < (m.log.length : Int) := by omega
      rw [sameN_out (by omega), Nat.add_zero] at he
      rw [he] at hx
      repeat' (first | (simp (disch := omega) only [go_sem, seval, reduceCtorEq, h1, h3, h4, h5, h6, g1, itemPV, itemsPV_length, mC, xC, zC]) | with_reducible exact Ev.mk | ((first | apply x_split | apply x_splitg) <;> intro hβ hb <;> (try simp only [hβ]) <;> clear hβ))
      exact hx

theorem ps53a (m : M) (f : Fl) (x : X) (q : Bool) (hm : MFew m) (hi : x.items.length ≤ 300) (hc : concernsX m x 3 = false) : ∃ g, PS tb 109 [.agg (mC m f), .agg (xC x q)] (.tuple [.agg (mC (appR m x).1 g), .slice true (optRows true (appR m x).2)]) := by
  have := hm.few1; have := hm.few2; have := hm.few3; have := hm.few4
  have hR : appR m x = (m, none) := by simp [appR, hc]
  refine ⟨f, ?_⟩
  rw [hR]
  refine PS_of (af := a109) rfl rfl ?_
  unfold a109
  dsimp only [List.map, ofPV, initEnv]
  repeat' (first | exact ps112 m f x q 3 hm.toMIn (by omega) | (simp (disch := omega) only [go_sem, seval, reduceCtorEq, mC, xC, intPV, itemsPV_length, intsPV_length, itemsPV_take, intsPV_take, List.take_length, hc]) | with_reducible exact Ev.mk | apply x_call | ((first | apply x_split | apply x_splitg) <;> intro hβ hb <;> (try simp only [hβ]) <;> clear hβ))
  all_goals ((try simp (disch := omega) only [go_sem, seval, reduceCtorEq, mC, xC, intPV, itemsPV_length, intsPV_length, itemsPV_take, intsPV_take, List.take_length, zC, optRows, replyX, baseC, withLog, withCom, intsPV_nil, itemsPV_nil]) <;> rfl)

theorem ps53b (m : M) (f : Fl) (x : X) (q : Bool) (hm : MFew m) (hi : x.items.length ≤ 300) (hc : concernsX m x 3 = true) (ht : x.term < m.term) : ∃ g, PS tb 109 [.agg (mC m f), .agg (xC x q)] (.tuple [.agg (mC (appR m x).1 g), .slice true (optRows true (appR m x).2)]) := by
  have := hm.few1; have := hm.few2; have := hm.few3; have := hm.few4
  have hR : appR m x = (m, some (replyX m x.frm 0 false)) := by simp [appR, hc, ht]
  refine ⟨f, ?_⟩
  rw [hR]
  refine PS_of (af := a109) rfl rfl ?_
  unfold a109
  dsimp only [List.map, ofPV, initEnv]
  repeat' (first | exact ps112 m f x q 3 hm.toMIn (by omega) | exact ps113 m f _ _ _ | (simp (disch := omega) only [go_sem, seval, reduceCtorEq, mC, xC, intPV, itemsPV_length, intsPV_length, itemsPV_take, intsPV_take, List.take_length, hc, ht]) | with_reducible exact Ev.mk | apply x_call | ((first | apply x_split | apply x_splitg) <;> intro hβ hb <;> (try simp only [hβ]) <;> clear hβ))
  all_goals ((try simp (disch := omega) only [go_sem, seval, reduceCtorEq, mC, xC, intPV, itemsPV_length, intsPV_length, itemsPV_take, intsPV_take, List.take_length, zC, optRows, replyX, baseC, withLog, withCom, intsPV_nil, itemsPV_nil]) <;> rfl)

theorem ps53c (m : M) (f : Fl) (x : X) (q : Bool) (hm : MFew m) (hi : x.items.length ≤ 300) (hc : concernsX m x 3 = true) (ht : ¬ x.term < m.term) (hu : ¬ m.term < x.term) (hr : m.role = 3) : ∃ g, PS tb 109 [.agg (mC m f), .agg (xC x q)] (.tuple [.agg (mC (appR m x).1 g), .slice true (optRows true (appR m x).2)]) := by
  have := hm.few1; have := hm.few2; have := hm.few3; have := hm.few4
  have hr2 : (m.role == 3) = true := by simp [hr]
  have hR : appR m x = (m, none) := by simp [appR, app1, hc, ht, hu, hr]
  refine ⟨f, ?_⟩
  rw [hR]
  refine PS_of (af := a109) rfl rfl ?_
  unfold a109
  dsimp only [List.map, ofPV, initEnv]
  repeat' (first | exact ps112 m f x q 3 hm.toMIn (by omega) | (simp (disch := omega) only [go_sem, seval, reduceCtorEq, mC, xC, intPV, itemsPV_length, intsPV_length, itemsPV_take, intsPV_take, List.take_length, hc, ht, hu, hr2]) | with_reducible exact Ev.mk | apply x_call | ((first | apply x_split | apply x_splitg) <;> intro hβ hb <;> (try simp only [hβ]) <;> clear hβ))
  all_goals ((try simp (disch := omega) only [go_sem, seval, reduceCtorEq, mC, xC, intPV, itemsPV_length, intsPV_length, itemsPV_take, intsPV_take, List.take_length, zC, optRows, replyX, baseC, withLog, withCom, intsPV_nil, itemsPV_nil]) <;> rfl)

theorem ps53A1 (m : M) (f : Fl) (x : X) (q : Bool) (hm : MFew m) (hi : x.items.length ≤ 300) (hc : concernsX m x 3 = true) (ht : ¬ x.term < m.term) (hu : m.term < x.term) (hk : (m.log.length : Int) < x.index) : ∃ g, PS tb 109 [.agg (mC m f), .agg (xC x q)] (.tuple [.agg (mC (appR m x).1 g), .slice true (optRows true (appR m x).2)]) := by
  have := hm.few1; have := hm.few2; have := hm.few3; have := hm.few4
  obtain ⟨ok, i0, i1, i2⟩ := concerns_facts hc
  have hl1 : m.log.length ≤ 100000 := by omega
  have el : (app2 m x).log = m.log := by simp [app2, app1, hu, followM]
  have ec : (app2 m x).commit = m.commit := by simp [app2, app1, hu, followM]
  have er : ¬ (app1 m x).role = 3 := by simp [app1, hu, followM]
  have e2 : app2 m x = followM m x.term := by simp [app2, app1, baseC, hu, followM]
  have hR : appR m x = (app2 m x, some (replyX (app2 m x) x.frm (mn m.log.length (x.index - 1)) false)) := by simp [appR, app3, missX, hc, ht, er, el, hk]
  rw [e2] at hR
  refine ⟨⟨f.a, true, true, true⟩, ?_⟩
  rw [hR]
  refine PS_of (af := a109) rfl rfl ?_
  unfold a109
  dsimp only [List.map, ofPV, initEnv]
  repeat' (first | exact ps112 m f x q 3 hm.toMIn (by omega) | exact ps114 m f _ | exact ps113 (followM m x.term) ⟨f.a, true, true, true⟩ _ _ _ | (simp (disch := omega) only [go_sem, seval, reduceCtorEq, mC, xC, intPV, itemsPV_length, intsPV_length, itemsPV_take, intsPV_take, List.take_length, hc, ht, hu, followM, hk]) | with_reducible exact Ev.mk | apply x_call | ((first | apply x_split | apply x_splitg) <;> intro hβ hb <;> (try simp only [hβ]) <;> clear hβ))
  all_goals ((try simp (disch := omega) only [go_sem, seval, reduceCtorEq, mC, xC, intPV, itemsPV_length, intsPV_length, itemsPV_take, intsPV_take, List.take_length, mn, followM, zC, optRows, replyX, baseC, withLog, withCom, intsPV_nil, itemsPV_nil]) <;> rfl)

theorem ps53A2 (m : M) (f : Fl) (x : X) (q : Bool) (hm : MFew m) (hi : x.items.length ≤ 300) (hc : concernsX m x 3 = true) (ht : ¬ x.term < m.term) (hu : m.term < x.term) (hk : ¬ (m.log.length : Int) < x.index) (hz : ¬ x.index = 0) (hn : ¬ termN m.log x.index = x.logTerm) : ∃ g, PS tb 109 [.agg (mC m f), .agg (xC x q)] (.tuple [.agg (mC (appR m x).1 g), .slice true (optRows true (appR m x).2)]) := by
  have := hm.few1; have := hm.few2; have := hm.few3; have := hm.few4
  obtain ⟨ok, i0, i1, i2⟩ := concerns_facts hc
  have hl1 : m.log.length ≤ 100000 := by omega
  have el : (app2 m x).log = m.log := by simp [app2, app1, hu, followM]
  have ec : (app2 m x).commit = m.commit := by simp [app2, app1, hu, followM]
  have er : ¬ (app1 m x).role = 3 := by simp [app1, hu, followM]
  have e2 : app2 m x = followM m x.term := by simp [app2, app1, baseC, hu, followM]
  have hR : appR m x = (app2 m x, some (replyX (app2 m x) x.frm (mn m.log.length (x.index - 1)) false)) := by simp [appR, app3, missX, hc, ht, er, el, hk, hz, hn]
  rw [e2] at hR
  refine ⟨⟨f.a, true, true, true⟩, ?_⟩
  have j0 : (0 : Int) ≤ x.index - 1 := by omega
  have j1 : (0 : Int) < x.index := by omega
  obtain ⟨js, j2⟩ := itemsPV_getT m.log (x.index - 1).toNat (by omega)
  have j3 : itTerm m.log (x.index - 1).toNat = termN m.log x.index := by simp only [termN]; rw [if_neg (by omega)]
  have hn2 : (termN m.log x.index != x.logTerm) = true := by simp [hn]
  rw [hR]
  refine PS_of (af := a109) rfl rfl ?_
  unfold a109
  dsimp only [List.map, ofPV, initEnv]
  repeat' (first | exact ps112 m f x q 3 hm.toMIn (by omega) | exact ps114 m f _ | exact ps113 (followM m x.term) ⟨f.a, true, true, true⟩ _ _ _ | (simp (disch := omega) only [go_sem, seval, reduceCtorEq, mC, xC, intPV, itemsPV_length, intsPV_length, itemsPV_take, intsPV_take, List.take_length, hc, ht, hu, followM, hk, j0, j1, j2, j3, hn2]) | with_reducible exact Ev.mk | apply x_call | ((first | apply x_split | apply x_splitg) <;> intro hβ hb <;> (try simp only [hβ]) <;> clear hβ))
  all_goals ((try simp (disch := omega) only [go_sem, seval, reduceCtorEq, mC, xC, intPV, itemsPV_length, intsPV_length, itemsPV_take, intsPV_take, List.take_length, mn, followM, zC, optRows, replyX, baseC, withLog, withCom, intsPV_nil, itemsPV_nil]) <;> rfl)

theorem ps53A3 (m : M) (f : Fl) (x : X) (q : Bool) (hm : MFew m) (hi : x.items.length ≤ 300) (hc : concernsX m x 3 = true) (ht : ¬ x.term < m.term) (hu : m.term < x.term) (hk : ¬ (m.log.length : Int) < x.index) (hz : x.index = 0 ∨ termN m.log x.index = x.logTerm) (he : 256 < x.index + (x.items.length : Int)) : ∃ g, PS tb 109 [.agg (mC m f), .agg (xC x q)] (.tuple [.agg (mC (appR m x).1 g), .slice true (optRows true (appR m x).2)]) := by
  have := hm.few1; have := hm.few2; have := hm.few3; have := hm.few4
  obtain ⟨ok, i0, i1, i2⟩ := concerns_facts hc
  have hl1 : m.log.length ≤ 100000 := by omega
  have el : (app2 m x).log = m.log := by simp [app2, app1, hu, followM]
  have ec : (app2 m x).commit = m.commit := by simp [app2, app1, hu, followM]
  have er : ¬ (app1 m x).role = 3 := by simp [app1, hu, followM]
  have e2 : app2 m x = followM m x.term := by simp [app2, app1, baseC, hu, followM]
  have hmiss : missX (app2 m x) x = false := by
    simp only [missX, el, Bool.or_eq_false_iff, Bool.and_eq_false_iff, decide_eq_false_iff_not]; exact ⟨hk, hz.imp (fun h => by simp [h]) (fun h => by simp [h])⟩
  have s1 := sameN_le m.log x.items x.index.toNat
  have s2 := sameN_log m.log x.items x.index.toNat (by omega)
  have es : sameX (app2 m x) x = sameN m.log x.index.toNat x.items := by simp only [sameX, el]
  have es2 : sameX m x = sameN m.log x.index.toNat x.items := rfl
  have b0 : (0 : Int) ≤ (sameN m.log x.index.toNat x.items : Nat) := by omega
  have b1 : (0 : Int) ≤ x.index + (sameN m.log x.index.toNat x.items : Nat) := by omega
  have b2 : x.index + ((sameN m.log x.index.toNat x.items : Nat) : Int) ≤ (m.log.length : Int) := by omega
  have b3 : (x.index + ((sameN m.log x.index.toNat x.items : Nat) : Int)).toNat = x.index.toNat + sameN m.log x.index.toNat x.items := by omega
  have b4 : ((sameN m.log x.index.toNat x.items : Nat) : Int) ≤ (x.items.length : Int) := by omega
  have hfull : fullX (app2 m x) x = true := by simp only [fullX, es, ec]; simp [he]
  have hR : appR m x = (app2 m x, none) := by simp [appR, app3, hmiss, hfull, hc, ht, er]
  rw [e2] at hR
  refine ⟨⟨f.a, true, true, true⟩, ?_⟩
  by_cases hz0 : x.index = 0
  · have hz2 : ¬ (0 : Int) < x.index := by omega
    rw [hR]
    refine PS_of (af := a109) rfl rfl ?_
    unfold a109
    dsimp only [List.map, ofPV, initEnv]
    repeat' (first | exact ps112 m f x q 3 hm.toMIn (by omega) | exact ps114 m f _ | (simp (disch := omega) only [go_sem, seval, reduceCtorEq, mC, xC, intPV, itemsPV_length, intsPV_length, itemsPV_take, intsPV_take, List.take_length, hc, ht, hu, followM, hk, he, b0, b1, b2, b3, b4, itemsPV_sz, itemsPV_drop, itemsPV_append, itemsPV_isEmpty, List.length_append, maxB, hz2]) | with_reducible exact Ev.mk | apply x_call | ((first | apply x_split | apply x_splitg) <;> intro hβ hb <;> (try simp only [hβ]) <;> clear hβ))
    refine W_round ?_
    (try simp (disch := omega) only [go_sem, seval, reduceCtorEq, mC, xC])
    refine l53 (followM m x.term) ⟨f.a, true, true, true⟩ x q i0 i1 (by omega) hl1 _ ?_ x.items.length 0 (by omega) (by simp)
    repeat' (first | exact ps112 m f x q 3 hm.toMIn (by omega) | exact ps114 m f _ | (simp (disch := omega) only [go_sem, seval, reduceCtorEq, mC, xC, intPV, itemsPV_length, intsPV_length, itemsPV_take, intsPV_take, List.take_length, hc, ht, hu, followM, hk, he, b0, b1, b2, b3, b4, itemsPV_sz, itemsPV_drop, itemsPV_append, itemsPV_isEmpty, List.length_append, maxB, hz2, zC]) | with_reducible exact Ev.mk | apply x_call | ((first | apply x_split | apply x_splitg) <;> intro hβ hb <;> (try simp only [hβ]) <;> clear hβ))
    all_goals ((try simp (disch := omega) only [go_sem, seval, reduceCtorEq, mC, xC, intPV, itemsPV_length, intsPV_length, itemsPV_take, intsPV_take, List.take_length, zC, followM, optRows, replyX, baseC, withLog, withCom, intsPV_nil, itemsPV_nil]) <;> rfl)
  · have j0 : (0 : Int) ≤ x.index - 1 := by omega
    have j1 : (0 : Int) < x.index := by omega
    obtain ⟨js, j2⟩ := itemsPV_getT m.log (x.index - 1).toNat (by omega)
    have j3 : itTerm m.log (x.index - 1).toNat = termN m.log x.index := by simp only [termN]; rw [if_neg (by omega)]
    have hn2 : (termN m.log x.index != x.logTerm) = false := by simp [hz.resolve_left hz0]
    rw [hR]
    refine PS_of (af := a109) rfl rfl ?_
    unfold a109
    dsimp only [List.map, ofPV, initEnv]
    repeat' (first | exact ps112 m f x q 3 hm.toMIn (by omega) | exact ps114 m f _ | (simp (disch := omega) only [go_sem, seval, reduceCtorEq, mC, xC, intPV, itemsPV_length, intsPV_length, itemsPV_take, intsPV_take, List.take_length, hc, ht, hu, followM, hk, he, b0, b1, b2, b3, b4, itemsPV_sz, itemsPV_drop, itemsPV_append, itemsPV_isEmpty, List.length_append, maxB, j0, j1, j2, j3, hn2]) | with_reducible exact Ev.mk | apply x_call | ((first | apply x_split | apply x_splitg) <;> intro hβ hb <;> (try simp only [hβ]) <;> clear hβ))
    refine W_round ?_
    (try simp (disch := omega) only [go_sem, seval, reduceCtorEq, mC, xC])
    refine l53 (followM m x.term) ⟨f.a, true, true, true⟩ x q i0 i1 (by omega) hl1 _ ?_ x.items.length 0 (by omega) (by simp)
    repeat' (first | exact ps112 m f x q 3 hm.toMIn (by omega) | exact ps114 m f _ | (simp (disch := omega) only [go_sem, seval, reduceCtorEq, mC, xC, intPV, itemsPV_length, intsPV_length, itemsPV_take, intsPV_take, List.take_length, hc, ht, hu, followM, hk, he, b0, b1, b2, b3, b4, itemsPV_sz, itemsPV_drop, itemsPV_append, itemsPV_isEmpty, List.length_append, maxB, j0, j1, j2, j3, hn2, zC]) | with_reducible exact Ev.mk | apply x_call | ((first | apply x_split | apply x_splitg) <;> intro hβ hb <;> (try simp only [hβ]) <;> clear hβ))
    all_goals ((try simp (disch := omega) only [go_sem, seval, reduceCtorEq, mC, xC, intPV, itemsPV_length, intsPV_length, itemsPV_take, intsPV_take, List.take_length, zC, followM, optRows, replyX, baseC, withLog, withCom, intsPV_nil, itemsPV_nil]) <;> rfl)

theorem ps53A4 (m : M) (f : Fl) (x : X) (q : Bool) (hm : MFew m) (hi : x.items.length ≤ 300) (hc : concernsX m x 3 = true) (ht : ¬ x.term < m.term) (hu : m.term < x.term) (hk : ¬ (m.log.length : Int) < x.index) (hz : x.index = 0 ∨ termN m.log x.index = x.logTerm) (he : ¬ 256 < x.index + (x.items.length : Int)) (hs : (sameX m x : Int) < (x.items.length : Int)) (hw : x.index + (sameX m x : Int) < m.commit) : ∃ g, PS tb 109 [.agg (mC m f), .agg (xC x q)] (.tuple [.agg (mC (appR m x).1 g), .slice true (optRows true (appR m x).2)]) := by
  have := hm.few1; have := hm.few2; have := hm.few3; have := hm.few4
  obtain ⟨ok, i0, i1, i2⟩ := concerns_facts hc
  have hl1 : m.log.length ≤ 100000 := by omega
  have el : (app2 m x).log = m.log := by simp [app2, app1, hu, followM]
  have ec : (app2 m x).commit = m.commit := by simp [app2, app1, hu, followM]
  have er : ¬ (app1 m x).role = 3 := by simp [app1, hu, followM]
  have e2 : app2 m x = followM m x.term := by simp [app2, app1, baseC, hu, followM]
  have hmiss : missX (app2 m x) x = false := by
    simp only [missX, el, Bool.or_eq_false_iff, Bool.and_eq_false_iff, decide_eq_false_iff_not]; exact ⟨hk, hz.imp (fun h => by simp [h]) (fun h => by simp [h])⟩
  have s1 := sameN_le m.log x.items x.index.toNat
  have s2 := sameN_log m.log x.items x.index.toNat (by omega)
  have es : sameX (app2 m x) x = sameN m.log x.index.toNat x.items := by simp only [sameX, el]
  have es2 : sameX m x = sameN m.log x.index.toNat x.items := rfl
  rw [es2] at hs
  rw [es2] at hw
  have b0 : (0 : Int) ≤ (sameN m.log x.index.toNat x.items : Nat) := by omega
  have b1 : (0 : Int) ≤ x.index + (sameN m.log x.index.toNat x.items : Nat) := by omega
  have b2 : x.index + ((sameN m.log x.index.toNat x.items : Nat) : Int) ≤ (m.log.length : Int) := by omega
  have b3 : (x.index + ((sameN m.log x.index.toNat x.items : Nat) : Int)).toNat = x.index.toNat + sameN m.log x.index.toNat x.items := by omega
  have b4 : ((sameN m.log x.index.toNat x.items : Nat) : Int) ≤ (x.items.length : Int) := by omega
  have hfull : fullX (app2 m x) x = true := by simp only [fullX, es, ec]; simp [he, hs, hw]
  have hR : appR m x = (app2 m x, none) := by simp [appR, app3, hmiss, hfull, hc, ht, er]
  rw [e2] at hR
  refine ⟨⟨f.a, true, true, true⟩, ?_⟩
  by_cases hz0 : x.index = 0
  · have hz2 : ¬ (0 : Int) < x.index := by omega
    rw [hR]
    refine PS_of (af := a109) rfl rfl ?_
    unfold a109
    dsimp only [List.map, ofPV, initEnv]
    repeat' (first | exact ps112 m f x q 3 hm.toMIn (by omega) | exact ps114 m f _ | (simp (disch := omega) only [go_sem, seval, reduceCtorEq, mC, xC, intPV, itemsPV_length, intsPV_length, itemsPV_take, intsPV_take, List.take_length, hc, ht, hu, followM, hk, he, hs, hw, b0, b1, b2, b3, b4, itemsPV_sz, itemsPV_drop, itemsPV_append, itemsPV_isEmpty, List.length_append, maxB, hz2]) | with_reducible exact Ev.mk | apply x_call | ((first | apply x_split | apply x_splitg) <;> intro hβ hb <;> (try simp only [hβ]) <;> clear hβ))
    refine W_round ?_
    (try simp (disch := omega) only [go_sem, seval, reduceCtorEq, mC, xC])
    refine l53 (followM m x.term) ⟨f.a, true, true, true⟩ x q i0 i1 (by omega) hl1 _ ?_ x.items.length 0 (by omega) (by simp)
    repeat' (first | exact ps112 m f x q 3 hm.toMIn (by omega) | exact ps114 m f _ | (simp (disch := omega) only [go_sem, seval, reduceCtorEq, mC, xC, intPV, itemsPV_length, intsPV_length, itemsPV_take, intsPV_take, List.take_length, hc, ht, hu, followM, hk, he, hs, hw, b0, b1, b2, b3, b4, itemsPV_sz, itemsPV_drop, itemsPV_append, itemsPV_isEmpty, List.length_append, maxB, hz2, zC]) | with_reducible exact Ev.mk | apply x_call | ((first | apply x_split | apply x_splitg) <;> intro hβ hb <;> (try simp only [hβ]) <;> clear hβ))
    all_goals ((try simp (disch := omega) only [go_sem, seval, reduceCtorEq, mC, xC, intPV, itemsPV_length, intsPV_length, itemsPV_take, intsPV_take, List.take_length, zC, followM, optRows, replyX, baseC, withLog, withCom, intsPV_nil, itemsPV_nil]) <;> rfl)
  · have j0 : (0 : Int) ≤ x.index - 1 := by omega
    have j1 : (0 : Int) < x.index := by omega
    obtain ⟨js, j2⟩ := itemsPV_getT m.log (x.index - 1).toNat (by omega)
    have j3 : itTerm m.log (x.index - 1).toNat = termN m.log x.index := by simp only [termN]; rw [if_neg (by omega)]
    have hn2 : (termN m.log x.index != x.logTerm) = false := by simp [hz.resolve_left hz0]
    rw [hR]
    refine PS_of (af := a109) rfl rfl ?_
    unfold a109
    dsimp only [List.map, ofPV, initEnv]
    repeat' (first | exact ps112 m f x q 3 hm.toMIn (by omega) | exact ps114 m f _ | (simp (disch := omega) only [go_sem, seval, reduceCtorEq, mC, xC, intPV, itemsPV_length, intsPV_length, itemsPV_take, intsPV_take, List.take_length, hc, ht, hu, followM, hk, he, hs, hw, b0, b1, b2, b3, b4, itemsPV_sz, itemsPV_drop, itemsPV_append, itemsPV_isEmpty, List.length_append, maxB, j0, j1, j2, j3, hn2]) | with_reducible exact Ev.mk | apply x_call | ((first | apply x_split | apply x_splitg) <;> intro hβ hb <;> (try simp only [hβ]) <;> clear hβ))
    refine W_round ?_
    (try simp (disch := omega) only [go_sem, seval, reduceCtorEq, mC, xC])
    refine l53 (followM m x.term) ⟨f.a, true, true, true⟩ x q i0 i1 (by omega) hl1 _ ?_ x.items.length 0 (by omega) (by simp)
    repeat' (first | exact ps112 m f x q 3 hm.toMIn (by omega) | exact ps114 m f _ | (simp (disch := omega) only [go_sem, seval, reduceCtorEq, mC, xC, intPV, itemsPV_length, intsPV_length, itemsPV_take, intsPV_take, List.take_length, hc, ht, hu, followM, hk, he, hs, hw, b0, b1, b2, b3, b4, itemsPV_sz, itemsPV_drop, itemsPV_append, itemsPV_isEmpty, List.length_append, maxB, j0, j1, j2, j3, hn2, zC]) | with_reducible exact Ev.mk | apply x_call | ((first | apply x_split | apply x_splitg) <;> intro hβ hb <;> (try simp only [hβ]) <;> clear hβ))
    all_goals ((try simp (disch := omega) only [go_sem, seval, reduceCtorEq, mC, xC, intPV, itemsPV_length, intsPV_length, itemsPV_take, intsPV_take, List.take_length, zC, followM, optRows, replyX, baseC, withLog, withCom, intsPV_nil, itemsPV_nil]) <;> rfl)

theorem ps53A5 (m : M) (f : Fl) (x : X) (q : Bool) (hm : MFew m) (hi : x.items.length ≤ 300) (hc : concernsX m x 3 = true) (ht : ¬ x.term < m.term) (hu : m.term < x.term) (hk : ¬ (m.log.length : Int) < x.index) (hz : x.index = 0 ∨ termN m.log x.index = x.logTerm) (he : ¬ 256 < x.index + (x.items.length : Int)) (hs : (sameX m x : Int) < (x.items.length : Int)) (hw : ¬ x.index + (sameX m x : Int) < m.commit) : ∃ g, PS tb 109 [.agg (mC m f), .agg (xC x q)] (.tuple [.agg (mC (appR m x).1 g), .slice true (optRows true (appR m x).2)]) := by
  have := hm.few1; have := hm.few2; have := hm.few3; have := hm.few4
  obtain ⟨ok, i0, i1, i2⟩ := concerns_facts hc
  have hl1 : m.log.length ≤ 100000 := by omega
  have el : (app2 m x).log = m.log := by simp [app2, app1, hu, followM]
  have ec : (app2 m x).commit = m.commit := by simp [app2, app1, hu, followM]
  have er : ¬ (app1 m x).role = 3 := by simp [app1, hu, followM]
  have e2 : app2 m x = followM m x.term := by simp [app2, app1, baseC, hu, followM]
  have hmiss : missX (app2 m x) x = false := by
    simp only [missX, el, Bool.or_eq_false_iff, Bool.and_eq_false_iff, decide_eq_false_iff_not]; exact ⟨hk, hz.imp (fun h => by simp [h]) (fun h => by simp [h])⟩
  have s1 := sameN_le m.log x.items x.index.toNat
  have s2 := sameN_log m.log x.items x.index.toNat (by omega)
  have es : sameX (app2 m x) x = sameN m.log x.index.toNat x.items := by simp only [sameX, el]
  have es2 : sameX m x = sameN m.log x.index.toNat x.items := rfl
  rw [es2] at hs
  rw [es2] at hw
  have b0 : (0 : Int) ≤ (sameN m.log x.index.toNat x.items : Nat) := by omega
  have b1 : (0 : Int) ≤ x.index + (sameN m.log x.index.toNat x.items : Nat) := by omega
  have b2 : x.index + ((sameN m.log x.index.toNat x.items : Nat) : Int) ≤ (m.log.length : Int) := by omega
  have b3 : (x.index + ((sameN m.log x.index.toNat x.items : Nat) : Int)).toNat = x.index.toNat + sameN m.log x.index.toNat x.items := by omega
  have b4 : ((sameN m.log x.index.toNat x.items : Nat) : Int) ≤ (x.items.length : Int) := by omega
  have hfull : fullX (app2 m x) x = false := by simp only [fullX, es, ec]; simp; omega
  have e4 : app4 (app2 m x) x = withLog (followM m x.term) (m.log.take (x.index.toNat + sameN m.log x.index.toNat x.items) ++ x.items.drop (sameN m.log x.index.toNat x.items)) (mx m.commit (mn x.commit (x.index + (x.items.length : Int)))) := by
    unfold app4 logX
    rw [es, if_pos hs, e2]
    rfl
  have hR : appR m x = (app4 (app2 m x) x, some (replyX (app4 (app2 m x) x) x.frm (x.index + (x.items.length : Int)) true)) := by simp [appR, app3, hmiss, hfull, hc, ht, er]
  rw [e4] at hR
  have d2 : (x.items.drop (sameN m.log x.index.toNat x.items)).length ≤ 300 := by simp; omega
  refine ⟨⟨false, true, true, true⟩, ?_⟩
  by_cases hz0 : x.index = 0
  · have hz2 : ¬ (0 : Int) < x.index := by omega
    rw [hR]
    refine PS_of (af := a109) rfl rfl ?_
    unfold a109
    dsimp only [List.map, ofPV, initEnv]
    repeat' (first | exact ps112 m f x q 3 hm.toMIn (by omega) | exact ps114 m f _ | exact ps113 (withLog (followM m x.term) (m.log.take (x.index.toNat + sameN m.log x.index.toNat x.items) ++ x.items.drop (sameN m.log x.index.toNat x.items)) (mx m.commit (mn x.commit (x.index + (x.items.length : Int))))) ⟨false, true, true, true⟩ _ _ _ | exact ps103' m.log (x.items.drop (sameN m.log x.index.toNat x.items)) _ _ _ b1 b2 (by omega) (by omega) | (simp (disch := omega) only [go_sem, seval, reduceCtorEq, mC, xC, intPV, itemsPV_length, intsPV_length, itemsPV_take, intsPV_take, List.take_length, hc, ht, hu, followM, hk, he, hs, hw, b0, b1, b2, b3, b4, itemsPV_sz, itemsPV_drop, itemsPV_append, itemsPV_isEmpty, List.length_append, maxB, hz2]) | with_reducible exact Ev.mk | apply x_call | ((first | apply x_split | apply x_splitg) <;> intro hβ hb <;> (try simp only [hβ]) <;> clear hβ))
    refine W_round ?_
    (try simp (disch := omega) only [go_sem, seval, reduceCtorEq, mC, xC])
    refine l53 (followM m x.term) ⟨f.a, true, true, true⟩ x q i0 i1 (by omega) hl1 _ ?_ x.items.length 0 (by omega) (by simp)
    repeat' (first | exact ps112 m f x q 3 hm.toMIn (by omega) | exact ps114 m f _ | exact ps113 (withLog (followM m x.term) (m.log.take (x.index.toNat + sameN m.log x.index.toNat x.items) ++ x.items.drop (sameN m.log x.index.toNat x.items)) (mx m.commit (mn x.commit (x.index + (x.items.length : Int))))) ⟨false, true, true, true⟩ _ _ _ | exact ps103' m.log (x.items.drop (sameN m.log x.index.toNat x.items)) _ _ _ b1 b2 (by omega) (by omega) | (simp (disch := omega) only [go_sem, seval, reduceCtorEq, mC, xC, intPV, itemsPV_length, intsPV_length, itemsPV_take, intsPV_take, List.take_length, hc, ht, hu, followM, hk, he, hs, hw, b0, b1, b2, b3, b4, itemsPV_sz, itemsPV_drop, itemsPV_append, itemsPV_isEmpty, List.length_append, maxB, hz2, zC]) | with_reducible exact Ev.mk | apply x_call | ((first | apply x_split | apply x_splitg) <;> intro hβ hb <;> (try simp only [hβ]) <;> clear hβ))
    all_goals ((try simp (disch := omega) only [go_sem, seval, reduceCtorEq, mC, xC, intPV, itemsPV_length, intsPV_length, itemsPV_take, intsPV_take, List.take_length, mn, mx, followM, zC, optRows, replyX, baseC, withLog, withCom, intsPV_nil, itemsPV_nil]) <;> rfl)
  · have j0 : (0 : Int) ≤ x.index - 1 := by omega
    have j1 : (0 : Int) < x.index := by omega
    obtain ⟨js, j2⟩ := itemsPV_getT m.log (x.index - 1).toNat (by omega)
    have j3 : itTerm m.log (x.index - 1).toNat = termN m.log x.index := by simp only [termN]; rw [if_neg (by omega)]
    have hn2 : (termN m.log x.index != x.logTerm) = false := by simp [hz.resolve_left hz0]
    rw [hR]
    refine PS_of (af := a109) rfl rfl ?_
    unfold a109
    dsimp only [List.map, ofPV, initEnv]
    repeat' (first | exact ps112 m f x q 3 hm.toMIn (by omega) | exact ps114 m f _ | exact ps113 (withLog (followM m x.term) (m.log.take (x.index.toNat + sameN m.log x.index.toNat x.items) ++ x.items.drop (sameN m.log x.index.toNat x.items)) (mx m.commit (mn x.commit (x.index + (x.items.length : Int))))) ⟨false, true, true, true⟩ _ _ _ | exact ps103' m.log (x.items.drop (sameN m.log x.index.toNat x.items)) _ _ _ b1 b2 (by omega) (by omega) | (simp (disch := omega) only [go_sem, seval, reduceCtorEq, mC, xC, intPV, itemsPV_length, intsPV_length, itemsPV_take, intsPV_take, List.take_length, hc, ht, hu, followM, hk, he, hs, hw, b0, b1, b2, b3, b4, itemsPV_sz, itemsPV_drop, itemsPV_append, itemsPV_isEmpty, List.length_append, maxB, j0, j1, j2, j3, hn2]) | with_reducible exact Ev.mk | apply x_call | ((first | apply x_split | apply x_splitg) <;> intro hβ hb <;> (try simp only [hβ]) <;> clear hβ))
    refine W_round ?_
    (try simp (disch := omega) only [go_sem, seval, reduceCtorEq, mC, xC])
    refine l53 (followM m x.term) ⟨f.a, true, true, true⟩ x q i0 i1 (by omega) hl1 _ ?_ x.items.length 0 (by omega) (by simp)
    repeat' (first | exact ps112 m f x q 3 hm.toMIn (by omega) | exact ps114 m f _ | exact ps113 (withLog (followM m x.term) (m.log.take (x.index.toNat + sameN m.log x.index.toNat x.items) ++ x.items.drop (sameN m.log x.index.toNat x.items)) (mx m.commit (mn x.commit (x.index + (x.items.length : Int))))) ⟨false, true, true, true⟩ _ _ _ | exact ps103' m.log (x.items.drop (sameN m.log x.index.toNat x.items)) _ _ _ b1 b2 (by omega) (by omega) | (simp (disch := omega) only [go_sem, seval, reduceCtorEq, mC, xC, intPV, itemsPV_length, intsPV_length, itemsPV_take, intsPV_take, List.take_length, hc, ht, hu, followM, hk, he, hs, hw, b0, b1, b2, b3, b4, itemsPV_sz, itemsPV_drop, itemsPV_append, itemsPV_isEmpty, List.length_append, maxB, j0, j1, j2, j3, hn2, zC]) | with_reducible exact Ev.mk | apply x_call | ((first | apply x_split | apply x_splitg) <;> intro hβ hb <;> (try simp only [hβ]) <;> clear hβ))
    all_goals ((try simp (disch := omega) only [go_sem, seval, reduceCtorEq, mC, xC, intPV, itemsPV_length, intsPV_length, itemsPV_take, intsPV_take, List.take_length, mn, mx, followM, zC, optRows, replyX, baseC, withLog, withCom, intsPV_nil, itemsPV_nil]) <;> rfl)

theorem ps53A6 (m : M) (f : Fl) (x : X) (q : Bool) (hm : MFew m) (hi : x.items.length ≤ 300) (hc : concernsX m x 3 = true) (ht : ¬ x.term < m.term) (hu : m.term < x.term) (hk : ¬ (m.log.length : Int) < x.index) (hz : x.index = 0 ∨ termN m.log x.index = x.logTerm) (he : ¬ 256 < x.index + (x.items.length : Int)) (hs : ¬ (sameX m x : Int) < (x.items.length : Int)) : ∃ g, PS tb 109 [.agg (mC m f), .agg (xC x q)] (.tuple [.agg (mC (appR m x).1 g), .slice true (optRows true (appR m x).2)]) := by
  have := hm.few1; have := hm.few2; have := hm.few3; have := hm.few4
  obtain ⟨ok, i0, i1, i2⟩ := concerns_facts hc
  have hl1 : m.log.length ≤ 100000 := by omega
  have el : (app2 m x).log = m.log := by simp [app2, app1, hu, followM]
  have ec : (app2 m x).commit = m.commit := by simp [app2, app1, hu, followM]
  have er : ¬ (app1 m x).role = 3 := by simp [app1, hu, followM]
  have e2 : app2 m x = followM m x.term := by simp [app2, app1, baseC, hu, followM]
  have hmiss : missX (app2 m x) x = false := by
    simp only [missX, el, Bool.or_eq_false_iff, Bool.and_eq_false_iff, decide_eq_false_iff_not]; exact ⟨hk, hz.imp (fun h => by simp [h]) (fun h => by simp [h])⟩
  have s1 := sameN_le m.log x.items x.index.toNat
  have s2 := sameN_log m.log x.items x.index.toNat (by omega)
  have es : sameX (app2 m x) x = sameN m.log x.index.toNat x.items := by simp only [sameX, el]
  have es2 : sameX m x = sameN m.log x.index.toNat x.items := rfl
  rw [es2] at hs
  have b0 : (0 : Int) ≤ (sameN m.log x.index.toNat x.items : Nat) := by omega
  have b1 : (0 : Int) ≤ x.index + (sameN m.log x.index.toNat x.items : Nat) := by omega
  have b2 : x.index + ((sameN m.log x.index.toNat x.items : Nat) : Int) ≤ (m.log.length : Int) := by omega
  have b3 : (x.index + ((sameN m.log x.index.toNat x.items : Nat) : Int)).toNat = x.index.toNat + sameN m.log x.index.toNat x.items := by omega
  have b4 : ((sameN m.log x.index.toNat x.items : Nat) : Int) ≤ (x.items.length : Int) := by omega
  have hfull : fullX (app2 m x) x = false := by simp only [fullX, es, ec]; simp; omega
  have e4 : app4 (app2 m x) x = withCom (followM m x.term) (mx m.commit (mn x.commit (x.index + (x.items.length : Int)))) := by
    unfold app4 logX
    rw [es, if_neg hs, e2]
    rfl
  have hR : appR m x = (app4 (app2 m x) x, some (replyX (app4 (app2 m x) x) x.frm (x.index + (x.items.length : Int)) true)) := by simp [appR, app3, hmiss, hfull, hc, ht, er]
  rw [e4] at hR
  refine ⟨⟨f.a, true, true, true⟩, ?_⟩
  by_cases hz0 : x.index = 0
  · have hz2 : ¬ (0 : Int) < x.index := by omega
    rw [hR]
    refine PS_of (af := a109) rfl rfl ?_
    unfold a109
    dsimp only [List.map, ofPV, initEnv]
    repeat' (first | exact ps112 m f x q 3 hm.toMIn (by omega) | exact ps114 m f _ | exact ps113 (withCom (followM m x.term) (mx m.commit (mn x.commit (x.index + (x.items.length : Int))))) ⟨f.a, true, true, true⟩ _ _ _ | (simp (disch := omega) only [go_sem, seval, reduceCtorEq, mC, xC, intPV, itemsPV_length, intsPV_length, itemsPV_take, intsPV_take, List.take_length, hc, ht, hu, followM, hk, he, hs, b0, b1, b2, b3, b4, itemsPV_sz, itemsPV_drop, itemsPV_append, itemsPV_isEmpty, List.length_append, maxB, hz2]) | with_reducible exact Ev.mk | apply x_call | ((first | apply x_split | apply x_splitg) <;> intro hβ hb <;> (try simp only [hβ]) <;> clear hβ))
    refine W_round ?_
    (try simp (disch := omega) only [go_sem, seval, reduceCtorEq, mC, xC])
    refine l53 (followM m x.term) ⟨f.a, true, true, true⟩ x q i0 i1 (by omega) hl1 _ ?_ x.items.length 0 (by omega) (by simp)
    repeat' (first | exact ps112 m f x q 3 hm.toMIn (by omega) | exact ps114 m f _ | exact ps113 (withCom (followM m x.term) (mx m.commit (mn x.commit (x.index + (x.items.length : Int))))) ⟨f.a, true, true, true⟩ _ _ _ | (simp (disch := omega) only [go_sem, seval, reduceCtorEq, mC, xC, intPV, itemsPV_length, intsPV_length, itemsPV_take, intsPV_take, List.take_length, hc, ht, hu, followM, hk, he, hs, b0, b1, b2, b3, b4, itemsPV_sz, itemsPV_drop, itemsPV_append, itemsPV_isEmpty, List.length_append, maxB, hz2, zC]) | with_reducible exact Ev.mk | apply x_call | ((first | apply x_split | apply x_splitg) <;> intro hβ hb <;> (try simp only [hβ]) <;> clear hβ))
    all_goals ((try simp (disch := omega) only [go_sem, seval, reduceCtorEq, mC, xC, intPV, itemsPV_length, intsPV_length, itemsPV_take, intsPV_take, List.take_length, mn, mx, followM, zC, optRows, replyX, baseC, withLog, withCom, intsPV_nil, itemsPV_nil]) <;> rfl)
  · have j0 : (0 : Int) ≤ x.index - 1 := by omega
    have j1 : (0 : Int) < x.index := by omega
    obtain ⟨js, j2⟩ := itemsPV_getT m.log (x.index - 1).toNat (by omega)
    have j3 : itTerm m.log (x.index - 1).toNat = termN m.log x.index := by simp only [termN]; rw [if_neg (by omega)]
    have hn2 : (termN m.log x.index != x.logTerm) = false := by simp [hz.resolve_left hz0]
    rw [hR]
    refine PS_of (af := a109) rfl rfl ?_
    unfold a109
    dsimp only [List.map, ofPV, initEnv]
    repeat' (first | exact ps112 m f x q 3 hm.toMIn (by omega) | exact ps114 m f _ | exact ps113 (withCom (followM m x.term) (mx m.commit (mn x.commit (x.index + (x.items.length : Int))))) ⟨f.a, true, true, true⟩ _ _ _ | (simp (disch := omega) only [go_sem, seval, reduceCtorEq, mC, xC, intPV, itemsPV_length, intsPV_length, itemsPV_take, intsPV_take, List.take_length, hc, ht, hu, followM, hk, he, hs, b0, b1, b2, b3, b4, itemsPV_sz, itemsPV_drop, itemsPV_append, itemsPV_isEmpty, List.length_append, maxB, j0, j1, j2, j3, hn2]) | with_reducible exact Ev.mk | apply x_call | ((first | apply x_split | apply x_splitg) <;> intro hβ hb <;> (try simp only [hβ]) <;> clear hβ))
    refine W_round ?_
    (try simp (disch := omega) only [go_sem, seval, reduceCtorEq, mC, xC])
    refine l53 (followM m x.term) ⟨f.a, true, true, true⟩ x q i0 i1 (by omega) hl1 _ ?_ x.items.length 0 (by omega) (by simp)
    repeat' (first | exact ps112 m f x q 3 hm.toMIn (by omega) | exact ps114 m f _ | exact ps113 (withCom (followM m x.term) (mx m.commit (mn x.commit (x.index + (x.items.length : Int))))) ⟨f.a, true, true, true⟩ _ _ _ | (simp (disch := omega) only [go_sem, seval, reduceCtorEq, mC, xC, intPV, itemsPV_length, intsPV_length, itemsPV_take, intsPV_take, List.take_length, hc, ht, hu, followM, hk, he, hs, b0, b1, b2, b3, b4, itemsPV_sz, itemsPV_drop, itemsPV_append, itemsPV_isEmpty, List.length_append, maxB, j0, j1, j2, j3, hn2, zC]) | with_reducible exact Ev.mk | apply x_call | ((first | apply x_split | apply x_splitg) <;> intro hβ hb <;> (try simp only [hβ]) <;> clear hβ))
    all_goals ((try simp (disch := omega) only [go_sem, seval, reduceCtorEq, mC, xC, intPV, itemsPV_length, intsPV_length, itemsPV_take, intsPV_take, List.take_length, mn, mx, followM, zC, optRows, replyX, baseC, withLog, withCom, intsPV_nil, itemsPV_nil]) <;> rfl)

theorem ps53C1 (m : M) (f : Fl) (x : X) (q : Bool) (hm : MFew m) (hi : x.items.length ≤ 300) (hc : concernsX m x 3 = true) (ht : ¬ x.term < m.term) (hu : ¬ m.term < x.term) (hr : ¬ m.role = 3) (hk : (m.log.length : Int) < x.index) : ∃ g, PS tb 109 [.agg (mC m f), .agg (xC x q)] (.tuple [.agg (mC (appR m x).1 g), .slice true (optRows true (appR m x).2)]) := by
  have := hm.few1; have := hm.few2; have := hm.few3; have := hm.few4
  obtain ⟨ok, i0, i1, i2⟩ := concerns_facts hc
  have hl1 : m.log.length ≤ 100000 := by omega
  have hr2 : (m.role == 3) = false := by simp [hr]
  have el : (app2 m x).log = m.log := by simp [app2, app1, hu]
  have ec : (app2 m x).commit = m.commit := by simp [app2, app1, hu]
  have er : ¬ (app1 m x).role = 3 := by simp [app1, hu, hr]
  have e2 : app2 m x = baseC m := by simp [app2, app1, baseC, hu]
  have hR : appR m x = (app2 m x, some (replyX (app2 m x) x.frm (mn m.log.length (x.index - 1)) false)) := by simp [appR, app3, missX, hc, ht, er, el, hk]
  rw [e2] at hR
  refine ⟨⟨f.a, true, f.c, f.d⟩, ?_⟩
  rw [hR]
  refine PS_of (af := a109) rfl rfl ?_
  unfold a109
  dsimp only [List.map, ofPV, initEnv]
  repeat' (first | exact ps112 m f x q 3 hm.toMIn (by omega) | exact ps114 m f _ | exact ps113 (baseC m) ⟨f.a, true, f.c, f.d⟩ _ _ _ | (simp (disch := omega) only [go_sem, seval, reduceCtorEq, mC, xC, intPV, itemsPV_length, intsPV_length, itemsPV_take, intsPV_take, List.take_length, hc, ht, hu, hr2, baseC, hk]) | with_reducible exact Ev.mk | apply x_call | ((first | apply x_split | apply x_splitg) <;> intro hβ hb <;> (try simp only [hβ]) <;> clear hβ))
  all_goals ((try simp (disch := omega) only [go_sem, seval, reduceCtorEq, mC, xC, intPV, itemsPV_length, intsPV_length, itemsPV_take, intsPV_take, List.take_length, mn, followM, zC, optRows, replyX, baseC, withLog, withCom, intsPV_nil, itemsPV_nil]) <;> rfl)

theorem ps53C2 (m : M) (f : Fl) (x : X) (q : Bool) (hm : MFew m) (hi : x.items.length ≤ 300) (hc : concernsX m x 3 = true) (ht : ¬ x.term < m.term) (hu : ¬ m.term < x.term) (hr : ¬ m.role = 3) (hk : ¬ (m.log.length : Int) < x.index) (hz : ¬ x.index = 0) (hn : ¬ termN m.log x.index = x.logTerm) : ∃ g, PS tb 109 [.agg (mC m f), .agg (xC x q)] (.tuple [.agg (mC (appR m x).1 g), .slice true (optRows true (appR m x).2)]) := by
  have := hm.few1; have := hm.few2; have := hm.few3; have := hm.few4
  obtain ⟨ok, i0, i1, i2⟩ := concerns_facts hc
  have hl1 : m.log.length ≤ 100000 := by omega
  have hr2 : (m.role == 3) = false := by simp [hr]
  have el : (app2 m x).log = m.log := by simp [app2, app1, hu]
  have ec : (app2 m x).commit = m.commit := by simp [app2, app1, hu]
  have er : ¬ (app1 m x).role = 3 := by simp [app1, hu, hr]
  have e2 : app2 m x = baseC m := by simp [app2, app1, baseC, hu]
  have hR : appR m x = (app2 m x, some (replyX (app2 m x) x.frm (mn m.log.length (x.index - 1)) false)) := by simp [appR, app3, missX, hc, ht, er, el, hk, hz, hn]
  rw [e2] at hR
  refine ⟨⟨f.a, true, f.c, f.d⟩, ?_⟩
  have j0 : (0 : Int) ≤ x.index - 1 := by omega
  have j1 : (0 : Int) < x.index := by omega
  obtain ⟨js, j2⟩ := itemsPV_getT m.log (x.index - 1).toNat (by omega)
  have j3 : itTerm m.log (x.index - 1).toNat = termN m.log x.index := by simp only [termN]; rw [if_neg (by omega)]
  have hn2 : (termN m.log x.index != x.logTerm) = true := by simp [hn]
  rw [hR]
  refine PS_of (af := a109) rfl rfl ?_
  unfold a109
  dsimp only [List.map, ofPV, initEnv]
  repeat' (first | exact ps112 m f x q 3 hm.toMIn (by omega) | exact ps114 m f _ | exact ps113 (baseC m) ⟨f.a, true, f.c, f.d⟩ _ _ _ | (simp (disch := omega) only [go_sem, seval, reduceCtorEq, mC, xC, intPV, itemsPV_length, intsPV_length, itemsPV_take, intsPV_take, List.take_length, hc, ht, hu, hr2, baseC, hk, j0, j1, j2, j3, hn2]) | with_reducible exact Ev.mk | apply x_call | ((first | apply x_split | apply x_splitg) <;> intro hβ hb <;> (try simp only [hβ]) <;> clear hβ))
  all_goals ((try simp (disch := omega) only [go_sem, seval, reduceCtorEq, mC, xC, intPV, itemsPV_length, intsPV_length, itemsPV_take, intsPV_take, List.take_length, mn, followM, zC, optRows, replyX, baseC, withLog, withCom, intsPV_nil, itemsPV_nil]) <;> rfl)

theorem ps53C3 (m : M) (f : Fl) (x : X) (q : Bool) (hm : MFew m) (hi : x.items.length ≤ 300) (hc : concernsX m x 3 = true) (ht : ¬ x.term < m.term) (hu : ¬ m.term < x.term) (hr : ¬ m.role = 3) (hk : ¬ (m.log.length : Int) < x.index) (hz : x.index = 0 ∨ termN m.log x.index = x.logTerm) (he : 256 < x.index + (x.items.length : Int)) : ∃ g, PS tb 109 [.agg (mC m f), .agg (xC x q)] (.tuple [.agg (mC (appR m x).1 g), .slice true (optRows true (appR m x).2)]) := by
  have := hm.few1; have := hm.few2; have := hm.few3; have := hm.few4
  obtain ⟨ok, i0, i1, i2⟩ := concerns_facts hc
  have hl1 : m.log.length ≤ 100000 := by omega
  have hr2 : (m.role == 3) = false := by simp [hr]
  have el : (app2 m x).log = m.log := by simp [app2, app1, hu]
  have ec : (app2 m x).commit = m.commit := by simp [app2, app1, hu]
  have er : ¬ (app1 m x).role = 3 := by simp [app1, hu, hr]
  have e2 : app2 m x = baseC m := by simp [app2, app1, baseC, hu]
  have hmiss : missX (app2 m x) x = false := by
    simp only [missX, el, Bool.or_eq_false_iff, Bool.and_eq_false_iff, decide_eq_false_iff_not]; exact ⟨hk, hz.imp (fun h => by simp [h]) (fun h => by simp [h])⟩
  have s1 := sameN_le m.log x.items x.index.toNat
  have s2 := sameN_log m.log x.items x.index.toNat (by omega)
  have es : sameX (app2 m x) x = sameN m.log x.index.toNat x.items := by simp only [sameX, el]
  have es2 : sameX m x = sameN m.log x.index.toNat x.items := rfl
  have b0 : (0 : Int) ≤ (sameN m.log x.index.toNat x.items : Nat) := by omega
  have b1 : (0 : Int) ≤ x.index + (sameN m.log x.index.toNat x.items : Nat) := by omega
  have b2 : x.index + ((sameN m.log x.index.toNat x.items : Nat) : Int) ≤ (m.log.length : Int) := by omega
  have b3 : (x.index + ((sameN m.log x.index.toNat x.items : Nat) : Int)).toNat = x.index.toNat + sameN m.log x.index.toNat x.items := by omega
  have b4 : ((sameN m.log x.index.toNat x.items : Nat) : Int) ≤ (x.items.length : Int) := by omega
  have hfull : fullX (app2 m x) x = true := by simp only [fullX, es, ec]; simp [he]
  have hR : appR m x = (app2 m x, none) := by simp [appR, app3, hmiss, hfull, hc, ht, er]
  rw [e2] at hR
  refine ⟨⟨f.a, true, f.c, f.d⟩, ?_⟩
  by_cases hz0 : x.index = 0
  · have hz2 : ¬ (0 : Int) < x.index := by omega
    rw [hR]
    refine PS_of (af := a109) rfl rfl ?_
    unfold a109
    dsimp only [List.map, ofPV, initEnv]
    repeat' (first | exact ps112 m f x q 3 hm.toMIn (by omega) | exact ps114 m f _ | (simp (disch := omega) only [go_sem, seval, reduceCtorEq, mC, xC, intPV, itemsPV_length, intsPV_length, itemsPV_take, intsPV_take, List.take_length, hc, ht, hu, hr2, baseC, hk, he, b0, b1, b2, b3, b4, itemsPV_sz, itemsPV_drop, itemsPV_append, itemsPV_isEmpty, List.length_append, maxB, hz2]) | with_reducible exact Ev.mk | apply x_call | ((first | apply x_split | apply x_splitg) <;> intro hβ hb <;> (try simp only [hβ]) <;> clear hβ))
    refine W_round ?_
    (try simp (disch := omega) only [go_sem, seval, reduceCtorEq, mC, xC])
    refine l53 (baseC m) ⟨f.a, true, f.c, f.d⟩ x q i0 i1 (by omega) hl1 _ ?_ x.items.length 0 (by omega) (by simp)
    repeat' (first | exact ps112 m f x q 3 hm.toMIn (by omega) | exact ps114 m f _ | (simp (disch := omega) only [go_sem, seval, reduceCtorEq, mC, xC, intPV, itemsPV_length, intsPV_length, itemsPV_take, intsPV_take, List.take_length, hc, ht, hu, hr2, baseC, hk, he, b0, b1, b2, b3, b4, itemsPV_sz, itemsPV_drop, itemsPV_append, itemsPV_isEmpty, List.length_append, maxB, hz2, zC]) | with_reducible exact Ev.mk | apply x_call | ((first | apply x_split | apply x_splitg) <;> intro hβ hb <;> (try simp only [hβ]) <;> clear hβ))
    all_goals ((try simp (disch := omega) only [go_sem, seval, reduceCtorEq, mC, xC, intPV, itemsPV_length, intsPV_length, itemsPV_take, intsPV_take, List.take_length, zC, followM, optRows, replyX, baseC, withLog, withCom, intsPV_nil, itemsPV_nil]) <;> rfl)
  · have j0 : (0 : Int) ≤ x.index - 1 := by omega
    have j1 : (0 : Int) < x.index := by omega
    obtain ⟨js, j2⟩ := itemsPV_getT m.log (x.index - 1).toNat (by omega)
    have j3 : itTerm m.log (x.index - 1).toNat = termN m.log x.index := by simp only [termN]; rw [if_neg (by omega)]
    have hn2 : (termN m.log x.index != x.logTerm) = false := by simp [hz.resolve_left hz0]
    rw [hR]
    refine PS_of (af := a109) rfl rfl ?_
    unfold a109
    dsimp only [List.map, ofPV, initEnv]
    repeat' (first | exact ps112 m f x q 3 hm.toMIn (by omega) | exact ps114 m f _ | (simp (disch := omega) only [go_sem, seval, reduceCtorEq, mC, xC, intPV, itemsPV_length, intsPV_length, itemsPV_take, intsPV_take, List.take_length, hc, ht, hu, hr2, baseC, hk, he, b0, b1, b2, b3, b4, itemsPV_sz, itemsPV_drop, itemsPV_append, itemsPV_isEmpty, List.length_append, maxB, j0, j1, j2, j3, hn2]) | with_reducible exact Ev.mk | apply x_call | ((first | apply x_split | apply x_splitg) <;> intro hβ hb <;> (try simp only [hβ]) <;> clear hβ))
    refine W_round ?_
    (try simp (disch := omega) only [go_sem, seval, reduceCtorEq, mC, xC])
    refine l53 (baseC m) ⟨f.a, true, f.c, f.d⟩ x q i0 i1 (by omega) hl1 _ ?_ x.items.length 0 (by omega) (by simp)
    repeat' (first | exact ps112 m f x q 3 hm.toMIn (by omega) | exact ps114 m f _ | (simp (disch := omega) only [go_sem, seval, reduceCtorEq, mC, xC, intPV, itemsPV_length, intsPV_length, itemsPV_take, intsPV_take, List.take_length, hc, ht, hu, hr2, baseC, hk, he, b0, b1, b2, b3, b4, itemsPV_sz, itemsPV_drop, itemsPV_append, itemsPV_isEmpty, List.length_append, maxB, j0, j1, j2, j3, hn2, zC]) | with_reducible exact Ev.mk | apply x_call | ((first | apply x_split | apply x_splitg) <;> intro hβ hb <;> (try simp only [hβ]) <;> clear hβ))
    all_goals ((try simp (disch := omega) only [go_sem, seval, reduceCtorEq, mC, xC, intPV, itemsPV_length, intsPV_length, itemsPV_take, intsPV_take, List.take_length, zC, followM, optRows, replyX, baseC, withLog, withCom, intsPV_nil, itemsPV_nil]) <;> rfl)

theorem ps53C4 (m : M) (f : Fl) (x : X) (q : Bool) (hm : MFew m) (hi : x.items.length ≤ 300) (hc : concernsX m x 3 = true) (ht : ¬ x.term < m.term) (hu : ¬ m.term < x.term) (hr : ¬ m.role = 3) (hk : ¬ (m.log.length : Int) < x.index) (hz : x.index = 0 ∨ termN m.log x.index = x.logTerm) (he : ¬ 256 < x.index + (x.items.length : Int)) (hs : (sameX m x : Int) < (x.items.length : Int)) (hw : x.index + (sameX m x : Int) < m.commit) : ∃ g, PS tb 109 [.agg (mC m f), .agg (xC x q)] (.tuple [.agg (mC (appR m x).1 g), .slice true (optRows true (appR m x).2)]) := by
  have := hm.few1; have := hm.few2; have := hm.few3; have := hm.few4
  obtain ⟨ok, i0, i1, i2⟩ := concerns_facts hc
  have hl1 : m.log.length ≤ 100000 := by omega
  have hr2 : (m.role == 3) = false := by simp [hr]
  have el : (app2 m x).log = m.log := by simp [app2, app1, hu]
  have ec : (app2 m x).commit = m.commit := by simp [app2, app1, hu]
  have er : ¬ (app1 m x).role = 3 := by simp [app1, hu, hr]
  have e2 : app2 m x = baseC m := by simp [app2, app1, baseC, hu]
  have hmiss : missX (app2 m x) x = false := by
    simp only [missX, el, Bool.or_eq_false_iff, Bool.and_eq_false_iff, decide_eq_false_iff_not]; exact ⟨hk, hz.imp (fun h => by simp [h]) (fun h => by simp [h])⟩
  have s1 := sameN_le m.log x.items x.index.toNat
  have s2 := sameN_log m.log x.items x.index.toNat (by omega)
  have es : sameX (app2 m x) x = sameN m.log x.index.toNat x.items := by simp only [sameX, el]
  have es2 : sameX m x = sameN m.log x.index.toNat x.items := rfl
  rw [es2] at hs
  rw [es2] at hw
  have b0 : (0 : Int) ≤ (sameN m.log x.index.toNat x.items : Nat) := by omega
  have b1 : (0 : Int) ≤ x.index + (sameN m.log x.index.toNat x.items : Nat) := by omega
  have b2 : x.index + ((sameN m.log x.index.toNat x.items : Nat) : Int) ≤ (m.log.length : Int) := by omega
  have b3 : (x.index + ((sameN m.log x.index.toNat x.items : Nat) : Int)).toNat = x.index.toNat + sameN m.log x.index.toNat x.items := by omega
  have b4 : ((sameN m.log x.index.toNat x.items : Nat) : Int) ≤ (x.items.length : Int) := by omega
  have hfull : fullX (app2 m x) x = true := by simp only [fullX, es, ec]; simp [he, hs, hw]
  have hR : appR m x = (app2 m x, none) := by simp [appR, app3, hmiss, hfull, hc, ht, er]
  rw [e2] at hR
  refine ⟨⟨f.a, true, f.c, f.d⟩, ?_⟩
  by_cases hz0 : x.index = 0
  · have hz2 : ¬ (0 : Int) < x.index := by omega
    rw [hR]
    refine PS_of (af := a109) rfl rfl ?_
    unfold a109
    dsimp only [List.map, ofPV, initEnv]
    repeat' (first | exact ps112 m f x q 3 hm.toMIn (by omega) | exact ps114 m f _ | (simp (disch := omega) only [go_sem, seval, reduceCtorEq, mC, xC, intPV, itemsPV_length, intsPV_length, itemsPV_take, intsPV_take, List.take_length, hc, ht, hu, hr2, baseC, hk, he, hs, hw, b0, b1, b2, b3, b4, itemsPV_sz, itemsPV_drop, itemsPV_append, itemsPV_isEmpty, List.length_append, maxB, hz2]) | with_reducible exact Ev.mk | apply x_call | ((first | apply x_split | apply x_splitg) <;> intro hβ hb <;> (try simp only [hβ]) <;> clear hβ))
    refine W_round ?_
    (try simp (disch := omega) only [go_sem, seval, reduceCtorEq, mC, xC])
    refine l53 (baseC m) ⟨f.a, true, f.c, f.d⟩ x q i0 i1 (by omega) hl1 _ ?_ x.items.length 0 (by omega) (by simp)
    repeat' (first | exact ps112 m f x q 3 hm.toMIn (by omega) | exact ps114 m f _ | (simp (disch := omega) only [go_sem, seval, reduceCtorEq, mC, xC, intPV, itemsPV_length, intsPV_length, itemsPV_take, intsPV_take, List.take_length, hc, ht, hu, hr2, baseC, hk, he, hs, hw, b0, b1, b2, b3, b4, itemsPV_sz, itemsPV_drop, itemsPV_append, itemsPV_isEmpty, List.length_append, maxB, hz2, zC]) | with_reducible exact Ev.mk | apply x_call | ((first | apply x_split | apply x_splitg) <;> intro hβ hb <;> (try simp only [hβ]) <;> clear hβ))
    all_goals ((try simp (disch := omega) only [go_sem, seval, reduceCtorEq, mC, xC, intPV, itemsPV_length, intsPV_length, itemsPV_take, intsPV_take, List.take_length, zC, followM, optRows, replyX, baseC, withLog, withCom, intsPV_nil, itemsPV_nil]) <;> rfl)
  · have j0 : (0 : Int) ≤ x.index - 1 := by omega
    have j1 : (0 : Int) < x.index := by omega
    obtain ⟨js, j2⟩ := itemsPV_getT m.log (x.index - 1).toNat (by omega)
    have j3 : itTerm m.log (x.index - 1).toNat = termN m.log x.index := by simp only [termN]; rw [if_neg (by omega)]
    have hn2 : (termN m.log x.index != x.logTerm) = false := by simp [hz.resolve_left hz0]
    rw [hR]
    refine PS_of (af := a109) rfl rfl ?_
    unfold a109
    dsimp only [List.map, ofPV, initEnv]
    repeat' (first | exact ps112 m f x q 3 hm.toMIn (by omega) | exact ps114 m f _ | (simp (disch := omega) only [go_sem, seval, reduceCtorEq, mC, xC, intPV, itemsPV_length, intsPV_length, itemsPV_take, intsPV_take, List.take_length, hc, ht, hu, hr2, baseC, hk, he, hs, hw, b0, b1, b2, b3, b4, itemsPV_sz, itemsPV_drop, itemsPV_append, itemsPV_isEmpty, List.length_append, maxB, j0, j1, j2, j3, hn2]) | with_reducible exact Ev.mk | apply x_call | ((first | apply x_split | apply x_splitg) <;> intro hβ hb <;> (try simp only [hβ]) <;> clear hβ))
    refine W_round ?_
    (try simp (disch := omega) only [go_sem, seval, reduceCtorEq, mC, xC])
    refine l53 (baseC m) ⟨f.a, true, f.c, f.d⟩ x q i0 i1 (by omega) hl1 _ ?_ x.items.length 0 (by omega) (by simp)
    repeat' (first | exact ps112 m f x q 3 hm.toMIn (by omega) | exact ps114 m f _ | (simp (disch := omega) only [go_sem, seval, reduceCtorEq, mC, xC, intPV, itemsPV_length, intsPV_length, itemsPV_take, intsPV_take, List.take_length, hc, ht, hu, hr2, baseC, hk, he, hs, hw, b0, b1, b2, b3, b4, itemsPV_sz, itemsPV_drop, itemsPV_append, itemsPV_isEmpty, List.length_append, maxB, j0, j1, j2, j3, hn2, zC]) | with_reducible exact Ev.mk | apply x_call | ((first | apply x_split | apply x_splitg) <;> intro hβ hb <;> (try simp only [hβ]) <;> clear hβ))
    all_goals ((try simp (disch := omega) only [go_sem, seval, reduceCtorEq, mC, xC, intPV, itemsPV_length, intsPV_length, itemsPV_take, intsPV_take, List.take_length, zC, followM, optRows, replyX, baseC, withLog, withCom, intsPV_nil, itemsPV_nil]) <;> rfl)

theorem ps53C5 (m : M) (f : Fl) (x : X) (q : Bool) (hm : MFew m) (hi : x.items.length ≤ 300) (hc : concernsX m x 3 = true) (ht : ¬ x.term < m.term) (hu : ¬ m.term < x.term) (hr : ¬ m.role = 3) (hk : ¬ (m.log.length : Int) < x.index) (hz : x.index = 0 ∨ termN m.log x.index = x.logTerm) (he : ¬ 256 < x.index + (x.items.length : Int)) (hs : (sameX m x : Int) < (x.items.length : Int)) (hw : ¬ x.index + (sameX m x : Int) < m.commit) : ∃ g, PS tb 109 [.agg (mC m f), .agg (xC x q)] (.tuple [.agg (mC (appR m x).1 g), .slice true (optRows true (appR m x).2)]) := by
  have := hm.few1; have := hm.few2; have := hm.few3; have := hm.few4
  obtain ⟨ok, i0, i1, i2⟩ := concerns_facts hc
  have hl1 : m.log.length ≤ 100000 := by omega
  have hr2 : (m.role == 3) = false := by simp [hr]
  have el : (app2 m x).log = m.log := by simp [app2, app1, hu]
  have ec : (app2 m x).commit = m.commit := by simp [app2, app1, hu]
  have er : ¬ (app1 m x).role = 3 := by simp [app1, hu, hr]
  have e2 : app2 m x = baseC m := by simp [app2, app1, baseC, hu]
  have hmiss : missX (app2 m x) x = false := by
    simp only [missX, el, Bool.or_eq_false_iff, Bool.and_eq_false_iff, decide_eq_false_iff_not]; exact ⟨hk, hz.imp (fun h => by simp [h]) (fun h => by simp [h])⟩
  have s1 := sameN_le m.log x.items x.index.toNat
  have s2 := sameN_log m.log x.items x.index.toNat (by omega)
  have es : sameX (app2 m x) x = sameN m.log x.index.toNat x.items := by simp only [sameX, el]
  have es2 : sameX m x = sameN m.log x.index.toNat x.items := rfl
  rw [es2] at hs
  rw [es2] at hw
  have b0 : (0 : Int) ≤ (sameN m.log x.index.toNat x.items : Nat) := by omega
  have b1 : (0 : Int) ≤ x.index + (sameN m.log x.index.toNat x.items : Nat) := by omega
  have b2 : x.index + ((sameN m.log x.index.toNat x.items : Nat) : Int) ≤ (m.log.length : Int) := by omega
  have b3 : (x.index + ((sameN m.log x.index.toNat x.items : Nat) : Int)).toNat = x.index.toNat + sameN m.log x.index.toNat x.items := by omega
  have b4 : ((sameN m.log x.index.toNat x.items : Nat) : Int) ≤ (x.items.length : Int) := by omega
  have hfull : fullX (app2 m x) x = false := by simp only [fullX, es, ec]; simp; omega
  have e4 : app4 (app2 m x) x = withLog (baseC m) (m.log.take (x.index.toNat + sameN m.log x.index.toNat x.items) ++ x.items.drop (sameN m.log x.index.toNat x.items)) (mx m.commit (mn x.commit (x.index + (x.items.length : Int)))) := by
    unfold app4 logX
    rw [es, if_pos hs, e2]
    rfl
  have hR : appR m x = (app4 (app2 m x) x, some (replyX (app4 (app2 m x) x) x.frm (x.index + (x.items.length : Int)) true)) := by simp [appR, app3, hmiss, hfull, hc, ht, er]
  rw [e4] at hR
  have d2 : (x.items.drop (sameN m.log x.index.toNat x.items)).length ≤ 300 := by simp; omega
  refine ⟨⟨false, true, f.c, f.d⟩, ?_⟩
  by_cases hz0 : x.index = 0
  · have hz2 : ¬ (0 : Int) < x.index := by omega
    rw [hR]
    refine PS_of (af := a109) rfl rfl ?_
    unfold a109
    dsimp only [List.map, ofPV, initEnv]
    repeat' (first | exact ps112 m f x q 3 hm.toMIn (by omega) | exact ps114 m f _ | exact ps113 (withLog (baseC m) (m.log.take (x.index.toNat + sameN m.log x.index.toNat x.items) ++ x.items.drop (sameN m.log x.index.toNat x.items)) (mx m.commit (mn x.commit (x.index + (x.items.length : Int))))) ⟨false, true, f.c, f.d⟩ _ _ _ | exact ps103' m.log (x.items.drop (sameN m.log x.index.toNat x.items)) _ _ _ b1 b2 (by omega) (by omega) | (simp (disch := omega) only [go_sem, seval, reduceCtorEq, mC, xC, intPV, itemsPV_length, intsPV_length, itemsPV_take, intsPV_take, List.take_length, hc, ht, hu, hr2, baseC, hk, he, hs, hw, b0, b1, b2, b3, b4, itemsPV_sz, itemsPV_drop, itemsPV_append, itemsPV_isEmpty, List.length_append, maxB, hz2]) | with_reducible exact Ev.mk | apply x_call | ((first | apply x_split | apply x_splitg) <;> intro hβ hb <;> (try simp only [hβ]) <;> clear hβ))
    refine W_round ?_
    (try simp (disch := omega) only [go_sem, seval, reduceCtorEq, mC, xC])
    refine l53 (baseC m) ⟨f.a, true, f.c, f.d⟩ x q i0 i1 (by omega) hl1 _ ?_ x.items.length 0 (by omega) (by simp)
    repeat' (first | exact ps112 m f x q 3 hm.toMIn (by omega) | exact ps114 m f _ | exact ps113 (withLog (baseC m) (m.log.take (x.index.toNat + sameN m.log x.index.toNat x.items) ++ x.items.drop (sameN m.log x.index.toNat x.items)) (mx m.commit (mn x.commit (x.index + (x.items.length : Int))))) ⟨false, true, f.c, f.d⟩ _ _ _ | exact ps103' m.log (x.items.drop (sameN m.log x.index.toNat x.items)) _ _ _ b1 b2 (by omega) (by omega) | (simp (disch := omega) only [go_sem, seval, reduceCtorEq, mC, xC, intPV, itemsPV_length, intsPV_length, itemsPV_take, intsPV_take, List.take_length, hc, ht, hu, hr2, baseC, hk, he, hs, hw, b0, b1, b2, b3, b4, itemsPV_sz, itemsPV_drop, itemsPV_append, itemsPV_isEmpty, List.length_append, maxB, hz2, zC]) | with_reducible exact Ev.mk | apply x_call | ((first | apply x_split | apply x_splitg) <;> intro hβ hb <;> (try simp only [hβ]) <;> clear hβ))
    all_goals ((try simp (disch := omega) only [go_sem, seval, reduceCtorEq, mC, xC, intPV, itemsPV_length, intsPV_length, itemsPV_take, intsPV_take, List.take_length, mn, mx, followM, zC, optRows, replyX, baseC, withLog, withCom, intsPV_nil, itemsPV_nil]) <;> rfl)
  · have j0 : (0 : Int) ≤ x.index - 1 := by omega
    have j1 : (0 : Int) < x.index := by omega
    obtain ⟨js, j2⟩ := itemsPV_getT m.log (x.index - 1).toNat (by omega)
    have j3 : itTerm m.log (x.index - 1).toNat = termN m.log x.index := by simp only [termN]; rw [if_neg (by omega)]
    have hn2 : (termN m.log x.index != x.logTerm) = false := by simp [hz.resolve_left hz0]
    rw [hR]
    refine PS_of (af := a109) rfl rfl ?_
    unfold a109
    dsimp only [List.map, ofPV, initEnv]
    repeat' (first | exact ps112 m f x q 3 hm.toMIn (by omega) | exact ps114 m f _ | exact ps113 (withLog (baseC m) (m.log.take (x.index.toNat + sameN m.log x.index.toNat x.items) ++ x.items.drop (sameN m.log x.index.toNat x.items)) (mx m.commit (mn x.commit (x.index + (x.items.length : Int))))) ⟨false, true, f.c, f.d⟩ _ _ _ | exact ps103' m.log (x.items.drop (sameN m.log x.index.toNat x.items)) _ _ _ b1 b2 (by omega) (by omega) | (simp (disch := omega) only [go_sem, seval, reduceCtorEq, mC, xC, intPV, itemsPV_length, intsPV_length, itemsPV_take, intsPV_take, List.take_length, hc, ht, hu, hr2, baseC, hk, he, hs, hw, b0, b1, b2, b3, b4, itemsPV_sz, itemsPV_drop, itemsPV_append, itemsPV_isEmpty, List.length_append, maxB, j0, j1, j2, j3, hn2]) | with_reducible exact Ev.mk | apply x_call | ((first | apply x_split | apply x_splitg) <;> intro hβ hb <;> (try simp only [hβ]) <;> clear hβ))
    refine W_round ?_
    (try simp (disch := omega) only [go_sem, seval, reduceCtorEq, mC, xC])
    refine l53 (baseC m) ⟨f.a, true, f.c, f.d⟩ x q i0 i1 (by omega) hl1 _ ?_ x.items.length 0 (by omega) (by simp)
    repeat' (first | exact ps112 m f x q 3 hm.toMIn (by omega) | exact ps114 m f _ | exact ps113 (withLog (baseC m) (m.log.take (x.index.toNat + sameN m.log x.index.toNat x.items) ++ x.items.drop (sameN m.log x.index.toNat x.items)) (mx m.commit (mn x.commit (x.index + (x.items.length : Int))))) ⟨false, true, f.c, f.d⟩ _ _ _ | exact ps103' m.log (x.items.drop (sameN m.log x.index.toNat x.items)) _ _ _ b1 b2 (by omega) (by omega) | (simp (disch := omega) only [go_sem, seval, reduceCtorEq, mC, xC, intPV, itemsPV_length, intsPV_length, itemsPV_take, intsPV_take, List.take_length, hc, ht, hu, hr2, baseC, hk, he, hs, hw, b0, b1, b2, b3, b4, itemsPV_sz, itemsPV_drop, itemsPV_append, itemsPV_isEmpty, List.length_append, maxB, j0, j1, j2, j3, hn2, zC]) | with_reducible exact Ev.mk | apply x_call | ((first | apply x_split | apply x_splitg) <;> intro hβ hb <;> (try simp only [hβ]) <;> clear hβ))
    all_goals ((try simp (disch := omega) only [go_sem, seval, reduceCtorEq, mC, xC, intPV, itemsPV_length, intsPV_length, itemsPV_take, intsPV_take, List.take_length, mn, mx, followM, zC, optRows, replyX, baseC, withLog, withCom, intsPV_nil, itemsPV_nil]) <;> rfl)

theorem ps53C6 (m : M) (f : Fl) (x : X) (q : Bool) (hm : MFew m) (hi : x.items.length ≤ 300) (hc : concernsX m x 3 = true) (ht : ¬ x.term < m.term) (hu : ¬ m.term < x.term) (hr : ¬ m.role = 3) (hk : ¬ (m.log.length : Int) < x.index) (hz : x.index = 0 ∨ termN m.log x.index = x.logTerm) (he : ¬ 256 < x.index + (x.items.length : Int)) (hs : ¬ (sameX m x : Int) < (x.items.length : Int)) : ∃ g, PS tb 109 [.agg (mC m f), .agg (xC x q)] (.tuple [.agg (mC (appR m x).1 g), .slice true (optRows true (appR m x).2)]) := by
  have := hm.few1; have := hm.few2; have := hm.few3; have := hm.few4
  obtain ⟨ok, i0, i1, i2⟩ := concerns_facts hc
  have hl1 : m.log.length ≤ 100000 := by omega
  have hr2 : (m.role == 3) = false := by simp [hr]
  have el : (app2 m x).log = m.log := by simp [app2, app1, hu]
  have ec : (app2 m x).commit = m.commit := by simp [app2, app1, hu]
  have er : ¬ (app1 m x).role = 3 := by simp [app1, hu, hr]
  have e2 : app2 m x = baseC m := by simp [app2, app1, baseC, hu]
  have hmiss : missX (app2 m x) x = false := by
    simp only [missX, el, Bool.or_eq_false_iff, Bool.and_eq_false_iff, decide_eq_false_iff_not]; exact ⟨hk, hz.imp (fun h => by simp [h]) (fun h => by simp [h])⟩
  have s1 := sameN_le m.log x.items x.index.toNat
  have s2 := sameN_log m.log x.items x.index.toNat (by omega)
  have es : sameX (app2 m x) x = sameN m.log x.index.toNat x.items := by simp only [sameX, el]
  have es2 : sameX m x = sameN m.log x.index.toNat x.items := rfl
  rw [es2] at hs
  have b0 : (0 : Int) ≤ (sameN m.log x.index.toNat x.items : Nat) := by omega
  have b1 : (0 : Int) ≤ x.index + (sameN m.log x.index.toNat x.items : Nat) := by omega
  have b2 : x.index + ((sameN m.log x.index.toNat x.items : Nat) : Int) ≤ (m.log.length : Int) := by omega
  have b3 : (x.index + ((sameN m.log x.index.toNat x.items : Nat) : Int)).toNat = x.index.toNat + sameN m.log x.index.toNat x.items := by omega
  have b4 : ((sameN m.log x.index.toNat x.items : Nat) : Int) ≤ (x.items.length : Int) := by omega
  have hfull : fullX (app2 m x) x = false := by simp only [fullX, es, ec]; simp; omega
  have e4 : app4 (app2 m x) x = withCom (baseC m) (mx m.commit (mn x.commit (x.index + (x.items.length : Int)))) := by
    unfold app4 logX
    rw [es, if_neg hs, e2]
    rfl
  have hR : appR m x = (app4 (app2 m x) x, some (replyX (app4 (app2 m x) x) x.frm (x.index + (x.items.length : Int)) true)) := by simp [appR, app3, hmiss, hfull, hc, ht, er]
  rw [e4] at hR
  refine ⟨⟨f.a, true, f.c, f.d⟩, ?_⟩
  by_cases hz0 : x.index = 0
  · have hz2 : ¬ (0 : Int) < x.index := by omega
    rw [hR]
    refine PS_of (af := a109) rfl rfl ?_
    unfold a109
    dsimp only [List.map, ofPV, initEnv]
    repeat' (first | exact ps112 m f x q 3 hm.toMIn (by omega) | exact ps114 m f _ | exact ps113 (withCom (baseC m) (mx m.commit (mn x.commit (x.index + (x.items.length : Int))))) ⟨f.a, true, f.c, f.d⟩ _ _ _ | (simp (disch := omega) only [go_sem, seval, reduceCtorEq, mC, xC, intPV, itemsPV_length, intsPV_length, itemsPV_take, intsPV_take, List.take_length, hc, ht, hu, hr2, baseC, hk, he, hs, b0, b1, b2, b3, b4, itemsPV_sz, itemsPV_drop, itemsPV_append, itemsPV_isEmpty, List.length_append, maxB, hz2]) | with_reducible exact Ev.mk | apply x_call | ((first | apply x_split | apply x_splitg) <;> intro hβ hb <;> (try simp only [hβ]) <;> clear hβ))
    refine W_round ?_
    (try simp (disch := omega) only [go_sem, seval, reduceCtorEq, mC, xC])
    refine l53 (baseC m) ⟨f.a, true, f.c, f.d⟩ x q i0 i1 (by omega) hl1 _ ?_ x.items.length 0 (by omega) (by simp)
    repeat' (first | exact ps112 m f x q 3 hm.toMIn (by omega) | exact ps114 m f _ | exact ps113 (withCom (baseC m) (mx m.commit (mn x.commit (x.index + (x.items.length : Int))))) ⟨f.a, true, f.c, f.d⟩ _ _ _ | (simp (disch := omega) only [go_sem, seval, reduceCtorEq, mC, xC, intPV, itemsPV_length, intsPV_length, itemsPV_take, intsPV_take, List.take_length, hc, ht, hu, hr2, baseC, hk, he, hs, b0, b1, b2, b3, b4, itemsPV_sz, itemsPV_drop, itemsPV_append, itemsPV_isEmpty, List.length_append, maxB, hz2, zC]) | with_reducible exact Ev.mk | apply x_call | ((first | apply x_split | apply x_splitg) <;> intro hβ hb <;> (try simp only [hβ]) <;> clear hβ))
    all_goals ((try simp (disch := omega) only [go_sem, seval, reduceCtorEq, mC, xC, intPV, itemsPV_length, intsPV_length, itemsPV_take, intsPV_take, List.take_length, mn, mx, followM, zC, optRows, replyX, baseC, withLog, withCom, intsPV_nil, itemsPV_nil]) <;> rfl)
  · have j0 : (0 : Int) ≤ x.index - 1 := by omega
    have j1 : (0 : Int) < x.index := by omega
    obtain ⟨js, j2⟩ := itemsPV_getT m.log (x.index - 1).toNat (by omega)
    have j3 : itTerm m.log (x.index - 1).toNat = termN m.log x.index := by simp only [termN]; rw [if_neg (by omega)]
    have hn2 : (termN m.log x.index != x.logTerm) = false := by simp [hz.resolve_left hz0]
    rw [hR]
    refine PS_of (af := a109) rfl rfl ?_
    unfold a109
    dsimp only [List.map, ofPV, initEnv]
    repeat' (first | exact ps112 m f x q 3 hm.toMIn (by omega) | exact ps114 m f _ | exact ps113 (withCom (baseC m) (mx m.commit (mn x.commit (x.index + (x.items.length : Int))))) ⟨f.a, true, f.c, f.d⟩ _ _ _ | (simp (disch := omega) only [go_sem, seval, reduceCtorEq, mC, xC, intPV, itemsPV_length, intsPV_length, itemsPV_take, intsPV_take, List.take_length, hc, ht, hu, hr2, baseC, hk, he, hs, b0, b1, b2, b3, b4, itemsPV_sz, itemsPV_drop, itemsPV_append, itemsPV_isEmpty, List.length_append, maxB, j0, j1, j2, j3, hn2]) | with_reducible exact Ev.mk | apply x_call | ((first | apply x_split | apply x_splitg) <;> intro hβ hb <;> (try simp only [hβ]) <;> clear hβ))
    refine W_round ?_
    (try simp (disch := omega) only [go_sem, seval, reduceCtorEq, mC, xC])
    refine l53 (baseC m) ⟨f.a, true, f.c, f.d⟩ x q i0 i1 (by omega) hl1 _ ?_ x.items.length 0 (by omega) (by simp)
    repeat' (first | exact ps112 m f x q 3 hm.toMIn (by omega) | exact ps114 m f _ | exact ps113 (withCom (baseC m) (mx m.commit (mn x.commit (x.index + (x.items.length : Int))))) ⟨f.a, true, f.c, f.d⟩ _ _ _ | (simp (disch := omega) only [go_sem, seval, reduceCtorEq, mC, xC, intPV, itemsPV_length, intsPV_length, itemsPV_take, intsPV_take, List.take_length, hc, ht, hu, hr2, baseC, hk, he, hs, b0, b1, b2, b3, b4, itemsPV_sz, itemsPV_drop, itemsPV_append, itemsPV_isEmpty, List.length_append, maxB, j0, j1, j2, j3, hn2, zC]) | with_reducible exact Ev.mk | apply x_call | ((first | apply x_split | apply x_splitg) <;> intro hβ hb <;> (try simp only [hβ]) <;> clear hβ))
    all_goals ((try simp (disch := omega) only [go_sem, seval, reduceCtorEq, mC, xC, intPV, itemsPV_length, intsPV_length, itemsPV_take, intsPV_take, List.take_length, mn, mx, followM, zC, optRows, replyX, baseC, withLog, withCom, intsPV_nil, itemsPV_nil]) <;> rfl)

end Go.Dv.Tryz
