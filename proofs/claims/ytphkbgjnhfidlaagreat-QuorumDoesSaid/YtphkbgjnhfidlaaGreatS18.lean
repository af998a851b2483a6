/-
  Specifications of the functions of this claim, parts 18.
-/
import Derived.Test.YtphkbgjnhfidlaaGreatTab
import Derived.Test.YtphkbgjnhfidlaaGreatStep
import Derived.Test.YtphkbgjnhfidlaaGreatS1
import Derived.Test.YtphkbgjnhfidlaaGreatS7
import Derived.Test.YtphkbgjnhfidlaaGreatS8
import Derived.Test.YtphkbgjnhfidlaaGreatS12
import Derived.Test.YtphkbgjnhfidlaaGreatS16
import Derived.Test.YtphkbgjnhfidlaaGreatS17
set_option linter.unusedVariables false
set_option linter.unusedSimpArgs false
set_option maxRecDepth 100000
set_option maxHeartbeats 16000000
namespace Go.Dv.Tryz
open Go Go.Dv

def mn (a b : Int) : Int := if b < a then b else a

def mx (a b : Int) : Int := if a < b then b else a

def app1 (m : M) (x : X) : M := if m.term < x.term then followM m x.term else m

def app2 (m : M) (x : X) : M := { app1 m x with role := 1, votes := [] }

def missX (m : M) (x : X) : Bool := decide ((m.log.length : Int) < x.index) || (decide (x.index ≠ 0) && decide (termN m.log x.index ≠ x.logTerm))

def sameX (m : M) (x : X) : Nat := sameN m.log x.index.toNat x.items

def fullX (m : M) (x : X) : Bool := decide (256 < x.index + (x.items.length : Int)) || (decide ((sameX m x : Int) < (x.items.length : Int)) && decide (x.index + (sameX m x : Int) < m.commit))

def logX (m : M) (x : X) : List (Int × ByteArray) := if (sameX m x : Int) < (x.items.length : Int) then m.log.take (x.index.toNat + sameX m x) ++ x.items.drop (sameX m x) else m.log

def app4 (m : M) (x : X) : M := { m with log := logX m x, commit := mx m.commit (mn x.commit (x.index + (x.items.length : Int))) }

def app3 (m : M) (x : X) : M × Option X :=
  if missX m x = true then (m, some (replyX m x.frm (mn m.log.length (x.index - 1)) false))
  else if fullX m x = true then (m, none)
  else (app4 m x, some (replyX (app4 m x) x.frm (x.index + (x.items.length : Int)) true))

def appR (m : M) (x : X) : M × Option X :=
  if concernsX m x 3 = false then (m, none)
  else if x.term < m.term then (m, some (replyX m x.frm 0 false))
  else if (app1 m x).role = 3 then (app1 m x, none)
  else app3 (app2 m x) x

theorem ps111' (log l : List (Int × ByteArray)) (b c : Bool) (k : Int) (h0 : 0 ≤ k) (hk : k ≤ 1099511627776) (hl : l.length ≤ 100000) (hg : log.length ≤ 100000) :
    PS tb 120 [.slice b (itemsPV log), .int .i64 k, .slice c (itemsPV l)] (.int .i64 (sameN log k.toNat l)) := by
  obtain ⟨n, rfl⟩ := Int.eq_ofNat_of_zero_le h0
  exact ps111 log l b c n (by omega) hl hg

def baseC (m : M) : M := { m with role := 1, votes := [] }

def withLog (m : M) (l : List (Int × ByteArray)) (c : Int) : M := { m with log := l, commit := c }

def withCom (m : M) (c : Int) : M := { m with commit := c }

def optRows (b : Bool) : Option X → List (List PV)
  | none => []
  | some y => [xC y b]

theorem concerns_facts {m : M} {x : X} (h : concernsX m x 3 = true) : okM m = true ∧ 0 ≤ x.index ∧ x.index ≤ 1099511627776 ∧ x.items.length ≤ 256 := by
  simp only [concernsX, okX, within, okLog, Bool.and_eq_true, decide_eq_true_eq] at h
  exact ⟨h.1.1.1, by omega, by omega, by omega⟩

theorem ps52a (m : M) (f : Fl) (x : X) (q : Bool) (hm : MFew m) (hi : x.items.length ≤ 300) (hc : concernsX m x 3 = false) : ∃ g, PS tb 101 [.agg (mC m f), .agg (xC x q)] (.tuple [.agg (mC (appR m x).1 g), .slice true (optRows true (appR m x).2)]) := by
  have := hm.few1; have := hm.few2; have := hm.few3; have := hm.few4
  have hR : appR m x = (m, none) := by simp [appR, hc]
  refine ⟨⟨false, false, false, false⟩, ?_⟩
  rw [hR]
  refine PS_of (af := a101) rfl rfl ?_
  unfold a101
  dsimp only [List.map, ofPV, initEnv]
  repeat' (first | exact ps108 m f x q 3 hm.toMIn | exact bs101 m f _ _ (fresh_of rfl) (by omega) (by omega) (by omega) (by omega) | (simp (disch := omega) only [go_sem, seval, reduceCtorEq, mC, xC, rC, intPV, itemsPV_length, intsPV_length, itemsPV_take, intsPV_take, List.take_length, hc]) | with_reducible exact Ev.mk | apply x_call | apply x_callr | ((first | apply x_split | apply x_splitg) <;> intro hβ hb <;> (try simp only [hβ]) <;> clear hβ))
  all_goals ((try simp (disch := omega) only [go_sem, seval, reduceCtorEq, mC, xC, rC, intPV, itemsPV_length, intsPV_length, itemsPV_take, intsPV_take, List.take_length, zC, optRows, replyX, baseC, withLog, withCom, intsPV_nil, itemsPV_nil]) <;> rfl)

theorem ps52b (m : M) (f : Fl) (x : X) (q : Bool) (hm : MFew m) (hi : x.items.length ≤ 300) (hc : concernsX m x 3 = true) (ht : x.term < m.term) : ∃ g, PS tb 101 [.agg (mC m f), .agg (xC x q)] (.tuple [.agg (mC (appR m x).1 g), .slice true (optRows true (appR m x).2)]) := by
  have := hm.few1; have := hm.few2; have := hm.few3; have := hm.few4
  have hR : appR m x = (m, some (replyX m x.frm 0 false)) := by simp [appR, hc, ht]
  refine ⟨⟨false, false, false, false⟩, ?_⟩
  rw [hR]
  refine PS_of (af := a101) rfl rfl ?_
  unfold a101
  dsimp only [List.map, ofPV, initEnv]
  repeat' (first | exact ps108 m f x q 3 hm.toMIn | exact ps109 m f _ _ _ | exact bs101 m f _ _ (fresh_of rfl) (by omega) (by omega) (by omega) (by omega) | (simp (disch := omega) only [go_sem, seval, reduceCtorEq, mC, xC, rC, intPV, itemsPV_length, intsPV_length, itemsPV_take, intsPV_take, List.take_length, hc, ht]) | with_reducible exact Ev.mk | apply x_call | apply x_callr | ((first | apply x_split | apply x_splitg) <;> intro hβ hb <;> (try simp only [hβ]) <;> clear hβ))
  all_goals ((try simp (disch := omega) only [go_sem, seval, reduceCtorEq, mC, xC, rC, intPV, itemsPV_length, intsPV_length, itemsPV_take, intsPV_take, List.take_length, zC, optRows, replyX, baseC, withLog, withCom, intsPV_nil, itemsPV_nil]) <;> rfl)

theorem ps52c (m : M) (f : Fl) (x : X) (q : Bool) (hm : MFew m) (hi : x.items.length ≤ 300) (hc : concernsX m x 3 = true) (ht : ¬ x.term < m.term) (hu : ¬ m.term < x.term) (hr : m.role = 3) : ∃ g, PS tb 101 [.agg (mC m f), .agg (xC x q)] (.tuple [.agg (mC (appR m x).1 g), .slice true (optRows true (appR m x).2)]) := by
  have := hm.few1; have := hm.few2; have := hm.few3; have := hm.few4
  have hr2 : (m.role == 3) = true := by simp [hr]
  have hR : appR m x = (m, none) := by simp [appR, app1, hc, ht, hu, hr]
  refine ⟨⟨false, false, false, false⟩, ?_⟩
  rw [hR]
  refine PS_of (af := a101) rfl rfl ?_
  unfold a101
  dsimp only [List.map, ofPV, initEnv]
  repeat' (first | exact ps108 m f x q 3 hm.toMIn | exact bs101 m f _ _ (fresh_of rfl) (by omega) (by omega) (by omega) (by omega) | (simp (disch := omega) only [go_sem, seval, reduceCtorEq, mC, xC, rC, intPV, itemsPV_length, intsPV_length, itemsPV_take, intsPV_take, List.take_length, hc, ht, hu, hr2]) | with_reducible exact Ev.mk | apply x_call | apply x_callr | ((first | apply x_split | apply x_splitg) <;> intro hβ hb <;> (try simp only [hβ]) <;> clear hβ))
  all_goals ((try simp (disch := omega) only [go_sem, seval, reduceCtorEq, mC, xC, rC, intPV, itemsPV_length, intsPV_length, itemsPV_take, intsPV_take, List.take_length, zC, optRows, replyX, baseC, withLog, withCom, intsPV_nil, itemsPV_nil]) <;> rfl)

theorem ps52A1 (m : M) (f : Fl) (x : X) (q : Bool) (hm : MFew m) (hi : x.items.length ≤ 300) (hc : concernsX m x 3 = true) (ht : ¬ x.term < m.term) (hu : m.term < x.term) (hk : (m.log.length : Int) < x.index) : ∃ g, PS tb 101 [.agg (mC m f), .agg (xC x q)] (.tuple [.agg (mC (appR m x).1 g), .slice true (optRows true (appR m x).2)]) := by
  have := hm.few1; have := hm.few2; have := hm.few3; have := hm.few4
  obtain ⟨ok, i0, i1, i2⟩ := concerns_facts hc
  have hl1 : m.log.length ≤ 100000 := by omega
  have el : (app2 m x).log = m.log := by simp [app2, app1, hu, followM]
  have ec : (app2 m x).commit = m.commit := by simp [app2, app1, hu, followM]
  have er : ¬ (app1 m x).role = 3 := by simp [app1, hu, followM]
  have e2 : app2 m x = followM m x.term := by simp [app2, app1, baseC, hu, followM]
  have hR : appR m x = (app2 m x, some (replyX (app2 m x) x.frm (mn m.log.length (x.index - 1)) false)) := by simp [appR, app3, missX, hc, ht, er, el, hk]
  rw [e2] at hR
  refine ⟨⟨false, true, true, true⟩, ?_⟩
  rw [hR]
  refine PS_of (af := a101) rfl rfl ?_
  unfold a101
  dsimp only [List.map, ofPV, initEnv]
  repeat' (first | exact ps108 m f x q 3 hm.toMIn | exact ps110 m ⟨false, false, false, false⟩ _ | exact ps109 (followM m x.term) ⟨false, true, true, true⟩ _ _ _ | exact bs101 m f _ _ (fresh_of rfl) (by omega) (by omega) (by omega) (by omega) | (simp (disch := omega) only [go_sem, seval, reduceCtorEq, mC, xC, rC, intPV, itemsPV_length, intsPV_length, itemsPV_take, intsPV_take, List.take_length, hc, ht, hu, followM, hk]) | with_reducible exact Ev.mk | apply x_call | apply x_callr | ((first | apply x_split | apply x_splitg) <;> intro hβ hb <;> (try simp only [hβ]) <;> clear hβ))
  all_goals ((try simp (disch := omega) only [go_sem, seval, reduceCtorEq, mC, xC, rC, intPV, itemsPV_length, intsPV_length, itemsPV_take, intsPV_take, List.take_length, mn, followM, optRows, replyX, baseC, withLog, withCom, intsPV_nil, itemsPV_nil]) <;> rfl)

theorem ps52A2 (m : M) (f : Fl) (x : X) (q : Bool) (hm : MFew m) (hi : x.items.length ≤ 300) (hc : concernsX m x 3 = true) (ht : ¬ x.term < m.term) (hu : m.term < x.term) (hk : ¬ (m.log.length : Int) < x.index) (hz : ¬ x.index = 0) (hn : ¬ termN m.log x.index = x.logTerm) : ∃ g, PS tb 101 [.agg (mC m f), .agg (xC x q)] (.tuple [.agg (mC (appR m x).1 g), .slice true (optRows true (appR m x).2)]) := by
  have := hm.few1; have := hm.few2; have := hm.few3; have := hm.few4
  obtain ⟨ok, i0, i1, i2⟩ := concerns_facts hc
  have hl1 : m.log.length ≤ 100000 := by omega
  have hkl : x.index ≤ (m.log.length : Int) := by omega
  have el : (app2 m x).log = m.log := by simp [app2, app1, hu, followM]
  have ec : (app2 m x).commit = m.commit := by simp [app2, app1, hu, followM]
  have er : ¬ (app1 m x).role = 3 := by simp [app1, hu, followM]
  have e2 : app2 m x = followM m x.term := by simp [app2, app1, baseC, hu, followM]
  have hR : appR m x = (app2 m x, some (replyX (app2 m x) x.frm (mn m.log.length (x.index - 1)) false)) := by simp [appR, app3, missX, hc, ht, er, el, hk, hz, hn]
  rw [e2] at hR
  refine ⟨⟨false, true, true, true⟩, ?_⟩
  have hz2 : (x.index != 0) = true := by simp [hz]
  have hn2 : (termN m.log x.index != x.logTerm) = true := by simp [hn]
  rw [hR]
  refine PS_of (af := a101) rfl rfl ?_
  unfold a101
  dsimp only [List.map, ofPV, initEnv]
  repeat' (first | exact ps108 m f x q 3 hm.toMIn | exact ps110 m ⟨false, false, false, false⟩ _ | exact ps109 (followM m x.term) ⟨false, true, true, true⟩ _ _ _ | exact ps106 (followM m x.term) ⟨false, true, true, true⟩ _ i0 hkl hl1 | exact bs101 m f _ _ (fresh_of rfl) (by omega) (by omega) (by omega) (by omega) | (simp (disch := omega) only [go_sem, seval, reduceCtorEq, mC, xC, rC, intPV, itemsPV_length, intsPV_length, itemsPV_take, intsPV_take, List.take_length, hc, ht, hu, followM, hk, hz2, hn2]) | with_reducible exact Ev.mk | apply x_call | apply x_callr | ((first | apply x_split | apply x_splitg) <;> intro hβ hb <;> (try simp only [hβ]) <;> clear hβ))
  all_goals ((try simp (disch := omega) only [go_sem, seval, reduceCtorEq, mC, xC, rC, intPV, itemsPV_length, intsPV_length, itemsPV_take, intsPV_take, List.take_length, mn, followM, optRows, replyX, baseC, withLog, withCom, intsPV_nil, itemsPV_nil]) <;> rfl)

theorem ps52A3 (m : M) (f : Fl) (x : X) (q : Bool) (hm : MFew m) (hi : x.items.length ≤ 300) (hc : concernsX m x 3 = true) (ht : ¬ x.term < m.term) (hu : m.term < x.term) (hk : ¬ (m.log.length : Int) < x.index) (hz : x.index = 0 ∨ termN m.log x.index = x.logTerm) (he : 256 < x.index + (x.items.length : Int)) : ∃ g, PS tb 101 [.agg (mC m f), .agg (xC x q)] (.tuple [.agg (mC (appR m x).1 g), .slice true (optRows true (appR m x).2)]) := by
  have := hm.few1; have := hm.few2; have := hm.few3; have := hm.few4
  obtain ⟨ok, i0, i1, i2⟩ := concerns_facts hc
  have hl1 : m.log.length ≤ 100000 := by omega
  have hkl : x.index ≤ (m.log.length : Int) := by omega
  have el : (app2 m x).log = m.log := by simp [app2, app1, hu, followM]
  have ec : (app2 m x).commit = m.commit := by simp [app2, app1, hu, followM]
  have er : ¬ (app1 m x).role = 3 := by simp [app1, hu, followM]
  have e2 : app2 m x = followM m x.term := by simp [app2, app1, baseC, hu, followM]
  have hmiss : missX (app2 m x) x = false := by
    simp only [missX, el, Bool.or_eq_false_iff, Bool.and_eq_false_iff, decide_eq_false_iff_not]; exact ⟨hk, hz.imp (fun h => by simp [h]) (fun h => by simp [h])⟩
  have s1 := sameN_le m.log x.items x.index.toNat
  have s2 := sameN_log m.log x.items x.index.toNat (by omega)
  have es : sameX (app2 m x) x = sameN m.log x.index.toNat x.items := by simp only [sameX, el]
  have es2 : sameX m x = sameN m.log x.index.toNat x.items := rfl
  have b0 : (0 : Int) ≤ (sameN m.log x.index.toNat x.items : Nat) := by omega
  have b1 : (0 : Int) ≤ x.index + (sameN m.log x.index.toNat x.items : Nat) := by omega
  have b2 : x.index + ((sameN m.log x.index.toNat x.items : Nat) : Int) ≤ (m.log.length : Int) := by omega
  have b3 : (x.index + ((sameN m.log x.index.toNat x.items : Nat) : Int)).toNat = x.index.toNat + sameN m.log x.index.toNat x.items := by omega
  have b4 : ((sameN m.log x.index.toNat x.items : Nat) : Int) ≤ (x.items.length : Int) := by omega
  have hfull : fullX (app2 m x) x = true := by simp only [fullX, es, ec]; simp [he]
  have hR : appR m x = (app2 m x, none) := by simp [appR, app3, hmiss, hfull, hc, ht, er]
  rw [e2] at hR
  refine ⟨⟨false, true, true, true⟩, ?_⟩
  by_cases hz0 : x.index = 0
  · have hz2 : (x.index != 0) = false := by simp [hz0]
    rw [hR]
    refine PS_of (af := a101) rfl rfl ?_
    unfold a101
    dsimp only [List.map, ofPV, initEnv]
    repeat' (first | exact ps108 m f x q 3 hm.toMIn | exact ps110 m ⟨false, false, false, false⟩ _ | exact ps111' m.log x.items _ _ x.index i0 i1 (by omega) (by omega) | exact bs101 m f _ _ (fresh_of rfl) (by omega) (by omega) (by omega) (by omega) | (simp (disch := omega) only [go_sem, seval, reduceCtorEq, mC, xC, rC, intPV, itemsPV_length, intsPV_length, itemsPV_take, intsPV_take, List.take_length, hc, ht, hu, followM, hk, he, b0, b1, b2, b3, b4, itemsPV_sz, itemsPV_drop, itemsPV_append, itemsPV_isEmpty, List.length_append, takeApp, maxB, hz2]) | with_reducible exact Ev.mk | apply x_call | apply x_callr | ((first | apply x_split | apply x_splitg) <;> intro hβ hb <;> (try simp only [hβ]) <;> clear hβ))
    all_goals ((try simp (disch := omega) only [go_sem, seval, reduceCtorEq, mC, xC, rC, intPV, itemsPV_length, intsPV_length, itemsPV_take, intsPV_take, List.take_length, zC, followM, optRows, replyX, baseC, withLog, withCom, intsPV_nil, itemsPV_nil]) <;> rfl)
  · have hz2 : (x.index != 0) = true := by simp [hz0]
    have hn2 : (termN m.log x.index != x.logTerm) = false := by simp [hz.resolve_left hz0]
    rw [hR]
    refine PS_of (af := a101) rfl rfl ?_
    unfold a101
    dsimp only [List.map, ofPV, initEnv]
    repeat' (first | exact ps108 m f x q 3 hm.toMIn | exact ps110 m ⟨false, false, false, false⟩ _ | exact ps111' m.log x.items _ _ x.index i0 i1 (by omega) (by omega) | exact ps106 (followM m x.term) ⟨false, true, true, true⟩ _ i0 hkl hl1 | exact bs101 m f _ _ (fresh_of rfl) (by omega) (by omega) (by omega) (by omega) | (simp (disch := omega) only [go_sem, seval, reduceCtorEq, mC, xC, rC, intPV, itemsPV_length, intsPV_length, itemsPV_take, intsPV_take, List.take_length, hc, ht, hu, followM, hk, he, b0, b1, b2, b3, b4, itemsPV_sz, itemsPV_drop, itemsPV_append, itemsPV_isEmpty, List.length_append, takeApp, maxB, hz2, hn2]) | with_reducible exact Ev.mk | apply x_call | apply x_callr | ((first | apply x_split | apply x_splitg) <;> intro hβ hb <;> (try simp only [hβ]) <;> clear hβ))
    all_goals ((try simp (disch := omega) only [go_sem, seval, reduceCtorEq, mC, xC, rC, intPV, itemsPV_length, intsPV_length, itemsPV_take, intsPV_take, List.take_length, zC, followM, optRows, replyX, baseC, withLog, withCom, intsPV_nil, itemsPV_nil]) <;> rfl)

theorem ps52A4 (m : M) (f : Fl) (x : X) (q : Bool) (hm : MFew m) (hi : x.items.length ≤ 300) (hc : concernsX m x 3 = true) (ht : ¬ x.term < m.term) (hu : m.term < x.term) (hk : ¬ (m.log.length : Int) < x.index) (hz : x.index = 0 ∨ termN m.log x.index = x.logTerm) (he : ¬ 256 < x.index + (x.items.length : Int)) (hs : (sameX m x : Int) < (x.items.length : Int)) (hw : x.index + (sameX m x : Int) < m.commit) : ∃ g, PS tb 101 [.agg (mC m f), .agg (xC x q)] (.tuple [.agg (mC (appR m x).1 g), .slice true (optRows true (appR m x).2)]) := by
  have := hm.few1; have := hm.few2; have := hm.few3; have := hm.few4
  obtain ⟨ok, i0, i1, i2⟩ := concerns_facts hc
  have hl1 : m.log.length ≤ 100000 := by omega
  have hkl : x.index ≤ (m.log.length : Int) := by omega
  have el : (app2 m x).log = m.log := by simp [app2, app1, hu, followM]
  have ec : (app2 m x).commit = m.commit := by simp [app2, app1, hu, followM]
  have er : ¬ (app1 m x).role = 3 := by simp [app1, hu, followM]
  have e2 : app2 m x = followM m x.term := by simp [app2, app1, baseC, hu, followM]
  have hmiss : missX (app2 m x) x = false := by
    simp only [missX, el, Bool.or_eq_false_iff, Bool.and_eq_false_iff, decide_eq_false_iff_not]; exact ⟨hk, hz.imp (fun h => by simp [h]) (fun h => by simp [h])⟩
  have s1 := sameN_le m.log x.items x.index.toNat
  have s2 := sameN_log m.log x.items x.index.toNat (by omega)
  have es : sameX (app2 m x) x = sameN m.log x.index.toNat x.items := by simp only [sameX, el]
  have es2 : sameX m x = sameN m.log x.index.toNat x.items := rfl
  rw [es2] at hs
  rw [es2] at hw
  have b0 : (0 : Int) ≤ (sameN m.log x.index.toNat x.items : Nat) := by omega
  have b1 : (0 : Int) ≤ x.index + (sameN m.log x.index.toNat x.items : Nat) := by omega
  have b2 : x.index + ((sameN m.log x.index.toNat x.items : Nat) : Int) ≤ (m.log.length : Int) := by omega
  have b3 : (x.index + ((sameN m.log x.index.toNat x.items : Nat) : Int)).toNat = x.index.toNat + sameN m.log x.index.toNat x.items := by omega
  have b4 : ((sameN m.log x.index.toNat x.items : Nat) : Int) ≤ (x.items.length : Int) := by omega
  have hfull : fullX (app2 m x) x = true := by simp only [fullX, es, ec]; simp [he, hs, hw]
  have hR : appR m x = (app2 m x, none) := by simp [appR, app3, hmiss, hfull, hc, ht, er]
  rw [e2] at hR
  refine ⟨⟨false, true, true, true⟩, ?_⟩
  by_cases hz0 : x.index = 0
  · have hz2 : (x.index != 0) = false := by simp [hz0]
    rw [hR]
    refine PS_of (af := a101) rfl rfl ?_
    unfold a101
    dsimp only [List.map, ofPV, initEnv]
    repeat' (first | exact ps108 m f x q 3 hm.toMIn | exact ps110 m ⟨false, false, false, false⟩ _ | exact ps111' m.log x.items _ _ x.index i0 i1 (by omega) (by omega) | exact bs101 m f _ _ (fresh_of rfl) (by omega) (by omega) (by omega) (by omega) | (simp (disch := omega) only [go_sem, seval, reduceCtorEq, mC, xC, rC, intPV, itemsPV_length, intsPV_length, itemsPV_take, intsPV_take, List.take_length, hc, ht, hu, followM, hk, he, hs, hw, b0, b1, b2, b3, b4, itemsPV_sz, itemsPV_drop, itemsPV_append, itemsPV_isEmpty, List.length_append, takeApp, maxB, hz2]) | with_reducible exact Ev.mk | apply x_call | apply x_callr | ((first | apply x_split | apply x_splitg) <;> intro hβ hb <;> (try simp only [hβ]) <;> clear hβ))
    all_goals ((try simp (disch := omega) only [go_sem, seval, reduceCtorEq, mC, xC, rC, intPV, itemsPV_length, intsPV_length, itemsPV_take, intsPV_take, List.take_length, zC, followM, optRows, replyX, baseC, withLog, withCom, intsPV_nil, itemsPV_nil]) <;> rfl)
  · have hz2 : (x.index != 0) = true := by simp [hz0]
    have hn2 : (termN m.log x.index != x.logTerm) = false := by simp [hz.resolve_left hz0]
    rw [hR]
    refine PS_of (af := a101) rfl rfl ?_
    unfold a101
    dsimp only [List.map, ofPV, initEnv]
    repeat' (first | exact ps108 m f x q 3 hm.toMIn | exact ps110 m ⟨false, false, false, false⟩ _ | exact ps111' m.log x.items _ _ x.index i0 i1 (by omega) (by omega) | exact ps106 (followM m x.term) ⟨false, true, true, true⟩ _ i0 hkl hl1 | exact bs101 m f _ _ (fresh_of rfl) (by omega) (by omega) (by omega) (by omega) | (simp (disch := omega) only [go_sem, seval, reduceCtorEq, mC, xC, rC, intPV, itemsPV_length, intsPV_length, itemsPV_take, intsPV_take, List.take_length, hc, ht, hu, followM, hk, he, hs, hw, b0, b1, b2, b3, b4, itemsPV_sz, itemsPV_drop, itemsPV_append, itemsPV_isEmpty, List.length_append, takeApp, maxB, hz2, hn2]) | with_reducible exact Ev.mk | apply x_call | apply x_callr | ((first | apply x_split | apply x_splitg) <;> intro hβ hb <;> (try simp only [hβ]) <;> clear hβ))
    all_goals ((try simp (disch := omega) only [go_sem, seval, reduceCtorEq, mC, xC, rC, intPV, itemsPV_length, intsPV_length, itemsPV_take, intsPV_take, List.take_length, zC, followM, optRows, replyX, baseC, withLog, withCom, intsPV_nil, itemsPV_nil]) <;> rfl)

theorem ps52A5 (m : M) (f : Fl) (x : X) (q : Bool) (hm : MFew m) (hi : x.items.length ≤ 300) (hc : concernsX m x 3 = true) (ht : ¬ x.term < m.term) (hu : m.term < x.term) (hk : ¬ (m.log.length : Int) < x.index) (hz : x.index = 0 ∨ termN m.log x.index = x.logTerm) (he : ¬ 256 < x.index + (x.items.length : Int)) (hs : (sameX m x : Int) < (x.items.length : Int)) (hw : ¬ x.index + (sameX m x : Int) < m.commit) : ∃ g, PS tb 101 [.agg (mC m f), .agg (xC x q)] (.tuple [.agg (mC (appR m x).1 g), .slice true (optRows true (appR m x).2)]) := by
  have := hm.few1; have := hm.few2; have := hm.few3; have := hm.few4
  obtain ⟨ok, i0, i1, i2⟩ := concerns_facts hc
  have hl1 : m.log.length ≤ 100000 := by omega
  have hkl : x.index ≤ (m.log.length : Int) := by omega
  have el : (app2 m x).log = m.log := by simp [app2, app1, hu, followM]
  have ec : (app2 m x).commit = m.commit := by simp [app2, app1, hu, followM]
  have er : ¬ (app1 m x).role = 3 := by simp [app1, hu, followM]
  have e2 : app2 m x = followM m x.term := by simp [app2, app1, baseC, hu, followM]
  have hmiss : missX (app2 m x) x = false := by
    simp only [missX, el, Bool.or_eq_false_iff, Bool.and_eq_false_iff, decide_eq_false_iff_not]; exact ⟨hk, hz.imp (fun h => by simp [h]) (fun h => by simp [h])⟩
  have s1 := sameN_le m.log x.items x.index.toNat
  have s2 := sameN_log m.log x.items x.index.toNat (by omega)
  have es : sameX (app2 m x) x = sameN m.log x.index.toNat x.items := by simp only [sameX, el]
  have es2 : sameX m x = sameN m.log x.index.toNat x.items := rfl
  rw [es2] at hs
  rw [es2] at hw
  have b0 : (0 : Int) ≤ (sameN m.log x.index.toNat x.items : Nat) := by omega
  have b1 : (0 : Int) ≤ x.index + (sameN m.log x.index.toNat x.items : Nat) := by omega
  have b2 : x.index + ((sameN m.log x.index.toNat x.items : Nat) : Int) ≤ (m.log.length : Int) := by omega
  have b3 : (x.index + ((sameN m.log x.index.toNat x.items : Nat) : Int)).toNat = x.index.toNat + sameN m.log x.index.toNat x.items := by omega
  have b4 : ((sameN m.log x.index.toNat x.items : Nat) : Int) ≤ (x.items.length : Int) := by omega
  have hfull : fullX (app2 m x) x = false := by simp only [fullX, es, ec]; simp; omega
  have e4 : app4 (app2 m x) x = withLog (followM m x.term) (m.log.take (x.index.toNat + sameN m.log x.index.toNat x.items) ++ x.items.drop (sameN m.log x.index.toNat x.items)) (mx m.commit (mn x.commit (x.index + (x.items.length : Int)))) := by
    unfold app4 logX
    rw [es, if_pos hs, e2]
    rfl
  have hR : appR m x = (app4 (app2 m x) x, some (replyX (app4 (app2 m x) x) x.frm (x.index + (x.items.length : Int)) true)) := by simp [appR, app3, hmiss, hfull, hc, ht, er]
  rw [e4] at hR
  have d1 : (m.log.take (x.index.toNat + sameN m.log x.index.toNat x.items)).length ≤ 300 := by simp; omega
  have d2 : (x.items.drop (sameN m.log x.index.toNat x.items)).length ≤ 300 := by simp; omega
  have d3 : (x.items.drop (sameN m.log x.index.toNat x.items)).isEmpty = false := by rw [List.isEmpty_eq_false_iff, ne_eq, List.drop_eq_nil_iff]; omega
  refine ⟨⟨false, true, true, true⟩, ?_⟩
  by_cases hz0 : x.index = 0
  · have hz2 : (x.index != 0) = false := by simp [hz0]
    rw [hR]
    refine PS_of (af := a101) rfl rfl ?_
    unfold a101
    dsimp only [List.map, ofPV, initEnv]
    repeat' (first | exact ps108 m f x q 3 hm.toMIn | exact ps110 m ⟨false, false, false, false⟩ _ | exact ps109 (withLog (followM m x.term) (m.log.take (x.index.toNat + sameN m.log x.index.toNat x.items) ++ x.items.drop (sameN m.log x.index.toNat x.items)) (mx m.commit (mn x.commit (x.index + (x.items.length : Int))))) ⟨false, true, true, true⟩ _ _ _ | exact ps111' m.log x.items _ _ x.index i0 i1 (by omega) (by omega) | exact bs101 m f _ _ (fresh_of rfl) (by omega) (by omega) (by omega) (by omega) | (simp (disch := omega) only [go_sem, seval, reduceCtorEq, mC, xC, rC, intPV, itemsPV_length, intsPV_length, itemsPV_take, intsPV_take, List.take_length, hc, ht, hu, followM, hk, he, hs, hw, b0, b1, b2, b3, b4, itemsPV_sz, itemsPV_drop, itemsPV_append, itemsPV_isEmpty, List.length_append, takeApp, maxB, d3, hz2]) | with_reducible exact Ev.mk | apply x_call | apply x_callr | ((first | apply x_split | apply x_splitg) <;> intro hβ hb <;> (try simp only [hβ]) <;> clear hβ))
    all_goals ((try simp (disch := omega) only [go_sem, seval, reduceCtorEq, mC, xC, rC, intPV, itemsPV_length, intsPV_length, itemsPV_take, intsPV_take, List.take_length, mn, mx, followM, optRows, replyX, baseC, withLog, withCom, intsPV_nil, itemsPV_nil]) <;> rfl)
  · have hz2 : (x.index != 0) = true := by simp [hz0]
    have hn2 : (termN m.log x.index != x.logTerm) = false := by simp [hz.resolve_left hz0]
    rw [hR]
    refine PS_of (af := a101) rfl rfl ?_
    unfold a101
    dsimp only [List.map, ofPV, initEnv]
    repeat' (first | exact ps108 m f x q 3 hm.toMIn | exact ps110 m ⟨false, false, false, false⟩ _ | exact ps109 (withLog (followM m x.term) (m.log.take (x.index.toNat + sameN m.log x.index.toNat x.items) ++ x.items.drop (sameN m.log x.index.toNat x.items)) (mx m.commit (mn x.commit (x.index + (x.items.length : Int))))) ⟨false, true, true, true⟩ _ _ _ | exact ps111' m.log x.items _ _ x.index i0 i1 (by omega) (by omega) | exact ps106 (followM m x.term) ⟨false, true, true, true⟩ _ i0 hkl hl1 | exact bs101 m f _ _ (fresh_of rfl) (by omega) (by omega) (by omega) (by omega) | (simp (disch := omega) only [go_sem, seval, reduceCtorEq, mC, xC, rC, intPV, itemsPV_length, intsPV_length, itemsPV_take, intsPV_take, List.take_length, hc, ht, hu, followM, hk, he, hs, hw, b0, b1, b2, b3, b4, itemsPV_sz, itemsPV_drop, itemsPV_append, itemsPV_isEmpty, List.length_append, takeApp, maxB, d3, hz2, hn2]) | with_reducible exact Ev.mk | apply x_call | apply x_callr | ((first | apply x_split | apply x_splitg) <;> intro hβ hb <;> (try simp only [hβ]) <;> clear hβ))
    all_goals ((try simp (disch := omega) only [go_sem, seval, reduceCtorEq, mC, xC, rC, intPV, itemsPV_length, intsPV_length, itemsPV_take, intsPV_take, List.take_length, mn, mx, followM, optRows, replyX, baseC, withLog, withCom, intsPV_nil, itemsPV_nil]) <;> rfl)

theorem ps52A6 (m : M) (f : Fl) (x : X) (q : Bool) (hm : MFew m) (hi : x.items.length ≤ 300) (hc : concernsX m x 3 = true) (ht : ¬ x.term < m.term) (hu : m.term < x.term) (hk : ¬ (m.log.length : Int) < x.index) (hz : x.index = 0 ∨ termN m.log x.index = x.logTerm) (he : ¬ 256 < x.index + (x.items.length : Int)) (hs : ¬ (sameX m x : Int) < (x.items.length : Int)) : ∃ g, PS tb 101 [.agg (mC m f), .agg (xC x q)] (.tuple [.agg (mC (appR m x).1 g), .slice true (optRows true (appR m x).2)]) := by
  have := hm.few1; have := hm.few2; have := hm.few3; have := hm.few4
  obtain ⟨ok, i0, i1, i2⟩ := concerns_facts hc
  have hl1 : m.log.length ≤ 100000 := by omega
  have hkl : x.index ≤ (m.log.length : Int) := by omega
  have el : (app2 m x).log = m.log := by simp [app2, app1, hu, followM]
  have ec : (app2 m x).commit = m.commit := by simp [app2, app1, hu, followM]
  have er : ¬ (app1 m x).role = 3 := by simp [app1, hu, followM]
  have e2 : app2 m x = followM m x.term := by simp [app2, app1, baseC, hu, followM]
  have hmiss : missX (app2 m x) x = false := by
    simp only [missX, el, Bool.or_eq_false_iff, Bool.and_eq_false_iff, decide_eq_false_iff_not]; exact ⟨hk, hz.imp (fun h => by simp [h]) (fun h => by simp [h])⟩
  have s1 := sameN_le m.log x.items x.index.toNat
  have s2 := sameN_log m.log x.items x.index.toNat (by omega)
  have es : sameX (app2 m x) x = sameN m.log x.index.toNat x.items := by simp only [sameX, el]
  have es2 : sameX m x = sameN m.log x.index.toNat x.items := rfl
  rw [es2] at hs
  have b0 : (0 : Int) ≤ (sameN m.log x.index.toNat x.items : Nat) := by omega
  have b1 : (0 : Int) ≤ x.index + (sameN m.log x.index.toNat x.items : Nat) := by omega
  have b2 : x.index + ((sameN m.log x.index.toNat x.items : Nat) : Int) ≤ (m.log.length : Int) := by omega
  have b3 : (x.index + ((sameN m.log x.index.toNat x.items : Nat) : Int)).toNat = x.index.toNat + sameN m.log x.index.toNat x.items := by omega
  have b4 : ((sameN m.log x.index.toNat x.items : Nat) : Int) ≤ (x.items.length : Int) := by omega
  have hfull : fullX (app2 m x) x = false := by simp only [fullX, es, ec]; simp; omega
  have e4 : app4 (app2 m x) x = withCom (followM m x.term) (mx m.commit (mn x.commit (x.index + (x.items.length : Int)))) := by
    unfold app4 logX
    rw [es, if_neg hs, e2]
    rfl
  have hR : appR m x = (app4 (app2 m x) x, some (replyX (app4 (app2 m x) x) x.frm (x.index + (x.items.length : Int)) true)) := by simp [appR, app3, hmiss, hfull, hc, ht, er]
  rw [e4] at hR
  refine ⟨⟨false, true, true, true⟩, ?_⟩
  by_cases hz0 : x.index = 0
  · have hz2 : (x.index != 0) = false := by simp [hz0]
    rw [hR]
    refine PS_of (af := a101) rfl rfl ?_
    unfold a101
    dsimp only [List.map, ofPV, initEnv]
    repeat' (first | exact ps108 m f x q 3 hm.toMIn | exact ps110 m ⟨false, false, false, false⟩ _ | exact ps109 (withCom (followM m x.term) (mx m.commit (mn x.commit (x.index + (x.items.length : Int))))) ⟨false, true, true, true⟩ _ _ _ | exact ps111' m.log x.items _ _ x.index i0 i1 (by omega) (by omega) | exact bs101 m f _ _ (fresh_of rfl) (by omega) (by omega) (by omega) (by omega) | (simp (disch := omega) only [go_sem, seval, reduceCtorEq, mC, xC, rC, intPV, itemsPV_length, intsPV_length, itemsPV_take, intsPV_take, List.take_length, hc, ht, hu, followM, hk, he, hs, b0, b1, b2, b3, b4, itemsPV_sz, itemsPV_drop, itemsPV_append, itemsPV_isEmpty, List.length_append, takeApp, maxB, hz2]) | with_reducible exact Ev.mk | apply x_call | apply x_callr | ((first | apply x_split | apply x_splitg) <;> intro hβ hb <;> (try simp only [hβ]) <;> clear hβ))
    all_goals ((try simp (disch := omega) only [go_sem, seval, reduceCtorEq, mC, xC, rC, intPV, itemsPV_length, intsPV_length, itemsPV_take, intsPV_take, List.take_length, mn, mx, followM, optRows, replyX, baseC, withLog, withCom, intsPV_nil, itemsPV_nil]) <;> rfl)
  · have hz2 : (x.index != 0) = true := by simp [hz0]
    have hn2 : (termN m.log x.index != x.logTerm) = false := by simp [hz.resolve_left hz0]
    rw [hR]
    refine PS_of (af := a101) rfl rfl ?_
    unfold a101
    dsimp only [List.map, ofPV, initEnv]
    repeat' (first | exact ps108 m f x q 3 hm.toMIn | exact ps110 m ⟨false, false, false, false⟩ _ | exact ps109 (withCom (followM m x.term) (mx m.commit (mn x.commit (x.index + (x.items.length : Int))))) ⟨false, true, true, true⟩ _ _ _ | exact ps111' m.log x.items _ _ x.index i0 i1 (by omega) (by omega) | exact ps106 (followM m x.term) ⟨false, true, true, true⟩ _ i0 hkl hl1 | exact bs101 m f _ _ (fresh_of rfl) (by omega) (by omega) (by omega) (by omega) | (simp (disch := omega) only [go_sem, seval, reduceCtorEq, mC, xC, rC, intPV, itemsPV_length, intsPV_length, itemsPV_take, intsPV_take, List.take_length, hc, ht, hu, followM, hk, he, hs, b0, b1, b2, b3, b4, itemsPV_sz, itemsPV_drop, itemsPV_append, itemsPV_isEmpty, List.length_append, takeApp, maxB, hz2, hn2]) | with_reducible exact Ev.mk | apply x_call | apply x_callr | ((first | apply x_split | apply x_splitg) <;> intro hβ hb <;> (try simp only [hβ]) <;> clear hβ))
    all_goals ((try simp (disch := omega) only [go_sem, seval, reduceCtorEq, mC, xC, rC, intPV, itemsPV_length, intsPV_length, itemsPV_take, intsPV_take, List.take_length, mn, mx, followM, optRows, replyX, baseC, withLog, withCom, intsPV_nil, itemsPV_nil]) <;> rfl)

theorem ps52C1 (m : M) (f : Fl) (x : X) (q : Bool) (hm : MFew m) (hi : x.items.length ≤ 300) (hc : concernsX m x 3 = true) (ht : ¬ x.term < m.term) (hu : ¬ m.term < x.term) (hr : ¬ m.role = 3) (hk : (m.log.length : Int) < x.index) : ∃ g, PS tb 101 [.agg (mC m f), .agg (xC x q)] (.tuple [.agg (mC (appR m x).1 g), .slice true (optRows true (appR m x).2)]) := by
  have := hm.few1; have := hm.few2; have := hm.few3; have := hm.few4
  obtain ⟨ok, i0, i1, i2⟩ := concerns_facts hc
  have hl1 : m.log.length ≤ 100000 := by omega
  have hr2 : (m.role == 3) = false := by simp [hr]
  have el : (app2 m x).log = m.log := by simp [app2, app1, hu]
  have ec : (app2 m x).commit = m.commit := by simp [app2, app1, hu]
  have er : ¬ (app1 m x).role = 3 := by simp [app1, hu, hr]
  have e2 : app2 m x = baseC m := by simp [app2, app1, baseC, hu]
  have hR : appR m x = (app2 m x, some (replyX (app2 m x) x.frm (mn m.log.length (x.index - 1)) false)) := by simp [appR, app3, missX, hc, ht, er, el, hk]
  rw [e2] at hR
  refine ⟨⟨false, true, false, false⟩, ?_⟩
  rw [hR]
  refine PS_of (af := a101) rfl rfl ?_
  unfold a101
  dsimp only [List.map, ofPV, initEnv]
  repeat' (first | exact ps108 m f x q 3 hm.toMIn | exact ps110 m ⟨false, false, false, false⟩ _ | exact ps109 (baseC m) ⟨false, true, false, false⟩ _ _ _ | exact bs101 m f _ _ (fresh_of rfl) (by omega) (by omega) (by omega) (by omega) | (simp (disch := omega) only [go_sem, seval, reduceCtorEq, mC, xC, rC, intPV, itemsPV_length, intsPV_length, itemsPV_take, intsPV_take, List.take_length, hc, ht, hu, hr2, baseC, hk]) | with_reducible exact Ev.mk | apply x_call | apply x_callr | ((first | apply x_split | apply x_splitg) <;> intro hβ hb <;> (try simp only [hβ]) <;> clear hβ))
  all_goals ((try simp (disch := omega) only [go_sem, seval, reduceCtorEq, mC, xC, rC, intPV, itemsPV_length, intsPV_length, itemsPV_take, intsPV_take, List.take_length, mn, followM, optRows, replyX, baseC, withLog, withCom, intsPV_nil, itemsPV_nil]) <;> rfl)

theorem ps52C2 (m : M) (f : Fl) (x : X) (q : Bool) (hm : MFew m) (hi : x.items.length ≤ 300) (hc : concernsX m x 3 = true) (ht : ¬ x.term < m.term) (hu : ¬ m.term < x.term) (hr : ¬ m.role = 3) (hk : ¬ (m.log.length : Int) < x.index) (hz : ¬ x.index = 0) (hn : ¬ termN m.log x.index = x.logTerm) : ∃ g, PS tb 101 [.agg (mC m f), .agg (xC x q)] (.tuple [.agg (mC (appR m x).1 g), .slice true (optRows true (appR m x).2)]) := by
  have := hm.few1; have := hm.few2; have := hm.few3; have := hm.few4
  obtain ⟨ok, i0, i1, i2⟩ := concerns_facts hc
  have hl1 : m.log.length ≤ 100000 := by omega
  have hkl : x.index ≤ (m.log.length : Int) := by omega
  have hr2 : (m.role == 3) = false := by simp [hr]
  have el : (app2 m x).log = m.log := by simp [app2, app1, hu]
  have ec : (app2 m x).commit = m.commit := by simp [app2, app1, hu]
  have er : ¬ (app1 m x).role = 3 := by simp [app1, hu, hr]
  have e2 : app2 m x = baseC m := by simp [app2, app1, baseC, hu]
  have hR : appR m x = (app2 m x, some (replyX (app2 m x) x.frm (mn m.log.length (x.index - 1)) false)) := by simp [appR, app3, missX, hc, ht, er, el, hk, hz, hn]
  rw [e2] at hR
  refine ⟨⟨false, true, false, false⟩, ?_⟩
  have hz2 : (x.index != 0) = true := by simp [hz]
  have hn2 : (termN m.log x.index != x.logTerm) = true := by simp [hn]
  rw [hR]
  refine PS_of (af := a101) rfl rfl ?_
  unfold a101
  dsimp only [List.map, ofPV, initEnv]
  repeat' (first | exact ps108 m f x q 3 hm.toMIn | exact ps110 m ⟨false, false, false, false⟩ _ | exact ps109 (baseC m) ⟨false, true, false, false⟩ _ _ _ | exact ps106 (baseC m) ⟨false, true, false, false⟩ _ i0 hkl hl1 | exact bs101 m f _ _ (fresh_of rfl) (by omega) (by omega) (by omega) (by omega) | (simp (disch := omega) only [go_sem, seval, reduceCtorEq, mC, xC, rC, intPV, itemsPV_length, intsPV_length, itemsPV_take, intsPV_take, List.take_length, hc, ht, hu, hr2, baseC, hk, hz2, hn2]) | with_reducible exact Ev.mk | apply x_call | apply x_callr | ((first | apply x_split | apply x_splitg) <;> intro hβ hb <;> (try simp only [hβ]) <;> clear hβ))
  all_goals ((try simp (disch := omega) only [go_sem, seval, reduceCtorEq, mC, xC, rC, intPV, itemsPV_length, intsPV_length, itemsPV_take, intsPV_take, List.take_length, mn, followM, optRows, replyX, baseC, withLog, withCom, intsPV_nil, itemsPV_nil]) <;> rfl)

theorem ps52C3 (m : M) (f : Fl) (x : X) (q : Bool) (hm : MFew m) (hi : x.items.length ≤ 300) (hc : concernsX m x 3 = true) (ht : ¬ x.term < m.term) (hu : ¬ m.term < x.term) (hr : ¬ m.role = 3) (hk : ¬ (m.log.length : Int) < x.index) (hz : x.index = 0 ∨ termN m.log x.index = x.logTerm) (he : 256 < x.index + (x.items.length : Int)) : ∃ g, PS tb 101 [.agg (mC m f), .agg (xC x q)] (.tuple [.agg (mC (appR m x).1 g), .slice true (optRows true (appR m x).2)]) := by
  have := hm.few1; have := hm.few2; have := hm.few3; have := hm.few4
  obtain ⟨ok, i0, i1, i2⟩ := concerns_facts hc
  have hl1 : m.log.length ≤ 100000 := by omega
  have hkl : x.index ≤ (m.log.length : Int) := by omega
  have hr2 : (m.role == 3) = false := by simp [hr]
  have el : (app2 m x).log = m.log := by simp [app2, app1, hu]
  have ec : (app2 m x).commit = m.commit := by simp [app2, app1, hu]
  have er : ¬ (app1 m x).role = 3 := by simp [app1, hu, hr]
  have e2 : app2 m x = baseC m := by simp [app2, app1, baseC, hu]
  have hmiss : missX (app2 m x) x = false := by
    simp only [missX, el, Bool.or_eq_false_iff, Bool.and_eq_false_iff, decide_eq_false_iff_not]; exact ⟨hk, hz.imp (fun h => by simp [h]) (fun h => by simp [h])⟩
  have s1 := sameN_le m.log x.items x.index.toNat
  have s2 := sameN_log m.log x.items x.index.toNat (by omega)
  have es : sameX (app2 m x) x = sameN m.log x.index.toNat x.items := by simp only [sameX, el]
  have es2 : sameX m x = sameN m.log x.index.toNat x.items := rfl
  have b0 : (0 : Int) ≤ (sameN m.log x.index.toNat x.items : Nat) := by omega
  have b1 : (0 : Int) ≤ x.index + (sameN m.log x.index.toNat x.items : Nat) := by omega
  have b2 : x.index + ((sameN m.log x.index.toNat x.items : Nat) : Int) ≤ (m.log.length : Int) := by omega
  have b3 : (x.index + ((sameN m.log x.index.toNat x.items : Nat) : Int)).toNat = x.index.toNat + sameN m.log x.index.toNat x.items := by omega
  have b4 : ((sameN m.log x.index.toNat x.items : Nat) : Int) ≤ (x.items.length : Int) := by omega
  have hfull : fullX (app2 m x) x = true := by simp only [fullX, es, ec]; simp [he]
  have hR : appR m x = (app2 m x, none) := by simp [appR, app3, hmiss, hfull, hc, ht, er]
  rw [e2] at hR
  refine ⟨⟨false, true, false, false⟩, ?_⟩
  by_cases hz0 : x.index = 0
  · have hz2 : (x.index != 0) = false := by simp [hz0]
    rw [hR]
    refine PS_of (af := a101) rfl rfl ?_
    unfold a101
    dsimp only [List.map, ofPV, initEnv]
    repeat' (first | exact ps108 m f x q 3 hm.toMIn | exact ps110 m ⟨false, false, false, false⟩ _ | exact ps111' m.log x.items _ _ x.index i0 i1 (by omega) (by omega) | exact bs101 m f _ _ (fresh_of rfl) (by omega) (by omega) (by omega) (by omega) | (simp (disch := omega) only [go_sem, seval, reduceCtorEq, mC, xC, rC, intPV, itemsPV_length, intsPV_length, itemsPV_take, intsPV_take, List.take_length, hc, ht, hu, hr2, baseC, hk, he, b0, b1, b2, b3, b4, itemsPV_sz, itemsPV_drop, itemsPV_append, itemsPV_isEmpty, List.length_append, takeApp, maxB, hz2]) | with_reducible exact Ev.mk | apply x_call | apply x_callr | ((first | apply x_split | apply x_splitg) <;> intro hβ hb <;> (try simp only [hβ]) <;> clear hβ))
    all_goals ((try simp (disch := omega) only [go_sem, seval, reduceCtorEq, mC, xC, rC, intPV, itemsPV_length, intsPV_length, itemsPV_take, intsPV_take, List.take_length, zC, followM, optRows, replyX, baseC, withLog, withCom, intsPV_nil, itemsPV_nil]) <;> rfl)
  · have hz2 : (x.index != 0) = true := by simp [hz0]
    have hn2 : (termN m.log x.index != x.logTerm) = false := by simp [hz.resolve_left hz0]
    rw [hR]
    refine PS_of (af := a101) rfl rfl ?_
    unfold a101
    dsimp only [List.map, ofPV, initEnv]
    repeat' (first | exact ps108 m f x q 3 hm.toMIn | exact ps110 m ⟨false, false, false, false⟩ _ | exact ps111' m.log x.items _ _ x.index i0 i1 (by omega) (by omega) | exact ps106 (baseC m) ⟨false, true, false, false⟩ _ i0 hkl hl1 | exact bs101 m f _ _ (fresh_of rfl) (by omega) (by omega) (by omega) (by omega) | (simp (disch := omega) only [go_sem, seval, reduceCtorEq, mC, xC, rC, intPV, itemsPV_length, intsPV_length, itemsPV_take, intsPV_take, List.take_length, hc, ht, hu, hr2, baseC, hk, he, b0, b1, b2, b3, b4, itemsPV_sz, itemsPV_drop, itemsPV_append, itemsPV_isEmpty, List.length_append, takeApp, maxB, hz2, hn2]) | with_reducible exact Ev.mk | apply x_call | apply x_callr | ((first | apply x_split | apply x_splitg) <;> intro hβ hb <;> (try simp only [hβ]) <;> clear hβ))
    all_goals ((try simp (disch := omega) only [go_sem, seval, reduceCtorEq, mC, xC, rC, intPV, itemsPV_length, intsPV_length, itemsPV_take, intsPV_take, List.take_length, zC, followM, optRows, replyX, baseC, withLog, withCom, intsPV_nil, itemsPV_nil]) <;> rfl)

theorem ps52C4 (m : M) (f : Fl) (x : X) (q : Bool) (hm : MFew m) (hi : x.items.length ≤ 300) (hc : concernsX m x 3 = true) (ht : ¬ x.term < m.term) (hu : ¬ m.term < x.term) (hr : ¬ m.role = 3) (hk : ¬ (m.log.length : Int) < x.index) (hz : x.index = 0 ∨ termN m.log x.index = x.logTerm) (he : ¬ 256 < x.index + (x.items.length : Int)) (hs : (sameX m x : Int) < (x.items.length : Int)) (hw : x.index + (sameX m x : Int) < m.commit) : ∃ g, PS tb 101 [.agg (mC m f), .agg (xC x q)] (.tuple [.agg (mC (appR m x).1 g), .slice true (optRows true (appR m x).2)]) := by
  have := hm.few1; have := hm.few2; have := hm.few3; have := hm.few4
  obtain ⟨ok, i0, i1, i2⟩ := concerns_facts hc
  have hl1 : m.log.length ≤ 100000 := by omega
  have hkl : x.index ≤ (m.log.length : Int) := by omega
  have hr2 : (m.role == 3) = false := by simp [hr]
  have el : (app2 m x).log = m.log := by simp [app2, app1, hu]
  have ec : (app2 m x).commit = m.commit := by simp [app2, app1, hu]
  have er : ¬ (app1 m x).role = 3 := by simp [app1, hu, hr]
  have e2 : app2 m x = baseC m := by simp [app2, app1, baseC, hu]
  have hmiss : missX (app2 m x) x = false := by
    simp only [missX, el, Bool.or_eq_false_iff, Bool.and_eq_false_iff, decide_eq_false_iff_not]; exact ⟨hk, hz.imp (fun h => by simp [h]) (fun h => by simp [h])⟩
  have s1 := sameN_le m.log x.items x.index.toNat
  have s2 := sameN_log m.log x.items x.index.toNat (by omega)
  have es : sameX (app2 m x) x = sameN m.log x.index.toNat x.items := by simp only [sameX, el]
  have es2 : sameX m x = sameN m.log x.index.toNat x.items := rfl
  rw [es2] at hs
  rw [es2] at hw
  have b0 : (0 : Int) ≤ (sameN m.log x.index.toNat x.items : Nat) := by omega
  have b1 : (0 : Int) ≤ x.index + (sameN m.log x.index.toNat x.items : Nat) := by omega
  have b2 : x.index + ((sameN m.log x.index.toNat x.items : Nat) : Int) ≤ (m.log.length : Int) := by omega
  have b3 : (x.index + ((sameN m.log x.index.toNat x.items : Nat) : Int)).toNat = x.index.toNat + sameN m.log x.index.toNat x.items := by omega
  have b4 : ((sameN m.log x.index.toNat x.items : Nat) : Int) ≤ (x.items.length : Int) := by omega
  have hfull : fullX (app2 m x) x = true := by simp only [fullX, es, ec]; simp [he, hs, hw]
  have hR : appR m x = (app2 m x, none) := by simp [appR, app3, hmiss, hfull, hc, ht, er]
  rw [e2] at hR
  refine ⟨⟨false, true, false, false⟩, ?_⟩
  by_cases hz0 : x.index = 0
  · have hz2 : (x.index != 0) = false := by simp [hz0]
    rw [hR]
    refine PS_of (af := a101) rfl rfl ?_
    unfold a101
    dsimp only [List.map, ofPV, initEnv]
    repeat' (first | exact ps108 m f x q 3 hm.toMIn | exact ps110 m ⟨false, false, false, false⟩ _ | exact ps111' m.log x.items _ _ x.index i0 i1 (by omega) (by omega) | exact bs101 m f _ _ (fresh_of rfl) (by omega) (by omega) (by omega) (by omega) | (simp (disch := omega) only [go_sem, seval, reduceCtorEq, mC, xC, rC, intPV, itemsPV_length, intsPV_length, itemsPV_take, intsPV_take, List.take_length, hc, ht, hu, hr2, baseC, hk, he, hs, hw, b0, b1, b2, b3, b4, itemsPV_sz, itemsPV_drop, itemsPV_append, itemsPV_isEmpty, List.length_append, takeApp, maxB, hz2]) | with_reducible exact Ev.mk | apply x_call | apply x_callr | ((first | apply x_split | apply x_splitg) <;> intro hβ hb <;> (try simp only [hβ]) <;> clear hβ))
    all_goals ((try simp (disch := omega) only [go_sem, seval, reduceCtorEq, mC, xC, rC, intPV, itemsPV_length, intsPV_length, itemsPV_take, intsPV_take, List.take_length, zC, followM, optRows, replyX, baseC, withLog, withCom, intsPV_nil, itemsPV_nil]) <;> rfl)
  · have hz2 : (x.index != 0) = true := by simp [hz0]
    have hn2 : (termN m.log x.index != x.logTerm) = false := by simp [hz.resolve_left hz0]
    rw [hR]
    refine PS_of (af := a101) rfl rfl ?_
    unfold a101
    dsimp only [List.map, ofPV, initEnv]
    repeat' (first | exact ps108 m f x q 3 hm.toMIn | exact ps110 m ⟨false, false, false, false⟩ _ | exact ps111' m.log x.items _ _ x.index i0 i1 (by omega) (by omega) | exact ps106 (baseC m) ⟨false, true, false, false⟩ _ i0 hkl hl1 | exact bs101 m f _ _ (fresh_of rfl) (by omega) (by omega) (by omega) (by omega) | (simp (disch := omega) only [go_sem, seval, reduceCtorEq, mC, xC, rC, intPV, itemsPV_length, intsPV_length, itemsPV_take, intsPV_take, List.take_length, hc, ht, hu, hr2, baseC, hk, he, hs, hw, b0, b1, b2, b3, b4, itemsPV_sz, itemsPV_drop, itemsPV_append, itemsPV_isEmpty, List.length_append, takeApp, maxB, hz2, hn2]) | with_reducible exact Ev.mk | apply x_call | apply x_callr | ((first | apply x_split | apply x_splitg) <;> intro hβ hb <;> (try simp only [hβ]) <;> clear hβ))
    all_goals ((try simp (disch := omega) only [go_sem, seval, reduceCtorEq, mC, xC, rC, intPV, itemsPV_length, intsPV_length, itemsPV_take, intsPV_take, List.take_length, zC, followM, optRows, replyX, baseC, withLog, withCom, intsPV_nil, itemsPV_nil]) <;> rfl)

theorem ps52C5 (m : M) (f : Fl) (x : X) (q : Bool) (hm : MFew m) (hi : x.items.length ≤ 300) (hc : concernsX m x 3 = true) (ht : ¬ x.term < m.term) (hu : ¬ m.term < x.term) (hr : ¬ m.role = 3) (hk : ¬ (m.log.length : Int) < x.index) (hz : x.index = 0 ∨ termN m.log x.index = x.logTerm) (he : ¬ 256 < x.index + (x.items.length : Int)) (hs : (sameX m x : Int) < (x.items.length : Int)) (hw : ¬ x.index + (sameX m x : Int) < m.commit) : ∃ g, PS tb 101 [.agg (mC m f), .agg (xC x q)] (.tuple [.agg (mC (appR m x).1 g), .slice true (optRows true (appR m x).2)]) := by
  have := hm.few1; have := hm.few2; have := hm.few3; have := hm.few4
  obtain ⟨ok, i0, i1, i2⟩ := concerns_facts hc
  have hl1 : m.log.length ≤ 100000 := by omega
  have hkl : x.index ≤ (m.log.length : Int) := by omega
  have hr2 : (m.role == 3) = false := by simp [hr]
  have el : (app2 m x).log = m.log := by simp [app2, app1, hu]
  have ec : (app2 m x).commit = m.commit := by simp [app2, app1, hu]
  have er : ¬ (app1 m x).role = 3 := by simp [app1, hu, hr]
  have e2 : app2 m x = baseC m := by simp [app2, app1, baseC, hu]
  have hmiss : missX (app2 m x) x = false := by
    simp only [missX, el, Bool.or_eq_false_iff, Bool.and_eq_false_iff, decide_eq_false_iff_not]; exact ⟨hk, hz.imp (fun h => by simp [h]) (fun h => by simp [h])⟩
  have s1 := sameN_le m.log x.items x.index.toNat
  have s2 := sameN_log m.log x.items x.index.toNat (by omega)
  have es : sameX (app2 m x) x = sameN m.log x.index.toNat x.items := by simp only [sameX, el]
  have es2 : sameX m x = sameN m.log x.index.toNat x.items := rfl
  rw [es2] at hs
  rw [es2] at hw
  have b0 : (0 : Int) ≤ (sameN m.log x.index.toNat x.items : Nat) := by omega
  have b1 : (0 : Int) ≤ x.index + (sameN m.log x.index.toNat x.items : Nat) := by omega
  have b2 : x.index + ((sameN m.log x.index.toNat x.items : Nat) : Int) ≤ (m.log.length : Int) := by omega
  have b3 : (x.index + ((sameN m.log x.index.toNat x.items : Nat) : Int)).toNat = x.index.toNat + sameN m.log x.index.toNat x.items := by omega
  have b4 : ((sameN m.log x.index.toNat x.items : Nat) : Int) ≤ (x.items.length : Int) := by omega
  have hfull : fullX (app2 m x) x = false := by simp only [fullX, es, ec]; simp; omega
  have e4 : app4 (app2 m x) x = withLog (baseC m) (m.log.take (x.index.toNat + sameN m.log x.index.toNat x.items) ++ x.items.drop (sameN m.log x.index.toNat x.items)) (mx m.commit (mn x.commit (x.index + (x.items.length : Int)))) := by
    unfold app4 logX
    rw [es, if_pos hs, e2]
    rfl
  have hR : appR m x = (app4 (app2 m x) x, some (replyX (app4 (app2 m x) x) x.frm (x.index + (x.items.length : Int)) true)) := by simp [appR, app3, hmiss, hfull, hc, ht, er]
  rw [e4] at hR
  have d1 : (m.log.take (x.index.toNat + sameN m.log x.index.toNat x.items)).length ≤ 300 := by simp; omega
  have d2 : (x.items.drop (sameN m.log x.index.toNat x.items)).length ≤ 300 := by simp; omega
  have d3 : (x.items.drop (sameN m.log x.index.toNat x.items)).isEmpty = false := by rw [List.isEmpty_eq_false_iff, ne_eq, List.drop_eq_nil_iff]; omega
  refine ⟨⟨false, true, false, false⟩, ?_⟩
  by_cases hz0 : x.index = 0
  · have hz2 : (x.index != 0) = false := by simp [hz0]
    by_cases hy : (0 : Int) = x.index + ((sameN m.log x.index.toNat x.items : Nat) : Int)
    · have hy2 : ((0 : Int) = x.index + ((sameN m.log x.index.toNat x.items : Nat) : Int)) = True := eq_true hy
      rw [hR]
      refine PS_of (af := a101) rfl rfl ?_
      unfold a101
      dsimp only [List.map, ofPV, initEnv]
      repeat' (first | exact ps108 m f x q 3 hm.toMIn | exact ps110 m ⟨false, false, false, false⟩ _ | exact ps109 (withLog (baseC m) (m.log.take (x.index.toNat + sameN m.log x.index.toNat x.items) ++ x.items.drop (sameN m.log x.index.toNat x.items)) (mx m.commit (mn x.commit (x.index + (x.items.length : Int))))) ⟨false, true, false, false⟩ _ _ _ | exact ps111' m.log x.items _ _ x.index i0 i1 (by omega) (by omega) | exact bs101 m f _ _ (fresh_of rfl) (by omega) (by omega) (by omega) (by omega) | (simp (disch := omega) only [go_sem, seval, reduceCtorEq, mC, xC, rC, intPV, itemsPV_length, intsPV_length, itemsPV_take, intsPV_take, List.take_length, hc, ht, hu, hr2, baseC, hk, he, hs, hw, b0, b1, b2, b3, b4, itemsPV_sz, itemsPV_drop, itemsPV_append, itemsPV_isEmpty, List.length_append, takeApp, maxB, d3, hz2, hy2]) | with_reducible exact Ev.mk | apply x_call | apply x_callr | ((first | apply x_split | apply x_splitg) <;> intro hβ hb <;> (try simp only [hβ]) <;> clear hβ))
      all_goals ((try simp (disch := omega) only [go_sem, seval, reduceCtorEq, mC, xC, rC, intPV, itemsPV_length, intsPV_length, itemsPV_take, intsPV_take, List.take_length, mn, mx, followM, optRows, replyX, baseC, withLog, withCom, intsPV_nil, itemsPV_nil]) <;> rfl)
    · rw [hR]
      refine PS_of (af := a101) rfl rfl ?_
      unfold a101
      dsimp only [List.map, ofPV, initEnv]
      repeat' (first | exact ps108 m f x q 3 hm.toMIn | exact ps110 m ⟨false, false, false, false⟩ _ | exact ps109 (withLog (baseC m) (m.log.take (x.index.toNat + sameN m.log x.index.toNat x.items) ++ x.items.drop (sameN m.log x.index.toNat x.items)) (mx m.commit (mn x.commit (x.index + (x.items.length : Int))))) ⟨false, true, false, false⟩ _ _ _ | exact ps111' m.log x.items _ _ x.index i0 i1 (by omega) (by omega) | exact bs101 m f _ _ (fresh_of rfl) (by omega) (by omega) (by omega) (by omega) | (simp (disch := omega) only [go_sem, seval, reduceCtorEq, mC, xC, rC, intPV, itemsPV_length, intsPV_length, itemsPV_take, intsPV_take, List.take_length, hc, ht, hu, hr2, baseC, hk, he, hs, hw, b0, b1, b2, b3, b4, itemsPV_sz, itemsPV_drop, itemsPV_append, itemsPV_isEmpty, List.length_append, takeApp, maxB, d3, hz2, hy]) | with_reducible exact Ev.mk | apply x_call | apply x_callr | ((first | apply x_split | apply x_splitg) <;> intro hβ hb <;> (try simp only [hβ]) <;> clear hβ))
      all_goals ((try simp (disch := omega) only [go_sem, seval, reduceCtorEq, mC, xC, rC, intPV, itemsPV_length, intsPV_length, itemsPV_take, intsPV_take, List.take_length, mn, mx, followM, optRows, replyX, baseC, withLog, withCom, intsPV_nil, itemsPV_nil]) <;> rfl)
  · have hz2 : (x.index != 0) = true := by simp [hz0]
    have hn2 : (termN m.log x.index != x.logTerm) = false := by simp [hz.resolve_left hz0]
    by_cases hy : (0 : Int) = x.index + ((sameN m.log x.index.toNat x.items : Nat) : Int)
    · have hy2 : ((0 : Int) = x.index + ((sameN m.log x.index.toNat x.items : Nat) : Int)) = True := eq_true hy
      rw [hR]
      refine PS_of (af := a101) rfl rfl ?_
      unfold a101
      dsimp only [List.map, ofPV, initEnv]
      repeat' (first | exact ps108 m f x q 3 hm.toMIn | exact ps110 m ⟨false, false, false, false⟩ _ | exact ps109 (withLog (baseC m) (m.log.take (x.index.toNat + sameN m.log x.index.toNat x.items) ++ x.items.drop (sameN m.log x.index.toNat x.items)) (mx m.commit (mn x.commit (x.index + (x.items.length : Int))))) ⟨false, true, false, false⟩ _ _ _ | exact ps111' m.log x.items _ _ x.index i0 i1 (by omega) (by omega) | exact ps106 (baseC m) ⟨false, true, false, false⟩ _ i0 hkl hl1 | exact bs101 m f _ _ (fresh_of rfl) (by omega) (by omega) (by omega) (by omega) | (simp (disch := omega) only [go_sem, seval, reduceCtorEq, mC, xC, rC, intPV, itemsPV_length, intsPV_length, itemsPV_take, intsPV_take, List.take_length, hc, ht, hu, hr2, baseC, hk, he, hs, hw, b0, b1, b2, b3, b4, itemsPV_sz, itemsPV_drop, itemsPV_append, itemsPV_isEmpty, List.length_append, takeApp, maxB, d3, hz2, hn2, hy2]) | with_reducible exact Ev.mk | apply x_call | apply x_callr | ((first | apply x_split | apply x_splitg) <;> intro hβ hb <;> (try simp only [hβ]) <;> clear hβ))
      all_goals ((try simp (disch := omega) only [go_sem, seval, reduceCtorEq, mC, xC, rC, intPV, itemsPV_length, intsPV_length, itemsPV_take, intsPV_take, List.take_length, mn, mx, followM, optRows, replyX, baseC, withLog, withCom, intsPV_nil, itemsPV_nil]) <;> rfl)
    · rw [hR]
      refine PS_of (af := a101) rfl rfl ?_
      unfold a101
      dsimp only [List.map, ofPV, initEnv]
      repeat' (first | exact ps108 m f x q 3 hm.toMIn | exact ps110 m ⟨false, false, false, false⟩ _ | exact ps109 (withLog (baseC m) (m.log.take (x.index.toNat + sameN m.log x.index.toNat x.items) ++ x.items.drop (sameN m.log x.index.toNat x.items)) (mx m.commit (mn x.commit (x.index + (x.items.length : Int))))) ⟨false, true, false, false⟩ _ _ _ | exact ps111' m.log x.items _ _ x.index i0 i1 (by omega) (by omega) | exact ps106 (baseC m) ⟨false, true, false, false⟩ _ i0 hkl hl1 | exact bs101 m f _ _ (fresh_of rfl) (by omega) (by omega) (by omega) (by omega) | (simp (disch := omega) only [go_sem, seval, reduceCtorEq, mC, xC, rC, intPV, itemsPV_length, intsPV_length, itemsPV_take, intsPV_take, List.take_length, hc, ht, hu, hr2, baseC, hk, he, hs, hw, b0, b1, b2, b3, b4, itemsPV_sz, itemsPV_drop, itemsPV_append, itemsPV_isEmpty, List.length_append, takeApp, maxB, d3, hz2, hn2, hy]) | with_reducible exact Ev.mk | apply x_call | apply x_callr | ((first | apply x_split | apply x_splitg) <;> intro hβ hb <;> (try simp only [hβ]) <;> clear hβ))
      all_goals ((try simp (disch := omega) only [go_sem, seval, reduceCtorEq, mC, xC, rC, intPV, itemsPV_length, intsPV_length, itemsPV_take, intsPV_take, List.take_length, mn, mx, followM, optRows, replyX, baseC, withLog, withCom, intsPV_nil, itemsPV_nil]) <;> rfl)

theorem ps52C6 (m : M) (f : Fl) (x : X) (q : Bool) (hm : MFew m) (hi : x.items.length ≤ 300) (hc : concernsX m x 3 = true) (ht : ¬ x.term < m.term) (hu : ¬ m.term < x.term) (hr : ¬ m.role = 3) (hk : ¬ (m.log.length : Int) < x.index) (hz : x.index = 0 ∨ termN m.log x.index = x.logTerm) (he : ¬ 256 < x.index + (x.items.length : Int)) (hs : ¬ (sameX m x : Int) < (x.items.length : Int)) : ∃ g, PS tb 101 [.agg (mC m f), .agg (xC x q)] (.tuple [.agg (mC (appR m x).1 g), .slice true (optRows true (appR m x).2)]) := by
  have := hm.few1; have := hm.few2; have := hm.few3; have := hm.few4
  obtain ⟨ok, i0, i1, i2⟩ := concerns_facts hc
  have hl1 : m.log.length ≤ 100000 := by omega
  have hkl : x.index ≤ (m.log.length : Int) := by omega
  have hr2 : (m.role == 3) = false := by simp [hr]
  have el : (app2 m x).log = m.log := by simp [app2, app1, hu]
  have ec : (app2 m x).commit = m.commit := by simp [app2, app1, hu]
  have er : ¬ (app1 m x).role = 3 := by simp [app1, hu, hr]
  have e2 : app2 m x = baseC m := by simp [app2, app1, baseC, hu]
  have hmiss : missX (app2 m x) x = false := by
    simp only [missX, el, Bool.or_eq_false_iff, Bool.and_eq_false_iff, decide_eq_false_iff_not]; exact ⟨hk, hz.imp (fun h => by simp [h]) (fun h => by simp [h])⟩
  have s1 := sameN_le m.log x.items x.index.toNat
  have s2 := sameN_log m.log x.items x.index.toNat (by omega)
  have es : sameX (app2 m x) x = sameN m.log x.index.toNat x.items := by simp only [sameX, el]
  have es2 : sameX m x = sameN m.log x.index.toNat x.items := rfl
  rw [es2] at hs
  have b0 : (0 : Int) ≤ (sameN m.log x.index.toNat x.items : Nat) := by omega
  have b1 : (0 : Int) ≤ x.index + (sameN m.log x.index.toNat x.items : Nat) := by omega
  have b2 : x.index + ((sameN m.log x.index.toNat x.items : Nat) : Int) ≤ (m.log.length : Int) := by omega
  have b3 : (x.index + ((sameN m.log x.index.toNat x.items : Nat) : Int)).toNat = x.index.toNat + sameN m.log x.index.toNat x.items := by omega
  have b4 : ((sameN m.log x.index.toNat x.items : Nat) : Int) ≤ (x.items.length : Int) := by omega
  have hfull : fullX (app2 m x) x = false := by simp only [fullX, es, ec]; simp; omega
  have e4 : app4 (app2 m x) x = withCom (baseC m) (mx m.commit (mn x.commit (x.index + (x.items.length : Int)))) := by
    unfold app4 logX
    rw [es, if_neg hs, e2]
    rfl
  have hR : appR m x = (app4 (app2 m x) x, some (replyX (app4 (app2 m x) x) x.frm (x.index + (x.items.length : Int)) true)) := by simp [appR, app3, hmiss, hfull, hc, ht, er]
  rw [e4] at hR
  refine ⟨⟨false, true, false, false⟩, ?_⟩
  by_cases hz0 : x.index = 0
  · have hz2 : (x.index != 0) = false := by simp [hz0]
    rw [hR]
    refine PS_of (af := a101) rfl rfl ?_
    unfold a101
    dsimp only [List.map, ofPV, initEnv]
    repeat' (first | exact ps108 m f x q 3 hm.toMIn | exact ps110 m ⟨false, false, false, false⟩ _ | exact ps109 (withCom (baseC m) (mx m.commit (mn x.commit (x.index + (x.items.length : Int))))) ⟨false, true, false, false⟩ _ _ _ | exact ps111' m.log x.items _ _ x.index i0 i1 (by omega) (by omega) | exact bs101 m f _ _ (fresh_of rfl) (by omega) (by omega) (by omega) (by omega) | (simp (disch := omega) only [go_sem, seval, reduceCtorEq, mC, xC, rC, intPV, itemsPV_length, intsPV_length, itemsPV_take, intsPV_take, List.take_length, hc, ht, hu, hr2, baseC, hk, he, hs, b0, b1, b2, b3, b4, itemsPV_sz, itemsPV_drop, itemsPV_append, itemsPV_isEmpty, List.length_append, takeApp, maxB, hz2]) | with_reducible exact Ev.mk | apply x_call | apply x_callr | ((first | apply x_split | apply x_splitg) <;> intro hβ hb <;> (try simp only [hβ]) <;> clear hβ))
    all_goals ((try simp (disch := omega) only [go_sem, seval, reduceCtorEq, mC, xC, rC, intPV, itemsPV_length, intsPV_length, itemsPV_take, intsPV_take, List.take_length, mn, mx, followM, optRows, replyX, baseC, withLog, withCom, intsPV_nil, itemsPV_nil]) <;> rfl)
  · have hz2 : (x.index != 0) = true := by simp [hz0]
    have hn2 : (termN m.log x.index != x.logTerm) = false := by simp [hz.resolve_left hz0]
    rw [hR]
    refine PS_of (af := a101) rfl rfl ?_
    unfold a101
    dsimp only [List.map, ofPV, initEnv]
    repeat' (first | exact ps108 m f x q 3 hm.toMIn | exact ps110 m ⟨false, false, false, false⟩ _ | exact ps109 (withCom (baseC m) (mx m.commit (mn x.commit (x.index + (x.items.length : Int))))) ⟨false, true, false, false⟩ _ _ _ | exact ps111' m.log x.items _ _ x.index i0 i1 (by omega) (by omega) | exact ps106 (baseC m) ⟨false, true, false, false⟩ _ i0 hkl hl1 | exact bs101 m f _ _ (fresh_of rfl) (by omega) (by omega) (by omega) (by omega) | (simp (disch := omega) only [go_sem, seval, reduceCtorEq, mC, xC, rC, intPV, itemsPV_length, intsPV_length, itemsPV_take, intsPV_take, List.take_length, hc, ht, hu, hr2, baseC, hk, he, hs, b0, b1, b2, b3, b4, itemsPV_sz, itemsPV_drop, itemsPV_append, itemsPV_isEmpty, List.length_append, takeApp, maxB, hz2, hn2]) | with_reducible exact Ev.mk | apply x_call | apply x_callr | ((first | apply x_split | apply x_splitg) <;> intro hβ hb <;> (try simp only [hβ]) <;> clear hβ))
    all_goals ((try simp (disch := omega) only [go_sem, seval, reduceCtorEq, mC, xC, rC, intPV, itemsPV_length, intsPV_length, itemsPV_take, intsPV_take, List.take_length, mn, mx, followM, optRows, replyX, baseC, withLog, withCom, intsPV_nil, itemsPV_nil]) <;> rfl)

end Go.Dv.Tryz
