/-
  Specifications of the functions of this claim, parts 12, 2, 15.
-/
import Derived.Test.YtphkbgjnhfidlaaGreatTab
import Derived.Test.YtphkbgjnhfidlaaGreatStep
import Derived.Test.YtphkbgjnhfidlaaGreatS1
import Derived.Test.YtphkbgjnhfidlaaGreatS7
import Derived.Test.YtphkbgjnhfidlaaGreatS8
set_option linter.unusedVariables false
set_option linter.unusedSimpArgs false
set_option maxRecDepth 100000
set_option maxHeartbeats 16000000
namespace Go.Dv.Tryz
open Go Go.Dv

structure MFew (m : M) : Prop extends MIn m where
  few1 : m.log.length ≤ 300
  few2 : m.votes.length ≤ 40
  few3 : m.next.length ≤ 40
  few4 : m.mtch.length ≤ 40

theorem fresh_of {H : Heap} {n : Nat} (h : H.all (fun x => decide (x.1 < n)) = true) : ∀ j, n ≤ j → aget H j = none := by
  intro j hj
  cases hx : aget H j with
  | none => rfl
  | some b =>
    have := List.all_eq_true.1 h _ (aget_mem _ _ _ hx)
    simp at this; omega

def zeroM : M := ⟨0, 0, 0, 0, [], 0, 0, [], [], []⟩

def withItem (m : M) (d : ByteArray) : M := { m with log := m.log ++ [(m.term, d)], next := m.next.set (m.id - 1).toNat (m.log.length + 1 : Nat), mtch := m.mtch.set (m.id - 1).toNat (m.log.length + 1 : Nat) }

def proposed (m : M) (d : ByteArray) : M := { withItem m d with commit := commOf (withItem m d) }

def errP (m : M) (d : ByteArray) : Int := if okM m = false then 1 else if m.role ≠ 3 then 21 else if 4096 < (d.size : Int) then 2 else if 256 ≤ (m.log.length : Int) then 17 else 0

def resP (m : M) (d : ByteArray) : M := if errP m d = 0 then proposed m d else zeroM

theorem lead_facts {m : M} (h : okM m = true) (hr : m.role = 3) : 1 ≤ m.id ∧ m.id ≤ m.members ∧ m.members ≤ 7 ∧ (m.next.length : Int) = m.members ∧ (m.mtch.length : Int) = m.members ∧ 0 ≤ m.commit ∧ m.commit ≤ m.log.length := by
  simp only [okM, okHead, okMid, okRole, okProg, hr, Bool.and_eq_true, decide_eq_true_eq, if_true, show ¬ (3 : Int) = 1 by decide, show ¬ (3 : Int) = 2 by decide, if_false] at h
  omega

theorem ps47 (m : M) (f : Fl) (d : ByteArray) (hm : MFew m) : ∃ g, PS tb 39 [.agg (mC m f), .str d] (.tuple [.agg (mC (resP m d) g), .int .i64 (errP m d)]) := by
  have := hm.few1; have := hm.few2; have := hm.few3; have := hm.few4
  by_cases h1 : ¬ okM m = true
  · refine ⟨⟨true, true, true, true⟩, PS_of (af := a39) rfl rfl ?_⟩
    have he : errP m d = 1 := by simp [errP, h1]
    have hr : resP m d = zeroM := by simp [resP, he]
    rw [he, hr]
    unfold a39
    dsimp only [List.map, ofPV, initEnv]
    repeat' (first | exact ps28 m f hm.toMIn | (simp (disch := omega) only [go_sem, seval, reduceCtorEq, mC, h1]) | with_reducible exact Ev.mk | apply x_call | ((first | apply x_split | apply x_splitg) <;> intro hβ hb <;> (try simp only [hβ]) <;> clear hβ))
    all_goals rfl
  have h1 := Decidable.not_not.1 h1
  by_cases h2 : ¬ m.role = 3
  · refine ⟨⟨true, true, true, true⟩, PS_of (af := a39) rfl rfl ?_⟩
    have he : errP m d = 21 := by simp [errP, h1, h2]
    have hr : resP m d = zeroM := by simp [resP, he]
    have h2b : (m.role != 3) = true := by simpa using h2
    rw [he, hr]
    unfold a39
    dsimp only [List.map, ofPV, initEnv]
    repeat' (first | exact ps28 m f hm.toMIn | (simp (disch := omega) only [go_sem, seval, reduceCtorEq, mC, h1, h2b]) | with_reducible exact Ev.mk | apply x_call | ((first | apply x_split | apply x_splitg) <;> intro hβ hb <;> (try simp only [hβ]) <;> clear hβ))
    all_goals rfl
  have h2 := Decidable.not_not.1 h2
  have h2c : (m.role != 3) = false := by simp [h2]
  by_cases h3 : 4096 < (d.size : Int)
  · refine ⟨⟨true, true, true, true⟩, PS_of (af := a39) rfl rfl ?_⟩
    have he : errP m d = 2 := by simp [errP, h1, h2, h3]
    have hr : resP m d = zeroM := by simp [resP, he]
    rw [he, hr]
    unfold a39
    dsimp only [List.map, ofPV, initEnv]
    repeat' (first | exact ps28 m f hm.toMIn | (simp (disch := omega) only [go_sem, seval, reduceCtorEq, mC, h1, h2c, h3]) | with_reducible exact Ev.mk | apply x_call | ((first | apply x_split | apply x_splitg) <;> intro hβ hb <;> (try simp only [hβ]) <;> clear hβ))
    all_goals rfl
  by_cases h4 : 256 ≤ (m.log.length : Int)
  · refine ⟨⟨true, true, true, true⟩, PS_of (af := a39) rfl rfl ?_⟩
    have he : errP m d = 17 := by simp [errP, h1, h2, h3, h4]
    have hr : resP m d = zeroM := by simp [resP, he]
    rw [he, hr]
    unfold a39
    dsimp only [List.map, ofPV, initEnv]
    repeat' (first | exact ps28 m f hm.toMIn | (simp (disch := omega) only [go_sem, seval, reduceCtorEq, mC, h1, h2c, h3, h4, itemsPV_length]) | with_reducible exact Ev.mk | apply x_call | ((first | apply x_split | apply x_splitg) <;> intro hβ hb <;> (try simp only [hβ]) <;> clear hβ))
    all_goals rfl
  refine ⟨⟨false, false, false, false⟩, PS_of (af := a39) rfl rfl ?_⟩
  have he : errP m d = 0 := by simp [errP, h1, h2, h3, h4]
  have hr : resP m d = proposed m d := by simp [resP, he]
  obtain ⟨f1, f2, f3, f4, f5, f6, f7⟩ := lead_facts h1 h2
  have g1 : (0 : Int) ≤ m.id - 1 := by omega
  have g2 := intsPV_getD m.next (m.id - 1).toNat (by omega)
  have g3 := intsPV_getD m.mtch (m.id - 1).toNat (by omega)
  have g4 : m.id - 1 < (m.next.length : Int) := by omega
  have g5 : m.id - 1 < (m.mtch.length : Int) := by omega
  rw [he, hr]
  unfold a39
  dsimp only [List.map, ofPV, initEnv]
  have t1 : (m.log ++ [(m.term, d)]).take (m.log.length + 1) = m.log ++ [(m.term, d)] := List.take_of_length_le (by simp)
  have t2 : ∀ (i : Nat) (x : Int), (m.next.set i x).take m.next.length = m.next.set i x := fun i x => List.take_of_length_le (by simp)
  have t3 : ∀ (i : Nat) (x : Int), (m.mtch.set i x).take m.mtch.length = m.mtch.set i x := fun i x => List.take_of_length_le (by simp)
  have c1 : 0 ≤ (withItem m d).commit := f6
  have c2 : (withItem m d).log.length ≤ 9223372036854775807 := by simp [withItem]; omega
  have c3 : (withItem m d).mtch.length ≤ 9223372036854775807 := by simp [withItem]; omega
  have c4 : (withItem m d).members ≤ 9223372036854775807 := hm.me2
  repeat' (first | exact ps28 m f hm.toMIn | exact ps102 (withItem m d) ⟨false, false, false, false⟩ c2 c3 c4 c1 | exact bs101 m f _ _ (fresh_of rfl) (by omega) (by omega) (by omega) (by omega) | (simp (disch := omega) only [go_sem, seval, reduceCtorEq, mC, rC, intPV, h1, h2c, h3, h4, g1, g2, g3, g4, g5, t1, t2, t3, itemsPV_length, intsPV_length, itemsPV_sing, itemsPV_append, itemsPV_sz, itemsPV_take, intsPV_take, intsPV_set, List.length_append, List.length_set, List.take_length, maxB]) | with_reducible exact Ev.mk | apply x_call | apply x_callr | ((first | apply x_split | apply x_splitg) <;> intro hβ hb <;> (try simp only [hβ]) <;> clear hβ))
  (try simp (disch := omega) only [go_sem, seval, reduceCtorEq, mC, proposed, withItem, itemsPV_length, intsPV_length, itemsPV_take, intsPV_take, List.length_append, List.length_set, t1, t2, t3, List.take_length])

theorem ps104' (l : List Int) (b : Bool) (i : Int) (n : Int) (h0 : 0 ≤ i) (hi : i < (l.length : Int)) (hl : l.length ≤ 100000) :
    PS tb 90 [.slice b (intsPV l), .int .i64 i, .int .i64 n] (.slice false (intsPV (l.set i.toNat n))) := by
  obtain ⟨k, rfl⟩ := Int.eq_ofNat_of_zero_le h0
  exact ps104 l b k n (by omega) hl

theorem ps48 (m : M) (f : Fl) (d : ByteArray) (hm : MFew m) : ∃ g, PS tb 45 [.agg (mC m f), .str d] (.tuple [.agg (mC (resP m d) g), .int .i64 (errP m d)]) := by
  have := hm.few1; have := hm.few2; have := hm.few3; have := hm.few4
  by_cases h1 : ¬ okM m = true
  · refine ⟨⟨true, true, true, true⟩, PS_of (af := a45) rfl rfl ?_⟩
    have he : errP m d = 1 := by simp [errP, h1]
    have hr : resP m d = zeroM := by simp [resP, he]
    rw [he, hr]
    unfold a45
    dsimp only [List.map, ofPV, initEnv]
    repeat' (first | exact ps29 m f hm.toMIn | (simp (disch := omega) only [go_sem, seval, reduceCtorEq, mC, h1]) | with_reducible exact Ev.mk | apply x_call | ((first | apply x_split | apply x_splitg) <;> intro hβ hb <;> (try simp only [hβ]) <;> clear hβ))
    all_goals rfl
  have h1 := Decidable.not_not.1 h1
  by_cases h2 : ¬ m.role = 3
  · refine ⟨⟨true, true, true, true⟩, PS_of (af := a45) rfl rfl ?_⟩
    have he : errP m d = 21 := by simp [errP, h1, h2]
    have hr : resP m d = zeroM := by simp [resP, he]
    have h2b : (m.role != 3) = true := by simpa using h2
    rw [he, hr]
    unfold a45
    dsimp only [List.map, ofPV, initEnv]
    repeat' (first | exact ps29 m f hm.toMIn | (simp (disch := omega) only [go_sem, seval, reduceCtorEq, mC, h1, h2b]) | with_reducible exact Ev.mk | apply x_call | ((first | apply x_split | apply x_splitg) <;> intro hβ hb <;> (try simp only [hβ]) <;> clear hβ))
    all_goals rfl
  have h2 := Decidable.not_not.1 h2
  have h2c : (m.role != 3) = false := by simp [h2]
  by_cases h3 : 4096 < (d.size : Int)
  · refine ⟨⟨true, true, true, true⟩, PS_of (af := a45) rfl rfl ?_⟩
    have he : errP m d = 2 := by simp [errP, h1, h2, h3]
    have hr : resP m d = zeroM := by simp [resP, he]
    rw [he, hr]
    unfold a45
    dsimp only [List.map, ofPV, initEnv]
    repeat' (first | exact ps29 m f hm.toMIn | (simp (disch := omega) only [go_sem, seval, reduceCtorEq, mC, h1, h2c, h3]) | with_reducible exact Ev.mk | apply x_call | ((first | apply x_split | apply x_splitg) <;> intro hβ hb <;> (try simp only [hβ]) <;> clear hβ))
    all_goals rfl
  by_cases h4 : 256 ≤ (m.log.length : Int)
  · refine ⟨⟨true, true, true, true⟩, PS_of (af := a45) rfl rfl ?_⟩
    have he : errP m d = 17 := by simp [errP, h1, h2, h3, h4]
    have hr : resP m d = zeroM := by simp [resP, he]
    rw [he, hr]
    unfold a45
    dsimp only [List.map, ofPV, initEnv]
    repeat' (first | exact ps29 m f hm.toMIn | (simp (disch := omega) only [go_sem, seval, reduceCtorEq, mC, h1, h2c, h3, h4, itemsPV_length]) | with_reducible exact Ev.mk | apply x_call | ((first | apply x_split | apply x_splitg) <;> intro hβ hb <;> (try simp only [hβ]) <;> clear hβ))
    all_goals rfl
  refine ⟨⟨false, f.b, false, false⟩, PS_of (af := a45) rfl rfl ?_⟩
  have he : errP m d = 0 := by simp [errP, h1, h2, h3, h4]
  have hr : resP m d = proposed m d := by simp [resP, he]
  obtain ⟨f1, f2, f3, f4, f5, f6, f7⟩ := lead_facts h1 h2
  have g1 : (0 : Int) ≤ m.id - 1 := by omega
  rw [he, hr]
  unfold a45
  dsimp only [List.map, ofPV, initEnv]
  have c1 : 0 ≤ (withItem m d).commit := f6
  have c2 : (withItem m d).log.length ≤ 9223372036854775807 := by simp [withItem]; omega
  have c3 : (withItem m d).mtch.length ≤ 9223372036854775807 := by simp [withItem]; omega
  have c4 : (withItem m d).members ≤ 9223372036854775807 := hm.me2
  repeat' (first | exact ps29 m f hm.toMIn | exact ps103 m.log [(m.term, d)] _ _ m.log.length (Nat.le_refl _) (by omega) (by simp) | exact ps104' m.next _ _ _ g1 (by omega) (by omega) | exact ps104' m.mtch _ _ _ g1 (by omega) (by omega) | exact ps105 (withItem m d) ⟨false, f.b, false, false⟩ c2 c3 c4 c1 | (simp (disch := omega) only [go_sem, seval, reduceCtorEq, mC, h1, h2c, h3, h4, itemsPV_length, intsPV_length, itemsPV_sing, List.length_append, List.length_set, List.take_length]) | with_reducible exact Ev.mk | apply x_call | ((first | apply x_split | apply x_splitg) <;> intro hβ hb <;> (try simp only [hβ]) <;> clear hβ))
  (try simp (disch := omega) only [go_sem, seval, reduceCtorEq, mC, proposed, withItem])

def memPV (l : List (M × Fl)) : List (List PV) := l.map fun t => mC t.1 t.2

theorem memPV_length (l : List (M × Fl)) : (memPV l).length = l.length := by simp [memPV]

theorem memPV_sz (l : List (M × Fl)) : allSz 10 (memPV l) = true := by simp [allSz, memPV, mC]

theorem memPV_append (a b : List (M × Fl)) : memPV a ++ memPV b = memPV (a ++ b) := by simp [memPV]

theorem memPV_take (a : List (M × Fl)) (n : Nat) : (memPV a).take n = memPV (a.take n) := by simp [memPV, List.map_take]

theorem memPV_get (l : List (M × Fl)) (i : Nat) (h : i < l.length) : (memPV l)[i]? = some (mC l[i].1 l[i].2) := by simp [memPV, h]

theorem memPV_singF (m : M) : [[PV.int .i64 m.id, .int .i64 m.members, .int .i64 m.term, .int .i64 m.vote, .slice false (itemsPV m.log), .int .i64 m.role, .int .i64 m.commit, .slice false (intsPV m.votes), .slice false (intsPV m.next), .slice false (intsPV m.mtch)]] = memPV [(m, ⟨false, false, false, false⟩)] := rfl

theorem memPV_setF (l : List (M × Fl)) (i : Nat) (m : M) : (memPV l).set i [.int .i64 m.id, .int .i64 m.members, .int .i64 m.term, .int .i64 m.vote, .slice false (itemsPV m.log), .int .i64 m.role, .int .i64 m.commit, .slice false (intsPV m.votes), .slice false (intsPV m.next), .slice false (intsPV m.mtch)] = memPV (l.set i (m, ⟨false, false, false, false⟩)) := by simp [memPV, List.map_set, mC]

abbrev ffff : Fl := ⟨false, false, false, false⟩

def own (l : List (M × Fl)) : List (M × Fl) := l.map fun t => (t.1, ffff)

theorem own_length (l : List (M × Fl)) : (own l).length = l.length := by simp [own]

theorem own_step (l : List (M × Fl)) (i : Nat) (h : i < l.length) : own (l.take i) ++ [(l[i].1, ffff)] = own (l.take (i + 1)) := by
  rw [List.take_add_one, List.getElem?_eq_getElem h]
  simp only [own, List.map_append, List.map_cons, List.map_nil, Option.toList]

theorem ps_owned (m : M) (f : Fl) (h1 : m.log.length ≤ 100000) (h2 : m.votes.length ≤ 100000) (h3 : m.next.length ≤ 100000) (h4 : m.mtch.length ≤ 100000) : PS tb 71 [.agg (mC m f)] (.agg (mC m ffff)) := by
  refine PS_of (af := a71) rfl rfl ?_
  unfold a71
  dsimp only [List.map, ofPV, initEnv]
  repeat' (first | exact ps97 m.log _ h1 | exact ps129 m.votes _ h2 | exact ps129 m.next _ h3 | exact ps129 m.mtch _ h4 | (simp (disch := omega) only [go_sem, seval, reduceCtorEq, mC]) | with_reducible exact Ev.mk | apply x_call | ((first | apply x_split | apply x_splitg) <;> intro hβ hb <;> (try simp only [hβ]) <;> clear hβ))
  all_goals rfl

theorem adel_absent {α : Type} : ∀ {H : List (Nat × α)} {k : Nat}, aget H k = none → adel H k = H
  | [], _, _ => rfl
  | (j, v) :: r, k, h => by
    simp only [aget] at h
    simp only [adel]
    split at h
    · cases h
    · rename_i hn
      rw [if_neg hn, adel_absent h]

def SmallM (l : List (M × Fl)) : Prop := l.length ≤ 1000 ∧ ∀ t ∈ l, MFew t.1

def chH (l : List (M × Fl)) (a : Bool) (net : List (X × Bool)) (b : Bool) (H : Heap) (nx i : Nat) : Heap :=
  (nx + 3, .row false 10 (memPV (own (l.take i)))) :: (nx + 2, .var false [.ref (nx + 3) i 0 i, .p (.slice true [])]) :: (nx + 1, .var false [.p (.slice true []), .p (.slice true [])]) :: (nx, .var false [.p (.slice a (memPV l)), .p (.slice b (netPV net))]) :: H

theorem l_change (l : List (M × Fl)) (hs : SmallM l) (a : Bool) (net : List (X × Bool)) (b : Bool) (node : Int) (fn : DV) (H : Heap) (nx : Nat) (hH : ∀ j, nx ≤ j → aget H j = none) (K : Ex → St → Prop)
    (hx : K (.exit 0) ⟨[(1, .p (.int .i64 node)), (2, fn), (3, .ptr nx 0), (6, .ptr (nx + 1) 0), (7, .ptr (nx + 2) 0)], chH l a net b H nx l.length, nx + (l.length + 4), [nx]⟩) : ∀ (m i : Nat), i + m = l.length →
    W tb a35_l0 ⟨[(1, .p (.int .i64 node)), (2, fn), (3, .ptr nx 0), (6, .ptr (nx + 1) 0), (7, .ptr (nx + 2) 0), (13, .p (.slice a (memPV l))), (14, .p (.int .i64 l.length)), (15, .p (.int .i64 i))], chH l a net b H nx i, nx + (i + 4), [nx]⟩ (LK tb (.ghost (.free [9]) a35_l0) K) := by
  have h1000 := hs.1
  intro m
  induction m with
  | zero =>
    intro i hi
    have e : i = l.length := by omega
    subst e
    have h1 : ¬ (l.length : Int) < l.length := by omega
    refine i_code (by unfold a35_l0; exact rfl) ?_
    repeat' (first | (simp (disch := omega) only [go_sem, seval, reduceCtorEq, h1]) | with_reducible exact Ev.mk | ((first | apply x_split | apply x_splitg) <;> intro hβ hb <;> (try simp only [hβ]) <;> clear hβ))
    exact hx
  | succ m ih =>
    intro i hi
    have h1 : (i : Int) < l.length := by omega
    have h2 : i < l.length := by omega
    have h4 : (0 : Int) ≤ i := by omega
    have h3 := memPV_get l i h2
    have f := hs.2 l[i] (List.getElem_mem h2)
    have := f.few1; have := f.few2; have := f.few3; have := f.few4
    have g1 : (i + 4 == 3) = false := by simp
    have g2 : (i + 4 == 2) = false := by simp
    have g3 : (i + 4 == 1) = false := by simp
    have g4 : ∀ k, aget H (nx + k) = none := fun k => hH _ (by omega)
    have g5 : aget H nx = none := hH _ (by omega)
    have g6 : (nx + (i + 4) == nx) = false := by simp
    have e1 : (own (l.take i)).length = i := by rw [own_length, List.length_take]; omega
    have e2 : own (l.take i) ++ [(l[i].1, ffff)] = own (l.take (i + 1)) := own_step l i h2
    have m1 : (i + 1) * 144 ≤ 140737488355328 := by omega
    have m2 : i + 1 ≤ 140737488355328 := by omega
    refine i_code (by unfold a35_l0; exact rfl) ?_
    repeat' (first | exact ps_owned l[i].1 l[i].2 (by omega) (by omega) (by omega) (by omega) | (simp (disch := omega) only [go_sem, seval, reduceCtorEq, chH, h1, h3, h4, g1, g2, g3, g4, g5, g6, beqA, beqB, beqC, e1, mC, memPV_length, memPV_sz, memPV_append, memPV_singF, e2, m1, m2, maxBytes]) | with_reducible exact Ev.mk | apply x_call | ((first | apply x_split | apply x_splitg) <;> intro hβ hb <;> (try simp only [hβ]) <;> clear hβ))
    refine i_lk (W_round ?_)
    have g7 : adel H (nx + (i + 4)) = H := adel_absent (g4 _)
    have g8 : (nx == nx + (i + 4)) = false := by simp
    (try simp (disch := omega) only [go_sem, seval, reduceCtorEq, g1, g2, g3, g6, g7, g8, beqA])
    exact ih (i + 1) (by omega)

def Chg (f : FuncId) (caps : List DV) (m : M) (g : Fl) (H : Heap) (nx : Nat) (m' : M) (q : List (X × Bool)) (H' : Heap) : Prop :=
  ∀ (H1 : Heap) (k : Nat), (∀ j, j < nx → aget H1 j = aget H j) → nx ≤ k → (∀ j, k ≤ j → aget H1 j = none) →
    ∃ (H2 : Heap) (k' : Nat) (g' : Fl) (c : Bool), BS tb f (.agg ((mC m g).map .p) :: caps) H1 k (.tuple [.agg ((mC m' g').map .p), .p (.slice c (netPV q))]) H2 k' ∧ k ≤ k' ∧
      (∀ j, nx ≤ j → j < k → aget H2 j = aget H1 j) ∧ (∀ j, j < nx → aget H2 j = aget H' j) ∧ ∀ j, k' ≤ j → aget H2 j = none

theorem bs_change (l : List (M × Fl)) (hs : SmallM l) (a : Bool) (net q : List (X × Bool)) (hn : Small net) (hq : Small q) (b : Bool) (i : Nat) (hi : i < l.length) (f : FuncId) (caps : List DV) (H H' : Heap) (nx : Nat) (hH : ∀ j, nx ≤ j → aget H j = none)
    (m' : M) (hm' : MFew m') (hf : Chg f caps l[i].1 ffff H nx m' q H') :
    ∃ r H3 k3, BS tb 35 [.agg [.p (.slice a (memPV l)), .p (.slice b (netPV net))], .p (.int .i64 ((i : Int) + 1)), .func f caps] H nx r H3 k3 ∧
      ((∃ d, r = .agg [.ref (nx + 3) l.length 0 l.length, .p (.slice d (netPV (cut (clr (net ++ q)))))]) ∧ aget H3 (nx + 3) = some (.row false 10 (memPV ((own l).set i (m', ffff)))) ∧ (∀ j, j < nx → aget H3 j = aget H' j) ∧ nx + 4 ≤ k3 ∧ ∀ j, k3 ≤ j → aget H3 j = none) := by
  have h1000 := hs.1
  have z1 : ∀ k, aget H (nx + k) = none := fun k => hH _ (by omega)
  have z2 : aget H nx = none := hH _ (by omega)
  have own1 : own (l.take l.length) = own l := by rw [List.take_length]
  obtain ⟨H2, k', g', c, hb, hk, f1, f2, f3⟩ := hf (chH l a net b H nx l.length) (nx + (l.length + 4)) (by
    intro j hj
    simp only [chH, aget]
    rw [if_neg (by simp; omega), if_neg (by simp; omega), if_neg (by simp; omega), if_neg (by simp; omega)]) (by omega) (by
    intro j hj
    simp only [chH, aget]
    rw [if_neg (by simp; omega), if_neg (by simp; omega), if_neg (by simp; omega), if_neg (by simp; omega)]
    exact hH j (by omega))
  have q0 : aget H2 nx = some (.var false [.p (.slice a (memPV l)), .p (.slice b (netPV net))]) := by rw [f1 _ (by omega) (by omega)]; simp [chH, aget]
  have q1 : aget H2 (nx + 1) = some (.var false [.p (.slice true []), .p (.slice true [])]) := by rw [f1 _ (by omega) (by omega)]; simp [chH, aget]
  have q2 : aget H2 (nx + 2) = some (.var false [.ref (nx + 3) l.length 0 l.length, .p (.slice true [])]) := by rw [f1 _ (by omega) (by omega)]; simp [chH, aget]
  have q3 : aget H2 (nx + 3) = some (.row false 10 (memPV (own l))) := by rw [f1 _ (by omega) (by omega)]; simp [chH, aget, own1]
  have qk : aget H2 k' = none := f3 _ (by omega)
  obtain ⟨d, hsend⟩ := ps_send net q hn hq b c
  refine BS_any (af := a35) rfl rfl ?_
  unfold a35
  dsimp only [initEnv]
  have z3 : aget H (nx + 1 + 1) = none := hH _ (by omega)
  have z4 : aget H (nx + 1 + 1 + 1) = none := hH _ (by omega)
  repeat' (first | (simp (disch := omega) only [go_sem, seval, reduceCtorEq, z1, z2, Nat.add_assoc, beqA, beqB, beqC, memPV_length]) | with_reducible exact Ev.mk | ((first | apply x_split | apply x_splitg) <;> intro hβ hb <;> (try simp only [hβ]) <;> clear hβ))
  refine W_round ?_
  (try simp (disch := omega) only [go_sem, seval, reduceCtorEq])
  refine l_change l hs a net b _ _ H nx hH _ ?_ l.length 0 (by omega)
  have c0 : aget (chH l a net b H nx l.length) (nx + 2) = some (.var false [.ref (nx + 3) l.length 0 l.length, .p (.slice true [])]) := by simp [chH, aget]
  have c1 : aget (chH l a net b H nx l.length) (nx + 3) = some (.row false 10 (memPV (own l))) := by simp [chH, aget, own1]
  have i1 : ((i + 1 : Nat) : Int) - 1 = i := by omega
  have i2 : (0 : Int) ≤ i := by omega
  have i3 : (i : Int) < l.length := by omega
  have hio : i < (own l).length := by rw [own_length]; exact hi
  have p3 : (memPV (own l))[i]? = some (mC l[i].1 ffff) := by rw [memPV_get _ _ hio]; simp [own]
  have n0 : (k' == nx) = false := by simp; omega
  have n1 : (k' == nx + 1) = false := by simp; omega
  have n2 : (k' == nx + 2) = false := by simp; omega
  have n3 : (k' == nx + 3) = false := by simp; omega
  have s1 := hm'.few1; have s2 := hm'.few2; have s3 := hm'.few3; have s4 := hm'.few4
  have d1 : ¬ nx + 3 = nx := by omega
  have d2 : ¬ nx + 3 = nx + 2 := by omega
  have d3 : ¬ nx + 3 = nx + 1 := by omega
  have d4 : ¬ nx + 2 = nx + 1 := by omega
  have d5 : ¬ nx + 2 = nx + 3 := by omega
  have d6 : ¬ nx + 2 = nx := by omega
  have d7 : ¬ nx + 1 = nx + 3 := by omega
  repeat' (first | exact ps_owned m' g' (by omega) (by omega) (by omega) (by omega) | exact hsend | exact hb | (simp (disch := omega) only [go_sem, seval, reduceCtorEq, c0, c1, d1, d2, d3, d4, d5, d6, d7, i1, i2, i3, if_false, own_length, memPV_length, p3, mC, qk, q0, q1, q2, q3, n0, n1, n2, n3, _root_.Go.Dv.aget_hset, memPV_setF]) | with_reducible exact Ev.mk | apply x_call | apply x_callr | ((first | apply x_split | apply x_splitg) <;> intro hβ hb <;> (try simp only [hβ]) <;> clear hβ))
  refine ⟨⟨d, rfl⟩, fun j hj => ?_, by omega, fun j hj => ?_⟩
  · rw [if_neg (by simp; omega), if_neg (by omega), if_neg (by omega), if_neg (by omega)]
    exact f2 j hj
  · rw [if_neg (by simp; omega), if_neg (by omega), if_neg (by omega), if_neg (by omega)]
    exact f3 j (by omega)

theorem chg_same (m : M) (H : Heap) (nx : Nat) : Chg 69 [] m ffff H nx m [] H := by
  intro H1 k h1 h2 h3
  have e0 : aget H1 k = none := h3 k (by omega)
  have e1 : aget H1 (k + 1) = none := h3 _ (by omega)
  refine ⟨(k + 1, .var false ((mC m ffff).map .p)) :: (k, .var false ((mC m ffff).map .p)) :: H1, k + 2, ffff, true, ?_, by omega, ?_, ?_, ?_⟩
  · refine BS_of (af := a69) rfl rfl ?_
    unfold a69
    dsimp only [initEnv]
    repeat' (first | (simp (disch := omega) only [go_sem, seval, reduceCtorEq, mC, e0, e1, beqA, beqB, beqC]) | with_reducible exact Ev.mk | ((first | apply x_split | apply x_splitg) <;> intro hβ hb <;> (try simp only [hβ]) <;> clear hβ))
    all_goals rfl
  · intro j h4 h5
    simp only [aget]
    rw [if_neg (by simp; omega), if_neg (by simp; omega)]
  · intro j h4
    simp only [aget]
    rw [if_neg (by simp; omega), if_neg (by simp; omega)]
    exact h1 j h4
  · intro j h4
    simp only [aget]
    rw [if_neg (by simp; omega), if_neg (by simp; omega)]
    exact h3 j (by omega)

def beat (m : M) (k : Nat) : X := ⟨3, m.id, (k + 1 : Nat), m.term, m.next.getD k 0, termN m.log (m.next.getD k 0), m.commit, false, m.log.drop (m.next.getD k 0).toNat⟩

def beats (m : M) : Nat → List X
  | 0 => []
  | k + 1 => if ((k + 1 : Nat) : Int) = m.id then beats m k else beats m k ++ [beat m k]

def beatsOf (m : M) : List X := if okM m = true ∧ m.role = 3 then beats m m.members.toNat else []

theorem beats_length (m : M) (k : Nat) : (beats m k).length ≤ k := by
  induction k with
  | zero => simp [beats]
  | succ k ih => simp only [beats]; split <;> (try simp only [List.length_append, List.length_cons, List.length_nil]) <;> omega

theorem prog_at {m : M} (h : okM m = true) (hr : m.role = 3) (i : Nat) (hi : i < m.next.length) : 0 ≤ m.next.getD i 0 ∧ m.next.getD i 0 ≤ m.log.length := by
  simp only [okM, okHead, okMid, okRole, okProg, hr, Bool.and_eq_true, decide_eq_true_eq, if_true, show ¬ (3 : Int) = 1 by decide, show ¬ (3 : Int) = 2 by decide, if_false, List.all_eq_true, List.mem_range] at h
  have h2 := h.2.2.1.1.2 i hi
  simp only [pOK, Bool.and_eq_true, decide_eq_true_eq] at h2
  omega

theorem l50 (m : M) (f : Fl) (hm : MFew m) (ho : okM m = true) (hr : m.role = 3) (K : Ex → St → Prop)
    (hx : ∀ s v, aget s.env 3 = some v → pur s.heap dep v = some (.slice false (msgsPV (beats m m.members.toNat))) → s.env = [(3, v)] → K (.exit 0) s) :
    ∀ (n k : Nat), k + n = m.members.toNat →
    W tb a38_l0 ⟨[(1, .ptr 0 0), (3, .ref 1 (beats m k).length 0 (beats m k).length), (4, .p (.int .i64 (k + 1 : Nat)))], [(1, .row false 9 (msgsPV (beats m k))), (0, .var false ((mC m f).map .p))], 2, [0]⟩ (LK tb (.ghost .lower a38_l0) K) := by
  have := hm.few1; have := hm.few2; have := hm.few3; have := hm.few4
  obtain ⟨f1, f2, f3, f4, f5, f6, f7⟩ := lead_facts ho hr
  intro n
  induction n with
  | zero =>
    intro k hk
    have h1 : ¬ ((k + 1 : Nat) : Int) ≤ m.members := by omega
    refine i_code (by unfold a38_l0; exact rfl) ?_
    repeat' (first | (simp (disch := omega) only [go_sem, seval, reduceCtorEq, h1, mC]) | with_reducible exact Ev.mk | ((first | apply x_split | apply x_splitg) <;> intro hβ hb <;> (try simp only [hβ]) <;> clear hβ))
    have e : k = m.members.toNat := by omega
    subst e
    refine hx _ _ rfl (pur_all rfl (by rw [msgsPV_length])) rfl
  | succ n ih =>
    intro k hk
    have h1 : ((k + 1 : Nat) : Int) ≤ m.members := by omega
    have h2 : k < m.next.length := by omega
    obtain ⟨b1, b2⟩ := prog_at ho hr k h2
    have h3 := intsPV_getD m.next k h2
    have h4 : ((k + 1 : Nat) : Int) - 1 = (k : Nat) := by omega
    have h5 : (0 : Int) ≤ (k : Nat) := by omega
    have bl := beats_length m k
    refine i_code (by unfold a38_l0; exact rfl) ?_
    by_cases h6 : ((k + 1 : Nat) : Int) = m.id
    · have h7 : (((k + 1 : Nat) : Int) == m.id) = true := by simpa using h6
      repeat' (first | (simp (disch := omega) only [go_sem, seval, reduceCtorEq, h1, h7, mC]) | with_reducible exact Ev.mk | ((first | apply x_split | apply x_splitg) <;> intro hβ hb <;> (try simp only [hβ]) <;> clear hβ))
      refine i_lk (W_round ?_)
      (try simp (disch := omega) only [go_sem, seval, reduceCtorEq, mC])
      have := ih (k + 1) (by omega)
      rw [beats, if_pos h6] at this
      exact this
    · have h7 : (((k + 1 : Nat) : Int) == m.id) = false := by simpa using h6
      have h8 : (m.log.drop (m.next.getD k 0).toNat).length ≤ 100000 := by simp; omega
      repeat' (first | exact ps106 m f _ b1 b2 (by omega) | exact ps97 _ _ h8 | (simp (disch := omega) only [go_sem, seval, reduceCtorEq, h1, h7, h3, h4, h5, b1, b2, intPV, mC, itemsPV_sz, itemsPV_length, itemsPV_take, itemsPV_drop, List.take_length, msgsPV_sing, msgsPV_sz, msgsPV_append, msgsPV_length, maxB]) | with_reducible exact Ev.mk | apply x_call | ((first | apply x_split | apply x_splitg) <;> intro hβ hb <;> (try simp only [hβ]) <;> clear hβ))
      refine i_lk (W_round ?_)
      (try simp (disch := omega) only [go_sem, seval, reduceCtorEq, mC])
      have := ih (k + 1) (by omega)
      rw [beats, if_neg h6] at this
      simp only [List.length_append, List.length_cons, List.length_nil, Nat.zero_add] at this
      exact this

theorem ps50 (m : M) (f : Fl) (hm : MFew m) : ∃ b, PS tb 38 [.agg (mC m f)] (.slice b (msgsPV (beatsOf m))) := by
  by_cases ho : okM m = true
  · by_cases hr : m.role = 3
    · refine ⟨false, PS_of (af := a38) rfl rfl ?_⟩
      have hr2 : (m.role != 3) = false := by simp [hr]
      obtain ⟨f1, f2, f3, f4, f5, f6, f7⟩ := lead_facts ho hr
      have he : beatsOf m = beats m m.members.toNat := if_pos ⟨ho, hr⟩
      unfold a38
      dsimp only [List.map, ofPV, initEnv]
      rw [he]
      repeat' (first | exact ps28 m f hm.toMIn | (simp (disch := omega) only [go_sem, seval, reduceCtorEq, mC, ho, hr2]) | with_reducible exact Ev.mk | apply x_call | ((first | apply x_split | apply x_splitg) <;> intro hβ hb <;> (try simp only [hβ]) <;> clear hβ))
      refine W_round ?_
      (try simp (disch := omega) only [go_sem, seval, reduceCtorEq, mC])
      refine l50 m f hm ho hr _ ?_ m.members.toNat 0 (by omega)
      intro s v hv hp hs
      obtain ⟨env, H, nx, mk⟩ := s
      simp only at hs hp
      subst hs
      (try simp (disch := omega) only [go_sem, seval, reduceCtorEq, hp])
      all_goals exact hp
    · refine ⟨true, PS_of (af := a38) rfl rfl ?_⟩
      have hr2 : (m.role != 3) = true := by simp [hr]
      have he : beatsOf m = [] := if_neg fun h => hr h.2
      unfold a38
      dsimp only [List.map, ofPV, initEnv]
      rw [he]
      repeat' (first | exact ps28 m f hm.toMIn | (simp (disch := omega) only [go_sem, seval, reduceCtorEq, mC, ho, hr2]) | with_reducible exact Ev.mk | apply x_call | ((first | apply x_split | apply x_splitg) <;> intro hβ hb <;> (try simp only [hβ]) <;> clear hβ))
      all_goals rfl
  · refine ⟨true, PS_of (af := a38) rfl rfl ?_⟩
    have he : beatsOf m = [] := if_neg fun h => ho h.1
    have ho2 : okM m = false := by simpa using ho
    unfold a38
    dsimp only [List.map, ofPV, initEnv]
    rw [he]
    repeat' (first | exact ps28 m f hm.toMIn | (simp (disch := omega) only [go_sem, seval, reduceCtorEq, mC, ho2]) | with_reducible exact Ev.mk | apply x_call | ((first | apply x_split | apply x_splitg) <;> intro hβ hb <;> (try simp only [hβ]) <;> clear hβ))
    all_goals rfl

theorem l51 (m : M) (f : Fl) (hm : MFew m) (ho : okM m = true) (hr : m.role = 3) (K : Ex → St → Prop)
    (hx : ∀ s v, aget s.env 3 = some v → pur s.heap dep v = some (.slice false (msgsPV (beats m m.members.toNat))) → s.env = [(3, v)] → K (.exit 0) s) :
    ∀ (n k : Nat), k + n = m.members.toNat →
    W tb a44_l0 ⟨[(1, .ptr 0 0), (3, .ref 1 (beats m k).length 0 (beats m k).length), (4, .p (.int .i64 (k + 1 : Nat)))], [(1, .row false 9 (msgsPV (beats m k))), (0, .var false ((mC m f).map .p))], 2, [0]⟩ (LK tb (.ghost .lower a44_l0) K) := by
  have := hm.few1; have := hm.few2; have := hm.few3; have := hm.few4
  obtain ⟨f1, f2, f3, f4, f5, f6, f7⟩ := lead_facts ho hr
  have hr2 : (m.role == 3) = true := by simp [hr]
  intro n
  induction n with
  | zero =>
    intro k hk
    have h1 : ¬ ((k + 1 : Nat) : Int) ≤ m.members := by omega
    refine i_code (by unfold a44_l0; exact rfl) ?_
    repeat' (first | (simp (disch := omega) only [go_sem, seval, reduceCtorEq, h1, mC]) | with_reducible exact Ev.mk | ((first | apply x_split | apply x_splitg) <;> intro hβ hb <;> (try simp only [hβ]) <;> clear hβ))
    have e : k = m.members.toNat := by omega
    subst e
    refine hx _ _ rfl (pur_all rfl (by rw [msgsPV_length])) rfl
  | succ n ih =>
    intro k hk
    have h1 : ((k + 1 : Nat) : Int) ≤ m.members := by omega
    have h2 : k < m.next.length := by omega
    obtain ⟨b1, b2⟩ := prog_at ho hr k h2
    have h3 := intsPV_getD m.next k h2
    have h4 : ((k + 1 : Nat) : Int) - 1 = (k : Nat) := by omega
    have h5 : (0 : Int) ≤ (k : Nat) := by omega
    have bl := beats_length m k
    refine i_code (by unfold a44_l0; exact rfl) ?_
    by_cases h6 : ((k + 1 : Nat) : Int) = m.id
    · have h7 : (((k + 1 : Nat) : Int) != m.id) = false := by simpa using h6
      repeat' (first | exact ps29 m f hm.toMIn | (simp (disch := omega) only [go_sem, seval, reduceCtorEq, h1, h7, mC, ho, hr2]) | with_reducible exact Ev.mk | apply x_call | ((first | apply x_split | apply x_splitg) <;> intro hβ hb <;> (try simp only [hβ]) <;> clear hβ))
      refine i_lk (W_round ?_)
      (try simp (disch := omega) only [go_sem, seval, reduceCtorEq, mC])
      have := ih (k + 1) (by omega)
      rw [beats, if_pos h6] at this
      exact this
    · have h7 : (((k + 1 : Nat) : Int) != m.id) = true := by simpa using h6
      have h8 : (m.log.drop (m.next.getD k 0).toNat).length ≤ 100000 := by simp; omega
      repeat' (first | exact ps29 m f hm.toMIn | exact ps107 m.log _ _ b1 b2 (by omega) | exact ps103 [] _ true _ 0 (by simp) (by simp) h8 | (simp (disch := omega) only [go_sem, seval, reduceCtorEq, h1, h7, h3, h4, h5, b1, b2, intPV, mC, ho, hr2, itemsPV_sz, itemsPV_length, itemsPV_take, itemsPV_drop, List.take_length, msgsPV_sing, msgsPV_sz, msgsPV_append, msgsPV_length, maxB]) | with_reducible exact Ev.mk | apply x_call | ((first | apply x_split | apply x_splitg) <;> intro hβ hb <;> (try simp only [hβ]) <;> clear hβ))
      refine i_lk (W_round ?_)
      (try simp (disch := omega) only [go_sem, seval, reduceCtorEq, mC])
      have := ih (k + 1) (by omega)
      rw [beats, if_neg h6] at this
      simp only [List.length_append, List.length_cons, List.length_nil, Nat.zero_add] at this
      exact this

theorem ps51 (m : M) (f : Fl) (hm : MFew m) : ∃ b, PS tb 44 [.agg (mC m f)] (.slice b (msgsPV (beatsOf m))) := by
  refine ⟨false, PS_of (af := a44) rfl rfl ?_⟩
  unfold a44
  dsimp only [List.map, ofPV, initEnv]
  repeat' (first | (simp (disch := omega) only [go_sem, seval, reduceCtorEq, mC]) | with_reducible exact Ev.mk | ((first | apply x_split | apply x_splitg) <;> intro hβ hb <;> (try simp only [hβ]) <;> clear hβ))
  by_cases ho : okM m = true
  · by_cases hr : m.role = 3
    · obtain ⟨f1, f2, f3, f4, f5, f6, f7⟩ := lead_facts ho hr
      have he : beatsOf m = beats m m.members.toNat := if_pos ⟨ho, hr⟩
      rw [he]
      refine W_round ?_
      (try simp (disch := omega) only [go_sem, seval, reduceCtorEq, mC])
      refine l51 m f hm ho hr _ ?_ m.members.toNat 0 (by omega)
      intro s v hv hp hs
      obtain ⟨env, H, nx, mk⟩ := s
      simp only at hs hp
      subst hs
      (try simp (disch := omega) only [go_sem, seval, reduceCtorEq, hp])
      all_goals exact hp
    · have hr2 : (m.role == 3) = false := by simp [hr]
      have he : beatsOf m = [] := if_neg fun h => hr h.2
      rw [he]
      refine W_round ?_
      (try simp (disch := omega) only [go_sem, seval, reduceCtorEq, mC])
      refine i_code (by unfold a44_l0; exact rfl) ?_
      repeat' (first | exact ps29 m f hm.toMIn | (simp (disch := omega) only [go_sem, seval, reduceCtorEq, mC, ho, hr2]) | with_reducible exact Ev.mk | apply x_call | ((first | apply x_split | apply x_splitg) <;> intro hβ hb <;> (try simp only [hβ]) <;> clear hβ))
      all_goals rfl
  · have he : beatsOf m = [] := if_neg fun h => ho h.1
    have ho2 : okM m = false := by simpa using ho
    rw [he]
    refine W_round ?_
    (try simp (disch := omega) only [go_sem, seval, reduceCtorEq, mC])
    refine i_code (by unfold a44_l0; exact rfl) ?_
    repeat' (first | exact ps29 m f hm.toMIn | (simp (disch := omega) only [go_sem, seval, reduceCtorEq, mC, ho2]) | with_reducible exact Ev.mk | apply x_call | ((first | apply x_split | apply x_splitg) <;> intro hβ hb <;> (try simp only [hβ]) <;> clear hβ))
    all_goals rfl

theorem beats_items (m : M) (k : Nat) : ∀ x ∈ beats m k, x.items.length ≤ m.log.length := by
  induction k with
  | zero => simp [beats]
  | succ k ih =>
    intro x hx
    simp only [beats] at hx
    split at hx
    · exact ih x hx
    · rcases List.mem_append.1 hx with hx | hx
      · exact ih x hx
      · simp only [List.mem_singleton] at hx; subst hx; simp [beat]

end Go.Dv.Tryz
