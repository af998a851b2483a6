/-
  The comparing functions of heat.Touch, and slices.SortFunc with them.
-/
import Derived.Test.YthdcneolpbbcmaaTabO
import Derived.Test.YthdcneolpbbcmaaStr
import Derived.Test.YthdcneolpbbcmaaSortF
import Derived.Test.YthdcneolpbbcmaaLaysS
set_option linter.unusedVariables false
set_option linter.unusedSimpArgs false
set_option maxRecDepth 100000
set_option maxHeartbeats 1000000
namespace Go.Dv.Try0
open Go Go.Dv

abbrev Hp := ByteArray × Int
def hpC (h : Hp) : List PV := [.str h.1, .int .i64 h.2]

def cmpI (x y : Int) : Int := if x < y then -1 else if y < x then 1 else 0

theorem ps_nan (x : Int) : PS tb 58 [.int .i64 x] (.bool false) := by
  refine PS_of (af := a58) rfl rfl ?_
  unfold a58
  dsimp only [List.map, ofPV, initEnv]
  have n1 : (x != x) = false := by simp
  repeat' (first | (simp (disch := omega) only [go_sem, seval, reduceCtorEq, n1]) | with_reducible exact Ev.mk | ((first | apply x_split | apply x_splitg) <;> intro hβ hb <;> (simp (disch := omega) only [go_sem, seval, reduceCtorEq, n1, hβ]) <;> clear hβ))
  all_goals simp [pur, dep]

theorem ps_cmpI (x y : Int) : PS tb 41 [.int .i64 x, .int .i64 y] (.int .i64 (cmpI x y)) := by
  refine PS_of (af := a41) rfl rfl ?_
  unfold a41
  dsimp only [List.map, ofPV, initEnv]
  unfold cmpI
  by_cases c1 : x < y
  · repeat' (first | exact ps_nan _ | (simp (disch := omega) only [go_sem, seval, reduceCtorEq, c1]) | with_reducible exact Ev.mk | apply x_call | ((first | apply x_split | apply x_splitg) <;> intro hβ hb <;> (simp (disch := omega) only [go_sem, seval, reduceCtorEq, c1, hβ]) <;> clear hβ))
    all_goals simp [pur, dep, c1]
  · by_cases c2 : y < x
    · repeat' (first | exact ps_nan _ | (simp (disch := omega) only [go_sem, seval, reduceCtorEq, c1, c2]) | with_reducible exact Ev.mk | apply x_call | ((first | apply x_split | apply x_splitg) <;> intro hβ hb <;> (simp (disch := omega) only [go_sem, seval, reduceCtorEq, c1, c2, hβ]) <;> clear hβ))
      all_goals simp [pur, dep, c1, c2]
    · repeat' (first | exact ps_nan _ | (simp (disch := omega) only [go_sem, seval, reduceCtorEq, c1, c2]) | with_reducible exact Ev.mk | apply x_call | ((first | apply x_split | apply x_splitg) <;> intro hβ hb <;> (simp (disch := omega) only [go_sem, seval, reduceCtorEq, c1, c2, hβ]) <;> clear hβ))
      all_goals simp [pur, dep, c1, c2]

theorem cmpI_rng (x y : Int) : cmpI x y = -1 ∨ cmpI x y = 0 ∨ cmpI x y = 1 := by
  unfold cmpI
  split
  · simp
  · split <;> simp

theorem ps_or (x y : Int) (b : Bool) : PS tb 40 [.slice b [[.int .i64 x], [.int .i64 y]]] (.int .i64 (if x ≠ 0 then x else y)) := by
  have l2 : ((2 : Nat) : Int) = 2 := rfl
  refine PS_of (af := a40) rfl rfl ?_
  unfold a40
  dsimp only [List.map, ofPV, initEnv]
  repeat' (first | (simp (disch := omega) only [go_sem, seval, reduceCtorEq]) | with_reducible exact Ev.mk | ((first | apply x_split | apply x_splitg) <;> intro hβ hb <;> (simp (disch := omega) only [go_sem, seval, reduceCtorEq, hβ]) <;> clear hβ))
  refine W_round ?_
  (try simp (disch := omega) only [go_sem, seval, reduceCtorEq])
  refine i_code (by unfold a40_l0; exact rfl) ?_
  by_cases c1 : x = 0
  · have c1' : (x != 0) = false := by simpa using c1
    repeat' (first | (simp (disch := omega) only [go_sem, seval, reduceCtorEq, c1']) | with_reducible exact Ev.mk | ((first | apply x_split | apply x_splitg) <;> intro hβ hb <;> (simp (disch := omega) only [go_sem, seval, reduceCtorEq, c1', hβ]) <;> clear hβ))
    refine i_lk (W_round ?_)
    (try simp (disch := omega) only [go_sem, seval, reduceCtorEq])
    refine i_code (by unfold a40_l0; exact rfl) ?_
    by_cases c2 : y = 0
    · have c2' : (y != 0) = false := by simpa using c2
      repeat' (first | (simp (disch := omega) only [go_sem, seval, reduceCtorEq, c2']) | with_reducible exact Ev.mk | ((first | apply x_split | apply x_splitg) <;> intro hβ hb <;> (simp (disch := omega) only [go_sem, seval, reduceCtorEq, c2', hβ]) <;> clear hβ))
      refine i_lk (W_round ?_)
      (try simp (disch := omega) only [go_sem, seval, reduceCtorEq])
      refine i_code (by unfold a40_l0; exact rfl) ?_
      repeat' (first | (simp (disch := omega) only [go_sem, seval, reduceCtorEq]) | with_reducible exact Ev.mk | ((first | apply x_split | apply x_splitg) <;> intro hβ hb <;> (simp (disch := omega) only [go_sem, seval, reduceCtorEq, hβ]) <;> clear hβ))
      all_goals simp [pur, dep, c1, c2]
    · have c2' : (y != 0) = true := by simpa using c2
      repeat' (first | (simp (disch := omega) only [go_sem, seval, reduceCtorEq, c2']) | with_reducible exact Ev.mk | ((first | apply x_split | apply x_splitg) <;> intro hβ hb <;> (simp (disch := omega) only [go_sem, seval, reduceCtorEq, c2', hβ]) <;> clear hβ))
      all_goals simp [pur, dep, c1]
  · have c1' : (x != 0) = true := by simpa using c1
    repeat' (first | (simp (disch := omega) only [go_sem, seval, reduceCtorEq, c1']) | with_reducible exact Ev.mk | ((first | apply x_split | apply x_splitg) <;> intro hβ hb <;> (simp (disch := omega) only [go_sem, seval, reduceCtorEq, c1', hβ]) <;> clear hβ))
    all_goals simp [pur, dep, c1]

theorem ps_scmp (a b : ByteArray) : PS tb 25 [.str a, .str b] (.int .i64 (cmpS a b)) := by
  refine ⟨0, ?_⟩
  have hA : tb.A 25 = none := rfl
  have hX : tb.X = outside := rfl
  simp only [cfs, hA, hX]
  simp [outside, CallF.or, clones, cmpStrX]

def keyC (a b : Hp) : Int := cmpS a.1 b.1
def hotC (a b : Hp) : Int := if cmpI b.2 a.2 ≠ 0 then cmpI b.2 a.2 else cmpS a.1 b.1

theorem ps_hotter (a b : Hp) : PS tb 23 [.agg (hpC a), .agg (hpC b)] (.int .i64 (hotC a b)) := by
  refine PS_of (af := a23) rfl rfl ?_
  unfold a23
  dsimp only [List.map, ofPV, initEnv, hpC]
  repeat' (first | exact ps_cmpI _ _ | exact ps_scmp _ _ | exact ps_or _ _ _ | (simp (disch := omega) only [go_sem, seval, reduceCtorEq]) | with_reducible exact Ev.mk | apply x_call | ((first | apply x_split | apply x_splitg) <;> intro hβ hb <;> (simp (disch := omega) only [go_sem, seval, reduceCtorEq, hβ]) <;> clear hβ))
  all_goals simp [pur, dep, hotC]
theorem ps_bykey (a b : Hp) : PS tb 24 [.agg (hpC a), .agg (hpC b)] (.int .i64 (keyC a b)) := by
  refine PS_of (af := a24) rfl rfl ?_
  unfold a24
  dsimp only [List.map, ofPV, initEnv, hpC]
  repeat' (first | exact ps_scmp _ _ | (simp (disch := omega) only [go_sem, seval, reduceCtorEq]) | with_reducible exact Ev.mk | apply x_call | ((first | apply x_split | apply x_splitg) <;> intro hβ hb <;> (simp (disch := omega) only [go_sem, seval, reduceCtorEq, hβ]) <;> clear hβ))
  all_goals simp [pur, dep, keyC]

open Go.Sort Go.Shelf Go.Proofs Go.Lib

theorem key_lt (a b : Hp) : ltOf keyC a b = true ↔ slt a.1 b.1 = true := by
  unfold ltOf keyC
  rw [decide_eq_true_eq, cmpS_lt]
theorem hot_lt (a b : Hp) : ltOf hotC a b = true ↔ b.2 < a.2 ∨ (a.2 = b.2 ∧ slt a.1 b.1 = true) := by
  unfold ltOf hotC
  rw [decide_eq_true_eq]
  unfold cmpI
  by_cases c1 : b.2 < a.2
  · simp [c1]
  · by_cases c2 : a.2 < b.2
    · have : ¬ a.2 = b.2 := by omega
      simp [c1, c2, this]
    · have e : a.2 = b.2 := by omega
      simp [c1, c2, e, cmpS_lt]

theorem swo_key : SWO (ltOf keyC) := by
  have f : ∀ a b : Hp, ltOf keyC a b = false ↔ slt a.1 b.1 = false := fun a b => by
    rw [← Bool.not_eq_true, ← Bool.not_eq_true, key_lt]
  refine ⟨fun x => (f x x).2 (slt_irrefl _), fun x y z h k => (key_lt _ _).2 (slt_trans ((key_lt _ _).1 h) ((key_lt _ _).1 k)), fun x y z h k => (f _ _).2 (sle_trans ((f _ _).1 k) ((f _ _).1 h))⟩

theorem swo_hot : SWO (ltOf hotC) := by
  have f : ∀ a b : Hp, ltOf hotC a b = false ↔ ¬ (b.2 < a.2 ∨ (a.2 = b.2 ∧ slt a.1 b.1 = true)) := fun a b => by
    rw [← Bool.not_eq_true, hot_lt]
  refine ⟨fun x => (f x x).2 (by rw [slt_irrefl]; simp), fun x y z h k => ?_, fun x y z h k => ?_⟩
  · rw [hot_lt] at h k ⊢
    rcases h with h | ⟨h1, h2⟩ <;> rcases k with k | ⟨k1, k2⟩
    · left; omega
    · left; omega
    · left; omega
    · right; exact ⟨by omega, slt_trans h2 k2⟩
  · rw [f] at h k ⊢
    rintro (hh | ⟨h1, h2⟩)
    · by_cases c : y.2 < x.2
      · exact h (.inl c)
      · exact k (.inl (by omega))
    · by_cases c1 : y.2 < x.2
      · exact h (.inl c1)
      · by_cases c2 : z.2 < y.2
        · exact k (.inl c2)
        · have e1 : x.2 = y.2 := by omega
          have e2 : y.2 = z.2 := by omega
          have g1 : slt x.1 y.1 = false := by
            cases hs : slt x.1 y.1 with
            | false => rfl
            | true => exact absurd (.inr ⟨e1, hs⟩) h
          have g2 : slt y.1 z.1 = false := by
            cases hs : slt y.1 z.1 with
            | false => rfl
            | true => exact absurd (.inr ⟨e2, hs⟩) k
          rw [sle_trans g2 g1] at h2
          cases h2

def decH : List PV → Option Hp
  | [.str s, .int .i64 n] => some (s, n)
  | _ => none
theorem decH_ok (x : List PV) (a : Hp) (h : decH x = some a) : x = hpC a := by
  unfold decH at h
  split at h
  · cases h; rfl
  · cases h
def csH (g : FuncId) : Option (Hp → Hp → Int) := if g = 23 then some hotC else if g = 24 then some keyC else none
theorem csH_ok (g : FuncId) (cf : Hp → Hp → Int) (h : csH g = some cf) : SWO (ltOf cf) ∧ ∀ x y, PureOK Proofs.Try.prog g [.agg (hpC x), .agg (hpC y)] (.int .i64 (cf x y)) := by
  unfold csH at h
  split at h
  · rename_i e; subst e; cases h
    exact ⟨swo_hot, fun x y => calls (ps_hotter x y)⟩
  · split at h
    · rename_i e; subst e; cases h
      exact ⟨swo_key, fun x y => calls (ps_bykey x y)⟩
    · cases h

end Go.Dv.Try0
namespace Go.Dv.Try
open Go Go.Dv

def sortX22 : CallF := sortFX 22 2 Try0.hpC Try0.decH Try0.csH

theorem sortX22_ok : CallsOK Proofs.Try.prog sortX22 :=
  sortFX_ok laysSF (fun w => Proofs.Try.isAgg35 w) (fun w => Proofs.Try.sizeOf35 w) rfl (callable_of' Proofs.Try.func22 rfl rfl) (by decide) (fun x => rfl) (fun x c hc => by
    simp only [Try0.hpC, List.mem_cons, List.not_mem_nil, or_false] at hc
    rcases hc with rfl | rfl <;> rfl) Try0.decH_ok Try0.csH_ok

end Go.Dv.Try
