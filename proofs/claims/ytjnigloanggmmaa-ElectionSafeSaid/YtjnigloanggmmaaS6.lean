/-
  Specifications of the functions of this claim, parts 6.
-/
import Derived.Test.YtjnigloanggmmaaTab
import Derived.Test.YtjnigloanggmmaaStep
import Derived.Test.YtjnigloanggmmaaS1
set_option linter.unusedVariables false
set_option linter.unusedSimpArgs false
set_option maxRecDepth 100000
set_option maxHeartbeats 16000000
namespace Go.Dv.Try
open Go Go.Dv

theorem l80 (m : M) (f : Fl) (hl : m.next.length ≤ 140737488355328) (hq : m.mtch.length = m.next.length) (hm : (m.next.length : Int) = m.members) (K : Ex → St → Prop)
    (hx : (List.range m.next.length).all (pOK m) = true → K (.exit 0) ⟨[(1, .ptr 0 0), (3, .p (.int .i64 m.log.length))], [(0, .var false ((mC m f).map .p))], 1, [0]⟩)
    (hr : (List.range m.next.length).all (pOK m) = false → ∀ s, aget s.env 2 = some (.p (.bool false)) → K .ret s) :
    ∀ (n i : Nat), i + n = m.next.length → (List.range i).all (pOK m) = true →
    W tb a80_l0 ⟨[(1, .ptr 0 0), (3, .p (.int .i64 m.log.length)), (4, .p (.int .i64 i))], [(0, .var false ((mC m f).map .p))], 1, [0]⟩ (LK tb (.ghost .lower a80_l0) K) := by
  intro n
  induction n with
  | zero =>
    intro i hi ht
    have h1 : ¬ (i : Int) < m.members := by omega
    have he : i = m.next.length := by omega
    refine i_code (by unfold a80_l0; exact rfl) ?_
    repeat' (first | (simp (disch := omega) only [go_sem, seval, reduceCtorEq, h1, intsPV_length, mC]) | ((first | apply x_split_cond | apply x_split_guard); all_goals (intro hb; (try simp only [Bool.not_eq_true', Bool.not_eq_false'] at hb); (simp (disch := omega) only [go_sem, seval, reduceCtorEq, h1, intsPV_length, mC, hb]); (try simp only [decide_eq_true_eq, decide_eq_false_iff_not, beq_iff_eq, beq_eq_false_iff_ne, ne_eq, bne_iff_ne, bne_eq_false_iff_eq, Decidable.not_not] at hb))))
    rw [he] at ht
    exact hx ht
  | succ n ih =>
    intro i hi ht
    have h1 : (i : Int) < m.members := by omega
    have h2 : i < m.next.length := by omega
    have h3 := intsPV_getD m.next i h2
    have h5 := intsPV_getD m.mtch i (by omega)
    have h4 : (0 : Int) ≤ i := by omega
    refine i_code (by unfold a80_l0; exact rfl) ?_
    repeat' (first | (simp (disch := omega) only [go_sem, seval, reduceCtorEq, h1, h3, h4, h5, intPV, intsPV_length, mC]) | ((first | apply x_split_cond | apply x_split_guard); all_goals (intro hb; (try simp only [Bool.not_eq_true', Bool.not_eq_false'] at hb); (simp (disch := omega) only [go_sem, seval, reduceCtorEq, h1, h3, h4, h5, intPV, intsPV_length, mC, hb]); (try simp only [decide_eq_true_eq, decide_eq_false_iff_not, beq_iff_eq, beq_eq_false_iff_ne, ne_eq, bne_iff_ne, bne_eq_false_iff_eq, Decidable.not_not] at hb))))
    all_goals first
      | exact hr (ra_no h2 (pOK_no (by omega))) _ rfl
      | skip
    refine i_lk (W_round ?_)
    (try simp (disch := omega) only [go_sem, seval, reduceCtorEq, mC])
    exact ih (i + 1) (by omega) (ra_step ht (pOK_yes (by assumption) (by assumption) (by assumption)))

theorem ps80 (m : M) (f : Fl) (hl : m.next.length ≤ 140737488355328) (h1 : 1 ≤ m.id) (h2 : m.id ≤ m.members) : PS tb 80 [.agg (mC m f)] (.bool (okProg m)) := by
  refine PS_of (af := a80) rfl rfl ?_
  unfold a80
  dsimp only [List.map, ofPV, initEnv]
  repeat' (first | (simp (disch := omega) only [go_sem, seval, reduceCtorEq, mC, intsPV_length, itemsPV_length]) | ((first | apply x_split_cond | apply x_split_guard); all_goals (intro hb; (try simp only [Bool.not_eq_true', Bool.not_eq_false'] at hb); (simp (disch := omega) only [go_sem, seval, reduceCtorEq, mC, intsPV_length, itemsPV_length, hb]); (try simp only [decide_eq_true_eq, decide_eq_false_iff_not, beq_iff_eq, beq_eq_false_iff_ne, ne_eq, bne_iff_ne, bne_eq_false_iff_eq, Decidable.not_not] at hb))))
  · simp [okProg, hb, pur, dep]
  · rename_i hb0
    refine W_round ?_
    (try simp (disch := omega) only [go_sem, seval, reduceCtorEq, mC])
    refine l80 m f hl (by omega) hb0 _ ?_ ?_ m.next.length 0 (by omega) (by simp)
    · intro ha
      have e0 : (0 : Int) ≤ m.id - 1 := by omega
      have e1 := intsPV_getD m.next (m.id - 1).toNat (by omega)
      have e2 := intsPV_getD m.mtch (m.id - 1).toNat (by omega)
      repeat' (first | (simp (disch := omega) only [go_sem, seval, reduceCtorEq, mC, e0, e1, e2, intPV, intsPV_length]) | ((first | apply x_split_cond | apply x_split_guard); all_goals (intro hb; (try simp only [Bool.not_eq_true', Bool.not_eq_false'] at hb); (simp (disch := omega) only [go_sem, seval, reduceCtorEq, mC, e0, e1, e2, intPV, intsPV_length, hb]); (try simp only [decide_eq_true_eq, decide_eq_false_iff_not, beq_iff_eq, beq_eq_false_iff_ne, ne_eq, bne_iff_ne, bne_eq_false_iff_eq, Decidable.not_not] at hb))))
      all_goals simp [okProg, ha, hb, hb0, pur, dep]
      all_goals (first | rfl | (simp_all; done) | (simp_all; rfl))
    · intro ha s hs
      (try simp (disch := omega) only [go_sem, seval, reduceCtorEq, hs])
      simp [okProg, ha, pur, dep]
  · simp [okProg, hb, pur, dep]

end Go.Dv.Try
