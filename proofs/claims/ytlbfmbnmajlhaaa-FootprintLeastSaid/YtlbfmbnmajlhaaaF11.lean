/-
  The laws of footprints about the interpreter.
-/
import Derived.Test.YtlbfmbnmajlhaaaF10
set_option linter.unusedVariables false
set_option linter.unusedSimpArgs false
set_option maxRecDepth 100000
set_option maxHeartbeats 4000000
namespace Go.Dv.Try
open Go Go.Dv

theorem walkFootprintLeast {u v w : List PV} (h : Fits [.bool, .slice [.str], .slice [.str]] u) (h' : Fits [.bool, .slice [.str], .slice [.str]] v) (h'' : Fits [.bool, .slice [.str], .slice [.str]] w) :
    PS tb 11 [.agg u, .agg v, .agg w] (.bool true) := by
  obtain ⟨a, rfl⟩ := fit_foot h
  obtain ⟨b, rfl⟩ := fit_foot h'
  obtain ⟨c, rfl⟩ := fit_foot h''
  have hfew := ps_lfew [a, b, c] true (by simp)
  refine PS_of (af := a11) rfl rfl ?_
  unfold a11
  dsimp only [List.map, ofPV, ftC, initEnv, ftRow] at hfew ⊢
  cases hf : [a, b, c].all (fewF 80) with
  | false =>
    rw [hf] at hfew
    repeat' (first | (simp (disch := omega) only [go_sem, seval, reduceCtorEq]) | (apply x_pure; iterate 5 (first | exact hfew | exact ps_lives | ((try simp (disch := omega) only [go_sem, seval, reduceCtorEq]) <;> with_reducible exact rfl))) | ((first | apply x_split_cond | apply x_split_guard); all_goals (intro hb; (try simp only [Bool.not_eq_true', Bool.not_eq_false'] at hb); (simp (disch := omega) only [go_sem, seval, reduceCtorEq, hb]); (try simp only [decide_eq_true_eq, decide_eq_false_iff_not, beq_iff_eq, beq_eq_false_iff_ne, ne_eq, bne_iff_ne, bne_eq_false_iff_eq, Decidable.not_not] at hb))))
  | true =>
    rw [hf] at hfew
    simp only [List.all_cons, List.all_nil, Bool.and_true, Bool.and_eq_true] at hf
    have ha := fewF_sh hf.1 (by omega)
    have hb := fewF_sh hf.2.1 (by omega)
    have hc := fewF_sh hf.2.2 (by omega)
    have la := few_len hf.1
    have lb := few_len hf.2.1
    have q1 := ps_funion a b ha hb ⟨by omega, by omega⟩ ⟨by omega, by omega⟩
    have hu := shF_union ha hb (by omega) (by omega)
    have q2 := ps_fcov c a hc ha
    have q3 := ps_fcov c b hc hb
    have q4 := ps_fvalid (unionF a b).1 hu
    have q5 := ps_fcov (unionF a b).1 a hu ha
    have q6 := ps_fcov (unionF a b).1 b hu hb
    have q7 := ps_fcov c (unionF a b).1 hc hu
    have bad := least_bad a b c
    have good := least_ok a b c
    generalize hun : unionF a b = un at *
    obtain ⟨x, e⟩ := un
    simp only at q1 q4 q5 q6 q7 bad good
    by_cases he : e = 0
    · subst he
      obtain ⟨g1, g2, g3, g4⟩ := good rfl
      rw [g1] at q4; rw [g2] at q5; rw [g3] at q6
      cases h1 : covB c a <;> cases h2 : covB c b <;> (try rw [g4 h1 h2] at q7) <;> rw [h1] at q2 <;> rw [h2] at q3 <;> (repeat' (first | (simp (disch := omega) only [go_sem, seval, reduceCtorEq, ftC]) | (apply x_pure; iterate 5 (first | exact hfew | exact ps_lives | exact q1 | exact q2 | exact q3 | exact q4 | exact q5 | exact q6 | exact q7 | ((try simp (disch := omega) only [go_sem, seval, reduceCtorEq, ftC]) <;> with_reducible exact rfl))) | ((first | apply x_split_cond | apply x_split_guard); all_goals (intro hb; (try simp only [Bool.not_eq_true', Bool.not_eq_false'] at hb); (simp (disch := omega) only [go_sem, seval, reduceCtorEq, ftC, hb]); (try simp only [decide_eq_true_eq, decide_eq_false_iff_not, beq_iff_eq, beq_eq_false_iff_ne, ne_eq, bne_iff_ne, bne_eq_false_iff_eq, Decidable.not_not] at hb)))))
    · obtain ⟨g1, g2⟩ := bad he
      have he' : (e == 0) = false := beq_eq_false_iff_ne.2 he
      have he2 : (e != 0) = true := bne_iff_ne.2 he
      rcases g1 with rfl | rfl <;> (cases h1 : covB c a <;> cases h2 : covB c b <;> (try have g3 := g2 h1 h2) <;> rw [h1] at q2 <;> rw [h2] at q3 <;> (repeat' (first | (simp (disch := omega) only [go_sem, seval, reduceCtorEq, ftC]) | (apply x_pure; iterate 5 (first | exact hfew | exact ps_lives | exact q1 | exact q2 | exact q3 | ((try simp (disch := omega) only [go_sem, seval, reduceCtorEq, ftC]) <;> with_reducible exact rfl))) | ((first | apply x_split_cond | apply x_split_guard); all_goals (intro hb; (try simp only [Bool.not_eq_true', Bool.not_eq_false'] at hb); (simp (disch := omega) only [go_sem, seval, reduceCtorEq, ftC, hb]); (try simp only [decide_eq_true_eq, decide_eq_false_iff_not, beq_iff_eq, beq_eq_false_iff_ne, ne_eq, bne_iff_ne, bne_eq_false_iff_eq, Decidable.not_not] at hb))))) <;> (rw [g3] at hb; cases hb))

end Go.Dv.Try
