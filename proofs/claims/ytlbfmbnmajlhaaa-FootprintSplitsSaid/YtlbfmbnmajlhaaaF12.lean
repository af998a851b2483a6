/-
  The laws of footprints about the interpreter.
-/
import Derived.Test.YtlbfmbnmajlhaaaF10
set_option linter.unusedVariables false
set_option linter.unusedSimpArgs false
set_option maxRecDepth 100000
set_option maxHeartbeats 4000000
namespace Go.Dv.Try
open Go Go.Dv

/-! ### projections -/

def splitR (fr to at_ : ByteArray) : ByteArray × ByteArray × ByteArray × ByteArray × Int := if splitOK fr to at_ then (fr, at_, at_, to, 0) else (E, E, E, E, 1)

theorem ps_split (fr to at_ : ByteArray) (hf : fr.size ≤ 100) (ht : to.size ≤ 100) (ha : at_.size ≤ 100) :
    PS tb 49 [.agg [.str fr, .str to], .str at_] (.tuple [.agg [.str (splitR fr to at_).1, .str (splitR fr to at_).2.1], .agg [.str (splitR fr to at_).2.2.1, .str (splitR fr to at_).2.2.2.1], .int .i64 (splitR fr to at_).2.2.2.2]) := by
  have q1 := ps_r4range fr to hf ht
  have q2 := ps_r4bound at_ ha
  refine PS_of (af := a49) rfl rfl ?_
  unfold a49
  dsimp only [List.map, ofPV, initEnv]
  by_cases ht0 : to = E
  · have h5 : decide (to = (⟨#[]⟩ : ByteArray)) = true := decide_eq_true ht0
    cases h1 : vrange fr to <;> cases h2 : vbound at_ <;> cases h3 : slt fr at_ <;> rw [h1] at q1 <;> rw [h2] at q2 <;> simp only [splitR, splitOK, h1, h2, h3, h5, Bool.and_true, Bool.and_false, Bool.true_or, Bool.false_eq_true, if_true, if_false] <;> (repeat' (first | (simp (disch := omega) only [go_sem, seval, reduceCtorEq, h3, h5]) | (apply x_pure; iterate 5 (first | exact q1 | exact q2 | ((try simp (disch := omega) only [go_sem, seval, reduceCtorEq, h3, h5]) <;> with_reducible exact rfl))) | ((first | apply x_split_cond | apply x_split_guard); all_goals (intro hb; (try simp only [Bool.not_eq_true', Bool.not_eq_false'] at hb); (simp (disch := omega) only [go_sem, seval, reduceCtorEq, h3, h5, hb]); (try simp only [decide_eq_true_eq, decide_eq_false_iff_not, beq_iff_eq, beq_eq_false_iff_ne, ne_eq, bne_iff_ne, bne_eq_false_iff_eq, Decidable.not_not] at hb)))))
  · have h5 : decide (to = (⟨#[]⟩ : ByteArray)) = false := decide_eq_false ht0
    cases h1 : vrange fr to <;> cases h2 : vbound at_ <;> cases h3 : slt fr at_ <;> cases h4 : slt at_ to <;> rw [h1] at q1 <;> rw [h2] at q2 <;> simp only [splitR, splitOK, h1, h2, h3, h4, h5, Bool.and_true, Bool.and_false, Bool.or_true, Bool.or_false, Bool.false_eq_true, if_true, if_false] <;> (repeat' (first | (simp (disch := omega) only [go_sem, seval, reduceCtorEq, h3, h4, h5]) | (apply x_pure; iterate 5 (first | exact q1 | exact q2 | ((try simp (disch := omega) only [go_sem, seval, reduceCtorEq, h3, h4, h5]) <;> with_reducible exact rfl))) | ((first | apply x_split_cond | apply x_split_guard); all_goals (intro hb; (try simp only [Bool.not_eq_true', Bool.not_eq_false'] at hb); (simp (disch := omega) only [go_sem, seval, reduceCtorEq, h3, h4, h5, hb]); (try simp only [decide_eq_true_eq, decide_eq_false_iff_not, beq_iff_eq, beq_eq_false_iff_ne, ne_eq, bne_iff_ne, bne_eq_false_iff_eq, Decidable.not_not] at hb)))))

theorem fit_range {u : List PV} (h : Fits [.str, .str] u) : ∃ fr to, u = [.str fr, .str to] := by
  obtain ⟨y0, u0, rfl, e0, h⟩ := h.cons
  obtain ⟨y1, u1, rfl, e1, h⟩ := h.cons
  have hn := h.nil
  subst hn
  obtain ⟨n0, rfl⟩ := fit_str e0
  obtain ⟨n1, rfl⟩ := fit_str e1
  exact ⟨n0, n1, rfl⟩

theorem walkFootprintSplits {u v : List PV} {w : PV} (h : Fits [.bool, .slice [.str], .slice [.str]] u) (h' : Fits [.str, .str] v) (h'' : Fit .str w) :
    PS tb 14 [.agg u, .agg v, w] (.bool true) := by
  obtain ⟨f, rfl⟩ := fit_foot h
  obtain ⟨fr, to, rfl⟩ := fit_range h'
  obtain ⟨at_, rfl⟩ := fit_str h''
  have hfew := ps_lfew [f] true (by simp)
  refine PS_of (af := a14) rfl rfl ?_
  unfold a14
  dsimp only [List.map, ofPV, ftC, initEnv, ftRow] at hfew ⊢
  cases hf : [f].all (fewF 80) with
  | false =>
    rw [hf] at hfew
    repeat' (first | (simp (disch := omega) only [go_sem, seval, reduceCtorEq]) | (apply x_pure; iterate 5 (first | exact hfew | exact ps_lives | ((try simp (disch := omega) only [go_sem, seval, reduceCtorEq]) <;> with_reducible exact rfl))) | ((first | apply x_split_cond | apply x_split_guard); all_goals (intro hb; (try simp only [Bool.not_eq_true', Bool.not_eq_false'] at hb); (simp (disch := omega) only [go_sem, seval, reduceCtorEq, hb]); (try simp only [decide_eq_true_eq, decide_eq_false_iff_not, beq_iff_eq, beq_eq_false_iff_ne, ne_eq, bne_iff_ne, bne_eq_false_iff_eq, Decidable.not_not] at hb))))
  | true =>
    rw [hf] at hfew
    simp only [List.all_cons, List.all_nil, Bool.and_true] at hf
    have ha := fewF_sh hf (by omega)
    have la := few_len hf
    by_cases s1 : fr.size ≤ 100
    · have s1' : ¬ (100 : Int) < fr.size := by omega
      by_cases s2 : to.size ≤ 100
      · have s2' : ¬ (100 : Int) < to.size := by omega
        by_cases s3 : at_.size ≤ 100
        · have s3' : ¬ (100 : Int) < at_.size := by omega
          have q1 := ps_split fr to at_ s1 s2 s3
          have q2 := ps_fvalid f ha
          cases hok : splitOK fr to at_ with
          | false =>
            simp only [splitR, hok, Bool.false_eq_true, if_false] at q1
            repeat' (first | (simp (disch := omega) only [go_sem, seval, reduceCtorEq, s1', s2', s3']) | (apply x_pure; iterate 5 (first | exact hfew | exact ps_lives | exact q1 | exact q2 | ((try simp (disch := omega) only [go_sem, seval, reduceCtorEq, s1', s2', s3']) <;> with_reducible exact rfl))) | ((first | apply x_split_cond | apply x_split_guard); all_goals (intro hb; (try simp only [Bool.not_eq_true', Bool.not_eq_false'] at hb); (simp (disch := omega) only [go_sem, seval, reduceCtorEq, s1', s2', s3', hb]); (try simp only [decide_eq_true_eq, decide_eq_false_iff_not, beq_iff_eq, beq_eq_false_iff_ne, ne_eq, bne_iff_ne, bne_eq_false_iff_eq, Decidable.not_not] at hb))))
          | true =>
            simp only [splitR, hok, if_true] at q1
            cases hv : validF f with
            | false => rw [hv] at q2; repeat' (first | (simp (disch := omega) only [go_sem, seval, reduceCtorEq, s1', s2', s3']) | (apply x_pure; iterate 5 (first | exact hfew | exact ps_lives | exact q1 | exact q2 | ((try simp (disch := omega) only [go_sem, seval, reduceCtorEq, s1', s2', s3']) <;> with_reducible exact rfl))) | ((first | apply x_split_cond | apply x_split_guard); all_goals (intro hb; (try simp only [Bool.not_eq_true', Bool.not_eq_false'] at hb); (simp (disch := omega) only [go_sem, seval, reduceCtorEq, s1', s2', s3', hb]); (try simp only [decide_eq_true_eq, decide_eq_false_iff_not, beq_iff_eq, beq_eq_false_iff_ne, ne_eq, bne_iff_ne, bne_eq_false_iff_eq, Decidable.not_not] at hb))))
            | true =>
              rw [hv] at q2
              obtain ⟨g1, g2, g3, g4⟩ := splits hv hok
              have q3 := ps_fproj f fr at_ s1 s3 ha
              have q4 := ps_fproj f at_ to s3 s2 ha
              have q5 := ps_fproj f fr to s1 s2 ha
              have hp := fun x y => shF_proj (x := x) (y := y) ha
              have lp : ∀ x y, (projR f x y).r.length ≤ 80 ∧ (projR f x y).w.length ≤ 80 := fun x y => by
                unfold projR
                split
                · exact ⟨Nat.le_trans (List.length_filter_le _ _) la.1, Nat.le_trans (List.length_filter_le _ _) la.2⟩
                · simp
              have l1 := lp fr at_
              have l2 := lp at_ to
              have q6 := ps_funion (projR f fr at_) (projR f at_ to) (hp _ _) (hp _ _) ⟨by omega, by omega⟩ ⟨by omega, by omega⟩
              have hu := shF_union (hp fr at_) (hp at_ to) (by omega) (by omega)
              have q7 := ps_rsame (unionF (projR f fr at_) (projR f at_ to)).1 (projR f fr to) hu
              have q8 := ps_fcov f (unionF (projR f fr at_) (projR f at_ to)).1 ha hu
              rw [g2] at q7; rw [g3] at q8; rw [g1] at q6
              have g6 : (unionF (projR f fr at_) (projR f at_ to)).1.r.length = (unionF (projR f fr at_) (projR f at_ to)).1.r.length := rfl
              rcases g4 with g4 | g4
              · repeat' (first | (simp (disch := omega) only [go_sem, seval, reduceCtorEq, s1', s2', s3', ftC, strRow_length]) | (apply x_pure; iterate 5 (first | exact hfew | exact ps_lives | exact q1 | exact q2 | exact q3 | exact q4 | exact q5 | exact q6 | exact q7 | exact q8 | ((try simp (disch := omega) only [go_sem, seval, reduceCtorEq, s1', s2', s3', ftC, strRow_length]) <;> with_reducible exact rfl))) | ((first | apply x_split_cond | apply x_split_guard); all_goals (intro hb; (try simp only [Bool.not_eq_true', Bool.not_eq_false'] at hb); (simp (disch := omega) only [go_sem, seval, reduceCtorEq, s1', s2', s3', ftC, strRow_length, hb]); (try simp only [decide_eq_true_eq, decide_eq_false_iff_not, beq_iff_eq, beq_eq_false_iff_ne, ne_eq, bne_iff_ne, bne_eq_false_iff_eq, Decidable.not_not] at hb))))
                all_goals (exfalso; simp_all)
              · have g5 : (((projR f fr at_).r.length : Int) + ((projR f at_ to).r.length : Int)) = ((unionF (projR f fr at_) (projR f at_ to)).1.r.length : Int) := by omega
                have g7 : (unionF (projR f fr at_) (projR f at_ to)).1.r.length ≤ 160 := by omega
                repeat' (first | (simp (disch := omega) only [go_sem, seval, reduceCtorEq, s1', s2', s3', ftC, strRow_length, g5]) | (apply x_pure; iterate 5 (first | exact hfew | exact ps_lives | exact q1 | exact q2 | exact q3 | exact q4 | exact q5 | exact q6 | exact q7 | exact q8 | ((try simp (disch := omega) only [go_sem, seval, reduceCtorEq, s1', s2', s3', ftC, strRow_length, g5]) <;> with_reducible exact rfl))) | ((first | apply x_split_cond | apply x_split_guard); all_goals (intro hb; (try simp only [Bool.not_eq_true', Bool.not_eq_false'] at hb); (simp (disch := omega) only [go_sem, seval, reduceCtorEq, s1', s2', s3', ftC, strRow_length, g5, hb]); (try simp only [decide_eq_true_eq, decide_eq_false_iff_not, beq_iff_eq, beq_eq_false_iff_ne, ne_eq, bne_iff_ne, bne_eq_false_iff_eq, Decidable.not_not] at hb))))
        · have s3' : (100 : Int) < at_.size := by omega
          repeat' (first | (simp (disch := omega) only [go_sem, seval, reduceCtorEq, s1', s2', s3']) | (apply x_pure; iterate 5 (first | exact hfew | exact ps_lives | ((try simp (disch := omega) only [go_sem, seval, reduceCtorEq, s1', s2', s3']) <;> with_reducible exact rfl))) | ((first | apply x_split_cond | apply x_split_guard); all_goals (intro hb; (try simp only [Bool.not_eq_true', Bool.not_eq_false'] at hb); (simp (disch := omega) only [go_sem, seval, reduceCtorEq, s1', s2', s3', hb]); (try simp only [decide_eq_true_eq, decide_eq_false_iff_not, beq_iff_eq, beq_eq_false_iff_ne, ne_eq, bne_iff_ne, bne_eq_false_iff_eq, Decidable.not_not] at hb))))
      · have s2' : (100 : Int) < to.size := by omega
        repeat' (first | (simp (disch := omega) only [go_sem, seval, reduceCtorEq, s1', s2']) | (apply x_pure; iterate 5 (first | exact hfew | exact ps_lives | ((try simp (disch := omega) only [go_sem, seval, reduceCtorEq, s1', s2']) <;> with_reducible exact rfl))) | ((first | apply x_split_cond | apply x_split_guard); all_goals (intro hb; (try simp only [Bool.not_eq_true', Bool.not_eq_false'] at hb); (simp (disch := omega) only [go_sem, seval, reduceCtorEq, s1', s2', hb]); (try simp only [decide_eq_true_eq, decide_eq_false_iff_not, beq_iff_eq, beq_eq_false_iff_ne, ne_eq, bne_iff_ne, bne_eq_false_iff_eq, Decidable.not_not] at hb))))
    · have s1' : (100 : Int) < fr.size := by omega
      repeat' (first | (simp (disch := omega) only [go_sem, seval, reduceCtorEq, s1']) | (apply x_pure; iterate 5 (first | exact hfew | exact ps_lives | ((try simp (disch := omega) only [go_sem, seval, reduceCtorEq, s1']) <;> with_reducible exact rfl))) | ((first | apply x_split_cond | apply x_split_guard); all_goals (intro hb; (try simp only [Bool.not_eq_true', Bool.not_eq_false'] at hb); (simp (disch := omega) only [go_sem, seval, reduceCtorEq, s1', hb]); (try simp only [decide_eq_true_eq, decide_eq_false_iff_not, beq_iff_eq, beq_eq_false_iff_ne, ne_eq, bne_iff_ne, bne_eq_false_iff_eq, Decidable.not_not] at hb))))

theorem ps_rof (c0 c1 c2 c5 c6 c7 : PV) (r w : List ByteArray) (b d : Bool) : PS tb 45 [.agg [c0, c1, c2, .slice b (strRow r), .slice d (strRow w), c5, c6, c7]] (.agg (ftC ⟨false, b, r, d, w⟩)) := by
  refine PS_of (af := a45) rfl rfl ?_
  unfold a45
  dsimp only [List.map, ofPV, initEnv, ftC]
  repeat' (first | (simp (disch := omega) only [go_sem, seval, reduceCtorEq]) | ((first | apply x_split_cond | apply x_split_guard); all_goals (intro hb; (try simp only [Bool.not_eq_true', Bool.not_eq_false'] at hb); (simp (disch := omega) only [go_sem, seval, reduceCtorEq, hb]); (try simp only [decide_eq_true_eq, decide_eq_false_iff_not, beq_iff_eq, beq_eq_false_iff_ne, ne_eq, bne_iff_ne, bne_eq_false_iff_eq, Decidable.not_not] at hb))))
theorem ps_fof (c0 c1 c2 c5 c6 c7 : PV) (r w : List ByteArray) (b d : Bool) (hr : r.length ≤ 1000) (hw : w.length ≤ 1000) : PS tb 48 [.agg [c0, c1, c2, .slice b (strRow r), .slice d (strRow w), c5, c6, c7]] (.agg (ftC ⟨false, false, r, false, w⟩)) := by
  refine PS_of (af := a48) rfl rfl ?_
  unfold a48
  dsimp only [List.map, ofPV, initEnv, ftC]
  repeat' (first | (simp (disch := omega) only [go_sem, seval, reduceCtorEq]) | (apply x_pure; iterate 5 (first | exact ps_clone r b hr | exact ps_clone w d hw | ((try simp (disch := omega) only [go_sem, seval, reduceCtorEq]) <;> with_reducible exact rfl))) | ((first | apply x_split_cond | apply x_split_guard); all_goals (intro hb; (try simp only [Bool.not_eq_true', Bool.not_eq_false'] at hb); (simp (disch := omega) only [go_sem, seval, reduceCtorEq, hb]); (try simp only [decide_eq_true_eq, decide_eq_false_iff_not, beq_iff_eq, beq_eq_false_iff_ne, ne_eq, bne_iff_ne, bne_eq_false_iff_eq, Decidable.not_not] at hb))))

theorem walkFootprintProjects {u v w : List PV} (h : Fits [.bool, .slice [.str], .slice [.str]] u) (h' : Fits [.str, .str] v) (h'' : Fits [.int .i64, .int .i64, .slice [.int .i64, .int .i64, .str], .slice [.str], .slice [.str], .slice [.str, .int .i64, .int .i64, .str], .str, .int .i64] w) :
    PS tb 13 [.agg u, .agg v, .agg w] (.bool true) := by
  obtain ⟨f, rfl⟩ := fit_foot h
  obtain ⟨fr, to, rfl⟩ := fit_range h'
  obtain ⟨c0, u0, rfl, e0, h''⟩ := h''.cons
  obtain ⟨c1, u1, rfl, e1, h''⟩ := h''.cons
  obtain ⟨c2, u2, rfl, e2, h''⟩ := h''.cons
  obtain ⟨c3, u3, rfl, e3, h''⟩ := h''.cons
  obtain ⟨c4, u4, rfl, e4, h''⟩ := h''.cons
  obtain ⟨c5, u5, rfl, e5, h''⟩ := h''.cons
  obtain ⟨c6, u6, rfl, e6, h''⟩ := h''.cons
  obtain ⟨c7, u7, rfl, e7, h''⟩ := h''.cons
  have hn := h''.nil
  subst hn
  obtain ⟨rd, rfl⟩ := fit_strs e3
  obtain ⟨pu, rfl⟩ := fit_strs e4
  have q1 := ps_rof c0 c1 c2 c5 c6 c7 rd pu false false
  have hfew := ps_lfew [f, ⟨false, false, rd, false, pu⟩] true (by simp)
  refine PS_of (af := a13) rfl rfl ?_
  unfold a13
  dsimp only [List.map, ofPV, ftC, initEnv, ftRow] at hfew q1 ⊢
  cases hf : [f, (⟨false, false, rd, false, pu⟩ : Ft)].all (fewF 80) with
  | false =>
    rw [hf] at hfew
    repeat' (first | (simp (disch := omega) only [go_sem, seval, reduceCtorEq]) | (apply x_pure; iterate 5 (first | exact hfew | exact ps_lives | exact q1 | ((try simp (disch := omega) only [go_sem, seval, reduceCtorEq]) <;> with_reducible exact rfl))) | ((first | apply x_split_cond | apply x_split_guard); all_goals (intro hb; (try simp only [Bool.not_eq_true', Bool.not_eq_false'] at hb); (simp (disch := omega) only [go_sem, seval, reduceCtorEq, hb]); (try simp only [decide_eq_true_eq, decide_eq_false_iff_not, beq_iff_eq, beq_eq_false_iff_ne, ne_eq, bne_iff_ne, bne_eq_false_iff_eq, Decidable.not_not] at hb))))
  | true =>
    rw [hf] at hfew
    simp only [List.all_cons, List.all_nil, Bool.and_true, Bool.and_eq_true] at hf
    have ha := fewF_sh hf.1 (by omega)
    have ho := fewF_sh hf.2 (by omega)
    have lo := few_len hf.2
    simp only at lo
    by_cases s1 : fr.size ≤ 100
    · have s1' : ¬ (100 : Int) < fr.size := by omega
      by_cases s2 : to.size ≤ 100
      · have s2' : ¬ (100 : Int) < to.size := by omega
        have q2 := ps_fproj f fr to s1 s2 ha
        have q3 := ps_rproj f fr to s1 s2 ha
        have q4 := ps_rsame (projR f fr to) (projR f fr to) (shF_proj ha)
        have q5 := ps_fof c0 c1 c2 c5 c6 c7 rd pu false false (by omega) (by omega)
        have q6 := ps_rsame ⟨false, false, rd, false, pu⟩ ⟨false, false, rd, false, pu⟩ ho
        rw [show sameF (projR f fr to) (projR f fr to) = true from by simp [sameF]] at q4
        rw [show sameF (⟨false, false, rd, false, pu⟩ : Ft) ⟨false, false, rd, false, pu⟩ = true from by simp [sameF]] at q6
        repeat' (first | (simp (disch := omega) only [go_sem, seval, reduceCtorEq, s1', s2', ftC]) | (apply x_pure; iterate 5 (first | exact hfew | exact ps_lives | exact q1 | exact q2 | exact q3 | exact q4 | exact q5 | exact q6 | ((try simp (disch := omega) only [go_sem, seval, reduceCtorEq, s1', s2', ftC]) <;> with_reducible exact rfl))) | ((first | apply x_split_cond | apply x_split_guard); all_goals (intro hb; (try simp only [Bool.not_eq_true', Bool.not_eq_false'] at hb); (simp (disch := omega) only [go_sem, seval, reduceCtorEq, s1', s2', ftC, hb]); (try simp only [decide_eq_true_eq, decide_eq_false_iff_not, beq_iff_eq, beq_eq_false_iff_ne, ne_eq, bne_iff_ne, bne_eq_false_iff_eq, Decidable.not_not] at hb))))
      · have s2' : (100 : Int) < to.size := by omega
        repeat' (first | (simp (disch := omega) only [go_sem, seval, reduceCtorEq, s1', s2']) | (apply x_pure; iterate 5 (first | exact hfew | exact ps_lives | exact q1 | ((try simp (disch := omega) only [go_sem, seval, reduceCtorEq, s1', s2']) <;> with_reducible exact rfl))) | ((first | apply x_split_cond | apply x_split_guard); all_goals (intro hb; (try simp only [Bool.not_eq_true', Bool.not_eq_false'] at hb); (simp (disch := omega) only [go_sem, seval, reduceCtorEq, s1', s2', hb]); (try simp only [decide_eq_true_eq, decide_eq_false_iff_not, beq_iff_eq, beq_eq_false_iff_ne, ne_eq, bne_iff_ne, bne_eq_false_iff_eq, Decidable.not_not] at hb))))
    · have s1' : (100 : Int) < fr.size := by omega
      repeat' (first | (simp (disch := omega) only [go_sem, seval, reduceCtorEq, s1']) | (apply x_pure; iterate 5 (first | exact hfew | exact ps_lives | exact q1 | ((try simp (disch := omega) only [go_sem, seval, reduceCtorEq, s1']) <;> with_reducible exact rfl))) | ((first | apply x_split_cond | apply x_split_guard); all_goals (intro hb; (try simp only [Bool.not_eq_true', Bool.not_eq_false'] at hb); (simp (disch := omega) only [go_sem, seval, reduceCtorEq, s1', hb]); (try simp only [decide_eq_true_eq, decide_eq_false_iff_not, beq_iff_eq, beq_eq_false_iff_ne, ne_eq, bne_iff_ne, bne_eq_false_iff_eq, Decidable.not_not] at hb))))

end Go.Dv.Try
