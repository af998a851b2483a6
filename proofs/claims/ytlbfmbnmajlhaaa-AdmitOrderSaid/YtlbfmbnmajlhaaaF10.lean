/-
  The laws of footprints about the interpreter.
-/
import Derived.Test.YtlbfmbnmajlhaaaF8
import Derived.Test.YtlbfmbnmajlhaaaF9
import Derived.Test.YtlbfmbnmajlhaaaBridge
set_option linter.unusedVariables false
set_option linter.unusedSimpArgs false
set_option maxRecDepth 100000
set_option maxHeartbeats 4000000
namespace Go.Dv.Try
open Go Go.Dv

theorem fit_str {y : PV} (h : Fit .str y) : ∃ s, y = .str s := by
  cases h with
  | str s h => exact ⟨s, rfl⟩
theorem fit_bool {y : PV} (h : Fit .bool y) : ∃ s, y = .bool s := by
  cases h with
  | bool s => exact ⟨s, rfl⟩
theorem fit_strs {y : PV} (h : Fit (.slice [.str]) y) : ∃ l, y = .slice false (strRow l) := by
  cases h with
  | slice l xs h hl hr =>
    have : ∀ xs : List (List PV), (∀ x ∈ xs, ∃ n, x = [.str n]) → ∃ l, xs = strRow l := by
      intro xs
      induction xs with
      | nil => intro _; exact ⟨[], rfl⟩
      | cons x xs ih =>
        intro hx
        obtain ⟨n, hn⟩ := hx x (by simp)
        obtain ⟨l, hl⟩ := ih fun y hy => hx y (by simp [hy])
        exact ⟨n :: l, by rw [hn, hl]; rfl⟩
    obtain ⟨l, e⟩ := this xs fun x hx => by
      have h1 := hl x hx
      obtain ⟨i, hi⟩ := List.mem_iff_getElem?.1 hx
      cases x with
      | nil => simp at h1
      | cons a r =>
        have h2 : r = [] := by simpa using h1
        subst h2
        obtain ⟨n, rfl⟩ := fit_str (hr i _ 0 _ _ hi rfl rfl)
        exact ⟨n, rfl⟩
    exact ⟨l, by rw [e]⟩
theorem fit_foot {u : List PV} (h : Fits [.bool, .slice [.str], .slice [.str]] u) : ∃ f : Ft, u = ftC f := by
  obtain ⟨y0, u0, rfl, e0, h⟩ := h.cons
  obtain ⟨y1, u1, rfl, e1, h⟩ := h.cons
  obtain ⟨y2, u2, rfl, e2, h⟩ := h.cons
  have hn := h.nil
  subst hn
  obtain ⟨n0, rfl⟩ := fit_bool e0
  obtain ⟨n1, rfl⟩ := fit_strs e1
  obtain ⟨n2, rfl⟩ := fit_strs e2
  exact ⟨⟨n0, false, n1, false, n2⟩, rfl⟩

theorem lives_run : ((cfs tb.A tb.X 12).pure 16 []) = some (.bool true) := by kernel_rfl
theorem ps_lives : PS tb 16 [] (.bool true) := ⟨12, lives_run⟩

theorem sh_mrg {l : List ByteArray} (h : Sh l) : Sh (mrg l) := ⟨Nat.le_trans (mrg_len l) h.1, fun x hx => h.2 x (mem_mrg.1 hx)⟩
theorem sh_nil : Sh [] := ⟨by simp, by simp⟩
theorem sh_ins2 {a c : List ByteArray} (h : Sh (a ++ c)) : Sh (insAll (insAll [] a) c) := by rw [← mrg_eq]; exact sh_mrg h
theorem sh_lim {b d : Bool} {r w : List ByteArray} (hr : Sh r) (hw : Sh w) : ShF (lim b r d w).1 := by
  unfold lim
  split
  · exact ⟨sh_nil, sh_nil⟩
  · exact ⟨hr, hw⟩
theorem sh_app {a c : List ByteArray} (h : Sh a) (k : Sh c) (hl : a.length + c.length ≤ 1000) : Sh (a ++ c) := ⟨by simp; omega, fun x hx => by rcases List.mem_append.1 hx with h' | h'; exact h.2 x h'; exact k.2 x h'⟩

theorem shF_union {f g : Ft} (h : ShF f) (k : ShF g) (hr : f.r.length + g.r.length ≤ 1000) (hw : f.w.length + g.w.length ≤ 1000) : ShF (unionF f g).1 := by
  unfold unionF
  split
  · split
    · exact ⟨sh_nil, sh_nil⟩
    · exact sh_lim (sh_mrg (sh_app h.1 k.1 hr)) (sh_mrg (sh_app h.2 k.2 hw))
  · exact ⟨sh_nil, sh_nil⟩
theorem shF_norm {f : Ft} (h : ShF f) : ShF (normF f).1 := by
  unfold normF
  split
  · split
    · exact ⟨sh_nil, sh_nil⟩
    · exact sh_lim (sh_mrg h.1) (sh_mrg h.2)
  · exact ⟨sh_nil, sh_nil⟩
theorem shF_proj {f : Ft} {x y : ByteArray} (h : ShF f) : ShF (projR f x y) := by
  unfold projR
  split
  · exact ⟨⟨Nat.le_trans (List.length_filter_le _ _) h.1.1, fun z hz => h.1.2 z ((List.mem_filter.1 hz).1)⟩, ⟨Nat.le_trans (List.length_filter_le _ _) h.2.1, fun z hz => h.2.2 z ((List.mem_filter.1 hz).1)⟩⟩
  · exact ⟨sh_nil, sh_nil⟩

theorem few_len {f : Ft} (h : fewF 80 f = true) : f.r.length ≤ 80 ∧ f.w.length ≤ 80 := by
  simp only [fewF, Bool.and_eq_true, decide_eq_true_eq] at h
  exact ⟨h.1.1.1, h.1.1.2⟩

theorem walkFootprintUnions {u v : List PV} (h : Fits [.bool, .slice [.str], .slice [.str]] u) (h' : Fits [.bool, .slice [.str], .slice [.str]] v) :
    PS tb 3 [.agg u, .agg v] (.bool true) := by
  obtain ⟨a, rfl⟩ := fit_foot h
  obtain ⟨c, rfl⟩ := fit_foot h'
  have hfew := ps_lfew [a, c] true (by simp)
  refine PS_of (af := a3) rfl rfl ?_
  unfold a3
  dsimp only [List.map, ofPV, ftC, initEnv, ftRow] at hfew ⊢
  cases hf : [a, c].all (fewF 80) with
  | false =>
    rw [hf] at hfew
    repeat' (first | (simp (disch := omega) only [go_sem, seval, reduceCtorEq]) | (apply x_pure; iterate 5 (first | exact hfew | exact ps_lives | ((try simp (disch := omega) only [go_sem, seval, reduceCtorEq]) <;> with_reducible exact rfl))) | ((first | apply x_split_cond | apply x_split_guard); all_goals (intro hb; (try simp only [Bool.not_eq_true', Bool.not_eq_false'] at hb); (simp (disch := omega) only [go_sem, seval, reduceCtorEq, hb]); (try simp only [decide_eq_true_eq, decide_eq_false_iff_not, beq_iff_eq, beq_eq_false_iff_ne, ne_eq, bne_iff_ne, bne_eq_false_iff_eq, Decidable.not_not] at hb))))
  | true =>
    rw [hf] at hfew
    simp only [List.all_cons, List.all_nil, Bool.and_true, Bool.and_eq_true] at hf
    have ha := fewF_sh hf.1 (by omega)
    have hc := fewF_sh hf.2 (by omega)
    have la := few_len hf.1
    have lc := few_len hf.2
    obtain ⟨b, d, q2⟩ := ps_runion a c ha hc ⟨by omega, by omega⟩ ⟨by omega, by omega⟩
    have q1 := ps_funion a c ha hc ⟨by omega, by omega⟩ ⟨by omega, by omega⟩
    obtain ⟨e1, e2⟩ := union_same b d a c
    have q3 := ps_rsame (unionF a c).1 (unionR b d a c).1 (shF_union ha hc (by omega) (by omega))
    rw [e1] at q3
    have e3 : ((unionF a c).2 == (unionR b d a c).2) = true := by rw [e2]; exact beq_self_eq_true _
    repeat' (first | (simp (disch := omega) only [go_sem, seval, reduceCtorEq, ftC, e3]) | (apply x_pure; iterate 5 (first | exact hfew | exact ps_lives | exact q1 | exact q2 | exact q3 | ((try simp (disch := omega) only [go_sem, seval, reduceCtorEq, ftC, e3]) <;> with_reducible exact rfl))) | ((first | apply x_split_cond | apply x_split_guard); all_goals (intro hb; (try simp only [Bool.not_eq_true', Bool.not_eq_false'] at hb); (simp (disch := omega) only [go_sem, seval, reduceCtorEq, ftC, e3, hb]); (try simp only [decide_eq_true_eq, decide_eq_false_iff_not, beq_iff_eq, beq_eq_false_iff_ne, ne_eq, bne_iff_ne, bne_eq_false_iff_eq, Decidable.not_not] at hb))))

theorem walkFootprintForms {u v : List PV} (h : Fits [.bool, .slice [.str], .slice [.str]] u) (h' : Fits [.bool, .slice [.str], .slice [.str]] v) :
    PS tb 12 [.agg u, .agg v] (.bool true) := by
  obtain ⟨a, rfl⟩ := fit_foot h
  obtain ⟨c, rfl⟩ := fit_foot h'
  have hfew := ps_lfew [a, c] true (by simp)
  refine PS_of (af := a12) rfl rfl ?_
  unfold a12
  dsimp only [List.map, ofPV, ftC, initEnv, ftRow] at hfew ⊢
  cases hf : [a, c].all (fewF 80) with
  | false =>
    rw [hf] at hfew
    repeat' (first | (simp (disch := omega) only [go_sem, seval, reduceCtorEq]) | (apply x_pure; iterate 5 (first | exact hfew | exact ps_lives | ((try simp (disch := omega) only [go_sem, seval, reduceCtorEq]) <;> with_reducible exact rfl))) | ((first | apply x_split_cond | apply x_split_guard); all_goals (intro hb; (try simp only [Bool.not_eq_true', Bool.not_eq_false'] at hb); (simp (disch := omega) only [go_sem, seval, reduceCtorEq, hb]); (try simp only [decide_eq_true_eq, decide_eq_false_iff_not, beq_iff_eq, beq_eq_false_iff_ne, ne_eq, bne_iff_ne, bne_eq_false_iff_eq, Decidable.not_not] at hb))))
  | true =>
    rw [hf] at hfew
    simp only [List.all_cons, List.all_nil, Bool.and_true, Bool.and_eq_true] at hf
    have ha := fewF_sh hf.1 (by omega)
    have hc := fewF_sh hf.2 (by omega)
    have la := few_len hf.1
    obtain ⟨b, d, q2⟩ := ps_rnorm a ha (by omega) (by omega)
    have q1 := ps_fnorm a (by omega) (by omega)
    obtain ⟨e1, e2⟩ := norm_same b d a
    have q3 := ps_rsame (normF a).1 (normR b d a).1 (shF_norm ha)
    rw [e1] at q3
    have e3 : ((normF a).2 == (normR b d a).2) = true := by rw [e2]; exact beq_self_eq_true _
    have q4 := ps_fvalid a ha
    have q5 := ps_rvalid a ha
    have q6 := ps_fsame a c ha
    have q7 := ps_rsame a c ha
    obtain ⟨b1, q8⟩ := ps_fkeys a ha ⟨by omega, by omega⟩
    obtain ⟨b2, q9⟩ := ps_rkeys a ha ⟨by omega, by omega⟩
    have hk : (keysF a).length ≤ 1000 := by
      unfold keysF
      split
      · have := mrg_len (a.r ++ a.w); simp only [List.length_append] at this; omega
      · simp
    have q10 := ps_same (keysF a) (keysR a) b1 b2 hk
    rw [keys_same, decide_eq_true rfl] at q10
    rw [keys_same] at q8
    repeat' (first | (simp (disch := omega) only [go_sem, seval, reduceCtorEq, ftC, e3]) | (apply x_pure; iterate 5 (first | exact hfew | exact ps_lives | exact q1 | exact q2 | exact q3 | exact q4 | exact q5 | exact q6 | exact q7 | exact q8 | exact q9 | exact q10 | ((try simp (disch := omega) only [go_sem, seval, reduceCtorEq, ftC, e3]) <;> with_reducible exact rfl))) | ((first | apply x_split_cond | apply x_split_guard); all_goals (intro hb; (try simp only [Bool.not_eq_true', Bool.not_eq_false'] at hb); (simp (disch := omega) only [go_sem, seval, reduceCtorEq, ftC, e3, hb]); (try simp only [decide_eq_true_eq, decide_eq_false_iff_not, beq_iff_eq, beq_eq_false_iff_ne, ne_eq, bne_iff_ne, bne_eq_false_iff_eq, Decidable.not_not] at hb))))

theorem walkFootprintRelates {u v : List PV} (h : Fits [.bool, .slice [.str], .slice [.str]] u) (h' : Fits [.bool, .slice [.str], .slice [.str]] v) :
    PS tb 10 [.agg u, .agg v] (.bool true) := by
  obtain ⟨a, rfl⟩ := fit_foot h
  obtain ⟨c, rfl⟩ := fit_foot h'
  have hfew := ps_lfew [a, c] true (by simp)
  refine PS_of (af := a10) rfl rfl ?_
  unfold a10
  dsimp only [List.map, ofPV, ftC, initEnv, ftRow] at hfew ⊢
  cases hf : [a, c].all (fewF 80) with
  | false =>
    rw [hf] at hfew
    repeat' (first | (simp (disch := omega) only [go_sem, seval, reduceCtorEq]) | (apply x_pure; iterate 5 (first | exact hfew | exact ps_lives | ((try simp (disch := omega) only [go_sem, seval, reduceCtorEq]) <;> with_reducible exact rfl))) | ((first | apply x_split_cond | apply x_split_guard); all_goals (intro hb; (try simp only [Bool.not_eq_true', Bool.not_eq_false'] at hb); (simp (disch := omega) only [go_sem, seval, reduceCtorEq, hb]); (try simp only [decide_eq_true_eq, decide_eq_false_iff_not, beq_iff_eq, beq_eq_false_iff_ne, ne_eq, bne_iff_ne, bne_eq_false_iff_eq, Decidable.not_not] at hb))))
  | true =>
    rw [hf] at hfew
    simp only [List.all_cons, List.all_nil, Bool.and_true, Bool.and_eq_true] at hf
    have ha := fewF_sh hf.1 (by omega)
    have hc := fewF_sh hf.2 (by omega)
    have q1 := ps_fconfl a c ha hc
    have q2 := ps_rconfl a c ha hc
    have q3 := ps_fconfl c a hc ha
    have q4 := ps_fcov a c ha hc
    have q5 := ps_rcov a c ha hc
    rw [conflB_comm c a] at q3
    repeat' (first | (simp (disch := omega) only [go_sem, seval, reduceCtorEq]) | (apply x_pure; iterate 5 (first | exact hfew | exact ps_lives | exact q1 | exact q2 | exact q3 | exact q4 | exact q5 | ((try simp (disch := omega) only [go_sem, seval, reduceCtorEq]) <;> with_reducible exact rfl))) | ((first | apply x_split_cond | apply x_split_guard); all_goals (intro hb; (try simp only [Bool.not_eq_true', Bool.not_eq_false'] at hb); (simp (disch := omega) only [go_sem, seval, reduceCtorEq, hb]); (try simp only [decide_eq_true_eq, decide_eq_false_iff_not, beq_iff_eq, beq_eq_false_iff_ne, ne_eq, bne_iff_ne, bne_eq_false_iff_eq, Decidable.not_not] at hb))))

theorem walkFootprintCovers {u v w : List PV} (h : Fits [.bool, .slice [.str], .slice [.str]] u) (h' : Fits [.bool, .slice [.str], .slice [.str]] v) (h'' : Fits [.bool, .slice [.str], .slice [.str]] w) :
    PS tb 9 [.agg u, .agg v, .agg w] (.bool true) := by
  obtain ⟨a, rfl⟩ := fit_foot h
  obtain ⟨b, rfl⟩ := fit_foot h'
  obtain ⟨c, rfl⟩ := fit_foot h''
  have hfew := ps_lfew [a, b, c] true (by simp)
  refine PS_of (af := a9) rfl rfl ?_
  unfold a9
  dsimp only [List.map, ofPV, ftC, initEnv, ftRow] at hfew ⊢
  cases hf : [a, b, c].all (fewF 80) with
  | false =>
    rw [hf] at hfew
    repeat' (first | (simp (disch := omega) only [go_sem, seval, reduceCtorEq]) | (apply x_pure; iterate 5 (first | exact hfew | exact ps_lives | ((try simp (disch := omega) only [go_sem, seval, reduceCtorEq]) <;> with_reducible exact rfl))) | ((first | apply x_split_cond | apply x_split_guard); all_goals (intro hb; (try simp only [Bool.not_eq_true', Bool.not_eq_false'] at hb); (simp (disch := omega) only [go_sem, seval, reduceCtorEq, hb]); (try simp only [decide_eq_true_eq, decide_eq_false_iff_not, beq_iff_eq, beq_eq_false_iff_ne, ne_eq, bne_iff_ne, bne_eq_false_iff_eq, Decidable.not_not] at hb))))
  | true =>
    rw [hf] at hfew
    simp only [List.all_cons, List.all_nil, Bool.and_true, Bool.and_eq_true] at hf
    have ha := fewF_sh hf.1 (by omega)
    have hb := fewF_sh hf.2.1 (by omega)
    have hc := fewF_sh hf.2.2 (by omega)
    have q1 := ps_fcov a b ha hb
    have q2 := ps_fconfl b c hb hc
    have q3 := ps_fconfl a c ha hc
    have q4 := ps_fcov b c hb hc
    have q5 := ps_fcov a c ha hc
    cases h1 : covB a b with
    | false => rw [h1] at q1; repeat' (first | (simp (disch := omega) only [go_sem, seval, reduceCtorEq]) | (apply x_pure; iterate 5 (first | exact hfew | exact ps_lives | exact q1 | ((try simp (disch := omega) only [go_sem, seval, reduceCtorEq]) <;> with_reducible exact rfl))) | ((first | apply x_split_cond | apply x_split_guard); all_goals (intro hb; (try simp only [Bool.not_eq_true', Bool.not_eq_false'] at hb); (simp (disch := omega) only [go_sem, seval, reduceCtorEq, hb]); (try simp only [decide_eq_true_eq, decide_eq_false_iff_not, beq_iff_eq, beq_eq_false_iff_ne, ne_eq, bne_iff_ne, bne_eq_false_iff_eq, Decidable.not_not] at hb))))
    | true =>
      rw [h1] at q1
      have p1 := fun k => cov_confl (c := c) h1 k
      have p2 := fun k => cov_trans (c := c) h1 k
      cases h2 : conflB b c <;> cases h3 : covB b c <;> (try rw [p1 h2] at q3) <;> (try rw [p2 h3] at q5) <;> rw [h2] at q2 <;> rw [h3] at q4 <;> (repeat' (first | (simp (disch := omega) only [go_sem, seval, reduceCtorEq]) | (apply x_pure; iterate 5 (first | exact hfew | exact ps_lives | exact q1 | exact q2 | exact q3 | exact q4 | exact q5 | ((try simp (disch := omega) only [go_sem, seval, reduceCtorEq]) <;> with_reducible exact rfl))) | ((first | apply x_split_cond | apply x_split_guard); all_goals (intro hb; (try simp only [Bool.not_eq_true', Bool.not_eq_false'] at hb); (simp (disch := omega) only [go_sem, seval, reduceCtorEq, hb]); (try simp only [decide_eq_true_eq, decide_eq_false_iff_not, beq_iff_eq, beq_eq_false_iff_ne, ne_eq, bne_iff_ne, bne_eq_false_iff_eq, Decidable.not_not] at hb)))))

end Go.Dv.Try
