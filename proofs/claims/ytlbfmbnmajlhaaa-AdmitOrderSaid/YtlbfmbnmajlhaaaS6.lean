/-
  Specifications of chapter 38, part 6: both Selects; AdmitSelects.
-/
import Derived.Test.YtlbfmbnmajlhaaaS4b
import Derived.Test.YtlbfmbnmajlhaaaS5b
import Derived.Test.YtlbfmbnmajlhaaaS3
set_option linter.unusedVariables false
set_option linter.unusedSimpArgs false
set_option maxRecDepth 100000
set_option maxHeartbeats 4000000
namespace Go.Dv.Try
open Go Go.Dv

theorem ps_rsel (q : Qt) (hot : List ByteArray) (b : Bool) (qu : List Rq) (d : Bool) (fs : List Ft) (c : Bool) (p : Int) (hl : hot.length ≤ 1000) (hq : qu.length ≤ 1000) (ho : ∀ f ∈ fs, okF f) :
    PS tb 29 [.agg (qC q), .slice b (strRow hot), .slice d (rqRow qu), .slice c (ftRow fs), .int .i64 p] (selR q hot qu fs p) := by
  have s1 := ps_rvq q
  refine PS_of (af := a29) rfl rfl ?_
  unfold a29
  dsimp only [List.map, ofPV, qC, initEnv] at s1 ⊢
  repeat' (first | (simp (disch := omega) only [go_sem, seval, reduceCtorEq, rqRow_length, ftRow_length]) | (apply x_pure; iterate 5 (first | exact s1 | ((try simp (disch := omega) only [go_sem, seval, reduceCtorEq, rqRow_length, ftRow_length]) <;> with_reducible exact rfl))) | ((first | apply x_split_cond | apply x_split_guard); all_goals (intro hb; (try simp only [Bool.not_eq_true', Bool.not_eq_false'] at hb); (simp (disch := omega) only [go_sem, seval, reduceCtorEq, rqRow_length, ftRow_length, hb]); (try simp only [decide_eq_true_eq, decide_eq_false_iff_not, beq_iff_eq, beq_eq_false_iff_ne, ne_eq, bne_iff_ne, bne_eq_false_iff_eq, Decidable.not_not] at hb))))
  all_goals first
    | (have hbad : badS q qu.length fs.length p := by unfold badS; grind
       simp only [selR, if_pos hbad, pur, dep]; done)
    | (have hbad : ¬ badS q qu.length fs.length p := by unfold badS; grind
       have hfs : fs.length = qu.length := by omega
       refine W_round ?_
       (try simp (disch := omega) only [go_sem, seval, reduceCtorEq])
       refine l_rsel q hot b qu d fs c p hl hq hfs ho _ ?_ qu.length 0 (by omega) ⟨[], [], [], []⟩ rfl
       intro s hs
       (try simp (disch := omega) only [go_sem, seval, reduceCtorEq, nRow_length, nRow_take])
       simp only [selR, if_neg hbad, ← hs])

theorem ps_fsel (q : Qt) (hot : List ByteArray) (b : Bool) (qu : List Rq) (d : Bool) (fs : List Ft) (c : Bool) (p : Int) (hl : hot.length ≤ 1000) (hq : qu.length ≤ 1000) (ho : ∀ f ∈ fs, okF f) :
    PS tb 22 [.agg (qC q), .slice b (strRow hot), .slice d (rqRow qu), .slice c (ftRow fs), .int .i64 p] (selR q hot qu fs p) := by
  have s1 := ps_fvq q
  refine PS_of (af := a22) rfl rfl ?_
  unfold a22
  dsimp only [List.map, ofPV, qC, initEnv] at s1 ⊢
  repeat' (first | (simp (disch := omega) only [go_sem, seval, reduceCtorEq, rqRow_length, ftRow_length, List.set_cons_zero, List.set_cons_succ]) | (apply x_pure; iterate 5 (first | exact s1 | ((try simp (disch := omega) only [go_sem, seval, reduceCtorEq, rqRow_length, ftRow_length, List.set_cons_zero, List.set_cons_succ]) <;> with_reducible exact rfl))) | ((first | apply x_split_cond | apply x_split_guard); all_goals (intro hb; (try simp only [Bool.not_eq_true', Bool.not_eq_false'] at hb); (simp (disch := omega) only [go_sem, seval, reduceCtorEq, rqRow_length, ftRow_length, List.set_cons_zero, List.set_cons_succ, hb]); (try simp only [decide_eq_true_eq, decide_eq_false_iff_not, beq_iff_eq, beq_eq_false_iff_ne, ne_eq, bne_iff_ne, bne_eq_false_iff_eq, Decidable.not_not] at hb))))
  all_goals first
    | (have hbad : badS q qu.length fs.length p := by unfold badS; grind
       simp only [selR, if_pos hbad, pur, dep]; done)
    | (have hbad : ¬ badS q qu.length fs.length p := by unfold badS; grind
       have hfs : fs.length = qu.length := by omega
       refine W_round ?_
       (try simp (disch := omega) only [go_sem, seval, reduceCtorEq, List.set_cons_zero, List.set_cons_succ])
       refine l_fsel q hot b qu d fs c p hl hq hfs ho _ ?_ qu.length 0 (by omega) ⟨[], [], [], []⟩ [] [] [] rfl ⟨fun _ => rfl, fun _ => rfl, fun _ => rfl⟩
       intro s ka kd kx hs
       (try simp (disch := omega) only [go_sem, seval, reduceCtorEq, nRow_length, nRow_take])
       simp only [selR, if_neg hbad, ← hs])

/-! ### AdmitSelects -/

def opC (q : Qt) (hot : List ByteArray) (qu : List Rq) (fs : List Ft) (p : Int) : List PV := [.int .i64 q.b, .int .i64 q.c, .int .i64 q.k, .int .i64 q.q, .slice false (strRow hot), .slice false (rqRow qu), .slice false (ftRow fs), .int .i64 p]

abbrev rqSh : List Go.Dv.Sh := [.int .i64, .int .i64, .str, .slice [.int .i64, .int .i64, .str], .bool, .bool, .slice [.str], .slice [.str]]

theorem fit_req {u : List PV} (h : Fits rqSh u) : ∃ r : Rq, u = rqC r := by
  obtain ⟨y0, u0, rfl, e0, h⟩ := h.cons
  obtain ⟨y1, u1, rfl, e1, h⟩ := h.cons
  obtain ⟨y2, u2, rfl, e2, h⟩ := h.cons
  obtain ⟨y3, u3, rfl, e3, h⟩ := h.cons
  obtain ⟨y4, u4, rfl, e4, h⟩ := h.cons
  obtain ⟨y5, u5, rfl, e5, h⟩ := h.cons
  obtain ⟨y6, u6, rfl, e6, h⟩ := h.cons
  obtain ⟨y7, u7, rfl, e7, h⟩ := h.cons
  have hn := h.nil
  subst hn
  obtain ⟨n0, rfl, _⟩ := fit_int e0
  exact ⟨⟨n0, y1, y2, y3, y4, y5, y6, y7⟩, rfl⟩

theorem fit_op {u : List PV} (h : Fits [.int .i64, .int .i64, .int .i64, .int .i64, .slice [.str], .slice rqSh, .slice [.bool, .slice [.str], .slice [.str]], .int .i64] u) : ∃ q hot qu fs p, u = opC q hot qu fs p ∧ (Lit.int .i64 p).wf = true := by
  obtain ⟨y0, u0, rfl, e0, h⟩ := h.cons
  obtain ⟨y1, u1, rfl, e1, h⟩ := h.cons
  obtain ⟨y2, u2, rfl, e2, h⟩ := h.cons
  obtain ⟨y3, u3, rfl, e3, h⟩ := h.cons
  obtain ⟨y4, u4, rfl, e4, h⟩ := h.cons
  obtain ⟨y5, u5, rfl, e5, h⟩ := h.cons
  obtain ⟨y6, u6, rfl, e6, h⟩ := h.cons
  obtain ⟨y7, u7, rfl, e7, h⟩ := h.cons
  have hn := h.nil
  subst hn
  obtain ⟨n0, rfl, _⟩ := fit_int e0
  obtain ⟨n1, rfl, _⟩ := fit_int e1
  obtain ⟨n2, rfl, _⟩ := fit_int e2
  obtain ⟨n3, rfl, _⟩ := fit_int e3
  obtain ⟨hot, rfl⟩ := fit_strs e4
  obtain ⟨qu, rfl⟩ := fit_row (g := rqC) (fun _ h => fit_req h) e5
  obtain ⟨fs, rfl⟩ := fit_foots e6
  obtain ⟨p, rfl, hp⟩ := fit_int e7
  exact ⟨⟨n0, n1, n2, n3⟩, hot, qu, fs, p, rfl, hp⟩

theorem ps_lfew38 (q : Qt) (hot : List ByteArray) (qu : List Rq) (fs : List Ft) (p : Int) : PS tb 20 [.agg (opC q hot qu fs p)] (.bool (few38 hot qu.length fs)) := by
  have s1 := ps_rfew hot false qu false fs false
  refine PS_of (af := a20) rfl rfl ?_
  unfold a20
  dsimp only [List.map, ofPV, opC, initEnv]
  repeat' (first | (simp (disch := omega) only [go_sem, seval, reduceCtorEq]) | (apply x_pure; iterate 5 (first | exact s1 | ((try simp (disch := omega) only [go_sem, seval, reduceCtorEq]) <;> with_reducible exact rfl))) | ((first | apply x_split_cond | apply x_split_guard); all_goals (intro hb; (try simp only [Bool.not_eq_true', Bool.not_eq_false'] at hb); (simp (disch := omega) only [go_sem, seval, reduceCtorEq, hb]); (try simp only [decide_eq_true_eq, decide_eq_false_iff_not, beq_iff_eq, beq_eq_false_iff_ne, ne_eq, bne_iff_ne, bne_eq_false_iff_eq, Decidable.not_not] at hb))))

theorem walkAdmitSelects {u : List PV} (h : Fits [.int .i64, .int .i64, .int .i64, .int .i64, .slice [.str], .slice rqSh, .slice [.bool, .slice [.str], .slice [.str]], .int .i64] u) : PS tb 6 [.agg u] (.bool true) := by
  obtain ⟨q, hot, qu, fs, p, rfl, _⟩ := fit_op h
  have s1 := ps_lfew38 q hot qu fs p
  refine PS_of (af := a6) rfl rfl ?_
  unfold a6
  cases hf : few38 hot qu.length fs with
  | false =>
    rw [hf] at s1
    dsimp only [List.map, ofPV, opC, initEnv] at s1 ⊢
    repeat' (first | (simp (disch := omega) only [go_sem, seval, reduceCtorEq]) | (apply x_pure; iterate 5 (first | exact s1 | exact ps_lives38 | ((try simp (disch := omega) only [go_sem, seval, reduceCtorEq]) <;> with_reducible exact rfl))) | ((first | apply x_split_cond | apply x_split_guard); all_goals (intro hb; (try simp only [Bool.not_eq_true', Bool.not_eq_false'] at hb); (simp (disch := omega) only [go_sem, seval, reduceCtorEq, hb]); (try simp only [decide_eq_true_eq, decide_eq_false_iff_not, beq_iff_eq, beq_eq_false_iff_ne, ne_eq, bne_iff_ne, bne_eq_false_iff_eq, Decidable.not_not] at hb))))
  | true =>
    rw [hf] at s1
    obtain ⟨k1, k2, k3, k4⟩ := few38_ok hf
    have s2 := ps_fsel q hot false qu false fs false p (by omega) (by omega) k4
    have s3 := ps_rsel q hot false qu false fs false p (by omega) (by omega) k4
    dsimp only [List.map, ofPV, opC, qC, initEnv] at s1 s2 s3 ⊢
    by_cases hb : badS q qu.length fs.length p
    · have e := ps_r38same [] [] true true (by simp)
      simp only [selR, if_pos hb] at s2 s3
      simp only [nRow, List.map, decide_true] at e
      repeat' (first | (simp (disch := omega) only [go_sem, seval, reduceCtorEq]) | (apply x_pure; iterate 5 (first | exact s1 | exact s2 | exact s3 | exact e | exact ps_lives38 | ((try simp (disch := omega) only [go_sem, seval, reduceCtorEq]) <;> with_reducible exact rfl))) | ((first | apply x_split_cond | apply x_split_guard); all_goals (intro hb; (try simp only [Bool.not_eq_true', Bool.not_eq_false'] at hb); (simp (disch := omega) only [go_sem, seval, reduceCtorEq, hb]); (try simp only [decide_eq_true_eq, decide_eq_false_iff_not, beq_iff_eq, beq_eq_false_iff_ne, ne_eq, bne_iff_ne, bne_eq_false_iff_eq, Decidable.not_not] at hb))))
    · have iv := inv_sel (q := q) (hot := hot) (qu := qu) (fs := fs) (p := p) (i := qu.length) (by unfold badS at hb; omega)
      have e1 := ps_r38same (selN q hot qu fs p qu.length).a (selN q hot qu fs p qu.length).a false false (by have := iv.a.2; omega)
      have e2 := ps_r38same (selN q hot qu fs p qu.length).d (selN q hot qu fs p qu.length).d false false (by have := iv.d.2; omega)
      have e3 := ps_r38same (selN q hot qu fs p qu.length).x (selN q hot qu fs p qu.length).x false false (by have := iv.x.2; omega)
      simp only [selR, if_neg hb] at s2 s3
      simp only [decide_true] at e1 e2 e3
      repeat' (first | (simp (disch := omega) only [go_sem, seval, reduceCtorEq]) | (apply x_pure; iterate 5 (first | exact s1 | exact s2 | exact s3 | exact e1 | exact e2 | exact e3 | exact ps_lives38 | ((try simp (disch := omega) only [go_sem, seval, reduceCtorEq]) <;> with_reducible exact rfl))) | ((first | apply x_split_cond | apply x_split_guard); all_goals (intro hb; (try simp only [Bool.not_eq_true', Bool.not_eq_false'] at hb); (simp (disch := omega) only [go_sem, seval, reduceCtorEq, hb]); (try simp only [decide_eq_true_eq, decide_eq_false_iff_not, beq_iff_eq, beq_eq_false_iff_ne, ne_eq, bne_iff_ne, bne_eq_false_iff_eq, Decidable.not_not] at hb))))

end Go.Dv.Try
