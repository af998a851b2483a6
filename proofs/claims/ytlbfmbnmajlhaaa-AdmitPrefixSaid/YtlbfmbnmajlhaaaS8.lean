/-
  Specifications of chapter 38, part 8: below; AdmitPrefix.
-/
import Derived.Test.YtlbfmbnmajlhaaaS6
import Derived.Test.YtlbfmbnmajlhaaaS7
set_option linter.unusedVariables false
set_option linter.unusedSimpArgs false
set_option maxRecDepth 100000
set_option maxHeartbeats 4000000
namespace Go.Dv.Try
open Go Go.Dv

theorem bel_step (n : Nat) (l : List Nat) (i : Nat) (h : i < l.length) : bel n (l.take (i + 1)) = bel n (l.take i) ++ if l[i] < n then [l[i]] else [] := by
  unfold bel
  rw [List.take_add_one, List.getElem?_eq_getElem h, List.filter_append]
  congr 1
  by_cases hh : l[i] < n <;> simp [hh]
theorem bel_len (n : Nat) (l : List Nat) : (bel n l).length ≤ l.length := List.length_filter_le _ _

theorem l_below (l : List Nat) (n : Nat) (b : Bool) (hl : l.length ≤ 1000) (K : Ex → St → Prop) (hx : K (.exit 0) ⟨[(5, .ref 0 (bel n l).length 0 (bel n l).length)], [(0, .row false 1 (nRow (bel n l)))], 1, [0]⟩) : ∀ (m i : Nat), i + m = l.length → ∀ acc, acc = bel n (l.take i) →
    W tb a32_l0 ⟨[(0, .p (.slice b (nRow l))), (1, .p (.int .i64 n)), (5, .ref 0 acc.length 0 acc.length), (6, .p (.int .i64 i))], [(0, .row false 1 (nRow acc))], 1, [0]⟩ (LK tb (.ghost .lower a32_l0) K) := by
  intro m
  induction m with
  | zero =>
    intro i hi acc hacc
    have h1 : ¬ (i : Int) < l.length := by omega
    rw [List.take_of_length_le (by omega)] at hacc
    subst hacc
    refine i_code (by unfold a32_l0; exact rfl) ?_
    repeat' (first | (simp (disch := omega) only [go_sem, seval, reduceCtorEq, h1, nRow_length]) | ((first | apply x_split_cond | apply x_split_guard); all_goals (intro hb; (try simp only [Bool.not_eq_true', Bool.not_eq_false'] at hb); (simp (disch := omega) only [go_sem, seval, reduceCtorEq, h1, nRow_length, hb]); (try simp only [decide_eq_true_eq, decide_eq_false_iff_not, beq_iff_eq, beq_eq_false_iff_ne, ne_eq, bne_iff_ne, bne_eq_false_iff_eq, Decidable.not_not] at hb))))
    exact hx
  | succ m ih =>
    intro i hi acc hacc
    have h1 : (i : Int) < l.length := by omega
    have h2 : i < l.length := by omega
    have h4 : (0 : Int) ≤ i := by omega
    have h3 := nRow_get l i h2
    have h6 := bel_step n l i h2
    rw [← hacc] at h6
    have h7 : acc.length ≤ 1000 := by rw [hacc]; have := bel_len n (l.take i); simp at this; omega
    refine i_code (by unfold a32_l0; exact rfl) ?_
    repeat' (first | (simp (disch := omega) only [go_sem, seval, reduceCtorEq, h1, h3, h4, nRow_length, nRow_app, nRow_all, one1, maxB]) | ((first | apply x_split_cond | apply x_split_guard); all_goals (intro hb; (try simp only [Bool.not_eq_true', Bool.not_eq_false'] at hb); (simp (disch := omega) only [go_sem, seval, reduceCtorEq, h1, h3, h4, nRow_length, nRow_app, nRow_all, one1, maxB, hb]); (try simp only [decide_eq_true_eq, decide_eq_false_iff_not, beq_iff_eq, beq_eq_false_iff_ne, ne_eq, bne_iff_ne, bne_eq_false_iff_eq, Decidable.not_not] at hb))))
    · rw [if_pos (by omega)] at h6
      refine i_lk (W_round ?_)
      have := ih (i + 1) (by omega) (acc ++ [l[i]]) h6.symm
      simp only [List.length_append, List.length_singleton] at this
      (try simp (disch := omega) only [go_sem, seval, reduceCtorEq])
      exact this
    · rw [if_neg (by omega), List.append_nil] at h6
      refine i_lk (W_round ?_)
      have := ih (i + 1) (by omega) acc h6.symm
      (try simp (disch := omega) only [go_sem, seval, reduceCtorEq])
      exact this

theorem ps_below (l : List Nat) (n : Nat) (b : Bool) (hl : l.length ≤ 1000) : PS tb 32 [.slice b (nRow l), .int .i64 n] (.slice false (nRow (bel n l))) := by
  refine PS_of (af := a32) rfl rfl ?_
  unfold a32
  dsimp only [List.map, ofPV, initEnv]
  (try simp (disch := omega) only [go_sem, seval, reduceCtorEq])
  refine W_round ?_
  (try simp (disch := omega) only [go_sem, seval, reduceCtorEq])
  refine l_below l n b hl _ ?_ l.length 0 (by omega) [] rfl
  (try simp (disch := omega) only [go_sem, seval, reduceCtorEq, nRow_length, nRow_take])

theorem rqRow_takeN (l : List Rq) (n : Nat) : (rqRow l).take n = rqRow (l.take n) := by simp [rqRow, List.map_take]
theorem ftRow_takeN (l : List Ft) (n : Nat) : (ftRow l).take n = ftRow (l.take n) := by simp [ftRow, List.map_take]
theorem rqRow_all (l : List Rq) : allSz 8 (rqRow l) = true := by simp [allSz, rqRow, rqC]

theorem walkAdmitPrefix {u : List PV} {v : PV} (h : Fits [.int .i64, .int .i64, .int .i64, .int .i64, .slice [.str], .slice rqSh, .slice [.bool, .slice [.str], .slice [.str]], .int .i64] u) (h' : Fit (.int .i64) v) : PS tb 8 [.agg u, v] (.bool true) := by
  obtain ⟨q, hot, qu, fs, p, rfl, _⟩ := fit_op h
  obtain ⟨n, rfl, _⟩ := fit_int h'
  have s1 := ps_lfew38 q hot qu fs p
  refine PS_of (af := a8) rfl rfl ?_
  unfold a8
  cases hf : few38 hot qu.length fs with
  | false =>
    rw [hf] at s1
    dsimp only [List.map, ofPV, opC, initEnv] at s1 ⊢
    repeat' (first | (simp (disch := omega) only [go_sem, seval, reduceCtorEq]) | (apply x_pure; iterate 5 (first | exact s1 | exact ps_lives38 | ((try simp (disch := omega) only [go_sem, seval, reduceCtorEq]) <;> with_reducible exact rfl))) | ((first | apply x_split_cond | apply x_split_guard); all_goals (intro hb; (try simp only [Bool.not_eq_true', Bool.not_eq_false'] at hb); (simp (disch := omega) only [go_sem, seval, reduceCtorEq, hb]); (try simp only [decide_eq_true_eq, decide_eq_false_iff_not, beq_iff_eq, beq_eq_false_iff_ne, ne_eq, bne_iff_ne, bne_eq_false_iff_eq, Decidable.not_not] at hb))))
  | true =>
    rw [hf] at s1
    by_cases hc : n < p ∨ (qu.length : Int) < n ∨ n < 0 ∨ fs.length ≠ qu.length
    · dsimp only [List.map, ofPV, opC, initEnv] at s1 ⊢
      repeat' (first | (simp (disch := omega) only [go_sem, seval, reduceCtorEq, rqRow_length, ftRow_length]) | (apply x_pure; iterate 5 (first | exact s1 | exact ps_lives38 | ((try simp (disch := omega) only [go_sem, seval, reduceCtorEq, rqRow_length, ftRow_length]) <;> with_reducible exact rfl))) | ((first | apply x_split_cond | apply x_split_guard); all_goals (intro hb; (try simp only [Bool.not_eq_true', Bool.not_eq_false'] at hb); (simp (disch := omega) only [go_sem, seval, reduceCtorEq, rqRow_length, ftRow_length, hb]); (try simp only [decide_eq_true_eq, decide_eq_false_iff_not, beq_iff_eq, beq_eq_false_iff_ne, ne_eq, bne_iff_ne, bne_eq_false_iff_eq, Decidable.not_not] at hb))))
      all_goals (exfalso; omega)
    · obtain ⟨N, rfl⟩ : ∃ N : Nat, n = N := ⟨n.toNat, by omega⟩
      obtain ⟨k1, k2, k3, k4⟩ := few38_ok hf
      have c1 : ¬ (N : Int) < p := by omega
      have c2 : ¬ (qu.length : Int) < (N : Int) := by omega
      have c2' : N ≤ qu.length := by omega
      have c2'' : (N : Int) ≤ (qu.length : Int) := by omega
      have c3 : fs.length = qu.length := by omega
      have c4 : ¬ (N : Int) < 0 := by omega
      have c5 : (0 : Int) ≤ (N : Int) := by omega
      have t1 : (qu.take N).length = N := by simp; omega
      have t2 : (fs.take N).length = N := by simp; omega
      have s2 := ps_fsel q hot false qu false fs false p (by omega) (by omega) k4
      have s3 := ps_fsel q hot false (qu.take N) false (fs.take N) false p (by omega) (by omega) (fun f hf => k4 f (List.mem_of_mem_take hf))
      simp only [selR, t1, t2] at s3
      by_cases hb : badS q qu.length fs.length p
      · have hb' : badS q N N p := by
          unfold badS at hb ⊢
          rcases hb with hh | hh | hh | hh | hh
          · exact .inl hh
          all_goals exact .inr (by omega)
        have e1 := ps_below [] N true (by simp)
        have e := ps_r38same [] [] false true (by simp)
        simp only [selR, if_pos hb] at s2
        simp only [if_pos hb'] at s3
        simp only [bel, List.filter, nRow, List.map, decide_true] at e e1
        dsimp only [List.map, ofPV, opC, qC, initEnv] at s1 s2 s3 ⊢
        repeat' (first | (simp (disch := omega) only [go_sem, seval, reduceCtorEq, rqRow_length, ftRow_length, c1, c2, c2', c2'', c3, c4, c5, rqRow_takeN, ftRow_takeN, rqRow_all, ftRow_all]) | (apply x_pure; iterate 5 (first | exact s1 | exact s2 | exact s3 | exact e1 | exact e | exact ps_lives38 | ((try simp (disch := omega) only [go_sem, seval, reduceCtorEq, rqRow_length, ftRow_length, c1, c2, c2', c2'', c3, c4, c5, rqRow_takeN, ftRow_takeN, rqRow_all, ftRow_all]) <;> with_reducible exact rfl))) | ((first | apply x_split_cond | apply x_split_guard); all_goals (intro hb; (try simp only [Bool.not_eq_true', Bool.not_eq_false'] at hb); (simp (disch := omega) only [go_sem, seval, reduceCtorEq, rqRow_length, ftRow_length, c1, c2, c2', c2'', c3, c4, c5, rqRow_takeN, ftRow_takeN, rqRow_all, ftRow_all, hb]); (try simp only [decide_eq_true_eq, decide_eq_false_iff_not, beq_iff_eq, beq_eq_false_iff_ne, ne_eq, bne_iff_ne, bne_eq_false_iff_eq, Decidable.not_not] at hb))))
      · have hb' : ¬ badS q N N p := by
          intro hn
          apply hb
          unfold badS at hn ⊢
          rcases hn with hh | hh | hh | hh | hh
          · exact .inl hh
          all_goals exact .inr (by omega)
        have iv := inv_sel (q := q) (hot := hot) (qu := qu) (fs := fs) (p := p) (i := qu.length) (by omega)
        have iw := inv_sel (q := q) (hot := hot) (qu := qu) (fs := fs) (p := p) (i := N) (by omega)
        have st := sel_take (q := q) (hot := hot) (qu := qu) (fs := fs) (p := p) (n := N) (Nat.le_refl N) (by omega)
        obtain ⟨b1, b2, b3⟩ := sel_bel (q := q) (hot := hot) (qu := qu) (fs := fs) (p := p) (n := N) (by omega) (qu.length - N)
        rw [show N + (qu.length - N) = qu.length by omega] at b1 b2 b3
        have e1 := ps_below (selN q hot qu fs p qu.length).a N false (by have := iv.a.2; omega)
        have e2 := ps_below (selN q hot qu fs p qu.length).d N false (by have := iv.d.2; omega)
        have e3 := ps_below (selN q hot qu fs p qu.length).x N false (by have := iv.x.2; omega)
        have e4 := ps_r38same (selN q hot qu fs p N).a (selN q hot qu fs p N).a false false (by have := iw.a.2; omega)
        have e5 := ps_r38same (selN q hot qu fs p N).d (selN q hot qu fs p N).d false false (by have := iw.d.2; omega)
        have e6 := ps_r38same (selN q hot qu fs p N).x (selN q hot qu fs p N).x false false (by have := iw.x.2; omega)
        rw [b1] at e1
        rw [b2] at e2
        rw [b3] at e3
        simp only [selR, if_neg hb] at s2
        simp only [if_neg hb', st] at s3
        simp only [decide_true] at e4 e5 e6
        dsimp only [List.map, ofPV, opC, qC, initEnv] at s1 s2 s3 ⊢
        repeat' (first | (simp (disch := omega) only [go_sem, seval, reduceCtorEq, rqRow_length, ftRow_length, c1, c2, c2', c2'', c3, c4, c5, rqRow_takeN, ftRow_takeN, rqRow_all, ftRow_all]) | (apply x_pure; iterate 5 (first | exact s1 | exact s2 | exact s3 | exact e1 | exact e2 | exact e3 | exact e4 | exact e5 | exact e6 | exact ps_lives38 | ((try simp (disch := omega) only [go_sem, seval, reduceCtorEq, rqRow_length, ftRow_length, c1, c2, c2', c2'', c3, c4, c5, rqRow_takeN, ftRow_takeN, rqRow_all, ftRow_all]) <;> with_reducible exact rfl))) | ((first | apply x_split_cond | apply x_split_guard); all_goals (intro hb; (try simp only [Bool.not_eq_true', Bool.not_eq_false'] at hb); (simp (disch := omega) only [go_sem, seval, reduceCtorEq, rqRow_length, ftRow_length, c1, c2, c2', c2'', c3, c4, c5, rqRow_takeN, ftRow_takeN, rqRow_all, ftRow_all, hb]); (try simp only [decide_eq_true_eq, decide_eq_false_iff_not, beq_iff_eq, beq_eq_false_iff_ne, ne_eq, bne_iff_ne, bne_eq_false_iff_eq, Decidable.not_not] at hb))))

end Go.Dv.Try
