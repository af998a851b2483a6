/-
  Specifications of chapter 38, part 9: AdmitLimits.
-/
import Derived.Test.YtlbfmbnmajlhaaaS6
import Derived.Test.YtlbfmbnmajlhaaaS7
set_option linter.unusedVariables false
set_option linter.unusedSimpArgs false
set_option maxRecDepth 100000
set_option maxHeartbeats 4000000
namespace Go.Dv.Try
open Go Go.Dv

theorem cntC_takeLe (qu : List Rq) (l : List Nat) (c : Int) (i : Nat) : cntC qu (l.take i) c ≤ cntC qu l c := List.Sublist.countP_le (List.take_sublist i l)

theorem l_lim1 (q : Qt) (hot : List ByteArray) (qu : List Rq) (fs : List Ft) (p : Int) (A : List Nat) (hA : ∀ j ∈ A, j < qu.length) (hl : A.length ≤ 1000) (acc : List Ft) (i : Nat) (hi : i < A.length) (c : Int) (hc : ∀ h : A[i] < qu.length, (qu[A[i]]'h).c = c) (K : Ex → St → Prop)
    (hx : K (.exit 2) ⟨[(1, .ptr 0 0), (3, .p (.slice false (nRow A))), (7, .ref 1 acc.length 0 acc.length), (8, .p (.int .i64 i)), (9, .p (.int .i64 (cntC qu (A.take (i + 1)) c)))], [(1, .row false 3 (ftRow acc)), (0, .var false [.p (.int .i64 q.b), .p (.int .i64 q.c), .p (.int .i64 q.k), .p (.int .i64 q.q), .p (.slice false (strRow hot)), .p (.slice false (rqRow qu)), .p (.slice false (ftRow fs)), .p (.int .i64 p)])], 2, [0]⟩) : ∀ (m k : Nat), k + m = i + 1 →
    W tb a7_l1 ⟨[(1, .ptr 0 0), (3, .p (.slice false (nRow A))), (7, .ref 1 acc.length 0 acc.length), (8, .p (.int .i64 i)), (9, .p (.int .i64 (cntC qu (A.take k) c))), (10, .p (.int .i64 k))], [(1, .row false 3 (ftRow acc)), (0, .var false [.p (.int .i64 q.b), .p (.int .i64 q.c), .p (.int .i64 q.k), .p (.int .i64 q.q), .p (.slice false (strRow hot)), .p (.slice false (rqRow qu)), .p (.slice false (ftRow fs)), .p (.int .i64 p)])], 2, [0]⟩ (LK tb (.ghost .lower a7_l1) K) := by
  intro m
  induction m with
  | zero =>
    intro k hk
    obtain rfl : k = i + 1 := by omega
    have h1 : ¬ ((i + 1 : Nat) : Int) ≤ (i : Int) := by omega
    refine i_code (by unfold a7_l1; exact rfl) ?_
    repeat' (first | (simp (disch := omega) only [go_sem, seval, reduceCtorEq, h1]) | ((first | apply x_split_cond | apply x_split_guard); all_goals (intro hb; (try simp only [Bool.not_eq_true', Bool.not_eq_false'] at hb); (simp (disch := omega) only [go_sem, seval, reduceCtorEq, h1, hb]); (try simp only [decide_eq_true_eq, decide_eq_false_iff_not, beq_iff_eq, beq_eq_false_iff_ne, ne_eq, bne_iff_ne, bne_eq_false_iff_eq, Decidable.not_not] at hb))))
    exact hx
  | succ m ih =>
    intro k hk
    have h1 : (k : Int) ≤ (i : Int) := by omega
    have h2 : k < A.length := by omega
    have h4 : (0 : Int) ≤ (k : Int) := by omega
    have h4' : (0 : Int) ≤ (i : Int) := by omega
    have h3 := nRow_get A k h2
    have h3' := nRow_get A i hi
    have h8 := hA A[k] (List.getElem_mem h2)
    have h8' := hA A[i] (List.getElem_mem hi)
    have h9 := rqRow_get qu A[k] h8
    have h9' := rqRow_get qu A[i] h8'
    have hc' := hc h8'
    have h10 : (0 : Int) ≤ (A[k] : Int) := by omega
    have h10' : (0 : Int) ≤ (A[i] : Int) := by omega
    have h5 := cntC_step qu A c k h2
    rw [getR_get qu _ h8] at h5
    have h6 := cntC_le qu (A.take k) c
    have h7 : (A.take k).length ≤ 1000 := by simp; omega
    have ih := ih (k + 1) (by omega)
    dsimp only [rqC] at h9 h9'
    refine i_code (by unfold a7_l1; exact rfl) ?_
    repeat' (first | (simp (disch := omega) only [go_sem, seval, reduceCtorEq, h1, h4, h4', nRow_length, h3, h3', h9, h9', h10, h10', hc']) | ((first | apply x_split_cond | apply x_split_guard); all_goals (intro hb; (try simp only [Bool.not_eq_true', Bool.not_eq_false'] at hb); (simp (disch := omega) only [go_sem, seval, reduceCtorEq, h1, h4, h4', nRow_length, h3, h3', h9, h9', h10, h10', hc', hb]); (try simp only [decide_eq_true_eq, decide_eq_false_iff_not, beq_iff_eq, beq_eq_false_iff_ne, ne_eq, bne_iff_ne, bne_eq_false_iff_eq, Decidable.not_not] at hb))))
    all_goals
      first
        | rw [h5, decide_eq_true hb] at ih
        | rw [h5, decide_eq_false hb] at ih
      simp only [Bool.false_eq_true, reduceIte, Nat.add_zero] at ih
      refine i_lk (W_round ?_)
      (try simp (disch := omega) only [go_sem, seval, reduceCtorEq])
      exact ih

theorem l_lim2 (q : Qt) (hot : List ByteArray) (qu : List Rq) (fs : List Ft) (p : Int) (A : List Nat) (hfs : fs.length = qu.length) (hA : ∀ j ∈ A, j < qu.length) (hl : A.length ≤ 1000) (hq : ∀ c, (cntC qu A c : Int) ≤ q.c) (K : Ex → St → Prop)
    (hx : ∀ acc, acc = A.map (fun j => fs.getD j F0) → K (.exit 0) ⟨[(1, .ptr 0 0), (7, .ref 1 acc.length 0 acc.length)], [(1, .row false 3 (ftRow acc)), (0, .var false [.p (.int .i64 q.b), .p (.int .i64 q.c), .p (.int .i64 q.k), .p (.int .i64 q.q), .p (.slice false (strRow hot)), .p (.slice false (rqRow qu)), .p (.slice false (ftRow fs)), .p (.int .i64 p)])], 2, [0]⟩) : ∀ (m i : Nat), i + m = A.length → ∀ acc, acc = (A.take i).map (fun j => fs.getD j F0) →
    W tb a7_l2 ⟨[(1, .ptr 0 0), (3, .p (.slice false (nRow A))), (7, .ref 1 acc.length 0 acc.length), (8, .p (.int .i64 i))], [(1, .row false 3 (ftRow acc)), (0, .var false [.p (.int .i64 q.b), .p (.int .i64 q.c), .p (.int .i64 q.k), .p (.int .i64 q.q), .p (.slice false (strRow hot)), .p (.slice false (rqRow qu)), .p (.slice false (ftRow fs)), .p (.int .i64 p)])], 2, [0]⟩ (LK tb (.ghost .lower a7_l2) K) := by
  intro m
  induction m with
  | zero =>
    intro i hi acc hacc
    have h1 : ¬ (i : Int) < A.length := by omega
    rw [List.take_of_length_le (by omega)] at hacc
    refine i_code (by unfold a7_l2; exact rfl) ?_
    repeat' (first | (simp (disch := omega) only [go_sem, seval, reduceCtorEq, h1, nRow_length]) | ((first | apply x_split_cond | apply x_split_guard); all_goals (intro hb; (try simp only [Bool.not_eq_true', Bool.not_eq_false'] at hb); (simp (disch := omega) only [go_sem, seval, reduceCtorEq, h1, nRow_length, hb]); (try simp only [decide_eq_true_eq, decide_eq_false_iff_not, beq_iff_eq, beq_eq_false_iff_ne, ne_eq, bne_iff_ne, bne_eq_false_iff_eq, Decidable.not_not] at hb))))
    exact hx acc hacc
  | succ m ih =>
    intro i hi acc hacc
    have h1 : (i : Int) < A.length := by omega
    have h2 : i < A.length := by omega
    have h4 : (0 : Int) ≤ (i : Int) := by omega
    have h3 := nRow_get A i h2
    have h8 := hA A[i] (List.getElem_mem h2)
    have h8' : A[i] < fs.length := by omega
    have h9 := ftRow_get fs A[i] h8'
    have h10 : (0 : Int) ≤ (A[i] : Int) := by omega
    have h10' : ¬ (A[i] : Int) < 0 := by omega
    have h11 : ¬ (qu.length : Int) ≤ (A[i] : Int) := by omega
    have hlen : acc.length ≤ 1000 := by rw [hacc]; simp; omega
    have h6 : (A.take (i + 1)).map (fun j => fs.getD j F0) = acc ++ [fs[A[i]]] := by
      rw [hacc, List.take_add_one, List.getElem?_eq_getElem h2, List.map_append, ← getF_get fs A[i] h8']
      rfl
    have h12 : ¬ q.c < (cntC qu (A.take (i + 1)) qu[A[i]].c : Int) := by
      have a1 := cntC_takeLe qu A qu[A[i]].c (i + 1)
      have a2 := hq qu[A[i]].c
      omega
    have ih := ih (i + 1) (by omega) (acc ++ [fs[A[i]]]) h6.symm
    simp only [List.length_append, List.length_singleton] at ih
    have in1 := l_lim1 q hot qu fs p A hA hl (acc ++ [fs[A[i]]]) i h2 qu[A[i]].c (fun _ => rfl)
    simp only [List.length_append, List.length_singleton] at in1
    dsimp only [ftC] at h9
    refine i_code (by unfold a7_l2; exact rfl) ?_
    repeat' (first | (simp (disch := omega) only [go_sem, seval, reduceCtorEq, h1, h4, nRow_length, rqRow_length, ftRow_length, h3, h9, h10, h10', h11, ftRow_app, ftRow_all, one3, maxB]) | ((first | apply x_split_cond | apply x_split_guard); all_goals (intro hb; (try simp only [Bool.not_eq_true', Bool.not_eq_false'] at hb); (simp (disch := omega) only [go_sem, seval, reduceCtorEq, h1, h4, nRow_length, rqRow_length, ftRow_length, h3, h9, h10, h10', h11, ftRow_app, ftRow_all, one3, maxB, hb]); (try simp only [decide_eq_true_eq, decide_eq_false_iff_not, beq_iff_eq, beq_eq_false_iff_ne, ne_eq, bne_iff_ne, bne_eq_false_iff_eq, Decidable.not_not] at hb))))
    refine W_round ?_
    (try simp (disch := omega) only [go_sem, seval, reduceCtorEq])
    refine in1 _ ?_ (i + 1) 0 (by omega)
    repeat' (first | (simp (disch := omega) only [go_sem, seval, reduceCtorEq, h12]) | ((first | apply x_split_cond | apply x_split_guard); all_goals (intro hb; (try simp only [Bool.not_eq_true', Bool.not_eq_false'] at hb); (simp (disch := omega) only [go_sem, seval, reduceCtorEq, h12, hb]); (try simp only [decide_eq_true_eq, decide_eq_false_iff_not, beq_iff_eq, beq_eq_false_iff_ne, ne_eq, bne_iff_ne, bne_eq_false_iff_eq, Decidable.not_not] at hb))))
    refine i_lk (W_round ?_)
    (try simp (disch := omega) only [go_sem, seval, reduceCtorEq])
    exact ih

theorem l_lim0 (q : Qt) (hot : List ByteArray) (qu : List Rq) (fs : List Ft) (p : Int) (acc : List Ft) (hl : acc.length ≤ 1000) (hh : hot.length ≤ 1000) (ho : ∀ f ∈ acc, okF f) (hq : ∀ k ∈ hot, (usersN acc k : Int) ≤ q.k) (K : Ex → St → Prop)
    (hx : K (.exit 4) ⟨[], [(1, .row false 3 (ftRow acc))], 2, [0]⟩) : ∀ (m i : Nat), i + m = hot.length →
    W tb a7_l0 ⟨[(1, .ptr 0 0), (7, .ref 1 acc.length 0 acc.length), (11, .p (.int .i64 i))], [(1, .row false 3 (ftRow acc)), (0, .var false [.p (.int .i64 q.b), .p (.int .i64 q.c), .p (.int .i64 q.k), .p (.int .i64 q.q), .p (.slice false (strRow hot)), .p (.slice false (rqRow qu)), .p (.slice false (ftRow fs)), .p (.int .i64 p)])], 2, [0]⟩ (LK tb (.ghost .lower a7_l0) K) := by
  intro m
  induction m with
  | zero =>
    intro i hi
    have h1 : ¬ (i : Int) < hot.length := by omega
    refine i_code (by unfold a7_l0; exact rfl) ?_
    repeat' (first | (simp (disch := omega) only [go_sem, seval, reduceCtorEq, h1, strRow_length]) | ((first | apply x_split_cond | apply x_split_guard); all_goals (intro hb; (try simp only [Bool.not_eq_true', Bool.not_eq_false'] at hb); (simp (disch := omega) only [go_sem, seval, reduceCtorEq, h1, strRow_length, hb]); (try simp only [decide_eq_true_eq, decide_eq_false_iff_not, beq_iff_eq, beq_eq_false_iff_ne, ne_eq, bne_iff_ne, bne_eq_false_iff_eq, Decidable.not_not] at hb))))
    exact hx
  | succ m ih =>
    intro i hi
    have h1 : (i : Int) < hot.length := by omega
    have h2 : i < hot.length := by omega
    have h4 : (0 : Int) ≤ (i : Int) := by omega
    have h3 := strRow_get hot i h2
    have s1 := ps_users acc hot[i] false hl ho
    have h5 : ¬ q.k < (usersN acc hot[i] : Int) := by have := hq hot[i] (List.getElem_mem h2); omega
    have ih := ih (i + 1) (by omega)
    refine i_code (by unfold a7_l0; exact rfl) ?_
    repeat' (first | (simp (disch := omega) only [go_sem, seval, reduceCtorEq, h1, h4, strRow_length, ftRow_length, ftRow_take, h3, h5]) | (apply x_pure; iterate 5 (first | exact s1 | ((try simp (disch := omega) only [go_sem, seval, reduceCtorEq, h1, h4, strRow_length, ftRow_length, ftRow_take, h3, h5]) <;> with_reducible exact rfl))) | ((first | apply x_split_cond | apply x_split_guard); all_goals (intro hb; (try simp only [Bool.not_eq_true', Bool.not_eq_false'] at hb); (simp (disch := omega) only [go_sem, seval, reduceCtorEq, h1, h4, strRow_length, ftRow_length, ftRow_take, h3, h5, hb]); (try simp only [decide_eq_true_eq, decide_eq_false_iff_not, beq_iff_eq, beq_eq_false_iff_ne, ne_eq, bne_iff_ne, bne_eq_false_iff_eq, Decidable.not_not] at hb))))
    refine i_lk (W_round ?_)
    (try simp (disch := omega) only [go_sem, seval, reduceCtorEq])
    exact ih

theorem walkAdmitLimits {u : List PV} (h : Fits [.int .i64, .int .i64, .int .i64, .int .i64, .slice [.str], .slice rqSh, .slice [.bool, .slice [.str], .slice [.str]], .int .i64] u) : PS tb 7 [.agg u] (.bool true) := by
  obtain ⟨q, hot, qu, fs, p, rfl, _⟩ := fit_op h
  have s1 := ps_lfew38 q hot qu fs p
  refine PS_of (af := a7) rfl rfl ?_
  unfold a7
  cases hf : few38 hot qu.length fs with
  | false =>
    rw [hf] at s1
    dsimp only [List.map, ofPV, opC, initEnv] at s1 ⊢
    repeat' (first | (simp (disch := omega) only [go_sem, seval, reduceCtorEq]) | (apply x_pure; iterate 5 (first | exact s1 | exact ps_lives38 | ((try simp (disch := omega) only [go_sem, seval, reduceCtorEq]) <;> with_reducible exact rfl))) | ((first | apply x_split_cond | apply x_split_guard); all_goals (intro hb; (try simp only [Bool.not_eq_true', Bool.not_eq_false'] at hb); (simp (disch := omega) only [go_sem, seval, reduceCtorEq, hb]); (try simp only [decide_eq_true_eq, decide_eq_false_iff_not, beq_iff_eq, beq_eq_false_iff_ne, ne_eq, bne_iff_ne, bne_eq_false_iff_eq, Decidable.not_not] at hb))))
  | true =>
    rw [hf] at s1
    obtain ⟨k1, k2, k3, k4⟩ := few38_ok hf
    have s2 := ps_fsel q hot false qu false fs false p (by omega) (by omega) k4
    by_cases hb : badS q qu.length fs.length p
    · simp only [selR, if_pos hb] at s2
      dsimp only [List.map, ofPV, opC, qC, initEnv] at s1 s2 ⊢
      repeat' (first | (simp (disch := omega) only [go_sem, seval, reduceCtorEq]) | (apply x_pure; iterate 5 (first | exact s1 | exact s2 | exact ps_lives38 | ((try simp (disch := omega) only [go_sem, seval, reduceCtorEq]) <;> with_reducible exact rfl))) | ((first | apply x_split_cond | apply x_split_guard); all_goals (intro hb; (try simp only [Bool.not_eq_true', Bool.not_eq_false'] at hb); (simp (disch := omega) only [go_sem, seval, reduceCtorEq, hb]); (try simp only [decide_eq_true_eq, decide_eq_false_iff_not, beq_iff_eq, beq_eq_false_iff_ne, ne_eq, bne_iff_ne, bne_eq_false_iff_eq, Decidable.not_not] at hb))))
    · have hfs : fs.length = qu.length := by unfold badS at hb; omega
      have hv : vq q = true := by
        cases hv : vq q with
        | true => rfl
        | false => exact absurd (.inl hv) hb
      have hpq : p ≤ q.q := by unfold badS at hb; omega
      have lim := lim_sel (q := q) (hot := hot) (qu := qu) (fs := fs) (p := p) hpq (i := qu.length) (by omega)
      have iv := inv_sel (q := q) (hot := hot) (qu := qu) (fs := fs) (p := p) (i := qu.length) (by omega)
      simp only [vq, inB, Bool.and_eq_true, decide_eq_true_eq] at hv
      simp only [selR, if_neg hb] at s2
      generalize selN q hot qu fs p qu.length = s at s2 lim iv
      have l1 := iv.a.2
      have b1 : ¬ q.b < (s.a.length : Int) := by have := lim.a; omega
      have b2 : ¬ q.q < (s.d.length : Int) := by have := lim.d; omega
      have hc : ∀ c, (cntC qu s.a c : Int) ≤ q.c := fun c => by have := lim.c c; omega
      have hk : ∀ k ∈ hot, (usersN s.u k : Int) ≤ q.k := fun k hk => by have := lim.k k hk; omega
      dsimp only [List.map, ofPV, opC, qC, initEnv] at s1 s2 ⊢
      repeat' (first | (simp (disch := omega) only [go_sem, seval, reduceCtorEq, nRow_length, b1, b2]) | (apply x_pure; iterate 5 (first | exact s1 | exact s2 | exact ps_lives38 | ((try simp (disch := omega) only [go_sem, seval, reduceCtorEq, nRow_length, b1, b2]) <;> with_reducible exact rfl))) | ((first | apply x_split_cond | apply x_split_guard); all_goals (intro hb; (try simp only [Bool.not_eq_true', Bool.not_eq_false'] at hb); (simp (disch := omega) only [go_sem, seval, reduceCtorEq, nRow_length, b1, b2, hb]); (try simp only [decide_eq_true_eq, decide_eq_false_iff_not, beq_iff_eq, beq_eq_false_iff_ne, ne_eq, bne_iff_ne, bne_eq_false_iff_eq, Decidable.not_not] at hb))))
      refine W_round ?_
      (try simp (disch := omega) only [go_sem, seval, reduceCtorEq])
      refine l_lim2 q hot qu fs p s.a hfs iv.a.1 (by omega) hc _ ?_ s.a.length 0 (by omega) [] rfl
      intro acc hacc
      rw [← lim.u] at hacc
      subst hacc
      (try simp (disch := omega) only [go_sem, seval, reduceCtorEq])
      refine W_round ?_
      (try simp (disch := omega) only [go_sem, seval, reduceCtorEq])
      refine l_lim0 q hot qu fs p s.u (by have := iv.u.2; omega) (by omega) (fun f hf => k4 f (iv.u.1 f hf)) hk _ ?_ hot.length 0 (by omega)
      repeat' (first | (simp (disch := omega) only [go_sem, seval, reduceCtorEq]) | (apply x_pure; iterate 5 (first | exact ps_lives38 | ((try simp (disch := omega) only [go_sem, seval, reduceCtorEq]) <;> with_reducible exact rfl))) | ((first | apply x_split_cond | apply x_split_guard); all_goals (intro hb; (try simp only [Bool.not_eq_true', Bool.not_eq_false'] at hb); (simp (disch := omega) only [go_sem, seval, reduceCtorEq, hb]); (try simp only [decide_eq_true_eq, decide_eq_false_iff_not, beq_iff_eq, beq_eq_false_iff_ne, ne_eq, bne_iff_ne, bne_eq_false_iff_eq, Decidable.not_not] at hb))))

end Go.Dv.Try
