/-
  Specifications of chapter 38, part 4b: the document's Select.
-/
import Derived.Test.YtlbfmbnmajlhaaaS4
set_option linter.unusedVariables false
set_option linter.unusedSimpArgs false
set_option maxRecDepth 100000
set_option maxHeartbeats 4000000
namespace Go.Dv.Try
open Go Go.Dv


theorem l_rsel (q : Qt) (hot : List ByteArray) (b : Bool) (qu : List Rq) (d : Bool) (fs : List Ft) (c : Bool) (p : Int) (hl : hot.length ≤ 1000) (hq : qu.length ≤ 1000) (hfs : fs.length = qu.length) (ho : ∀ f ∈ fs, okF f) (K : Ex → St → Prop)
    (hx : ∀ s, s = selN q hot qu fs p qu.length → K (.exit 0) ⟨[(14, .ref 3 s.a.length 0 s.a.length), (15, .ref 2 s.d.length 0 s.d.length), (16, .ref 1 s.x.length 0 s.x.length)], [(4, .row false 3 (ftRow s.u)), (3, .row false 1 (nRow s.a)), (2, .row false 1 (nRow s.d)), (1, .row false 1 (nRow s.x))], 5, [0]⟩) : ∀ (m i : Nat), i + m = qu.length → ∀ s, s = selN q hot qu fs p i →
    W tb a29_l0 ⟨[(1, .p (.slice b (strRow hot))), (2, .p (.slice d (rqRow qu))), (3, .p (.slice c (ftRow fs))), (4, .p (.int .i64 p)), (5, .ptr 0 0), (14, .ref 3 s.a.length 0 s.a.length), (15, .ref 2 s.d.length 0 s.d.length), (16, .ref 1 s.x.length 0 s.x.length), (17, .ref 4 s.u.length 0 s.u.length), (18, .p (.int .i64 i))], [(4, .row false 3 (ftRow s.u)), (3, .row false 1 (nRow s.a)), (2, .row false 1 (nRow s.d)), (1, .row false 1 (nRow s.x)), (0, .var false [.p (.int .i64 q.b), .p (.int .i64 q.c), .p (.int .i64 q.k), .p (.int .i64 q.q)])], 5, [0]⟩ (LK tb (.ghost .lower a29_l0) K) := by
  intro m
  induction m with
  | zero =>
    intro i hi s hs
    have h1 : ¬ (i : Int) < qu.length := by omega
    obtain rfl : i = qu.length := by omega
    refine i_code (by unfold a29_l0; exact rfl) ?_
    repeat' (first | (simp (disch := omega) only [go_sem, seval, reduceCtorEq, h1, rqRow_length]) | ((first | apply x_split_cond | apply x_split_guard); all_goals (intro hb; (try simp only [Bool.not_eq_true', Bool.not_eq_false'] at hb); (simp (disch := omega) only [go_sem, seval, reduceCtorEq, h1, rqRow_length, hb]); (try simp only [decide_eq_true_eq, decide_eq_false_iff_not, beq_iff_eq, beq_eq_false_iff_ne, ne_eq, bne_iff_ne, bne_eq_false_iff_eq, Decidable.not_not] at hb))))
    exact hx s hs
  | succ m ih =>
    intro i hi s hs
    have h1 : (i : Int) < qu.length := by omega
    have h2 : i < qu.length := by omega
    have h2' : i < fs.length := by omega
    have h4 : (0 : Int) ≤ i := by omega
    have h3 := rqRow_get qu i h2
    have h5 := ftRow_get fs i h2'
    have iv : Inv fs i s := by rw [hs]; exact inv_sel (by omega)
    have hok := ho fs[i] (List.getElem_mem h2')
    have l1 := iv.a.2
    have l2 := iv.d.2
    have l3 := iv.x.2
    have l4 := iv.u.2
    have s1 := ps_of qu s.d qu[i].c false d (by omega) (fun j hj => by have := iv.d.1 j hj; omega)
    have s2 := ps_of qu s.a qu[i].c false d (by omega) (fun j hj => by have := iv.a.1 j hj; omega)
    have s3 := ps_of qu s.x qu[i].c false d (by omega) (fun j hj => by have := iv.x.1 j hj; omega)
    have s4 := ps_rblk q hot b s.u false fs[i] hok hl (by omega) (fun f hf => ho f (iv.u.1 f hf))
    have e1 : (qu.getD i R0) = qu[i] := getR_get qu i h2
    have e2 : (fs.getD i F0) = fs[i] := getF_get fs i h2'
    have st : selN q hot qu fs p (i + 1) = stepS q hot qu fs p s i := by rw [hs]; rfl
    have kA : stepS q hot qu fs p s i = ⟨s.a ++ [i], s.d, s.x, s.u ++ [fs[i]]⟩ → W tb a29_l0 ⟨[(1, .p (.slice b (strRow hot))), (2, .p (.slice d (rqRow qu))), (3, .p (.slice c (ftRow fs))), (4, .p (.int .i64 p)), (5, .ptr 0 0), (14, .ref 3 (s.a.length + 1) 0 (s.a.length + 1)), (15, .ref 2 s.d.length 0 s.d.length), (16, .ref 1 s.x.length 0 s.x.length), (17, .ref 4 (s.u.length + 1) 0 (s.u.length + 1)), (18, .p (.int .i64 (i + 1 : Nat)))], [(4, .row false 3 (ftRow (s.u ++ [fs[i]]))), (3, .row false 1 (nRow (s.a ++ [i]))), (2, .row false 1 (nRow s.d)), (1, .row false 1 (nRow s.x)), (0, .var false [.p (.int .i64 q.b), .p (.int .i64 q.c), .p (.int .i64 q.k), .p (.int .i64 q.q)])], 5, [0]⟩ (LK tb (.ghost .lower a29_l0) K) := fun e => by
      have := ih (i + 1) (by omega) ⟨s.a ++ [i], s.d, s.x, s.u ++ [fs[i]]⟩ (by rw [st, e])
      simpa only [List.length_append, List.length_singleton] using this
    have kX : stepS q hot qu fs p s i = ⟨s.a, s.d, s.x ++ [i], s.u⟩ → W tb a29_l0 ⟨[(1, .p (.slice b (strRow hot))), (2, .p (.slice d (rqRow qu))), (3, .p (.slice c (ftRow fs))), (4, .p (.int .i64 p)), (5, .ptr 0 0), (14, .ref 3 s.a.length 0 s.a.length), (15, .ref 2 s.d.length 0 s.d.length), (16, .ref 1 (s.x.length + 1) 0 (s.x.length + 1)), (17, .ref 4 s.u.length 0 s.u.length), (18, .p (.int .i64 (i + 1 : Nat)))], [(4, .row false 3 (ftRow s.u)), (3, .row false 1 (nRow s.a)), (2, .row false 1 (nRow s.d)), (1, .row false 1 (nRow (s.x ++ [i]))), (0, .var false [.p (.int .i64 q.b), .p (.int .i64 q.c), .p (.int .i64 q.k), .p (.int .i64 q.q)])], 5, [0]⟩ (LK tb (.ghost .lower a29_l0) K) := fun e => by
      have := ih (i + 1) (by omega) ⟨s.a, s.d, s.x ++ [i], s.u⟩ (by rw [st, e])
      simpa only [List.length_append, List.length_singleton] using this
    have kD : stepS q hot qu fs p s i = ⟨s.a, s.d ++ [i], s.x, s.u⟩ → W tb a29_l0 ⟨[(1, .p (.slice b (strRow hot))), (2, .p (.slice d (rqRow qu))), (3, .p (.slice c (ftRow fs))), (4, .p (.int .i64 p)), (5, .ptr 0 0), (14, .ref 3 s.a.length 0 s.a.length), (15, .ref 2 (s.d.length + 1) 0 (s.d.length + 1)), (16, .ref 1 s.x.length 0 s.x.length), (17, .ref 4 s.u.length 0 s.u.length), (18, .p (.int .i64 (i + 1 : Nat)))], [(4, .row false 3 (ftRow s.u)), (3, .row false 1 (nRow s.a)), (2, .row false 1 (nRow (s.d ++ [i]))), (1, .row false 1 (nRow s.x)), (0, .var false [.p (.int .i64 q.b), .p (.int .i64 q.c), .p (.int .i64 q.k), .p (.int .i64 q.q)])], 5, [0]⟩ (LK tb (.ghost .lower a29_l0) K) := fun e => by
      have := ih (i + 1) (by omega) ⟨s.a, s.d ++ [i], s.x, s.u⟩ (by rw [st, e])
      simpa only [List.length_append, List.length_singleton] using this
    dsimp only [rqC] at h3
    dsimp only [ftC] at h5
    dsimp only [qC, ftC] at s4
    simp only [stepS, e1, e2] at kA kX kD
    refine i_code (by unfold a29_l0; exact rfl) ?_
    repeat' (first | (simp (disch := omega) only [go_sem, seval, reduceCtorEq, h1, h4, rqRow_length, nRow_length, ftRow_length, h3, h5, nRow_take, ftRow_take, nRow_app, ftRow_app, nRow_all, ftRow_all, maxB, one1, one3]) | (apply x_pure; iterate 5 (first | exact s1 | exact s2 | exact s3 | exact s4 | ((try simp (disch := omega) only [go_sem, seval, reduceCtorEq, h1, h4, rqRow_length, nRow_length, ftRow_length, h3, h5, nRow_take, ftRow_take, nRow_app, ftRow_app, nRow_all, ftRow_all, maxB, one1, one3]) <;> with_reducible exact rfl))) | ((first | apply x_split_cond | apply x_split_guard); all_goals (intro hb; (try simp only [Bool.not_eq_true', Bool.not_eq_false'] at hb); (simp (disch := omega) only [go_sem, seval, reduceCtorEq, h1, h4, rqRow_length, nRow_length, ftRow_length, h3, h5, nRow_take, ftRow_take, nRow_app, ftRow_app, nRow_all, ftRow_all, maxB, one1, one3, hb]); (try simp only [decide_eq_true_eq, decide_eq_false_iff_not, beq_iff_eq, beq_eq_false_iff_ne, ne_eq, bne_iff_ne, bne_eq_false_iff_eq, Decidable.not_not] at hb))))
    all_goals
      refine i_lk (W_round ?_)
      (try simp (disch := omega) only [go_sem, seval, reduceCtorEq])
      first
        | (refine kA ?_; grind)
        | (refine kX ?_; grind)
        | (refine kD ?_; grind)

end Go.Dv.Try
