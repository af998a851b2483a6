/-
  Specifications of chapter 38, part 5b: the program's Select.
-/
import Derived.Test.YtlbfmbnmajlhaaaS5
set_option linter.unusedVariables false
set_option linter.unusedSimpArgs false
set_option maxRecDepth 100000
set_option maxHeartbeats 4000000
namespace Go.Dv.Try
open Go Go.Dv


theorem l_fsel (q : Qt) (hot : List ByteArray) (b : Bool) (qu : List Rq) (d : Bool) (fs : List Ft) (c : Bool) (p : Int) (hl : hot.length ≤ 1000) (hq : qu.length ≤ 1000) (hfs : fs.length = qu.length) (ho : ∀ f ∈ fs, okF f) (K : Ex → St → Prop)
    (hx : ∀ s ka kd kx, s = selN q hot qu fs p qu.length → K (.exit 0) ⟨[(15, .ref 8 s.a.length 0 s.a.length), (16, .ref 7 s.d.length 0 s.d.length), (17, .ref 6 s.x.length 0 s.x.length)], [(8, .row false 1 (nRow s.a)), (7, .row false 1 (nRow s.d)), (6, .row false 1 (nRow s.x)), (5, .row false 3 (ftRow s.u)), (4, .var false [.p (.int .i64 q.b), .p (.int .i64 q.c), .p (.int .i64 q.k), .p (.int .i64 q.q), .p (.slice b (strRow hot)), .ref 5 s.u.length 0 s.u.length, .ptr 1 0, .ptr 2 0, .ptr 3 0]), (3, .map false kx), (2, .map false kd), (1, .map false ka)], 9, [0]⟩) : ∀ (m i : Nat), i + m = qu.length → ∀ s ka kd kx, s = selN q hot qu fs p i → Maps qu s ka kd kx →
    W tb a22_l0 ⟨[(3, .p (.slice c (ftRow fs))), (4, .p (.int .i64 p)), (5, .ptr 0 0), (14, .ptr 4 0), (15, .ref 8 s.a.length 0 s.a.length), (16, .ref 7 s.d.length 0 s.d.length), (17, .ref 6 s.x.length 0 s.x.length), (54, .p (.slice d (rqRow qu))), (55, .p (.int .i64 qu.length)), (56, .p (.int .i64 i))], [(8, .row false 1 (nRow s.a)), (7, .row false 1 (nRow s.d)), (6, .row false 1 (nRow s.x)), (5, .row false 3 (ftRow s.u)), (4, .var false [.p (.int .i64 q.b), .p (.int .i64 q.c), .p (.int .i64 q.k), .p (.int .i64 q.q), .p (.slice b (strRow hot)), .ref 5 s.u.length 0 s.u.length, .ptr 1 0, .ptr 2 0, .ptr 3 0]), (3, .map false (kx)), (2, .map false (kd)), (1, .map false (ka)), (0, .var false [.p (.int .i64 q.b), .p (.int .i64 q.c), .p (.int .i64 q.k), .p (.int .i64 q.q)])], 9, [0]⟩ (LK tb (.ghost (.free [19]) (.ghost .lower a22_l0)) K) := by
  intro m
  induction m with
  | zero =>
    intro i hi s ka kd kx hs hm
    have h1 : ¬ (i : Int) < qu.length := by omega
    obtain rfl : i = qu.length := by omega
    refine i_code (by unfold a22_l0; exact rfl) ?_
    repeat' (first | (simp (disch := omega) only [go_sem, seval, reduceCtorEq, h1, rqRow_length]) | ((first | apply x_split_cond | apply x_split_guard); all_goals (intro hb; (try simp only [Bool.not_eq_true', Bool.not_eq_false'] at hb); (simp (disch := omega) only [go_sem, seval, reduceCtorEq, h1, rqRow_length, hb]); (try simp only [decide_eq_true_eq, decide_eq_false_iff_not, beq_iff_eq, beq_eq_false_iff_ne, ne_eq, bne_iff_ne, bne_eq_false_iff_eq, Decidable.not_not] at hb))))
    exact hx s ka kd kx hs
  | succ m ih =>
    intro i hi s ka kd kx hs hm
    have h1 : (i : Int) < qu.length := by omega
    have h2 : i < qu.length := by omega
    have h2' : i < fs.length := by omega
    have h4 : (0 : Int) ≤ i := by omega
    have h3 := rqRow_get qu i h2
    have h5 := ftRow_get fs i h2'
    have iv : Inv fs i s := by rw [hs]; exact inv_sel (by omega)
    have hok := ho fs[i] (List.getElem_mem h2')
    have l1 := iv.a.2
    have l2 := iv.d.2
    have l3 := iv.x.2
    have l4 := iv.u.2
    have l5 := iv.ua
    have l6 := cntC_le qu s.a qu[i].c
    have s1 := bs_open q hot b qu s ka kd kx hm qu[i] fs[i] hok hl (by omega) (fun f hf => ho f (iv.u.1 f hf)) qu[i].c
    have ea := hm.a qu[i].c
    have ex := hm.x qu[i].c
    simp only [Option.getD] at ea ex
    have e1 : (qu.getD i R0) = qu[i] := getR_get qu i h2
    have e2 : (fs.getD i F0) = fs[i] := getF_get fs i h2'
    have e3 : (qu.getD i R0).c = qu[i].c := by rw [e1]
    have st : selN q hot qu fs p (i + 1) = stepS q hot qu fs p s i := by rw [hs]; rfl
    have kA : ∀ n : Int, n = ((cntC qu s.a qu[i].c + 1 : Nat) : Int) → stepS q hot qu fs p s i = ⟨s.a ++ [i], s.d, s.x, s.u ++ [fs[i]]⟩ → W tb a22_l0 ⟨[(3, .p (.slice c (ftRow fs))), (4, .p (.int .i64 p)), (5, .ptr 0 0), (14, .ptr 4 0), (15, .ref 8 (s.a.length + 1) 0 (s.a.length + 1)), (16, .ref 7 s.d.length 0 s.d.length), (17, .ref 6 s.x.length 0 s.x.length), (54, .p (.slice d (rqRow qu))), (55, .p (.int .i64 qu.length)), (56, .p (.int .i64 (i + 1 : Nat)))], [(8, .row false 1 (nRow (s.a ++ [i]))), (7, .row false 1 (nRow s.d)), (6, .row false 1 (nRow s.x)), (5, .row false 3 (ftRow (s.u ++ [fs[i]]))), (4, .var false [.p (.int .i64 q.b), .p (.int .i64 q.c), .p (.int .i64 q.k), .p (.int .i64 q.q), .p (.slice b (strRow hot)), .ref 5 (s.u.length + 1) 0 (s.u.length + 1), .ptr 1 0, .ptr 2 0, .ptr 3 0]), (3, .map false (kx)), (2, .map false (kd)), (1, .map false (mset ka qu[i].c (.int .i64 n))), (0, .var false [.p (.int .i64 q.b), .p (.int .i64 q.c), .p (.int .i64 q.k), .p (.int .i64 q.q)])], 9, [0]⟩ (LK tb (.ghost (.free [19]) (.ghost .lower a22_l0)) K) := fun n hn e => by
      have := ih (i + 1) (by omega) ⟨s.a ++ [i], s.d, s.x, s.u ++ [fs[i]]⟩ _ _ _ (by rw [st, e]) (maps_a hm e3 hn)
      simpa only [List.length_append, List.length_singleton] using this
    have kX : 0 < cntC qu s.x qu[i].c → stepS q hot qu fs p s i = ⟨s.a, s.d, s.x ++ [i], s.u⟩ → W tb a22_l0 ⟨[(3, .p (.slice c (ftRow fs))), (4, .p (.int .i64 p)), (5, .ptr 0 0), (14, .ptr 4 0), (15, .ref 8 s.a.length 0 s.a.length), (16, .ref 7 s.d.length 0 s.d.length), (17, .ref 6 (s.x.length + 1) 0 (s.x.length + 1)), (54, .p (.slice d (rqRow qu))), (55, .p (.int .i64 qu.length)), (56, .p (.int .i64 (i + 1 : Nat)))], [(8, .row false 1 (nRow s.a)), (7, .row false 1 (nRow s.d)), (6, .row false 1 (nRow (s.x ++ [i]))), (5, .row false 3 (ftRow s.u)), (4, .var false [.p (.int .i64 q.b), .p (.int .i64 q.c), .p (.int .i64 q.k), .p (.int .i64 q.q), .p (.slice b (strRow hot)), .ref 5 s.u.length 0 s.u.length, .ptr 1 0, .ptr 2 0, .ptr 3 0]), (3, .map false (kx)), (2, .map false (kd)), (1, .map false (ka)), (0, .var false [.p (.int .i64 q.b), .p (.int .i64 q.c), .p (.int .i64 q.k), .p (.int .i64 q.q)])], 9, [0]⟩ (LK tb (.ghost (.free [19]) (.ghost .lower a22_l0)) K) := fun h e => by
      have := ih (i + 1) (by omega) ⟨s.a, s.d, s.x ++ [i], s.u⟩ _ _ _ (by rw [st, e]) (maps_x0 hm (by rw [e1]; exact h))
      simpa only [List.length_append, List.length_singleton] using this
    have kY : stepS q hot qu fs p s i = ⟨s.a, s.d, s.x ++ [i], s.u⟩ → W tb a22_l0 ⟨[(3, .p (.slice c (ftRow fs))), (4, .p (.int .i64 p)), (5, .ptr 0 0), (14, .ptr 4 0), (15, .ref 8 s.a.length 0 s.a.length), (16, .ref 7 s.d.length 0 s.d.length), (17, .ref 6 (s.x.length + 1) 0 (s.x.length + 1)), (54, .p (.slice d (rqRow qu))), (55, .p (.int .i64 qu.length)), (56, .p (.int .i64 (i + 1 : Nat)))], [(8, .row false 1 (nRow s.a)), (7, .row false 1 (nRow s.d)), (6, .row false 1 (nRow (s.x ++ [i]))), (5, .row false 3 (ftRow s.u)), (4, .var false [.p (.int .i64 q.b), .p (.int .i64 q.c), .p (.int .i64 q.k), .p (.int .i64 q.q), .p (.slice b (strRow hot)), .ref 5 s.u.length 0 s.u.length, .ptr 1 0, .ptr 2 0, .ptr 3 0]), (3, .map false (mset kx qu[i].c (.bool true))), (2, .map false (kd)), (1, .map false (ka)), (0, .var false [.p (.int .i64 q.b), .p (.int .i64 q.c), .p (.int .i64 q.k), .p (.int .i64 q.q)])], 9, [0]⟩ (LK tb (.ghost (.free [19]) (.ghost .lower a22_l0)) K) := fun e => by
      have := ih (i + 1) (by omega) ⟨s.a, s.d, s.x ++ [i], s.u⟩ _ _ _ (by rw [st, e]) (maps_x hm e3)
      simpa only [List.length_append, List.length_singleton] using this
    have kD : stepS q hot qu fs p s i = ⟨s.a, s.d ++ [i], s.x, s.u⟩ → W tb a22_l0 ⟨[(3, .p (.slice c (ftRow fs))), (4, .p (.int .i64 p)), (5, .ptr 0 0), (14, .ptr 4 0), (15, .ref 8 s.a.length 0 s.a.length), (16, .ref 7 (s.d.length + 1) 0 (s.d.length + 1)), (17, .ref 6 s.x.length 0 s.x.length), (54, .p (.slice d (rqRow qu))), (55, .p (.int .i64 qu.length)), (56, .p (.int .i64 (i + 1 : Nat)))], [(8, .row false 1 (nRow s.a)), (7, .row false 1 (nRow (s.d ++ [i]))), (6, .row false 1 (nRow s.x)), (5, .row false 3 (ftRow s.u)), (4, .var false [.p (.int .i64 q.b), .p (.int .i64 q.c), .p (.int .i64 q.k), .p (.int .i64 q.q), .p (.slice b (strRow hot)), .ref 5 s.u.length 0 s.u.length, .ptr 1 0, .ptr 2 0, .ptr 3 0]), (3, .map false (kx)), (2, .map false (mset kd qu[i].c (.bool true))), (1, .map false (ka)), (0, .var false [.p (.int .i64 q.b), .p (.int .i64 q.c), .p (.int .i64 q.k), .p (.int .i64 q.q)])], 9, [0]⟩ (LK tb (.ghost (.free [19]) (.ghost .lower a22_l0)) K) := fun e => by
      have := ih (i + 1) (by omega) ⟨s.a, s.d ++ [i], s.x, s.u⟩ _ _ _ (by rw [st, e]) (maps_d hm e3)
      simpa only [List.length_append, List.length_singleton] using this
    dsimp only [rqC] at h3
    dsimp only [ftC] at h5
    simp only [stepS, e1, e2] at kA kX kY kD
    have hcan : canB q hot qu s qu[i].c fs[i] = true ↔ (cntC qu s.d qu[i].c = 0 ∧ (s.a.length : Int) < q.b ∧ (cntC qu s.a qu[i].c : Int) < q.c ∧ blkB q hot s.u fs[i] = false) := by
      simp only [canB, l5, Bool.and_eq_true, decide_eq_true_eq, Bool.not_eq_true']
    refine i_code (by unfold a22_l0; exact rfl) ?_
    repeat' (first | (simp (disch := omega) only [go_sem, seval, reduceCtorEq, h1, h4, rqRow_length, nRow_length, ftRow_length, h3, h5, nRow_take, ftRow_take, nRow_app, ftRow_app, nRow_all, ftRow_all, maxB, one1, one3, ea, ex]) | (apply x_byref; iterate 3 (first | exact s1 | ((try simp (disch := omega) only [go_sem, seval, reduceCtorEq, h1, h4, rqRow_length, nRow_length, ftRow_length, h3, h5, nRow_take, ftRow_take, nRow_app, ftRow_app, nRow_all, ftRow_all, maxB, one1, one3, ea, ex]) <;> with_reducible exact rfl))) | ((first | apply x_split_cond | apply x_split_guard); all_goals (intro hb; (try simp only [Bool.not_eq_true', Bool.not_eq_false'] at hb); (simp (disch := omega) only [go_sem, seval, reduceCtorEq, h1, h4, rqRow_length, nRow_length, ftRow_length, h3, h5, nRow_take, ftRow_take, nRow_app, ftRow_app, nRow_all, ftRow_all, maxB, one1, one3, ea, ex, hb]); (try simp only [decide_eq_true_eq, decide_eq_false_iff_not, beq_iff_eq, beq_eq_false_iff_ne, ne_eq, bne_iff_ne, bne_eq_false_iff_eq, Decidable.not_not] at hb))))
    all_goals
      refine i_lk (W_round ?_)
      (try simp (disch := omega) only [go_sem, seval, reduceCtorEq])
      first
        | refine kA _ rfl ?_
        | refine kY ?_
        | refine kD ?_
        | refine kX (by grind) ?_
      grind

end Go.Dv.Try
