/-
  Specifications: T8.
-/
import Derived.Test.YthdcneolpbbcmaaTA
set_option linter.unusedVariables false
set_option linter.unusedSimpArgs false
set_option maxRecDepth 100000
set_option maxHeartbeats 4000000
namespace Go.Dv.Try
open Go Go.Dv

/-! ## T8 -/

theorem tot_step (l : List Ht) (i : Nat) (h : i < l.length) : tot (l.take (i + 1)) = tot (l.take i) + l[i].2 := by
  unfold tot
  rw [List.take_add_one, List.getElem?_eq_getElem h]
  simp only [Option.toList, List.map_append, List.sum_append, List.map_cons, List.map_nil, List.sum_cons, List.sum_nil]
  omega

theorem l_tot (l : List Ht) (b : Bool) (hl : l.length ≤ 32) (hv : ∀ h ∈ l, 1 ≤ h.2 ∧ h.2 ≤ 1099511627776) (K : Ex → St → Prop)
    (hx : K (.exit 0) ⟨[(3, .p (.int .i64 (tot l)))], [], 0, [0]⟩) : ∀ (m i : Nat), i + m = l.length → ∀ z, z = tot (l.take i) →
    W tb a12_l0 ⟨[(0, .p (.slice b (htRow l))), (3, .p (.int .i64 z)), (4, .p (.int .i64 i))], [], 0, [0]⟩ (LK tb (.ghost .lower a12_l0) K) := by
  intro m
  induction m with
  | zero =>
    rintro i hi z rfl
    have h1 : ¬ (i : Int) < l.length := by omega
    rw [List.take_of_length_le (by omega)]
    refine i_code (by unfold a12_l0; exact rfl) ?_
    repeat' (first | (simp (disch := omega) only [go_sem, seval, reduceCtorEq, h1, htRow_length]) | with_reducible exact Ev.mk | ((first | apply x_split | apply x_splitg) <;> intro hβ hb <;> (simp (disch := omega) only [go_sem, seval, reduceCtorEq, h1, htRow_length, hβ]) <;> clear hβ))
    exact hx
  | succ m ih =>
    rintro i hi z hz
    have h1 : (i : Int) < l.length := by omega
    have h2 : i < l.length := by omega
    have h4 : (0 : Int) ≤ i := by omega
    have h3 := htRow_get l i h2
    have st := tot_step l i h2
    rw [← hz] at st
    have hb := tot_nn (l := l.take i) fun h hm => hv h (List.mem_of_mem_take hm)
    rw [← hz, List.length_take] at hb
    have hc := hv _ (List.getElem_mem h2)
    have b1 : -9223372036854775808 ≤ z + l[i].2 := by omega
    have b2 : z + l[i].2 ≤ 9223372036854775807 := by omega
    have ihk := ih (i + 1) (by omega) _ st.symm
    refine i_code (by unfold a12_l0; exact rfl) ?_
    repeat' (first | (simp (disch := omega) only [go_sem, seval, reduceCtorEq, h1, h3, h4, b1, b2, htRow_length]) | with_reducible exact Ev.mk | ((first | apply x_split | apply x_splitg) <;> intro hβ hb <;> (simp (disch := omega) only [go_sem, seval, reduceCtorEq, h1, h3, h4, b1, b2, htRow_length, hβ]) <;> clear hβ))
    refine i_lk (W_round ?_)
    (try simp (disch := omega) only [go_sem, seval, reduceCtorEq])
    exact ihk

theorem ps_total (l : List Ht) (b : Bool) (hl : l.length ≤ 32) (hv : ∀ h ∈ l, 1 ≤ h.2 ∧ h.2 ≤ 1099511627776) : PS tb 12 [.slice b (htRow l)] (.int .i64 (tot l)) := by
  refine PS_of (af := a12) rfl rfl ?_
  unfold a12
  dsimp only [List.map, ofPV, initEnv]
  repeat' (first | (simp (disch := omega) only [go_sem, seval, reduceCtorEq]) | with_reducible exact Ev.mk | ((first | apply x_split | apply x_splitg) <;> intro hβ hb <;> (simp (disch := omega) only [go_sem, seval, reduceCtorEq, hβ]) <;> clear hβ))
  refine W_round ?_
  (try simp (disch := omega) only [go_sem, seval, reduceCtorEq])
  refine l_tot l b hl hv _ ?_ l.length 0 (by omega) 0 rfl
  repeat' (first | (simp (disch := omega) only [go_sem, seval, reduceCtorEq]) | with_reducible exact Ev.mk | ((first | apply x_split | apply x_splitg) <;> intro hβ hb <;> (simp (disch := omega) only [go_sem, seval, reduceCtorEq, hβ]) <;> clear hβ))
  all_goals simp [pur, dep]

theorem vcnt_le (ks : List ByteArray) : 0 ≤ vcnt ks ∧ vcnt ks ≤ ks.length := by
  unfold vcnt
  have := List.length_filter_le vkey ks
  omega

theorem bounds_ok {l : List Ht} (hv : validH l = true) (ks : List ByteArray) : ((tchF l ks).length = 32 ∨ (∃ x ∈ tchF l ks, x.2 = 1099511627776) ∨ tot (tchF l ks) = tot l + vcnt ks) ∧ tot (tchF l ks) ≤ tot l + vcnt ks := by
  have hg := ((good_iff l).1 hv).1
  have e1 : tchF l ks = cutL (tchL l ks) := by unfold tchF; rw [hv]; rfl
  have hg2 := tchL_good (ks := ks) hg
  obtain ⟨t1, t2⟩ := tot_tchL (ks := ks) hg
  rw [e1]
  refine ⟨?_, Int.le_trans (tot_sub _ fun h hm => (hg2.2 h hm).2.1) t1⟩
  by_cases c : 32 ≤ (tchL l ks).length
  · left; rw [cutL_len hg2.1]; omega
  · rw [cutL_all (by omega)]
    exact .inr t2

def mostB (X : List Ht) (i : Nat) : Bool := (X.take i).any fun h => h.2 == 1099511627776
theorem most_step (X : List Ht) (i : Nat) (h : i < X.length) : mostB X (i + 1) = (mostB X i || (X[i].2 == 1099511627776)) := by
  unfold mostB
  rw [List.take_add_one, List.getElem?_eq_getElem h, List.any_append]
  simp

theorem l_bnd1 (L A B C : PV) (ks : List ByteArray) (b : Bool) (hl : ks.length ≤ 1048576) (K : Ex → St → Prop)
    (hx : K (.exit 0) ⟨[(0, .p L), (7, .p A), (10, .p (.int .i64 (vcnt ks))), (11, .p B)], [], 0, [0]⟩) : ∀ (m i : Nat), i + m = ks.length → ∀ z, z = vcnt (ks.take i) →
    W tb a4_l1 ⟨[(0, .p L), (1, .p (.slice b (strRow ks))), (7, .p A), (10, .p (.int .i64 z)), (11, .p B), (12, .p (.int .i64 i))], [], 0, [0]⟩ (LK tb (.ghost .lower a4_l1) K) := by
  intro m
  induction m with
  | zero =>
    rintro i hi z rfl
    have h1 : ¬ (i : Int) < ks.length := by omega
    rw [List.take_of_length_le (by omega)]
    refine i_code (by unfold a4_l1; exact rfl) ?_
    repeat' (first | (simp (disch := omega) only [go_sem, seval, reduceCtorEq, h1, strRow_length]) | with_reducible exact Ev.mk | ((first | apply x_split | apply x_splitg) <;> intro hβ hb <;> (simp (disch := omega) only [go_sem, seval, reduceCtorEq, h1, strRow_length, hβ]) <;> clear hβ))
    exact hx
  | succ m ih =>
    rintro i hi z hz
    have h1 : (i : Int) < ks.length := by omega
    have h2 : i < ks.length := by omega
    have h4 : (0 : Int) ≤ i := by omega
    have h3 := strRow_get ks i h2
    have st := vcnt_step ks i h2
    rw [← hz] at st
    have hb := vcnt_le (ks.take i)
    rw [← hz, List.length_take] at hb
    have b1 : -9223372036854775808 ≤ z + 1 := by omega
    have b2 : z + 1 ≤ 9223372036854775807 := by omega
    have ihk := ih (i + 1) (by omega) _ st.symm
    refine i_code (by unfold a4_l1; exact rfl) ?_
    cases hv : vkey ks[i] with
    | true =>
      rw [if_pos hv] at ihk
      repeat' (first | exact ps_kvalid _ | (simp (disch := omega) only [go_sem, seval, reduceCtorEq, h1, h3, h4, b1, b2, hv, strRow_length]) | with_reducible exact Ev.mk | apply x_call | ((first | apply x_split | apply x_splitg) <;> intro hβ hb <;> (simp (disch := omega) only [go_sem, seval, reduceCtorEq, h1, h3, h4, b1, b2, hv, strRow_length, hβ]) <;> clear hβ))
      refine i_lk (W_round ?_)
      (try simp (disch := omega) only [go_sem, seval, reduceCtorEq])
      exact ihk
    | false =>
      rw [if_neg (by rw [hv]; simp)] at ihk
      repeat' (first | exact ps_kvalid _ | (simp (disch := omega) only [go_sem, seval, reduceCtorEq, h1, h3, h4, b1, b2, hv, strRow_length]) | with_reducible exact Ev.mk | apply x_call | ((first | apply x_split | apply x_splitg) <;> intro hβ hb <;> (simp (disch := omega) only [go_sem, seval, reduceCtorEq, h1, h3, h4, b1, b2, hv, strRow_length, hβ]) <;> clear hβ))
      refine i_lk (W_round ?_)
      (try simp (disch := omega) only [go_sem, seval, reduceCtorEq])
      exact ihk

theorem l_bnd0 (L C : PV) (X : List Ht) (b : Bool) (hl : X.length ≤ 32) (K : Ex → St → Prop)
    (hx : K (.exit 2) ⟨[(0, .p L), (7, .p (.slice b (htRow X))), (10, .p C), (11, .p (.bool (mostB X X.length)))], [], 0, [0]⟩) : ∀ (m i : Nat), i + m = X.length → ∀ z, z = mostB X i →
    W tb a4_l0 ⟨[(0, .p L), (7, .p (.slice b (htRow X))), (10, .p C), (11, .p (.bool z)), (13, .p (.int .i64 i))], [], 0, [0]⟩ (LK tb (.ghost .lower a4_l0) K) := by
  intro m
  induction m with
  | zero =>
    rintro i hi z rfl
    have h1 : ¬ (i : Int) < X.length := by omega
    have e : i = X.length := by omega
    rw [e]
    refine i_code (by unfold a4_l0; exact rfl) ?_
    rw [e] at h1
    repeat' (first | (simp (disch := omega) only [go_sem, seval, reduceCtorEq, h1, htRow_length]) | with_reducible exact Ev.mk | ((first | apply x_split | apply x_splitg) <;> intro hβ hb <;> (simp (disch := omega) only [go_sem, seval, reduceCtorEq, h1, htRow_length, hβ]) <;> clear hβ))
    exact hx
  | succ m ih =>
    rintro i hi z hz
    have h1 : (i : Int) < X.length := by omega
    have h2 : i < X.length := by omega
    have h4 : (0 : Int) ≤ i := by omega
    have h3 := htRow_get X i h2
    have st := most_step X i h2
    rw [← hz] at st
    have ihk := ih (i + 1) (by omega) _ st.symm
    refine i_code (by unfold a4_l0; exact rfl) ?_
    cases z with
    | true =>
      rw [Bool.true_or] at ihk
      repeat' (first | (simp (disch := omega) only [go_sem, seval, reduceCtorEq, h1, h3, h4, htRow_length]) | with_reducible exact Ev.mk | ((first | apply x_split | apply x_splitg) <;> intro hβ hb <;> (simp (disch := omega) only [go_sem, seval, reduceCtorEq, h1, h3, h4, htRow_length, hβ]) <;> clear hβ))
      refine i_lk (W_round ?_)
      (try simp (disch := omega) only [go_sem, seval, reduceCtorEq])
      exact ihk
    | false =>
      rw [Bool.false_or] at ihk
      repeat' (first | (simp (disch := omega) only [go_sem, seval, reduceCtorEq, h1, h3, h4, htRow_length]) | with_reducible exact Ev.mk | ((first | apply x_split | apply x_splitg) <;> intro hβ hb <;> (simp (disch := omega) only [go_sem, seval, reduceCtorEq, h1, h3, h4, htRow_length, hβ]) <;> clear hβ))
      refine i_lk (W_round ?_)
      (try simp (disch := omega) only [go_sem, seval, reduceCtorEq])
      exact ihk

theorem walkHeatBounds {u v w : PV} (h : Fit (.slice [.str, .int .i64]) u) (h' : Fit (.slice [.str]) v) (h'' : Fit (.slice [.bool, .slice [.str], .slice [.str]]) w) (y0 : szPV u ≤ 1048576) (y1 : szPV v ≤ 1048576) (y2 : szPV w ≤ 1048576) :
    PS tb 4 [u, v, w] (.bool true) := by
  obtain ⟨l, rfl, hl, hsz⟩ := fit_heats h
  obtain ⟨ks, rfl⟩ := fit_strsT h'
  obtain ⟨fs, rfl⟩ := fit_footsT h''
  have hk := (sz_strs ks (by simp only [szPV] at y1; omega)).1
  have hf := sz_foots fs (by simp only [szPV] at y2; omega)
  have q1 := ps_touch l ks false false hl (by omega)
  have q2 := ps_decay l false hl
  have q3 := ps_batch l fs false false hl hf.1 hf.2
  have q4 := ps_hvalid l false hl
  have v1 := fun b => ps_hvalid (tchF l ks) b (Nat.le_trans (tchF_len _ _) (by omega))
  have v2 := fun b => ps_hvalid (decF l) b (Nat.le_trans (decF_len _) (by omega))
  have v3 := fun b => ps_hvalid (batF l fs) b (Nat.le_trans (batF_len _ _) (by omega))
  rw [tchF_valid] at v1
  rw [(decF_one l).1] at v2
  have hbv : validH (batF l fs) = true := by
    unfold batF; split
    · exact tchF_valid _ _
    · rfl
  rw [hbv] at v3
  refine PS_of (af := a4) rfl rfl ?_
  unfold a4
  dsimp only [List.map, ofPV, initEnv]
  cases hv : validH l with
  | false =>
    have z1 : tchF l ks = [] := by unfold tchF; rw [hv]; rfl
    have z2 : decF l = [] := by unfold decF; rw [hv]; rfl
    have z3 : batF l fs = [] := by unfold batF; rw [hv]; rfl
    rw [hv] at q1 q2 q3 q4
    rw [z1] at q1 v1
    rw [z2] at q2 v2
    rw [z3] at q3 v3
    repeat' (first | exact q1 | exact q2 | exact q3 | exact q4 | exact v1 _ | exact v2 _ | exact v3 _ | exact ps_examples34 | (simp (disch := omega) only [go_sem, seval, reduceCtorEq, htRow_nil]) | with_reducible exact Ev.mk | apply x_call | ((first | apply x_split | apply x_splitg) <;> intro hβ hb <;> (simp (disch := omega) only [go_sem, seval, reduceCtorEq, htRow_nil, hβ]) <;> clear hβ))
    all_goals simp [pur, dep]
  | true =>
    have hval := ((validH_iff l).1 hv)
    have hlen := hval.2.2
    have hc := fun h hm => (hval.1 h hm).2
    have ed : decF l = decL l := by unfold decF; rw [hv]; rfl
    have hdv := ((validH_iff _).1 (decF_one l).1)
    have htv := ((validH_iff _).1 (tchF_valid l ks))
    have w1 := fun b => ps_total l b hlen hc
    have w2 := fun b => ps_total (decF l) b (decF_len l) (fun h hm => (hdv.1 h hm).2)
    have w3 := fun b => ps_total (tchF l ks) b (tchF_len l ks) (fun h hm => (htv.1 h hm).2)
    have g1 := tot_half l (fun h hm => (hc h hm).1)
    rw [← ed] at g1
    have g2 := decL_len l
    rw [← ed] at g2
    have g3 := tot_nn hc
    have g4 := tot_nn (l := decF l) fun h hm => (hdv.1 h hm).2
    have g5 := tot_nn (l := tchF l ks) fun h hm => (htv.1 h hm).2
    have g6 := vcnt_le ks
    have g7 := decF_len l
    have g8 := tchF_len l ks
    obtain ⟨o1, o2⟩ := bounds_ok hv ks
    have m1 : -9223372036854775808 ≤ 2 * tot (decF l) := by omega
    have m2 : 2 * tot (decF l) ≤ 9223372036854775807 := by omega
    have m3 : ¬ tot l < 2 * tot (decF l) := by omega
    have m4 : ¬ (l.length : Int) < (decF l).length := by omega
    have m5 : -9223372036854775808 ≤ tot l + vcnt ks := by omega
    have m6 : tot l + vcnt ks ≤ 9223372036854775807 := by omega
    rw [hv] at q1 q2 q3 q4
    repeat' (first | exact q1 | exact q2 | exact q3 | exact q4 | exact v1 _ | exact v2 _ | exact v3 _ | exact w1 _ | exact w2 _ | exact ps_examples34 | (simp (disch := omega) only [go_sem, seval, reduceCtorEq, m1, m2, m3, m4, htRow_length]) | with_reducible exact Ev.mk | apply x_call | ((first | apply x_split | apply x_splitg) <;> intro hβ hb <;> (simp (disch := omega) only [go_sem, seval, reduceCtorEq, m1, m2, m3, m4, htRow_length, hβ]) <;> clear hβ))
    refine W_round ?_
    (try simp (disch := omega) only [go_sem, seval, reduceCtorEq])
    refine l_bnd1 _ _ _ .undef ks false hk _ ?_ ks.length 0 (by omega) 0 rfl
    (try simp (disch := omega) only [go_sem, seval, reduceCtorEq])
    refine W_round ?_
    (try simp (disch := omega) only [go_sem, seval, reduceCtorEq])
    refine l_bnd0 _ _ (tchF l ks) _ g8 _ ?_ (tchF l ks).length 0 (by omega) false rfl
    by_cases c1 : (tchF l ks).length = 32
    · have n1 : (((tchF l ks).length : Int) == 32) = true := by rw [c1]; rfl
      repeat' (first | exact w1 _ | exact w3 _ | exact ps_examples34 | (simp (disch := omega) only [go_sem, seval, reduceCtorEq, n1, m5, m6, o2, htRow_length]) | with_reducible exact Ev.mk | apply x_call | ((first | apply x_split | apply x_splitg) <;> intro hβ hb <;> (simp (disch := omega) only [go_sem, seval, reduceCtorEq, n1, m5, m6, o2, htRow_length, hβ]) <;> clear hβ))
      all_goals simp [pur, dep]
    · have n1 : (((tchF l ks).length : Int) == 32) = false := by
        rw [beq_eq_false_iff_ne]; omega
      cases c2 : mostB (tchF l ks) (tchF l ks).length with
      | true =>
        repeat' (first | exact w1 _ | exact w3 _ | exact ps_examples34 | (simp (disch := omega) only [go_sem, seval, reduceCtorEq, n1, m5, m6, o2, htRow_length]) | with_reducible exact Ev.mk | apply x_call | ((first | apply x_split | apply x_splitg) <;> intro hβ hb <;> (simp (disch := omega) only [go_sem, seval, reduceCtorEq, n1, m5, m6, o2, htRow_length, hβ]) <;> clear hβ))
        all_goals simp [pur, dep]
      | false =>
        have e3 : tot (tchF l ks) = tot l + vcnt ks := by
          rcases o1 with o1 | o1 | o1
          · exact absurd o1 c1
          · obtain ⟨x, hx, hx2⟩ := o1
            unfold mostB at c2
            rw [List.take_length, List.any_eq_false] at c2
            exact absurd (by simp [hx2]) (c2 x hx)
          · exact o1
        have n2 : (tot (tchF l ks) == tot l + vcnt ks) = true := by rw [e3]; simp
        repeat' (first | exact w1 _ | exact w3 _ | exact ps_examples34 | (simp (disch := omega) only [go_sem, seval, reduceCtorEq, n1, n2, m5, m6, o2, htRow_length]) | with_reducible exact Ev.mk | apply x_call | ((first | apply x_split | apply x_splitg) <;> intro hβ hb <;> (simp (disch := omega) only [go_sem, seval, reduceCtorEq, n1, n2, m5, m6, o2, htRow_length, hβ]) <;> clear hβ))
        all_goals simp [pur, dep]

end Go.Dv.Try
