/-
  Specifications: L22.
-/
import Derived.Test.YtkpadkncediliaaLE
set_option linter.unusedVariables false
set_option linter.unusedSimpArgs false
set_option maxRecDepth 100000
set_option maxHeartbeats 4000000
namespace Go.Dv.Try
open Go Go.Dv

/-! ## L22 -/

theorem l_stays (x e h : Int) (a b : Tb) (R : List Int) (bR : Bool) (hRl : R.length ≤ 1000) (sa : Sm a) (sb : Sm b) (ha : e = 0 → ∀ r ∈ R, grantedD a.d r = true) (hb : h = 0 → ∀ r ∈ R, r ≠ x → grantedD b.d r = true) (K : Ex → St → Prop)
    (hx : K (.exit 0) ⟨[(1, .p (.int .i64 x)), (10, .ptr 3 0), (11, .p (.int .i64 h))], [(3, .var false [.p (.slice b.gf (rqRow b.g)), .p (.slice b.qf (quRow b.qs))])], 4, [0]⟩) :
    ∀ (m i : Nat), i + m = R.length →
    W tb a9_l0 ⟨[(1, .p (.int .i64 x)), (7, .p (.slice bR (intCells R))), (8, .ptr 2 0), (9, .p (.int .i64 e)), (10, .ptr 3 0), (11, .p (.int .i64 h)), (12, .p (.int .i64 i))], [(3, .var false [.p (.slice b.gf (rqRow b.g)), .p (.slice b.qf (quRow b.qs))]), (2, .var false [.p (.slice a.gf (rqRow a.g)), .p (.slice a.qf (quRow a.qs))])], 4, [0]⟩ (LK tb (.ghost (.free [3, 5]) (.ghost .lower a9_l0)) K) := by
  intro m
  induction m with
  | zero =>
    rintro i hi
    have h1 : ¬ (i : Int) < R.length := by omega
    refine i_code (by unfold a9_l0; exact rfl) ?_
    repeat' (first | (simp (disch := omega) only [go_sem, seval, reduceCtorEq, h1, intCells_length]) | with_reducible exact Ev.mk | ((first | apply x_split | apply x_splitg) <;> intro hβ hb <;> (simp (disch := omega) only [go_sem, seval, reduceCtorEq, h1, intCells_length, hβ]) <;> clear hβ))
    exact hx
  | succ m ih =>
    rintro i hi
    have h1 : (i : Int) < R.length := by omega
    have h2 : i < R.length := by omega
    have h4 : (0 : Int) ≤ i := by omega
    have h3 := intCells_get R i h2
    have q1 := ps_granted a R[i] sa
    have q2 := ps_granted b R[i] sb
    have hm := List.getElem_mem h2
    have ih' := ih (i + 1) (by omega)
    refine i_code (by unfold a9_l0; exact rfl) ?_
    dsimp only [tbC] at q1 q2
    by_cases c1 : e = 0
    · have d1 : (e == 0) = true := by simp [c1]
      rw [ha c1 _ hm] at q1
      by_cases c2 : h = 0
      · have d2 : (h == 0) = true := by simp [c2]
        by_cases c3 : R[i] = x
        · have d3 : (R[i] == x) = true := by simp [c3]
          repeat' (first | exact q1 | (simp (disch := omega) only [go_sem, seval, reduceCtorEq, h1, h3, h4, d1, d2, d3, intCells_length, bne]) | with_reducible exact Ev.mk | apply x_call | ((first | apply x_split | apply x_splitg) <;> intro hβ hb <;> (simp (disch := omega) only [go_sem, seval, reduceCtorEq, h1, h3, h4, d1, d2, d3, intCells_length, bne, hβ]) <;> clear hβ))
          refine i_lk (W_round ?_)
          (try simp (disch := omega) only [go_sem, seval, reduceCtorEq])
          exact ih'
        · have d3 : (R[i] == x) = false := by simp [c3]
          rw [hb c2 _ hm c3] at q2
          repeat' (first | exact q1 | exact q2 | (simp (disch := omega) only [go_sem, seval, reduceCtorEq, h1, h3, h4, d1, d2, d3, intCells_length, bne]) | with_reducible exact Ev.mk | apply x_call | ((first | apply x_split | apply x_splitg) <;> intro hβ hb <;> (simp (disch := omega) only [go_sem, seval, reduceCtorEq, h1, h3, h4, d1, d2, d3, intCells_length, bne, hβ]) <;> clear hβ))
          refine i_lk (W_round ?_)
          (try simp (disch := omega) only [go_sem, seval, reduceCtorEq])
          exact ih'
      · have d2 : (h == 0) = false := by simp [c2]
        repeat' (first | exact q1 | (simp (disch := omega) only [go_sem, seval, reduceCtorEq, h1, h3, h4, d1, d2, intCells_length, bne]) | with_reducible exact Ev.mk | apply x_call | ((first | apply x_split | apply x_splitg) <;> intro hβ hb <;> (simp (disch := omega) only [go_sem, seval, reduceCtorEq, h1, h3, h4, d1, d2, intCells_length, bne, hβ]) <;> clear hβ))
        refine i_lk (W_round ?_)
        (try simp (disch := omega) only [go_sem, seval, reduceCtorEq])
        exact ih'
    · have d1 : (e == 0) = false := by simp [c1]
      by_cases c2 : h = 0
      · have d2 : (h == 0) = true := by simp [c2]
        by_cases c3 : R[i] = x
        · have d3 : (R[i] == x) = true := by simp [c3]
          repeat' (first | (simp (disch := omega) only [go_sem, seval, reduceCtorEq, h1, h3, h4, d1, d2, d3, intCells_length, bne]) | with_reducible exact Ev.mk | ((first | apply x_split | apply x_splitg) <;> intro hβ hb <;> (simp (disch := omega) only [go_sem, seval, reduceCtorEq, h1, h3, h4, d1, d2, d3, intCells_length, bne, hβ]) <;> clear hβ))
          refine i_lk (W_round ?_)
          (try simp (disch := omega) only [go_sem, seval, reduceCtorEq])
          exact ih'
        · have d3 : (R[i] == x) = false := by simp [c3]
          rw [hb c2 _ hm c3] at q2
          repeat' (first | exact q2 | (simp (disch := omega) only [go_sem, seval, reduceCtorEq, h1, h3, h4, d1, d2, d3, intCells_length, bne]) | with_reducible exact Ev.mk | apply x_call | ((first | apply x_split | apply x_splitg) <;> intro hβ hb <;> (simp (disch := omega) only [go_sem, seval, reduceCtorEq, h1, h3, h4, d1, d2, d3, intCells_length, bne, hβ]) <;> clear hβ))
          refine i_lk (W_round ?_)
          (try simp (disch := omega) only [go_sem, seval, reduceCtorEq])
          exact ih'
      · have d2 : (h == 0) = false := by simp [c2]
        repeat' (first | (simp (disch := omega) only [go_sem, seval, reduceCtorEq, h1, h3, h4, d1, d2, intCells_length, bne]) | with_reducible exact Ev.mk | ((first | apply x_split | apply x_splitg) <;> intro hβ hb <;> (simp (disch := omega) only [go_sem, seval, reduceCtorEq, h1, h3, h4, d1, d2, intCells_length, bne, hβ]) <;> clear hβ))
        refine i_lk (W_round ?_)
        (try simp (disch := omega) only [go_sem, seval, reduceCtorEq])
        exact ih'

theorem walkLocktableStays {u : List PV} {v : PV} {w : List PV} (h : Fits [.slice [.int .i64, .bool], .slice [.str, .slice [.int .i64, .bool]]] u) (h' : Fit (.int .i64) v) (h'' : Fits [.bool, .slice [.str], .slice [.str]] w) :
    PS tb 9 [.agg u, v, .agg w] (.bool true) := by
  obtain ⟨t, rfl⟩ := fit_table h
  obtain ⟨x, rfl, _⟩ := fit_intH h'
  obtain ⟨f, rfl⟩ := fit_foot h''
  have hfew := ps_few23 t
  have hff := ps_few f 40 (by omega)
  have hw := ps_works
  refine PS_of (af := a9) rfl rfl ?_
  unfold a9
  cases c1 : fewT t with
  | false =>
    rw [c1] at hfew
    dsimp only [List.map, ofPV, initEnv, tbC, ftC] at hfew hff ⊢
    repeat' (first | exact hfew | exact hff | exact hw | (simp (disch := omega) only [go_sem, seval, reduceCtorEq]) | with_reducible exact Ev.mk | apply x_call | ((first | apply x_split | apply x_splitg) <;> intro hβ hb <;> (simp (disch := omega) only [go_sem, seval, reduceCtorEq, hβ]) <;> clear hβ))
    all_goals rfl
  | true =>
    rw [c1] at hfew
    cases c2 : fewF 40 f with
    | false =>
      rw [c2] at hff
      dsimp only [List.map, ofPV, initEnv, tbC, ftC] at hfew hff ⊢
      repeat' (first | exact hfew | exact hff | exact hw | (simp (disch := omega) only [go_sem, seval, reduceCtorEq]) | with_reducible exact Ev.mk | apply x_call | ((first | apply x_split | apply x_splitg) <;> intro hβ hb <;> (simp (disch := omega) only [go_sem, seval, reduceCtorEq, hβ]) <;> clear hβ))
      all_goals rfl
    | true =>
      rw [c2] at hff
      have sz := szT c1
      have sm := fewT_sm2 c1
      obtain ⟨t1, t2, t3⟩ := fewT_sm c1
      have hsh := fewF_sh c2 (by omega)
      obtain ⟨l1, l2⟩ := fewF_len c2
      obtain ⟨bR, pr⟩ := ps_ready t sm.toSm
      obtain ⟨a, ha, pa⟩ := ps_request t x f (by omega) (by omega) (fun q hq => by have := (t3 q hq).1; omega) hsh
      obtain ⟨b, hb, pb⟩ := ps_release t x (by omega) (by omega) (fun q hq => by have := (t3 q hq).1; omega)
      obtain ⟨s1, s2, s3⟩ := ((sz.req x (f := f) (by omega)).mono (m := 900) (by omega)).tb ha
      obtain ⟨u1, u2, u3⟩ := ((sz.rel x).mono (m := 900) (by omega)).tb hb
      have sa : Sm a := ⟨by omega, by omega, fun q hq => by have := s3 q hq; omega⟩
      have sb : Sm b := ⟨by omega, by omega, fun q hq => by have := u3 q hq; omega⟩
      obtain ⟨r1, r2, r3⟩ := reqD_ok (t := t.d) (x := x) (f := f)
      obtain ⟨v1, v2, v3⟩ := relD_ok (t := t.d) (x := x)
      have ga : (reqD t.d x f).2 = 0 → ∀ r ∈ readyD t.d, grantedD a.d r = true := fun e r hr => by
        rw [ha, r2 e]
        exact stays_req (r1.1 e) (mem_ready.1 hr)
      have gb : (relD t.d x).2 = 0 → ∀ r ∈ readyD t.d, r ≠ x → grantedD b.d r = true := fun e r hr hn => by
        rw [hb, v2 e]
        exact stays_rel hn (mem_ready.1 hr)
      have gg : (relD t.d x).2 = 0 → grantedD b.d x = false := fun e => by
        rw [hb, v2 e]; exact gone
      have hRl : (readyD t.d).length ≤ 1000 := by
        unfold readyD
        split
        · have := List.length_filter_le (fun x => decide ((waitsL t.d x).length = 0)) (t.d.1.map (·.1))
          rw [List.length_map] at this
          have := sz.g
          omega
        · simp
      have qx := ps_granted b x sb
      generalize (reqD t.d x f).2 = e at pa ga
      generalize (relD t.d x).2 = g at pb gb gg
      dsimp only [List.map, ofPV, initEnv, tbC, ftC] at hfew hff pr pa pb qx ⊢
      repeat' (first | exact hfew | exact hff | exact pr | exact pa | exact pb | (simp (disch := omega) only [go_sem, seval, reduceCtorEq, intCells_length]) | with_reducible exact Ev.mk | apply x_call | ((first | apply x_split | apply x_splitg) <;> intro hβ hb <;> (simp (disch := omega) only [go_sem, seval, reduceCtorEq, intCells_length, hβ]) <;> clear hβ))
      refine W_round ?_
      (try simp (disch := omega) only [go_sem, seval, reduceCtorEq])
      refine l_stays x e g a b (readyD t.d) bR hRl sa sb ga gb _ ?_ (readyD t.d).length 0 (by omega)
      by_cases c5 : g = 0
      · have d5 : (g == 0) = true := by simp [c5]
        rw [gg c5] at qx
        repeat' (first | exact qx | exact hw | (simp (disch := omega) only [go_sem, seval, reduceCtorEq, d5, bne]) | with_reducible exact Ev.mk | apply x_call | ((first | apply x_split | apply x_splitg) <;> intro hβ hb <;> (simp (disch := omega) only [go_sem, seval, reduceCtorEq, d5, bne, hβ]) <;> clear hβ))
        all_goals rfl
      · have d5 : (g == 0) = false := by simp [c5]
        repeat' (first | exact hw | (simp (disch := omega) only [go_sem, seval, reduceCtorEq, d5, bne]) | with_reducible exact Ev.mk | apply x_call | ((first | apply x_split | apply x_splitg) <;> intro hβ hb <;> (simp (disch := omega) only [go_sem, seval, reduceCtorEq, d5, bne, hβ]) <;> clear hβ))
        all_goals rfl

end Go.Dv.Try
