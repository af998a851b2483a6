/-
  Specifications: P26.
-/
import Derived.Test.YtkpadkncediliaaLQ
set_option linter.unusedVariables false
set_option linter.unusedSimpArgs false
set_option maxRecDepth 100000
set_option maxHeartbeats 4000000
namespace Go.Dv.Try
open Go Go.Dv

/-! ## P26 -/

def Alive (t : Td) (i : Nat) : Prop := ∃ r ∈ t.1, r.1 = (i : Int)

def OPairs (l : List Ft) (o : List Int) : Prop := ∀ (a b : Nat) (ha : a < o.length) (hb : b < a), ∃ i j : Nat, o[a] = (i : Int) ∧ o[b]'(by omega) = (j : Int) ∧ i ≠ j ∧ i < l.length ∧ j < l.length ∧ (i < j → conflB (ftAt l i) (ftAt l j) = false)

structure OI (l : List Ft) (t : Td) (o : List Int) : Prop where
  L : LI l t
  p : OPairs l o
  m : ∀ y ∈ o, ∃ j : Nat, j < l.length ∧ y = (j : Int) ∧ ¬ Alive t j ∧ ∀ i : Nat, i < j → Alive t i → conflB (ftAt l i) (ftAt l j) = false

theorem alive_del {t : Td} {x : Int} {i : Nat} (h : Alive (delT t x) i) : Alive t i ∧ (i : Int) ≠ x := by
  obtain ⟨r, hr, e⟩ := h
  obtain ⟨h1, h2⟩ := List.mem_filter.1 hr
  exact ⟨⟨r, h1, e⟩, by rw [← e]; exact notX_ne.1 h2⟩

theorem OI.step {l : List Ft} (hl : allV l) {t : Td} {o : List Int} (h : OI l t o) {x : Int} (hx : x ∈ readyD t) : OI l (delT t x) (o ++ [x]) := by
  obtain ⟨j, hj, rfl, aj, fj⟩ := h.L.ready hx
  refine ⟨h.L.del _, fun a b ha hb => ?_, fun y hy => ?_⟩
  · rcases Nat.lt_or_ge a o.length with c | c
    · obtain ⟨i, k, e1, e2, e3⟩ := h.p a b c hb
      exact ⟨i, k, by rw [List.getElem_append_left c]; exact e1, by rw [List.getElem_append_left (by omega)]; exact e2, e3⟩
    · have ea : a = o.length := by simp at ha; omega
      subst ea
      obtain ⟨k, hk, ek, nk, ck⟩ := h.m _ (List.getElem_mem (l := o) (n := b) hb)
      refine ⟨j, k, by simp, by rw [List.getElem_append_left hb]; exact ek, fun e => nk (e ▸ aj), hj, hk, fun hlt => ck j hlt aj⟩
  · rcases List.mem_append.1 hy with c | c
    · obtain ⟨k, hk, ek, nk, ck⟩ := h.m y c
      exact ⟨k, hk, ek, fun e => nk (alive_del e).1, fun i hi ai => ck i hi (alive_del ai).1⟩
    · rw [List.mem_singleton] at c
      exact ⟨j, hj, c, fun e => (alive_del e).2 rfl, fun i hi ai => (no_conf hl h.L hi (alive_del ai).1 aj fj).2⟩

theorem l_ord0 (l : List Ft) (bl : Bool) (hv : validL l = true) (t : Tb) (o : List Int) (hol : o.length ≤ 1000) (hP : OPairs l o) (a : Nat) (ha : a < o.length) (K : Ex → St → Prop)
    (hx : K (.exit 4) ⟨[(0, .p (.slice bl (fRow l))), (5, .ptr 0 0), (7, .ref 1 o.length 0 o.length), (13, .p (.int .i64 a))], [(1, .row false 1 (intCells o)), (0, .var false [.p (.slice t.gf (rqRow t.g)), .p (.slice t.qf (quRow t.qs))])], 2, [0]⟩) :
    ∀ (m b : Nat), b + m = a →
    W tb a7_l0 ⟨[(0, .p (.slice bl (fRow l))), (5, .ptr 0 0), (7, .ref 1 o.length 0 o.length), (13, .p (.int .i64 a)), (14, .p (.int .i64 b))], [(1, .row false 1 (intCells o)), (0, .var false [.p (.slice t.gf (rqRow t.g)), .p (.slice t.qf (quRow t.qs))])], 2, [0]⟩ (LK tb (.ghost .lower a7_l0) K) := by
  obtain ⟨g1, g2, g3⟩ := validL_iff hv
  intro m
  induction m with
  | zero =>
    rintro b hb
    have h1 : ¬ (b : Int) < a := by omega
    refine i_code (by unfold a7_l0; exact rfl) ?_
    repeat' (first | (simp (disch := omega) only [go_sem, seval, reduceCtorEq, h1]) | with_reducible exact Ev.mk | ((first | apply x_split | apply x_splitg) <;> intro hβ hb <;> (simp (disch := omega) only [go_sem, seval, reduceCtorEq, h1, hβ]) <;> clear hβ))
    exact hx
  | succ m ih =>
    rintro b hb
    have h1 : (b : Int) < a := by omega
    have hba : b < a := by omega
    obtain ⟨i, j, ei, ej, hij, hi, hj, hc⟩ := hP a b ha hba
    have r1 := intCells_get o a ha
    have r2 := intCells_get o b (by omega)
    rw [ei] at r1
    rw [ej] at r2
    have s1 := fRow_get l i hi
    have s2 := fRow_get l j hj
    have u1 : (0 : Int) ≤ a := by omega
    have u2 : (a : Int) < o.length := by omega
    have u3 : (0 : Int) ≤ b := by omega
    have u4 : (b : Int) < o.length := by omega
    have d1 : ((j : Int) == (i : Int)) = false := by rw [beq_eq_false_iff_ne]; omega
    have w1 : (0 : Int) ≤ j := by omega
    have w2 : (j : Int) < l.length := by omega
    have w3 : (0 : Int) ≤ i := by omega
    have w4 : (i : Int) < l.length := by omega
    have q := ps_rconfl l[i] l[j] (fewF_sh (g3 _ (List.getElem_mem hi)) (by omega)) (fewF_sh (g3 _ (List.getElem_mem hj)) (by omega))
    rw [ftAt_get hi, ftAt_get hj] at hc
    have ih' := ih (b + 1) (by omega)
    refine i_code (by unfold a7_l0; exact rfl) ?_
    by_cases c : i < j
    · have d2 : (i : Int) < j := by omega
      rw [hc c] at q
      dsimp only [ftC] at q
      repeat' (first | exact q | (simp (disch := omega) only [go_sem, seval, reduceCtorEq, h1, r1, r2, s1, s2, u1, u2, u3, u4, d1, d2, w1, w2, w3, w4, fRow_length, intCells_length, Nat.zero_add]) | with_reducible exact Ev.mk | apply x_call | ((first | apply x_split | apply x_splitg) <;> intro hβ hb <;> (simp (disch := omega) only [go_sem, seval, reduceCtorEq, h1, r1, r2, s1, s2, u1, u2, u3, u4, d1, d2, w1, w2, w3, w4, fRow_length, intCells_length, Nat.zero_add, hβ]) <;> clear hβ))
      refine i_lk (W_round ?_)
      (try simp (disch := omega) only [go_sem, seval, reduceCtorEq])
      exact ih'
    · have d2 : ¬ (i : Int) < j := by omega
      repeat' (first | (simp (disch := omega) only [go_sem, seval, reduceCtorEq, h1, r1, r2, s1, s2, u1, u2, u3, u4, d1, d2, w1, w2, w3, w4, fRow_length, intCells_length, Nat.zero_add]) | with_reducible exact Ev.mk | ((first | apply x_split | apply x_splitg) <;> intro hβ hb <;> (simp (disch := omega) only [go_sem, seval, reduceCtorEq, h1, r1, r2, s1, s2, u1, u2, u3, u4, d1, d2, w1, w2, w3, w4, fRow_length, intCells_length, Nat.zero_add, hβ]) <;> clear hβ))
      refine i_lk (W_round ?_)
      (try simp (disch := omega) only [go_sem, seval, reduceCtorEq])
      exact ih'

theorem l_ord1 (l : List Ft) (bl : Bool) (hv : validL l = true) (t : Tb) (o : List Int) (hol : o.length ≤ 1000) (hP : OPairs l o) (K : Ex → St → Prop)
    (hx : K (.exit 2) ⟨[(5, .ptr 0 0)], [(1, .row false 1 (intCells o)), (0, .var false [.p (.slice t.gf (rqRow t.g)), .p (.slice t.qf (quRow t.qs))])], 2, [0]⟩) :
    ∀ (m a : Nat), a + m = o.length →
    W tb a7_l1 ⟨[(0, .p (.slice bl (fRow l))), (5, .ptr 0 0), (7, .ref 1 o.length 0 o.length), (13, .p (.int .i64 a))], [(1, .row false 1 (intCells o)), (0, .var false [.p (.slice t.gf (rqRow t.g)), .p (.slice t.qf (quRow t.qs))])], 2, [0]⟩ (LK tb (.ghost .lower a7_l1) K) := by
  intro m
  induction m with
  | zero =>
    rintro a ha
    have h1 : ¬ (a : Int) < o.length := by omega
    refine i_code (by unfold a7_l1; exact rfl) ?_
    repeat' (first | (simp (disch := omega) only [go_sem, seval, reduceCtorEq, h1, intCells_length]) | with_reducible exact Ev.mk | ((first | apply x_split | apply x_splitg) <;> intro hβ hb <;> (simp (disch := omega) only [go_sem, seval, reduceCtorEq, h1, intCells_length, hβ]) <;> clear hβ))
    exact hx
  | succ m ih =>
    rintro a ha
    have h1 : (a : Int) < o.length := by omega
    have ih' := ih (a + 1) (by omega)
    refine i_code (by unfold a7_l1; exact rfl) ?_
    repeat' (first | (simp (disch := omega) only [go_sem, seval, reduceCtorEq, h1, intCells_length]) | with_reducible exact Ev.mk | ((first | apply x_split | apply x_splitg) <;> intro hβ hb <;> (simp (disch := omega) only [go_sem, seval, reduceCtorEq, h1, intCells_length, hβ]) <;> clear hβ))
    refine W_round ?_
    (try simp (disch := omega) only [go_sem, seval, reduceCtorEq])
    refine l_ord0 l bl hv t o hol hP a (by omega) _ ?_ a 0 (by omega)
    repeat' (first | (simp (disch := omega) only [go_sem, seval, reduceCtorEq]) | with_reducible exact Ev.mk | ((first | apply x_split | apply x_splitg) <;> intro hβ hb <;> (simp (disch := omega) only [go_sem, seval, reduceCtorEq, hβ]) <;> clear hβ))
    refine i_lk (W_round ?_)
    (try simp (disch := omega) only [go_sem, seval, reduceCtorEq])
    exact ih'

theorem LI.sm {l : List Ft} (hl : l.length ≤ 20) {t : Tb} (hL : LI l t.d) (hg : t.d.1.length ≤ 20) (hS : SzD 5000 t.d) : Sm t := by
  obtain ⟨z1, z2, z3⟩ := hS.tb rfl
  have hgl : t.g.length ≤ 20 := hg
  refine ⟨by omega, by omega, fun q hq => ?_⟩
  have h4 := hL.v.r q.d (List.mem_map_of_mem hq)
  have h5 : ∀ r ∈ q.reqs, ∃ k : Nat, k < l.length ∧ r.1 = (k : Int) := fun r hr => by
    have h6 := hL.v.i q.d (List.mem_map_of_mem hq) r hr
    obtain ⟨k, hk, e⟩ := hL.g _ h6
    exact ⟨k, hk, congrArg Prod.fst e⟩
  have h7 : ∀ (n : Nat) (hn : n < q.reqs.length), (n : Int) ≤ (q.reqs[n]).1 := by
    intro n
    induction n with
    | zero => intro hn; exact h4.1 _ (List.getElem_mem hn)
    | succ n ihn =>
      intro hn
      have := ihn (by omega)
      have h8 := List.pairwise_iff_getElem.1 h4.2 n (n + 1) (show n < q.reqs.length by omega) hn (by omega)
      have h9 : q.reqs[n].1 < q.reqs[n + 1].1 := h8
      omega
  rcases Nat.lt_or_ge 1000 q.reqs.length with c | c
  · have := h7 (q.reqs.length - 1) (by omega)
    obtain ⟨k, hk, e⟩ := h5 _ (List.getElem_mem (l := q.reqs) (n := q.reqs.length - 1) (by omega))
    omega
  · exact c

theorem l_ord2 (l : List Ft) (bl : Bool) (c : List Int) (bc : Bool) (hv : validL l = true) (K : Ex → St → Prop)
    (hx : ∀ (t : Tb) (o : List Int), t.d = ([], []) → OPairs l o → o.length ≤ 1000 → K (.exit 0) ⟨[(0, .p (.slice bl (fRow l))), (5, .ptr 0 0), (7, .ref 1 o.length 0 o.length)], [(1, .row false 1 (intCells o)), (0, .var false [.p (.slice t.gf (rqRow t.g)), .p (.slice t.qf (quRow t.qs))])], 2, [0]⟩) :
    ∀ (m st : Nat), st + m = l.length → ∀ (t : Tb) (o : List Int), OI l t.d o → o.length = st → t.d.1.length = m → SzD 5000 t.d →
    W tb a7_l2 ⟨[(0, .p (.slice bl (fRow l))), (1, .p (.slice bc (intCells c))), (5, .ptr 0 0), (7, .ref 1 o.length 0 o.length), (8, .p (.int .i64 st))], [(1, .row false 1 (intCells o)), (0, .var false [.p (.slice t.gf (rqRow t.g)), .p (.slice t.qf (quRow t.qs))])], 2, [0]⟩ (LK tb (.ghost (.free [11]) (.ghost .lower a7_l2)) K) := by
  obtain ⟨g1, g2, g3⟩ := validL_iff hv
  intro m
  induction m with
  | zero =>
    rintro st hst t o hO ho hm hS
    have h1 : ¬ (st : Int) < l.length := by omega
    refine i_code (by unfold a7_l2; exact rfl) ?_
    repeat' (first | (simp (disch := omega) only [go_sem, seval, reduceCtorEq, h1, fRow_length]) | with_reducible exact Ev.mk | ((first | apply x_split | apply x_splitg) <;> intro hβ hb <;> (simp (disch := omega) only [go_sem, seval, reduceCtorEq, h1, fRow_length, hβ]) <;> clear hβ))
    exact hx t o (vd_empty hO.L.v hm) hO.p (by omega)
  | succ m ih =>
    rintro st hst t o hO ho hm hS
    have h1 : (st : Int) < l.length := by omega
    obtain ⟨z1, z2, z3⟩ := hS.tb rfl
    have hL := hO.L
    have sm : Sm t := hL.sm g1 (by omega) hS
    obtain ⟨bR, pr⟩ := ps_ready t sm
    have hne := ready_ne hL.v (by omega)
    have e1 : (((readyD t.d).length : Int) == 0) = false := by
      rw [beq_eq_false_iff_ne]
      have := List.length_pos_iff.2 hne
      omega
    obtain ⟨x, hxr, pp⟩ := ps_pick (readyD t.d) c bR bc st hne
    obtain ⟨t', ht', pt⟩ := ps_release t x (by omega) (by omega) (fun q hq => by have := z3 q hq; omega)
    have hrel := rel_ready hxr
    rw [hrel] at ht' pt
    have hO' : OI l t'.d (o ++ [x]) := by rw [ht']; exact hO.step g2 hxr
    have hlen : t'.d.1.length = m := by
      have := del_len hL.v (x := x) (by obtain ⟨_, hr, _⟩ := granted_iff.1 (mem_ready.1 hxr); exact hr)
      rw [ht']
      show (delT t.d x).1.length = m
      omega
    have hS' : SzD 5000 t'.d := by
      have := hS.rel x
      rw [hrel] at this
      rw [ht']; exact this
    have ih' := ih (st + 1) (by omega) t' (o ++ [x]) hO' (by simp [ho]) hlen hS'
    rw [List.length_append, List.length_singleton] at ih'
    obtain ⟨j, hj, ej, _, _⟩ := hL.ready hxr
    have d1 : ¬ x < 0 := by omega
    have d2 : ¬ (l.length : Int) ≤ x := by omega
    have m1 : (o.length + 1) * 8 ≤ 140737488355328 := by omega
    have m2 : o.length + 1 ≤ 140737488355328 := by omega
    have hz : ∀ v, allSz 1 [[PV.int .i64 v]] = true := fun v => rfl
    dsimp only [tbC] at pr pt
    refine i_code (by unfold a7_l2; exact rfl) ?_
    repeat' (first | exact pr | exact pp | exact pt | (simp (disch := omega) only [go_sem, seval, reduceCtorEq, h1, e1, d1, d2, m1, m2, maxBytes, hz, fRow_length, intCells_length, bne]) | with_reducible exact Ev.mk | apply x_call | ((first | apply x_split | apply x_splitg) <;> intro hβ hb <;> (simp (disch := omega) only [go_sem, seval, reduceCtorEq, h1, e1, d1, d2, m1, m2, maxBytes, hz, fRow_length, intCells_length, bne, hβ]) <;> clear hβ))
    refine i_lk (W_round ?_)
    (try simp (disch := omega) only [go_sem, seval, reduceCtorEq, intCells_one, intCells_app])
    exact ih'

theorem walkLocktableOrder {u v : PV} (h : Fit (.slice [.bool, .slice [.str], .slice [.str]]) u) (h' : Fit (.slice [.int .i64]) v) : PS tb 7 [u, v] (.bool true) := by
  obtain ⟨l, rfl⟩ := fit_fts h
  obtain ⟨c, rfl⟩ := fit_ints h'
  have hw := ps_works
  have hv := ps_lvalid l false
  refine PS_of (af := a7) rfl rfl ?_
  unfold a7
  dsimp only [List.map, ofPV, initEnv]
  cases c1 : validL l with
  | false =>
    rw [c1] at hv
    repeat' (first | exact hv | exact hw | (simp (disch := omega) only [go_sem, seval, reduceCtorEq]) | with_reducible exact Ev.mk | apply x_call | ((first | apply x_split | apply x_splitg) <;> intro hβ hb <;> (simp (disch := omega) only [go_sem, seval, reduceCtorEq, hβ]) <;> clear hβ))
    all_goals rfl
  | true =>
    rw [c1] at hv
    obtain ⟨g1, g2, g3⟩ := validL_iff c1
    obtain ⟨t, ht, pf⟩ := ps_filled l false c1
    dsimp only [tbC] at pf
    repeat' (first | exact hv | exact pf | (simp (disch := omega) only [go_sem, seval, reduceCtorEq]) | with_reducible exact Ev.mk | apply x_call | ((first | apply x_split | apply x_splitg) <;> intro hβ hb <;> (simp (disch := omega) only [go_sem, seval, reduceCtorEq, hβ]) <;> clear hβ))
    refine W_round ?_
    (try simp (disch := omega) only [go_sem, seval, reduceCtorEq])
    refine l_ord2 l false c false c1 _ ?_ l.length 0 (by omega) t [] ⟨by rw [ht]; exact (fil_ok g2 l.length (Nat.le_refl _)).1, fun a b ha => by simp at ha, by simp⟩ rfl (by rw [ht]; exact fil_len l l.length) (by rw [ht]; exact (fil_sz c1 l.length (Nat.le_refl _)).mono (by omega))
    intro t' o ht' hP hol
    repeat' (first | (simp (disch := omega) only [go_sem, seval, reduceCtorEq]) | with_reducible exact Ev.mk | ((first | apply x_split | apply x_splitg) <;> intro hβ hb <;> (simp (disch := omega) only [go_sem, seval, reduceCtorEq, hβ]) <;> clear hβ))
    refine W_round ?_
    (try simp (disch := omega) only [go_sem, seval, reduceCtorEq])
    refine l_ord1 l false c1 t' o hol hP _ ?_ o.length 0 (by omega)
    have e0 : t'.g.length = 0 := by
      have := congrArg (fun y : Td => y.1.length) ht'
      simpa [Tb.d] using this
    have e1 : t'.qs.length = 0 := by
      have := congrArg (fun y : Td => y.2.length) ht'
      simpa [Tb.d] using this
    have vs := ps_same t' T0 (by omega) (by omega) (fun q hq => by rw [List.length_eq_zero_iff.1 e1] at hq; cases hq)
    rw [decide_eq_true (show t'.d = T0.d from ht')] at vs
    dsimp only [tbC, T0, rqRow_nil, quRow_nil] at vs
    repeat' (first | exact vs | exact hw | (simp (disch := omega) only [go_sem, seval, reduceCtorEq]) | with_reducible exact Ev.mk | apply x_call | ((first | apply x_split | apply x_splitg) <;> intro hβ hb <;> (simp (disch := omega) only [go_sem, seval, reduceCtorEq, hβ]) <;> clear hβ))
    all_goals rfl

end Go.Dv.Try
