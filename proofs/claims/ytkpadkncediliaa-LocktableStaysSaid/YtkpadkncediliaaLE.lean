/-
  Specifications: L21.
-/
import Derived.Test.YtkpadkncediliaaLD
set_option linter.unusedVariables false
set_option linter.unusedSimpArgs false
set_option maxRecDepth 100000
set_option maxHeartbeats 4000000
namespace Go.Dv.Try
open Go Go.Dv

/-! ## L21 -/

/-- The request b, of transaction x, waits for a. -/
def Pq (x : Int) (a b : Rq) : Prop := b.1 = x ∧ a.1 < x ∧ (a.2 || b.2) = true

theorem mem_bef {l : List Rq} (h : AscP l) {x y : Int} : y ∈ beforeL l x ↔ ∃ a ∈ l, ∃ b ∈ l, a.1 = y ∧ Pq x a b := by
  unfold beforeL
  constructor
  · intro hm
    split at hm
    · rename_i c
      obtain ⟨a, ha, rfl⟩ := List.mem_map.1 hm
      obtain ⟨h1, h2⟩ := List.mem_filter.1 ha
      have h3 : (fun r : Rq => r.1 == x) l[idxN l x] = true := List.findIdx_getElem (w := c)
      simp only [beq_iff_eq] at h3
      obtain ⟨i, hi, rfl⟩ := List.getElem_of_mem h1
      rw [List.length_take] at hi
      rw [List.getElem_take]
      have hlt := List.pairwise_iff_getElem.1 h.2 i (idxN l x) (by omega) c (by omega)
      unfold befF at h2
      rw [getD_rq l _ c, List.getElem_take] at h2
      exact ⟨l[i], List.getElem_mem _, l[idxN l x], List.getElem_mem c, rfl, h3, by omega, h2⟩
    · cases hm
  · rintro ⟨a, ha, b, hb, rfl, h1, h2, h3⟩
    obtain ⟨j, hj, rfl⟩ := List.getElem_of_mem hb
    obtain ⟨i, hi, rfl⟩ := List.getElem_of_mem ha
    have e : idxN l x = j := by rw [← h1]; exact idxN_at h.2 hj
    have hij : i < j := by
      rcases Nat.lt_trichotomy i j with c | c | c
      · exact c
      · subst c; omega
      · have := List.pairwise_iff_getElem.1 h.2 j i hj hi c
        omega
    rw [e, if_pos hj]
    refine List.mem_map.2 ⟨l[i], List.mem_filter.2 ⟨?_, ?_⟩, rfl⟩
    · rw [List.mem_iff_getElem]
      exact ⟨i, by rw [List.length_take]; omega, by rw [List.getElem_take]⟩
    · unfold befF
      rw [getD_rq l _ hj]
      exact h3

/-- Nobody is waited for. -/
structure Free (t : Td) (x : Int) : Prop where
  g : ∀ a ∈ t.1, ∀ b ∈ t.1, ¬ Pq x a b
  q : ∀ q ∈ t.2, ∀ a ∈ q.2, ∀ b ∈ q.2, ¬ Pq x a b

theorem waits_nil {t : Td} (h : VD t) {x : Int} : waitsL t x = [] ↔ Free t x := by
  rw [List.eq_nil_iff_forall_not_mem]
  constructor
  · intro hn
    refine ⟨fun a ha b hb hp => hn a.1 ?_, fun q hq a ha b hb hp => hn a.1 ?_⟩
    · rw [mem_waitsL]
      exact List.mem_append_left _ ((mem_bef h.g).2 ⟨a, ha, b, hb, rfl, hp⟩)
    · rw [mem_waitsL]
      exact List.mem_append_right _ (List.mem_flatMap.2 ⟨q, hq, (mem_bef (h.r q hq)).2 ⟨a, ha, b, hb, rfl, hp⟩⟩)
  · intro hf y hy
    rw [mem_waitsL] at hy
    rcases List.mem_append.1 hy with e | e
    · obtain ⟨a, ha, b, hb, _, hp⟩ := (mem_bef h.g).1 e
      exact hf.g a ha b hb hp
    · obtain ⟨q, hq, e⟩ := List.mem_flatMap.1 e
      obtain ⟨a, ha, b, hb, _, hp⟩ := (mem_bef (h.r q hq)).1 e
      exact hf.q q hq a ha b hb hp

theorem granted_iff {t : Td} {x : Int} : grantedD t x = true ↔ VD t ∧ (∃ r ∈ t.1, r.1 = x) ∧ Free t x := by
  unfold grantedD
  rw [Bool.and_eq_true, Bool.and_eq_true, decide_eq_true_eq, decide_eq_true_eq, validD_iff, mem_g_idx]
  constructor
  · rintro ⟨⟨a, b⟩, c⟩
    exact ⟨a, b, (waits_nil a).1 (List.length_eq_zero_iff.1 c)⟩
  · rintro ⟨a, b, c⟩
    exact ⟨⟨a, b⟩, by rw [(waits_nil a).2 c]; rfl⟩

theorem mem_ready {t : Td} {x : Int} : x ∈ readyD t ↔ grantedD t x = true := by
  rw [← readyR_eq, List.mem_filter]
  refine ⟨fun h => h.2, fun h => ⟨?_, h⟩⟩
  obtain ⟨_, ⟨r, hr, e⟩, _⟩ := granted_iff.1 h
  rw [← e]; exact List.mem_map_of_mem hr

theorem stays_req {t : Td} {x r : Int} {f : Ft} (h : Fit23 t x f) (hr : grantedD t r = true) : grantedD (addT t x f) r = true := by
  obtain ⟨hv, ⟨s, hs, e⟩, hf⟩ := granted_iff.1 hr
  have hlt : r < x := by rw [← e]; exact h.lt s hs
  refine granted_iff.2 ⟨h.vd, ⟨s, List.mem_append_left _ hs, e⟩, ⟨fun a ha b hb hp => ?_, fun q hq a ha b hb hp => ?_⟩⟩
  · obtain ⟨p1, p2, p3⟩ := hp
    have a' : a ∈ t.1 := by
      rcases List.mem_append.1 ha with c | c
      · exact c
      · rw [List.mem_singleton] at c; rw [c] at p2; simp only at p2; omega
    have b' : b ∈ t.1 := by
      rcases List.mem_append.1 hb with c | c
      · exact c
      · rw [List.mem_singleton] at c; rw [c] at p1; simp only at p1; omega
    exact hf.g a a' b b' ⟨p1, p2, p3⟩
  · obtain ⟨p1, p2, p3⟩ := hp
    have hq2 : q.2 = getQ t.2 q.1 ++ lockOf f x q.1 := by rw [← getQ_add h, getQ_mem h.vd.a hq]
    rw [hq2] at ha hb
    have a' : a ∈ getQ t.2 q.1 := by
      rcases List.mem_append.1 ha with c | c
      · exact c
      · have := (mem_lockOf c).2.1; omega
    have b' : b ∈ getQ t.2 q.1 := by
      rcases List.mem_append.1 hb with c | c
      · exact c
      · have := (mem_lockOf c).2.1; omega
    have hm : (q.1, getQ t.2 q.1) ∈ t.2 := getQ_has (List.ne_nil_of_mem a')
    exact hf.q _ hm a a' b b' ⟨p1, p2, p3⟩

theorem stays_rel {t : Td} {x r : Int} (hx : r ≠ x) (hr : grantedD t r = true) : grantedD (delT t x) r = true := by
  obtain ⟨hv, ⟨s, hs, e⟩, hf⟩ := granted_iff.1 hr
  refine granted_iff.2 ⟨hv.delT x, ⟨s, List.mem_filter.2 ⟨hs, notX_ne.2 (by omega)⟩, e⟩, ⟨fun a ha b hb hp => ?_, fun q hq a ha b hb hp => ?_⟩⟩
  · exact hf.g a (List.mem_filter.1 ha).1 b (List.mem_filter.1 hb).1 hp
  · obtain ⟨_, p, hp2, rfl⟩ := mem_relQ.1 hq
    exact hf.q p hp2 a (List.mem_filter.1 ha).1 b (List.mem_filter.1 hb).1 hp

theorem gone {t : Td} {x : Int} : grantedD (delT t x) x = false := by
  cases c : grantedD (delT t x) x with
  | false => rfl
  | true =>
    obtain ⟨_, ⟨s, hs, e⟩, _⟩ := granted_iff.1 c
    exact absurd e (notX_ne.1 (List.mem_filter.1 hs).2)

theorem first_free {t : Td} (hv : VD t) (h : 0 < t.1.length) : waitsL t t.1[0].1 = [] := by
  have hmin : ∀ r ∈ t.1, t.1[0].1 ≤ r.1 := fun r hr => by
    obtain ⟨i, hi, rfl⟩ := List.getElem_of_mem hr
    rcases Nat.eq_zero_or_pos i with e | e
    · subst e; omega
    · have := List.pairwise_iff_getElem.1 hv.g.2 0 i h hi e
      omega
  refine (waits_nil hv).2 ⟨fun a ha b hb hp => ?_, fun q hq a ha b hb hp => ?_⟩
  · have := hmin a ha
    have := hp.2.1
    omega
  · have := hmin _ (hv.i q hq a ha)
    have := hp.2.1
    simp only at *
    omega

/-! ### the statement on progress -/

def pW (t : Td) (x : Int) : Bool := decide ((waitsL t x).length = 0)

theorem l_progress (t : Tb) (hs : Sm2 t) (hv : validD t.d = true) (bR : Bool) (K : Ex → St → Prop)
    (hx : K (.exit 0) ⟨[(3, .p (.slice bR (intCells (readyD t.d)))), (4, .p (.int .i64 (readyD t.d).length))], [], 0, [0]⟩) :
    ∀ (m i : Nat), i + m = t.g.length →
    W tb a8_l0 ⟨[(1, .ptr 0 0), (3, .p (.slice bR (intCells (readyD t.d)))), (4, .p (.int .i64 (((t.g.take i).map (·.1)).filter (pW t.d)).length)), (5, .p (.int .i64 i))], [(0, .var false [.p (.slice t.gf (rqRow t.g)), .p (.slice t.qf (quRow t.qs))])], 1, [0]⟩ (LK tb (.ghost .lower a8_l0) K) := by
  have hR : readyD t.d = (t.g.map (·.1)).filter (pW t.d) := by unfold readyD; rw [hv]; rfl
  have hvd := validD_iff.1 hv
  have hgl := hs.g
  have hRl : (readyD t.d).length ≤ 1000 := by
    rw [hR]
    have := List.length_filter_le (pW t.d) (t.g.map (·.1))
    rw [List.length_map] at this
    omega
  intro m
  induction m with
  | zero =>
    rintro i hi
    have h1 : ¬ (i : Int) < t.g.length := by omega
    rw [List.take_of_length_le (by omega), ← hR]
    refine i_code (by unfold a8_l0; exact rfl) ?_
    repeat' (first | (simp (disch := omega) only [go_sem, seval, reduceCtorEq, h1, rqRow_length]) | with_reducible exact Ev.mk | ((first | apply x_split | apply x_splitg) <;> intro hβ hb <;> (simp (disch := omega) only [go_sem, seval, reduceCtorEq, h1, rqRow_length, hβ]) <;> clear hβ))
    exact hx
  | succ m ih =>
    rintro i hi
    have h1 : (i : Int) < t.g.length := by omega
    have h2 : i < t.g.length := by omega
    have h4 : (0 : Int) ≤ i := by omega
    have h3 := rqRow_get t.g i h2
    have q1 := ps_granted t t.g[i].1 hs.toSm
    obtain ⟨b, q2⟩ := ps_Waits t t.g[i].1 hs.toSm
    have eW : waitsV t.d t.g[i].1 = waitsL t.d t.g[i].1 := by unfold waitsV; rw [hv]; rfl
    rw [eW] at q2
    have eG : grantedD t.d t.g[i].1 = pW t.d t.g[i].1 := by
      unfold grantedD pW
      rw [hv, decide_eq_true (show idxN t.d.1 t.g[i].1 < t.d.1.length from mem_g_idx.2 ⟨t.g[i], List.getElem_mem h2, rfl⟩)]
      rfl
    rw [eG] at q1
    have hdec : readyD t.d = ((t.g.take i).map (·.1)).filter (pW t.d) ++ ((if pW t.d t.g[i].1 then [t.g[i].1] else []) ++ ((t.g.drop (i + 1)).map (·.1)).filter (pW t.d)) := by
      have e1 : t.g = t.g.take i ++ t.g[i] :: t.g.drop (i + 1) := by rw [← List.drop_eq_getElem_cons h2, List.take_append_drop]
      rw [hR]
      conv => lhs; rw [e1]
      rw [List.map_append, List.filter_append, List.map_cons]
      cases c : pW t.d t.g[i].1 with
      | true => rw [List.filter_cons_of_pos c]; rfl
      | false => rw [List.filter_cons_of_neg (by simp [c])]; rfl
    have hstep : ((t.g.take (i + 1)).map (·.1)).filter (pW t.d) = ((t.g.take i).map (·.1)).filter (pW t.d) ++ if pW t.d t.g[i].1 then [t.g[i].1] else [] := by
      rw [List.take_add_one, List.map_append, List.filter_append, List.getElem?_eq_getElem h2]
      cases c : pW t.d t.g[i].1 <;> simp [c]
    have ih' := ih (i + 1) (by omega)
    rw [hstep] at ih'
    generalize ((t.g.take i).map (·.1)).filter (pW t.d) = P at hdec hstep ih' ⊢
    have hP : (0 : Int) ≤ (P.length : Int) := by omega
    refine i_code (by unfold a8_l0; exact rfl) ?_
    dsimp only [tbC] at q1 q2
    cases c : pW t.d t.g[i].1 with
    | true =>
      rw [c] at q1 ih' hdec
      simp only [if_true] at hdec ih'
      have c' : (waitsL t.d t.g[i].1).length = 0 := of_decide_eq_true c
      have d1 : (P.length : Int) < (readyD t.d).length := by
        have := congrArg List.length hdec
        simp only [List.length_append, List.length_singleton] at this
        omega
      have d2 : (intCells (readyD t.d))[P.length]? = some [.int .i64 t.g[i].1] := by
        rw [intCells_get _ _ (by omega)]
        congr 3
        have : (readyD t.d)[P.length]? = some t.g[i].1 := by rw [hdec]; simp
        rw [List.getElem?_eq_getElem (by omega)] at this
        exact Option.some.inj this
      have d3 : (((waitsL t.d t.g[i].1).length : Int) == 0) = true := by simp [c']
      have d4 : (t.g[i].1 == t.g[i].1) = true := by simp
      have m1 : (P.length : Int) + 1 ≤ 9223372036854775807 := by omega
      rw [List.length_append, List.length_singleton] at ih'
      by_cases e : i = 0
      · have d5 : ((i : Int) == 0) = true := by simp [e]
        repeat' (first | exact q1 | exact q2 | (simp (disch := omega) only [go_sem, seval, reduceCtorEq, h1, h3, h4, hP, d1, d2, d3, d4, d5, rqRow_length, intCells_length]) | with_reducible exact Ev.mk | apply x_call | ((first | apply x_split | apply x_splitg) <;> intro hβ hb <;> (simp (disch := omega) only [go_sem, seval, reduceCtorEq, h1, h3, h4, hP, d1, d2, d3, d4, d5, rqRow_length, intCells_length, hβ]) <;> clear hβ))
        refine i_lk (W_round ?_)
        (try simp (disch := omega) only [go_sem, seval, reduceCtorEq])
        exact ih'
      · have d5 : ((i : Int) == 0) = false := by rw [beq_eq_false_iff_ne]; omega
        repeat' (first | exact q1 | exact q2 | (simp (disch := omega) only [go_sem, seval, reduceCtorEq, h1, h3, h4, hP, d1, d2, d3, d4, d5, rqRow_length, intCells_length]) | with_reducible exact Ev.mk | apply x_call | ((first | apply x_split | apply x_splitg) <;> intro hβ hb <;> (simp (disch := omega) only [go_sem, seval, reduceCtorEq, h1, h3, h4, hP, d1, d2, d3, d4, d5, rqRow_length, intCells_length, hβ]) <;> clear hβ))
        refine i_lk (W_round ?_)
        (try simp (disch := omega) only [go_sem, seval, reduceCtorEq])
        exact ih'
    | false =>
      rw [c] at q1 ih' hdec
      simp only [Bool.false_eq_true, if_false, List.append_nil, List.nil_append] at hdec ih'
      have c' : ¬ (waitsL t.d t.g[i].1).length = 0 := of_decide_eq_false c
      have d3 : (((waitsL t.d t.g[i].1).length : Int) == 0) = false := by rw [beq_eq_false_iff_ne]; omega
      have d5 : ((i : Int) == 0) = false := by
        rw [beq_eq_false_iff_ne]
        intro e
        have e0 : i = 0 := by omega
        subst e0
        exact c' (by rw [show waitsL t.d t.g[0].1 = [] from first_free hvd h2]; rfl)
      by_cases d1 : P.length < (readyD t.d).length
      · have d1' : (P.length : Int) < (readyD t.d).length := by omega
        have d2 : (intCells (readyD t.d))[P.length]? = some [.int .i64 (readyD t.d)[P.length]] := intCells_get _ _ d1
        have d4 : ((readyD t.d)[P.length] == t.g[i].1) = false := by
          rw [beq_eq_false_iff_ne]
          have h7 : (readyD t.d)[P.length] ∈ ((t.g.drop (i + 1)).map (·.1)).filter (pW t.d) := by
            have : (readyD t.d)[P.length]? = (((t.g.drop (i + 1)).map (·.1)).filter (pW t.d))[0]? := by rw [hdec, List.getElem?_append_right (Nat.le_refl _), Nat.sub_self]
            rw [List.getElem?_eq_getElem d1] at this
            exact List.mem_of_getElem? this.symm
          obtain ⟨r, hr, e⟩ := List.mem_map.1 (List.mem_filter.1 h7).1
          obtain ⟨j, hj, rfl⟩ := List.getElem_of_mem hr
          rw [List.length_drop] at hj
          rw [List.getElem_drop] at e
          have := List.pairwise_iff_getElem.1 hvd.g.2 i (i + 1 + j) h2 (by show i + 1 + j < t.g.length; omega) (by omega)
          have h8 : t.g[i].1 < t.g[i + 1 + j].1 := this
          omega
        repeat' (first | exact q1 | exact q2 | (simp (disch := omega) only [go_sem, seval, reduceCtorEq, h1, h3, h4, hP, d1', d2, d3, d4, d5, rqRow_length, intCells_length]) | with_reducible exact Ev.mk | apply x_call | ((first | apply x_split | apply x_splitg) <;> intro hβ hb <;> (simp (disch := omega) only [go_sem, seval, reduceCtorEq, h1, h3, h4, hP, d1', d2, d3, d4, d5, rqRow_length, intCells_length, hβ]) <;> clear hβ))
        refine i_lk (W_round ?_)
        (try simp (disch := omega) only [go_sem, seval, reduceCtorEq])
        exact ih'
      · have d1' : ¬ (P.length : Int) < (readyD t.d).length := by omega
        repeat' (first | exact q1 | exact q2 | (simp (disch := omega) only [go_sem, seval, reduceCtorEq, h1, h3, h4, hP, d1', d3, d5, rqRow_length, intCells_length]) | with_reducible exact Ev.mk | apply x_call | ((first | apply x_split | apply x_splitg) <;> intro hβ hb <;> (simp (disch := omega) only [go_sem, seval, reduceCtorEq, h1, h3, h4, hP, d1', d3, d5, rqRow_length, intCells_length, hβ]) <;> clear hβ))
        refine i_lk (W_round ?_)
        (try simp (disch := omega) only [go_sem, seval, reduceCtorEq])
        exact ih'

theorem walkLocktableProgress {u : List PV} (h : Fits [.slice [.int .i64, .bool], .slice [.str, .slice [.int .i64, .bool]]] u) : PS tb 8 [.agg u] (.bool true) := by
  obtain ⟨t, rfl⟩ := fit_table h
  have hfew := ps_few23 t
  have hw := ps_works
  refine PS_of (af := a8) rfl rfl ?_
  unfold a8
  cases c1 : fewT t with
  | false =>
    rw [c1] at hfew
    dsimp only [List.map, ofPV, initEnv, tbC] at hfew ⊢
    repeat' (first | exact hfew | exact hw | (simp (disch := omega) only [go_sem, seval, reduceCtorEq]) | with_reducible exact Ev.mk | apply x_call | ((first | apply x_split | apply x_splitg) <;> intro hβ hb <;> (simp (disch := omega) only [go_sem, seval, reduceCtorEq, hβ]) <;> clear hβ))
    all_goals rfl
  | true =>
    rw [c1] at hfew
    have sm := fewT_sm2 c1
    have hvv := sm.valid
    obtain ⟨b1, r1⟩ := ps_ready t sm.toSm
    cases c2 : validD t.d with
    | false =>
      have e : readyD t.d = [] := by unfold readyD; rw [c2]; rfl
      rw [c2] at hvv
      rw [e] at r1
      dsimp only [List.map, ofPV, initEnv, tbC] at hfew hvv r1 ⊢
      repeat' (first | exact hfew | exact hvv | exact r1 | exact hw | (simp (disch := omega) only [go_sem, seval, reduceCtorEq, intCells_length, List.length_nil]) | with_reducible exact Ev.mk | apply x_call | ((first | apply x_split | apply x_splitg) <;> intro hβ hb <;> (simp (disch := omega) only [go_sem, seval, reduceCtorEq, intCells_length, List.length_nil, hβ]) <;> clear hβ))
      all_goals rfl
    | true =>
      rw [c2] at hvv
      have he : (((readyD t.d).length : Int) == (readyD t.d).length) = true := by simp
      dsimp only [List.map, ofPV, initEnv, tbC] at hfew hvv r1 ⊢
      repeat' (first | exact hfew | exact hvv | exact r1 | (simp (disch := omega) only [go_sem, seval, reduceCtorEq]) | with_reducible exact Ev.mk | apply x_call | ((first | apply x_split | apply x_splitg) <;> intro hβ hb <;> (simp (disch := omega) only [go_sem, seval, reduceCtorEq, hβ]) <;> clear hβ))
      refine W_round ?_
      (try simp (disch := omega) only [go_sem, seval, reduceCtorEq])
      refine l_progress t sm c2 b1 _ ?_ t.g.length 0 (by omega)
      repeat' (first | exact hw | (simp (disch := omega) only [go_sem, seval, reduceCtorEq, intCells_length, he]) | with_reducible exact Ev.mk | apply x_call | ((first | apply x_split | apply x_splitg) <;> intro hβ hb <;> (simp (disch := omega) only [go_sem, seval, reduceCtorEq, intCells_length, he, hβ]) <;> clear hβ))
      all_goals rfl

end Go.Dv.Try
