/-
  Specifications: K11, K12.
-/
import Derived.Test.YtknplkihgnfpfaaKB
set_option linter.unusedVariables false
set_option linter.unusedSimpArgs false
set_option maxRecDepth 100000
set_option maxHeartbeats 8000000
namespace Go.Dv.Try
open Go Go.Dv

/-! ## K11 -/

def okS (o : List Int) (e : Ed) : Bool := decide (plc (e.1 : Int) o 0 < plc (e.2.1 : Int) o 0)
def rok (l : List Ft) (o : List Int) (i j : Nat) : Bool := !conflB (l.getD i F0) (l.getD j F0) || decide (plc (i : Int) o 0 < plc (j : Int) o 0)
def rJ (l : List Ft) (o : List Int) (i c : Nat) : Bool := (List.range c).all fun t => rok l o i (i + 1 + t)
def rI (l : List Ft) (o : List Int) (n c : Nat) : Bool := (List.range c).all fun i => rJ l o i (n - 1 - i)
theorem rJ_succ (l : List Ft) (o : List Int) (i c : Nat) : rJ l o i (c + 1) = (rJ l o i c && rok l o i (i + 1 + c)) := by simp [rJ, List.range_succ]
theorem rI_succ (l : List Ft) (o : List Int) (n c : Nat) : rI l o n (c + 1) = (rI l o n c && rJ l o c (n - 1 - c)) := by simp [rI, List.range_succ]

theorem kk_empty (f g : Ft) : (filt f g 3).isEmpty = !conflB f g := by
  unfold conflB
  cases h1 : validF f <;> cases h2 : validF g <;> cases h3 : f.all <;> cases h4 : g.all <;> cases c1 : meetB f.w g.w <;> cases c2 : meetB f.w g.r <;> cases c3 : meetB f.r g.w <;>
    simp [filt, isF, allF, h1, h2, h3, h4, c1, c2, c3, List.range_succ]

theorem edK_all (l : List Ft) (o : List Int) (i j : Nat) : (edK (kkR l) i j).all (okS o) = rok l o i j := by
  unfold edK rok
  rw [← kk_empty]
  show ((kkR l i j).map _).all _ = ((kkR l i j).isEmpty || _)
  generalize kkR l i j = ks
  cases ks with
  | nil => rfl
  | cons k r =>
    simp only [List.isEmpty_cons, Bool.false_or, List.map_cons, List.all_cons]
    show (decide (plc (i : Int) o 0 < plc (j : Int) o 0) && _) = _
    cases hd : decide (plc (i : Int) o 0 < plc (j : Int) o 0) with
    | false => rfl
    | true =>
      rw [Bool.true_and, List.all_eq_true]
      intro x hx
      obtain ⟨k, _, rfl⟩ := List.mem_map.1 hx
      exact hd

theorem edJ_all (l : List Ft) (o : List Int) (i : Nat) : ∀ c, (edJ (kkR l) i c).all (okS o) = rJ l o i c
  | 0 => rfl
  | c + 1 => by rw [edJ_succ, List.all_append, edJ_all l o i c, edK_all, rJ_succ]
theorem edI_all (l : List Ft) (o : List Int) (n : Nat) : ∀ c, (edI (kkR l) n c).all (okS o) = rI l o n c
  | 0 => rfl
  | c + 1 => by rw [edI_succ, List.all_append, edI_all l o n c, edJ_all, rI_succ]
theorem edges_all (l : List Ft) (o : List Int) : (edgesR l).all (okS o) = rI l o l.length l.length := by rw [← edges_same, edI_all]

theorem okE_okS {l : List Ft} {o : List Int} (hp : permB o l.length = true) : ∀ e ∈ edgesR l, okE o e = okS o e := by
  intro e he
  obtain ⟨h1, h2⟩ := edgesR_lt l e he
  obtain ⟨_, hg⟩ := permB_get hp
  obtain ⟨k1, a1, b1, _⟩ := hg e.1 (by omega)
  obtain ⟨k2, a2, b2, _⟩ := hg e.2.1 h2
  unfold okE okS
  rw [a1, a2]
  apply decide_eq_decide.2
  have : k1 ≠ k2 := by
    intro e'
    subst e'
    rw [b1] at b2
    simp only [Option.some.injEq] at b2
    omega
  omega

theorem bef_kept (l : List Ft) (o : List Int) : befR l o = (permB o l.length && (edgesR l).all (okS o)) := by
  unfold befR
  cases hp : permB o l.length with
  | false => rfl
  | true =>
    rw [Bool.true_and, Bool.true_and, Bool.eq_iff_iff, List.all_eq_true, List.all_eq_true]
    exact ⟨fun h e he => by rw [← okE_okS hp e he]; exact h e he, fun h e he => by rw [okE_okS hp e he]; exact h e he⟩

theorem l_ord2 (l : List Ft) (hn : l.length ≤ 10) (o : List Int) (ho : o.length ≤ 1000) (es : List Ed) (hes : ∀ e ∈ es, e.1 < e.2.1 ∧ e.2.1 < l.length) (hl : es.length ≤ 1000) (kp : Bool) (K : Ex → St → Prop)
    (hx : K (.exit 0) ⟨[(0, .p (.slice false (ftRow l))), (1, .p (.slice false (intCells o))), (6, .p (.bool (kp && es.all (okS o)))), (7, .p (.bool kp))], [], 0, [0]⟩) : ∀ (m i : Nat), i + m = es.length →
    W tb a8_l2 ⟨[(0, .p (.slice false (ftRow l))), (1, .p (.slice false (intCells o))), (5, .p (.slice false (edRow es))), (6, .p (.bool (kp && (es.take i).all (okS o)))), (7, .p (.bool kp)), (8, .p (.int .i64 i))], [], 0, [0]⟩ (LK tb (.ghost .lower a8_l2) K) := by
  intro m
  induction m with
  | zero =>
    intro i hi
    have h1 : ¬ (i : Int) < es.length := by omega
    have e : i = es.length := by omega
    subst e
    rw [List.take_length]
    refine i_code (by unfold a8_l2; exact rfl) ?_
    repeat' (first | (simp (maxSteps := 2000000) (disch := omega) only [go_sem, seval, reduceCtorEq, h1, edRow_length]) | with_reducible exact Ev.mk | ((first | apply x_split | apply x_splitg) <;> intro hβ hb <;> (simp (maxSteps := 2000000) (disch := omega) only [go_sem, seval, reduceCtorEq, h1, edRow_length, hβ]) <;> clear hβ))
    exact hx
  | succ m ih =>
    intro i hi
    have h1 : (i : Int) < es.length := by omega
    have h2 : i < es.length := by omega
    have h4 : (0 : Int) ≤ i := by omega
    have h3 := edRow_get es i h2
    obtain ⟨e1, e2⟩ := hes _ (List.getElem_mem h2)
    have g1 : ¬ ((es[i].1 : Nat) : Int) < 0 := by omega
    have g2 : ¬ ((es[i].2.1 : Nat) : Int) ≤ ((es[i].1 : Nat) : Int) := by omega
    have g3 : ¬ (l.length : Int) ≤ ((es[i].2.1 : Nat) : Int) := by omega
    have ihk := ih (i + 1) (by omega)
    have etk : es.take (i + 1) = es.take i ++ [es[i]] := by rw [List.take_add_one, List.getElem?_eq_getElem h2]; rfl
    rw [etk, List.all_append, ← Bool.and_assoc] at ihk
    have eo : [es[i]].all (okS o) = decide (plc ((es[i].1 : Nat) : Int) o 0 < plc ((es[i].2.1 : Nat) : Int) o 0) := by simp [okS]
    rw [eo] at ihk
    simp only [edC] at h3
    generalize (kp && (es.take i).all (okS o)) = B at ihk ⊢
    refine i_code (by unfold a8_l2; exact rfl) ?_
    cases B with
    | false =>
      rw [Bool.false_and] at ihk
      repeat' (first | (simp (maxSteps := 2000000) (disch := omega) only [go_sem, seval, reduceCtorEq, h1, h4, h3, g1, g2, g3, edRow_length, ftRow_length]) | with_reducible exact Ev.mk | ((first | apply x_split | apply x_splitg) <;> intro hβ hb <;> (simp (maxSteps := 2000000) (disch := omega) only [go_sem, seval, reduceCtorEq, h1, h4, h3, g1, g2, g3, edRow_length, ftRow_length, hβ]) <;> clear hβ))
      refine i_lk (W_round ?_)
      (try simp (maxSteps := 2000000) (disch := omega) only [go_sem, seval, reduceCtorEq])
      exact ihk
    | true =>
      rw [Bool.true_and] at ihk
      repeat' (first | exact ps_place o _ false ho | (simp (maxSteps := 2000000) (disch := omega) only [go_sem, seval, reduceCtorEq, h1, h4, h3, g1, g2, g3, edRow_length, ftRow_length]) | with_reducible exact Ev.mk | apply x_call | ((first | apply x_split | apply x_splitg) <;> intro hβ hb <;> (simp (maxSteps := 2000000) (disch := omega) only [go_sem, seval, reduceCtorEq, h1, h4, h3, g1, g2, g3, edRow_length, ftRow_length, hβ]) <;> clear hβ))
      refine i_lk (W_round ?_)
      (try simp (maxSteps := 2000000) (disch := omega) only [go_sem, seval, reduceCtorEq])
      exact ihk

theorem l_ord0 (l : List Ft) (hn : l.length ≤ 10) (hF : ∀ f ∈ l, Fo f) (o : List Int) (ho : o.length ≤ 1000) (i : Nat) (hi : i < l.length) (A k6 : Bool) (K : Ex → St → Prop)
    (hx : K (.exit 4) ⟨[(0, .p (.slice false (ftRow l))), (1, .p (.slice false (intCells o))), (6, .p (.bool k6)), (7, .p (.bool (A && rJ l o i (l.length - 1 - i)))), (9, .p (.int .i64 i))], [], 0, [0]⟩) : ∀ (m c : Nat), c + m = l.length - 1 - i →
    W tb a8_l0 ⟨[(0, .p (.slice false (ftRow l))), (1, .p (.slice false (intCells o))), (6, .p (.bool k6)), (7, .p (.bool (A && rJ l o i c))), (9, .p (.int .i64 i)), (10, .p (.int .i64 (i + 1 + c : Nat)))], [], 0, [0]⟩ (LK tb (.ghost .lower a8_l0) K) := by
  intro m
  induction m with
  | zero =>
    intro c hc
    have h1 : ¬ ((i + 1 + c : Nat) : Int) < l.length := by omega
    have e : c = l.length - 1 - i := by omega
    subst e
    refine i_code (by unfold a8_l0; exact rfl) ?_
    repeat' (first | (simp (maxSteps := 2000000) (disch := omega) only [go_sem, seval, reduceCtorEq, h1, ftRow_length]) | with_reducible exact Ev.mk | ((first | apply x_split | apply x_splitg) <;> intro hβ hb <;> (simp (maxSteps := 2000000) (disch := omega) only [go_sem, seval, reduceCtorEq, h1, ftRow_length, hβ]) <;> clear hβ))
    exact hx
  | succ m ih =>
    intro c hc
    have h1 : ((i + 1 + c : Nat) : Int) < l.length := by omega
    have h2 : i + 1 + c < l.length := by omega
    have h4 : (0 : Int) ≤ ((i + 1 + c : Nat) : Int) := by omega
    have h5 : (i : Int) < l.length := by omega
    have h6 : (0 : Int) ≤ (i : Int) := by omega
    have h7 := ftRow_get l i hi
    have h3 := ftRow_get l (i + 1 + c) h2
    have q := ps_fconfl l[i] l[i + 1 + c] (hF _ (List.getElem_mem hi)).1 (hF _ (List.getElem_mem h2)).1
    have ihk := ih (c + 1) (by omega)
    have e2 : ((i + 1 + c : Nat) : Int) + 1 = ((i + 1 + (c + 1) : Nat) : Int) := by omega
    rw [rJ_succ, ← Bool.and_assoc] at ihk
    unfold rok at ihk
    rw [getF_get l i hi, getF_get l _ h2] at ihk
    generalize (A && rJ l o i c) = B at ihk ⊢
    simp only [ftC] at h3 h7 q
    refine i_code (by unfold a8_l0; exact rfl) ?_
    cases B with
    | false =>
      rw [Bool.false_and] at ihk
      repeat' (first | (simp (maxSteps := 2000000) (disch := omega) only [go_sem, seval, reduceCtorEq, h1, h4, h5, h6, h3, h7, e2, ftRow_length]) | with_reducible exact Ev.mk | ((first | apply x_split | apply x_splitg) <;> intro hβ hb <;> (simp (maxSteps := 2000000) (disch := omega) only [go_sem, seval, reduceCtorEq, h1, h4, h5, h6, h3, h7, e2, ftRow_length, hβ]) <;> clear hβ))
      refine i_lk (W_round ?_)
      (try simp (maxSteps := 2000000) (disch := omega) only [go_sem, seval, reduceCtorEq])
      exact ihk
    | true =>
      rw [Bool.true_and] at ihk
      cases hv : conflB l[i] l[i + 1 + c] with
      | false =>
        rw [hv] at q ihk
        simp only [Bool.not_false, Bool.true_or] at ihk
        repeat' (first | exact q | (simp (maxSteps := 2000000) (disch := omega) only [go_sem, seval, reduceCtorEq, h1, h4, h5, h6, h3, h7, e2, ftRow_length]) | with_reducible exact Ev.mk | apply x_call | ((first | apply x_split | apply x_splitg) <;> intro hβ hb <;> (simp (maxSteps := 2000000) (disch := omega) only [go_sem, seval, reduceCtorEq, h1, h4, h5, h6, h3, h7, e2, ftRow_length, hβ]) <;> clear hβ))
        refine i_lk (W_round ?_)
        (try simp (maxSteps := 2000000) (disch := omega) only [go_sem, seval, reduceCtorEq])
        exact ihk
      | true =>
        rw [hv] at q ihk
        simp only [Bool.not_true, Bool.false_or] at ihk
        repeat' (first | exact q | exact ps_place o _ false ho | (simp (maxSteps := 2000000) (disch := omega) only [go_sem, seval, reduceCtorEq, h1, h4, h5, h6, h3, h7, e2, ftRow_length]) | with_reducible exact Ev.mk | apply x_call | ((first | apply x_split | apply x_splitg) <;> intro hβ hb <;> (simp (maxSteps := 2000000) (disch := omega) only [go_sem, seval, reduceCtorEq, h1, h4, h5, h6, h3, h7, e2, ftRow_length, hβ]) <;> clear hβ))
        refine i_lk (W_round ?_)
        (try simp (maxSteps := 2000000) (disch := omega) only [go_sem, seval, reduceCtorEq])
        exact ihk

theorem l_ord1 (l : List Ft) (hn : l.length ≤ 10) (hF : ∀ f ∈ l, Fo f) (o : List Int) (ho : o.length ≤ 1000) (kp k6 : Bool) (K : Ex → St → Prop)
    (hx : K (.exit 2) ⟨[(0, .p (.slice false (ftRow l))), (1, .p (.slice false (intCells o))), (6, .p (.bool k6)), (7, .p (.bool (kp && rI l o l.length l.length)))], [], 0, [0]⟩) : ∀ (m i : Nat), i + m = l.length →
    W tb a8_l1 ⟨[(0, .p (.slice false (ftRow l))), (1, .p (.slice false (intCells o))), (6, .p (.bool k6)), (7, .p (.bool (kp && rI l o l.length i))), (9, .p (.int .i64 i))], [], 0, [0]⟩ (LK tb (.ghost .lower a8_l1) K) := by
  intro m
  induction m with
  | zero =>
    intro i hi
    have h1 : ¬ (i : Int) < l.length := by omega
    have e : i = l.length := by omega
    subst e
    refine i_code (by unfold a8_l1; exact rfl) ?_
    repeat' (first | (simp (maxSteps := 2000000) (disch := omega) only [go_sem, seval, reduceCtorEq, h1, ftRow_length]) | with_reducible exact Ev.mk | ((first | apply x_split | apply x_splitg) <;> intro hβ hb <;> (simp (maxSteps := 2000000) (disch := omega) only [go_sem, seval, reduceCtorEq, h1, ftRow_length, hβ]) <;> clear hβ))
    exact hx
  | succ m ih =>
    intro i hi
    have h1 : (i : Int) < l.length := by omega
    have h2 : i < l.length := by omega
    have ihk := ih (i + 1) (by omega)
    rw [rI_succ, ← Bool.and_assoc] at ihk
    generalize (kp && rI l o l.length i) = A at ihk ⊢
    have key := fun K hx => l_ord0 l hn hF o ho i h2 A k6 K hx (l.length - 1 - i) 0 (by omega)
    have e0 : rJ l o i 0 = true := rfl
    simp only [e0, Bool.and_true, Nat.add_zero] at key
    refine i_code (by unfold a8_l1; exact rfl) ?_
    repeat' (first | (simp (maxSteps := 2000000) (disch := omega) only [go_sem, seval, reduceCtorEq, h1, ftRow_length]) | with_reducible exact Ev.mk | ((first | apply x_split | apply x_splitg) <;> intro hβ hb <;> (simp (maxSteps := 2000000) (disch := omega) only [go_sem, seval, reduceCtorEq, h1, ftRow_length, hβ]) <;> clear hβ))
    refine W_round ?_
    (try simp (maxSteps := 2000000) (disch := omega) only [go_sem, seval, reduceCtorEq])
    refine key _ ?_
    repeat' (first | (simp (maxSteps := 2000000) (disch := omega) only [go_sem, seval, reduceCtorEq]) | with_reducible exact Ev.mk | ((first | apply x_split | apply x_splitg) <;> intro hβ hb <;> (simp (maxSteps := 2000000) (disch := omega) only [go_sem, seval, reduceCtorEq, hβ]) <;> clear hβ))
    refine i_lk (W_round ?_)
    (try simp (maxSteps := 2000000) (disch := omega) only [go_sem, seval, reduceCtorEq])
    exact ihk

theorem walkConflictOrders {u v : PV} (h : Fit (.slice [.bool, .slice [.str], .slice [.str]]) u) (h' : Fit (.slice [.int .i64]) v) : PS tb 8 [u, v] (.bool true) := by
  obtain ⟨l, rfl, hl⟩ := fit_feet h
  obtain ⟨o, rfl, ho⟩ := fit_nums h'
  have q := ps_few25 l false hl
  refine PS_of (af := a8) rfl rfl ?_
  unfold a8
  dsimp only [List.map, ofPV, initEnv]
  cases hf : fewL l with
  | false =>
    rw [hf] at q
    repeat' (first | exact q | exact ps_lives | (simp (maxSteps := 2000000) (disch := omega) only [go_sem, seval, reduceCtorEq, intCells_length]) | with_reducible exact Ev.mk | apply x_call | ((first | apply x_split | apply x_splitg) <;> intro hβ hb <;> (simp (maxSteps := 2000000) (disch := omega) only [go_sem, seval, reduceCtorEq, intCells_length, hβ]) <;> clear hβ))
  | true =>
    rw [hf] at q
    obtain ⟨h1, h2⟩ := fewL_ok hf
    by_cases c : (20 : Int) < o.length
    · repeat' (first | exact q | exact ps_lives | (simp (maxSteps := 2000000) (disch := omega) only [go_sem, seval, reduceCtorEq, c, intCells_length]) | with_reducible exact Ev.mk | apply x_call | ((first | apply x_split | apply x_splitg) <;> intro hβ hb <;> (simp (maxSteps := 2000000) (disch := omega) only [go_sem, seval, reduceCtorEq, c, intCells_length, hβ]) <;> clear hβ))
    · have q1 := ps_before l o false false h1 h2 (by omega)
      have q2 := ps_edges l false h1 h2
      have q3 := ps_permutes o l.length false (by omega) (by omega)
      have he := edges_len l h1
      rw [bef_kept] at q1
      repeat' (first | exact q | exact q2 | exact q3 | (simp (maxSteps := 2000000) (disch := omega) only [go_sem, seval, reduceCtorEq, c, intCells_length, ftRow_length]) | with_reducible exact Ev.mk | apply x_call | ((first | apply x_split | apply x_splitg) <;> intro hβ hb <;> (simp (maxSteps := 2000000) (disch := omega) only [go_sem, seval, reduceCtorEq, c, intCells_length, ftRow_length, hβ]) <;> clear hβ))
      refine W_round ?_
      (try simp (maxSteps := 2000000) (disch := omega) only [go_sem, seval, reduceCtorEq])
      have key := fun K hx => l_ord2 l h1 o (by omega) (edgesR l) (edgesR_lt l) (by omega) (permB o l.length) K hx (edgesR l).length 0 (by omega)
      have e0 : ((edgesR l).take 0).all (okS o) = true := rfl
      simp only [e0, Bool.and_true] at key
      refine key _ ?_
      repeat' (first | (simp (maxSteps := 2000000) (disch := omega) only [go_sem, seval, reduceCtorEq]) | with_reducible exact Ev.mk | ((first | apply x_split | apply x_splitg) <;> intro hβ hb <;> (simp (maxSteps := 2000000) (disch := omega) only [go_sem, seval, reduceCtorEq, hβ]) <;> clear hβ))
      refine W_round ?_
      (try simp (maxSteps := 2000000) (disch := omega) only [go_sem, seval, reduceCtorEq])
      have key2 := fun k6 K hx => l_ord1 l h1 h2 o (by omega) (permB o l.length) k6 K hx l.length 0 (by omega)
      have e1 : rI l o l.length 0 = true := rfl
      simp only [e1, Bool.and_true] at key2
      refine key2 _ _ ?_
      rw [← edges_all]
      generalize (permB o l.length && (edgesR l).all (okS o)) = B at q1 ⊢
      repeat' (first | exact q1 | exact ps_lives | (simp (maxSteps := 2000000) (disch := omega) only [go_sem, seval, reduceCtorEq]) | with_reducible exact Ev.mk | apply x_call | ((first | apply x_split | apply x_splitg) <;> intro hβ hb <;> (simp (maxSteps := 2000000) (disch := omega) only [go_sem, seval, reduceCtorEq, hβ]) <;> clear hβ))
      all_goals simp [pur, dep]


/-! ## K12 -/

/-! ### levels and conflicts -/

def lvl (l : List Ft) (i : Nat) : Nat := (levR l).getD i 0
theorem lvs_pre (l : List Ft) : ∀ j k, lvs l (j + k) = lvs l j ++ ((lvs l (j + k)).drop j)
  | j, 0 => by
    have : (lvs l j).drop j = [] := List.drop_eq_nil_of_le (by rw [lvs_len]; exact Nat.le_refl _)
    simp [this]
  | j, k + 1 => by
    have ih := lvs_pre l j k
    show lvs l (j + k) ++ _ = lvs l j ++ (lvs l (j + k) ++ _).drop j
    rw [List.drop_append_of_le_length (by rw [lvs_len]; omega), ← List.append_assoc, ← ih]
theorem lvs_get (l : List Ft) (i j : Nat) (h : i < j) (hj : j ≤ l.length) : (lvs l j).getD i 0 = lvl l i := by
  have := lvs_pre l j (l.length - j)
  have e : j + (l.length - j) = l.length := by omega
  rw [e] at this
  unfold lvl levR
  rw [this, List.getD_eq_getElem?_getD, List.getD_eq_getElem?_getD, List.getElem?_append_left (by rw [lvs_len]; exact h)]
theorem lvl_eq (l : List Ft) (j : Nat) (h : j < l.length) : lvl l j = lv1 l (lvs l j) j j := by
  rw [← lvs_get l j (j + 1) (by omega) h]
  show (lvs l j ++ [_]).getD j 0 = _
  rw [List.getD_eq_getElem?_getD, List.getElem?_append_right (by rw [lvs_len]; exact Nat.le_refl _), lvs_len, Nat.sub_self]; rfl
theorem lv1_ge (l : List Ft) (vs : List Nat) (j : Nat) : ∀ i k, k < i → conflB (l.getD k F0) (l.getD j F0) = true → vs.getD k 0 + 1 ≤ lv1 l vs j i
  | 0, k, h, _ => by omega
  | i + 1, k, h, hc => by
    unfold lv1
    rcases Nat.lt_or_ge k i with h1 | h1
    · have := lv1_ge l vs j i k h1 hc
      split
      · omega
      · exact this
    · have : k = i := by omega
      subst this
      rw [hc, if_pos rfl]; omega
theorem lvl_lt {l : List Ft} {i j : Nat} (h : i < j) (hj : j < l.length) (hc : conflB (l.getD i F0) (l.getD j F0) = true) : lvl l i < lvl l j := by
  have := lv1_ge l (lvs l j) j j i h hc
  rw [lvs_get l i j h (by omega), ← lvl_eq l j hj] at this
  omega
theorem lvl_le (l : List Ft) : ∀ j, j < l.length → lvl l j ≤ j := by
  intro j
  induction j using Nat.strongRecOn with
  | ind j ih =>
    intro h
    rw [lvl_eq l j h]
    rcases Nat.eq_zero_or_pos j with h0 | h0
    · subst h0; simp [lv1]
    · obtain ⟨k, rfl⟩ : ∃ k, j = k + 1 := ⟨j - 1, by omega⟩
      have hv : ∀ x ∈ lvs l (k + 1), x ≤ k := by
        intro x hx
        obtain ⟨i, hi, rfl⟩ := List.mem_iff_getElem.1 hx
        rw [lvs_len] at hi
        have e : (lvs l (k + 1))[i]'(by rw [lvs_len]; exact hi) = lvl l i := by
          rw [← lvs_get l i (k + 1) hi (by omega), List.getD_eq_getElem?_getD, List.getElem?_eq_getElem (by rw [lvs_len]; exact hi)]; rfl
        rw [e]
        have := ih i (by omega) (by omega)
        omega
      exact lv1_le l _ _ k hv _
theorem lvl_hgt (l : List Ft) (j : Nat) (h : j < l.length) : lvl l j < hgt (levR l) := by
  have hj : j < (levR l).length := by rw [levR_len]; exact h
  have hs := hgt_succ (levR l) j hj
  have mono : ∀ (x : List Nat) (n : Nat), n ≤ x.foldl (fun n x => max n (x + 1)) n := by
    intro x
    induction x with
    | nil => intro n; exact Nat.le_refl _
    | cons a r ih => intro n; exact Nat.le_trans (Nat.le_max_left _ _) (ih _)
  have hle : hgt ((levR l).take (j + 1)) ≤ hgt (levR l) := by
    have : (levR l) = (levR l).take (j + 1) ++ (levR l).drop (j + 1) := (List.take_append_drop _ _).symm
    conv => rhs; rw [this]
    unfold hgt
    rw [List.foldl_append]
    exact mono _ _
  have e : lvl l j = (levR l)[j] := by
    unfold lvl; rw [List.getD_eq_getElem?_getD, List.getElem?_eq_getElem hj]; rfl
  omega
theorem hgt_lev (l : List Ft) : hgt (levR l) ≤ l.length := by
  rcases Nat.eq_zero_or_pos l.length with h0 | h0
  · have : levR l = [] := List.eq_nil_of_length_eq_zero (by rw [levR_len]; exact h0)
    rw [this]; simp [hgt]
  · have := hgt_le (levR l) (l.length - 1) (fun x hx => by
      obtain ⟨i, hi, rfl⟩ := List.mem_iff_getElem.1 hx
      have hi' : i < l.length := by rw [levR_len] at hi; exact hi
      have e : lvl l i = (levR l)[i] := by
        unfold lvl; rw [List.getD_eq_getElem?_getD, List.getElem?_eq_getElem hi]; rfl
      have := lvl_le l i hi'
      omega)
    omega

/-! ### the order -/

def ordN (l : List Ft) (n i : Nat) : List Nat := (List.range i).filter fun x => decide (lvl l x = n)
def ordF (l : List Ft) (c : Nat) : List Nat := (List.range c).flatMap fun n => ordN l n l.length
theorem ordN_succ (l : List Ft) (n i : Nat) : ordN l n (i + 1) = ordN l n i ++ (if lvl l i = n then [i] else []) := by
  unfold ordN
  rw [List.range_succ, List.filter_append]
  congr 1
  by_cases h : lvl l i = n <;> simp [h]
theorem ordF_succ (l : List Ft) (c : Nat) : ordF l (c + 1) = ordF l c ++ ordN l c l.length := by simp [ordF, List.range_succ]
theorem ordN_mem {l : List Ft} {n i x : Nat} : x ∈ ordN l n i ↔ x < i ∧ lvl l x = n := by simp [ordN]
theorem ordF_mem {l : List Ft} {c x : Nat} : x ∈ ordF l c ↔ x < l.length ∧ lvl l x < c := by
  unfold ordF
  rw [List.mem_flatMap]
  constructor
  · rintro ⟨n, hn, hx⟩
    have := ordN_mem.1 hx
    have := List.mem_range.1 hn
    omega
  · rintro ⟨h1, h2⟩
    exact ⟨lvl l x, List.mem_range.2 h2, ordN_mem.2 ⟨h1, rfl⟩⟩
theorem ordF_sorted (l : List Ft) : ∀ c, (ordF l c).Pairwise fun a b => lvl l a < lvl l b ∨ (lvl l a = lvl l b ∧ a < b)
  | 0 => List.Pairwise.nil
  | c + 1 => by
    rw [ordF_succ, List.pairwise_append]
    refine ⟨ordF_sorted l c, ?_, fun a ha b hb => ?_⟩
    · unfold ordN
      refine List.Pairwise.imp_of_mem (fun {a b} ha hb hab => ?_) (List.Pairwise.filter _ (List.pairwise_lt_range (n := l.length)))
      have h1 := (List.mem_filter.1 ha).2
      have h2 := (List.mem_filter.1 hb).2
      simp only [decide_eq_true_eq] at h1 h2
      exact .inr ⟨by omega, hab⟩
    · have := (ordF_mem.1 ha).2
      have := (ordN_mem.1 hb).2
      exact .inl (by omega)
theorem ordF_nodup (l : List Ft) (c : Nat) : (ordF l c).Nodup := (ordF_sorted l c).imp fun {a b} h => by
  rintro rfl
  omega
theorem ordF_len (l : List Ft) (c : Nat) : (ordF l c).length ≤ l.length := nodup_le _ _ (ordF_nodup l c) fun x hx => (ordF_mem.1 hx).1
def ordR (l : List Ft) : List Nat := ordF l (hgt (levR l))
theorem ordR_len (l : List Ft) : (ordR l).length = l.length := by
  have hp : (ordR l).Perm (List.range l.length) := (List.perm_ext_iff_of_nodup (ordF_nodup l _) List.nodup_range).2 fun x => by
    rw [ordF_mem, List.mem_range]
    exact ⟨fun h => h.1, fun h => ⟨h, lvl_hgt l x h⟩⟩
  rw [hp.length_eq, List.length_range]

def nats (l : List Nat) : List Int := l.map fun (x : Nat) => (x : Int)
theorem intRow_nats (l : List Nat) : intRow l = intCells (nats l) := by simp [intRow, intCells, nats]

theorem ordR_perm (l : List Ft) : permB (nats (ordR l)) l.length = true := by
  refine permB_of ⟨by rw [nats, List.length_map, ordR_len], fun x hx => ?_, ?_⟩
  · obtain ⟨y, hy, rfl⟩ := List.mem_map.1 hx
    have := (ordF_mem.1 hy).1
    omega
  · unfold nats List.Nodup
    rw [List.pairwise_map]
    exact (ordF_nodup l _).imp fun {a b} h => by omega

theorem edges_confl {l : List Ft} {e : Ed} (he : e ∈ edgesR l) : conflB (l.getD e.1 F0) (l.getD e.2.1 F0) = true := by
  rw [← edges_same] at he
  unfold edI at he
  obtain ⟨i, hi, he⟩ := List.mem_flatMap.1 he
  unfold edJ at he
  obtain ⟨t, ht, he⟩ := List.mem_flatMap.1 he
  unfold edK at he
  obtain ⟨k, hk, rfl⟩ := List.mem_map.1 he
  have h0 := kk_empty (l.getD i F0) (l.getD (i + 1 + t) F0)
  cases hc : conflB (l.getD i F0) (l.getD (i + 1 + t) F0) with
  | true => rfl
  | false =>
    rw [hc] at h0
    have h1 : filt (l.getD i F0) (l.getD (i + 1 + t) F0) 3 = [] := by simpa using h0
    unfold kkR at hk
    rw [h1] at hk
    simp at hk

theorem ordR_bef (l : List Ft) : befR l (nats (ordR l)) = true := by
  unfold befR
  have hp := ordR_perm l
  rw [hp, Bool.true_and, List.all_eq_true]
  intro e he
  obtain ⟨h1, h2⟩ := edgesR_lt l e he
  obtain ⟨_, hg⟩ := permB_get hp
  obtain ⟨k1, a1, b1, _⟩ := hg e.1 (by omega)
  obtain ⟨k2, a2, b2, _⟩ := hg e.2.1 h2
  unfold okE
  rw [a1, a2]
  refine decide_eq_true ?_
  have hlt := lvl_lt h1 h2 (edges_confl he)
  rcases Nat.lt_or_ge k2 k1 with hk | hk
  · exfalso
    have e1 : (ordR l)[k1]? = some e.1 := by
      unfold nats at b1
      rw [List.getElem?_map] at b1
      cases hx : (ordR l)[k1]? with
      | none => rw [hx] at b1; cases b1
      | some y => rw [hx] at b1; simp only [Option.map_some, Option.some.injEq] at b1; congr 1; omega
    have e2 : (ordR l)[k2]? = some e.2.1 := by
      unfold nats at b2
      rw [List.getElem?_map] at b2
      cases hx : (ordR l)[k2]? with
      | none => rw [hx] at b2; cases b2
      | some y => rw [hx] at b2; simp only [Option.map_some, Option.some.injEq] at b2; congr 1; omega
    obtain ⟨l1, g1⟩ := List.getElem?_eq_some_iff.1 e1
    obtain ⟨l2, g2⟩ := List.getElem?_eq_some_iff.1 e2
    have := List.pairwise_iff_getElem.1 (ordF_sorted l (hgt (levR l))) k2 k1 l2 l1 hk
    have g1' : (ordF l (hgt (levR l)))[k1] = e.1 := g1
    have g2' : (ordF l (hgt (levR l)))[k2] = e.2.1 := g2
    rw [g1', g2'] at this
    omega
  · omega

/-! ### the walk -/

theorem l_srt0 (l : List Ft) (hn : l.length ≤ 10) (hF : ∀ f ∈ l, Fo f) (n i : Nat) (hi : i < l.length) (hv : lvl l i = n) (A : List Nat) (K : Ex → St → Prop)
    (hx : K (.exit 4) ⟨[(0, .p (.slice false (ftRow l))), (3, .p (.slice false (intRow (levR l)))), (4, .ref 0 A.length 0 A.length), (5, .p (.int .i64 n)), (6, .p (.int .i64 i))], [(0, .row false 1 (intRow A))], 1, [0]⟩) : ∀ (m j : Nat), j + m = i →
    W tb a13_l0 ⟨[(0, .p (.slice false (ftRow l))), (3, .p (.slice false (intRow (levR l)))), (4, .ref 0 A.length 0 A.length), (5, .p (.int .i64 n)), (6, .p (.int .i64 i)), (7, .p (.int .i64 j))], [(0, .row false 1 (intRow A))], 1, [0]⟩ (LK tb (.ghost .lower a13_l0) K) := by
  intro m
  induction m with
  | zero =>
    intro j hj
    have h1 : ¬ (j : Int) < (i : Int) := by omega
    refine i_code (by unfold a13_l0; exact rfl) ?_
    repeat' (first | (simp (maxSteps := 2000000) (disch := omega) only [go_sem, seval, reduceCtorEq, h1]) | with_reducible exact Ev.mk | ((first | apply x_split | apply x_splitg) <;> intro hβ hb <;> (simp (maxSteps := 2000000) (disch := omega) only [go_sem, seval, reduceCtorEq, h1, hβ]) <;> clear hβ))
    exact hx
  | succ m ih =>
    intro j hj
    have h1 : (j : Int) < (i : Int) := by omega
    have hjl : j < l.length := by omega
    have h2 : (j : Int) < l.length := by omega
    have h2' : (i : Int) < l.length := by omega
    have h4 : (0 : Int) ≤ j := by omega
    have h4' : (0 : Int) ≤ (i : Int) := by omega
    have h3 := ftRow_get l j hjl
    have h5 := ftRow_get l i hi
    have hle := levR_len l
    have h6 : (intRow (levR l))[j]? = some [.int .i64 (lvl l j : Nat)] := by
      rw [intRow_get _ j (by rw [hle]; exact hjl)]
      unfold lvl
      rw [List.getD_eq_getElem?_getD, List.getElem?_eq_getElem (by rw [hle]; exact hjl)]; rfl
    have q := ps_fconfl l[j] l[i] (hF _ (List.getElem_mem hjl)).1 (hF _ (List.getElem_mem hi)).1
    have ihk := ih (j + 1) (by omega)
    simp only [ftC] at h3 h5 q
    refine i_code (by unfold a13_l0; exact rfl) ?_
    by_cases c : lvl l j = n
    · have c' : (((lvl l j : Nat) : Int) == (n : Int)) = true := beq_iff_eq.2 (by omega)
      have hq : conflB l[j] l[i] = false := by
        cases hc : conflB l[j] l[i] with
        | false => rfl
        | true =>
          have := lvl_lt (l := l) (i := j) (j := i) (by omega) hi (by rw [getF_get l j hjl, getF_get l i hi]; exact hc)
          omega
      rw [hq] at q
      repeat' (first | exact q | (simp (maxSteps := 2000000) (disch := omega) only [go_sem, seval, reduceCtorEq, h1, h2, h2', h4, h4', h3, h5, h6, c', hle, ftRow_length, intRow_length]) | with_reducible exact Ev.mk | apply x_call | ((first | apply x_split | apply x_splitg) <;> intro hβ hb <;> (simp (maxSteps := 2000000) (disch := omega) only [go_sem, seval, reduceCtorEq, h1, h2, h2', h4, h4', h3, h5, h6, c', hle, ftRow_length, intRow_length, hβ]) <;> clear hβ))
      refine i_lk (W_round ?_)
      (try simp (maxSteps := 2000000) (disch := omega) only [go_sem, seval, reduceCtorEq])
      exact ihk
    · have c' : (((lvl l j : Nat) : Int) == (n : Int)) = false := beq_eq_false_iff_ne.2 (by omega)
      repeat' (first | exact q | (simp (maxSteps := 2000000) (disch := omega) only [go_sem, seval, reduceCtorEq, h1, h2, h2', h4, h4', h3, h5, h6, c', hle, ftRow_length, intRow_length]) | with_reducible exact Ev.mk | apply x_call | ((first | apply x_split | apply x_splitg) <;> intro hβ hb <;> (simp (maxSteps := 2000000) (disch := omega) only [go_sem, seval, reduceCtorEq, h1, h2, h2', h4, h4', h3, h5, h6, c', hle, ftRow_length, intRow_length, hβ]) <;> clear hβ))
      refine i_lk (W_round ?_)
      (try simp (maxSteps := 2000000) (disch := omega) only [go_sem, seval, reduceCtorEq])
      exact ihk

theorem l_srt1 (l : List Ft) (hn : l.length ≤ 10) (hF : ∀ f ∈ l, Fo f) (n : Nat) (A : List Nat) (hA : A.length ≤ 1000) (K : Ex → St → Prop)
    (hx : K (.exit 2) ⟨[(0, .p (.slice false (ftRow l))), (3, .p (.slice false (intRow (levR l)))), (4, .ref 0 (A ++ ordN l n l.length).length 0 (A ++ ordN l n l.length).length), (5, .p (.int .i64 n))], [(0, .row false 1 (intRow (A ++ ordN l n l.length)))], 1, [0]⟩) : ∀ (m i : Nat), i + m = l.length →
    W tb a13_l1 ⟨[(0, .p (.slice false (ftRow l))), (3, .p (.slice false (intRow (levR l)))), (4, .ref 0 (A ++ ordN l n i).length 0 (A ++ ordN l n i).length), (5, .p (.int .i64 n)), (6, .p (.int .i64 i))], [(0, .row false 1 (intRow (A ++ ordN l n i)))], 1, [0]⟩ (LK tb (.ghost .lower a13_l1) K) := by
  intro m
  induction m with
  | zero =>
    intro i hi
    have h1 : ¬ (i : Int) < l.length := by omega
    have e : i = l.length := by omega
    subst e
    refine i_code (by unfold a13_l1; exact rfl) ?_
    repeat' (first | (simp (maxSteps := 2000000) (disch := omega) only [go_sem, seval, reduceCtorEq, h1, ftRow_length]) | with_reducible exact Ev.mk | ((first | apply x_split | apply x_splitg) <;> intro hβ hb <;> (simp (maxSteps := 2000000) (disch := omega) only [go_sem, seval, reduceCtorEq, h1, ftRow_length, hβ]) <;> clear hβ))
    exact hx
  | succ m ih =>
    intro i hi
    have h1 : (i : Int) < l.length := by omega
    have h2 : i < l.length := by omega
    have h4 : (0 : Int) ≤ i := by omega
    have hle := levR_len l
    have h6 : (intRow (levR l))[i]? = some [.int .i64 (lvl l i : Nat)] := by
      rw [intRow_get _ i (by rw [hle]; exact h2)]
      unfold lvl
      rw [List.getD_eq_getElem?_getD, List.getElem?_eq_getElem (by rw [hle]; exact h2)]; rfl
    have ihk := ih (i + 1) (by omega)
    rw [ordN_succ, ← List.append_assoc] at ihk
    have hlen : (A ++ ordN l n i).length ≤ 1020 := by
      have : (ordN l n i).length ≤ i := Nat.le_trans (List.length_filter_le _ _) (by simp)
      rw [List.length_append]; omega
    refine i_code (by unfold a13_l1; exact rfl) ?_
    by_cases c : lvl l i = n
    · have c' : (((lvl l i : Nat) : Int) != (n : Int)) = false := bne_eq_false_iff_eq.2 (by omega)
      rw [if_pos c] at ihk
      generalize A ++ ordN l n i = B at ihk hlen ⊢
      have sn := intRow_snoc B i
      have m1 : (B.length + 1) * 8 ≤ 140737488355328 := by omega
      have m2 : B.length + 1 ≤ 140737488355328 := by omega
      repeat' (first | (simp (maxSteps := 2000000) (disch := omega) only [go_sem, seval, reduceCtorEq, h1, h4, h6, c', hle, sn, sz1, m1, m2, maxBytes, ftRow_length, intRow_length]) | with_reducible exact Ev.mk | ((first | apply x_split | apply x_splitg) <;> intro hβ hb <;> (simp (maxSteps := 2000000) (disch := omega) only [go_sem, seval, reduceCtorEq, h1, h4, h6, c', hle, sn, sz1, m1, m2, maxBytes, ftRow_length, intRow_length, hβ]) <;> clear hβ))
      refine W_round ?_
      (try simp (maxSteps := 2000000) (disch := omega) only [go_sem, seval, reduceCtorEq])
      have key := fun K hx => l_srt0 l hn hF n i h2 c (B ++ [i]) K hx i 0 (by omega)
      rw [List.length_append] at key ihk
      simp only [List.length_cons, List.length_nil] at key ihk
      refine key _ ?_
      repeat' (first | (simp (maxSteps := 2000000) (disch := omega) only [go_sem, seval, reduceCtorEq]) | with_reducible exact Ev.mk | ((first | apply x_split | apply x_splitg) <;> intro hβ hb <;> (simp (maxSteps := 2000000) (disch := omega) only [go_sem, seval, reduceCtorEq, hβ]) <;> clear hβ))
      refine i_lk (W_round ?_)
      (try simp (maxSteps := 2000000) (disch := omega) only [go_sem, seval, reduceCtorEq])
      exact ihk
    · have c' : (((lvl l i : Nat) : Int) != (n : Int)) = true := bne_iff_ne.2 (by omega)
      rw [if_neg c, List.append_nil] at ihk
      repeat' (first | (simp (maxSteps := 2000000) (disch := omega) only [go_sem, seval, reduceCtorEq, h1, h4, h6, c', hle, ftRow_length, intRow_length]) | with_reducible exact Ev.mk | ((first | apply x_split | apply x_splitg) <;> intro hβ hb <;> (simp (maxSteps := 2000000) (disch := omega) only [go_sem, seval, reduceCtorEq, h1, h4, h6, c', hle, ftRow_length, intRow_length, hβ]) <;> clear hβ))
      refine i_lk (W_round ?_)
      (try simp (maxSteps := 2000000) (disch := omega) only [go_sem, seval, reduceCtorEq])
      exact ihk

theorem l_srt2 (l : List Ft) (hn : l.length ≤ 10) (hF : ∀ f ∈ l, Fo f) (K : Ex → St → Prop)
    (hx : K (.exit 0) ⟨[(0, .p (.slice false (ftRow l))), (4, .ref 0 (ordR l).length 0 (ordR l).length)], [(0, .row false 1 (intRow (ordR l)))], 1, [0]⟩) : ∀ (m c : Nat), c + m = hgt (levR l) →
    W tb a13_l2 ⟨[(0, .p (.slice false (ftRow l))), (3, .p (.slice false (intRow (levR l)))), (4, .ref 0 (ordF l c).length 0 (ordF l c).length), (5, .p (.int .i64 c))], [(0, .row false 1 (intRow (ordF l c)))], 1, [0]⟩ (LK tb (.ghost .lower a13_l2) K) := by
  have q := ps_height l false hn hF
  have hh := hgt_lev l
  intro m
  induction m with
  | zero =>
    intro c hc
    have h1 : ¬ (c : Int) < (hgt (levR l) : Nat) := by omega
    have e : c = hgt (levR l) := by omega
    refine i_code (by unfold a13_l2; exact rfl) ?_
    repeat' (first | exact q | (simp (maxSteps := 2000000) (disch := omega) only [go_sem, seval, reduceCtorEq, h1, ftRow_length]) | with_reducible exact Ev.mk | apply x_call | ((first | apply x_split | apply x_splitg) <;> intro hβ hb <;> (simp (maxSteps := 2000000) (disch := omega) only [go_sem, seval, reduceCtorEq, h1, ftRow_length, hβ]) <;> clear hβ))
    rw [e]
    exact hx
  | succ m ih =>
    intro c hc
    have h1 : (c : Int) < (hgt (levR l) : Nat) := by omega
    have h2 : (c : Int) ≤ l.length := by omega
    have ihk := ih (c + 1) (by omega)
    rw [ordF_succ] at ihk
    have hlen := ordF_len l c
    have key := fun K hx => l_srt1 l hn hF c (ordF l c) (by omega) K hx l.length 0 (by omega)
    have e0 : ordN l c 0 = [] := rfl
    simp only [e0, List.append_nil] at key
    refine i_code (by unfold a13_l2; exact rfl) ?_
    repeat' (first | exact q | (simp (maxSteps := 2000000) (disch := omega) only [go_sem, seval, reduceCtorEq, h1, h2, ftRow_length]) | with_reducible exact Ev.mk | apply x_call | ((first | apply x_split | apply x_splitg) <;> intro hβ hb <;> (simp (maxSteps := 2000000) (disch := omega) only [go_sem, seval, reduceCtorEq, h1, h2, ftRow_length, hβ]) <;> clear hβ))
    refine W_round ?_
    (try simp (maxSteps := 2000000) (disch := omega) only [go_sem, seval, reduceCtorEq])
    refine key _ ?_
    repeat' (first | (simp (maxSteps := 2000000) (disch := omega) only [go_sem, seval, reduceCtorEq]) | with_reducible exact Ev.mk | ((first | apply x_split | apply x_splitg) <;> intro hβ hb <;> (simp (maxSteps := 2000000) (disch := omega) only [go_sem, seval, reduceCtorEq, hβ]) <;> clear hβ))
    refine i_lk (W_round ?_)
    (try simp (maxSteps := 2000000) (disch := omega) only [go_sem, seval, reduceCtorEq])
    exact ihk

theorem walkConflictSorted {u : PV} (h : Fit (.slice [.bool, .slice [.str], .slice [.str]]) u) : PS tb 13 [u] (.bool true) := by
  obtain ⟨l, rfl, hl⟩ := fit_feet h
  have q := ps_few25 l false hl
  refine PS_of (af := a13) rfl rfl ?_
  unfold a13
  dsimp only [List.map, ofPV, initEnv]
  cases hf : fewL l with
  | false =>
    rw [hf] at q
    repeat' (first | exact q | exact ps_lives | (simp (maxSteps := 2000000) (disch := omega) only [go_sem, seval, reduceCtorEq]) | with_reducible exact Ev.mk | apply x_call | ((first | apply x_split | apply x_splitg) <;> intro hβ hb <;> (simp (maxSteps := 2000000) (disch := omega) only [go_sem, seval, reduceCtorEq, hβ]) <;> clear hβ))
  | true =>
    rw [hf] at q
    obtain ⟨h1, h2⟩ := fewL_ok hf
    have q1 := ps_levels l false h1 h2
    have hle := levR_len l
    have hlo := ordR_len l
    have n1 : ((l.length : Int) != (l.length : Int)) = false := by simp
    have q2 := ps_before l (nats (ordR l)) false false h1 h2 (by rw [nats, List.length_map, hlo]; omega)
    rw [ordR_bef, ← intRow_nats] at q2
    repeat' (first | exact q | exact q1 | (simp (maxSteps := 2000000) (disch := omega) only [go_sem, seval, reduceCtorEq, hle, n1, intRow_length, ftRow_length]) | with_reducible exact Ev.mk | apply x_call | ((first | apply x_split | apply x_splitg) <;> intro hβ hb <;> (simp (maxSteps := 2000000) (disch := omega) only [go_sem, seval, reduceCtorEq, hle, n1, intRow_length, ftRow_length, hβ]) <;> clear hβ))
    refine W_round ?_
    (try simp (maxSteps := 2000000) (disch := omega) only [go_sem, seval, reduceCtorEq])
    have key := fun K hx => l_srt2 l h1 h2 K hx (hgt (levR l)) 0 (by omega)
    have e0 : ordF l 0 = [] := rfl
    rw [e0] at key
    refine key _ ?_
    have e2 := intRow_take (ordR l) (ordR l).length rfl
    have e3 := intRow_take (ordR l) l.length hlo
    repeat' (first | exact q2 | exact ps_lives | (simp (maxSteps := 2000000) (disch := omega) only [go_sem, seval, reduceCtorEq, intRow_length, e2, e3, hlo]) | with_reducible exact Ev.mk | apply x_call | ((first | apply x_split | apply x_splitg) <;> intro hβ hb <;> (simp (maxSteps := 2000000) (disch := omega) only [go_sem, seval, reduceCtorEq, intRow_length, e2, e3, hlo, hβ]) <;> clear hβ))
    all_goals simp [pur, dep, intRow_length, e2, e3, hlo]

end Go.Dv.Try
