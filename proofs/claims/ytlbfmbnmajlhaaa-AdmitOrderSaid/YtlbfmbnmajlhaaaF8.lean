/-
  Specifications, part 8: projections, footprints of effects; the examples of the chapter.
-/
import Derived.Test.YtlbfmbnmajlhaaaF7
set_option linter.unusedVariables false
set_option linter.unusedSimpArgs false
set_option maxRecDepth 100000
set_option maxHeartbeats 1000000
namespace Go.Dv.Try
open Go Go.Dv

theorem ps_clone (l : List ByteArray) (b : Bool) (hl : l.length ≤ 1000) : PS tb 74 [.slice b (strRow l)] (.slice false (strRow l)) := by
  refine ⟨0, ?_⟩
  have hA : tb.A 74 = none := rfl
  have h1 : l.length * 16 ≤ maxBytes := by simp only [maxBytes]; omega
  have h2 : l.length ≤ maxBytes := by simp only [maxBytes]; omega
  have hX : tb.X = outside := rfl
  simp only [cfs, hA, hX]
  simp [outside, CallF.or, clones, cloneOf, allSz_strRow, strRow_length, h1, h2]

theorem bs_clone (l : List ByteArray) (b : Bool) (hl : l.length ≤ 1000) (H : Heap) (nx : Nat) : BS tb 74 [.p (.slice b (strRow l))] H nx (.ref nx l.length 0 l.length) ((nx, .row false 1 (strRow l)) :: H) (nx + 1) := by
  refine ⟨0, ?_⟩
  have hA : tb.A 74 = none := rfl
  have h1 : l.length * 16 ≤ maxBytes := by simp only [maxBytes]; omega
  have h2 : l.length ≤ maxBytes := by simp only [maxBytes]; omega
  have hX : tb.X = outside := rfl
  simp only [cfs, hA, hX]
  simp [outside, CallF.or, clones, cloneOf, allSz_strRow, strRow_length, h1, h2]

theorem ps_out (fr to k : ByteArray) (hf : fr.size ≤ 100) (ht : to.size ≤ 100) : PS tb 71 [.str k, .vptr [.str fr, .str to]] (.bool (!inR fr to k)) := by
  refine PS_of (af := a71) rfl rfl ?_
  unfold a71
  dsimp only [List.map, ofPV, initEnv]
  repeat' (first | (simp (disch := omega) only [go_sem, seval, reduceCtorEq]) | (apply x_pure; iterate 5 (first | exact ps_kin fr to k hf ht | ((try simp (disch := omega) only [go_sem, seval, reduceCtorEq]) <;> with_reducible exact rfl))) | ((first | apply x_split_cond | apply x_split_guard); all_goals (intro hb; (try simp only [Bool.not_eq_true', Bool.not_eq_false'] at hb); (simp (disch := omega) only [go_sem, seval, reduceCtorEq, hb]); (try simp only [decide_eq_true_eq, decide_eq_false_iff_not, beq_iff_eq, beq_eq_false_iff_ne, ne_eq, bne_iff_ne, bne_eq_false_iff_eq, Decidable.not_not] at hb))))

/-! ### slices.IndexFunc -/

theorem l_index (l : List ByteArray) (b : Bool) (f : FuncId) (caps : List PV) (p : ByteArray → Bool) (hp : ∀ x, PS tb f (.str x :: caps) (.bool (p x))) (hcap : mapO (pur [] dep) (caps.map ofPV) = some caps) (hl : l.length ≤ 1000) (K : Ex → St → Prop)
    (hx : (∀ x ∈ l, p x = false) → K (.exit 0) ⟨[], [], 0, [0]⟩)
    (hr : ∀ i, i < l.length → p (l.getD i E) = true → (∀ j, j < i → p (l.getD j E) = false) → K .ret ⟨[(4, .p (.int .i64 i))], [], 0, [0]⟩) :
    ∀ (m i : Nat), i + m = l.length → (∀ j, j < i → p (l.getD j E) = false) →
    W tb a88_l0 ⟨[(0, .p (.slice b (strRow l))), (1, .p (.func f caps)), (7, .p (.int .i64 l.length)), (8, .p (.int .i64 i))], [], 0, [0]⟩ (LK tb (.ghost .lower a88_l0) K) := by
  intro m
  induction m with
  | zero =>
    intro i hi ht
    have h1 : ¬ (i : Int) < l.length := by omega
    refine i_code (by unfold a88_l0; exact rfl) ?_
    (try simp (disch := omega) only [go_sem, seval, reduceCtorEq, h1])
    refine hx fun x hx => ?_
    obtain ⟨j, hj, rfl⟩ := List.mem_iff_getElem.1 hx
    have := ht j (by omega)
    rwa [getD_get l j hj] at this
  | succ m ih =>
    intro i hi ht
    have h1 : i < l.length := by omega
    have h2 : (i : Int) < l.length := by omega
    have h3 := strRow_get l _ h1
    have h4 : (0 : Int) ≤ i := by omega
    have h5 : mapO (pur [] 5) (.p (.str l[i]) :: caps.map ofPV) = some (.str l[i] :: caps) := by
      have : mapO (pur [] 5) (caps.map ofPV) = some caps := hcap
      simp only [mapO, pur, this]
    have hpi := hp l[i]
    refine i_code (by unfold a88_l0; exact rfl) ?_
    (try simp (disch := omega) only [go_sem, seval, reduceCtorEq, h2, h3, h4])
    refine x_pure (f := f) (l := .p (.str l[i]) :: caps.map ofPV) (ps := .str l[i] :: caps) (v := .bool (p l[i])) (H := []) ?_ h5 hpi rfl rfl ?_
    · ((try simp (disch := omega) only [go_sem, seval, reduceCtorEq]) <;> with_reducible exact rfl)
    · (try simp (disch := omega) only [go_sem, seval, reduceCtorEq])
      cases hb : p l[i] with
      | true =>
        (try simp (disch := omega) only [go_sem, seval, reduceCtorEq, hb])
        exact hr i h1 (by rw [getD_get l i h1]; exact hb) ht
      | false =>
        (try simp (disch := omega) only [go_sem, seval, reduceCtorEq, hb])
        refine i_lk (W_round ?_)
        (try simp (disch := omega) only [go_sem, seval, reduceCtorEq])
        refine ih (i + 1) (by omega) fun j hj => ?_
        rcases Nat.lt_or_ge j i with h6 | h6
        · exact ht j h6
        · have : j = i := by omega
          subst this; rw [getD_get l j h1]; exact hb

theorem ps_index (l : List ByteArray) (b : Bool) (f : FuncId) (caps : List PV) (p : ByteArray → Bool) (hp : ∀ x, PS tb f (.str x :: caps) (.bool (p x))) (hcap : mapO (pur [] dep) (caps.map ofPV) = some caps) (hl : l.length ≤ 1000) :
    ∃ n : Int, PS tb 88 [.slice b (strRow l), .func f caps] (.int .i64 n) ∧ ((n = -1 ∧ ∀ x ∈ l, p x = false) ∨ ∃ i : Nat, n = i ∧ i < l.length ∧ p (l.getD i E) = true ∧ ∀ j, j < i → p (l.getD j E) = false) := by
  have w : W tb a88.body { env := initEnv 0 ([PV.slice b (strRow l), PV.func f caps].map ofPV), heap := [], next := 0, marks := [0] } (Done a88.results fun v s => ∃ n : { n : Int // (n = -1 ∧ ∀ x ∈ l, p x = false) ∨ ∃ i : Nat, n = i ∧ i < l.length ∧ p (l.getD i E) = true ∧ ∀ j, j < i → p (l.getD j E) = false }, pur s.heap dep v = some (.int .i64 n.1)) := by
    unfold a88
    dsimp only [List.map, ofPV, initEnv]
    (try simp (disch := omega) only [go_sem, seval, reduceCtorEq, strRow_length])
    refine W_round ?_
    (try simp (disch := omega) only [go_sem, seval, reduceCtorEq])
    refine l_index l b f caps p hp hcap hl _ ?_ ?_ l.length 0 (by omega) (fun j h => by omega)
    · intro ha
      (try simp (disch := omega) only [go_sem, seval, reduceCtorEq])
      exact ⟨⟨-1, .inl ⟨rfl, ha⟩⟩, rfl⟩
    · intro i hi h1 h2
      (try simp (disch := omega) only [go_sem, seval, reduceCtorEq])
      exact ⟨⟨i, .inr ⟨i, rfl, hi, h1, h2⟩⟩, rfl⟩
  obtain ⟨⟨n, hn⟩, h⟩ := PS_ex (T := tb) (f := 88) (af := a88) rfl rfl w
  exact ⟨n, h, hn⟩

/-! ### slices.DeleteFunc, of what lies out of a range -/

theorem l_delete (l : List ByteArray) (fr to : ByteArray) (hf : fr.size ≤ 100) (hto : to.size ≤ 100) (hl : l.length ≤ 1000) (H0 : Heap) (id c nx : Nat) (fz : Bool) (hc : aget H0 c = some (.var fz [.p (.str fr), .p (.str to)])) (hic : (id == c) = false) (K : Ex → St → Prop)
    (hx : ∀ (cur : List ByteArray) (i : Nat), cur.length = l.length → i ≤ l.length → cur.take i = l.filter (inR fr to) → K (.exit 0) ⟨[(0, .ref id l.length 0 l.length), (5, .p (.int .i64 i))], (id, .row false 1 (strRow cur)) :: H0, nx, [nx]⟩) :
    ∀ (m j : Nat), j + m = l.length → ∀ (cur : List ByteArray) (i : Nat), cur.length = l.length → i < j → cur.take i = (l.take j).filter (inR fr to) → (∀ x, j ≤ x → cur.getD x E = l.getD x E) →
    W tb a73_l0 ⟨[(0, .ref id l.length 0 l.length), (1, .func 71 [.ptr c 0]), (5, .p (.int .i64 i)), (6, .p (.int .i64 j))], (id, .row false 1 (strRow cur)) :: H0, nx, [nx]⟩ (LK tb a73_l0 K) := by
  intro m
  induction m with
  | zero =>
    intro j hj cur i hcl hij hd hcur
    have h1 : ¬ (j : Int) < l.length := by omega
    rw [show l.take j = l from List.take_of_length_le (by omega)] at hd
    refine i_code (by unfold a73_l0; exact rfl) ?_
    (try simp (disch := omega) only [go_sem, seval, reduceCtorEq, h1, strRow_length, hcl])
    exact hx cur i hcl (by omega) hd
  | succ m ih =>
    intro j hj cur i hcl hij hd hcur
    have h1 : j < l.length := by omega
    have h2 : (j : Int) < l.length := by omega
    have h4 : (0 : Int) ≤ j := by omega
    have g1 : (strRow cur)[j]? = some [.str l[j]] := by
      rw [strRow_get cur _ (by omega)]
      have := hcur j (Nat.le_refl _)
      rw [getD_get cur j (by omega), getD_get l j h1] at this
      rw [this]
    have g3 := strRow_get cur i (by omega)
    have g4 : (i : Int) < (l.length : Int) := by omega
    have g5 : (0 : Int) ≤ i := by omega
    have hstep : (l.take (j + 1)).filter (inR fr to) = (l.take j).filter (inR fr to) ++ if inR fr to l[j] then [l[j]] else [] := by
      rw [List.take_add_one, List.filter_append, List.getElem?_eq_getElem h1]
      cases hc : inR fr to l[j] <;> simp [hc]
    have ho := ps_out fr to l[j] hf hto
    refine i_code (by unfold a73_l0; exact rfl) ?_
    cases hb : inR fr to l[j] with
    | true =>
      rw [hb] at ho
      rw [hb, if_pos rfl, ← hd] at hstep
      repeat' (first | (simp (disch := omega) only [go_sem, seval, reduceCtorEq, h2, h4, g1, g3, g4, g5, hcl, strRow_length, strRow_set, hc, hic]) | (apply x_pure; iterate 5 (first | exact ho | ((try simp (disch := omega) only [go_sem, seval, reduceCtorEq, h2, h4, g1, g3, g4, g5, hcl, strRow_length, strRow_set, hc, hic]) <;> with_reducible exact rfl))) | ((first | apply x_split_cond | apply x_split_guard); all_goals (intro hb; (try simp only [Bool.not_eq_true', Bool.not_eq_false'] at hb); (simp (disch := omega) only [go_sem, seval, reduceCtorEq, h2, h4, g1, g3, g4, g5, hcl, strRow_length, strRow_set, hc, hic, hb]); (try simp only [decide_eq_true_eq, decide_eq_false_iff_not, beq_iff_eq, beq_eq_false_iff_ne, ne_eq, bne_iff_ne, bne_eq_false_iff_eq, Decidable.not_not] at hb))))
      refine i_lk (W_round ?_)
      refine ih (j + 1) (by omega) (cur.set i l[j]) (i + 1) (by simp [hcl]) (by omega) ?_ (fun x hx => ?_)
      · rw [hstep, List.take_add_one, List.getElem?_eq_getElem (by simp; omega), List.take_set_of_le (Nat.le_refl _)]
        simp
      · rw [← hcur x (by omega), List.getD_eq_getElem?_getD, List.getElem?_set_ne (by omega), List.getD_eq_getElem?_getD]
    | false =>
      rw [hb] at ho
      rw [hb, if_neg (by simp), List.append_nil] at hstep
      repeat' (first | (simp (disch := omega) only [go_sem, seval, reduceCtorEq, h2, h4, g1, g3, g4, g5, hcl, strRow_length, strRow_set, hc, hic]) | (apply x_pure; iterate 5 (first | exact ho | ((try simp (disch := omega) only [go_sem, seval, reduceCtorEq, h2, h4, g1, g3, g4, g5, hcl, strRow_length, strRow_set, hc, hic]) <;> with_reducible exact rfl))) | ((first | apply x_split_cond | apply x_split_guard); all_goals (intro hb; (try simp only [Bool.not_eq_true', Bool.not_eq_false'] at hb); (simp (disch := omega) only [go_sem, seval, reduceCtorEq, h2, h4, g1, g3, g4, g5, hcl, strRow_length, strRow_set, hc, hic, hb]); (try simp only [decide_eq_true_eq, decide_eq_false_iff_not, beq_iff_eq, beq_eq_false_iff_ne, ne_eq, bne_iff_ne, bne_eq_false_iff_eq, Decidable.not_not] at hb))))
      refine i_lk (W_round ?_)
      exact ih (j + 1) (by omega) cur i hcl (by omega) (by rw [hstep, hd]) (fun x hx => hcur x (by omega))

theorem bs_delete (l : List ByteArray) (fr to : ByteArray) (hf : fr.size ≤ 100) (hto : to.size ≤ 100) (hl : l.length ≤ 1000) (H0 : Heap) (id c nx : Nat) (fz : Bool) (hc : aget H0 c = some (.var fz [.p (.str fr), .p (.str to)])) (hic : (id == c) = false) :
    ∃ q : List ByteArray × Nat, BS tb 73 [.ref id l.length 0 l.length, .func 71 [.ptr c 0]] ((id, .row false 1 (strRow l)) :: H0) nx (.ref id l.length 0 q.2) ((id, .row false 1 (strRow q.1)) :: H0) nx ∧ q.1.length = l.length ∧ q.2 ≤ l.length ∧ q.1.take q.2 = l.filter (inR fr to) := by
  obtain ⟨n, hi, hn⟩ := ps_index l false 71 [.vptr [.str fr, .str to]] (fun k => !inR fr to k) (fun x => ps_out fr to x hf hto) rfl hl
  have w : W tb a73.body { env := initEnv 0 [.ref id l.length 0 l.length, .func 71 [.ptr c 0]], heap := (id, .row false 1 (strRow l)) :: H0, next := nx, marks := [nx] }
      (Done a73.results fun v s => ∃ q : { q : List ByteArray × Nat // q.1.length = l.length ∧ q.2 ≤ l.length ∧ q.1.take q.2 = l.filter (inR fr to) }, v = .ref id l.length 0 q.1.2 ∧ s.heap = (id, .row false 1 (strRow q.1.1)) :: H0 ∧ s.next = nx ∧ True) := by
    unfold a73
    dsimp only [initEnv]
    rcases hn with ⟨rfl, ha⟩ | ⟨i, rfl, hi1, hi2, hi3⟩
    · have hall : l.filter (inR fr to) = l := List.filter_eq_self.2 fun x hx => by simpa using ha x hx
      repeat' (first | (simp (disch := omega) only [go_sem, seval, reduceCtorEq, strRow_length, strRow_take, takeAll, hc, hic]) | (apply x_pure; iterate 5 (first | exact hi | ((try simp (disch := omega) only [go_sem, seval, reduceCtorEq, strRow_length, strRow_take, takeAll, hc, hic]) <;> with_reducible exact rfl))) | ((first | apply x_split_cond | apply x_split_guard); all_goals (intro hb; (try simp only [Bool.not_eq_true', Bool.not_eq_false'] at hb); (simp (disch := omega) only [go_sem, seval, reduceCtorEq, strRow_length, strRow_take, takeAll, hc, hic, hb]); (try simp only [decide_eq_true_eq, decide_eq_false_iff_not, beq_iff_eq, beq_eq_false_iff_ne, ne_eq, bne_iff_ne, bne_eq_false_iff_eq, Decidable.not_not] at hb))))
      exact ⟨⟨(l, l.length), rfl, Nat.le_refl _, by rw [hall]; exact List.take_of_length_le (Nat.le_refl _)⟩, by simp⟩
    · have h1 : ((i : Int) == (-1 : Int)) = false := beq_eq_false_iff_ne.2 (by omega)
      have hpre : (l.take i).filter (inR fr to) = l.take i := List.filter_eq_self.2 fun x hx => by
        obtain ⟨j, hj, rfl⟩ := List.mem_iff_getElem.1 hx
        simp only [List.length_take] at hj
        have := hi3 j (by omega)
        rw [getD_get l j (by omega)] at this
        rw [List.getElem_take]
        simpa using this
      have hno : inR fr to l[i] = false := by
        rw [getD_get l i hi1] at hi2
        simpa using hi2
      repeat' (first | (simp (disch := omega) only [go_sem, seval, reduceCtorEq, strRow_length, strRow_take, takeAll, hc, hic, h1]) | (apply x_pure; iterate 5 (first | exact hi | ((try simp (disch := omega) only [go_sem, seval, reduceCtorEq, strRow_length, strRow_take, takeAll, hc, hic, h1]) <;> with_reducible exact rfl))) | ((first | apply x_split_cond | apply x_split_guard); all_goals (intro hb; (try simp only [Bool.not_eq_true', Bool.not_eq_false'] at hb); (simp (disch := omega) only [go_sem, seval, reduceCtorEq, strRow_length, strRow_take, takeAll, hc, hic, h1, hb]); (try simp only [decide_eq_true_eq, decide_eq_false_iff_not, beq_iff_eq, beq_eq_false_iff_ne, ne_eq, bne_iff_ne, bne_eq_false_iff_eq, Decidable.not_not] at hb))))
      refine W_round ?_
      refine l_delete l fr to hf hto hl H0 id c nx fz hc hic _ ?_ (l.length - (i + 1)) (i + 1) (by omega) l i rfl (by omega) ?_ (fun _ _ => rfl)
      · intro cur k hcl hk hd
        have e1 : (0 : Int) ≤ k := by omega
        have e2 : (k : Int) ≤ l.length := by omega
        have e3 : k + (l.length - k) ≤ l.length := by omega
        have e4 : (cur.take k ++ List.replicate (l.length - k) E ++ cur.drop (k + (l.length - k))).length = l.length := by simp; omega
        (try simp (disch := omega) only [go_sem, seval, reduceCtorEq, e1, e2, e3, strRow_length, hcl, strRow_take, strRow_drop, strRow_rep, strRow_app, List.length_replicate, e4])
        refine ⟨⟨(cur.take k ++ List.replicate (l.length - k) E ++ cur.drop (k + (l.length - k)), k), e4, hk, ?_⟩, by simp⟩
        rw [List.append_assoc, List.take_append_of_le_length (by simp; omega), List.take_take, Nat.min_self, hd]
      · rw [List.take_add_one, List.filter_append, hpre, List.getElem?_eq_getElem hi1]
        simp [hno]
  obtain ⟨⟨q, hq⟩, h, _⟩ := BS_ex (T := tb) (f := 73) (af := a73) (p := fun _ => True) rfl rfl w
  exact ⟨q, h, hq⟩

theorem ps_fproj (f : Ft) (fr to : ByteArray) (hf : fr.size ≤ 100) (ht : to.size ≤ 100) (h : ShF f) : PS tb 46 [.agg (ftC f), .agg [.str fr, .str to]] (.agg (ftC (projR f fr to))) := by
  have v1 := ps_fvalid f h
  refine PS_of (af := a46) rfl rfl ?_
  unfold a46
  dsimp only [List.map, ofPV, ftC, initEnv] at v1 ⊢
  cases h1 : validF f <;> cases h3 : f.all <;> simp only [projR, h1, h3, Bool.not_true, Bool.not_false, Bool.and_true, Bool.and_false, Bool.false_and, if_true, Bool.false_eq_true, if_false, strRow_nil]
  case true.false =>
    rw [h1, h3] at v1
    obtain ⟨⟨q1, k1⟩, d1, a1, b1, c1⟩ := bs_delete f.r fr to hf ht h.1.1 [(2, .var false [.p (.bool false), .p (.slice true []), .p (.slice true [])]), (1, .var false [.p (.str fr), .p (.str to)]), (0, .var true [.p (.bool false), .p (.slice f.br (strRow f.r)), .p (.slice f.bw (strRow f.w))])] 3 1 4 false rfl rfl
    obtain ⟨⟨q2, k2⟩, d2, a2, b2, c2⟩ := bs_delete f.w fr to hf ht h.2.1 [(3, .row false 1 (strRow q1)), (2, .var false [.p (.bool false), .p (.slice true []), .p (.slice true [])]), (1, .var false [.p (.str fr), .p (.str to)]), (0, .var true [.p (.bool false), .p (.slice f.br (strRow f.r)), .p (.slice f.bw (strRow f.w))])] 4 1 5 false rfl rfl
    simp only at d1 a1 b1 c1 d2 a2 b2 c2
    repeat' (first | (simp (disch := omega) only [go_sem, seval, reduceCtorEq, h3, strRow_nil, strRow_length, strRow_take, a1, b1, c1, a2, b2, c2]) | (apply x_pure; iterate 5 (first | exact v1 | ((try simp (disch := omega) only [go_sem, seval, reduceCtorEq, h3, strRow_nil, strRow_length, strRow_take, a1, b1, c1, a2, b2, c2]) <;> with_reducible exact rfl))) | (apply x_byref; iterate 3 (first | exact bs_clone f.r f.br h.1.1 _ _ | exact bs_clone f.w f.bw h.2.1 _ _ | exact d1 | exact d2 | ((try simp (disch := omega) only [go_sem, seval, reduceCtorEq, h3, strRow_nil, strRow_length, strRow_take, a1, b1, c1, a2, b2, c2]) <;> with_reducible exact rfl))) | ((first | apply x_split_cond | apply x_split_guard); all_goals (intro hb; (try simp only [Bool.not_eq_true', Bool.not_eq_false'] at hb); (simp (disch := omega) only [go_sem, seval, reduceCtorEq, h3, strRow_nil, strRow_length, strRow_take, a1, b1, c1, a2, b2, c2, hb]); (try simp only [decide_eq_true_eq, decide_eq_false_iff_not, beq_iff_eq, beq_eq_false_iff_ne, ne_eq, bne_iff_ne, bne_eq_false_iff_eq, Decidable.not_not] at hb))))
  all_goals (rw [h1, h3] at v1; repeat' (first | (simp (disch := omega) only [go_sem, seval, reduceCtorEq, h3, strRow_nil]) | (apply x_pure; iterate 5 (first | exact v1 | ((try simp (disch := omega) only [go_sem, seval, reduceCtorEq, h3, strRow_nil]) <;> with_reducible exact rfl))) | ((first | apply x_split_cond | apply x_split_guard); all_goals (intro hb; (try simp only [Bool.not_eq_true', Bool.not_eq_false'] at hb); (simp (disch := omega) only [go_sem, seval, reduceCtorEq, h3, strRow_nil, hb]); (try simp only [decide_eq_true_eq, decide_eq_false_iff_not, beq_iff_eq, beq_eq_false_iff_ne, ne_eq, bne_iff_ne, bne_eq_false_iff_eq, Decidable.not_not] at hb)))))

end Go.Dv.Try
