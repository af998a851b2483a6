/-
  Specifications, part 6: slices.Concat, Compact, BinarySearch, merged.
-/
import Derived.Test.YtlbfmbnmajlhaaaF5
set_option linter.unusedVariables false
set_option linter.unusedSimpArgs false
set_option maxRecDepth 100000
set_option maxHeartbeats 1000000
namespace Go.Dv.Try
open Go Go.Dv

/-- A call's answer in our own memory, one of several forms, by a walk of the body. -/
theorem BS_ex {T : Tab} {f : FuncId} {af : AFunc} (hA : T.A f = some af) {args : List DV} {H : Heap} {nx : Nat} {ι : Type} {r : ι → DV} {H' : ι → Heap} {nx' : ι → Nat} {p : ι → Prop} (hl : args.length = af.nparams)
    (h : W T af.body { env := initEnv 0 args, heap := H, next := nx, marks := [nx] } (Done af.results fun v s => ∃ i, v = r i ∧ s.heap = H' i ∧ s.next = nx' i ∧ p i)) : ∃ i, BS T f args H nx (r i) (H' i) (nx' i) ∧ p i := by
  obtain ⟨e, s', h1, hd⟩ := W_sound _ _ _ h
  unfold Done at hd
  obtain ⟨he, v, hv, i, rfl, h2, h3, h4⟩ := hd
  obtain ⟨n, hn⟩ := h1.at
  refine ⟨i, ⟨n + 1, ?_⟩, h4⟩
  rw [cfs]
  simp only [hA]
  have hx := dcode_le (CallF.le.refl (cfs T.A T.X n)) (Nat.le_succ n) _ _ _ (hn n (Nat.le_refl _))
  unfold drun
  rw [if_pos hl, hx]
  rcases he with rfl | rfl <;> simp only [hv, h2, h3]

/-! ### slices.Concat -/

theorem bs_grow (n : Nat) (hn : n ≤ 100000) (H : Heap) (nx : Nat) : BS tb 83 [.p (.slice true []), .p (.int .i64 n)] H nx (.ref nx 0 0 0) ((nx, .row false 1 []) :: H) (nx + 1) := by
  refine ⟨0, ?_⟩
  have hA : tb.A 83 = none := rfl
  have h1 : n * 16 ≤ maxBytes := by simp only [maxBytes]; omega
  have h2 : n ≤ maxBytes := by simp only [maxBytes]; omega
  have hX : tb.X = outside := rfl
  simp only [cfs, hA, hX]
  simp [outside, CallF.or, clones, cloneOf, sortStrX, growX, h1, h2]

def llRow (l : List (Bool × List ByteArray)) : List (List PV) := l.map fun p => [.slice p.1 (strRow p.2)]
def catR (l : List (Bool × List ByteArray)) : List ByteArray := l.flatMap (·.2)

theorem llRow_length (l : List (Bool × List ByteArray)) : (llRow l).length = l.length := by simp [llRow]
theorem llRow_get (l : List (Bool × List ByteArray)) (i : Nat) (h : i < l.length) : (llRow l)[i]? = some [.slice l[i].1 (strRow l[i].2)] := by simp [llRow, h]
theorem catR_step (l : List (Bool × List ByteArray)) (i : Nat) (h : i < l.length) : catR (l.take (i + 1)) = catR (l.take i) ++ l[i].2 := by
  unfold catR
  rw [List.take_add_one, List.getElem?_eq_getElem h, List.flatMap_append]
  simp
theorem catR_le (l : List (Bool × List ByteArray)) (i : Nat) : (catR (l.take i)).length ≤ (catR l).length := by
  have h : catR l = catR (l.take i) ++ catR (l.drop i) := by
    unfold catR
    rw [← List.flatMap_append, List.take_append_drop]
  rw [h, List.length_append]; omega

theorem l_cat1 (l : List (Bool × List ByteArray)) (b : Bool) (hl : l.length ≤ 1000) (hc : (catR l).length ≤ 1000) (H : Heap) (nx : Nat) (K : Ex → St → Prop) (hx : K (.exit 0) ⟨[(0, .p (.slice b (llRow l))), (3, .p (.int .i64 (catR l).length))], H, nx, [nx]⟩) : ∀ (m i : Nat), i + m = l.length →
    W tb a65_l1 ⟨[(0, .p (.slice b (llRow l))), (3, .p (.int .i64 (catR (l.take i)).length)), (9, .p (.slice b (llRow l))), (10, .p (.int .i64 l.length)), (11, .p (.int .i64 i))], H, nx, [nx]⟩ (LK tb a65_l1 K) := by
  intro m
  induction m with
  | zero =>
    intro i hi
    have h1 : ¬ (i : Int) < l.length := by omega
    rw [List.take_of_length_le (by omega)]
    refine i_code (by unfold a65_l1; exact rfl) ?_
    repeat' (first | (simp (disch := omega) only [go_sem, seval, reduceCtorEq, h1]) | ((first | apply x_split_cond | apply x_split_guard); all_goals (intro hb; (try simp only [Bool.not_eq_true', Bool.not_eq_false'] at hb); (simp (disch := omega) only [go_sem, seval, reduceCtorEq, h1, hb]); (try simp only [decide_eq_true_eq, decide_eq_false_iff_not, beq_iff_eq, beq_eq_false_iff_ne, ne_eq, bne_iff_ne, bne_eq_false_iff_eq, Decidable.not_not] at hb))))
    exact hx
  | succ m ih =>
    intro i hi
    have h1 : i < l.length := by omega
    have h2 : (i : Int) < l.length := by omega
    have h3 := llRow_get l _ h1
    have h4 : (0 : Int) ≤ i := by omega
    have h5 := catR_le l (i + 1)
    have h6 := catR_step l i h1
    have h7 : (catR (l.take (i + 1))).length = (catR (l.take i)).length + l[i].2.length := by rw [h6]; simp
    have h8 : ((catR (l.take i)).length : Int) + (l[i].2.length : Int) = ((catR (l.take (i + 1))).length : Int) := by rw [h7]; omega
    have h9 : ¬ ((catR (l.take (i + 1))).length : Int) < 0 := by omega
    refine i_code (by unfold a65_l1; exact rfl) ?_
    repeat' (first | (simp (disch := omega) only [go_sem, seval, reduceCtorEq, h2, h3, h4, strRow_length, h8, h9]) | ((first | apply x_split_cond | apply x_split_guard); all_goals (intro hb; (try simp only [Bool.not_eq_true', Bool.not_eq_false'] at hb); (simp (disch := omega) only [go_sem, seval, reduceCtorEq, h2, h3, h4, strRow_length, h8, h9, hb]); (try simp only [decide_eq_true_eq, decide_eq_false_iff_not, beq_iff_eq, beq_eq_false_iff_ne, ne_eq, bne_iff_ne, bne_eq_false_iff_eq, Decidable.not_not] at hb))))
    refine i_lk (W_round ?_)
    exact ih (i + 1) (by omega)

theorem l_cat0 (l : List (Bool × List ByteArray)) (b : Bool) (hl : l.length ≤ 1000) (hc : (catR l).length ≤ 1000) (H : Heap) (nx : Nat) (K : Ex → St → Prop) (hx : K (.exit 2) ⟨[(6, .ref nx (catR l).length 0 (catR l).length)], (nx, .row false 1 (strRow (catR l))) :: H, nx + 1, [nx]⟩) : ∀ (m i : Nat), i + m = l.length → ∀ acc, acc = catR (l.take i) →
    W tb a65_l0 ⟨[(6, .ref nx acc.length 0 acc.length), (25, .p (.slice b (llRow l))), (26, .p (.int .i64 l.length)), (27, .p (.int .i64 i))], (nx, .row false 1 (strRow acc)) :: H, nx + 1, [nx]⟩ (LK tb a65_l0 K) := by
  intro m
  induction m with
  | zero =>
    intro i hi acc hacc
    have h1 : ¬ (i : Int) < l.length := by omega
    rw [List.take_of_length_le (by omega)] at hacc
    subst hacc
    refine i_code (by unfold a65_l0; exact rfl) ?_
    repeat' (first | (simp (disch := omega) only [go_sem, seval, reduceCtorEq, h1]) | ((first | apply x_split_cond | apply x_split_guard); all_goals (intro hb; (try simp only [Bool.not_eq_true', Bool.not_eq_false'] at hb); (simp (disch := omega) only [go_sem, seval, reduceCtorEq, h1, hb]); (try simp only [decide_eq_true_eq, decide_eq_false_iff_not, beq_iff_eq, beq_eq_false_iff_ne, ne_eq, bne_iff_ne, bne_eq_false_iff_eq, Decidable.not_not] at hb))))
    exact hx
  | succ m ih =>
    intro i hi acc hacc
    have h1 : i < l.length := by omega
    have h2 : (i : Int) < l.length := by omega
    have h3 := llRow_get l _ h1
    have h4 : (0 : Int) ≤ i := by omega
    have h5 := catR_le l (i + 1)
    have h6 := catR_step l i h1
    rw [← hacc] at h6
    have h7 : acc.length + l[i].2.length ≤ 1000 := by have : (catR (l.take (i + 1))).length = acc.length + l[i].2.length := by rw [h6]; simp
                                                      omega
    refine i_code (by unfold a65_l0; exact rfl) ?_
    repeat' (first | (simp (disch := omega) only [go_sem, seval, reduceCtorEq, h2, h3, h4, strRow_length, allSz_strRow, strRow_app, maxB]) | ((first | apply x_split_cond | apply x_split_guard); all_goals (intro hb; (try simp only [Bool.not_eq_true', Bool.not_eq_false'] at hb); (simp (disch := omega) only [go_sem, seval, reduceCtorEq, h2, h3, h4, strRow_length, allSz_strRow, strRow_app, maxB, hb]); (try simp only [decide_eq_true_eq, decide_eq_false_iff_not, beq_iff_eq, beq_eq_false_iff_ne, ne_eq, bne_iff_ne, bne_eq_false_iff_eq, Decidable.not_not] at hb))))
    refine i_lk (W_round ?_)
    have := ih (i + 1) (by omega) (acc ++ l[i].2) h6.symm
    simp only [List.length_append] at this
    exact this

theorem bs_concat (l : List (Bool × List ByteArray)) (b : Bool) (hl : l.length ≤ 1000) (hc : (catR l).length ≤ 1000) (H : Heap) (nx : Nat) :
    BS tb 65 [.p (.slice b (llRow l))] H nx (.ref nx (catR l).length 0 (catR l).length) ((nx, .row false 1 (strRow (catR l))) :: H) (nx + 1) := by
  refine BS_of (af := a65) rfl rfl ?_
  unfold a65
  dsimp only [initEnv]
  (try simp (disch := omega) only [go_sem, seval, reduceCtorEq, llRow_length])
  refine W_round ?_
  refine l_cat1 l b hl hc H nx _ ?_ l.length 0 (by omega)
  repeat' (first | (simp (disch := omega) only [go_sem, seval, reduceCtorEq, llRow_length]) | (apply x_byref; iterate 3 (first | exact bs_grow _ (by omega) _ _ | ((try simp (disch := omega) only [go_sem, seval, reduceCtorEq, llRow_length]) <;> with_reducible exact rfl))) | ((first | apply x_split_cond | apply x_split_guard); all_goals (intro hb; (try simp only [Bool.not_eq_true', Bool.not_eq_false'] at hb); (simp (disch := omega) only [go_sem, seval, reduceCtorEq, llRow_length, hb]); (try simp only [decide_eq_true_eq, decide_eq_false_iff_not, beq_iff_eq, beq_eq_false_iff_ne, ne_eq, bne_iff_ne, bne_eq_false_iff_eq, Decidable.not_not] at hb))))
  refine W_round ?_
  refine l_cat0 l b hl hc H nx _ ?_ l.length 0 (by omega) [] rfl
  (try simp (disch := omega) only [go_sem, seval, reduceCtorEq])

/-! ### slices.Sort -/

theorem bs_sort (l : List ByteArray) (hl : l.length ≤ 1000) (H : Heap) (id nx : Nat) (hH : aget H id = some (.row false 1 (strRow l))) : BS tb 78 [.ref id l.length 0 l.length] H nx (.tuple []) (hset H id (.row false 1 (strRow (sortStr l)))) nx := by
  refine ⟨0, ?_⟩
  have hA : tb.A 78 = none := rfl
  have h2 : l.length ≤ maxBytes := by simp only [maxBytes]; omega
  have hX : tb.X = outside := rfl
  simp only [cfs, hA, hX]
  simp [outside, CallF.or, clones, cloneOf, sortStrX, hH, strsOf_row, h2]

/-! ### slices.Compact -/

/-- The first n of a list, without those that repeat the one before. -/
def dd (l : List ByteArray) : Nat → List ByteArray
  | 0 => []
  | n + 1 => dd l n ++ if n = 0 ∨ l.getD n E ≠ l.getD (n - 1) E then [l.getD n E] else []

theorem dd_len (l : List ByteArray) : ∀ n, (dd l n).length ≤ n
  | 0 => Nat.le_refl _
  | n + 1 => by
    have := dd_len l n
    unfold dd
    split <;> simp <;> omega

theorem dd_take (l : List ByteArray) : ∀ n, n ≤ l.length → (∀ j, 0 < j → j < n → l.getD j E ≠ l.getD (j - 1) E) → dd l n = l.take n
  | 0, _, _ => by simp [dd]
  | n + 1, h, hj => by
    rw [dd, dd_take l n (by omega) fun j h0 h1 => hj j h0 (by omega), if_pos, List.take_add_one, List.getElem?_eq_getElem (by omega), getD_get l n (by omega)]
    · rfl
    · rcases Nat.eq_zero_or_pos n with h0 | h0
      · exact .inl h0
      · exact .inr (hj n h0 (by omega))

theorem mem_dd {x : ByteArray} (l : List ByteArray) : ∀ n, n ≤ l.length → (x ∈ dd l n ↔ x ∈ l.take n)
  | 0, _ => by simp [dd]
  | n + 1, h => by
    have ih := mem_dd (x := x) l n (by omega)
    rw [dd, List.take_add_one, List.getElem?_eq_getElem (by omega), List.mem_append, List.mem_append, ih]
    simp only [Option.toList_some, List.mem_singleton]
    split
    · rw [List.mem_singleton, getD_get l n (by omega)]
    · rename_i hn
      simp only [not_or, Decidable.not_not, ne_eq] at hn
      rw [getD_get l n (by omega), getD_get l (n - 1) (by omega)] at hn
      constructor
      · rintro (h1 | h1)
        · exact .inl h1
        · cases h1
      · rintro (h1 | rfl)
        · exact .inl h1
        · left
          rw [hn.2]
          exact List.mem_iff_getElem.2 ⟨n - 1, by simp; omega, by rw [List.getElem_take]⟩

theorem strict_dd {l : List ByteArray} (h : Asc l) : ∀ n, n ≤ l.length → Strict (dd l n)
  | 0, _ => List.Pairwise.nil
  | n + 1, hn => by
    have ih := strict_dd h n (by omega)
    rw [dd]
    split
    · rename_i hc
      unfold Strict at ih ⊢
      rw [List.pairwise_append]
      refine ⟨ih, List.pairwise_singleton _ _, fun x hx y hy => ?_⟩
      rw [List.mem_singleton, getD_get l n (by omega)] at hy
      subst hy
      rw [mem_dd l n (by omega)] at hx
      obtain ⟨i, hi, rfl⟩ := List.mem_iff_getElem.1 hx
      simp only [List.length_take] at hi
      rw [List.getElem_take]
      rcases hc with rfl | hc
      · omega
      · rw [getD_get l n (by omega), getD_get l (n - 1) (by omega)] at hc
        unfold Asc at h
        have h1 := List.pairwise_iff_getElem.1 h
        have h2 : slt l[n] l[n - 1] = false := h1 (n - 1) n (by omega) (by omega) (by omega)
        have h3 : slt l[n - 1] l[n] = true := by
          cases h4 : slt l[n - 1] l[n] with
          | true => rfl
          | false => exact absurd (slt_tri h2 h4) hc
        rcases Nat.lt_or_ge i (n - 1) with h5 | h5
        · exact slt_of_le_of_lt (h1 i (n - 1) (by omega) (by omega) h5) h3
        · have : i = n - 1 := by omega
          subst this; exact h3
    · rw [List.append_nil]; exact ih

/-- Sorted, each once. -/
def mrg (l : List ByteArray) : List ByteArray := dd (sortStr l) l.length

theorem mem_mrg {x : ByteArray} {l : List ByteArray} : x ∈ mrg l ↔ x ∈ l := by
  unfold mrg
  rw [mem_dd _ _ (by rw [length_sortStr]; exact Nat.le_refl _), List.take_of_length_le (by rw [length_sortStr]; exact Nat.le_refl _)]
  exact (sortStr_perm l).mem_iff
theorem strict_mrg (l : List ByteArray) : Strict (mrg l) := strict_dd (sortStr_asc l) _ (by rw [length_sortStr]; exact Nat.le_refl _)
theorem mrg_len (l : List ByteArray) : (mrg l).length ≤ l.length := dd_len _ _

/-- One list alone is strictly ascending with these members. -/
theorem strict_unique : ∀ {l l' : List ByteArray}, Strict l → Strict l' → (∀ x, x ∈ l ↔ x ∈ l') → l = l' := by
  intro l l' h h' hm
  have nd : ∀ {l : List ByteArray}, Strict l → l.Nodup := fun {l} h => List.Pairwise.imp (fun {a b} h => slt_ne h) h
  have asc0 : ∀ {l : List ByteArray}, Strict l → Asc l := fun {l} h => List.Pairwise.imp (fun {a b} h => slt_asymm h) h
  exact asc_unique (asc0 h) (asc0 h') ((List.perm_ext_iff_of_nodup (nd h) (nd h')).2 hm)

theorem strRow_set (l : List ByteArray) (i : Nat) (v : ByteArray) : (strRow l).set i [.str v] = strRow (l.set i v) := by simp [strRow, List.map_set]
theorem strRow_rep (n : Nat) (v : ByteArray) : List.replicate n [PV.str v] = strRow (List.replicate n v) := by simp [strRow]

theorem l_cpt0 (l : List ByteArray) (hl : l.length ≤ 1000) (k0 : Nat) (hk0 : 1 ≤ k0) (hk1 : k0 < l.length) (K : Ex → St → Prop)
    (hx : ∀ (cur : List ByteArray) (k : Nat), cur.length = l.length → k ≤ l.length → cur.take k = dd l l.length → K (.exit 2) ⟨[(0, .ref 0 l.length 0 l.length), (3, .p (.int .i64 k))], [(0, .row false 1 (strRow cur))], 1, [1]⟩) :
    ∀ (m k2 : Nat), k2 + m = l.length - k0 → 1 ≤ k2 → ∀ (cur : List ByteArray) (k : Nat), cur.length = l.length → k + 1 ≤ k0 + k2 → cur.take k = dd l (k0 + k2) → (∀ j, k0 + k2 ≤ j + 1 → cur.getD j E = l.getD j E) →
    W tb a79_l0 ⟨[(0, .ref 0 l.length 0 l.length), (3, .p (.int .i64 k)), (4, .ref 0 l.length k0 (l.length - k0)), (5, .p (.int .i64 k2))], [(0, .row false 1 (strRow cur))], 1, [1]⟩ (LK tb a79_l0 K) := by
  intro m
  induction m with
  | zero =>
    intro k2 hi h1 cur k hcl hk hd hj
    have h2 : ¬ (k2 : Int) < ((l.length - k0 : Nat) : Int) := by omega
    have h3 : k0 + (l.length - k0) ≤ l.length := by omega
    refine i_code (by unfold a79_l0; exact rfl) ?_
    (try simp (disch := omega) only [go_sem, seval, reduceCtorEq, h2, h3, strRow_length, hcl])
    exact hx cur k hcl (by omega) (by rw [hd]; congr 1; omega)
  | succ m ih =>
    intro k2 hi h1 cur k hcl hk hd hj
    have h2 : (k2 : Int) < ((l.length - k0 : Nat) : Int) := by omega
    have h3 : k0 + (l.length - k0) ≤ l.length := by omega
    have h4 : (0 : Int) ≤ k2 := by omega
    have h5 : (k2 : Int) - 1 = ((k2 - 1 : Nat) : Int) := by omega
    have h6 : ((k2 - 1 : Nat) : Int) < ((l.length - k0 : Nat) : Int) := by omega
    have h7 : (0 : Int) ≤ ((k2 - 1 : Nat) : Int) := by omega
    have g0 : k0 + k2 < l.length := by omega
    have g1 : (strRow cur)[k0 + k2]? = some [.str (l.getD (k0 + k2) E)] := by
      rw [← hj (k0 + k2) (by omega), strRow_get cur _ (by omega), getD_get cur _ (by omega)]
    have g2 : (strRow cur)[k0 + (k2 - 1)]? = some [.str (l.getD (k0 + k2 - 1) E)] := by
      rw [← hj (k0 + k2 - 1) (by omega), strRow_get cur _ (by omega), getD_get cur _ (by omega)]
      congr 4; omega
    have g3 := strRow_get cur k (by omega)
    have g4 : (k : Int) < (l.length : Int) := by omega
    have g5 : (0 : Int) ≤ k := by omega
    have hdd : dd l (k0 + k2 + 1) = dd l (k0 + k2) ++ if k0 + k2 = 0 ∨ l.getD (k0 + k2) E ≠ l.getD (k0 + k2 - 1) E then [l.getD (k0 + k2) E] else [] := rfl
    refine i_code (by unfold a79_l0; exact rfl) ?_
    by_cases hc : l.getD (k0 + k2) E = l.getD (k0 + k2 - 1) E
    · have hc' : decide (l.getD (k0 + k2) E = l.getD (k0 + k2 - 1) E) = true := decide_eq_true hc
      rw [if_neg (fun h => h.elim (fun h => by omega) (fun h => h hc)), List.append_nil] at hdd
      (try simp (disch := omega) only [go_sem, seval, reduceCtorEq, h2, h3, h4, h5, h6, h7, g1, g2, hcl, strRow_length, hc'])
      refine i_lk (W_round ?_)
      exact ih (k2 + 1) (by omega) (by omega) cur k hcl (by omega) (by rw [hd, ← hdd]; rfl) (fun j h => hj j (by omega))
    · have hc' : decide (l.getD (k0 + k2) E = l.getD (k0 + k2 - 1) E) = false := decide_eq_false hc
      rw [if_pos (.inr hc)] at hdd
      (try simp (disch := omega) only [go_sem, seval, reduceCtorEq, h2, h3, h4, h5, h6, h7, g1, g2, g3, g4, g5, hcl, strRow_length, hc', strRow_set])
      refine i_lk (W_round ?_)
      refine ih (k2 + 1) (by omega) (by omega) (cur.set k (l.getD (k0 + k2) E)) (k + 1) (by simp [hcl]) (by omega) ?_ (fun j h => ?_)
      · rw [show k0 + (k2 + 1) = k0 + k2 + 1 from rfl, hdd, ← hd, List.take_add_one, List.getElem?_eq_getElem (by simp; omega), List.take_set_of_le (Nat.le_refl _)]
        simp
      · rw [← hj j (by omega), List.getD_eq_getElem?_getD, List.getElem?_set_ne (by omega), List.getD_eq_getElem?_getD]

theorem bs_compact (l : List ByteArray) (hl : l.length ≤ 1000) : ∃ q : List ByteArray × Nat, BS tb 79 [.ref 0 l.length 0 l.length] [(0, .row false 1 (strRow l))] 1 (.ref 0 l.length 0 q.2) [(0, .row false 1 (strRow q.1))] 1 ∧ q.1.length = l.length ∧ q.2 ≤ l.length ∧ q.1.take q.2 = dd l l.length := by
  refine BS_ex (ι := List ByteArray × Nat) (af := a79) rfl (r := fun q => .ref 0 l.length 0 q.2) (H' := fun q => [(0, .row false 1 (strRow q.1))]) (nx' := fun _ => 1) rfl ?_
  unfold a79
  dsimp only [initEnv]
  by_cases h0 : l.length < 2
  · have h1 : (l.length : Int) < 2 := by omega
    (try simp (disch := omega) only [go_sem, seval, reduceCtorEq, h1, strRow_length])
    have hd := (dd_take l _ (Nat.le_refl _) fun j h1 h2 => by omega).symm
    exact ⟨(l, l.length), by simp [hd]⟩
  · have h1 : ¬ (l.length : Int) < 2 := by omega
    (try simp (disch := omega) only [go_sem, seval, reduceCtorEq, h1, strRow_length])
    refine W_round ?_
    have key : ∀ (K : Ex → St → Prop), ((∀ j, 0 < j → j < l.length → l.getD j E ≠ l.getD (j - 1) E) → K (.exit 0) ⟨[(0, .ref 0 l.length 0 l.length)], [(0, .row false 1 (strRow l))], 1, [1]⟩) →
        (∀ (cur : List ByteArray) (k : Nat), cur.length = l.length → k ≤ l.length → cur.take k = dd l l.length → K .ret ⟨[(2, .ref 0 l.length 0 k)], [(0, .row false 1 (strRow cur))], 1, [1]⟩) →
        ∀ (m k : Nat), k + m = l.length → 1 ≤ k → (∀ j, 0 < j → j < k → l.getD j E ≠ l.getD (j - 1) E) →
        W tb a79_l1 ⟨[(0, .ref 0 l.length 0 l.length), (3, .p (.int .i64 k))], [(0, .row false 1 (strRow l))], 1, [1]⟩ (LK tb a79_l1 K) := by
      intro K hx hr m
      induction m with
      | zero =>
        intro k hi hk hj
        have h2 : ¬ (k : Int) < l.length := by omega
        refine i_code (by unfold a79_l1; exact rfl) ?_
        (try simp (disch := omega) only [go_sem, seval, reduceCtorEq, h2, strRow_length])
        exact hx (fun j h h' => hj j h (by omega))
      | succ m ih =>
        intro k hi hk hj
        have h2 : (k : Int) < l.length := by omega
        have h4 : (0 : Int) ≤ k := by omega
        have h5 : (k : Int) - 1 = ((k - 1 : Nat) : Int) := by omega
        have h6 : ((k - 1 : Nat) : Int) < l.length := by omega
        have h7 : (0 : Int) ≤ ((k - 1 : Nat) : Int) := by omega
        have g1 : (strRow l)[k]? = some [.str (l.getD k E)] := by rw [strRow_get l _ (by omega), getD_get l _ (by omega)]
        have g2 : (strRow l)[k - 1]? = some [.str (l.getD (k - 1) E)] := by rw [strRow_get l _ (by omega), getD_get l _ (by omega)]
        refine i_code (by unfold a79_l1; exact rfl) ?_
        by_cases hc : l.getD k E = l.getD (k - 1) E
        · have hc' : decide (l.getD k E = l.getD (k - 1) E) = true := decide_eq_true hc
          have g3 : (k : Int) ≤ l.length := by omega
          (try simp (disch := omega) only [go_sem, seval, reduceCtorEq, h2, h4, h5, h6, h7, g1, g2, g3, strRow_length, hc'])
          refine W_round ?_
          have hd0 := dd_take l k (by omega) hj
          have hdd : dd l (k + 1) = dd l k ++ if k = 0 ∨ l.getD k E ≠ l.getD (k - 1) E then [l.getD k E] else [] := rfl
          rw [if_neg (fun h => h.elim (fun h => by omega) (fun h => h hc)), List.append_nil] at hdd
          refine l_cpt0 l hl k hk (by omega) _ ?_ (l.length - k - 1) 1 (by omega) (Nat.le_refl _) l k rfl (Nat.le_refl _) (by rw [hdd, hd0]) (fun _ _ => rfl)
          intro cur k' hcl hk' hd
          have e1 : (0 : Int) ≤ k' := by omega
          have e2 : (k' : Int) ≤ l.length := by omega
          have e3 : k' + (l.length - k') ≤ l.length := by omega
          have e4 : (cur.take k' ++ List.replicate (l.length - k') E ++ cur.drop (k' + (l.length - k'))).length = l.length := by simp; omega
          (try simp (disch := omega) only [go_sem, seval, reduceCtorEq, e1, e2, e3, strRow_length, hcl, strRow_take, strRow_drop, strRow_rep, strRow_app, List.length_replicate, e4])
          refine hr _ k' e4 hk' ?_
          rw [List.append_assoc, List.take_append_of_le_length (by simp; omega), List.take_take, Nat.min_self, hd]
        · have hc' : decide (l.getD k E = l.getD (k - 1) E) = false := decide_eq_false hc
          (try simp (disch := omega) only [go_sem, seval, reduceCtorEq, h2, h4, h5, h6, h7, g1, g2, strRow_length, hc'])
          refine i_lk (W_round ?_)
          exact ih (k + 1) (by omega) (by omega) (fun j h h' => by
            rcases Nat.lt_or_ge j k with h3 | h3
            · exact hj j h h3
            · have : j = k := by omega
              subst this; exact hc)
    refine key _ ?_ ?_ (l.length - 1) 1 (by omega) (Nat.le_refl _) (fun j h h' => by omega)
    · intro hj
      (try simp (disch := omega) only [go_sem, seval, reduceCtorEq])
      have hd := (dd_take l _ (Nat.le_refl _) hj).symm
      exact ⟨(l, l.length), by simp [hd]⟩
    · intro cur k hcl hk hd
      (try simp (disch := omega) only [go_sem, seval, reduceCtorEq])
      exact ⟨(cur, k), by simp [hcl, hk, hd]⟩

/-! ### merged -/

theorem ps_merged (l : List (Bool × List ByteArray)) (b : Bool) (hl : l.length ≤ 1000) (hc : (catR l).length ≤ 1000) : PS tb 52 [.slice b (llRow l)] (.slice false (strRow (mrg (catR l)))) := by
  have h2 := bs_sort (catR l) hc [(0, .row false 1 (strRow (catR l)))] 0 1 rfl
  obtain ⟨⟨q, k⟩, h3, h4, h5, h6⟩ := bs_compact (sortStr (catR l)) (by rw [length_sortStr]; exact hc)
  simp only [length_sortStr] at h3 h4 h5 h6
  have e : k ≤ (strRow q).length := by rw [strRow_length]; omega
  refine PS_of (af := a52) rfl rfl ?_
  unfold a52
  dsimp only [List.map, ofPV, initEnv]
  repeat' (first | (simp (disch := omega) only [go_sem, seval, reduceCtorEq]) | (apply x_byref; iterate 3 (first | exact bs_concat l b hl hc _ _ | exact h2 | exact h3 | ((try simp (disch := omega) only [go_sem, seval, reduceCtorEq]) <;> with_reducible exact rfl))) | ((first | apply x_split_cond | apply x_split_guard); all_goals (intro hb; (try simp only [Bool.not_eq_true', Bool.not_eq_false'] at hb); (simp (disch := omega) only [go_sem, seval, reduceCtorEq, hb]); (try simp only [decide_eq_true_eq, decide_eq_false_iff_not, beq_iff_eq, beq_eq_false_iff_ne, ne_eq, bne_iff_ne, bne_eq_false_iff_eq, Decidable.not_not] at hb))))
  simp only [pur, dep, aget, beq_self_eq_true, if_true, strRow_length, h4, Nat.zero_add, List.drop_zero, h5, and_self, strRow_take, h6]
  rfl

end Go.Dv.Try
