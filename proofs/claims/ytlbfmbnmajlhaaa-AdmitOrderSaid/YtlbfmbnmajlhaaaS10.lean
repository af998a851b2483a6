/-
  Specifications of chapter 38, part 10: place; AdmitOrder.
-/
import Derived.Test.YtlbfmbnmajlhaaaS6
import Derived.Test.YtlbfmbnmajlhaaaS7
set_option linter.unusedVariables false
set_option linter.unusedSimpArgs false
set_option maxRecDepth 100000
set_option maxHeartbeats 4000000
namespace Go.Dv.Try
open Go Go.Dv

/-! ### place -/

def cntI (l : List Nat) (i : Nat) : Nat := l.countP fun j => decide (j = i)
theorem cntI_step (l : List Nat) (i : Nat) (j : Nat) (h : j < l.length) : cntI (l.take (j + 1)) i = cntI (l.take j) i + if l[j] = i then 1 else 0 := by
  unfold cntI
  rw [List.take_add_one, List.getElem?_eq_getElem h, List.countP_append]
  simp [List.countP_cons]
theorem cntI_le (l : List Nat) (i : Nat) : cntI l i ≤ l.length := List.countP_le_length

/-- The place noted, after a list of number k. -/
def plcP (l : List Nat) (i : Nat) (k p0 : Nat) : Nat := if 0 < cntI l i then k + 1 else p0

theorem asc_get {l : List Nat} (h : asc l) {j : Nat} (h0 : 0 < j) (hj : j < l.length) : l[j - 1] < l[j] :=
  List.pairwise_iff_getElem.1 h (j - 1) j (by omega) hj (by omega)

theorem l_pl0 (l : List Nat) (b : Bool) (ls : PV) (i k n0 p0 : Nat) (ha : asc l) (hl : l.length ≤ 1000) (hn : n0 ≤ 100000) (hk : k ≤ 100) (K : Ex → St → Prop)
    (hx : K (.exit 2) ⟨[(3, .p (.int .i64 i)), (9, .p ls), (10, .p (.int .i64 (n0 + cntI l i : Nat))), (11, .p (.int .i64 (plcP l i k p0 : Nat))), (12, .p (.int .i64 k))], [], 0, [0]⟩) : ∀ (m j : Nat), j + m = l.length →
    W tb a23_l0 ⟨[(3, .p (.int .i64 i)), (9, .p ls), (10, .p (.int .i64 (n0 + cntI (l.take j) i : Nat))), (11, .p (.int .i64 (plcP (l.take j) i k p0 : Nat))), (12, .p (.int .i64 k)), (13, .p (.slice b (nRow l))), (14, .p (.int .i64 j))], [], 0, [0]⟩ (LK tb (.ghost .lower a23_l0) K) := by
  intro m
  induction m with
  | zero =>
    intro j hj
    have h1 : ¬ (j : Int) < l.length := by omega
    rw [List.take_of_length_le (by omega)]
    refine i_code (by unfold a23_l0; exact rfl) ?_
    repeat' (first | (simp (disch := omega) only [go_sem, seval, reduceCtorEq, h1, nRow_length]) | ((first | apply x_split_cond | apply x_split_guard); all_goals (intro hb; (try simp only [Bool.not_eq_true', Bool.not_eq_false'] at hb); (simp (disch := omega) only [go_sem, seval, reduceCtorEq, h1, nRow_length, hb]); (try simp only [decide_eq_true_eq, decide_eq_false_iff_not, beq_iff_eq, beq_eq_false_iff_ne, ne_eq, bne_iff_ne, bne_eq_false_iff_eq, Decidable.not_not] at hb))))
    exact hx
  | succ m ih =>
    intro j hj
    have h1 : (j : Int) < l.length := by omega
    have h2 : j < l.length := by omega
    have h4 : (0 : Int) ≤ (j : Int) := by omega
    have h3 := nRow_get l j h2
    have h5 := cntI_step l i j h2
    have h6 := cntI_le (l.take j) i
    have h7 : (l.take j).length ≤ 1000 := by simp; omega
    have ih := ih (j + 1) (by omega)
    by_cases h0 : j = 0
    · have h8 : ¬ (0 : Int) < (j : Int) := by omega
      by_cases he : l[j] = i
      · have he' : (l[j] : Int) = (i : Int) := by omega
        rw [if_pos he] at h5
        have hp : plcP (l.take (j + 1)) i k p0 = k + 1 := by unfold plcP; rw [h5]; simp
        rw [hp, h5, ← Nat.add_assoc] at ih
        refine i_code (by unfold a23_l0; exact rfl) ?_
        repeat' (first | (simp (disch := omega) only [go_sem, seval, reduceCtorEq, h1, h4, h8, nRow_length, h3, he']) | ((first | apply x_split_cond | apply x_split_guard); all_goals (intro hb; (try simp only [Bool.not_eq_true', Bool.not_eq_false'] at hb); (simp (disch := omega) only [go_sem, seval, reduceCtorEq, h1, h4, h8, nRow_length, h3, he', hb]); (try simp only [decide_eq_true_eq, decide_eq_false_iff_not, beq_iff_eq, beq_eq_false_iff_ne, ne_eq, bne_iff_ne, bne_eq_false_iff_eq, Decidable.not_not] at hb))))
        all_goals first
          | (exfalso; omega)
          | (refine i_lk (W_round ?_)
             (try simp (disch := omega) only [go_sem, seval, reduceCtorEq])
             exact ih)
      · have he' : ¬ (l[j] : Int) = (i : Int) := by omega
        rw [if_neg he] at h5
        have hp : plcP (l.take (j + 1)) i k p0 = plcP (l.take j) i k p0 := by unfold plcP; rw [h5, Nat.add_zero]
        rw [hp, h5, Nat.add_zero] at ih
        refine i_code (by unfold a23_l0; exact rfl) ?_
        repeat' (first | (simp (disch := omega) only [go_sem, seval, reduceCtorEq, h1, h4, h8, nRow_length, h3, he']) | ((first | apply x_split_cond | apply x_split_guard); all_goals (intro hb; (try simp only [Bool.not_eq_true', Bool.not_eq_false'] at hb); (simp (disch := omega) only [go_sem, seval, reduceCtorEq, h1, h4, h8, nRow_length, h3, he', hb]); (try simp only [decide_eq_true_eq, decide_eq_false_iff_not, beq_iff_eq, beq_eq_false_iff_ne, ne_eq, bne_iff_ne, bne_eq_false_iff_eq, Decidable.not_not] at hb))))
        all_goals first
          | (exfalso; omega)
          | (refine i_lk (W_round ?_)
             (try simp (disch := omega) only [go_sem, seval, reduceCtorEq])
             exact ih)
    · have h8 : (0 : Int) < (j : Int) := by omega
      have h9 := nRow_get l (j - 1) (by omega)
      have h10 := int_pred j (by omega)
      have h11 : (0 : Int) ≤ ((j - 1 : Nat) : Int) := by omega
      have h12 : ¬ (l[j] : Int) ≤ (l[j - 1] : Int) := by have := asc_get ha (by omega) h2; omega
      by_cases he : l[j] = i
      · have he' : (l[j] : Int) = (i : Int) := by omega
        rw [if_pos he] at h5
        have hp : plcP (l.take (j + 1)) i k p0 = k + 1 := by unfold plcP; rw [h5]; simp
        rw [hp, h5, ← Nat.add_assoc] at ih
        have h12' : ¬ (i : Int) ≤ (l[j - 1] : Int) := by omega
        refine i_code (by unfold a23_l0; exact rfl) ?_
        repeat' (first | (simp (disch := omega) only [go_sem, seval, reduceCtorEq, h1, h4, h8, nRow_length, h3, he', h9, h10, h11, h12, h12']) | ((first | apply x_split_cond | apply x_split_guard); all_goals (intro hb; (try simp only [Bool.not_eq_true', Bool.not_eq_false'] at hb); (simp (disch := omega) only [go_sem, seval, reduceCtorEq, h1, h4, h8, nRow_length, h3, he', h9, h10, h11, h12, h12', hb]); (try simp only [decide_eq_true_eq, decide_eq_false_iff_not, beq_iff_eq, beq_eq_false_iff_ne, ne_eq, bne_iff_ne, bne_eq_false_iff_eq, Decidable.not_not] at hb))))
        all_goals first
          | (exfalso; omega)
          | (refine i_lk (W_round ?_)
             (try simp (disch := omega) only [go_sem, seval, reduceCtorEq])
             exact ih)
      · have he' : ¬ (l[j] : Int) = (i : Int) := by omega
        rw [if_neg he] at h5
        have hp : plcP (l.take (j + 1)) i k p0 = plcP (l.take j) i k p0 := by unfold plcP; rw [h5, Nat.add_zero]
        rw [hp, h5, Nat.add_zero] at ih
        refine i_code (by unfold a23_l0; exact rfl) ?_
        repeat' (first | (simp (disch := omega) only [go_sem, seval, reduceCtorEq, h1, h4, h8, nRow_length, h3, he', h9, h10, h11, h12]) | ((first | apply x_split_cond | apply x_split_guard); all_goals (intro hb; (try simp only [Bool.not_eq_true', Bool.not_eq_false'] at hb); (simp (disch := omega) only [go_sem, seval, reduceCtorEq, h1, h4, h8, nRow_length, h3, he', h9, h10, h11, h12, hb]); (try simp only [decide_eq_true_eq, decide_eq_false_iff_not, beq_iff_eq, beq_eq_false_iff_ne, ne_eq, bne_iff_ne, bne_eq_false_iff_eq, Decidable.not_not] at hb))))
        all_goals first
          | (exfalso; omega)
          | (refine i_lk (W_round ?_)
             (try simp (disch := omega) only [go_sem, seval, reduceCtorEq])
             exact ih)

/-- Where an index lies: 1, 2, 3. -/
def plc (a d : List Nat) (i : Nat) : Nat := if i ∈ a then 1 else if i ∈ d then 2 else 3

theorem cntI_in {l : List Nat} {i : Nat} (h : asc l) (hi : i ∈ l) : cntI l i = 1 := by
  induction l with
  | nil => cases hi
  | cons x r ih =>
    have h1 : asc r := List.Pairwise.of_cons h
    have h2 : ∀ y ∈ r, x < y := fun y hy => List.rel_of_pairwise_cons h hy
    unfold cntI
    rw [List.countP_cons]
    by_cases e : x = i
    · have : i ∉ r := fun hh => by have := h2 i hh; omega
      have h3 : List.countP (fun j => decide (j = i)) r = 0 := List.countP_eq_zero.2 fun y hy => by simp; rintro rfl; exact this hy
      simp [e, h3]
    · have : i ∈ r := by rcases List.mem_cons.1 hi with hh | hh; exact absurd hh.symm e; exact hh
      have := ih h1 this
      unfold cntI at this
      simp [e, this]
theorem cntI_out {l : List Nat} {i : Nat} (hi : i ∉ l) : cntI l i = 0 := List.countP_eq_zero.2 fun y hy => by simp; rintro rfl; exact hi hy

theorem ps_place (a d x : List Nat) (b1 b2 b3 : Bool) (i : Nat) (ha : asc a) (hd : asc d) (hx : asc x) (la : a.length ≤ 1000) (ld : d.length ≤ 1000) (lx : x.length ≤ 1000)
    (h1 : (i ∈ a ∧ i ∉ d ∧ i ∉ x) ∨ (i ∉ a ∧ i ∈ d ∧ i ∉ x) ∨ (i ∉ a ∧ i ∉ d ∧ i ∈ x)) : PS tb 23 [.slice b1 (nRow a), .slice b2 (nRow d), .slice b3 (nRow x), .int .i64 i] (.int .i64 (plc a d i)) := by
  refine PS_of (af := a23) rfl rfl ?_
  unfold a23
  dsimp only [List.map, ofPV, initEnv]
  have p1 := l_pl0 a b1 (.slice true [[.slice b1 (nRow a)], [.slice b2 (nRow d)], [.slice b3 (nRow x)]]) i 0 0 0 ha la (by omega) (by omega)
  have p2 := l_pl0 d b2 (.slice true [[.slice b1 (nRow a)], [.slice b2 (nRow d)], [.slice b3 (nRow x)]]) i 1 (cntI a i) (plcP a i 0 0) hd ld (by have := cntI_le a i; omega) (by omega)
  have p3 := l_pl0 x b3 (.slice true [[.slice b1 (nRow a)], [.slice b2 (nRow d)], [.slice b3 (nRow x)]]) i 2 (cntI a i + cntI d i) (plcP d i 1 (plcP a i 0 0)) hx lx (by have := cntI_le a i; have := cntI_le d i; omega) (by omega)
  have hn : cntI a i + cntI d i + cntI x i = 1 := by
    rcases h1 with ⟨h1, h2, h3⟩ | ⟨h1, h2, h3⟩ | ⟨h1, h2, h3⟩
    · rw [cntI_in ha h1, cntI_out h2, cntI_out h3]
    · rw [cntI_out h1, cntI_in hd h2, cntI_out h3]
    · rw [cntI_out h1, cntI_out h2, cntI_in hx h3]
  have hp : plcP x i 2 (plcP d i 1 (plcP a i 0 0)) = plc a d i := by
    unfold plcP plc
    rcases h1 with ⟨h1, h2, h3⟩ | ⟨h1, h2, h3⟩ | ⟨h1, h2, h3⟩
    · rw [cntI_in ha h1, cntI_out h2, cntI_out h3]; simp [h1]
    · rw [cntI_out h1, cntI_in hd h2, cntI_out h3]; simp [h1, h2]
    · rw [cntI_out h1, cntI_out h2, cntI_in hx h3]; simp [h1, h2]
  have q1 : ((1 : Nat) : Int) = 1 := rfl
  rw [hp, hn] at p3
  repeat' (first | (simp (disch := omega) only [go_sem, seval, reduceCtorEq]) | ((first | apply x_split_cond | apply x_split_guard); all_goals (intro hb; (try simp only [Bool.not_eq_true', Bool.not_eq_false'] at hb); (simp (disch := omega) only [go_sem, seval, reduceCtorEq, hb]); (try simp only [decide_eq_true_eq, decide_eq_false_iff_not, beq_iff_eq, beq_eq_false_iff_ne, ne_eq, bne_iff_ne, bne_eq_false_iff_eq, Decidable.not_not] at hb))))
  refine W_round ?_
  (try simp (disch := omega) only [go_sem, seval, reduceCtorEq])
  refine i_code (by unfold a23_l1; exact rfl) ?_
  repeat' (first | (simp (disch := omega) only [go_sem, seval, reduceCtorEq]) | ((first | apply x_split_cond | apply x_split_guard); all_goals (intro hb; (try simp only [Bool.not_eq_true', Bool.not_eq_false'] at hb); (simp (disch := omega) only [go_sem, seval, reduceCtorEq, hb]); (try simp only [decide_eq_true_eq, decide_eq_false_iff_not, beq_iff_eq, beq_eq_false_iff_ne, ne_eq, bne_iff_ne, bne_eq_false_iff_eq, Decidable.not_not] at hb))))
  refine W_round ?_
  (try simp (disch := omega) only [go_sem, seval, reduceCtorEq])
  refine p1 _ ?_ a.length 0 (by omega)
  (try simp (disch := omega) only [go_sem, seval, reduceCtorEq])
  refine i_lk (W_round ?_)
  (try simp (disch := omega) only [go_sem, seval, reduceCtorEq])
  refine i_code (by unfold a23_l1; exact rfl) ?_
  repeat' (first | (simp (disch := omega) only [go_sem, seval, reduceCtorEq]) | ((first | apply x_split_cond | apply x_split_guard); all_goals (intro hb; (try simp only [Bool.not_eq_true', Bool.not_eq_false'] at hb); (simp (disch := omega) only [go_sem, seval, reduceCtorEq, hb]); (try simp only [decide_eq_true_eq, decide_eq_false_iff_not, beq_iff_eq, beq_eq_false_iff_ne, ne_eq, bne_iff_ne, bne_eq_false_iff_eq, Decidable.not_not] at hb))))
  refine W_round ?_
  (try simp (disch := omega) only [go_sem, seval, reduceCtorEq])
  refine p2 _ ?_ d.length 0 (by omega)
  (try simp (disch := omega) only [go_sem, seval, reduceCtorEq])
  refine i_lk (W_round ?_)
  (try simp (disch := omega) only [go_sem, seval, reduceCtorEq])
  refine i_code (by unfold a23_l1; exact rfl) ?_
  repeat' (first | (simp (disch := omega) only [go_sem, seval, reduceCtorEq]) | ((first | apply x_split_cond | apply x_split_guard); all_goals (intro hb; (try simp only [Bool.not_eq_true', Bool.not_eq_false'] at hb); (simp (disch := omega) only [go_sem, seval, reduceCtorEq, hb]); (try simp only [decide_eq_true_eq, decide_eq_false_iff_not, beq_iff_eq, beq_eq_false_iff_ne, ne_eq, bne_iff_ne, bne_eq_false_iff_eq, Decidable.not_not] at hb))))
  refine W_round ?_
  (try simp (disch := omega) only [go_sem, seval, reduceCtorEq])
  refine p3 _ ?_ x.length 0 (by omega)
  (try simp (disch := omega) only [go_sem, seval, reduceCtorEq])
  refine i_lk (W_round ?_)
  (try simp (disch := omega) only [go_sem, seval, reduceCtorEq])
  refine i_code (by unfold a23_l1; exact rfl) ?_
  repeat' (first | (simp (disch := omega) only [go_sem, seval, reduceCtorEq, q1]) | ((first | apply x_split_cond | apply x_split_guard); all_goals (intro hb; (try simp only [Bool.not_eq_true', Bool.not_eq_false'] at hb); (simp (disch := omega) only [go_sem, seval, reduceCtorEq, q1, hb]); (try simp only [decide_eq_true_eq, decide_eq_false_iff_not, beq_iff_eq, beq_eq_false_iff_ne, ne_eq, bne_iff_ne, bne_eq_false_iff_eq, Decidable.not_not] at hb))))

/-! ### AdmitOrder -/

theorem plc_in {q : Qt} {qu : List Rq} {p : Int} {n : Nat} {s : Sl} (h : Ord q qu p n s) {i : Nat} (hi : i < n) : (plc s.a s.d i = 1 ∧ i ∈ s.a) ∨ (plc s.a s.d i = 2 ∧ i ∈ s.d) ∨ (plc s.a s.d i = 3 ∧ i ∈ s.x) := by
  unfold plc
  rcases h.one i hi with ⟨h1, h2, h3⟩ | ⟨h1, h2, h3⟩ | ⟨h1, h2, h3⟩
  · left; simp [h1]
  · right; left; simp [h1, h2]
  · right; right; simp [h1, h2, h3]

/-- Of two of one client the earlier is not placed behind the later. -/
theorem plc_le {q : Qt} {qu : List Rq} {p : Int} {n : Nat} {s : Sl} (h : Ord q qu p n s) {k i : Nat} (hk : k < i) (hi : i < n) (e : (qu.getD k R0).c = (qu.getD i R0).c) : plc s.a s.d k ≤ plc s.a s.d i := by
  rcases plc_in h (by omega : k < n) with ⟨a1, a2⟩ | ⟨a1, a2⟩ | ⟨a1, a2⟩ <;> rcases plc_in h hi with ⟨b1, b2⟩ | ⟨b1, b2⟩ | ⟨b1, b2⟩ <;> rw [a1, b1] <;> first | omega | skip
  · have := h.dn k i a2 b2 e; omega
  · have := h.xn k i a2 (.inl b2) e; omega
  · have := h.xn k i a2 (.inr b2) e; omega

theorem l_ord0 (q : Qt) (hot : List ByteArray) (qu : List Rq) (fs : List Ft) (p : Int) (s : Sl) (iv : Inv fs qu.length s) (ho : Ord q qu p qu.length s) (hl : qu.length ≤ 1000) (i : Nat) (hi : i < qu.length) (K : Ex → St → Prop)
    (hx : K (.exit 2) ⟨[(1, .ptr 0 0), (3, .p (.slice false (nRow s.a))), (4, .p (.slice false (nRow s.d))), (5, .p (.slice false (nRow s.x))), (7, .p (.int .i64 i))], [(0, .var false [.p (.int .i64 q.b), .p (.int .i64 q.c), .p (.int .i64 q.k), .p (.int .i64 q.q), .p (.slice false (strRow hot)), .p (.slice false (rqRow qu)), .p (.slice false (ftRow fs)), .p (.int .i64 p)])], 1, [0]⟩) : ∀ (m k : Nat), k + m = i →
    W tb a4_l0 ⟨[(1, .ptr 0 0), (3, .p (.slice false (nRow s.a))), (4, .p (.slice false (nRow s.d))), (5, .p (.slice false (nRow s.x))), (7, .p (.int .i64 i)), (8, .p (.int .i64 (plc s.a s.d i))), (9, .p (.int .i64 k))], [(0, .var false [.p (.int .i64 q.b), .p (.int .i64 q.c), .p (.int .i64 q.k), .p (.int .i64 q.q), .p (.slice false (strRow hot)), .p (.slice false (rqRow qu)), .p (.slice false (ftRow fs)), .p (.int .i64 p)])], 1, [0]⟩ (LK tb (.ghost .lower a4_l0) K) := by
  intro m
  induction m with
  | zero =>
    intro k hk
    obtain rfl : k = i := by omega
    have h1 : ¬ (k : Int) < (k : Int) := by omega
    refine i_code (by unfold a4_l0; exact rfl) ?_
    repeat' (first | (simp (disch := omega) only [go_sem, seval, reduceCtorEq, h1]) | ((first | apply x_split_cond | apply x_split_guard); all_goals (intro hb; (try simp only [Bool.not_eq_true', Bool.not_eq_false'] at hb); (simp (disch := omega) only [go_sem, seval, reduceCtorEq, h1, hb]); (try simp only [decide_eq_true_eq, decide_eq_false_iff_not, beq_iff_eq, beq_eq_false_iff_ne, ne_eq, bne_iff_ne, bne_eq_false_iff_eq, Decidable.not_not] at hb))))
    exact hx
  | succ m ih =>
    intro k hk
    have h1 : (k : Int) < (i : Int) := by omega
    have h2 : k < qu.length := by omega
    have h4 : (0 : Int) ≤ (k : Int) := by omega
    have h4' : (0 : Int) ≤ (i : Int) := by omega
    have h3 := rqRow_get qu k h2
    have h3' := rqRow_get qu i hi
    have s1 := ps_place s.a s.d s.x false false false k ho.a ho.d ho.x (by have := iv.a.2; omega) (by have := iv.d.2; omega) (by have := iv.x.2; omega) (ho.one k h2)
    have e1 := getR_get qu k h2
    have e2 := getR_get qu i hi
    have hle : qu[k].c = qu[i].c → ¬ (plc s.a s.d i : Int) < (plc s.a s.d k : Int) := fun e => by
      have := plc_le ho (k := k) (i := i) (by omega) hi (by rw [e1, e2, e])
      omega
    have ih := ih (k + 1) (by omega)
    dsimp only [rqC] at h3 h3'
    refine i_code (by unfold a4_l0; exact rfl) ?_
    by_cases he : qu[k].c = qu[i].c
    · have hn := hle he
      repeat' (first | (simp (disch := omega) only [go_sem, seval, reduceCtorEq, h1, h4, h4', rqRow_length, h3, h3', he, hn]) | (apply x_pure; iterate 5 (first | exact s1 | ((try simp (disch := omega) only [go_sem, seval, reduceCtorEq, h1, h4, h4', rqRow_length, h3, h3', he, hn]) <;> with_reducible exact rfl))) | ((first | apply x_split_cond | apply x_split_guard); all_goals (intro hb; (try simp only [Bool.not_eq_true', Bool.not_eq_false'] at hb); (simp (disch := omega) only [go_sem, seval, reduceCtorEq, h1, h4, h4', rqRow_length, h3, h3', he, hn, hb]); (try simp only [decide_eq_true_eq, decide_eq_false_iff_not, beq_iff_eq, beq_eq_false_iff_ne, ne_eq, bne_iff_ne, bne_eq_false_iff_eq, Decidable.not_not] at hb))))
      refine i_lk (W_round ?_)
      (try simp (disch := omega) only [go_sem, seval, reduceCtorEq])
      exact ih
    · repeat' (first | (simp (disch := omega) only [go_sem, seval, reduceCtorEq, h1, h4, h4', rqRow_length, h3, h3', he]) | (apply x_pure; iterate 5 (first | exact s1 | ((try simp (disch := omega) only [go_sem, seval, reduceCtorEq, h1, h4, h4', rqRow_length, h3, h3', he]) <;> with_reducible exact rfl))) | ((first | apply x_split_cond | apply x_split_guard); all_goals (intro hb; (try simp only [Bool.not_eq_true', Bool.not_eq_false'] at hb); (simp (disch := omega) only [go_sem, seval, reduceCtorEq, h1, h4, h4', rqRow_length, h3, h3', he, hb]); (try simp only [decide_eq_true_eq, decide_eq_false_iff_not, beq_iff_eq, beq_eq_false_iff_ne, ne_eq, bne_iff_ne, bne_eq_false_iff_eq, Decidable.not_not] at hb))))
      all_goals first
        | (exfalso; omega)
        | (refine i_lk (W_round ?_)
           (try simp (disch := omega) only [go_sem, seval, reduceCtorEq])
           exact ih)

theorem l_ord1 (q : Qt) (hot : List ByteArray) (qu : List Rq) (fs : List Ft) (p : Int) (s : Sl) (iv : Inv fs qu.length s) (ho : Ord q qu p qu.length s) (hl : qu.length ≤ 1000) (K : Ex → St → Prop)
    (hx : K (.exit 0) ⟨[], [], 0, [0]⟩) : ∀ (m i : Nat), i + m = qu.length →
    W tb a4_l1 ⟨[(1, .ptr 0 0), (3, .p (.slice false (nRow s.a))), (4, .p (.slice false (nRow s.d))), (5, .p (.slice false (nRow s.x))), (7, .p (.int .i64 i))], [(0, .var false [.p (.int .i64 q.b), .p (.int .i64 q.c), .p (.int .i64 q.k), .p (.int .i64 q.q), .p (.slice false (strRow hot)), .p (.slice false (rqRow qu)), .p (.slice false (ftRow fs)), .p (.int .i64 p)])], 1, [0]⟩ (LK tb (.ghost .lower a4_l1) K) := by
  intro m
  induction m with
  | zero =>
    intro i hi
    have h1 : ¬ (i : Int) < qu.length := by omega
    refine i_code (by unfold a4_l1; exact rfl) ?_
    repeat' (first | (simp (disch := omega) only [go_sem, seval, reduceCtorEq, h1, rqRow_length]) | ((first | apply x_split_cond | apply x_split_guard); all_goals (intro hb; (try simp only [Bool.not_eq_true', Bool.not_eq_false'] at hb); (simp (disch := omega) only [go_sem, seval, reduceCtorEq, h1, rqRow_length, hb]); (try simp only [decide_eq_true_eq, decide_eq_false_iff_not, beq_iff_eq, beq_eq_false_iff_ne, ne_eq, bne_iff_ne, bne_eq_false_iff_eq, Decidable.not_not] at hb))))
    exact hx
  | succ m ih =>
    intro i hi
    have h1 : (i : Int) < qu.length := by omega
    have h2 : i < qu.length := by omega
    have h4 : (0 : Int) ≤ (i : Int) := by omega
    have s1 := ps_place s.a s.d s.x false false false i ho.a ho.d ho.x (by have := iv.a.2; omega) (by have := iv.d.2; omega) (by have := iv.x.2; omega) (ho.one i h2)
    have in0 := l_ord0 q hot qu fs p s iv ho hl i h2
    have ih := ih (i + 1) (by omega)
    have pr : plc s.a s.d i ≠ 0 ∧ (plc s.a s.d i = 3 → p ≤ (i : Int)) ∧ (i = 0 → plc s.a s.d i = 1) := by
      refine ⟨?_, fun h3 => ?_, fun h0 => ?_⟩
      · rcases plc_in ho h2 with ⟨a1, _⟩ | ⟨a1, _⟩ | ⟨a1, _⟩ <;> omega
      · rcases plc_in ho h2 with ⟨a1, _⟩ | ⟨a1, _⟩ | ⟨_, a2⟩
        · omega
        · omega
        · exact ho.fresh i a2
      · subst h0
        have := ho.zero (by omega)
        unfold plc
        rw [if_pos this]
    refine i_code (by unfold a4_l1; exact rfl) ?_
    generalize hpl : plc s.a s.d i = pl at s1 in0 pr
    repeat' (first | (simp (disch := omega) only [go_sem, seval, reduceCtorEq, h1, rqRow_length]) | (apply x_pure; iterate 5 (first | exact s1 | ((try simp (disch := omega) only [go_sem, seval, reduceCtorEq, h1, rqRow_length]) <;> with_reducible exact rfl))) | ((first | apply x_split_cond | apply x_split_guard); all_goals (intro hb; (try simp only [Bool.not_eq_true', Bool.not_eq_false'] at hb); (simp (disch := omega) only [go_sem, seval, reduceCtorEq, h1, rqRow_length, hb]); (try simp only [decide_eq_true_eq, decide_eq_false_iff_not, beq_iff_eq, beq_eq_false_iff_ne, ne_eq, bne_iff_ne, bne_eq_false_iff_eq, Decidable.not_not] at hb))))
    all_goals first
      | (exfalso; omega)
      | (refine W_round ?_
         (try simp (disch := omega) only [go_sem, seval, reduceCtorEq])
         refine in0 _ ?_ i 0 (by omega)
         (try simp (disch := omega) only [go_sem, seval, reduceCtorEq])
         refine i_lk (W_round ?_)
         (try simp (disch := omega) only [go_sem, seval, reduceCtorEq])
         exact ih)

theorem walkAdmitOrder {u : List PV} (h : Fits [.int .i64, .int .i64, .int .i64, .int .i64, .slice [.str], .slice rqSh, .slice [.bool, .slice [.str], .slice [.str]], .int .i64] u) : PS tb 4 [.agg u] (.bool true) := by
  obtain ⟨q, hot, qu, fs, p, rfl, _⟩ := fit_op h
  have s1 := ps_lfew38 q hot qu fs p
  refine PS_of (af := a4) rfl rfl ?_
  unfold a4
  cases hf : few38 hot qu.length fs with
  | false =>
    rw [hf] at s1
    dsimp only [List.map, ofPV, opC, initEnv] at s1 ⊢
    repeat' (first | (simp (disch := omega) only [go_sem, seval, reduceCtorEq]) | (apply x_pure; iterate 5 (first | exact s1 | exact ps_lives38 | ((try simp (disch := omega) only [go_sem, seval, reduceCtorEq]) <;> with_reducible exact rfl))) | ((first | apply x_split_cond | apply x_split_guard); all_goals (intro hb; (try simp only [Bool.not_eq_true', Bool.not_eq_false'] at hb); (simp (disch := omega) only [go_sem, seval, reduceCtorEq, hb]); (try simp only [decide_eq_true_eq, decide_eq_false_iff_not, beq_iff_eq, beq_eq_false_iff_ne, ne_eq, bne_iff_ne, bne_eq_false_iff_eq, Decidable.not_not] at hb))))
  | true =>
    rw [hf] at s1
    obtain ⟨k1, k2, k3, k4⟩ := few38_ok hf
    have s2 := ps_fsel q hot false qu false fs false p (by omega) (by omega) k4
    by_cases hb : badS q qu.length fs.length p
    · simp only [selR, if_pos hb] at s2
      dsimp only [List.map, ofPV, opC, qC, initEnv] at s1 s2 ⊢
      repeat' (first | (simp (disch := omega) only [go_sem, seval, reduceCtorEq]) | (apply x_pure; iterate 5 (first | exact s1 | exact s2 | exact ps_lives38 | ((try simp (disch := omega) only [go_sem, seval, reduceCtorEq]) <;> with_reducible exact rfl))) | ((first | apply x_split_cond | apply x_split_guard); all_goals (intro hb; (try simp only [Bool.not_eq_true', Bool.not_eq_false'] at hb); (simp (disch := omega) only [go_sem, seval, reduceCtorEq, hb]); (try simp only [decide_eq_true_eq, decide_eq_false_iff_not, beq_iff_eq, beq_eq_false_iff_ne, ne_eq, bne_iff_ne, bne_eq_false_iff_eq, Decidable.not_not] at hb))))
    · have hfs : fs.length = qu.length := by unfold badS at hb; omega
      have hv : vq q = true := by
        cases hv : vq q with
        | true => rfl
        | false => exact absurd (.inl hv) hb
      have ho := ord_sel (q := q) (hot := hot) (qu := qu) (fs := fs) (p := p) hv (i := qu.length) (by omega)
      have iv := inv_sel (q := q) (hot := hot) (qu := qu) (fs := fs) (p := p) (i := qu.length) (by omega)
      simp only [selR, if_neg hb] at s2
      generalize selN q hot qu fs p qu.length = s at s2 ho iv
      have hlen := ho.len
      have l1 := iv.a.2
      have l2 := iv.d.2
      have l3 := iv.x.2
      have e1 : (s.a.length : Int) + (s.d.length : Int) = ((s.a.length + s.d.length : Nat) : Int) := by omega
      have e2 : ((s.a.length + s.d.length : Nat) : Int) + (s.x.length : Int) = (qu.length : Int) := by omega
      dsimp only [List.map, ofPV, opC, qC, initEnv] at s1 s2 ⊢
      repeat' (first | (simp (disch := omega) only [go_sem, seval, reduceCtorEq, nRow_length, rqRow_length, e1, e2]) | (apply x_pure; iterate 5 (first | exact s1 | exact s2 | exact ps_lives38 | ((try simp (disch := omega) only [go_sem, seval, reduceCtorEq, nRow_length, rqRow_length, e1, e2]) <;> with_reducible exact rfl))) | ((first | apply x_split_cond | apply x_split_guard); all_goals (intro hb; (try simp only [Bool.not_eq_true', Bool.not_eq_false'] at hb); (simp (disch := omega) only [go_sem, seval, reduceCtorEq, nRow_length, rqRow_length, e1, e2, hb]); (try simp only [decide_eq_true_eq, decide_eq_false_iff_not, beq_iff_eq, beq_eq_false_iff_ne, ne_eq, bne_iff_ne, bne_eq_false_iff_eq, Decidable.not_not] at hb))))
      refine W_round ?_
      (try simp (disch := omega) only [go_sem, seval, reduceCtorEq])
      refine l_ord1 q hot qu fs p s iv ho (by omega) _ ?_ qu.length 0 (by omega)
      repeat' (first | (simp (disch := omega) only [go_sem, seval, reduceCtorEq]) | (apply x_pure; iterate 5 (first | exact ps_lives38 | ((try simp (disch := omega) only [go_sem, seval, reduceCtorEq]) <;> with_reducible exact rfl))) | ((first | apply x_split_cond | apply x_split_guard); all_goals (intro hb; (try simp only [Bool.not_eq_true', Bool.not_eq_false'] at hb); (simp (disch := omega) only [go_sem, seval, reduceCtorEq, hb]); (try simp only [decide_eq_true_eq, decide_eq_false_iff_not, beq_iff_eq, beq_eq_false_iff_ne, ne_eq, bne_iff_ne, bne_eq_false_iff_eq, Decidable.not_not] at hb))))

end Go.Dv.Try
