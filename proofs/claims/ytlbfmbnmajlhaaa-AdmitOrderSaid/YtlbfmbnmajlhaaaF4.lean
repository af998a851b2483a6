/-
  Specifications, part 4: lists in order, as specified: insertion, unions, projections.
-/
import Derived.Test.YtlbfmbnmajlhaaaF3
set_option linter.unusedVariables false
set_option linter.unusedSimpArgs false
set_option maxRecDepth 100000
set_option maxHeartbeats 1000000
namespace Go.Dv.Try
open Go Go.Dv

theorem strRow_app (a b : List ByteArray) : strRow a ++ strRow b = strRow (a ++ b) := (strRow_append a b).symm
theorem strRow_one (x : ByteArray) : [[PV.str x]] = strRow [x] := rfl
/-- A pure call's answer, one of several forms, by a walk of the body. -/
theorem PS_ex {T : Tab} {f : FuncId} {af : AFunc} (hA : T.A f = some af) {args : List PV} {ι : Type} {r : ι → PV} (hl : args.length = af.nparams)
    (h : W T af.body { env := initEnv 0 (args.map ofPV), heap := [], next := 0, marks := [0] } (Done af.results fun v s => ∃ i, pur s.heap dep v = some (r i))) : ∃ i, PS T f args (r i) := by
  obtain ⟨e, s', h1, hd⟩ := W_sound _ _ _ h
  unfold Done at hd
  obtain ⟨he, v, hv, i, hp⟩ := hd
  obtain ⟨n, hn⟩ := h1.at
  refine ⟨i, n + 1, ?_⟩
  rw [cfs]
  simp only [hA]
  have hx := dcode_le (CallF.le.refl (cfs T.A T.X n)) (Nat.le_succ n) _ _ _ (hn n (Nat.le_refl _))
  unfold prun drun
  rw [if_pos (by simpa using hl), hx]
  rcases he with rfl | rfl <;> simp only [hv, hp]

theorem maxB (n : Nat) (h : n ≤ 140737488355328) : (n ≤ maxBytes) = True := by simp [maxBytes, h]
theorem takeApp {α : Type} (a b : List α) : (a ++ b).take (a.length + b.length) = a ++ b := List.take_of_length_le (by simp)
theorem takeAll {α : Type} (a : List α) : a.take a.length = a := List.take_of_length_le (by simp)
theorem dropAll {α : Type} (a : List α) : a.drop a.length = [] := by simp
theorem toNat_sub' (n : Nat) : ((n : Int)).toNat = n := by simp

/-! ### insertion -/

/-- How many at the head are ahead of k. -/
def pos (k : ByteArray) : List ByteArray → Nat
  | [] => 0
  | x :: r => if slt x k then pos k r + 1 else 0

theorem pos_le (k : ByteArray) : ∀ l, pos k l ≤ l.length
  | [] => Nat.le_refl _
  | x :: r => by
    unfold pos
    split
    · simp only [List.length_cons]; have := pos_le k r; omega
    · exact Nat.zero_le _

theorem pos_lt (k : ByteArray) : ∀ (l : List ByteArray) (i : Nat), i < pos k l → slt (l.getD i E) k = true
  | [], i, h => by simp [pos] at h
  | x :: r, i, h => by
    unfold pos at h
    split at h
    · rename_i hx
      cases i with
      | zero => simpa using hx
      | succ i => simpa using pos_lt k r i (by omega)
    · omega

theorem pos_at (k : ByteArray) : ∀ (l : List ByteArray), pos k l < l.length → slt (l.getD (pos k l) E) k = false
  | [], h => by simp at h
  | x :: r, h => by
    unfold pos at h ⊢
    split
    · rename_i hx
      rw [if_pos hx] at h
      simp only [List.length_cons] at h
      simpa using pos_at k r (by omega)
    · rename_i hx
      simpa using hx

/-- k put into an ascending list. -/
def ins (k : ByteArray) (l : List ByteArray) : List ByteArray := if pos k l < l.length ∧ l.getD (pos k l) E = k then l else l.take (pos k l) ++ [k] ++ l.drop (pos k l)

theorem mem_ins {k x : ByteArray} {l : List ByteArray} : x ∈ ins k l ↔ x = k ∨ x ∈ l := by
  unfold ins
  split
  · rename_i h
    have hk : k ∈ l := by
      have := h.2
      rw [getD_get l _ h.1] at this
      rw [← this]; exact List.getElem_mem h.1
    constructor
    · exact .inr
    · rintro (rfl | h')
      · exact hk
      · exact h'
  · constructor
    · intro h
      simp only [List.mem_append, List.mem_singleton] at h
      rcases h with (h | h) | h
      · exact .inr (List.mem_of_mem_take h)
      · exact .inl h
      · exact .inr (List.mem_of_mem_drop h)
    · rintro (rfl | h)
      · simp
      · rw [← List.take_append_drop (pos k l) l] at h
        simp only [List.mem_append, List.mem_singleton]
        rcases List.mem_append.1 h with h | h
        · exact .inl (.inl h)
        · exact .inr h

theorem ins_length (k : ByteArray) (l : List ByteArray) : (ins k l).length ≤ l.length + 1 := by
  unfold ins
  split
  · omega
  · have := pos_le k l
    simp; omega

theorem strict_ins {k : ByteArray} {l : List ByteArray} (h : Strict l) : Strict (ins k l) := by
  unfold ins
  split
  · exact h
  · rename_i hn
    have hle := pos_le k l
    have h0 := h
    unfold Strict at h0 ⊢
    rw [List.append_assoc, List.pairwise_append]
    refine ⟨h0.sublist (List.take_sublist _ _), ?_, ?_⟩
    · rw [List.singleton_append, List.pairwise_cons]
      refine ⟨fun y hy => ?_, h0.sublist (List.drop_sublist _ _)⟩
      obtain ⟨i, hi, rfl⟩ := List.mem_iff_getElem.1 hy
      simp only [List.length_drop] at hi
      have hp : pos k l < l.length := by omega
      have h1 := pos_at k l hp
      rw [getD_get l _ hp] at h1
      have h2 : l[pos k l] ≠ k := fun e => hn ⟨hp, by rw [getD_get l _ hp]; exact e⟩
      have h3 : slt k l[pos k l] = true := by
        cases h4 : slt k l[pos k l] with
        | true => rfl
        | false => exact absurd (slt_tri h1 h4) h2
      rw [List.getElem_drop]
      rcases Nat.eq_zero_or_pos i with rfl | hi0
      · simpa using h3
      · exact slt_trans h3 ((List.pairwise_iff_getElem.1 h0) _ _ hp (by omega) (by omega))
    · intro x hx y hy
      obtain ⟨i, hi, rfl⟩ := List.mem_iff_getElem.1 hx
      simp only [List.length_take] at hi
      have hil : i < l.length := by omega
      have h1 := pos_lt k l i (by omega)
      rw [getD_get l i hil] at h1
      rw [List.getElem_take]
      rw [List.singleton_append] at hy
      rcases List.mem_cons.1 hy with rfl | hy
      · exact h1
      · obtain ⟨j, hj, rfl⟩ := List.mem_iff_getElem.1 hy
        simp only [List.length_drop] at hj
        rw [List.getElem_drop]
        exact (List.pairwise_iff_getElem.1 h0) _ _ hil (by omega) (by omega)

theorem l_ins (l : List ByteArray) (k : ByteArray) (b : Bool) (hl : l.length ≤ 1000) (K : Ex → St → Prop) (hx : K (.exit 0) ⟨[(0, .p (.slice b (strRow l))), (1, .p (.str k)), (5, .p (.int .i64 (pos k l)))], [], 0, [0]⟩) : ∀ (m i : Nat), i + m = pos k l →
    W tb a80_l0 ⟨[(0, .p (.slice b (strRow l))), (1, .p (.str k)), (5, .p (.int .i64 i))], [], 0, [0]⟩ (LK tb (.ghost .lower a80_l0) K) := by
  have hle := pos_le k l
  intro m
  induction m with
  | zero =>
    intro i hi
    obtain rfl : i = pos k l := by omega
    by_cases h1 : pos k l < l.length
    · have h2 : ((pos k l : Nat) : Int) < l.length := by omega
      have h3 := strRow_get l _ h1
      have h4 : (0 : Int) ≤ ((pos k l : Nat) : Int) := by omega
      have h5 := pos_at k l h1
      rw [getD_get l _ h1] at h5
      refine i_code (by unfold a80_l0; exact rfl) ?_
      repeat' (first | (simp (disch := omega) only [go_sem, seval, reduceCtorEq, h2, h3, h4, h5, strRow_length]) | ((first | apply x_split_cond | apply x_split_guard); all_goals (intro hb; (try simp only [Bool.not_eq_true', Bool.not_eq_false'] at hb); (simp (disch := omega) only [go_sem, seval, reduceCtorEq, h2, h3, h4, h5, strRow_length, hb]); (try simp only [decide_eq_true_eq, decide_eq_false_iff_not, beq_iff_eq, beq_eq_false_iff_ne, ne_eq, bne_iff_ne, bne_eq_false_iff_eq, Decidable.not_not] at hb))))
      exact hx
    · have h2 : ¬ ((pos k l : Nat) : Int) < l.length := by omega
      refine i_code (by unfold a80_l0; exact rfl) ?_
      repeat' (first | (simp (disch := omega) only [go_sem, seval, reduceCtorEq, h2, strRow_length]) | ((first | apply x_split_cond | apply x_split_guard); all_goals (intro hb; (try simp only [Bool.not_eq_true', Bool.not_eq_false'] at hb); (simp (disch := omega) only [go_sem, seval, reduceCtorEq, h2, strRow_length, hb]); (try simp only [decide_eq_true_eq, decide_eq_false_iff_not, beq_iff_eq, beq_eq_false_iff_ne, ne_eq, bne_iff_ne, bne_eq_false_iff_eq, Decidable.not_not] at hb))))
      exact hx
  | succ m ih =>
    intro i hi
    have h1 : i < l.length := by omega
    have h2 : (i : Int) < l.length := by omega
    have h3 := strRow_get l _ h1
    have h4 : (0 : Int) ≤ i := by omega
    have h5 := pos_lt k l i (by omega)
    rw [getD_get l _ h1] at h5
    refine i_code (by unfold a80_l0; exact rfl) ?_
    repeat' (first | (simp (disch := omega) only [go_sem, seval, reduceCtorEq, h2, h3, h4, h5, strRow_length]) | ((first | apply x_split_cond | apply x_split_guard); all_goals (intro hb; (try simp only [Bool.not_eq_true', Bool.not_eq_false'] at hb); (simp (disch := omega) only [go_sem, seval, reduceCtorEq, h2, h3, h4, h5, strRow_length, hb]); (try simp only [decide_eq_true_eq, decide_eq_false_iff_not, beq_iff_eq, beq_eq_false_iff_ne, ne_eq, bne_iff_ne, bne_eq_false_iff_eq, Decidable.not_not] at hb))))
    refine i_lk (W_round ?_)
    (try simp (disch := omega) only [go_sem, seval, reduceCtorEq])
    exact ih (i + 1) (by omega)

theorem ps_ins (l : List ByteArray) (k : ByteArray) (b : Bool) (hl : l.length ≤ 1000) : ∃ b', PS tb 80 [.slice b (strRow l), .str k] (.slice b' (strRow (ins k l))) := by
  have hle := pos_le k l
  by_cases h : pos k l < l.length ∧ l.getD (pos k l) E = k
  · refine ⟨b, ?_⟩
    refine PS_of (af := a80) rfl rfl ?_
    unfold a80
    dsimp only [List.map, ofPV, initEnv]
    (try simp (disch := omega) only [go_sem, seval, reduceCtorEq])
    refine W_round ?_
    (try simp (disch := omega) only [go_sem, seval, reduceCtorEq])
    refine l_ins l k b hl _ ?_ (pos k l) 0 (by omega)
    have h2 : ((pos k l : Nat) : Int) < l.length := by omega
    have h3 := strRow_get l _ h.1
    have h4 : (0 : Int) ≤ ((pos k l : Nat) : Int) := by omega
    have h5 := h.2
    rw [getD_get l _ h.1] at h5
    (try simp (disch := omega) only [go_sem, seval, reduceCtorEq, h2, h3, h4, h5, strRow_length])
    rw [ins, if_pos h]
  · refine ⟨false, ?_⟩
    refine PS_of (af := a80) rfl rfl ?_
    unfold a80
    dsimp only [List.map, ofPV, initEnv]
    (try simp (disch := omega) only [go_sem, seval, reduceCtorEq])
    refine W_round ?_
    (try simp (disch := omega) only [go_sem, seval, reduceCtorEq])
    refine l_ins l k b hl _ ?_ (pos k l) 0 (by omega)
    have h4 : (0 : Int) ≤ ((pos k l : Nat) : Int) := by omega
    have h6 : ((pos k l : Nat) : Int) ≤ l.length := by omega
    have h7 : (l.take (pos k l)).length = pos k l := by simp; omega
    have h8 : (l.drop (pos k l)).length ≤ 1000 := by simp; omega
    have h9 : l.take l.length = l := List.take_of_length_le (Nat.le_refl _)
    rw [ins, if_neg h]
    by_cases h1 : pos k l < l.length
    · have h2 : ((pos k l : Nat) : Int) < l.length := by omega
      have h3 := strRow_get l _ h1
      have h5 : ¬ l[pos k l] = k := fun e => h ⟨h1, by rw [getD_get l _ h1]; exact e⟩
      (try simp (disch := omega) only [go_sem, seval, reduceCtorEq, h2, h3, h4, h5, h6, allSz_strRow, strRow_length, strRow_take, strRow_drop, strRow_app, strRow_one, strRow_nil, maxB, List.length_append, takeApp, takeAll, h9])
      rw [List.take_of_length_le (by simp only [List.length_append, List.length_cons, List.length_nil]; omega)]
    · have h2 : ¬ ((pos k l : Nat) : Int) < l.length := by omega
      (try simp (disch := omega) only [go_sem, seval, reduceCtorEq, h2, h4, h6, allSz_strRow, strRow_length, strRow_take, strRow_drop, strRow_app, strRow_one, strRow_nil, maxB, List.length_append, takeApp, takeAll, h9])
      rw [List.take_of_length_le (by simp only [List.length_append, List.length_cons, List.length_nil]; omega)]

theorem sh_ins {k : ByteArray} {l : List ByteArray} (hk : k.size ≤ 100) (h : ∀ x ∈ l, x.size ≤ 100) : ∀ x ∈ ins k l, x.size ≤ 100 := by
  intro x hx
  rcases mem_ins.1 hx with rfl | hx
  · exact hk
  · exact h x hx

/-- The strings of a list put into another one, one after the other. -/
def insAll (acc l : List ByteArray) : List ByteArray := l.foldl (fun a k => ins k a) acc

theorem insAll_length (l : List ByteArray) : ∀ acc, (insAll acc l).length ≤ acc.length + l.length := by
  induction l with
  | nil => intro acc; simp [insAll]
  | cons x r ih =>
    intro acc
    have := ih (ins x acc)
    have := ins_length x acc
    simp only [insAll, List.foldl_cons, List.length_cons] at *
    omega

theorem mem_insAll {x : ByteArray} (l : List ByteArray) : ∀ acc, x ∈ insAll acc l ↔ x ∈ acc ∨ x ∈ l := by
  induction l with
  | nil => intro acc; simp [insAll]
  | cons y r ih =>
    intro acc
    have := ih (ins y acc)
    simp only [insAll, List.foldl_cons] at this ⊢
    rw [this, mem_ins]
    simp only [List.mem_cons]
    constructor
    · rintro ((h | h) | h)
      · exact .inr (.inl h)
      · exact .inl h
      · exact .inr (.inr h)
    · rintro (h | h | h)
      · exact .inl (.inr h)
      · exact .inl (.inl h)
      · exact .inr h

theorem strict_insAll (l : List ByteArray) : ∀ {acc}, Strict acc → Strict (insAll acc l) := by
  induction l with
  | nil => intro acc h; exact h
  | cons y r ih => intro acc h; exact ih (strict_ins h)

theorem insAll_take (acc l : List ByteArray) (i : Nat) (h : i < l.length) : insAll acc (l.take (i + 1)) = ins l[i] (insAll acc (l.take i)) := by
  rw [List.take_add_one, List.getElem?_eq_getElem h]
  simp only [insAll, Option.toList_some, List.foldl_append, List.foldl_cons, List.foldl_nil]

theorem l_sorted (l : List ByteArray) (b : Bool) (hl : l.length ≤ 400) (K : Ex → St → Prop) (hx : ∀ b', K (.exit 0) ⟨[(3, .p (.slice b' (strRow (insAll [] l))))], [], 0, [0]⟩) : ∀ (m i : Nat), i + m = l.length → ∀ b',
    W tb a68_l0 ⟨[(0, .p (.slice b (strRow l))), (3, .p (.slice b' (strRow (insAll [] (l.take i))))), (4, .p (.int .i64 i))], [], 0, [0]⟩ (LK tb (.ghost .lower a68_l0) K) := by
  intro m
  induction m with
  | zero =>
    intro i hi b'
    have h1 : ¬ (i : Int) < l.length := by omega
    rw [List.take_of_length_le (by omega)]
    refine i_code (by unfold a68_l0; exact rfl) ?_
    repeat' (first | (simp (disch := omega) only [go_sem, seval, reduceCtorEq, h1, strRow_length]) | ((first | apply x_split_cond | apply x_split_guard); all_goals (intro hb; (try simp only [Bool.not_eq_true', Bool.not_eq_false'] at hb); (simp (disch := omega) only [go_sem, seval, reduceCtorEq, h1, strRow_length, hb]); (try simp only [decide_eq_true_eq, decide_eq_false_iff_not, beq_iff_eq, beq_eq_false_iff_ne, ne_eq, bne_iff_ne, bne_eq_false_iff_eq, Decidable.not_not] at hb))))
    exact hx _
  | succ m ih =>
    intro i hi b'
    have h1 : i < l.length := by omega
    have h2 : (i : Int) < l.length := by omega
    have h3 := strRow_get l _ h1
    have h4 : (0 : Int) ≤ i := by omega
    have h5 := insAll_length (l.take i) []
    simp only [List.length_take, List.length_nil] at h5
    obtain ⟨b2, hs⟩ := ps_ins (insAll [] (l.take i)) l[i] b' (by omega)
    rw [← insAll_take _ _ _ h1] at hs
    refine i_code (by unfold a68_l0; exact rfl) ?_
    repeat' (first | (simp (disch := omega) only [go_sem, seval, reduceCtorEq, h2, h3, h4, strRow_length]) | (apply x_pure; iterate 5 (first | exact hs | ((try simp (disch := omega) only [go_sem, seval, reduceCtorEq, h2, h3, h4, strRow_length]) <;> with_reducible exact rfl))) | ((first | apply x_split_cond | apply x_split_guard); all_goals (intro hb; (try simp only [Bool.not_eq_true', Bool.not_eq_false'] at hb); (simp (disch := omega) only [go_sem, seval, reduceCtorEq, h2, h3, h4, strRow_length, hb]); (try simp only [decide_eq_true_eq, decide_eq_false_iff_not, beq_iff_eq, beq_eq_false_iff_ne, ne_eq, bne_iff_ne, bne_eq_false_iff_eq, Decidable.not_not] at hb))))
    refine i_lk (W_round ?_)
    (try simp (disch := omega) only [go_sem, seval, reduceCtorEq])
    exact ih (i + 1) (by omega) b2

theorem ps_sorted (l : List ByteArray) (b : Bool) (hl : l.length ≤ 400) : ∃ b', PS tb 68 [.slice b (strRow l)] (.slice b' (strRow (insAll [] l))) := by
  have key : ∀ K : Ex → St → Prop, (∀ b', K (.exit 0) ⟨[(3, .p (.slice b' (strRow (insAll [] l))))], [], 0, [0]⟩) → W tb a68_l0 ⟨[(0, .p (.slice b (strRow l))), (3, .p (.slice true [])), (4, .p (.int .i64 0))], [], 0, [0]⟩ (LK tb (.ghost .lower a68_l0) K) :=
    fun K hx => l_sorted l b hl K hx l.length 0 (by omega) true
  have w : W tb a68.body { env := initEnv 0 ([PV.slice b (strRow l)].map ofPV), heap := [], next := 0, marks := [0] } (Done a68.results fun v s => ∃ b', pur s.heap dep v = some (.slice b' (strRow (insAll [] l)))) := by
    unfold a68
    dsimp only [List.map, ofPV, initEnv]
    (try simp (disch := omega) only [go_sem, seval, reduceCtorEq])
    refine W_round ?_
    (try simp (disch := omega) only [go_sem, seval, reduceCtorEq])
    refine key _ fun b' => ?_
    (try simp (disch := omega) only [go_sem, seval, reduceCtorEq])
    exact ⟨b', rfl⟩
  exact PS_ex rfl rfl w

theorem l_both (l c : List ByteArray) (b : Bool) (acc : List ByteArray) (hacc : acc.length ≤ 400) (hl : l.length ≤ 400) (K : Ex → St → Prop) (hx : ∀ b', K (.exit 0) ⟨[(5, .p (.slice b' (strRow (insAll acc l))))], [], 0, [0]⟩) : ∀ (m i : Nat), i + m = l.length → ∀ b',
    W tb a54_l0 ⟨[(1, .p (.slice b (strRow l))), (5, .p (.slice b' (strRow (insAll acc (l.take i))))), (6, .p (.int .i64 i))], [], 0, [0]⟩ (LK tb (.ghost .lower a54_l0) K) := by
  intro m
  induction m with
  | zero =>
    intro i hi b'
    have h1 : ¬ (i : Int) < l.length := by omega
    rw [List.take_of_length_le (by omega)]
    refine i_code (by unfold a54_l0; exact rfl) ?_
    repeat' (first | (simp (disch := omega) only [go_sem, seval, reduceCtorEq, h1, strRow_length]) | ((first | apply x_split_cond | apply x_split_guard); all_goals (intro hb; (try simp only [Bool.not_eq_true', Bool.not_eq_false'] at hb); (simp (disch := omega) only [go_sem, seval, reduceCtorEq, h1, strRow_length, hb]); (try simp only [decide_eq_true_eq, decide_eq_false_iff_not, beq_iff_eq, beq_eq_false_iff_ne, ne_eq, bne_iff_ne, bne_eq_false_iff_eq, Decidable.not_not] at hb))))
    exact hx _
  | succ m ih =>
    intro i hi b'
    have h1 : i < l.length := by omega
    have h2 : (i : Int) < l.length := by omega
    have h3 := strRow_get l _ h1
    have h4 : (0 : Int) ≤ i := by omega
    have h5 := insAll_length (l.take i) acc
    simp only [List.length_take] at h5
    obtain ⟨b2, hs⟩ := ps_ins (insAll acc (l.take i)) l[i] b' (by omega)
    rw [← insAll_take _ _ _ h1] at hs
    refine i_code (by unfold a54_l0; exact rfl) ?_
    repeat' (first | (simp (disch := omega) only [go_sem, seval, reduceCtorEq, h2, h3, h4, strRow_length]) | (apply x_pure; iterate 5 (first | exact hs | ((try simp (disch := omega) only [go_sem, seval, reduceCtorEq, h2, h3, h4, strRow_length]) <;> with_reducible exact rfl))) | ((first | apply x_split_cond | apply x_split_guard); all_goals (intro hb; (try simp only [Bool.not_eq_true', Bool.not_eq_false'] at hb); (simp (disch := omega) only [go_sem, seval, reduceCtorEq, h2, h3, h4, strRow_length, hb]); (try simp only [decide_eq_true_eq, decide_eq_false_iff_not, beq_iff_eq, beq_eq_false_iff_ne, ne_eq, bne_iff_ne, bne_eq_false_iff_eq, Decidable.not_not] at hb))))
    refine i_lk (W_round ?_)
    (try simp (disch := omega) only [go_sem, seval, reduceCtorEq])
    exact ih (i + 1) (by omega) b2

theorem ps_both (c l : List ByteArray) (d b : Bool) (hc : c.length ≤ 400) (hl : l.length ≤ 400) : ∃ b', PS tb 54 [.slice d (strRow c), .slice b (strRow l)] (.slice b' (strRow (insAll (insAll [] c) l))) := by
  obtain ⟨b1, hs⟩ := ps_sorted c d hc
  have h5 := insAll_length c []
  simp only [List.length_nil] at h5
  have w : W tb a54.body { env := initEnv 0 ([PV.slice d (strRow c), PV.slice b (strRow l)].map ofPV), heap := [], next := 0, marks := [0] } (Done a54.results fun v s => ∃ b', pur s.heap dep v = some (.slice b' (strRow (insAll (insAll [] c) l)))) := by
    unfold a54
    dsimp only [List.map, ofPV, initEnv]
    repeat' (first | (simp (disch := omega) only [go_sem, seval, reduceCtorEq]) | (apply x_pure; iterate 5 (first | exact hs | ((try simp (disch := omega) only [go_sem, seval, reduceCtorEq]) <;> with_reducible exact rfl))) | ((first | apply x_split_cond | apply x_split_guard); all_goals (intro hb; (try simp only [Bool.not_eq_true', Bool.not_eq_false'] at hb); (simp (disch := omega) only [go_sem, seval, reduceCtorEq, hb]); (try simp only [decide_eq_true_eq, decide_eq_false_iff_not, beq_iff_eq, beq_eq_false_iff_ne, ne_eq, bne_iff_ne, bne_eq_false_iff_eq, Decidable.not_not] at hb))))
    refine W_round ?_
    (try simp (disch := omega) only [go_sem, seval, reduceCtorEq])
    refine l_both l c b (insAll [] c) (by omega) hl _ (fun b' => ?_) l.length 0 (by omega) b1
    (try simp (disch := omega) only [go_sem, seval, reduceCtorEq])
    exact ⟨b', rfl⟩
  exact PS_ex rfl rfl w

end Go.Dv.Try
