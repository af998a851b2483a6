/-
  Specifications of chapter 38, part 1: quotas, contains, users, blocked.
-/
import Derived.Test.YtlbfmbnmajlhaaaF9
set_option linter.unusedVariables false
set_option linter.unusedSimpArgs false
set_option maxRecDepth 100000
set_option maxHeartbeats 1000000
namespace Go.Dv.Try
open Go Go.Dv

/-! ### quotas -/

structure Qt where
  b : Int
  c : Int
  k : Int
  q : Int

def qC (q : Qt) : List PV := [.int .i64 q.b, .int .i64 q.c, .int .i64 q.k, .int .i64 q.q]
def inB (n : Int) : Bool := decide (1 ≤ n) && decide (n ≤ 32)
def vq (q : Qt) : Bool := inB q.b && (inB q.c && (inB q.k && (decide (0 ≤ q.q) && decide (q.q ≤ 64))))

theorem ps_rvq (q : Qt) : PS tb 26 [.agg (qC q)] (.bool (vq q)) := by
  refine PS_of (af := a26) rfl rfl ?_
  unfold a26
  dsimp only [List.map, ofPV, qC, initEnv]
  repeat' (first | (simp (disch := omega) only [go_sem, seval, reduceCtorEq]) | ((first | apply x_split_cond | apply x_split_guard); all_goals (intro hb; (try simp only [Bool.not_eq_true', Bool.not_eq_false'] at hb); (simp (disch := omega) only [go_sem, seval, reduceCtorEq, hb]); (try simp only [decide_eq_true_eq, decide_eq_false_iff_not, beq_iff_eq, beq_eq_false_iff_ne, ne_eq, bne_iff_ne, bne_eq_false_iff_eq, Decidable.not_not] at hb))))
  all_goals (simp only [pur, dep, Option.some.injEq, PV.bool.injEq, PV.int.injEq, true_and] <;> grind [vq, inB])

def qAt (q : Qt) (j : Nat) : Int := if j = 0 then q.b else if j = 1 then q.c else q.k
theorem qAt_get (q : Qt) (i : Nat) (h : i < 3) : ([.p (.int .i64 q.b), .p (.int .i64 q.c), .p (.int .i64 q.k)] : List DV)[i]? = some (.p (.int .i64 (qAt q i))) := by
  have : i = 0 ∨ i = 1 ∨ i = 2 := by omega
  rcases this with rfl | rfl | rfl <;> rfl

theorem l_vq (q : Qt) (K : Ex → St → Prop) (hx : (∀ j, j < 3 → (fun j => inB (qAt q j)) j = true) → K (.exit 0) ⟨[(1, .ptr 0 0)], [(0, .var false [.p (.int .i64 q.b), .p (.int .i64 q.c), .p (.int .i64 q.k), .p (.int .i64 q.q)])], 1, [0]⟩)
    (hr : ∀ i, i < 3 → (fun j => inB (qAt q j)) i = false → ∀ s', aget s'.env 2 = some (.p (.bool false)) → K .ret s') : ∀ (m i : Nat), i + m = 3 → (∀ j, j < i → (fun j => inB (qAt q j)) j = true) →
    W tb a25_l0 ⟨[(1, .ptr 0 0), (11, .agg [.p (.int .i64 q.b), .p (.int .i64 q.c), .p (.int .i64 q.k)]), (12, .p (.int .i64 i))], [(0, .var false [.p (.int .i64 q.b), .p (.int .i64 q.c), .p (.int .i64 q.k), .p (.int .i64 q.q)])], 1, [0]⟩ (LK tb (.ghost .lower a25_l0) K) := by
  intro m
  induction m with
  | zero =>
    intro i hi ht
    have h1 : ¬ (i : Int) < 3 := by omega
    refine i_code (by unfold a25_l0; exact rfl) ?_
    repeat' (first | (simp (disch := omega) only [go_sem, seval, reduceCtorEq, h1, show ((3 : Nat) : Int) = 3 from rfl]) | ((first | apply x_split_cond | apply x_split_guard); all_goals (intro hb; (try simp only [Bool.not_eq_true', Bool.not_eq_false'] at hb); (simp (disch := omega) only [go_sem, seval, reduceCtorEq, h1, show ((3 : Nat) : Int) = 3 from rfl, hb]); (try simp only [decide_eq_true_eq, decide_eq_false_iff_not, beq_iff_eq, beq_eq_false_iff_ne, ne_eq, bne_iff_ne, bne_eq_false_iff_eq, Decidable.not_not] at hb))))
    exact hx (fun j hj => ht j (by omega))
  | succ m ih =>
    intro i hi ht
    have h1 : (i : Int) < 3 := by omega
    have h2 : i < 3 := by omega
    have h4 : (0 : Int) ≤ i := by omega
    have h3 := qAt_get q i h2
    have hq : inB (qAt q i) = (decide (1 ≤ qAt q i) && decide (qAt q i ≤ 32)) := rfl
    refine i_code (by unfold a25_l0; exact rfl) ?_
    repeat' (first | (simp (disch := omega) only [go_sem, seval, reduceCtorEq, h1, h4, h3, show ((3 : Nat) : Int) = 3 from rfl]) | ((first | apply x_split_cond | apply x_split_guard); all_goals (intro hb; (try simp only [Bool.not_eq_true', Bool.not_eq_false'] at hb); (simp (disch := omega) only [go_sem, seval, reduceCtorEq, h1, h4, h3, show ((3 : Nat) : Int) = 3 from rfl, hb]); (try simp only [decide_eq_true_eq, decide_eq_false_iff_not, beq_iff_eq, beq_eq_false_iff_ne, ne_eq, bne_iff_ne, bne_eq_false_iff_eq, Decidable.not_not] at hb))))
    all_goals first
      | (exfalso; omega)
      | exact hr i h2 (by (try dsimp only); rw [hq]; simp; omega) _ rfl
      | (refine i_lk (W_round ?_)
         (try simp (disch := omega) only [go_sem, seval, reduceCtorEq])
         exact ih (i + 1) (by omega) (lt_step ht (by (try dsimp only); rw [hq]; simp; omega)))


theorem ps_fvq (q : Qt) : PS tb 25 [.agg (qC q)] (.bool (vq q)) := by
  refine PS_of (af := a25) rfl rfl ?_
  unfold a25
  dsimp only [List.map, ofPV, qC, initEnv]
  repeat' (first | (simp (disch := omega) only [go_sem, seval, reduceCtorEq]) | ((first | apply x_split_cond | apply x_split_guard); all_goals (intro hb; (try simp only [Bool.not_eq_true', Bool.not_eq_false'] at hb); (simp (disch := omega) only [go_sem, seval, reduceCtorEq, hb]); (try simp only [decide_eq_true_eq, decide_eq_false_iff_not, beq_iff_eq, beq_eq_false_iff_ne, ne_eq, bne_iff_ne, bne_eq_false_iff_eq, Decidable.not_not] at hb))))
  refine W_round ?_
  (try simp (disch := omega) only [go_sem, seval, reduceCtorEq])
  refine l_vq q _ ?_ ?_ 3 0 (by omega) (by simp)
  · intro ha
    have e1 := ha 0 (by omega)
    have e2 := ha 1 (by omega)
    have e3 := ha 2 (by omega)
    simp only [qAt] at e1 e2 e3
    simp at e1 e2 e3
    repeat' (first | (simp (disch := omega) only [go_sem, seval, reduceCtorEq]) | ((first | apply x_split_cond | apply x_split_guard); all_goals (intro hb; (try simp only [Bool.not_eq_true', Bool.not_eq_false'] at hb); (simp (disch := omega) only [go_sem, seval, reduceCtorEq, hb]); (try simp only [decide_eq_true_eq, decide_eq_false_iff_not, beq_iff_eq, beq_eq_false_iff_ne, ne_eq, bne_iff_ne, bne_eq_false_iff_eq, Decidable.not_not] at hb))))
    all_goals (simp only [vq, e1, e2, e3, pur, dep, Option.some.injEq, PV.bool.injEq, Bool.true_and]; grind)
  · intro i hi hq s' hs'
    (try simp (disch := omega) only [go_sem, seval, reduceCtorEq, hs'])
    have : i = 0 ∨ i = 1 ∨ i = 2 := by omega
    have hv : vq q = false := by
      rcases this with rfl | rfl | rfl <;> simp only [qAt] at hq <;> simp at hq <;> simp [vq, hq]
    simp only [hv, pur, dep]

/-! ### contains -/

theorem all_keys {f : Ft} (h : f.all = true) : keysF f = [] := by
  unfold keysF
  split
  · rename_i hv
    simp only [validF, h, if_true, Bool.and_eq_true, decide_eq_true_eq, List.length_eq_zero_iff] at hv
    rw [hv.1, hv.2]; rfl
  · rfl

def okF (f : Ft) : Prop := ShF f ∧ f.r.length ≤ 400 ∧ f.w.length ≤ 400

theorem keys_len {f : Ft} (h : okF f) : (keysF f).length ≤ 1000 := by
  unfold keysF
  split
  · have := mrg_len (f.r ++ f.w)
    have h1 := h.2.1
    have h2 := h.2.2
    simp only [List.length_append] at this
    omega
  · simp

theorem l_sindex (l : List ByteArray) (k : ByteArray) (b : Bool) (hl : l.length ≤ 1000) (K : Ex → St → Prop) (hx : (∀ j, j < l.length → (fun j => !decide (l.getD j E = k)) j = true) → K (.exit 0) ⟨[], [], 0, [0]⟩)
    (hr : ∀ i, i < l.length → (fun j => !decide (l.getD j E = k)) i = false → ∀ s', aget s'.env 4 = some (.p (.int .i64 i)) → K .ret s') : ∀ (m i : Nat), i + m = l.length → (∀ j, j < i → (fun j => !decide (l.getD j E = k)) j = true) →
    W tb a92_l0 ⟨[(0, .p (.slice b (strRow l))), (1, .p (.str k)), (7, .p (.int .i64 l.length)), (8, .p (.int .i64 i))], [], 0, [0]⟩ (LK tb (.ghost .lower a92_l0) K) := by
  intro m
  induction m with
  | zero =>
    intro i hi ht
    have h1 : ¬ (i : Int) < l.length := by omega
    refine i_code (by unfold a92_l0; exact rfl) ?_
    repeat' (first | (simp (disch := omega) only [go_sem, seval, reduceCtorEq, h1, strRow_length]) | ((first | apply x_split_cond | apply x_split_guard); all_goals (intro hb; (try simp only [Bool.not_eq_true', Bool.not_eq_false'] at hb); (simp (disch := omega) only [go_sem, seval, reduceCtorEq, h1, strRow_length, hb]); (try simp only [decide_eq_true_eq, decide_eq_false_iff_not, beq_iff_eq, beq_eq_false_iff_ne, ne_eq, bne_iff_ne, bne_eq_false_iff_eq, Decidable.not_not] at hb))))
    exact hx (fun j hj => ht j (by omega))
  | succ m ih =>
    intro i hi ht
    have h1 : (i : Int) < l.length := by omega
    have h2 : i < l.length := by omega
    have h4 : (0 : Int) ≤ i := by omega
    have h3 := strRow_get l i h2
    have hq : decide (l.getD i E = k) = decide (k = l[i]) := by rw [getD_get l i h2]; exact decide_eq_decide.2 eq_comm
    refine i_code (by unfold a92_l0; exact rfl) ?_
    repeat' (first | (simp (disch := omega) only [go_sem, seval, reduceCtorEq, h1, h4, strRow_length, h3]) | ((first | apply x_split_cond | apply x_split_guard); all_goals (intro hb; (try simp only [Bool.not_eq_true', Bool.not_eq_false'] at hb); (simp (disch := omega) only [go_sem, seval, reduceCtorEq, h1, h4, strRow_length, h3, hb]); (try simp only [decide_eq_true_eq, decide_eq_false_iff_not, beq_iff_eq, beq_eq_false_iff_ne, ne_eq, bne_iff_ne, bne_eq_false_iff_eq, Decidable.not_not] at hb))))
    all_goals first
      | (exfalso; omega)
      | exact hr i h2 (by (try dsimp only); rw [hq]; simp [hb]) _ rfl
      | (refine i_lk (W_round ?_)
         (try simp (disch := omega) only [go_sem, seval, reduceCtorEq, strRow_length])
         exact ih (i + 1) (by omega) (lt_step ht (by (try dsimp only); rw [hq]; simp [hb])))


theorem ps_sindex (l : List ByteArray) (k : ByteArray) (b : Bool) (hl : l.length ≤ 1000) : ∃ n : Int, PS tb 92 [.slice b (strRow l), .str k] (.int .i64 n) ∧ decide (0 ≤ n) = hasB l k := by
  have w : W tb a92.body { env := initEnv 0 ([PV.slice b (strRow l), PV.str k].map ofPV), heap := [], next := 0, marks := [0] } (Done a92.results fun v s => ∃ n : { n : Int // decide (0 ≤ n) = hasB l k }, pur s.heap dep v = some (.int .i64 n.1)) := by
    unfold a92
    dsimp only [List.map, ofPV, initEnv]
    (try simp (disch := omega) only [go_sem, seval, reduceCtorEq, strRow_length])
    refine W_round ?_
    (try simp (disch := omega) only [go_sem, seval, reduceCtorEq])
    refine l_sindex l k b hl _ ?_ ?_ l.length 0 (by omega) (fun j h => by omega)
    · intro ha
      (try simp (disch := omega) only [go_sem, seval, reduceCtorEq])
      have : k ∉ l := by
        intro hm
        obtain ⟨i, hi, rfl⟩ := List.mem_iff_getElem.1 hm
        have := ha i hi
        dsimp only at this
        rw [getD_get l i hi] at this
        simp at this
      exact ⟨⟨-1, by rw [hasB_no.2 this]; rfl⟩, rfl⟩
    · intro i hi hq s' hs'
      (try simp (disch := omega) only [go_sem, seval, reduceCtorEq, hs'])
      have : k ∈ l := by
        dsimp only at hq
        rw [getD_get l i hi] at hq
        simp at hq
        rw [← hq]; exact List.getElem_mem hi
      exact ⟨⟨i, by rw [hasB_iff.2 this]; simp⟩, rfl⟩
  obtain ⟨⟨n, hn⟩, h⟩ := PS_ex (T := tb) (f := 92) (af := a92) rfl rfl w
  exact ⟨n, h, hn⟩

theorem ps_scontains (l : List ByteArray) (k : ByteArray) (b : Bool) (hl : l.length ≤ 1000) : PS tb 81 [.slice b (strRow l), .str k] (.bool (hasB l k)) := by
  obtain ⟨n, hn, hd⟩ := ps_sindex l k b hl
  refine PS_of (af := a81) rfl rfl ?_
  unfold a81
  dsimp only [List.map, ofPV, initEnv]
  repeat' (first | (simp (disch := omega) only [go_sem, seval, reduceCtorEq, hd]) | (apply x_pure; iterate 5 (first | exact hn | ((try simp (disch := omega) only [go_sem, seval, reduceCtorEq, hd]) <;> with_reducible exact rfl))) | ((first | apply x_split_cond | apply x_split_guard); all_goals (intro hb; (try simp only [Bool.not_eq_true', Bool.not_eq_false'] at hb); (simp (disch := omega) only [go_sem, seval, reduceCtorEq, hd, hb]); (try simp only [decide_eq_true_eq, decide_eq_false_iff_not, beq_iff_eq, beq_eq_false_iff_ne, ne_eq, bne_iff_ne, bne_eq_false_iff_eq, Decidable.not_not] at hb))))

theorem ps_contains (f : Ft) (k : ByteArray) (h : okF f) : PS tb 57 [.agg (ftC f), .str k] (.bool (hasB (keysF f) k)) := by
  obtain ⟨bk, sk⟩ := ps_fkeys f h.1 ⟨by have := h.2.1; omega, by have := h.2.2; omega⟩
  have sc := ps_scontains (keysF f) k bk (keys_len h)
  refine PS_of (af := a57) rfl rfl ?_
  unfold a57
  dsimp only [List.map, ofPV, ftC, initEnv] at sk ⊢
  cases hf : f.all with
  | true =>
    rw [all_keys hf]
    (try simp (disch := omega) only [go_sem, seval, reduceCtorEq])
    simp [pur, dep, hasB]
  | false =>
    rw [hf] at sk
    repeat' (first | (simp (disch := omega) only [go_sem, seval, reduceCtorEq]) | (apply x_pure; iterate 5 (first | exact sk | exact sc | ((try simp (disch := omega) only [go_sem, seval, reduceCtorEq]) <;> with_reducible exact rfl))) | ((first | apply x_split_cond | apply x_split_guard); all_goals (intro hb; (try simp only [Bool.not_eq_true', Bool.not_eq_false'] at hb); (simp (disch := omega) only [go_sem, seval, reduceCtorEq, hb]); (try simp only [decide_eq_true_eq, decide_eq_false_iff_not, beq_iff_eq, beq_eq_false_iff_ne, ne_eq, bne_iff_ne, bne_eq_false_iff_eq, Decidable.not_not] at hb))))

/-! ### users -/

def usersN (l : List Ft) (k : ByteArray) : Nat := l.countP fun f => hasB (keysF f) k

theorem users_step (l : List Ft) (k : ByteArray) (i : Nat) (h : i < l.length) : usersN (l.take (i + 1)) k = usersN (l.take i) k + if hasB (keysF l[i]) k then 1 else 0 := by
  unfold usersN
  rw [List.take_add_one, List.getElem?_eq_getElem h, List.countP_append]
  simp [List.countP_cons]
theorem users_le (l : List Ft) (k : ByteArray) : usersN l k ≤ l.length := List.countP_le_length

theorem l_users (l : List Ft) (k : ByteArray) (b : Bool) (hl : l.length ≤ 1000) (hs : ∀ f ∈ l, okF f) (K : Ex → St → Prop) (hx : K (.exit 0) ⟨[(5, .p (.int .i64 (usersN l k)))], [], 0, [0]⟩) : ∀ (m i : Nat), i + m = l.length →
    W tb a31_l0 ⟨[(0, .p (.slice b (ftRow l))), (1, .p (.str k)), (5, .p (.int .i64 (usersN (l.take i) k))), (6, .p (.int .i64 i))], [], 0, [0]⟩ (LK tb (.ghost .lower a31_l0) K) := by
  intro m
  induction m with
  | zero =>
    intro i hi
    have h1 : ¬ (i : Int) < l.length := by omega
    rw [List.take_of_length_le (by omega)]
    refine i_code (by unfold a31_l0; exact rfl) ?_
    repeat' (first | (simp (disch := omega) only [go_sem, seval, reduceCtorEq, h1, ftRow_length]) | ((first | apply x_split_cond | apply x_split_guard); all_goals (intro hb; (try simp only [Bool.not_eq_true', Bool.not_eq_false'] at hb); (simp (disch := omega) only [go_sem, seval, reduceCtorEq, h1, ftRow_length, hb]); (try simp only [decide_eq_true_eq, decide_eq_false_iff_not, beq_iff_eq, beq_eq_false_iff_ne, ne_eq, bne_iff_ne, bne_eq_false_iff_eq, Decidable.not_not] at hb))))
    exact hx
  | succ m ih =>
    intro i hi
    have h1 : (i : Int) < l.length := by omega
    have h2 : i < l.length := by omega
    have h4 : (0 : Int) ≤ i := by omega
    have h3 := ftRow_get l i h2
    have ho := hs l[i] (List.getElem_mem h2)
    obtain ⟨bk, sk⟩ := ps_rkeys l[i] ho.1 ho.2
    have sh := ps_has (keysR l[i]) k bk (by rw [← keys_same]; exact keys_len ho)
    rw [← keys_same] at sk sh
    have h5 := users_step l k i h2
    have h6 := users_le (l.take i) k
    have h7 : (l.take i).length ≤ 1000 := by simp; omega
    have ih := ih (i + 1) (by omega)
    refine i_code (by unfold a31_l0; exact rfl) ?_
    dsimp only [ftC] at sk h3
    repeat' (first | (simp (disch := omega) only [go_sem, seval, reduceCtorEq, h1, h4, ftRow_length, h3]) | (apply x_pure; iterate 5 (first | exact sk | exact sh | ((try simp (disch := omega) only [go_sem, seval, reduceCtorEq, h1, h4, ftRow_length, h3]) <;> with_reducible exact rfl))) | ((first | apply x_split_cond | apply x_split_guard); all_goals (intro hb; (try simp only [Bool.not_eq_true', Bool.not_eq_false'] at hb); (simp (disch := omega) only [go_sem, seval, reduceCtorEq, h1, h4, ftRow_length, h3, hb]); (try simp only [decide_eq_true_eq, decide_eq_false_iff_not, beq_iff_eq, beq_eq_false_iff_ne, ne_eq, bne_iff_ne, bne_eq_false_iff_eq, Decidable.not_not] at hb))))
    all_goals
      rw [h5, hb] at ih
      simp only [Bool.false_eq_true, reduceIte, Nat.add_zero] at ih
      refine i_lk (W_round ?_)
      (try simp (disch := omega) only [go_sem, seval, reduceCtorEq])
      exact ih

theorem ps_users (l : List Ft) (k : ByteArray) (b : Bool) (hl : l.length ≤ 1000) (hs : ∀ f ∈ l, okF f) : PS tb 31 [.slice b (ftRow l), .str k] (.int .i64 (usersN l k)) := by
  refine PS_of (af := a31) rfl rfl ?_
  unfold a31
  dsimp only [List.map, ofPV, initEnv]
  (try simp (disch := omega) only [go_sem, seval, reduceCtorEq, ftRow_length])
  refine W_round ?_
  (try simp (disch := omega) only [go_sem, seval, reduceCtorEq])
  refine l_users l k b hl hs _ ?_ l.length 0 (by omega)
  (try simp (disch := omega) only [go_sem, seval, reduceCtorEq])

end Go.Dv.Try
