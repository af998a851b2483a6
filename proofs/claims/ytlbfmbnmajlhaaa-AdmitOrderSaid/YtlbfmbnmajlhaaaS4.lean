/-
  Specifications of chapter 38, part 4: lists of indices; the selection; the document's Select.
-/
import Derived.Test.YtlbfmbnmajlhaaaS2
set_option linter.unusedVariables false
set_option linter.unusedSimpArgs false
set_option maxRecDepth 100000
set_option maxHeartbeats 4000000
namespace Go.Dv.Try
open Go Go.Dv

def nRow (l : List Nat) : List (List PV) := l.map fun (n : Nat) => [.int .i64 (n : Int)]
theorem nRow_length (l : List Nat) : (nRow l).length = l.length := by simp [nRow]
theorem nRow_get (l : List Nat) (i : Nat) (h : i < l.length) : (nRow l)[i]? = some [.int .i64 (l[i] : Int)] := by simp [nRow, h]
theorem nRow_take (l : List Nat) : (nRow l).take l.length = nRow l := List.take_of_length_le (by simp [nRow])
theorem nRow_app (l : List Nat) (i : Nat) : nRow l ++ [[PV.int .i64 (i : Int)]] = nRow (l ++ [i]) := by simp [nRow]
theorem nRow_all (l : List Nat) : allSz 1 (nRow l) = true := by simp [allSz, nRow]
theorem one1 (x : PV) : allSz 1 [[x]] = true := rfl
theorem one3 (x y z : PV) : allSz 3 [[x, y, z]] = true := rfl
theorem ftRow_take (l : List Ft) : (ftRow l).take l.length = ftRow l := List.take_of_length_le (by simp [ftRow])
theorem ftRow_app (l : List Ft) (f : Ft) : ftRow l ++ [[PV.bool f.all, .slice f.br (strRow f.r), .slice f.bw (strRow f.w)]] = ftRow (l ++ [f]) := by simp [ftRow, ftC]
theorem ftRow_all (l : List Ft) : allSz 3 (ftRow l) = true := by simp [allSz, ftRow, ftC]

abbrev R0 : Rq := ⟨0, .undef, .undef, .undef, .undef, .undef, .undef, .undef⟩
theorem getR_get (l : List Rq) (i : Nat) (h : i < l.length) : l.getD i R0 = l[i] := by simp [List.getD_eq_getElem?_getD, h]

/-! ### same, of -/

theorem l_rsame (a c : List Nat) (b d : Bool) (hl : a.length ≤ 1000) (he : a.length = c.length) (K : Ex → St → Prop) (hx : (∀ j, j < a.length → (fun j => decide (a.getD j 0 = c.getD j 0)) j = true) → K (.exit 0) ⟨[], [], 0, [0]⟩)
    (hr : ∀ i, i < a.length → (fun j => decide (a.getD j 0 = c.getD j 0)) i = false → ∀ s', aget s'.env 4 = some (.p (.bool false)) → K .ret s') : ∀ (m i : Nat), i + m = a.length → (∀ j, j < i → (fun j => decide (a.getD j 0 = c.getD j 0)) j = true) →
    W tb a30_l0 ⟨[(0, .p (.slice b (nRow a))), (1, .p (.slice d (nRow c))), (5, .p (.int .i64 i))], [], 0, [0]⟩ (LK tb (.ghost .lower a30_l0) K) := by
  intro m
  induction m with
  | zero =>
    intro i hi ht
    have h1 : ¬ (i : Int) < a.length := by omega
    refine i_code (by unfold a30_l0; exact rfl) ?_
    repeat' (first | (simp (disch := omega) only [go_sem, seval, reduceCtorEq, h1, nRow_length]) | ((first | apply x_split_cond | apply x_split_guard); all_goals (intro hb; (try simp only [Bool.not_eq_true', Bool.not_eq_false'] at hb); (simp (disch := omega) only [go_sem, seval, reduceCtorEq, h1, nRow_length, hb]); (try simp only [decide_eq_true_eq, decide_eq_false_iff_not, beq_iff_eq, beq_eq_false_iff_ne, ne_eq, bne_iff_ne, bne_eq_false_iff_eq, Decidable.not_not] at hb))))
    exact hx (fun j hj => ht j (by omega))
  | succ m ih =>
    intro i hi ht
    have h1 : (i : Int) < a.length := by omega
    have h2 : i < a.length := by omega
    have h4 : (0 : Int) ≤ i := by omega
    have h6 : i < c.length := by omega
    have h3 := nRow_get a i h2
    have h7 := nRow_get c i h6
    have hq : decide (a.getD i 0 = c.getD i 0) = decide (a[i] = c[i]) := by rw [List.getD_eq_getElem?_getD, List.getElem?_eq_getElem h2, List.getD_eq_getElem?_getD, List.getElem?_eq_getElem h6]; rfl
    refine i_code (by unfold a30_l0; exact rfl) ?_
    repeat' (first | (simp (disch := omega) only [go_sem, seval, reduceCtorEq, h1, h4, nRow_length, h3, h7]) | ((first | apply x_split_cond | apply x_split_guard); all_goals (intro hb; (try simp only [Bool.not_eq_true', Bool.not_eq_false'] at hb); (simp (disch := omega) only [go_sem, seval, reduceCtorEq, h1, h4, nRow_length, h3, h7, hb]); (try simp only [decide_eq_true_eq, decide_eq_false_iff_not, beq_iff_eq, beq_eq_false_iff_ne, ne_eq, bne_iff_ne, bne_eq_false_iff_eq, Decidable.not_not] at hb))))
    all_goals first
      | (exfalso; omega)
      | exact hr i h2 (by (try dsimp only); rw [hq]; simp; omega) _ rfl
      | (refine i_lk (W_round ?_)
         (try simp (disch := omega) only [go_sem, seval, reduceCtorEq, nRow_length])
         exact ih (i + 1) (by omega) (lt_step ht (by (try dsimp only); rw [hq]; simp; omega)))


theorem ps_r38same (a c : List Nat) (b d : Bool) (hl : a.length ≤ 1000) : PS tb 30 [.slice b (nRow a), .slice d (nRow c)] (.bool (decide (a = c))) := by
  refine PS_of (af := a30) rfl rfl ?_
  unfold a30
  dsimp only [List.map, ofPV, initEnv]
  repeat' (first | (simp (disch := omega) only [go_sem, seval, reduceCtorEq, nRow_length]) | ((first | apply x_split_cond | apply x_split_guard); all_goals (intro hb; (try simp only [Bool.not_eq_true', Bool.not_eq_false'] at hb); (simp (disch := omega) only [go_sem, seval, reduceCtorEq, nRow_length, hb]); (try simp only [decide_eq_true_eq, decide_eq_false_iff_not, beq_iff_eq, beq_eq_false_iff_ne, ne_eq, bne_iff_ne, bne_eq_false_iff_eq, Decidable.not_not] at hb))))
  · have : decide (a = c) = false := by
      simp only [decide_eq_false_iff_not]
      rintro rfl
      omega
    simp only [this, pur, dep]
  · refine W_round ?_
    (try simp (disch := omega) only [go_sem, seval, reduceCtorEq])
    have he : a.length = c.length := by omega
    refine l_rsame a c b d hl he _ ?_ ?_ a.length 0 (by omega) (by simp)
    · intro h
      (try simp (disch := omega) only [go_sem, seval, reduceCtorEq])
      have : a = c := by
        refine List.ext_getElem he fun i h1 h2 => ?_
        have := h i h1
        simpa [List.getD_eq_getElem?_getD, h1, h2] using this
      simp only [this, pur, dep, decide_true]
    · intro i hi h s' hs'
      (try simp (disch := omega) only [go_sem, seval, reduceCtorEq, hs'])
      have : decide (a = c) = false := by
        simp only [decide_eq_false_iff_not]
        rintro rfl
        simp at h
      simp only [this, pur, dep]

def cntC (qu : List Rq) (l : List Nat) (c : Int) : Nat := l.countP fun j => decide ((qu.getD j R0).c = c)
theorem cntC_step (qu : List Rq) (l : List Nat) (c : Int) (i : Nat) (h : i < l.length) : cntC qu (l.take (i + 1)) c = cntC qu (l.take i) c + if decide ((qu.getD l[i] R0).c = c) = true then 1 else 0 := by
  unfold cntC
  rw [List.take_add_one, List.getElem?_eq_getElem h, List.countP_append]
  simp [List.countP_cons]
theorem cntC_le (qu : List Rq) (l : List Nat) (c : Int) : cntC qu l c ≤ l.length := List.countP_le_length
theorem cntC_app (qu : List Rq) (l : List Nat) (j : Nat) (c : Int) : cntC qu (l ++ [j]) c = cntC qu l c + if (qu.getD j R0).c = c then 1 else 0 := by
  simp [cntC, List.countP_append, List.countP_cons]

theorem l_of (qu : List Rq) (l : List Nat) (c : Int) (b d : Bool) (hl : l.length ≤ 1000) (hi : ∀ j ∈ l, j < qu.length) (K : Ex → St → Prop) (hx : K (.exit 0) ⟨[(7, .p (.int .i64 (cntC qu l c)))], [], 0, [0]⟩) : ∀ (m i : Nat), i + m = l.length →
    W tb a59_l0 ⟨[(0, .p (.slice d (rqRow qu))), (1, .p (.slice b (nRow l))), (2, .p (.int .i64 c)), (7, .p (.int .i64 (cntC qu (l.take i) c))), (8, .p (.int .i64 i))], [], 0, [0]⟩ (LK tb (.ghost .lower a59_l0) K) := by
  intro m
  induction m with
  | zero =>
    intro i hi
    have h1 : ¬ (i : Int) < l.length := by omega
    rw [List.take_of_length_le (by omega)]
    refine i_code (by unfold a59_l0; exact rfl) ?_
    repeat' (first | (simp (disch := omega) only [go_sem, seval, reduceCtorEq, h1, nRow_length]) | ((first | apply x_split_cond | apply x_split_guard); all_goals (intro hb; (try simp only [Bool.not_eq_true', Bool.not_eq_false'] at hb); (simp (disch := omega) only [go_sem, seval, reduceCtorEq, h1, nRow_length, hb]); (try simp only [decide_eq_true_eq, decide_eq_false_iff_not, beq_iff_eq, beq_eq_false_iff_ne, ne_eq, bne_iff_ne, bne_eq_false_iff_eq, Decidable.not_not] at hb))))
    exact hx
  | succ m ih =>
    intro i hm
    have h1 : (i : Int) < l.length := by omega
    have h2 : i < l.length := by omega
    have h4 : (0 : Int) ≤ i := by omega
    have h3 := nRow_get l i h2
    have h8 := hi l[i] (List.getElem_mem h2)
    have h9 := rqRow_get qu l[i] h8
    have h10 : (0 : Int) ≤ (l[i] : Int) := by omega
    have h5 := cntC_step qu l c i h2
    rw [getR_get qu _ h8] at h5
    have h6 := cntC_le qu (l.take i) c
    have h7 : (l.take i).length ≤ 1000 := by simp; omega
    have ih := ih (i + 1) (by omega)
    dsimp only [rqC] at h9
    refine i_code (by unfold a59_l0; exact rfl) ?_
    repeat' (first | (simp (disch := omega) only [go_sem, seval, reduceCtorEq, h1, h4, nRow_length, h3, h9, h10]) | ((first | apply x_split_cond | apply x_split_guard); all_goals (intro hb; (try simp only [Bool.not_eq_true', Bool.not_eq_false'] at hb); (simp (disch := omega) only [go_sem, seval, reduceCtorEq, h1, h4, nRow_length, h3, h9, h10, hb]); (try simp only [decide_eq_true_eq, decide_eq_false_iff_not, beq_iff_eq, beq_eq_false_iff_ne, ne_eq, bne_iff_ne, bne_eq_false_iff_eq, Decidable.not_not] at hb))))
    all_goals
      first
        | rw [h5, decide_eq_true hb] at ih
        | rw [h5, decide_eq_false hb] at ih
      simp only [Bool.false_eq_true, reduceIte, Nat.add_zero] at ih
      refine i_lk (W_round ?_)
      (try simp (disch := omega) only [go_sem, seval, reduceCtorEq])
      exact ih

theorem ps_of (qu : List Rq) (l : List Nat) (c : Int) (b d : Bool) (hl : l.length ≤ 1000) (hi : ∀ j ∈ l, j < qu.length) : PS tb 59 [.slice d (rqRow qu), .slice b (nRow l), .int .i64 c] (.int .i64 (cntC qu l c)) := by
  refine PS_of (af := a59) rfl rfl ?_
  unfold a59
  dsimp only [List.map, ofPV, initEnv]
  (try simp (disch := omega) only [go_sem, seval, reduceCtorEq])
  refine W_round ?_
  (try simp (disch := omega) only [go_sem, seval, reduceCtorEq])
  refine l_of qu l c b d hl hi _ ?_ l.length 0 (by omega)
  (try simp (disch := omega) only [go_sem, seval, reduceCtorEq])

/-! ### the selection -/

structure Sl where
  a : List Nat
  d : List Nat
  x : List Nat
  u : List Ft

def stepS (q : Qt) (hot : List ByteArray) (qu : List Rq) (fs : List Ft) (p : Int) (s : Sl) (i : Nat) : Sl :=
  if p ≤ (i : Int) ∧ 0 < cntC qu s.x (qu.getD i R0).c then ⟨s.a, s.d, s.x ++ [i], s.u⟩
  else if cntC qu s.d (qu.getD i R0).c = 0 ∧ (s.a.length : Int) < q.b ∧ (cntC qu s.a (qu.getD i R0).c : Int) < q.c ∧ blkB q hot s.u (fs.getD i F0) = false then ⟨s.a ++ [i], s.d, s.x, s.u ++ [fs.getD i F0]⟩
  else if p ≤ (i : Int) ∧ q.q ≤ (s.d.length : Int) then ⟨s.a, s.d, s.x ++ [i], s.u⟩
  else ⟨s.a, s.d ++ [i], s.x, s.u⟩

def selN (q : Qt) (hot : List ByteArray) (qu : List Rq) (fs : List Ft) (p : Int) : Nat → Sl
  | 0 => ⟨[], [], [], []⟩
  | i + 1 => stepS q hot qu fs p (selN q hot qu fs p i) i

/-- What holds along the way. -/
structure Inv (fs : List Ft) (i : Nat) (s : Sl) : Prop where
  a : (∀ j ∈ s.a, j < i) ∧ s.a.length ≤ i
  d : (∀ j ∈ s.d, j < i) ∧ s.d.length ≤ i
  x : (∀ j ∈ s.x, j < i) ∧ s.x.length ≤ i
  u : (∀ f ∈ s.u, f ∈ fs) ∧ s.u.length ≤ i
  ua : s.u.length = s.a.length

theorem inv_grow {l : List Nat} {i : Nat} (h : (∀ j ∈ l, j < i) ∧ l.length ≤ i) : (∀ j ∈ l, j < i + 1) ∧ l.length ≤ i + 1 := ⟨fun j hj => by have := h.1 j hj; omega, by omega⟩
theorem inv_app {l : List Nat} {i : Nat} (h : (∀ j ∈ l, j < i) ∧ l.length ≤ i) : (∀ j ∈ l ++ [i], j < i + 1) ∧ (l ++ [i]).length ≤ i + 1 := by
  refine ⟨fun j hj => ?_, by simp; omega⟩
  rcases List.mem_append.1 hj with hj | hj
  · have := h.1 j hj; omega
  · simp at hj; omega

theorem inv_step {q : Qt} {hot : List ByteArray} {qu : List Rq} {fs : List Ft} {p : Int} {s : Sl} {i : Nat} (hi : i < fs.length) (h : Inv fs i s) : Inv fs (i + 1) (stepS q hot qu fs p s i) := by
  have hu : (∀ f ∈ s.u, f ∈ fs) ∧ s.u.length ≤ i + 1 := ⟨h.u.1, by have := h.u.2; omega⟩
  unfold stepS
  split
  · exact ⟨inv_grow h.a, inv_grow h.d, inv_app h.x, hu, h.ua⟩
  · split
    · refine ⟨inv_app h.a, inv_grow h.d, inv_grow h.x, ⟨fun f hf => ?_, by have := h.u.2; simp; omega⟩, by simp [h.ua]⟩
      rcases List.mem_append.1 hf with hf | hf
      · exact h.u.1 f hf
      · simp only [List.mem_singleton] at hf
        rw [hf, getF_get fs i hi]; exact List.getElem_mem hi
    · split
      · exact ⟨inv_grow h.a, inv_grow h.d, inv_app h.x, hu, h.ua⟩
      · exact ⟨inv_grow h.a, inv_app h.d, inv_grow h.x, hu, h.ua⟩

theorem inv_sel {q : Qt} {hot : List ByteArray} {qu : List Rq} {fs : List Ft} {p : Int} : ∀ {i : Nat}, i ≤ fs.length → Inv fs i (selN q hot qu fs p i)
  | 0, _ => ⟨by simp [selN], by simp [selN], by simp [selN], by simp [selN], rfl⟩
  | i + 1, h => inv_step (by omega) (inv_sel (by omega))

def badS (q : Qt) (n m : Nat) (p : Int) : Prop := vq q = false ∨ n ≠ m ∨ p < 0 ∨ (n : Int) < p ∨ q.q < p

instance (q : Qt) (n m : Nat) (p : Int) : Decidable (badS q n m p) := by unfold badS; infer_instance

def selR (q : Qt) (hot : List ByteArray) (qu : List Rq) (fs : List Ft) (p : Int) : PV :=
  if badS q qu.length fs.length p then .tuple [.slice true [], .slice true [], .slice true [], .int .i64 1]
  else let s := selN q hot qu fs p qu.length
    .tuple [.slice false (nRow s.a), .slice false (nRow s.d), .slice false (nRow s.x), .int .i64 0]


end Go.Dv.Try
