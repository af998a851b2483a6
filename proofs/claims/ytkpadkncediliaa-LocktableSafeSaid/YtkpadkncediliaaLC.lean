/-
  Specifications: L13, L14, L15, L16, L17.
-/
import Derived.Test.YtkpadkncediliaaLB
set_option linter.unusedVariables false
set_option linter.unusedSimpArgs false
set_option maxRecDepth 100000
set_option maxHeartbeats 4000000
namespace Go.Dv.Try
open Go Go.Dv

/-! ## L13 -/

theorem ps_push (l : List Rq) (b : Bool) (x : Int) (w : Bool) (hl : l.length ≤ 100000) : PS tb 40 [.slice b (rqRow l), .int .i64 x, .bool w] (.slice false (rqRow (l ++ [(x, w)]))) := by
  have m0 : l.length * 16 ≤ 140737488355328 := by omega
  have m3 : l.length ≤ 140737488355328 := by omega
  have m1 : (l.length + 1) * 16 ≤ 140737488355328 := by omega
  have m2 : l.length + 1 ≤ 140737488355328 := by omega
  have hz : ∀ x b, allSz 2 [[PV.int IntKind.i64 x, PV.bool b]] = true := fun x b => rfl
  have hz2 : allSz 2 (rqRow l) = true := allSz_rqRow l
  refine PS_of (af := a40) rfl rfl ?_
  unfold a40
  dsimp only [List.map, ofPV, initEnv]
  by_cases c : l = []
  · subst c
    repeat' (first | (simp (disch := omega) only [go_sem, seval, reduceCtorEq, rqRow_nil, hz, maxBytes]) | with_reducible exact Ev.mk | ((first | apply x_split | apply x_splitg) <;> intro hβ hb <;> (simp (disch := omega) only [go_sem, seval, reduceCtorEq, rqRow_nil, hz, maxBytes, hβ]) <;> clear hβ))
    all_goals rfl
  · have c2 : (rqRow l).isEmpty = false := by cases l with
      | nil => exact absurd rfl c
      | cons a r => rfl
    repeat' (first | (simp (disch := omega) only [go_sem, seval, reduceCtorEq, hz, hz2, m0, m1, m2, m3, maxBytes, rqRow_length, c2]) | with_reducible exact Ev.mk | ((first | apply x_split | apply x_splitg) <;> intro hβ hb <;> (simp (disch := omega) only [go_sem, seval, reduceCtorEq, hz, hz2, m0, m1, m2, m3, maxBytes, rqRow_length, c2, hβ]) <;> clear hβ))
    all_goals simp [pur, dep, aget, rqRow_length, rqRow_one, rqRow_append, rqRow_take, List.take_of_length_le]

/-! ### enqueue -/

theorem enq_hi {k : ByteArray} {r : Rq} : ∀ {l : List Qd} {q : Qd}, AscD (l ++ [q]) → (∃ p ∈ l, slt p.1 k = false) → enq k r (l ++ [q]) = enq k r l ++ [q]
  | [], _, _, h => by obtain ⟨p, hp, _⟩ := h; cases hp
  | p :: l, q, ha, h => by
    by_cases c : slt p.1 k = true
    · have ha2 : AscD (l ++ [q]) := (List.pairwise_cons.1 ha).2
      obtain ⟨p', hp', hs⟩ := h
      have : p' ∈ l := by
        rcases List.mem_cons.1 hp' with e | e
        · rw [e, c] at hs; cases hs
        · exact e
      have ih := enq_hi (k := k) (r := r) ha2 ⟨p', this, hs⟩
      simp only [List.cons_append, enq, c, if_true]
      rw [ih]
    · have c' : slt p.1 k = false := by simpa using c
      by_cases e : p.1 = k
      · rw [e] at c'
        simp [enq, c', e]
      · simp [enq, c', e]

theorem enq_lo {k : ByteArray} {r : Rq} : ∀ {l : List Qd} (l' : List Qd), (∀ p ∈ l, slt p.1 k = true) → enq k r (l ++ l') = l ++ enq k r l'
  | [], _, _ => rfl
  | p :: l, l', h => by
    have ih := enq_lo (r := r) l' (fun q hq => h q (List.mem_cons_of_mem _ hq))
    simp only [List.cons_append, enq, h p (by simp), if_true]
    rw [ih]

def eqDone (k : ByteArray) (l : List Qd) : Bool := l.any fun q => !slt q.1 k
def eqOut (k : ByteArray) (r : Rq) (l : List Qd) : List Qd := if eqDone k l then enq k r l else l

theorem eqOut_snoc {k : ByteArray} {r : Rq} {l : List Qd} {q : Qd} (ha : AscD (l ++ [q])) :
    (eqDone k l = true → q.1 ≠ k ∧ eqDone k (l ++ [q]) = true ∧ eqOut k r (l ++ [q]) = eqOut k r l ++ [q]) ∧
    (eqDone k l = false → slt q.1 k = true → eqDone k (l ++ [q]) = false ∧ eqOut k r (l ++ [q]) = eqOut k r l ++ [q]) ∧
    (eqDone k l = false → q.1 = k → eqDone k (l ++ [q]) = true ∧ eqOut k r (l ++ [q]) = eqOut k r l ++ [(k, q.2 ++ [r])]) ∧
    (eqDone k l = false → slt k q.1 = true → eqDone k (l ++ [q]) = true ∧ eqOut k r (l ++ [q]) = eqOut k r l ++ [(k, [r]), q]) := by
  have lo : eqDone k l = false → ∀ p ∈ l, slt p.1 k = true := fun h p hp => by
    unfold eqDone at h
    rw [List.any_eq_false] at h
    simpa using h p hp
  have ap : eqDone k (l ++ [q]) = (eqDone k l || !slt q.1 k) := by unfold eqDone; simp
  refine ⟨fun h => ?_, fun h h1 => ?_, fun h h1 => ?_, fun h h1 => ?_⟩
  · have hx : ∃ p ∈ l, slt p.1 k = false := by
      unfold eqDone at h
      rw [List.any_eq_true] at h
      obtain ⟨p, hp, hs⟩ := h
      exact ⟨p, hp, by simpa using hs⟩
    refine ⟨?_, by rw [ap, h]; rfl, ?_⟩
    · rintro rfl
      obtain ⟨p, hp, hs⟩ := hx
      have := (List.pairwise_append.1 ha).2.2 p hp q (by simp)
      rw [this] at hs; cases hs
    · unfold eqOut
      rw [ap, h, Bool.true_or, if_pos rfl, if_pos rfl]
      exact enq_hi ha hx
  · refine ⟨by rw [ap, h, h1]; rfl, ?_⟩
    unfold eqOut
    rw [ap, h, h1]
    rfl
  · have c : slt q.1 k = false := by rw [h1]; cases e : slt k k with
      | false => rfl
      | true => exact absurd rfl (slt_ne e)
    refine ⟨by rw [ap, h, c]; rfl, ?_⟩
    unfold eqOut
    rw [ap, h, c, if_pos (by rfl), if_neg (by simp), enq_lo _ (lo h)]
    rw [h1] at c
    simp [enq, c, h1]
  · have c : slt q.1 k = false := slt_asymm h1
    have c2 : ¬ q.1 = k := fun e => slt_ne h1 e.symm
    refine ⟨by rw [ap, h, c]; rfl, ?_⟩
    unfold eqOut
    rw [ap, h, c, if_pos (by rfl), if_neg (by simp), enq_lo _ (lo h)]
    simp [enq, c, c2]

theorem eq_end {k : ByteArray} {r : Rq} {l : List Qd} : (eqDone k l = true → enq k r l = eqOut k r l) ∧ (eqDone k l = false → enq k r l = eqOut k r l ++ [(k, [r])]) := by
  refine ⟨fun h => by unfold eqOut; rw [if_pos h], fun h => ?_⟩
  unfold eqOut
  rw [h, if_neg (by simp)]
  have lo : ∀ p ∈ l, slt p.1 k = true := fun p hp => by
    unfold eqDone at h
    rw [List.any_eq_false] at h
    simpa using h p hp
  have := enq_lo (r := r) (l := l) [] lo
  rw [List.append_nil] at this
  rw [this]; rfl

theorem quRow_one' (k : ByteArray) (b : Bool) (l : List Rq) : [[PV.str k, PV.slice b (rqRow l)]] = quRow [⟨k, b, l⟩] := rfl

theorem ascD_take {l : List Qd} (h : AscD l) (n : Nat) : AscD (l.take n) := List.Pairwise.sublist (List.take_sublist n l) h

theorem l_enqueue (l : List Qu) (b : Bool) (k : ByteArray) (x : Int) (w : Bool) (hl : l.length ≤ 100000) (hq : ∀ q ∈ l, q.reqs.length ≤ 100000) (ha : AscD (l.map Qu.d)) (K : Ex → St → Prop)
    (hx : ∀ out : List Qu, out.map Qu.d = eqOut k (x, w) (l.map Qu.d) → out.length ≤ l.length + 1 → K (.exit 0) ⟨[(1, .p (.str k)), (2, .p (.int .i64 x)), (3, .p (.bool w)), (9, .ref 0 out.length 0 out.length), (10, .p (.bool (eqDone k (l.map Qu.d))))], [(0, .row false 2 (quRow out))], 1, [0]⟩) :
    ∀ (m i : Nat), i + m = l.length → ∀ (out : List Qu) (d : Bool), d = eqDone k ((l.take i).map Qu.d) → out.map Qu.d = eqOut k (x, w) ((l.take i).map Qu.d) → out.length ≤ i + d.toNat →
    W tb a42_l0 ⟨[(0, .p (.slice b (quRow l))), (1, .p (.str k)), (2, .p (.int .i64 x)), (3, .p (.bool w)), (9, .ref 0 out.length 0 out.length), (10, .p (.bool d)), (11, .p (.int .i64 i))], [(0, .row false 2 (quRow out))], 1, [0]⟩ (LK tb (.ghost .lower a42_l0) K) := by
  intro m
  induction m with
  | zero =>
    rintro i hi out d hd ho hn
    have h1 : ¬ (i : Int) < l.length := by omega
    have e : i = l.length := by omega
    subst e
    rw [List.take_of_length_le (Nat.le_refl _)] at ho hd
    refine i_code (by unfold a42_l0; exact rfl) ?_
    repeat' (first | (simp (disch := omega) only [go_sem, seval, reduceCtorEq, h1, quRow_length]) | with_reducible exact Ev.mk | ((first | apply x_split | apply x_splitg) <;> intro hβ hb <;> (simp (disch := omega) only [go_sem, seval, reduceCtorEq, h1, quRow_length, hβ]) <;> clear hβ))
    rw [hd]
    exact hx out ho (by cases d <;> simp at hn <;> omega)
  | succ m ih =>
    rintro i hi out d hd ho hn
    have h1 : (i : Int) < l.length := by omega
    have h2 : i < l.length := by omega
    have h4 : (0 : Int) ≤ i := by omega
    have h3 := quRow_get l i h2
    have hrl := hq _ (List.getElem_mem h2)
    have hdl : d.toNat ≤ 1 := by cases d <;> simp
    have m1 : (out.length + 1) * 40 ≤ 140737488355328 := by omega
    have m2 : out.length + 1 ≤ 140737488355328 := by omega
    have hol : out.length + 1 + 1 ≤ 200000 := by omega
    have m3 : (out.length + 1 + 1) * 40 ≤ 140737488355328 := Nat.le_trans (Nat.mul_le_mul_right 40 hol) (by decide)
    have m4 : out.length + 1 + 1 ≤ 140737488355328 := Nat.le_trans hol (by decide)
    have hz : ∀ (k : ByteArray) (b : Bool) (l : List Rq), allSz 2 [[PV.str k, PV.slice b (rqRow l)]] = true := fun k b l => rfl
    have hsn := map_take_succ l i h2
    have ha2 : AscD ((l.take i).map Qu.d ++ [(l[i].key, l[i].reqs)]) := by
      rw [← hsn, List.map_take]
      exact ascD_take ha (i + 1)
    obtain ⟨s1, s2, s3, s4⟩ := eqOut_snoc (k := k) (r := (x, w)) ha2
    rw [← hsn, ← hd] at s1 s2 s3 s4
    simp only at s1 s2 s3 s4
    have q1 := ps_push l[i].reqs l[i].fl x w hrl
    have q0 := ps_push [] true x w (by simp)
    rw [rqRow_nil, List.nil_append] at q0
    have go1 : ∀ (q : Qu) (d' : Bool), d' = eqDone k ((l.take (i + 1)).map Qu.d) → eqOut k (x, w) ((l.take (i + 1)).map Qu.d) = eqOut k (x, w) ((l.take i).map Qu.d) ++ [q.d] → d.toNat ≤ d'.toNat → W tb a42_l0 ⟨[(0, .p (.slice b (quRow l))), (1, .p (.str k)), (2, .p (.int .i64 x)), (3, .p (.bool w)), (9, .ref 0 (out.length + 1) 0 (out.length + 1)), (10, .p (.bool d')), (11, .p (.int .i64 ((i + 1 : Nat) : Int)))], [(0, .row false 2 (quRow (out ++ [q])))], 1, [0]⟩ (LK tb (.ghost .lower a42_l0) K) := fun q d' h h' h'' => by
      have := ih (i + 1) (by omega) (out ++ [q]) d' h (by rw [h', List.map_append, ho]; rfl) (by simp; omega)
      rw [List.length_append, List.length_singleton] at this
      exact this
    refine i_code (by unfold a42_l0; exact rfl) ?_
    cases d with
    | true =>
      obtain ⟨e1, e2, e3⟩ := s1 rfl
      have c1 : decide (l[i].key = k) = false := decide_eq_false e1
      repeat' (first | (simp (disch := omega) only [go_sem, seval, reduceCtorEq, h1, h3, h4, c1, m1, m2, maxBytes, hz, quRow_length]) | with_reducible exact Ev.mk | ((first | apply x_split | apply x_splitg) <;> intro hβ hb <;> (simp (disch := omega) only [go_sem, seval, reduceCtorEq, h1, h3, h4, c1, m1, m2, maxBytes, hz, quRow_length, hβ]) <;> clear hβ))
      refine i_lk (W_round ?_)
      (try simp (disch := omega) only [go_sem, seval, reduceCtorEq, quRow_one', quRow_append])
      exact go1 l[i] true e2.symm e3 (Nat.le_refl _)
    | false =>
      by_cases c1 : l[i].key = k
      · obtain ⟨e2, e3⟩ := s3 rfl c1
        have c1' : decide (l[i].key = k) = true := decide_eq_true c1
        have c2 : slt k l[i].key = false := by rw [c1]; cases e : slt k k with
          | false => rfl
          | true => exact absurd rfl (slt_ne e)
        repeat' (first | exact q1 | (simp (disch := omega) only [go_sem, seval, reduceCtorEq, h1, h3, h4, c1', c2, m1, m2, maxBytes, hz, quRow_length]) | with_reducible exact Ev.mk | apply x_call | ((first | apply x_split | apply x_splitg) <;> intro hβ hb <;> (simp (disch := omega) only [go_sem, seval, reduceCtorEq, h1, h3, h4, c1', c2, m1, m2, maxBytes, hz, quRow_length, hβ]) <;> clear hβ))
        refine i_lk (W_round ?_)
        (try simp (disch := omega) only [go_sem, seval, reduceCtorEq, quRow_one', quRow_append])
        exact go1 ⟨k, false, l[i].reqs ++ [(x, w)]⟩ true e2.symm e3 (by simp)
      · have c1' : decide (l[i].key = k) = false := decide_eq_false c1
        cases c2 : slt k l[i].key with
        | true =>
          obtain ⟨e2, e3⟩ := s4 rfl c2
          repeat' (first | exact q0 | (simp (disch := omega) only [go_sem, seval, reduceCtorEq, h1, h3, h4, c1', c2, m1, m2, m3, m4, maxBytes, hz, quRow_length, List.length_append, List.length_singleton, List.length_cons, List.length_nil]) | with_reducible exact Ev.mk | apply x_call | ((first | apply x_split | apply x_splitg) <;> intro hβ hb <;> (simp (disch := omega) only [go_sem, seval, reduceCtorEq, h1, h3, h4, c1', c2, m1, m2, m3, m4, maxBytes, hz, quRow_length, List.length_append, List.length_singleton, List.length_cons, List.length_nil, hβ]) <;> clear hβ))
          refine i_lk (W_round ?_)
          (try simp (disch := omega) only [go_sem, seval, reduceCtorEq, quRow_one', quRow_append])
          have := ih (i + 1) (by omega) (out ++ [⟨k, false, [(x, w)]⟩] ++ [l[i]]) true e2.symm (by rw [e3, List.map_append, List.map_append, ho]; simp [Qu.d]) (by simp; simp at hn; omega)
          simp only [List.length_append, List.length_singleton] at this
          exact this
        | false =>
          have c3 : slt l[i].key k = true := by
            cases c3 : slt l[i].key k with
            | true => rfl
            | false => exact absurd (slt_tri c3 c2) c1
          obtain ⟨e2, e3⟩ := s2 rfl c3
          repeat' (first | (simp (disch := omega) only [go_sem, seval, reduceCtorEq, h1, h3, h4, c1', c2, m1, m2, maxBytes, hz, quRow_length]) | with_reducible exact Ev.mk | ((first | apply x_split | apply x_splitg) <;> intro hβ hb <;> (simp (disch := omega) only [go_sem, seval, reduceCtorEq, h1, h3, h4, c1', c2, m1, m2, maxBytes, hz, quRow_length, hβ]) <;> clear hβ))
          refine i_lk (W_round ?_)
          (try simp (disch := omega) only [go_sem, seval, reduceCtorEq, quRow_one', quRow_append])
          exact go1 l[i] false e2.symm e3 (Nat.le_refl _)

theorem ps_enqueue (l : List Qu) (b : Bool) (k : ByteArray) (x : Int) (w : Bool) (hl : l.length ≤ 100000) (hq : ∀ q ∈ l, q.reqs.length ≤ 100000) (ha : AscD (l.map Qu.d)) :
    ∃ out : List Qu, out.map Qu.d = enq k (x, w) (l.map Qu.d) ∧ PS tb 42 [.slice b (quRow l), .str k, .int .i64 x, .bool w] (.slice false (quRow out)) := by
  have q0 := ps_push [] true x w (by simp)
  rw [rqRow_nil, List.nil_append] at q0
  have hz : ∀ (k : ByteArray) (b : Bool) (l : List Rq), allSz 2 [[PV.str k, PV.slice b (rqRow l)]] = true := fun k b l => rfl
  have wk : W tb a42.body { env := initEnv 0 ([PV.slice b (quRow l), .str k, .int .i64 x, .bool w].map ofPV), heap := [], next := 0, marks := [0] }
      (Done a42.results fun v s => ∃ q : { out : List Qu // out.map Qu.d = enq k (x, w) (l.map Qu.d) }, pur s.heap dep v = some (.slice false (quRow q.1))) := by
    unfold a42
    dsimp only [List.map, ofPV, initEnv]
    repeat' (first | (simp (disch := omega) only [go_sem, seval, reduceCtorEq]) | with_reducible exact Ev.mk | ((first | apply x_split | apply x_splitg) <;> intro hβ hb <;> (simp (disch := omega) only [go_sem, seval, reduceCtorEq, hβ]) <;> clear hβ))
    refine W_round ?_
    (try simp (disch := omega) only [go_sem, seval, reduceCtorEq])
    refine l_enqueue l b k x w hl hq ha _ ?_ l.length 0 (by omega) [] false rfl rfl (by simp)
    intro out ho hn
    have m1 : (out.length + 1) * 40 ≤ 140737488355328 := by omega
    have m2 : out.length + 1 ≤ 140737488355328 := by omega
    obtain ⟨e1, e2⟩ := eq_end (k := k) (r := (x, w)) (l := l.map Qu.d)
    cases hd : eqDone k (l.map Qu.d) with
    | true =>
      repeat' (first | (simp (disch := omega) only [go_sem, seval, reduceCtorEq, hd]) | with_reducible exact Ev.mk | ((first | apply x_split | apply x_splitg) <;> intro hβ hb <;> (simp (disch := omega) only [go_sem, seval, reduceCtorEq, hd, hβ]) <;> clear hβ))
      refine ⟨⟨out, by rw [e1 hd, ho]⟩, ?_⟩
      simp [pur, dep, aget, quRow_length, quRow_take, List.take_of_length_le]
    | false =>
      repeat' (first | exact q0 | (simp (disch := omega) only [go_sem, seval, reduceCtorEq, hd, m1, m2, maxBytes, hz, quRow_length]) | with_reducible exact Ev.mk | apply x_call | ((first | apply x_split | apply x_splitg) <;> intro hβ hb <;> (simp (disch := omega) only [go_sem, seval, reduceCtorEq, hd, m1, m2, maxBytes, hz, quRow_length, hβ]) <;> clear hβ))
      refine ⟨⟨out ++ [⟨k, false, [(x, w)]⟩], by rw [e2 hd, List.map_append, ho]; rfl⟩, ?_⟩
      simp [pur, dep, aget, quRow_length, quRow_take, List.take_of_length_le, quRow_one', quRow_append]
  obtain ⟨⟨out, ho⟩, h⟩ := PS_ex (T := tb) (f := 42) (af := a42) rfl rfl wk
  exact ⟨out, ho, h⟩


/-! ## L14 -/

def getQ : List Qd → ByteArray → List Rq
  | [], _ => []
  | q :: l, k => if q.1 = k then q.2 else getQ l k
def NeQ (l : List Qd) : Prop := ∀ q ∈ l, q.2 ≠ []

theorem getQ_none {k : ByteArray} : ∀ {l : List Qd}, (∀ p ∈ l, p.1 ≠ k) → getQ l k = []
  | [], _ => rfl
  | q :: l, h => by
    rw [getQ, if_neg (h q (by simp))]
    exact getQ_none fun p hp => h p (List.mem_cons_of_mem _ hp)

theorem getQ_mem {q : Qd} : ∀ {l : List Qd}, AscD l → q ∈ l → getQ l q.1 = q.2
  | [], _, h => by cases h
  | p :: l, ha, h => by
    rcases List.mem_cons.1 h with e | e
    · subst e; rw [getQ, if_pos rfl]
    · have := (List.pairwise_cons.1 ha).1 q e
      rw [getQ, if_neg (slt_ne this)]
      exact getQ_mem (List.pairwise_cons.1 ha).2 e

theorem getQ_has {k : ByteArray} : ∀ {l : List Qd}, getQ l k ≠ [] → (k, getQ l k) ∈ l
  | [], h => absurd rfl h
  | p :: l, h => by
    by_cases e : p.1 = k
    · rw [getQ, if_pos e]; rw [← e]; simp
    · rw [getQ, if_neg e] at h ⊢
      exact List.mem_cons_of_mem _ (getQ_has h)

theorem getQ_enq {k k' : ByteArray} {r : Rq} : ∀ {l : List Qd}, AscD l → getQ (enq k r l) k' = if k' = k then getQ l k ++ [r] else getQ l k'
  | [], _ => by
    by_cases e : k' = k
    · subst e; simp [enq, getQ]
    · have e2 : ¬ k = k' := fun h => e h.symm
      rw [if_neg e]
      show (if k = k' then [r] else []) = []
      rw [if_neg e2]
  | q :: l, ha => by
    have ha2 := List.pairwise_cons.1 ha
    cases c : slt q.1 k with
    | true =>
      have hn : q.1 ≠ k := slt_ne c
      have ih := getQ_enq (k := k) (k' := k') (r := r) ha2.2
      rw [enq, c, if_pos rfl, getQ, getQ, getQ, if_neg hn, ih]
      by_cases e : k' = k
      · subst e; rw [if_neg hn, if_pos rfl, if_pos rfl]
      · rw [if_neg e, if_neg e]
    | false =>
      rw [enq, c, if_neg (by simp)]
      by_cases hn : q.1 = k
      · rw [if_pos hn, getQ, getQ, getQ, if_pos hn]
        by_cases e : k' = k
        · subst e; rw [if_pos hn, if_pos rfl]
        · have : ¬ q.1 = k' := fun h => e (h.symm.trans hn)
          rw [if_neg this, if_neg e, if_neg this]
      · rw [if_neg hn, getQ]
        by_cases e : k' = k
        · subst e
          rw [if_pos rfl, if_pos rfl]
          have : slt k' q.1 = true := by
            cases c2 : slt k' q.1 with
            | true => rfl
            | false => exact absurd (slt_tri c c2) hn
          rw [getQ_none (l := q :: l)]
          · rfl
          · intro p hp
            rcases List.mem_cons.1 hp with h | h
            · rw [h]; exact hn
            · exact (slt_ne (slt_trans this (ha2.1 p h))).symm
        · rw [if_neg (fun h => e h.symm), if_neg e]

theorem qext : ∀ {l l' : List Qd}, AscD l → AscD l' → NeQ l → NeQ l' → (∀ k, getQ l k = getQ l' k) → l = l'
  | [], [], _, _, _, _, _ => rfl
  | [], b :: l', _, h2, _, n2, h => by
    have := h b.1
    rw [getQ_mem h2 (by simp)] at this
    exact absurd this.symm (n2 b (by simp))
  | a :: l, [], h1, _, n1, _, h => by
    have := h a.1
    rw [getQ_mem h1 (by simp)] at this
    exact absurd this (n1 a (by simp))
  | a :: l, b :: l', h1, h2, n1, n2, h => by
    have p1 := List.pairwise_cons.1 h1
    have p2 := List.pairwise_cons.1 h2
    have e : a.1 = b.1 := by
      cases c1 : slt a.1 b.1 with
      | true =>
        have := h a.1
        rw [getQ_mem h1 (by simp), getQ_none (l := b :: l')] at this
        · exact absurd this (n1 a (by simp))
        · intro p hp
          rcases List.mem_cons.1 hp with e | e
          · rw [e]; exact (slt_ne c1).symm
          · exact (slt_ne (slt_trans c1 (p2.1 p e))).symm
      | false =>
        cases c2 : slt b.1 a.1 with
        | true =>
          have := h b.1
          rw [getQ_mem h2 (by simp), getQ_none (l := a :: l)] at this
          · exact absurd this.symm (n2 b (by simp))
          · intro p hp
            rcases List.mem_cons.1 hp with e | e
            · rw [e]; exact (slt_ne c2).symm
            · exact (slt_ne (slt_trans c2 (p1.1 p e))).symm
        | false => exact slt_tri c1 c2
    have e2 : a.2 = b.2 := by
      have := h a.1
      rw [getQ, if_pos rfl, e, getQ, if_pos rfl] at this
      exact this
    have e3 : a = b := Prod.ext e e2
    subst e3
    congr 1
    refine qext p1.2 p2.2 (fun q hq => n1 q (List.mem_cons_of_mem _ hq)) (fun q hq => n2 q (List.mem_cons_of_mem _ hq)) fun k => ?_
    by_cases c : a.1 = k
    · subst c
      rw [getQ_none fun p hp => (slt_ne (p1.1 p hp)).symm, getQ_none fun p hp => (slt_ne (p2.1 p hp)).symm]
    · have := h k
      rw [getQ, getQ, if_neg c, if_neg c] at this
      exact this

/-! ### many keys -/

def enqK (f : ByteArray → Rq) (ks : List ByteArray) (qs : List Qd) : List Qd := ks.foldl (fun q k => enq k (f k) q) qs

theorem enqs_eq (ks : List ByteArray) (r : Rq) (qs : List Qd) : enqs ks r qs = enqK (fun _ => r) ks qs := rfl

theorem AscD.enqK (f : ByteArray → Rq) : ∀ (ks : List ByteArray) {qs : List Qd}, AscD qs → AscD (enqK f ks qs)
  | [], _, h => h
  | k :: ks, _, h => AscD.enqK f ks (h.enq k (f k))

theorem NeQ.enq {qs : List Qd} (h : NeQ qs) (k : ByteArray) (r : Rq) : NeQ (enq k r qs) := fun q hq => by
  rcases enq_mem hq with a | a | ⟨p, b, c, d⟩
  · exact h q a
  · rw [a]; simp
  · rw [d]; simp
theorem NeQ.enqK (f : ByteArray → Rq) : ∀ (ks : List ByteArray) {qs : List Qd}, NeQ qs → NeQ (enqK f ks qs)
  | [], _, h => h
  | k :: ks, _, h => NeQ.enqK f ks (h.enq k (f k))

theorem getQ_enqK (f : ByteArray → Rq) (k : ByteArray) : ∀ (ks : List ByteArray) {qs : List Qd}, AscD qs → ks.Nodup → getQ (enqK f ks qs) k = getQ qs k ++ if hasB ks k then [f k] else []
  | [], qs, _, _ => by
    have : hasB [] k = false := rfl
    rw [this]
    simp [Go.Dv.Try.enqK]
  | a :: ks, qs, h, hn => by
    have hn2 := List.nodup_cons.1 hn
    have ih := getQ_enqK f k ks (h.enq a (f a)) hn2.2
    have e : Go.Dv.Try.enqK f (a :: ks) qs = Go.Dv.Try.enqK f ks (enq a (f a) qs) := rfl
    rw [e, ih, getQ_enq h]
    by_cases c : k = a
    · subst c
      have h1 : hasB ks k = false := hasB_no.2 hn2.1
      have h2 : hasB (k :: ks) k = true := hasB_iff.2 (by simp)
      rw [if_pos rfl, h1, h2]
      simp
    · rw [if_neg c]
      cases c2 : hasB ks k with
      | true =>
        have h2 : hasB (a :: ks) k = true := hasB_iff.2 (List.mem_cons_of_mem _ (hasB_iff.1 c2))
        rw [h2]
      | false =>
        have h2 : hasB (a :: ks) k = false := hasB_no.2 fun e => by
          rcases List.mem_cons.1 e with e | e
          · exact c e
          · exact hasB_no.1 c2 e
        rw [h2]

theorem nodup_strict {l : List ByteArray} (h : Strict l) : l.Nodup := List.Pairwise.imp (fun {a b} h => slt_ne h) h

theorem mem_other {w r : List ByteArray} {k : ByteArray} : k ∈ other w r ↔ k ∈ r ∧ k ∉ w := by
  unfold other
  rw [List.mem_filter]
  constructor
  · rintro ⟨h1, h2⟩
    exact ⟨h1, by rw [← hasB_no]; simpa using h2⟩
  · rintro ⟨h1, h2⟩
    exact ⟨h1, by rw [hasB_no.2 h2]; rfl⟩

/-- What a transaction lays into the queue of a key. -/
def lockOf (f : Ft) (x : Int) (k : ByteArray) : List Rq := if hasB f.w k then [(x, true)] else if hasB f.r k then [(x, false)] else []

theorem getQ_req {f : Ft} (hr : f.r.Nodup) (hw : f.w.Nodup) (x : Int) {qs : List Qd} (h : AscD qs) (k : ByteArray) : getQ (enqs (other f.w f.r) (x, false) (enqs f.w (x, true) qs)) k = getQ qs k ++ lockOf f x k := by
  have hno : (other f.w f.r).Nodup := List.Nodup.sublist List.filter_sublist hr
  rw [enqs_eq, enqs_eq, getQ_enqK _ _ _ (AscD.enqK _ _ h) hno, getQ_enqK _ _ _ h hw, List.append_assoc]
  congr 1
  unfold lockOf
  cases c : hasB f.w k with
  | true =>
    have h2 : hasB (other f.w f.r) k = false := hasB_no.2 fun e => (mem_other.1 e).2 (hasB_iff.1 c)
    rw [h2]; rfl
  | false =>
    cases c2 : hasB f.r k with
    | true =>
      have h2 : hasB (other f.w f.r) k = true := hasB_iff.2 (mem_other.2 ⟨hasB_iff.1 c2, hasB_no.1 c⟩)
      rw [h2]; rfl
    | false =>
      have h2 : hasB (other f.w f.r) k = false := hasB_no.2 fun e => hasB_no.1 c2 (mem_other.1 e).1
      rw [h2]; rfl

theorem getQ_rreq {f : Ft} {ks : List ByteArray} (hk : ks.Nodup) (hm : ∀ k, k ∈ ks ↔ k ∈ f.r ∨ k ∈ f.w) (x : Int) {qs : List Qd} (h : AscD qs) (k : ByteArray) : getQ (enqK (fun k => (x, hasB f.w k)) ks qs) k = getQ qs k ++ lockOf f x k := by
  rw [getQ_enqK _ _ _ h hk]
  congr 1
  unfold lockOf
  cases c : hasB f.w k with
  | true =>
    have h2 : hasB ks k = true := hasB_iff.2 ((hm k).2 (.inr (hasB_iff.1 c)))
    rw [h2]; rfl
  | false =>
    cases c2 : hasB f.r k with
    | true =>
      have h2 : hasB ks k = true := hasB_iff.2 ((hm k).2 (.inl (hasB_iff.1 c2)))
      rw [h2]; rfl
    | false =>
      have h2 : hasB ks k = false := hasB_no.2 fun e => ((hm k).1 e).elim (hasB_no.1 c2) (hasB_no.1 c)
      rw [h2]; rfl

theorem rreq_eq {f : Ft} {ks : List ByteArray} (hr : f.r.Nodup) (hw : f.w.Nodup) (hk : ks.Nodup) (hm : ∀ k, k ∈ ks ↔ k ∈ f.r ∨ k ∈ f.w) (x : Int) {qs : List Qd} (h : AscD qs) (hn : NeQ qs) :
    enqK (fun k => (x, hasB f.w k)) ks qs = enqs (other f.w f.r) (x, false) (enqs f.w (x, true) qs) := by
  refine qext (AscD.enqK _ _ h) (AscD.enqK _ _ (AscD.enqK _ _ h)) (NeQ.enqK _ _ hn) (NeQ.enqK _ _ (NeQ.enqK _ _ hn)) fun k => ?_
  rw [getQ_rreq hk hm x h, getQ_req hr hw x h]

theorem validD_ne {t : Td} (h : validD t = true) : NeQ t.2 := by
  unfold validD at h
  rw [Bool.and_eq_true] at h
  have h2 := all_range.1 h.2
  intro q hq
  obtain ⟨i, hi, rfl⟩ := List.getElem_of_mem hq
  have := h2 i hi
  rw [Bool.and_eq_true] at this
  have := this.1
  unfold okQ at this
  simp only [Bool.and_eq_true, decide_eq_true_eq] at this
  have h3 := this.1.2
  rw [List.getD_eq_getElem?_getD, List.getElem?_eq_getElem hi] at h3
  intro e
  rw [Option.getD_some, e] at h3
  simp at h3

theorem validF_nodup {f : Ft} (h : validF f = true) : f.r.Nodup ∧ f.w.Nodup := by
  unfold validF at h
  split at h
  · simp only [Bool.and_eq_true, decide_eq_true_eq] at h
    rw [List.length_eq_zero_iff.1 h.1, List.length_eq_zero_iff.1 h.2]
    simp
  · simp only [Bool.and_eq_true, decide_eq_true_eq] at h
    exact ⟨nodup_strict (ascB_iff.1 h.1.1).2, nodup_strict (ascB_iff.1 h.2.1).2⟩


/-! ## L15 -/

theorem l_rreq (ks : List ByteArray) (bk : Bool) (hk : ks.length ≤ 1000) (w : List ByteArray) (bw : Bool) (hw : w.length ≤ 1000) (c0 c1 : PV) (x : Int) (G : List Rq) (F : List Qd) (K : Ex → St → Prop)
    (hx : ∀ (q : List Qu) (b : Bool), q.map Qu.d = F → K (.exit 0) ⟨[(6, .ptr 2 0), (8, .ptr 3 0)], [(3, .var false [.p (.slice false (rqRow G)), .p (.slice b (quRow q))]), (2, .var false [.p (.slice true []), .p (.slice true [])])], 4, [0]⟩) :
    ∀ (m i : Nat), i + m = ks.length → ∀ (q : List Qu) (b : Bool), enqK (fun k => (x, hasB w k)) (ks.drop i) (q.map Qu.d) = F → AscD (q.map Qu.d) → Bd (50000 + i) (q.map Qu.d) →
    W tb a15_l0 ⟨[(1, .p (.int .i64 x)), (5, .ptr 1 0), (6, .ptr 2 0), (8, .ptr 3 0), (9, .p (.slice bk (strRow ks))), (10, .p (.int .i64 i))], [(3, .var false [.p (.slice false (rqRow G)), .p (.slice b (quRow q))]), (2, .var false [.p (.slice true []), .p (.slice true [])]), (1, .var false [.p c0, .p c1, .p (.slice bw (strRow w))])], 4, [0]⟩ (LK tb (.ghost (.free [3]) (.ghost .lower a15_l0)) K) := by
  intro m
  induction m with
  | zero =>
    rintro i hi q b hF hA hB
    have h1 : ¬ (i : Int) < ks.length := by omega
    rw [List.drop_eq_nil_of_le (by omega)] at hF
    refine i_code (by unfold a15_l0; exact rfl) ?_
    repeat' (first | (simp (disch := omega) only [go_sem, seval, reduceCtorEq, h1, strRow_length]) | with_reducible exact Ev.mk | ((first | apply x_split | apply x_splitg) <;> intro hβ hb <;> (simp (disch := omega) only [go_sem, seval, reduceCtorEq, h1, strRow_length, hβ]) <;> clear hβ))
    exact hx q b hF
  | succ m ih =>
    rintro i hi q b hF hA hB
    have h1 : (i : Int) < ks.length := by omega
    have h2 : i < ks.length := by omega
    have h4 : (0 : Int) ≤ i := by omega
    have h3 := strRow_get ks i h2
    rw [List.drop_eq_getElem_cons h2] at hF
    have hhas := ps_has w ks[i] bw hw
    obtain ⟨out, ho, he⟩ := ps_enqueue q b ks[i] x (hasB w ks[i]) (by have := hB.1; rw [List.length_map] at this; omega) (fun p hp => by have := hB.2 p.d (List.mem_map_of_mem hp); simp only [Qu.d] at this; omega) hA
    refine i_code (by unfold a15_l0; exact rfl) ?_
    repeat' (first | exact hhas | exact he | (simp (disch := omega) only [go_sem, seval, reduceCtorEq, h1, h3, h4, strRow_length]) | with_reducible exact Ev.mk | apply x_call | ((first | apply x_split | apply x_splitg) <;> intro hβ hb <;> (simp (disch := omega) only [go_sem, seval, reduceCtorEq, h1, h3, h4, strRow_length, hβ]) <;> clear hβ))
    refine i_lk (W_round ?_)
    (try simp (disch := omega) only [go_sem, seval, reduceCtorEq])
    exact ih (i + 1) (by omega) out false (by rw [ho, ← hF]; rfl) (by rw [ho]; exact hA.enq _ _) (by rw [ho]; exact hB.enq _ _)

theorem keysR_of {f : Ft} (h : validF f = true) : (keysR f).Nodup ∧ ∀ k, k ∈ keysR f ↔ k ∈ f.r ∨ k ∈ f.w := by
  unfold keysR
  rw [if_pos h]
  refine ⟨nodup_strict (strict_insAll _ (strict_insAll _ List.Pairwise.nil)), fun k => ?_⟩
  rw [mem_insAll, mem_insAll]
  simp

theorem keysR_length (f : Ft) : (keysR f).length ≤ f.r.length + f.w.length := by
  unfold keysR
  split
  · have h1 := insAll_length f.w (insAll [] f.r)
    have h2 := insAll_length f.r []
    simp at h2; omega
  · simp

theorem ps_rrequest (t : Tb) (x : Int) (f : Ft) (hg : t.g.length ≤ 49000) (hl : t.qs.length ≤ 49000) (hq : ∀ q ∈ t.qs, q.reqs.length ≤ 49000 ∧ q.key.size ≤ 1000) (hf : ShF f) (hfl : f.r.length ≤ 400 ∧ f.w.length ≤ 400) :
    ∃ a : Tb, a.d = (reqD t.d x f).1 ∧ PS tb 15 [.agg (tbC t), .int .i64 x, .agg (ftC f)] (.tuple [.agg (tbC a), .int .i64 (reqD t.d x f).2]) := by
  have v1 := ps_rvalidT t (by omega) (by omega) (fun q h => ⟨by have := (hq q h).1; omega, (hq q h).2⟩)
  have v2 := ps_rvalid f hf
  have v3 := ps_find t.g t.gf x (by omega)
  have v4 := ps_push t.g t.gf x f.all (by omega)
  obtain ⟨bk, v5⟩ := ps_rkeys f hf hfl
  have w : W tb a15.body { env := initEnv 0 ([PV.agg (tbC t), PV.int .i64 x, PV.agg (ftC f)].map ofPV), heap := [], next := 0, marks := [0] }
      (Done a15.results fun v s => ∃ q : { a : Tb // a.d = (reqD t.d x f).1 }, pur s.heap dep v = some (.tuple [.agg (tbC q.1), .int .i64 (reqD t.d x f).2])) := by
    generalize hR : (fun (v : DV) (s : St) => ∃ q : { a : Tb // a.d = (reqD t.d x f).1 }, pur s.heap dep v = some (.tuple [.agg (tbC q.1), .int .i64 (reqD t.d x f).2])) = R
    have hR' : ∀ (v : DV) (s : St) (a : Tb), a.d = (reqD t.d x f).1 → pur s.heap dep v = some (.tuple [.agg (tbC a), .int .i64 (reqD t.d x f).2]) → R v s := fun v s a h1 h2 => by
      subst hR; exact ⟨⟨a, h1⟩, h2⟩
    clear hR
    unfold a15
    dsimp only [List.map, ofPV, initEnv, tbC, ftC] at v1 v2 v3 v4 v5 ⊢
    have td : t.d.1 = t.g := rfl
    have bad : ∀ (e : Int) (v : DV) (s : St), reqD t.d x f = (([], []), e) → pur s.heap dep v = some (.tuple [.agg (tbC T0), .int .i64 e]) → R v s := fun e v s h h2 => hR' v s T0 (by rw [h]; rfl) (by rw [h]; exact h2)
    cases c1 : validD t.d with
    | false =>
      rw [c1] at v1
      repeat' (first | exact v1 | (simp (disch := omega) only [go_sem, seval, reduceCtorEq, c1]) | with_reducible exact Ev.mk | apply x_call | ((first | apply x_split | apply x_splitg) <;> intro hβ hb <;> (simp (disch := omega) only [go_sem, seval, reduceCtorEq, c1, hβ]) <;> clear hβ))
      exact bad 1 _ _ (by simp [reqD, c1]) rfl
    | true =>
      rw [c1] at v1
      cases c2 : validF f with
      | false =>
        rw [c2] at v2
        repeat' (first | exact v1 | exact v2 | (simp (disch := omega) only [go_sem, seval, reduceCtorEq]) | with_reducible exact Ev.mk | apply x_call | ((first | apply x_split | apply x_splitg) <;> intro hβ hb <;> (simp (disch := omega) only [go_sem, seval, reduceCtorEq, hβ]) <;> clear hβ))
        exact bad 1 _ _ (by simp [reqD, c1, c2]) rfl
      | true =>
        rw [c2] at v2
        by_cases c3 : x < 0
        · repeat' (first | exact v1 | exact v2 | (simp (disch := omega) only [go_sem, seval, reduceCtorEq, c3]) | with_reducible exact Ev.mk | apply x_call | ((first | apply x_split | apply x_splitg) <;> intro hβ hb <;> (simp (disch := omega) only [go_sem, seval, reduceCtorEq, c3, hβ]) <;> clear hβ))
          exact bad 1 _ _ (by simp [reqD, c1, c2, c3]) rfl
        · by_cases c4 : idxN t.g x < t.g.length
          · rw [idxI_pos c4] at v3
            have k1 : (0 : Int) ≤ ((idxN t.g x : Nat) : Int) := by omega
            repeat' (first | exact v1 | exact v2 | exact v3 | (simp (disch := omega) only [go_sem, seval, reduceCtorEq, c3, k1]) | with_reducible exact Ev.mk | apply x_call | ((first | apply x_split | apply x_splitg) <;> intro hβ hb <;> (simp (disch := omega) only [go_sem, seval, reduceCtorEq, c3, k1, hβ]) <;> clear hβ))
            exact bad 8 _ _ (by simp [reqD, c1, c2, c3, td, c4]) rfl
          · rw [idxI_neg c4] at v3
            have fin : lastR t.g x = false → ∀ (q : List Qu) (b : Bool) (v : DV) (s : St), q.map Qu.d = enqK (fun k => (x, hasB f.w k)) (keysR f) t.d.2 → pur s.heap dep v = some (.tuple [.agg [.slice false (rqRow (t.g ++ [(x, f.all)])), .slice b (quRow q)], .int .i64 0]) → R v s := fun hl0 q b v s h1 h2 => by
              obtain ⟨n1, n2⟩ := validF_nodup c2
              obtain ⟨n3, n4⟩ := keysR_of c2
              have hres : reqD t.d x f = ((t.g ++ [(x, f.all)], enqs (other f.w f.r) (x, false) (enqs f.w (x, true) t.d.2)), 0) := by
                unfold reqD
                rw [c1, c2, decide_eq_false c3, if_neg (show ¬ idxN t.d.1 x < t.d.1.length from c4), show lastR t.d.1 x = false from hl0]
                rfl
              refine hR' v s ⟨false, t.g ++ [(x, f.all)], b, q⟩ ?_ (by rw [hres]; exact h2)
              rw [hres, ← rreq_eq n1 n2 n3 n4 x (validD_asc c1) (validD_ne c1), ← h1]
              rfl
            by_cases c5 : t.g.length = 0
            · have k1 : ¬ (0 : Int) < (t.g.length : Int) := by omega
              have hl0 : lastR t.g x = false := by unfold lastR; rw [decide_eq_false (by omega)]; rfl
              repeat' (first | exact v1 | exact v2 | exact v3 | exact v4 | exact v5 | (simp (disch := omega) only [go_sem, seval, reduceCtorEq, c3, k1, rqRow_length]) | with_reducible exact Ev.mk | apply x_call | ((first | apply x_split | apply x_splitg) <;> intro hβ hb <;> (simp (disch := omega) only [go_sem, seval, reduceCtorEq, c3, k1, rqRow_length, hβ]) <;> clear hβ))
              refine W_round ?_
              (try simp (disch := omega) only [go_sem, seval, reduceCtorEq])
              refine l_rreq (keysR f) bk (by have := keysR_length f; omega) f.w f.bw hf.2.1 _ _ x (t.g ++ [(x, f.all)]) _ _ ?_ (keysR f).length 0 (by omega) t.qs t.qf rfl (validD_asc c1) ⟨by simp; omega, fun q hq' => by
                obtain ⟨p, hp, rfl⟩ := List.mem_map.1 hq'
                have := (hq p hp).1
                simp [Qu.d]; omega⟩
              intro q b hq2
              (try simp (disch := omega) only [go_sem, seval, reduceCtorEq])
              exact fin hl0 q b _ _ hq2 rfl
            · have k1 : (0 : Int) < (t.g.length : Int) := by omega
              have k2 : (0 : Int) ≤ (t.g.length : Int) - 1 := by omega
              have k3 : (t.g.length : Int) - 1 = ((t.g.length - 1 : Nat) : Int) := by omega
              have h5 := rqRow_get t.g (t.g.length - 1) (by omega)
              have hl5 : lastR t.g x = decide (x < (t.g[t.g.length - 1]'(by omega)).1) := by
                unfold lastR
                rw [getD_rq t.g (t.g.length - 1) (by omega), decide_eq_true (by omega : 0 < t.g.length), Bool.true_and]
              have k4 : (0 : Int) ≤ ((t.g.length - 1 : Nat) : Int) := by omega
              by_cases c6 : x < (t.g[t.g.length - 1]'(by omega)).1
              · repeat' (first | exact v1 | exact v2 | exact v3 | (simp (disch := omega) only [go_sem, seval, reduceCtorEq, c3, k1, k3, k4, h5, c6, rqRow_length]) | with_reducible exact Ev.mk | apply x_call | ((first | apply x_split | apply x_splitg) <;> intro hβ hb <;> (simp (disch := omega) only [go_sem, seval, reduceCtorEq, c3, k1, k3, k4, h5, c6, rqRow_length, hβ]) <;> clear hβ))
                exact bad 16 _ _ (by simp [reqD, c1, c2, c3, td, c4, hl5, c6]) rfl
              · have hl0 : lastR t.g x = false := by rw [hl5, decide_eq_false c6]
                repeat' (first | exact v1 | exact v2 | exact v3 | exact v4 | exact v5 | (simp (disch := omega) only [go_sem, seval, reduceCtorEq, c3, k1, k3, k4, h5, c6, rqRow_length]) | with_reducible exact Ev.mk | apply x_call | ((first | apply x_split | apply x_splitg) <;> intro hβ hb <;> (simp (disch := omega) only [go_sem, seval, reduceCtorEq, c3, k1, k3, k4, h5, c6, rqRow_length, hβ]) <;> clear hβ))
                refine W_round ?_
                (try simp (disch := omega) only [go_sem, seval, reduceCtorEq])
                refine l_rreq (keysR f) bk (by have := keysR_length f; omega) f.w f.bw hf.2.1 _ _ x (t.g ++ [(x, f.all)]) _ _ ?_ (keysR f).length 0 (by omega) t.qs t.qf rfl (validD_asc c1) ⟨by simp; omega, fun q hq' => by
                  obtain ⟨p, hp, rfl⟩ := List.mem_map.1 hq'
                  have := (hq p hp).1
                  simp [Qu.d]; omega⟩
                intro q b hq2
                (try simp (disch := omega) only [go_sem, seval, reduceCtorEq])
                exact fin hl0 q b _ _ hq2 rfl
  obtain ⟨⟨a, ha⟩, h⟩ := PS_ex (T := tb) (f := 15) (af := a15) rfl rfl w
  exact ⟨a, ha, h⟩


/-! ## L16 -/

/-! ### without -/

theorem l_rwo (l : List Rq) (b : Bool) (x : Int) (hl : l.length ≤ 100000) (K : Ex → St → Prop)
    (hx : ∀ acc : List Rq, acc = l.filter (notX x) → K (.exit 0) ⟨[(5, .ref 0 acc.length 0 acc.length)], [(0, .row false 2 (rqRow acc))], 1, [0]⟩) :
    ∀ (m i : Nat), i + m = l.length → ∀ acc : List Rq, acc = (l.take i).filter (notX x) →
    W tb a53_l0 ⟨[(0, .p (.slice b (rqRow l))), (1, .p (.int .i64 x)), (5, .ref 0 acc.length 0 acc.length), (6, .p (.int .i64 i))], [(0, .row false 2 (rqRow acc))], 1, [0]⟩ (LK tb (.ghost .lower a53_l0) K) := by
  intro m
  induction m with
  | zero =>
    rintro i hi acc hd
    have h1 : ¬ (i : Int) < l.length := by omega
    rw [List.take_of_length_le (by omega)] at hd
    refine i_code (by unfold a53_l0; exact rfl) ?_
    repeat' (first | (simp (disch := omega) only [go_sem, seval, reduceCtorEq, h1, rqRow_length]) | with_reducible exact Ev.mk | ((first | apply x_split | apply x_splitg) <;> intro hβ hb <;> (simp (disch := omega) only [go_sem, seval, reduceCtorEq, h1, rqRow_length, hβ]) <;> clear hβ))
    exact hx acc hd
  | succ m ih =>
    rintro i hi acc hd
    have h1 : (i : Int) < l.length := by omega
    have h2 : i < l.length := by omega
    have h4 : (0 : Int) ≤ i := by omega
    have h3 := rqRow_get l i h2
    have hal : acc.length ≤ 100000 := by
      rw [hd]
      have := List.length_filter_le (notX x) (l.take i)
      rw [List.length_take] at this
      omega
    have m1 : (acc.length + 1) * 16 ≤ 140737488355328 := by omega
    have m2 : acc.length + 1 ≤ 140737488355328 := by omega
    have hz : ∀ x b, allSz 2 [[PV.int IntKind.i64 x, PV.bool b]] = true := fun x b => rfl
    have hstep : (l.take (i + 1)).filter (notX x) = acc ++ if notX x l[i] then [l[i]] else [] := by
      rw [List.take_add_one, List.filter_append, hd, List.getElem?_eq_getElem h2]
      cases hc : notX x l[i] <;> simp [hc]
    have ho : [[PV.int IntKind.i64 l[i].1, PV.bool l[i].2]] = rqRow [l[i]] := rfl
    refine i_code (by unfold a53_l0; exact rfl) ?_
    cases c : notX x l[i] with
    | true =>
      have c' : (l[i].1 == x) = false := by simpa [notX] using c
      rw [c, if_pos rfl] at hstep
      repeat' (first | (simp (disch := omega) only [go_sem, seval, reduceCtorEq, h1, h3, h4, c', m1, m2, maxBytes, hz, rqRow_length, bne]) | with_reducible exact Ev.mk | ((first | apply x_split | apply x_splitg) <;> intro hβ hb <;> (simp (disch := omega) only [go_sem, seval, reduceCtorEq, h1, h3, h4, c', m1, m2, maxBytes, hz, rqRow_length, bne, hβ]) <;> clear hβ))
      refine i_lk (W_round ?_)
      (try simp (disch := omega) only [go_sem, seval, reduceCtorEq, ho, rqRow_append])
      have := ih (i + 1) (by omega) (acc ++ [l[i]]) hstep.symm
      rw [List.length_append, List.length_singleton] at this
      exact this
    | false =>
      have c' : (l[i].1 == x) = true := by simpa [notX] using c
      rw [c, if_neg (by simp), List.append_nil] at hstep
      repeat' (first | (simp (disch := omega) only [go_sem, seval, reduceCtorEq, h1, h3, h4, c', rqRow_length, bne]) | with_reducible exact Ev.mk | ((first | apply x_split | apply x_splitg) <;> intro hβ hb <;> (simp (disch := omega) only [go_sem, seval, reduceCtorEq, h1, h3, h4, c', rqRow_length, bne, hβ]) <;> clear hβ))
      refine i_lk (W_round ?_)
      (try simp (disch := omega) only [go_sem, seval, reduceCtorEq])
      exact ih (i + 1) (by omega) acc hstep.symm

theorem ps_rwithout (l : List Rq) (b : Bool) (x : Int) (hl : l.length ≤ 100000) : PS tb 53 [.slice b (rqRow l), .int .i64 x] (.slice false (rqRow (l.filter (notX x)))) := by
  refine PS_of (af := a53) rfl rfl ?_
  unfold a53
  dsimp only [List.map, ofPV, initEnv]
  repeat' (first | (simp (disch := omega) only [go_sem, seval, reduceCtorEq]) | with_reducible exact Ev.mk | ((first | apply x_split | apply x_splitg) <;> intro hβ hb <;> (simp (disch := omega) only [go_sem, seval, reduceCtorEq, hβ]) <;> clear hβ))
  refine W_round ?_
  (try simp (disch := omega) only [go_sem, seval, reduceCtorEq])
  refine l_rwo l b x hl _ ?_ l.length 0 (by omega) [] rfl
  intro acc hacc
  (try simp (disch := omega) only [go_sem, seval, reduceCtorEq])
  rw [hacc]
  simp [pur, dep, aget, rqRow_length, rqRow_take, List.take_of_length_le]

/-! ### Release -/

theorem l_rrel1 (qs : List Qu) (qf gf : Bool) (g : List Rq) (x : Int) (hl : qs.length ≤ 100000) (hq : ∀ q ∈ qs, q.reqs.length ≤ 100000) (G : PV) (K : Ex → St → Prop)
    (hx : ∀ acc : List Qu, acc.map Qu.d = relQ x (qs.map Qu.d) → K (.exit 0) ⟨[(4, .ptr 1 0), (6, .ptr 2 0)], [(4, .row false 2 (quRow acc)), (2, .var false [.p G, .ref 4 acc.length 0 acc.length]), (1, .var false [.p (.slice true []), .p (.slice true [])])], 5, [0]⟩) :
    ∀ (m i : Nat), i + m = qs.length → ∀ acc : List Qu, acc.length ≤ i → acc.map Qu.d = relQ x ((qs.take i).map Qu.d) →
    W tb a27_l0 ⟨[(1, .p (.int .i64 x)), (2, .ptr 0 0), (4, .ptr 1 0), (6, .ptr 2 0), (7, .p (.int .i64 i))], [(4, .row false 2 (quRow acc)), (2, .var false [.p G, .ref 4 acc.length 0 acc.length]), (1, .var false [.p (.slice true []), .p (.slice true [])]), (0, .var false [.p (.slice gf (rqRow g)), .p (.slice qf (quRow qs))])], 5, [0]⟩ (LK tb (.ghost (.free [8]) (.ghost .lower a27_l0)) K) := by
  intro m
  induction m with
  | zero =>
    rintro i hi acc ha hd
    have h1 : ¬ (i : Int) < qs.length := by omega
    rw [List.take_of_length_le (by omega)] at hd
    refine i_code (by unfold a27_l0; exact rfl) ?_
    repeat' (first | (simp (disch := omega) only [go_sem, seval, reduceCtorEq, h1, quRow_length]) | with_reducible exact Ev.mk | ((first | apply x_split | apply x_splitg) <;> intro hβ hb <;> (simp (disch := omega) only [go_sem, seval, reduceCtorEq, h1, quRow_length, hβ]) <;> clear hβ))
    exact hx acc hd
  | succ m ih =>
    rintro i hi acc ha hd
    have h1 : (i : Int) < qs.length := by omega
    have h2 : i < qs.length := by omega
    have h4 : (0 : Int) ≤ i := by omega
    have h3 := quRow_get qs i h2
    have hrl := hq _ (List.getElem_mem h2)
    have hw := ps_rwithout qs[i].reqs qs[i].fl x hrl
    have hs := relQ_snoc x ((qs.take i).map Qu.d) (qs[i].key, qs[i].reqs)
    rw [← map_take_succ qs i h2, ← hd] at hs
    have m1 : (acc.length + 1) * 40 ≤ 140737488355328 := by omega
    have m2 : acc.length + 1 ≤ 140737488355328 := by omega
    refine i_code (by unfold a27_l0; exact rfl) ?_
    by_cases c : 0 < (qs[i].reqs.filter (notX x)).length
    · have c' : (0 : Int) < ((qs[i].reqs.filter (notX x)).length : Int) := by omega
      have hz : allSz 2 (quRow [wq x qs[i]]) = true := allSz_quRow _
      rw [← quRow_one] at hz
      rw [if_pos c] at hs
      repeat' (first | exact hw | (simp (disch := omega) only [go_sem, seval, reduceCtorEq, h1, h3, h4, c', rqRow_length, quRow_length, m1, m2, maxBytes, hz, List.set_cons_succ, List.set_cons_zero]) | with_reducible exact Ev.mk | apply x_call | ((first | apply x_split | apply x_splitg) <;> intro hβ hb <;> (simp (disch := omega) only [go_sem, seval, reduceCtorEq, h1, h3, h4, c', rqRow_length, quRow_length, m1, m2, maxBytes, hz, List.set_cons_succ, List.set_cons_zero, hβ]) <;> clear hβ))
      refine i_lk (W_round ?_)
      (try simp (disch := omega) only [go_sem, seval, reduceCtorEq, quRow_one, quRow_append])
      have := ih (i + 1) (by omega) (acc ++ [wq x qs[i]]) (by simp; omega) (by rw [hs]; simp [wq, Qu.d])
      rw [List.length_append, List.length_singleton] at this
      exact this
    · have c' : ¬ (0 : Int) < ((qs[i].reqs.filter (notX x)).length : Int) := by omega
      rw [if_neg c, List.append_nil] at hs
      repeat' (first | exact hw | (simp (disch := omega) only [go_sem, seval, reduceCtorEq, h1, h3, h4, c', rqRow_length, quRow_length]) | with_reducible exact Ev.mk | apply x_call | ((first | apply x_split | apply x_splitg) <;> intro hβ hb <;> (simp (disch := omega) only [go_sem, seval, reduceCtorEq, h1, h3, h4, c', rqRow_length, quRow_length, hβ]) <;> clear hβ))
      refine i_lk (W_round ?_)
      (try simp (disch := omega) only [go_sem, seval, reduceCtorEq])
      exact ih (i + 1) (by omega) acc (by omega) hs.symm

theorem l_rrel0 (qs : List Qu) (qf gf : Bool) (g : List Rq) (x : Int) (hl : qs.length ≤ 100000) (hq : ∀ q ∈ qs, q.reqs.length ≤ 100000) (G : PV) (K : Ex → St → Prop)
    (hx : ∀ acc : List Qu, acc.map Qu.d = relQ x (qs.map Qu.d) → K (.exit 0) ⟨[(4, .ptr 1 0), (6, .ptr 2 0)], [(4, .row false 2 (quRow acc)), (2, .var false [.p G, .ref 4 acc.length 0 acc.length]), (1, .var false [.p (.slice true []), .p (.slice true [])])], 5, [0]⟩)
    (hx0 : relQ x (qs.map Qu.d) = [] → K (.exit 0) ⟨[(4, .ptr 1 0), (6, .ptr 2 0)], [(2, .var false [.p G, .p (.slice true [])]), (1, .var false [.p (.slice true []), .p (.slice true [])])], 3, [0]⟩) :
    ∀ (m i : Nat), i + m = qs.length → relQ x ((qs.take i).map Qu.d) = [] →
    W tb a27_l0 ⟨[(1, .p (.int .i64 x)), (2, .ptr 0 0), (4, .ptr 1 0), (6, .ptr 2 0), (7, .p (.int .i64 i))], [(2, .var false [.p G, .p (.slice true [])]), (1, .var false [.p (.slice true []), .p (.slice true [])]), (0, .var false [.p (.slice gf (rqRow g)), .p (.slice qf (quRow qs))])], 3, [0]⟩ (LK tb (.ghost (.free [8]) (.ghost .lower a27_l0)) K) := by
  intro m
  induction m with
  | zero =>
    rintro i hi hd
    have h1 : ¬ (i : Int) < qs.length := by omega
    rw [List.take_of_length_le (by omega)] at hd
    refine i_code (by unfold a27_l0; exact rfl) ?_
    repeat' (first | (simp (disch := omega) only [go_sem, seval, reduceCtorEq, h1, quRow_length]) | with_reducible exact Ev.mk | ((first | apply x_split | apply x_splitg) <;> intro hβ hb <;> (simp (disch := omega) only [go_sem, seval, reduceCtorEq, h1, quRow_length, hβ]) <;> clear hβ))
    exact hx0 hd
  | succ m ih =>
    rintro i hi hd
    have h1 : (i : Int) < qs.length := by omega
    have h2 : i < qs.length := by omega
    have h4 : (0 : Int) ≤ i := by omega
    have h3 := quRow_get qs i h2
    have hrl := hq _ (List.getElem_mem h2)
    have hw := ps_rwithout qs[i].reqs qs[i].fl x hrl
    have hs := relQ_snoc x ((qs.take i).map Qu.d) (qs[i].key, qs[i].reqs)
    rw [← map_take_succ qs i h2, hd] at hs
    refine i_code (by unfold a27_l0; exact rfl) ?_
    by_cases c : 0 < (qs[i].reqs.filter (notX x)).length
    · have c' : (0 : Int) < ((qs[i].reqs.filter (notX x)).length : Int) := by omega
      have hz : allSz 2 (quRow [wq x qs[i]]) = true := allSz_quRow _
      rw [← quRow_one] at hz
      rw [if_pos c] at hs
      repeat' (first | exact hw | (simp (disch := omega) only [go_sem, seval, reduceCtorEq, h1, h3, h4, c', rqRow_length, quRow_length, maxBytes, hz, List.set_cons_succ, List.set_cons_zero]) | with_reducible exact Ev.mk | apply x_call | ((first | apply x_split | apply x_splitg) <;> intro hβ hb <;> (simp (disch := omega) only [go_sem, seval, reduceCtorEq, h1, h3, h4, c', rqRow_length, quRow_length, maxBytes, hz, List.set_cons_succ, List.set_cons_zero, hβ]) <;> clear hβ))
      refine i_lk (W_round ?_)
      (try simp (disch := omega) only [go_sem, seval, reduceCtorEq, quRow_one, quRow_append])
      exact l_rrel1 qs qf gf g x hl hq G K hx m (i + 1) (by omega) [wq x qs[i]] (by simp) (by rw [hs]; simp [wq, Qu.d])
    · have c' : ¬ (0 : Int) < ((qs[i].reqs.filter (notX x)).length : Int) := by omega
      rw [if_neg c, List.append_nil] at hs
      repeat' (first | exact hw | (simp (disch := omega) only [go_sem, seval, reduceCtorEq, h1, h3, h4, c', rqRow_length, quRow_length]) | with_reducible exact Ev.mk | apply x_call | ((first | apply x_split | apply x_splitg) <;> intro hβ hb <;> (simp (disch := omega) only [go_sem, seval, reduceCtorEq, h1, h3, h4, c', rqRow_length, quRow_length, hβ]) <;> clear hβ))
      refine i_lk (W_round ?_)
      (try simp (disch := omega) only [go_sem, seval, reduceCtorEq])
      exact ih (i + 1) (by omega) hs

theorem ps_rrelease (t : Tb) (x : Int) (hg : t.g.length ≤ 100000) (hl : t.qs.length ≤ 100000) (hq : ∀ q ∈ t.qs, q.reqs.length ≤ 100000 ∧ q.key.size ≤ 1000) :
    ∃ a : Tb, a.d = (relD t.d x).1 ∧ PS tb 27 [.agg (tbC t), .int .i64 x] (.tuple [.agg (tbC a), .int .i64 (relD t.d x).2]) := by
  have v1 := ps_rvalidT t hg hl hq
  have v3 := ps_find t.g t.gf x hg
  have v4 := ps_rwithout t.g t.gf x hg
  have w : W tb a27.body { env := initEnv 0 ([PV.agg (tbC t), PV.int .i64 x].map ofPV), heap := [], next := 0, marks := [0] }
      (Done a27.results fun v s => ∃ q : { a : Tb // a.d = (relD t.d x).1 }, pur s.heap dep v = some (.tuple [.agg (tbC q.1), .int .i64 (relD t.d x).2])) := by
    generalize hR : (fun (v : DV) (s : St) => ∃ q : { a : Tb // a.d = (relD t.d x).1 }, pur s.heap dep v = some (.tuple [.agg (tbC q.1), .int .i64 (relD t.d x).2])) = R
    have hR' : ∀ (v : DV) (s : St) (a : Tb), a.d = (relD t.d x).1 → pur s.heap dep v = some (.tuple [.agg (tbC a), .int .i64 (relD t.d x).2]) → R v s := fun v s a h1 h2 => by
      subst hR; exact ⟨⟨a, h1⟩, h2⟩
    clear hR
    unfold a27
    dsimp only [List.map, ofPV, initEnv, tbC] at v1 v3 v4 ⊢
    have td : t.d.1 = t.g := rfl
    have bad : ∀ (e : Int) (v : DV) (s : St), relD t.d x = (([], []), e) → pur s.heap dep v = some (.tuple [.agg (tbC T0), .int .i64 e]) → R v s := fun e v s h h2 => hR' v s T0 (by rw [h]; rfl) (by rw [h]; exact h2)
    cases c1 : validD t.d with
    | false =>
      rw [c1] at v1
      repeat' (first | exact v1 | (simp (disch := omega) only [go_sem, seval, reduceCtorEq, c1]) | with_reducible exact Ev.mk | apply x_call | ((first | apply x_split | apply x_splitg) <;> intro hβ hb <;> (simp (disch := omega) only [go_sem, seval, reduceCtorEq, c1, hβ]) <;> clear hβ))
      exact bad 1 _ _ (by simp [relD, c1]) rfl
    | true =>
      rw [c1] at v1
      by_cases c4 : idxN t.g x < t.g.length
      · rw [idxI_pos c4] at v3
        have k1 : ¬ ((idxN t.g x : Nat) : Int) < 0 := by omega
        repeat' (first | exact v1 | exact v3 | exact v4 | (simp (disch := omega) only [go_sem, seval, reduceCtorEq, k1, quRow_length]) | with_reducible exact Ev.mk | apply x_call | ((first | apply x_split | apply x_splitg) <;> intro hβ hb <;> (simp (disch := omega) only [go_sem, seval, reduceCtorEq, k1, quRow_length, hβ]) <;> clear hβ))
        refine W_round ?_
        (try simp (disch := omega) only [go_sem, seval, reduceCtorEq])
        have hres : relD t.d x = ((t.g.filter (notX x), relQ x (t.qs.map Qu.d)), 0) := by
          unfold relD
          rw [c1, if_neg (by simp), if_pos (show idxN t.d.1 x < t.d.1.length from c4)]
          rfl
        refine l_rrel0 t.qs t.qf t.gf t.g x hl (fun q h => (hq q h).1) _ _ ?_ ?_ t.qs.length 0 (by omega) rfl
        · intro acc hacc
          (try simp (disch := omega) only [go_sem, seval, reduceCtorEq])
          refine hR' _ _ ⟨false, t.g.filter (notX x), false, acc⟩ (by rw [hres, ← hacc]; rfl) ?_
          rw [hres]
          simp [pur, dep, aget, mapO, tbC, quRow_length, List.take_of_length_le]
        · intro h0
          (try simp (disch := omega) only [go_sem, seval, reduceCtorEq])
          refine hR' _ _ ⟨false, t.g.filter (notX x), true, []⟩ (by rw [hres, h0]; rfl) ?_
          rw [hres]
          rfl
      · rw [idxI_neg c4] at v3
        repeat' (first | exact v1 | exact v3 | (simp (disch := omega) only [go_sem, seval, reduceCtorEq]) | with_reducible exact Ev.mk | apply x_call | ((first | apply x_split | apply x_splitg) <;> intro hβ hb <;> (simp (disch := omega) only [go_sem, seval, reduceCtorEq, hβ]) <;> clear hβ))
        exact bad 9 _ _ (by simp [relD, c1, td, c4]) rfl
  obtain ⟨⟨a, ha⟩, h⟩ := PS_ex (T := tb) (f := 27) (af := a27) rfl rfl w
  exact ⟨a, ha, h⟩

/-! ### comparing -/

theorem eq_of_upto {α : Type} [Inhabited α] {l r : List α} (hl : l.length = r.length) (h : ∀ (j : Nat) (h1 : j < l.length) (h2 : j < r.length), l[j] = r[j]) : l = r := List.ext_getElem hl fun j h1 h2 => h j h1 h2

theorem l_same (l r : List Rq) (b c : Bool) (hlr : l.length = r.length) (hl : l.length ≤ 100000) (K : Ex → St → Prop)
    (hx : l = r → K (.exit 0) ⟨[], [], 0, [0]⟩)
    (hr : l ≠ r → ∀ s', aget s'.env 4 = some (.p (.bool false)) → K .ret s') : ∀ (m i : Nat), i + m = l.length → (∀ (j : Nat) (h1 : j < l.length) (h2 : j < r.length), j < i → l[j] = r[j]) →
    W tb a48_l0 ⟨[(0, .p (.slice b (rqRow l))), (1, .p (.slice c (rqRow r))), (5, .p (.int .i64 i))], [], 0, [0]⟩ (LK tb (.ghost .lower a48_l0) K) := by
  intro m
  induction m with
  | zero =>
    rintro i hi ht
    have h1 : ¬ (i : Int) < l.length := by omega
    refine i_code (by unfold a48_l0; exact rfl) ?_
    repeat' (first | (simp (disch := omega) only [go_sem, seval, reduceCtorEq, h1, rqRow_length]) | with_reducible exact Ev.mk | ((first | apply x_split | apply x_splitg) <;> intro hβ hb <;> (simp (disch := omega) only [go_sem, seval, reduceCtorEq, h1, rqRow_length, hβ]) <;> clear hβ))
    exact hx (eq_of_upto hlr fun j h1 h2 => ht j h1 h2 (by omega))
  | succ m ih =>
    rintro i hi ht
    have h1 : (i : Int) < l.length := by omega
    have h1' : (i : Int) < r.length := by omega
    have h2 : i < l.length := by omega
    have h2' : i < r.length := by omega
    have h4 : (0 : Int) ≤ i := by omega
    have h3 := rqRow_get l i h2
    have h3' := rqRow_get r i h2'
    have ne : l[i] ≠ r[i] → l ≠ r := fun h e => by subst e; exact h rfl
    refine i_code (by unfold a48_l0; exact rfl) ?_
    by_cases c1 : l[i].1 = r[i].1
    · by_cases c2 : l[i].2 = r[i].2
      · have e : l[i] = r[i] := Prod.ext c1 c2
        have d1 : (l[i].1 == r[i].1) = true := by simp [c1]
        have d2 : (l[i].2 == r[i].2) = true := by simp [c2]
        repeat' (first | (simp (disch := omega) only [go_sem, seval, reduceCtorEq, h1, h1', h3, h3', h4, d1, d2, rqRow_length]) | with_reducible exact Ev.mk | ((first | apply x_split | apply x_splitg) <;> intro hβ hb <;> (simp (disch := omega) only [go_sem, seval, reduceCtorEq, h1, h1', h3, h3', h4, d1, d2, rqRow_length, hβ]) <;> clear hβ))
        refine i_lk (W_round ?_)
        (try simp (disch := omega) only [go_sem, seval, reduceCtorEq])
        refine ih (i + 1) (by omega) fun j g1 g2 g3 => ?_
        rcases Nat.lt_or_ge j i with g | g
        · exact ht j g1 g2 g
        · have : j = i := by omega
          subst this; exact e
      · have d1 : (l[i].1 == r[i].1) = true := by simp [c1]
        have d2 : (l[i].2 == r[i].2) = false := by simp [c2]
        repeat' (first | (simp (disch := omega) only [go_sem, seval, reduceCtorEq, h1, h1', h3, h3', h4, d1, d2, rqRow_length]) | with_reducible exact Ev.mk | ((first | apply x_split | apply x_splitg) <;> intro hβ hb <;> (simp (disch := omega) only [go_sem, seval, reduceCtorEq, h1, h1', h3, h3', h4, d1, d2, rqRow_length, hβ]) <;> clear hβ))
        exact hr (ne fun e => c2 (by rw [e])) _ rfl
    · have d1 : (l[i].1 == r[i].1) = false := by simp [c1]
      repeat' (first | (simp (disch := omega) only [go_sem, seval, reduceCtorEq, h1, h1', h3, h3', h4, d1, rqRow_length]) | with_reducible exact Ev.mk | ((first | apply x_split | apply x_splitg) <;> intro hβ hb <;> (simp (disch := omega) only [go_sem, seval, reduceCtorEq, h1, h1', h3, h3', h4, d1, rqRow_length, hβ]) <;> clear hβ))
      all_goals exact hr (ne fun e => c1 (by rw [e])) _ rfl

theorem ps_sameReqs (l r : List Rq) (b c : Bool) (hl : l.length ≤ 100000) : PS tb 48 [.slice b (rqRow l), .slice c (rqRow r)] (.bool (decide (l = r))) := by
  refine PS_of (af := a48) rfl rfl ?_
  unfold a48
  dsimp only [List.map, ofPV, initEnv]
  by_cases e : l.length = r.length
  · have h1 : ((l.length : Int) == r.length) = true := by simp [e]
    repeat' (first | (simp (disch := omega) only [go_sem, seval, reduceCtorEq, h1, rqRow_length, bne]) | with_reducible exact Ev.mk | ((first | apply x_split | apply x_splitg) <;> intro hβ hb <;> (simp (disch := omega) only [go_sem, seval, reduceCtorEq, h1, rqRow_length, bne, hβ]) <;> clear hβ))
    refine W_round ?_
    (try simp (disch := omega) only [go_sem, seval, reduceCtorEq])
    refine l_same l r b c e hl _ ?_ ?_ l.length 0 (by omega) (fun j _ _ h => by omega)
    · intro h
      repeat' (first | (simp (disch := omega) only [go_sem, seval, reduceCtorEq]) | with_reducible exact Ev.mk | ((first | apply x_split | apply x_splitg) <;> intro hβ hb <;> (simp (disch := omega) only [go_sem, seval, reduceCtorEq, hβ]) <;> clear hβ))
      all_goals simp [pur, dep, h]
    · intro h s' hs
      (try simp (disch := omega) only [go_sem, seval, reduceCtorEq, hs])
      simp [pur, dep, h]
  · have h1 : ((l.length : Int) == r.length) = false := by rw [beq_eq_false_iff_ne]; omega
    have h2 : decide (l = r) = false := decide_eq_false fun h => e (by rw [h])
    repeat' (first | (simp (disch := omega) only [go_sem, seval, reduceCtorEq, h1, rqRow_length, bne]) | with_reducible exact Ev.mk | ((first | apply x_split | apply x_splitg) <;> intro hβ hb <;> (simp (disch := omega) only [go_sem, seval, reduceCtorEq, h1, rqRow_length, bne, hβ]) <;> clear hβ))
    all_goals simp [pur, dep, h2]

theorem l_ints (l r : List Int) (b c : Bool) (hlr : l.length = r.length) (hl : l.length ≤ 100000) (K : Ex → St → Prop)
    (hx : l = r → K (.exit 0) ⟨[], [], 0, [0]⟩)
    (hr : l ≠ r → ∀ s', aget s'.env 4 = some (.p (.bool false)) → K .ret s') : ∀ (m i : Nat), i + m = l.length → (∀ (j : Nat) (h1 : j < l.length) (h2 : j < r.length), j < i → l[j] = r[j]) →
    W tb a21_l0 ⟨[(0, .p (.slice b (intCells l))), (1, .p (.slice c (intCells r))), (5, .p (.int .i64 i))], [], 0, [0]⟩ (LK tb (.ghost .lower a21_l0) K) := by
  intro m
  induction m with
  | zero =>
    rintro i hi ht
    have h1 : ¬ (i : Int) < l.length := by omega
    refine i_code (by unfold a21_l0; exact rfl) ?_
    repeat' (first | (simp (disch := omega) only [go_sem, seval, reduceCtorEq, h1, intCells_length]) | with_reducible exact Ev.mk | ((first | apply x_split | apply x_splitg) <;> intro hβ hb <;> (simp (disch := omega) only [go_sem, seval, reduceCtorEq, h1, intCells_length, hβ]) <;> clear hβ))
    exact hx (eq_of_upto hlr fun j h1 h2 => ht j h1 h2 (by omega))
  | succ m ih =>
    rintro i hi ht
    have h1 : (i : Int) < l.length := by omega
    have h1' : (i : Int) < r.length := by omega
    have h2 : i < l.length := by omega
    have h2' : i < r.length := by omega
    have h4 : (0 : Int) ≤ i := by omega
    have h3 := intCells_get l i h2
    have h3' := intCells_get r i h2'
    have ne : l[i] ≠ r[i] → l ≠ r := fun h e => by subst e; exact h rfl
    refine i_code (by unfold a21_l0; exact rfl) ?_
    by_cases c1 : l[i] = r[i]
    · have d1 : (l[i] == r[i]) = true := by simp [c1]
      repeat' (first | (simp (disch := omega) only [go_sem, seval, reduceCtorEq, h1, h1', h3, h3', h4, d1, intCells_length, bne]) | with_reducible exact Ev.mk | ((first | apply x_split | apply x_splitg) <;> intro hβ hb <;> (simp (disch := omega) only [go_sem, seval, reduceCtorEq, h1, h1', h3, h3', h4, d1, intCells_length, bne, hβ]) <;> clear hβ))
      refine i_lk (W_round ?_)
      (try simp (disch := omega) only [go_sem, seval, reduceCtorEq])
      refine ih (i + 1) (by omega) fun j g1 g2 g3 => ?_
      rcases Nat.lt_or_ge j i with g | g
      · exact ht j g1 g2 g
      · have : j = i := by omega
        subst this; exact c1
    · have d1 : (l[i] == r[i]) = false := by simp [c1]
      repeat' (first | (simp (disch := omega) only [go_sem, seval, reduceCtorEq, h1, h1', h3, h3', h4, d1, intCells_length, bne]) | with_reducible exact Ev.mk | ((first | apply x_split | apply x_splitg) <;> intro hβ hb <;> (simp (disch := omega) only [go_sem, seval, reduceCtorEq, h1, h1', h3, h3', h4, d1, intCells_length, bne, hβ]) <;> clear hβ))
      all_goals exact hr (ne c1) _ rfl

theorem ps_ints (l r : List Int) (b c : Bool) (hl : l.length ≤ 100000) : PS tb 21 [.slice b (intCells l), .slice c (intCells r)] (.bool (decide (l = r))) := by
  refine PS_of (af := a21) rfl rfl ?_
  unfold a21
  dsimp only [List.map, ofPV, initEnv]
  by_cases e : l.length = r.length
  · have h1 : ((l.length : Int) == r.length) = true := by simp [e]
    repeat' (first | (simp (disch := omega) only [go_sem, seval, reduceCtorEq, h1, intCells_length, bne]) | with_reducible exact Ev.mk | ((first | apply x_split | apply x_splitg) <;> intro hβ hb <;> (simp (disch := omega) only [go_sem, seval, reduceCtorEq, h1, intCells_length, bne, hβ]) <;> clear hβ))
    refine W_round ?_
    (try simp (disch := omega) only [go_sem, seval, reduceCtorEq])
    refine l_ints l r b c e hl _ ?_ ?_ l.length 0 (by omega) (fun j _ _ h => by omega)
    · intro h
      repeat' (first | (simp (disch := omega) only [go_sem, seval, reduceCtorEq]) | with_reducible exact Ev.mk | ((first | apply x_split | apply x_splitg) <;> intro hβ hb <;> (simp (disch := omega) only [go_sem, seval, reduceCtorEq, hβ]) <;> clear hβ))
      all_goals simp [pur, dep, h]
    · intro h s' hs
      (try simp (disch := omega) only [go_sem, seval, reduceCtorEq, hs])
      simp [pur, dep, h]
  · have h1 : ((l.length : Int) == r.length) = false := by rw [beq_eq_false_iff_ne]; omega
    have h2 : decide (l = r) = false := decide_eq_false fun h => e (by rw [h])
    repeat' (first | (simp (disch := omega) only [go_sem, seval, reduceCtorEq, h1, intCells_length, bne]) | with_reducible exact Ev.mk | ((first | apply x_split | apply x_splitg) <;> intro hβ hb <;> (simp (disch := omega) only [go_sem, seval, reduceCtorEq, h1, intCells_length, bne, hβ]) <;> clear hβ))
    all_goals simp [pur, dep, h2]


/-! ## L17 -/

/-! ### Same -/

theorem l_sameT (l r : List Qu) (b c gf hf : Bool) (g h : List Rq) (hlr : l.length = r.length) (hl : l.length ≤ 100000) (hq : ∀ q ∈ l, q.reqs.length ≤ 100000) (K : Ex → St → Prop)
    (hx : l.map Qu.d = r.map Qu.d → K (.exit 0) ⟨[], [], 0, [0]⟩)
    (hr : l.map Qu.d ≠ r.map Qu.d → ∀ s', aget s'.env 4 = some (.p (.bool false)) → K .ret s') : ∀ (m i : Nat), i + m = l.length → (∀ (j : Nat) (h1 : j < l.length) (h2 : j < r.length), j < i → l[j].d = r[j].d) →
    W tb a18_l0 ⟨[(2, .ptr 0 0), (3, .ptr 1 0), (5, .p (.int .i64 i))], [(1, .var false [.p (.slice hf (rqRow h)), .p (.slice c (quRow r))]), (0, .var false [.p (.slice gf (rqRow g)), .p (.slice b (quRow l))])], 2, [0]⟩ (LK tb (.ghost .lower a18_l0) K) := by
  intro m
  induction m with
  | zero =>
    rintro i hi ht
    have h1 : ¬ (i : Int) < l.length := by omega
    refine i_code (by unfold a18_l0; exact rfl) ?_
    repeat' (first | (simp (disch := omega) only [go_sem, seval, reduceCtorEq, h1, quRow_length]) | with_reducible exact Ev.mk | ((first | apply x_split | apply x_splitg) <;> intro hβ hb <;> (simp (disch := omega) only [go_sem, seval, reduceCtorEq, h1, quRow_length, hβ]) <;> clear hβ))
    refine hx (List.ext_getElem (by simp [hlr]) fun j h1 h2 => ?_)
    rw [List.getElem_map, List.getElem_map]
    exact ht j _ _ (by simp at h1; omega)
  | succ m ih =>
    rintro i hi ht
    have h1 : (i : Int) < l.length := by omega
    have h1' : (i : Int) < r.length := by omega
    have h2 : i < l.length := by omega
    have h2' : i < r.length := by omega
    have h4 : (0 : Int) ≤ i := by omega
    have h3 := quRow_get l i h2
    have h3' := quRow_get r i h2'
    have hrl := hq _ (List.getElem_mem h2)
    have hs := ps_sameReqs l[i].reqs r[i].reqs l[i].fl r[i].fl hrl
    have ne : l[i].d ≠ r[i].d → l.map Qu.d ≠ r.map Qu.d := fun h e => by
      have e1 : (l.map Qu.d)[i]'(by simpa using h2) = (r.map Qu.d)[i]'(by simpa using h2') := by simp only [e]
      rw [List.getElem_map, List.getElem_map] at e1
      exact h e1
    refine i_code (by unfold a18_l0; exact rfl) ?_
    by_cases c1 : l[i].key = r[i].key
    · have d1 : decide (l[i].key = r[i].key) = true := decide_eq_true c1
      by_cases c2 : l[i].reqs = r[i].reqs
      · rw [decide_eq_true c2] at hs
        have e : l[i].d = r[i].d := Prod.ext c1 c2
        repeat' (first | exact hs | (simp (disch := omega) only [go_sem, seval, reduceCtorEq, h1, h1', h3, h3', h4, d1, quRow_length]) | with_reducible exact Ev.mk | apply x_call | ((first | apply x_split | apply x_splitg) <;> intro hβ hb <;> (simp (disch := omega) only [go_sem, seval, reduceCtorEq, h1, h1', h3, h3', h4, d1, quRow_length, hβ]) <;> clear hβ))
        refine i_lk (W_round ?_)
        (try simp (disch := omega) only [go_sem, seval, reduceCtorEq])
        refine ih (i + 1) (by omega) fun j g1 g2 g3 => ?_
        rcases Nat.lt_or_ge j i with g | g
        · exact ht j g1 g2 g
        · have : j = i := by omega
          subst this; exact e
      · rw [decide_eq_false c2] at hs
        repeat' (first | exact hs | (simp (disch := omega) only [go_sem, seval, reduceCtorEq, h1, h1', h3, h3', h4, d1, quRow_length]) | with_reducible exact Ev.mk | apply x_call | ((first | apply x_split | apply x_splitg) <;> intro hβ hb <;> (simp (disch := omega) only [go_sem, seval, reduceCtorEq, h1, h1', h3, h3', h4, d1, quRow_length, hβ]) <;> clear hβ))
        exact hr (ne fun e => c2 (congrArg Prod.snd e)) _ rfl
    · have d1 : decide (l[i].key = r[i].key) = false := decide_eq_false c1
      repeat' (first | exact hs | (simp (disch := omega) only [go_sem, seval, reduceCtorEq, h1, h1', h3, h3', h4, d1, quRow_length]) | with_reducible exact Ev.mk | apply x_call | ((first | apply x_split | apply x_splitg) <;> intro hβ hb <;> (simp (disch := omega) only [go_sem, seval, reduceCtorEq, h1, h1', h3, h3', h4, d1, quRow_length, hβ]) <;> clear hβ))
      all_goals exact hr (ne fun e => c1 (congrArg Prod.fst e)) _ rfl

theorem ps_same (t u : Tb) (hg : t.g.length ≤ 100000) (hl : t.qs.length ≤ 100000) (hq : ∀ q ∈ t.qs, q.reqs.length ≤ 100000) : PS tb 18 [.agg (tbC t), .agg (tbC u)] (.bool (decide (t.d = u.d))) := by
  have hs := ps_sameReqs t.g u.g t.gf u.gf hg
  refine PS_of (af := a18) rfl rfl ?_
  unfold a18
  dsimp only [List.map, ofPV, initEnv, tbC]
  by_cases e0 : t.g = u.g
  · rw [decide_eq_true e0] at hs
    by_cases e : t.qs.length = u.qs.length
    · have h1 : ((t.qs.length : Int) == u.qs.length) = true := by simp [e]
      repeat' (first | exact hs | (simp (disch := omega) only [go_sem, seval, reduceCtorEq, h1, quRow_length, bne]) | with_reducible exact Ev.mk | apply x_call | ((first | apply x_split | apply x_splitg) <;> intro hβ hb <;> (simp (disch := omega) only [go_sem, seval, reduceCtorEq, h1, quRow_length, bne, hβ]) <;> clear hβ))
      refine W_round ?_
      (try simp (disch := omega) only [go_sem, seval, reduceCtorEq])
      refine l_sameT t.qs u.qs t.qf u.qf t.gf u.gf t.g u.g e hl hq _ ?_ ?_ t.qs.length 0 (by omega) (fun j _ _ h => by omega)
      · intro h
        have d : t.d = u.d := Prod.ext e0 h
        repeat' (first | (simp (disch := omega) only [go_sem, seval, reduceCtorEq]) | with_reducible exact Ev.mk | ((first | apply x_split | apply x_splitg) <;> intro hβ hb <;> (simp (disch := omega) only [go_sem, seval, reduceCtorEq, hβ]) <;> clear hβ))
        all_goals simp [pur, dep, d]
      · intro h s' hs
        have d : ¬ t.d = u.d := fun x => h (congrArg Prod.snd x)
        (try simp (disch := omega) only [go_sem, seval, reduceCtorEq, hs])
        simp [pur, dep, d]
    · have h1 : ((t.qs.length : Int) == u.qs.length) = false := by rw [beq_eq_false_iff_ne]; omega
      have d : ¬ t.d = u.d := fun x => e (by have := congrArg (fun y : Td => y.2.length) x; simpa [Tb.d] using this)
      repeat' (first | exact hs | (simp (disch := omega) only [go_sem, seval, reduceCtorEq, h1, quRow_length, bne]) | with_reducible exact Ev.mk | apply x_call | ((first | apply x_split | apply x_splitg) <;> intro hβ hb <;> (simp (disch := omega) only [go_sem, seval, reduceCtorEq, h1, quRow_length, bne, hβ]) <;> clear hβ))
      all_goals simp [pur, dep, d]
  · rw [decide_eq_false e0] at hs
    have d : ¬ t.d = u.d := fun x => e0 (congrArg Prod.fst x)
    repeat' (first | exact hs | (simp (disch := omega) only [go_sem, seval, reduceCtorEq]) | with_reducible exact Ev.mk | apply x_call | ((first | apply x_split | apply x_splitg) <;> intro hβ hb <;> (simp (disch := omega) only [go_sem, seval, reduceCtorEq, hβ]) <;> clear hβ))
    all_goals simp [pur, dep, d]

/-! ### has, blockers -/

theorem l_ihas (l : List Int) (b : Bool) (x : Int) (hl : l.length ≤ 1000000000) (K : Ex → St → Prop)
    (hx : x ∉ l → K (.exit 0) ⟨[], [], 0, [0]⟩)
    (hr : x ∈ l → ∀ s', aget s'.env 4 = some (.p (.bool true)) → K .ret s') : ∀ (m i : Nat), i + m = l.length → (∀ (j : Nat) (h1 : j < l.length), j < i → l[j] ≠ x) →
    W tb a51_l0 ⟨[(0, .p (.slice b (intCells l))), (1, .p (.int .i64 x)), (5, .p (.int .i64 i))], [], 0, [0]⟩ (LK tb (.ghost .lower a51_l0) K) := by
  intro m
  induction m with
  | zero =>
    rintro i hi ht
    have h1 : ¬ (i : Int) < l.length := by omega
    refine i_code (by unfold a51_l0; exact rfl) ?_
    repeat' (first | (simp (disch := omega) only [go_sem, seval, reduceCtorEq, h1, intCells_length]) | with_reducible exact Ev.mk | ((first | apply x_split | apply x_splitg) <;> intro hβ hb <;> (simp (disch := omega) only [go_sem, seval, reduceCtorEq, h1, intCells_length, hβ]) <;> clear hβ))
    refine hx fun e => ?_
    obtain ⟨j, hj, rfl⟩ := List.getElem_of_mem e
    exact ht j hj (by omega) rfl
  | succ m ih =>
    rintro i hi ht
    have h1 : (i : Int) < l.length := by omega
    have h2 : i < l.length := by omega
    have h4 : (0 : Int) ≤ i := by omega
    have h3 := intCells_get l i h2
    refine i_code (by unfold a51_l0; exact rfl) ?_
    by_cases c : l[i] = x
    · have hc : (l[i] == x) = true := by simp [c]
      repeat' (first | (simp (disch := omega) only [go_sem, seval, reduceCtorEq, h1, h3, h4, hc, intCells_length]) | with_reducible exact Ev.mk | ((first | apply x_split | apply x_splitg) <;> intro hβ hb <;> (simp (disch := omega) only [go_sem, seval, reduceCtorEq, h1, h3, h4, hc, intCells_length, hβ]) <;> clear hβ))
      exact hr (by rw [← c]; exact List.getElem_mem h2) _ rfl
    · have hc : (l[i] == x) = false := by simp [c]
      repeat' (first | (simp (disch := omega) only [go_sem, seval, reduceCtorEq, h1, h3, h4, hc, intCells_length]) | with_reducible exact Ev.mk | ((first | apply x_split | apply x_splitg) <;> intro hβ hb <;> (simp (disch := omega) only [go_sem, seval, reduceCtorEq, h1, h3, h4, hc, intCells_length, hβ]) <;> clear hβ))
      refine i_lk (W_round ?_)
      (try simp (disch := omega) only [go_sem, seval, reduceCtorEq])
      refine ih (i + 1) (by omega) fun j hj hji => ?_
      rcases Nat.lt_or_ge j i with g | g
      · exact ht j hj g
      · have : j = i := by omega
        subst this; exact c

theorem ps_ihas (l : List Int) (b : Bool) (x : Int) (hl : l.length ≤ 1000000000) : PS tb 51 [.slice b (intCells l), .int .i64 x] (.bool (decide (x ∈ l))) := by
  refine PS_of (af := a51) rfl rfl ?_
  unfold a51
  dsimp only [List.map, ofPV, initEnv]
  repeat' (first | (simp (disch := omega) only [go_sem, seval, reduceCtorEq]) | with_reducible exact Ev.mk | ((first | apply x_split | apply x_splitg) <;> intro hβ hb <;> (simp (disch := omega) only [go_sem, seval, reduceCtorEq, hβ]) <;> clear hβ))
  refine W_round ?_
  (try simp (disch := omega) only [go_sem, seval, reduceCtorEq])
  refine l_ihas l b x hl _ ?_ ?_ l.length 0 (by omega) (fun j _ h => by omega)
  · intro h
    repeat' (first | (simp (disch := omega) only [go_sem, seval, reduceCtorEq]) | with_reducible exact Ev.mk | ((first | apply x_split | apply x_splitg) <;> intro hβ hb <;> (simp (disch := omega) only [go_sem, seval, reduceCtorEq, hβ]) <;> clear hβ))
    all_goals simp [pur, dep, h]
  · intro h s' hs
    (try simp (disch := omega) only [go_sem, seval, reduceCtorEq, hs])
    simp [pur, dep, h]

theorem l_blk (l : List Rq) (b : Bool) (hl : l.length ≤ 100000) (at_ : Nat) (hat : at_ < l.length) (id : Nat) (H : Heap) (nx mk : Nat) (K : Ex → St → Prop)
    (hx : ∀ acc : List Int, acc = ((l.take at_).filter (befF l at_)).map (·.1) → K (.exit 0) ⟨[(6, .ref id acc.length 0 acc.length)], (id, .row false 1 (intCells acc)) :: H, nx, [mk]⟩) :
    ∀ (m i : Nat), i + m = at_ → ∀ acc : List Int, acc = ((l.take i).filter (befF l at_)).map (·.1) →
    W tb a50_l0 ⟨[(0, .p (.slice b (rqRow l))), (5, .p (.int .i64 at_)), (6, .ref id acc.length 0 acc.length), (7, .p (.int .i64 i))], (id, .row false 1 (intCells acc)) :: H, nx, [mk]⟩ (LK tb a50_l0 K) := by
  intro m
  induction m with
  | zero =>
    rintro i hi acc hacc
    have h1 : ¬ (i : Int) < at_ := by omega
    have e : i = at_ := by omega
    subst e
    refine i_code (by unfold a50_l0; exact rfl) ?_
    repeat' (first | (simp (disch := omega) only [go_sem, seval, reduceCtorEq, h1]) | with_reducible exact Ev.mk | ((first | apply x_split | apply x_splitg) <;> intro hβ hb <;> (simp (disch := omega) only [go_sem, seval, reduceCtorEq, h1, hβ]) <;> clear hβ))
    exact hx acc hacc
  | succ m ih =>
    rintro i hi acc hacc
    have h1 : (i : Int) < at_ := by omega
    have h2 : i < l.length := by omega
    have h4 : (0 : Int) ≤ i := by omega
    have h4' : (0 : Int) ≤ at_ := by omega
    have h5 : (i : Int) < l.length := by omega
    have h6 : (at_ : Int) < l.length := by omega
    have h3 := rqRow_get l i h2
    have h3' := rqRow_get l at_ hat
    have hlen : acc.length ≤ 100000 := by
      rw [hacc, List.length_map]
      have := List.length_filter_le (befF l at_) (l.take i)
      rw [List.length_take] at this
      omega
    have m1 : (acc.length + 1) * 8 ≤ 140737488355328 := by omega
    have m2 : acc.length + 1 ≤ 140737488355328 := by omega
    have hz : ∀ v, allSz 1 [[PV.int .i64 v]] = true := fun v => rfl
    have hbf : befF l at_ l[i] = (l[i].2 || l[at_].2) := by unfold befF; rw [getD_rq l at_ hat]
    have hstep : (l.take (i + 1)).filter (befF l at_) = (l.take i).filter (befF l at_) ++ if befF l at_ l[i] then [l[i]] else [] := by
      rw [List.take_add_one, List.filter_append, List.getElem?_eq_getElem h2]
      cases hc : befF l at_ l[i] <;> simp [hc]
    have yes : befF l at_ l[i] = true → W tb a50_l0 ⟨[(0, .p (.slice b (rqRow l))), (5, .p (.int .i64 at_)), (6, .ref id (acc.length + 1) 0 (acc.length + 1)), (7, .p (.int .i64 ((i + 1 : Nat) : Int)))], (id, .row false 1 (intCells (acc ++ [l[i].1]))) :: H, nx, [mk]⟩ (LK tb a50_l0 K) := fun hb => by
      have := ih (i + 1) (by omega) (acc ++ [l[i].1]) (by rw [hstep, hb, hacc]; simp)
      rw [List.length_append, List.length_singleton] at this
      exact this
    have no : befF l at_ l[i] = false → _ := fun hb => ih (i + 1) (by omega) acc (by rw [hstep, hb, hacc]; simp)
    refine i_code (by unfold a50_l0; exact rfl) ?_
    cases w1 : l[i].2 with
    | true =>
      rw [w1] at h3 hbf
      repeat' (first | (simp (disch := omega) only [go_sem, seval, reduceCtorEq, h1, h3, h4, h5, m1, m2, maxBytes, hz, rqRow_length, intCells_length]) | with_reducible exact Ev.mk | ((first | apply x_split | apply x_splitg) <;> intro hβ hb <;> (simp (disch := omega) only [go_sem, seval, reduceCtorEq, h1, h3, h4, h5, m1, m2, maxBytes, hz, rqRow_length, intCells_length, hβ]) <;> clear hβ))
      refine i_lk (W_round ?_)
      (try simp (disch := omega) only [go_sem, seval, reduceCtorEq, intCells_one, intCells_app])
      exact yes (by rw [hbf]; rfl)
    | false =>
      cases w2 : l[at_].2 with
      | true =>
        rw [w1] at h3 hbf
        rw [w2] at h3' hbf
        repeat' (first | (simp (disch := omega) only [go_sem, seval, reduceCtorEq, h1, h3, h3', h4, h4', h5, h6, m1, m2, maxBytes, hz, rqRow_length, intCells_length]) | with_reducible exact Ev.mk | ((first | apply x_split | apply x_splitg) <;> intro hβ hb <;> (simp (disch := omega) only [go_sem, seval, reduceCtorEq, h1, h3, h3', h4, h4', h5, h6, m1, m2, maxBytes, hz, rqRow_length, intCells_length, hβ]) <;> clear hβ))
        refine i_lk (W_round ?_)
        (try simp (disch := omega) only [go_sem, seval, reduceCtorEq, intCells_one, intCells_app])
        exact yes (by rw [hbf]; rfl)
      | false =>
        rw [w1] at h3 hbf
        rw [w2] at h3' hbf
        repeat' (first | (simp (disch := omega) only [go_sem, seval, reduceCtorEq, h1, h3, h3', h4, h4', h5, h6, rqRow_length]) | with_reducible exact Ev.mk | ((first | apply x_split | apply x_splitg) <;> intro hβ hb <;> (simp (disch := omega) only [go_sem, seval, reduceCtorEq, h1, h3, h3', h4, h4', h5, h6, rqRow_length, hβ]) <;> clear hβ))
        refine i_lk (W_round ?_)
        (try simp (disch := omega) only [go_sem, seval, reduceCtorEq])
        exact no (by rw [hbf]; rfl)

theorem bs_blockers (l : List Rq) (b : Bool) (hl : l.length ≤ 100000) (x : Int) (H : Heap) (nx : Nat) (hf : aget H nx = none) :
    BS tb 50 [.p (.slice b (rqRow l)), .p (.int .i64 x)] H nx (.ref nx (beforeL l x).length 0 (beforeL l x).length) ((nx, .row false 1 (intCells (beforeL l x))) :: H) (nx + 1) := by
  have v3 := ps_find l b x hl
  refine BS_of (af := a50) rfl rfl ?_
  unfold a50
  dsimp only [initEnv]
  by_cases c : idxN l x < l.length
  · rw [idxI_pos c] at v3
    have hb : beforeL l x = ((l.take (idxN l x)).filter (befF l (idxN l x))).map (·.1) := by unfold beforeL; rw [if_pos c]
    repeat' (first | exact v3 | (simp (disch := omega) only [go_sem, seval, reduceCtorEq, hf]) | with_reducible exact Ev.mk | apply x_call | ((first | apply x_split | apply x_splitg) <;> intro hβ hb <;> (simp (disch := omega) only [go_sem, seval, reduceCtorEq, hf, hβ]) <;> clear hβ))
    refine W_round ?_
    (try simp (disch := omega) only [go_sem, seval, reduceCtorEq])
    refine l_blk l b hl (idxN l x) c nx H (nx + 1) nx _ ?_ (idxN l x) 0 (by omega) [] (by simp)
    intro acc2 h2
    (try simp (disch := omega) only [go_sem, seval, reduceCtorEq])
    rw [hb, ← h2]
    exact ⟨rfl, rfl⟩
  · rw [idxI_neg c] at v3
    have hb : beforeL l x = [] := by unfold beforeL; rw [if_neg c]
    repeat' (first | exact v3 | (simp (disch := omega) only [go_sem, seval, reduceCtorEq, hf]) | with_reducible exact Ev.mk | apply x_call | ((first | apply x_split | apply x_splitg) <;> intro hβ hb <;> (simp (disch := omega) only [go_sem, seval, reduceCtorEq, hf, hβ]) <;> clear hβ))
    refine W_round ?_
    refine i_code (by unfold a50_l0; exact rfl) ?_
    repeat' (first | (simp (disch := omega) only [go_sem, seval, reduceCtorEq]) | with_reducible exact Ev.mk | ((first | apply x_split | apply x_splitg) <;> intro hβ hb <;> (simp (disch := omega) only [go_sem, seval, reduceCtorEq, hβ]) <;> clear hβ))
    rw [hb]
    exact ⟨rfl, rfl⟩

theorem ps_blockers (l : List Rq) (b : Bool) (hl : l.length ≤ 100000) (x : Int) : PS tb 50 [.slice b (rqRow l), .int .i64 x] (.slice false (intCells (beforeL l x))) := by
  have v3 := ps_find l b x hl
  refine PS_of (af := a50) rfl rfl ?_
  unfold a50
  dsimp only [List.map, ofPV, initEnv]
  by_cases c : idxN l x < l.length
  · rw [idxI_pos c] at v3
    have hb : beforeL l x = ((l.take (idxN l x)).filter (befF l (idxN l x))).map (·.1) := by unfold beforeL; rw [if_pos c]
    repeat' (first | exact v3 | (simp (disch := omega) only [go_sem, seval, reduceCtorEq]) | with_reducible exact Ev.mk | apply x_call | ((first | apply x_split | apply x_splitg) <;> intro hβ hb <;> (simp (disch := omega) only [go_sem, seval, reduceCtorEq, hβ]) <;> clear hβ))
    refine W_round ?_
    (try simp (disch := omega) only [go_sem, seval, reduceCtorEq])
    refine l_blk l b hl (idxN l x) c 0 [] 1 0 _ ?_ (idxN l x) 0 (by omega) [] (by simp)
    intro acc2 h2
    (try simp (disch := omega) only [go_sem, seval, reduceCtorEq])
    rw [hb, ← h2]
    simp [pur, dep, aget, intCells_length, intCells_take]
  · rw [idxI_neg c] at v3
    have hb : beforeL l x = [] := by unfold beforeL; rw [if_neg c]
    repeat' (first | exact v3 | (simp (disch := omega) only [go_sem, seval, reduceCtorEq]) | with_reducible exact Ev.mk | apply x_call | ((first | apply x_split | apply x_splitg) <;> intro hβ hb <;> (simp (disch := omega) only [go_sem, seval, reduceCtorEq, hβ]) <;> clear hβ))
    refine W_round ?_
    refine i_code (by unfold a50_l0; exact rfl) ?_
    repeat' (first | (simp (disch := omega) only [go_sem, seval, reduceCtorEq]) | with_reducible exact Ev.mk | ((first | apply x_split | apply x_splitg) <;> intro hβ hb <;> (simp (disch := omega) only [go_sem, seval, reduceCtorEq, hβ]) <;> clear hβ))
    rw [hb]
    rfl

/-! ### Waits -/

def waitsR (t : Td) (x : Int) : List Int := (t.1.map (·.1)).filter fun y => decide (y ∈ allW t x)

theorem l_rw1 (t : Tb) (x : Int) (hl : t.qs.length ≤ 100000) (hq : ∀ q ∈ t.qs, q.reqs.length ≤ 1000) (acc0 : List Int) (h0 : acc0.length ≤ 100000) (K : Ex → St → Prop)
    (hx : ∀ acc : List Int, acc = acc0 ++ (t.qs.map Qu.d).flatMap (fun q => beforeL q.2 x) → acc.length ≤ 100000 + 1000 * t.qs.length → K (.exit 0) ⟨[(2, .ptr 0 0), (5, .ref 1 acc.length 0 acc.length)], [(1, .row false 1 (intCells acc)), (0, .var false [.p (.slice t.gf (rqRow t.g)), .p (.slice t.qf (quRow t.qs))])], 2, [0]⟩) :
    ∀ (m i : Nat), i + m = t.qs.length → ∀ acc : List Int, acc = acc0 ++ ((t.qs.take i).map Qu.d).flatMap (fun q => beforeL q.2 x) → acc.length ≤ 100000 + 1000 * i →
    W tb a25_l1 ⟨[(1, .p (.int .i64 x)), (2, .ptr 0 0), (5, .ref 1 acc.length 0 acc.length), (6, .p (.int .i64 i))], [(1, .row false 1 (intCells acc)), (0, .var false [.p (.slice t.gf (rqRow t.g)), .p (.slice t.qf (quRow t.qs))])], 2, [0]⟩ (LK tb (.ghost .lower a25_l1) K) := by
  intro m
  induction m with
  | zero =>
    rintro i hi acc hd ha
    have h1 : ¬ (i : Int) < t.qs.length := by omega
    have e : i = t.qs.length := by omega
    subst e
    rw [List.take_of_length_le (Nat.le_refl _)] at hd
    refine i_code (by unfold a25_l1; exact rfl) ?_
    repeat' (first | (simp (disch := omega) only [go_sem, seval, reduceCtorEq, h1, quRow_length]) | with_reducible exact Ev.mk | ((first | apply x_split | apply x_splitg) <;> intro hβ hb <;> (simp (disch := omega) only [go_sem, seval, reduceCtorEq, h1, quRow_length, hβ]) <;> clear hβ))
    exact hx acc hd ha
  | succ m ih =>
    rintro i hi acc hd ha
    have h1 : (i : Int) < t.qs.length := by omega
    have h2 : i < t.qs.length := by omega
    have h4 : (0 : Int) ≤ i := by omega
    have h3 := quRow_get t.qs i h2
    have hrl := hq _ (List.getElem_mem h2)
    have hbl := beforeL_len t.qs[i].reqs x
    have hb := ps_blockers t.qs[i].reqs t.qs[i].fl (by omega) x
    have m1 : (acc.length + (beforeL t.qs[i].reqs x).length) * 8 ≤ 140737488355328 := by omega
    have m2 : acc.length + (beforeL t.qs[i].reqs x).length ≤ 140737488355328 := by omega
    refine i_code (by unfold a25_l1; exact rfl) ?_
    repeat' (first | exact hb | (simp (disch := omega) only [go_sem, seval, reduceCtorEq, h1, h3, h4, m1, m2, maxBytes, quRow_length, intCells_length, allSz_int]) | with_reducible exact Ev.mk | apply x_call | ((first | apply x_split | apply x_splitg) <;> intro hβ hb <;> (simp (disch := omega) only [go_sem, seval, reduceCtorEq, h1, h3, h4, m1, m2, maxBytes, quRow_length, intCells_length, allSz_int, hβ]) <;> clear hβ))
    refine i_lk (W_round ?_)
    (try simp (disch := omega) only [go_sem, seval, reduceCtorEq, intCells_app])
    have := ih (i + 1) (by omega) (acc ++ beforeL t.qs[i].reqs x) (by rw [map_take_succ t.qs i h2, List.flatMap_append, hd]; simp) (by rw [List.length_append]; omega)
    rw [List.length_append] at this
    exact this

theorem l_rw0 (t : Tb) (hg : t.g.length ≤ 100000) (all : List Int) (hal : all.length ≤ 1000000000) (K : Ex → St → Prop)
    (hx : ∀ acc : List Int, acc = (t.g.map (·.1)).filter (fun y => decide (y ∈ all)) → K (.exit 2) ⟨[(7, .ref 2 acc.length 0 acc.length)], [(2, .row false 1 (intCells acc)), (1, .row false 1 (intCells all))], 3, [0]⟩) :
    ∀ (m i : Nat), i + m = t.g.length → ∀ acc : List Int, acc = ((t.g.take i).map (·.1)).filter (fun y => decide (y ∈ all)) →
    W tb a25_l0 ⟨[(2, .ptr 0 0), (5, .ref 1 all.length 0 all.length), (7, .ref 2 acc.length 0 acc.length), (8, .p (.int .i64 i))], [(2, .row false 1 (intCells acc)), (1, .row false 1 (intCells all)), (0, .var false [.p (.slice t.gf (rqRow t.g)), .p (.slice t.qf (quRow t.qs))])], 3, [0]⟩ (LK tb (.ghost .lower a25_l0) K) := by
  intro m
  induction m with
  | zero =>
    rintro i hi acc hd
    have h1 : ¬ (i : Int) < t.g.length := by omega
    rw [List.take_of_length_le (by omega)] at hd
    refine i_code (by unfold a25_l0; exact rfl) ?_
    repeat' (first | (simp (disch := omega) only [go_sem, seval, reduceCtorEq, h1, rqRow_length]) | with_reducible exact Ev.mk | ((first | apply x_split | apply x_splitg) <;> intro hβ hb <;> (simp (disch := omega) only [go_sem, seval, reduceCtorEq, h1, rqRow_length, hβ]) <;> clear hβ))
    exact hx acc hd
  | succ m ih =>
    rintro i hi acc hd
    have h1 : (i : Int) < t.g.length := by omega
    have h2 : i < t.g.length := by omega
    have h4 : (0 : Int) ≤ i := by omega
    have h3 := rqRow_get t.g i h2
    have hh := ps_ihas all false t.g[i].1 hal
    have hal : acc.length ≤ 100000 := by
      rw [hd]
      have := List.length_filter_le (fun y => decide (y ∈ all)) ((t.g.take i).map (·.1))
      rw [List.length_map, List.length_take] at this
      omega
    have m1 : (acc.length + 1) * 8 ≤ 140737488355328 := by omega
    have m2 : acc.length + 1 ≤ 140737488355328 := by omega
    have hz : ∀ v, allSz 1 [[PV.int .i64 v]] = true := fun v => rfl
    have hstep : ((t.g.take (i + 1)).map (·.1)).filter (fun y => decide (y ∈ all)) = acc ++ if t.g[i].1 ∈ all then [t.g[i].1] else [] := by
      rw [List.take_add_one, List.map_append, List.filter_append, hd, List.getElem?_eq_getElem h2]
      by_cases e : t.g[i].1 ∈ all <;> simp [e]
    refine i_code (by unfold a25_l0; exact rfl) ?_
    by_cases e : t.g[i].1 ∈ all
    · rw [decide_eq_true e] at hh
      rw [if_pos e] at hstep
      repeat' (first | exact hh | (simp (disch := omega) only [go_sem, seval, reduceCtorEq, h1, h3, h4, m1, m2, maxBytes, hz, rqRow_length, intCells_length, intCells_take, takeAll]) | with_reducible exact Ev.mk | apply x_call | ((first | apply x_split | apply x_splitg) <;> intro hβ hb <;> (simp (disch := omega) only [go_sem, seval, reduceCtorEq, h1, h3, h4, m1, m2, maxBytes, hz, rqRow_length, intCells_length, intCells_take, takeAll, hβ]) <;> clear hβ))
      refine i_lk (W_round ?_)
      (try simp (disch := omega) only [go_sem, seval, reduceCtorEq, intCells_one, intCells_app])
      have := ih (i + 1) (by omega) (acc ++ [t.g[i].1]) hstep.symm
      rw [List.length_append, List.length_singleton] at this
      exact this
    · rw [decide_eq_false e] at hh
      rw [if_neg e, List.append_nil] at hstep
      repeat' (first | exact hh | (simp (disch := omega) only [go_sem, seval, reduceCtorEq, h1, h3, h4, rqRow_length, intCells_length, intCells_take, takeAll]) | with_reducible exact Ev.mk | apply x_call | ((first | apply x_split | apply x_splitg) <;> intro hβ hb <;> (simp (disch := omega) only [go_sem, seval, reduceCtorEq, h1, h3, h4, rqRow_length, intCells_length, intCells_take, takeAll, hβ]) <;> clear hβ))
      refine i_lk (W_round ?_)
      (try simp (disch := omega) only [go_sem, seval, reduceCtorEq])
      exact ih (i + 1) (by omega) acc hstep.symm

theorem ascR_strict {l : List Rq} (h : ascR l = true) : StrictI (l.map (·.1)) := by
  have h1 := all_range.1 h
  have h2 : ∀ (j i : Nat) (hj : i + 1 + j < l.length), (l[i]'(by omega)).1 < l[i + 1 + j].1 := by
    intro j
    induction j with
    | zero =>
      intro i hj
      have := h1 (i + 1) hj
      unfold okR at this
      simp only [Bool.and_eq_true, Bool.or_eq_true, decide_eq_true_eq] at this
      rcases this.2 with e | e
      · omega
      · rw [getD_rq l _ hj, getD_rq l (i + 1 - 1) (by omega)] at e
        exact e
    | succ j ih =>
      intro i hj
      have a := ih i (by omega)
      have := h1 (i + 1 + (j + 1)) hj
      unfold okR at this
      simp only [Bool.and_eq_true, Bool.or_eq_true, decide_eq_true_eq] at this
      rcases this.2 with e | e
      · omega
      · rw [getD_rq l _ hj, getD_rq l (i + 1 + (j + 1) - 1) (by omega)] at e
        have e0 : i + 1 + (j + 1) - 1 = i + 1 + j := by omega
        simp only [e0] at e
        omega
  unfold StrictI
  rw [List.pairwise_map, List.pairwise_iff_getElem]
  intro i j hi hj hij
  obtain ⟨d, rfl⟩ : ∃ d, j = i + 1 + d := ⟨j - i - 1, by omega⟩
  exact h2 d i hj

theorem validD_g {t : Td} (h : validD t = true) : ascR t.1 = true := by
  unfold validD at h
  rw [Bool.and_eq_true] at h
  exact h.1
theorem validD_q {t : Td} (h : validD t = true) {q : Qd} (hq : q ∈ t.2) : vkey q.1 = true ∧ ascR q.2 = true ∧ q.2.all (inG t.1) = true := by
  unfold validD at h
  rw [Bool.and_eq_true] at h
  obtain ⟨i, hi, rfl⟩ := List.getElem_of_mem hq
  have := all_range.1 h.2 i hi
  rw [Bool.and_eq_true, List.getD_eq_getElem?_getD, List.getElem?_eq_getElem hi, Option.getD_some] at this
  refine ⟨?_, ?_, this.2⟩
  · have := this.1
    unfold okQ at this
    rw [List.getD_eq_getElem?_getD, List.getElem?_eq_getElem hi, Option.getD_some] at this
    simp only [Bool.and_eq_true] at this
    exact this.1.1.1
  · have := this.1
    unfold okQ at this
    rw [List.getD_eq_getElem?_getD, List.getElem?_eq_getElem hi, Option.getD_some] at this
    simp only [Bool.and_eq_true] at this
    exact this.2

theorem inG_mem {g : List Rq} {r : Rq} (h : inG g r = true) : r.1 ∈ g.map (·.1) := by
  unfold inG at h
  rw [Bool.and_eq_true, decide_eq_true_eq] at h
  have h1 : (fun y : Rq => y.1 == r.1) g[idxN g r.1] = true := List.findIdx_getElem (w := h.1)
  simp only [beq_iff_eq] at h1
  rw [← h1]
  exact List.mem_map_of_mem (List.getElem_mem h.1)

theorem mem_beforeL {l : List Rq} {x y : Int} (h : y ∈ beforeL l x) : ∃ r ∈ l, r.1 = y := by
  unfold beforeL at h
  split at h
  · obtain ⟨r, hr, rfl⟩ := List.mem_map.1 h
    exact ⟨r, List.mem_of_mem_take (List.mem_filter.1 hr).1, rfl⟩
  · cases h

theorem mem_allW {t : Td} (hv : validD t = true) {x y : Int} (h : y ∈ allW t x) : y ∈ t.1.map (·.1) := by
  unfold allW at h
  rcases List.mem_append.1 h with h | h
  · obtain ⟨r, hr, rfl⟩ := mem_beforeL h
    exact List.mem_map_of_mem hr
  · obtain ⟨q, hq, h⟩ := List.mem_flatMap.1 h
    obtain ⟨r, hr, rfl⟩ := mem_beforeL h
    exact inG_mem (List.all_eq_true.1 (validD_q hv hq).2.2 r hr)

theorem waitsR_eq {t : Td} (hv : validD t = true) (x : Int) : waitsR t x = waitsL t x := by
  refine strictI_unique (List.Pairwise.filter _ (ascR_strict (validD_g hv))) (strict_waitsL t x) fun y => ?_
  rw [mem_waitsL, waitsR, List.mem_filter, decide_eq_true_eq]
  exact ⟨fun h => h.2, fun h => ⟨mem_allW hv h, h⟩⟩

/-- Small enough, keys too. -/
structure Sm2 (t : Tb) : Prop extends Sm t where
  k : ∀ q ∈ t.qs, q.key.size ≤ 1000

theorem Sm2.valid {t : Tb} (h : Sm2 t) : PS tb 17 [.agg (tbC t)] (.bool (validD t.d)) := ps_rvalidT t (by have := h.g; omega) (by have := h.q; omega) fun q hq => ⟨by have := h.r q hq; omega, h.k q hq⟩

theorem ps_rWaits (t : Tb) (x : Int) (h : Sm2 t) : ∃ b, PS tb 25 [.agg (tbC t), .int .i64 x] (.slice b (intCells (waitsV t.d x))) := by
  have v1 := h.valid
  cases c : validD t.d with
  | false =>
    refine ⟨true, ?_⟩
    rw [c] at v1
    have e : waitsV t.d x = [] := by unfold waitsV; rw [c]; rfl
    rw [e]
    refine PS_of (af := a25) rfl rfl ?_
    unfold a25
    dsimp only [List.map, ofPV, initEnv, tbC] at v1 ⊢
    repeat' (first | exact v1 | (simp (disch := omega) only [go_sem, seval, reduceCtorEq]) | with_reducible exact Ev.mk | apply x_call | ((first | apply x_split | apply x_splitg) <;> intro hβ hb <;> (simp (disch := omega) only [go_sem, seval, reduceCtorEq, hβ]) <;> clear hβ))
    all_goals rfl
  | true =>
    refine ⟨false, ?_⟩
    rw [c] at v1
    have e : waitsV t.d x = waitsR t.d x := by unfold waitsV; rw [c, if_pos rfl, waitsR_eq c]
    have hb := bs_blockers t.g t.gf (by have := h.g; omega) x [(0, .var false [.p (.slice t.gf (rqRow t.g)), .p (.slice t.qf (quRow t.qs))])] 1 rfl
    have hbl := beforeL_len t.g x
    refine PS_of (af := a25) rfl rfl ?_
    unfold a25
    dsimp only [List.map, ofPV, initEnv, tbC] at v1 ⊢
    repeat' (first | exact v1 | exact hb | (simp (disch := omega) only [go_sem, seval, reduceCtorEq]) | with_reducible exact Ev.mk | apply x_call | apply x_callr | ((first | apply x_split | apply x_splitg) <;> intro hβ hb <;> (simp (disch := omega) only [go_sem, seval, reduceCtorEq, hβ]) <;> clear hβ))
    refine W_round ?_
    (try simp (disch := omega) only [go_sem, seval, reduceCtorEq])
    refine l_rw1 t x (by have := h.q; omega) h.r (beforeL t.g x) (by have := h.g; omega) _ ?_ t.qs.length 0 (by omega) _ (by simp) (by have := h.g; omega)
    intro all hall hl
    have hall2 : all = allW t.d x := hall
    (try simp (disch := omega) only [go_sem, seval, reduceCtorEq])
    refine W_round ?_
    (try simp (disch := omega) only [go_sem, seval, reduceCtorEq])
    refine l_rw0 t (by have := h.g; omega) all (by have := h.q; omega) _ ?_ t.g.length 0 (by omega) [] rfl
    intro acc hacc
    have : acc = waitsR t.d x := by rw [hacc, hall2]; rfl
    (try simp (disch := omega) only [go_sem, seval, reduceCtorEq])
    rw [e, ← this]
    simp [pur, dep, aget, intCells_length, intCells_take]

theorem ps_rgranted (t : Tb) (x : Int) (h : Sm2 t) : PS tb 20 [.agg (tbC t), .int .i64 x] (.bool (grantedD t.d x)) := by
  have v1 := h.valid
  obtain ⟨b, v2⟩ := ps_rWaits t x h
  have v3 := ps_find t.g t.gf x (by have := h.g; omega)
  have td : t.d.1 = t.g := rfl
  refine PS_of (af := a20) rfl rfl ?_
  unfold a20
  dsimp only [List.map, ofPV, initEnv, tbC] at v1 v2 v3 ⊢
  unfold grantedD
  rw [td]
  cases c : validD t.d with
  | false =>
    rw [c] at v1
    repeat' (first | exact v1 | (simp (disch := omega) only [go_sem, seval, reduceCtorEq]) | with_reducible exact Ev.mk | apply x_call | ((first | apply x_split | apply x_splitg) <;> intro hβ hb <;> (simp (disch := omega) only [go_sem, seval, reduceCtorEq, hβ]) <;> clear hβ))
    all_goals rfl
  | true =>
    rw [c] at v1
    have ew : waitsV t.d x = waitsL t.d x := by unfold waitsV; rw [c]; rfl
    rw [ew] at v2
    by_cases c4 : idxN t.g x < t.g.length
    · rw [idxI_pos c4] at v3
      have k1 : (0 : Int) ≤ ((idxN t.g x : Nat) : Int) := by omega
      rw [decide_eq_true c4]
      have hw : decide ((waitsL t.d x).length = 0) = (((waitsL t.d x).length : Int) == 0) := by
        by_cases e : (waitsL t.d x).length = 0
        · simp [e]
        · rw [decide_eq_false e]; symm; rw [beq_eq_false_iff_ne]; omega
      rw [hw]
      repeat' (first | exact v1 | exact v2 | exact v3 | (simp (disch := omega) only [go_sem, seval, reduceCtorEq, k1, intCells_length]) | with_reducible exact Ev.mk | apply x_call | ((first | apply x_split | apply x_splitg) <;> intro hβ hb <;> (simp (disch := omega) only [go_sem, seval, reduceCtorEq, k1, intCells_length, hβ]) <;> clear hβ))
      all_goals simp [pur, dep]
    · rw [idxI_neg c4] at v3
      rw [decide_eq_false c4]
      repeat' (first | exact v1 | exact v3 | (simp (disch := omega) only [go_sem, seval, reduceCtorEq]) | with_reducible exact Ev.mk | apply x_call | ((first | apply x_split | apply x_splitg) <;> intro hβ hb <;> (simp (disch := omega) only [go_sem, seval, reduceCtorEq, hβ]) <;> clear hβ))
      all_goals rfl

theorem l_rready (t : Tb) (h : Sm2 t) (K : Ex → St → Prop)
    (hx : ∀ acc : List Int, acc = (t.g.map (·.1)).filter (fun x => grantedD t.d x) → K (.exit 0) ⟨[(3, .ref 1 acc.length 0 acc.length)], [(1, .row false 1 (intCells acc))], 2, [0]⟩) :
    ∀ (m i : Nat), i + m = t.g.length → ∀ acc : List Int, acc = ((t.g.take i).map (·.1)).filter (fun x => grantedD t.d x) →
    W tb a23_l0 ⟨[(1, .ptr 0 0), (3, .ref 1 acc.length 0 acc.length), (4, .p (.int .i64 i))], [(1, .row false 1 (intCells acc)), (0, .var false [.p (.slice t.gf (rqRow t.g)), .p (.slice t.qf (quRow t.qs))])], 2, [0]⟩ (LK tb (.ghost .lower a23_l0) K) := by
  intro m
  induction m with
  | zero =>
    rintro i hi acc hd
    have h1 : ¬ (i : Int) < t.g.length := by omega
    rw [List.take_of_length_le (by omega)] at hd
    refine i_code (by unfold a23_l0; exact rfl) ?_
    repeat' (first | (simp (disch := omega) only [go_sem, seval, reduceCtorEq, h1, rqRow_length]) | with_reducible exact Ev.mk | ((first | apply x_split | apply x_splitg) <;> intro hβ hb <;> (simp (disch := omega) only [go_sem, seval, reduceCtorEq, h1, rqRow_length, hβ]) <;> clear hβ))
    exact hx acc hd
  | succ m ih =>
    rintro i hi acc hd
    have h1 : (i : Int) < t.g.length := by omega
    have h2 : i < t.g.length := by omega
    have h4 : (0 : Int) ≤ i := by omega
    have h3 := rqRow_get t.g i h2
    have v2 := ps_rgranted t t.g[i].1 h
    dsimp only [tbC] at v2
    have hgl := h.g
    have hal : acc.length ≤ 1000 := by
      rw [hd]
      have := List.length_filter_le (fun x => grantedD t.d x) ((t.g.take i).map (·.1))
      rw [List.length_map, List.length_take] at this
      omega
    have m1 : (acc.length + 1) * 8 ≤ 140737488355328 := by omega
    have m2 : acc.length + 1 ≤ 140737488355328 := by omega
    have hz : ∀ v, allSz 1 [[PV.int .i64 v]] = true := fun v => rfl
    have hstep : ((t.g.take (i + 1)).map (·.1)).filter (fun x => grantedD t.d x) = acc ++ if grantedD t.d t.g[i].1 then [t.g[i].1] else [] := by
      rw [List.take_add_one, List.map_append, List.filter_append, hd, List.getElem?_eq_getElem h2]
      cases e : grantedD t.d t.g[i].1 <;> simp [e]
    refine i_code (by unfold a23_l0; exact rfl) ?_
    cases e : grantedD t.d t.g[i].1 with
    | true =>
      rw [e] at v2
      rw [e, if_pos rfl] at hstep
      repeat' (first | exact v2 | (simp (disch := omega) only [go_sem, seval, reduceCtorEq, h1, h3, h4, m1, m2, maxBytes, hz, rqRow_length, intCells_length]) | with_reducible exact Ev.mk | apply x_call | ((first | apply x_split | apply x_splitg) <;> intro hβ hb <;> (simp (disch := omega) only [go_sem, seval, reduceCtorEq, h1, h3, h4, m1, m2, maxBytes, hz, rqRow_length, intCells_length, hβ]) <;> clear hβ))
      refine i_lk (W_round ?_)
      (try simp (disch := omega) only [go_sem, seval, reduceCtorEq, intCells_one, intCells_app])
      have := ih (i + 1) (by omega) (acc ++ [t.g[i].1]) hstep.symm
      rw [List.length_append, List.length_singleton] at this
      exact this
    | false =>
      rw [e] at v2
      rw [e, if_neg (by simp), List.append_nil] at hstep
      repeat' (first | exact v2 | (simp (disch := omega) only [go_sem, seval, reduceCtorEq, h1, h3, h4, rqRow_length, intCells_length]) | with_reducible exact Ev.mk | apply x_call | ((first | apply x_split | apply x_splitg) <;> intro hβ hb <;> (simp (disch := omega) only [go_sem, seval, reduceCtorEq, h1, h3, h4, rqRow_length, intCells_length, hβ]) <;> clear hβ))
      refine i_lk (W_round ?_)
      (try simp (disch := omega) only [go_sem, seval, reduceCtorEq])
      exact ih (i + 1) (by omega) acc hstep.symm

theorem idxN_lt {g : List Rq} {x : Int} (h : x ∈ g.map (·.1)) : idxN g x < g.length := by
  obtain ⟨r, hr, rfl⟩ := List.mem_map.1 h
  exact List.findIdx_lt_length_of_exists ⟨r, hr, by simp⟩

theorem readyR_eq (t : Td) : (t.1.map (·.1)).filter (fun x => grantedD t x) = readyD t := by
  unfold readyD
  cases c : validD t with
  | false =>
    rw [if_neg (by simp)]
    rw [List.filter_eq_nil_iff]
    intro x _
    unfold grantedD
    rw [c]; simp
  | true =>
    rw [if_pos rfl]
    refine List.filter_congr fun x hx => ?_
    unfold grantedD
    rw [c, decide_eq_true (idxN_lt hx)]
    rfl

theorem ps_rready (t : Tb) (h : Sm2 t) : ∃ b, PS tb 23 [.agg (tbC t)] (.slice b (intCells (readyD t.d))) := by
  refine ⟨false, ?_⟩
  have e := readyR_eq t.d
  refine PS_of (af := a23) rfl rfl ?_
  unfold a23
  dsimp only [List.map, ofPV, initEnv, tbC]
  repeat' (first | (simp (disch := omega) only [go_sem, seval, reduceCtorEq, rqRow_length]) | with_reducible exact Ev.mk | ((first | apply x_split | apply x_splitg) <;> intro hβ hb <;> (simp (disch := omega) only [go_sem, seval, reduceCtorEq, rqRow_length, hβ]) <;> clear hβ))
  refine W_round ?_
  (try simp (disch := omega) only [go_sem, seval, reduceCtorEq])
  refine l_rready t h _ ?_ t.g.length 0 (by omega) [] rfl
  intro acc hacc
  have h2 : acc = readyD t.d := by rw [hacc, ← e]; rfl
  repeat' (first | (simp (disch := omega) only [go_sem, seval, reduceCtorEq]) | with_reducible exact Ev.mk | ((first | apply x_split | apply x_splitg) <;> intro hβ hb <;> (simp (disch := omega) only [go_sem, seval, reduceCtorEq, hβ]) <;> clear hβ))
  all_goals simp [pur, dep, aget, h2, intCells_length, intCells_take]

end Go.Dv.Try
