/-
  Specifications: L1, L2, L3, L4, L5, L6.
-/
import Derived.Test.YtkpadkncediliaaFA
import Derived.Test.YtkpadkncediliaaBridge
set_option linter.unusedVariables false
set_option linter.unusedSimpArgs false
set_option maxRecDepth 100000
set_option maxHeartbeats 4000000
namespace Go.Dv.Try
open Go Go.Dv

/-! ## L1 -/

abbrev Rq := Int × Bool
def rqC (r : Rq) : List PV := [.int .i64 r.1, .bool r.2]
def rqRow (l : List Rq) : List (List PV) := l.map rqC
theorem rqRow_length (l : List Rq) : (rqRow l).length = l.length := by simp [rqRow]
theorem rqRow_get (l : List Rq) (i : Nat) (h : i < l.length) : (rqRow l)[i]? = some [.int .i64 l[i].1, .bool l[i].2] := by simp [rqRow, rqC, h]
theorem rqRow_append (l r : List Rq) : rqRow l ++ rqRow r = rqRow (l ++ r) := by simp [rqRow]
theorem rqRow_take (l : List Rq) (n : Nat) : (rqRow l).take n = rqRow (l.take n) := by simp [rqRow, List.map_take]
theorem rqRow_drop (l : List Rq) (n : Nat) : (rqRow l).drop n = rqRow (l.drop n) := by simp [rqRow, List.map_drop]
theorem allSz_rqRow (l : List Rq) : allSz 2 (rqRow l) = true := by simp [allSz, rqRow, rqC]
theorem rqRow_nil : rqRow [] = [] := rfl
theorem rqRow_one (x : Int) (b : Bool) : [[PV.int .i64 x, PV.bool b]] = rqRow [(x, b)] := rfl

/-- A queue; 'fl': is its list without room? -/
structure Qu where
  key : ByteArray
  fl : Bool
  reqs : List Rq
def quC (q : Qu) : List PV := [.str q.key, .slice q.fl (rqRow q.reqs)]
def quRow (l : List Qu) : List (List PV) := l.map quC
theorem quRow_length (l : List Qu) : (quRow l).length = l.length := by simp [quRow]
theorem quRow_get (l : List Qu) (i : Nat) (h : i < l.length) : (quRow l)[i]? = some [.str l[i].key, .slice l[i].fl (rqRow l[i].reqs)] := by simp [quRow, quC, h]
theorem quRow_append (l r : List Qu) : quRow l ++ quRow r = quRow (l ++ r) := by simp [quRow]
theorem quRow_take (l : List Qu) (n : Nat) : (quRow l).take n = quRow (l.take n) := by simp [quRow, List.map_take]
theorem quRow_drop (l : List Qu) (n : Nat) : (quRow l).drop n = quRow (l.drop n) := by simp [quRow, List.map_drop]
theorem allSz_quRow (l : List Qu) : allSz 2 (quRow l) = true := by simp [allSz, quRow, quC]
theorem quRow_nil : quRow [] = [] := rfl

structure Tb where
  gf : Bool
  g : List Rq
  qf : Bool
  qs : List Qu
def tbC (t : Tb) : List PV := [.slice t.gf (rqRow t.g), .slice t.qf (quRow t.qs)]

/-- The same without the notes on room. -/
abbrev Qd := ByteArray × List Rq
abbrev Td := List Rq × List Qd
def Qu.d (q : Qu) : Qd := (q.key, q.reqs)
def Tb.d (t : Tb) : Td := (t.g, t.qs.map Qu.d)

theorem getD_rq (l : List Rq) (i : Nat) (h : i < l.length) : l.getD i (0, false) = l[i] := by
  rw [List.getD_eq_getElem?_getD, List.getElem?_eq_getElem h]; rfl

theorem all_range {n : Nat} {p : Nat → Bool} : (List.range n).all p = true ↔ ∀ j, j < n → p j = true := by
  rw [List.all_eq_true]
  exact ⟨fun h j hj => h j (List.mem_range.2 hj), fun h j hj => h j (List.mem_range.1 hj)⟩
theorem all_rangeF {n : Nat} {p : Nat → Bool} {j : Nat} (hj : j < n) (h : p j = false) : (List.range n).all p = false := by
  rw [List.all_eq_false]
  exact ⟨j, List.mem_range.2 hj, by simp [h]⟩
theorem upto_step {p : Nat → Bool} {i : Nat} (ht : ∀ j, j < i → p j = true) (h : p i = true) : ∀ j, j < i + 1 → p j = true := by
  intro j hj
  rcases Nat.lt_or_ge j i with c | c
  · exact ht j c
  · have e : j = i := by omega
    rw [e]; exact h

/-! ### ascending -/

def okR (l : List Rq) (i : Nat) : Bool := decide (0 ≤ (l.getD i (0, false)).1) && (decide (i = 0) || decide ((l.getD (i - 1) (0, false)).1 < (l.getD i (0, false)).1))
def ascR (l : List Rq) : Bool := (List.range l.length).all (okR l)

theorem l_asc (l : List Rq) (b : Bool) (hl : l.length ≤ 100000) (K : Ex → St → Prop)
    (hx : (∀ j, j < l.length → okR l j = true) → K (.exit 0) ⟨[], [], 0, [0]⟩)
    (hr : (∃ j, j < l.length ∧ okR l j = false) → ∀ s', aget s'.env 2 = some (.p (.bool false)) → K .ret s') : ∀ (m i : Nat), i + m = l.length → (∀ j, j < i → okR l j = true) →
    ∀ (e : Env), e = [(0, .p (.slice b (rqRow l))), (5, .p (.slice b (rqRow l))), (6, .p (.int .i64 l.length)), (7, .p (.int .i64 i))] →
    W tb a44_l0 ⟨e, [], 0, [0]⟩ (LK tb (.ghost (.free [4]) (.ghost .lower a44_l0)) K) := by
  intro m
  induction m with
  | zero =>
    rintro i hi ht e rfl
    have h1 : ¬ (i : Int) < l.length := by omega
    refine i_code (by unfold a44_l0; exact rfl) ?_
    repeat' (first | (simp (disch := omega) only [go_sem, seval, reduceCtorEq, h1]) | with_reducible exact Ev.mk | ((first | apply x_split | apply x_splitg) <;> intro hβ hb <;> (simp (disch := omega) only [go_sem, seval, reduceCtorEq, h1, hβ]) <;> clear hβ))
    exact hx (fun j hj => ht j (by omega))
  | succ m ih =>
    rintro i hi ht e rfl
    have h1 : (i : Int) < l.length := by omega
    have h2 : i < l.length := by omega
    have h4 : (0 : Int) ≤ i := by omega
    have h3 := rqRow_get l i h2
    have hok : okR l i = (decide (0 ≤ l[i].1) && (decide (i = 0) || decide ((l.getD (i - 1) (0, false)).1 < l[i].1))) := by unfold okR; rw [getD_rq l i h2]
    have bad : okR l i = false → ∀ s', aget s'.env 2 = some (.p (.bool false)) → K .ret s' := fun h => hr ⟨i, h2, h⟩
    have nxt : okR l i = true → ∀ e, e = [(0, .p (.slice b (rqRow l))), (5, .p (.slice b (rqRow l))), (6, .p (.int .i64 l.length)), (7, .p (.int .i64 ((i + 1 : Nat) : Int)))] → W tb a44_l0 ⟨e, [], 0, [0]⟩ (LK tb (.ghost (.free [4]) (.ghost .lower a44_l0)) K) := fun h e he =>
      ih (i + 1) (by omega) (upto_step ht h) e he
    refine i_code (by unfold a44_l0; exact rfl) ?_
    by_cases c1 : l[i].1 < 0
    · repeat' (first | (simp (disch := omega) only [go_sem, seval, reduceCtorEq, h1, h3, h4, c1]) | with_reducible exact Ev.mk | ((first | apply x_split | apply x_splitg) <;> intro hβ hb <;> (simp (disch := omega) only [go_sem, seval, reduceCtorEq, h1, h3, h4, c1, hβ]) <;> clear hβ))
      exact bad (by rw [hok, decide_eq_false (by omega)]; rfl) _ rfl
    · by_cases c3 : i = 0
      · have k0 : ¬ (0 : Int) < (i : Int) := by omega
        repeat' (first | (simp (disch := omega) only [go_sem, seval, reduceCtorEq, h1, h3, h4, c1, k0]) | with_reducible exact Ev.mk | ((first | apply x_split | apply x_splitg) <;> intro hβ hb <;> (simp (disch := omega) only [go_sem, seval, reduceCtorEq, h1, h3, h4, c1, k0, hβ]) <;> clear hβ))
        refine i_lk (W_round ?_)
        (try simp (disch := omega) only [go_sem, seval, reduceCtorEq])
        exact nxt (by rw [hok, decide_eq_true (by omega), decide_eq_true c3]; rfl) _ rfl
      · have k0 : (0 : Int) < (i : Int) := by omega
        have k1 : (i : Int) - 1 = ((i - 1 : Nat) : Int) := by omega
        have h5 := rqRow_get l (i - 1) (by omega)
        have g1 := getD_rq l (i - 1) (by omega)
        rw [g1, decide_eq_false c3, Bool.false_or] at hok
        have k2 : (0 : Int) ≤ ((i - 1 : Nat) : Int) := by omega
        by_cases c4 : l[i].1 ≤ l[i - 1].1
        · repeat' (first | (simp (disch := omega) only [go_sem, seval, reduceCtorEq, h1, h3, h4, c1, k0, k1, k2, h5, c4]) | with_reducible exact Ev.mk | ((first | apply x_split | apply x_splitg) <;> intro hβ hb <;> (simp (disch := omega) only [go_sem, seval, reduceCtorEq, h1, h3, h4, c1, k0, k1, k2, h5, c4, hβ]) <;> clear hβ))
          exact bad (by rw [hok, decide_eq_true (by omega), decide_eq_false (by omega)]; rfl) _ rfl
        · repeat' (first | (simp (disch := omega) only [go_sem, seval, reduceCtorEq, h1, h3, h4, c1, k0, k1, k2, h5, c4]) | with_reducible exact Ev.mk | ((first | apply x_split | apply x_splitg) <;> intro hβ hb <;> (simp (disch := omega) only [go_sem, seval, reduceCtorEq, h1, h3, h4, c1, k0, k1, k2, h5, c4, hβ]) <;> clear hβ))
          refine i_lk (W_round ?_)
          (try simp (disch := omega) only [go_sem, seval, reduceCtorEq])
          exact nxt (by rw [hok, decide_eq_true (by omega), decide_eq_true (by omega)]; rfl) _ rfl

theorem ps_asc (l : List Rq) (b : Bool) (hl : l.length ≤ 100000) : PS tb 44 [.slice b (rqRow l)] (.bool (ascR l)) := by
  refine PS_of (af := a44) rfl rfl ?_
  unfold a44
  dsimp only [List.map, ofPV, initEnv]
  repeat' (first | (simp (disch := omega) only [go_sem, seval, reduceCtorEq, rqRow_length]) | with_reducible exact Ev.mk | ((first | apply x_split | apply x_splitg) <;> intro hβ hb <;> (simp (disch := omega) only [go_sem, seval, reduceCtorEq, rqRow_length, hβ]) <;> clear hβ))
  refine W_round ?_
  (try simp (disch := omega) only [go_sem, seval, reduceCtorEq])
  refine l_asc l b hl _ ?_ ?_ l.length 0 (by omega) (by simp) _ rfl
  · intro ha
    have e : ascR l = true := all_range.2 ha
    repeat' (first | (simp (disch := omega) only [go_sem, seval, reduceCtorEq]) | with_reducible exact Ev.mk | ((first | apply x_split | apply x_splitg) <;> intro hβ hb <;> (simp (disch := omega) only [go_sem, seval, reduceCtorEq, hβ]) <;> clear hβ))
    all_goals simp [pur, dep, e]
  · rintro ⟨j, hj, h⟩ s' hs
    have e : ascR l = false := all_rangeF hj h
    (try simp (disch := omega) only [go_sem, seval, reduceCtorEq, hs])
    simp [pur, dep, e]

theorem l_rasc (l : List Rq) (b : Bool) (hl : l.length ≤ 100000) (K : Ex → St → Prop)
    (hx : (∀ j, j < l.length → okR l j = true) → K (.exit 0) ⟨[], [], 0, [0]⟩)
    (hr : (∃ j, j < l.length ∧ okR l j = false) → ∀ s', aget s'.env 2 = some (.p (.bool false)) → K .ret s') : ∀ (m i : Nat), i + m = l.length → (∀ j, j < i → okR l j = true) →
    W tb a46_l0 ⟨[(0, .p (.slice b (rqRow l))), (3, .p (.int .i64 i))], [], 0, [0]⟩ (LK tb (.ghost .lower a46_l0) K) := by
  intro m
  induction m with
  | zero =>
    rintro i hi ht
    have h1 : ¬ (i : Int) < l.length := by omega
    refine i_code (by unfold a46_l0; exact rfl) ?_
    repeat' (first | (simp (disch := omega) only [go_sem, seval, reduceCtorEq, h1, rqRow_length]) | with_reducible exact Ev.mk | ((first | apply x_split | apply x_splitg) <;> intro hβ hb <;> (simp (disch := omega) only [go_sem, seval, reduceCtorEq, h1, rqRow_length, hβ]) <;> clear hβ))
    exact hx (fun j hj => ht j (by omega))
  | succ m ih =>
    rintro i hi ht
    have h1 : (i : Int) < l.length := by omega
    have h2 : i < l.length := by omega
    have h4 : (0 : Int) ≤ i := by omega
    have h3 := rqRow_get l i h2
    have hok : okR l i = (decide (0 ≤ l[i].1) && (decide (i = 0) || decide ((l.getD (i - 1) (0, false)).1 < l[i].1))) := by unfold okR; rw [getD_rq l i h2]
    have bad : okR l i = false → ∀ s', aget s'.env 2 = some (.p (.bool false)) → K .ret s' := fun h => hr ⟨i, h2, h⟩
    have nxt : okR l i = true → W tb a46_l0 ⟨[(0, .p (.slice b (rqRow l))), (3, .p (.int .i64 ((i + 1 : Nat) : Int)))], [], 0, [0]⟩ (LK tb (.ghost .lower a46_l0) K) := fun h =>
      ih (i + 1) (by omega) (upto_step ht h)
    refine i_code (by unfold a46_l0; exact rfl) ?_
    by_cases c1 : l[i].1 < 0
    · repeat' (first | (simp (disch := omega) only [go_sem, seval, reduceCtorEq, h1, h3, h4, c1, rqRow_length]) | with_reducible exact Ev.mk | ((first | apply x_split | apply x_splitg) <;> intro hβ hb <;> (simp (disch := omega) only [go_sem, seval, reduceCtorEq, h1, h3, h4, c1, rqRow_length, hβ]) <;> clear hβ))
      exact bad (by rw [hok, decide_eq_false (by omega)]; rfl) _ rfl
    · by_cases c3 : i = 0
      · have k0 : ¬ (0 : Int) < (i : Int) := by omega
        repeat' (first | (simp (disch := omega) only [go_sem, seval, reduceCtorEq, h1, h3, h4, c1, k0, rqRow_length]) | with_reducible exact Ev.mk | ((first | apply x_split | apply x_splitg) <;> intro hβ hb <;> (simp (disch := omega) only [go_sem, seval, reduceCtorEq, h1, h3, h4, c1, k0, rqRow_length, hβ]) <;> clear hβ))
        refine i_lk (W_round ?_)
        (try simp (disch := omega) only [go_sem, seval, reduceCtorEq])
        exact nxt (by rw [hok, decide_eq_true (by omega), decide_eq_true c3]; rfl)
      · have k0 : (0 : Int) < (i : Int) := by omega
        have k1 : (i : Int) - 1 = ((i - 1 : Nat) : Int) := by omega
        have h5 := rqRow_get l (i - 1) (by omega)
        have g1 := getD_rq l (i - 1) (by omega)
        rw [g1, decide_eq_false c3, Bool.false_or] at hok
        have k2 : (0 : Int) ≤ ((i - 1 : Nat) : Int) := by omega
        by_cases c4 : l[i].1 ≤ l[i - 1].1
        · repeat' (first | (simp (disch := omega) only [go_sem, seval, reduceCtorEq, h1, h3, h4, c1, k0, k1, k2, h5, c4, rqRow_length]) | with_reducible exact Ev.mk | ((first | apply x_split | apply x_splitg) <;> intro hβ hb <;> (simp (disch := omega) only [go_sem, seval, reduceCtorEq, h1, h3, h4, c1, k0, k1, k2, h5, c4, rqRow_length, hβ]) <;> clear hβ))
          exact bad (by rw [hok, decide_eq_true (by omega), decide_eq_false (by omega)]; rfl) _ rfl
        · repeat' (first | (simp (disch := omega) only [go_sem, seval, reduceCtorEq, h1, h3, h4, c1, k0, k1, k2, h5, c4, rqRow_length]) | with_reducible exact Ev.mk | ((first | apply x_split | apply x_splitg) <;> intro hβ hb <;> (simp (disch := omega) only [go_sem, seval, reduceCtorEq, h1, h3, h4, c1, k0, k1, k2, h5, c4, rqRow_length, hβ]) <;> clear hβ))
          refine i_lk (W_round ?_)
          (try simp (disch := omega) only [go_sem, seval, reduceCtorEq])
          exact nxt (by rw [hok, decide_eq_true (by omega), decide_eq_true (by omega)]; rfl)

theorem ps_rasc (l : List Rq) (b : Bool) (hl : l.length ≤ 100000) : PS tb 46 [.slice b (rqRow l)] (.bool (ascR l)) := by
  refine PS_of (af := a46) rfl rfl ?_
  unfold a46
  dsimp only [List.map, ofPV, initEnv]
  repeat' (first | (simp (disch := omega) only [go_sem, seval, reduceCtorEq]) | with_reducible exact Ev.mk | ((first | apply x_split | apply x_splitg) <;> intro hβ hb <;> (simp (disch := omega) only [go_sem, seval, reduceCtorEq, hβ]) <;> clear hβ))
  refine W_round ?_
  (try simp (disch := omega) only [go_sem, seval, reduceCtorEq])
  refine l_rasc l b hl _ ?_ ?_ l.length 0 (by omega) (by simp)
  · intro ha
    have e : ascR l = true := all_range.2 ha
    repeat' (first | (simp (disch := omega) only [go_sem, seval, reduceCtorEq]) | with_reducible exact Ev.mk | ((first | apply x_split | apply x_splitg) <;> intro hβ hb <;> (simp (disch := omega) only [go_sem, seval, reduceCtorEq, hβ]) <;> clear hβ))
    all_goals simp [pur, dep, e]
  · rintro ⟨j, hj, h⟩ s' hs
    have e : ascR l = false := all_rangeF hj h
    (try simp (disch := omega) only [go_sem, seval, reduceCtorEq, hs])
    simp [pur, dep, e]

/-! ### the index of a request -/

def idxN (l : List Rq) (x : Int) : Nat := l.findIdx fun r => r.1 == x
def idxI (l : List Rq) (x : Int) : Int := if idxN l x < l.length then (idxN l x : Int) else -1

theorem idxN_here {l : List Rq} {x : Int} {i : Nat} (h : i < l.length) (h1 : ∀ (j : Nat) (hj : j < l.length), j < i → ¬ l[j].1 = x) (h2 : l[i].1 = x) : idxN l x = i := by
  unfold idxN
  rw [List.findIdx_eq h]
  exact ⟨by simp [h2], fun j hj => by simpa using h1 j (by omega) hj⟩
theorem idxN_none {l : List Rq} {x : Int} (h1 : ∀ (j : Nat) (hj : j < l.length), ¬ l[j].1 = x) : idxN l x = l.length := by
  unfold idxN
  rw [List.findIdx_eq_length]
  intro r hr
  obtain ⟨j, hj, rfl⟩ := List.getElem_of_mem hr
  simpa using h1 j hj

theorem ps_idx1 (r : Rq) (x : Int) : PS tb 57 [.agg (rqC r), .vptr [.int .i64 x]] (.bool (r.1 == x)) := by
  refine PS_of (af := a57) rfl rfl ?_
  unfold a57
  dsimp only [List.map, ofPV, initEnv, rqC]
  repeat' (first | (simp (disch := omega) only [go_sem, seval, reduceCtorEq]) | with_reducible exact Ev.mk | ((first | apply x_split | apply x_splitg) <;> intro hβ hb <;> (simp (disch := omega) only [go_sem, seval, reduceCtorEq, hβ]) <;> clear hβ))
  all_goals simp [pur, dep]

theorem l_idx (l : List Rq) (b : Bool) (x : Int) (hl : l.length ≤ 100000) (K : Ex → St → Prop)
    (hx : idxI l x = -1 → K (.exit 0) ⟨[], [], 0, [0]⟩)
    (hr : ∀ s', aget s'.env 4 = some (.p (.int .i64 (idxI l x))) → K .ret s') : ∀ (m i : Nat), i + m = l.length → (∀ (j : Nat) (hj : j < l.length), j < i → ¬ l[j].1 = x) →
    W tb a56_l0 ⟨[(0, .p (.slice b (rqRow l))), (1, .p (.func 57 [.vptr [.int .i64 x]])), (7, .p (.int .i64 l.length)), (8, .p (.int .i64 i))], [], 0, [0]⟩ (LK tb (.ghost .lower a56_l0) K) := by
  intro m
  induction m with
  | zero =>
    rintro i hi ht
    have h1 : ¬ (i : Int) < l.length := by omega
    refine i_code (by unfold a56_l0; exact rfl) ?_
    repeat' (first | (simp (disch := omega) only [go_sem, seval, reduceCtorEq, h1]) | with_reducible exact Ev.mk | ((first | apply x_split | apply x_splitg) <;> intro hβ hb <;> (simp (disch := omega) only [go_sem, seval, reduceCtorEq, h1, hβ]) <;> clear hβ))
    refine hx ?_
    have := idxN_none (l := l) (x := x) fun j hj => ht j hj (by omega)
    unfold idxI
    rw [if_neg (by omega)]
  | succ m ih =>
    rintro i hi ht
    have h1 : (i : Int) < l.length := by omega
    have h2 : i < l.length := by omega
    have h4 : (0 : Int) ≤ i := by omega
    have h3 := rqRow_get l i h2
    have q := ps_idx1 l[i] x
    simp only [rqC] at q
    refine i_code (by unfold a56_l0; exact rfl) ?_
    by_cases c : l[i].1 = x
    · have hc : (l[i].1 == x) = true := by simp [c]
      rw [hc] at q
      repeat' (first | exact q | (simp (disch := omega) only [go_sem, seval, reduceCtorEq, h1, h3, h4]) | with_reducible exact Ev.mk | apply x_call | ((first | apply x_split | apply x_splitg) <;> intro hβ hb <;> (simp (disch := omega) only [go_sem, seval, reduceCtorEq, h1, h3, h4, hβ]) <;> clear hβ))
      refine hr _ ?_
      have := idxN_here h2 ht c
      unfold idxI
      rw [this, if_pos h2]
      rfl
    · have hc : (l[i].1 == x) = false := by simp [c]
      rw [hc] at q
      repeat' (first | exact q | (simp (disch := omega) only [go_sem, seval, reduceCtorEq, h1, h3, h4]) | with_reducible exact Ev.mk | apply x_call | ((first | apply x_split | apply x_splitg) <;> intro hβ hb <;> (simp (disch := omega) only [go_sem, seval, reduceCtorEq, h1, h3, h4, hβ]) <;> clear hβ))
      refine i_lk (W_round ?_)
      (try simp (disch := omega) only [go_sem, seval, reduceCtorEq])
      refine ih (i + 1) (by omega) fun j hj hji => ?_
      rcases Nat.lt_or_ge j i with g | g
      · exact ht j hj g
      · have : j = i := by omega
        subst this; exact c

theorem ps_idxF (l : List Rq) (b : Bool) (x : Int) (hl : l.length ≤ 100000) : PS tb 56 [.slice b (rqRow l), .func 57 [.vptr [.int .i64 x]]] (.int .i64 (idxI l x)) := by
  refine PS_of (af := a56) rfl rfl ?_
  unfold a56
  dsimp only [List.map, ofPV, initEnv]
  repeat' (first | (simp (disch := omega) only [go_sem, seval, reduceCtorEq, rqRow_length]) | with_reducible exact Ev.mk | ((first | apply x_split | apply x_splitg) <;> intro hβ hb <;> (simp (disch := omega) only [go_sem, seval, reduceCtorEq, rqRow_length, hβ]) <;> clear hβ))
  refine W_round ?_
  (try simp (disch := omega) only [go_sem, seval, reduceCtorEq])
  refine l_idx l b x hl _ ?_ ?_ l.length 0 (by omega) (fun j hj h => by omega)
  · intro e
    repeat' (first | (simp (disch := omega) only [go_sem, seval, reduceCtorEq]) | with_reducible exact Ev.mk | ((first | apply x_split | apply x_splitg) <;> intro hβ hb <;> (simp (disch := omega) only [go_sem, seval, reduceCtorEq, hβ]) <;> clear hβ))
    all_goals simp [pur, dep, e]
  · intro s' hs
    (try simp (disch := omega) only [go_sem, seval, reduceCtorEq, hs])
    try simp [pur, dep]

theorem ps_index (l : List Rq) (b : Bool) (x : Int) (hl : l.length ≤ 100000) : PS tb 34 [.slice b (rqRow l), .int .i64 x] (.int .i64 (idxI l x)) := by
  refine PS_of (af := a34) rfl rfl ?_
  unfold a34
  dsimp only [List.map, ofPV, initEnv]
  repeat' (first | exact ps_idxF l b x hl | (simp (disch := omega) only [go_sem, seval, reduceCtorEq]) | with_reducible exact Ev.mk | apply x_call | ((first | apply x_split | apply x_splitg) <;> intro hβ hb <;> (simp (disch := omega) only [go_sem, seval, reduceCtorEq, hβ]) <;> clear hβ))
  all_goals simp [pur, dep]

theorem l_find (l : List Rq) (b : Bool) (x : Int) (hl : l.length ≤ 100000) (K : Ex → St → Prop)
    (hx : idxI l x = -1 → K (.exit 0) ⟨[], [], 0, [0]⟩)
    (hr : ∀ s', aget s'.env 4 = some (.p (.int .i64 (idxI l x))) → K .ret s') : ∀ (m i : Nat), i + m = l.length → (∀ (j : Nat) (hj : j < l.length), j < i → ¬ l[j].1 = x) →
    W tb a39_l0 ⟨[(0, .p (.slice b (rqRow l))), (1, .p (.int .i64 x)), (5, .p (.int .i64 i))], [], 0, [0]⟩ (LK tb (.ghost .lower a39_l0) K) := by
  intro m
  induction m with
  | zero =>
    rintro i hi ht
    have h1 : ¬ (i : Int) < l.length := by omega
    refine i_code (by unfold a39_l0; exact rfl) ?_
    repeat' (first | (simp (disch := omega) only [go_sem, seval, reduceCtorEq, h1, rqRow_length]) | with_reducible exact Ev.mk | ((first | apply x_split | apply x_splitg) <;> intro hβ hb <;> (simp (disch := omega) only [go_sem, seval, reduceCtorEq, h1, rqRow_length, hβ]) <;> clear hβ))
    refine hx ?_
    have := idxN_none (l := l) (x := x) fun j hj => ht j hj (by omega)
    unfold idxI
    rw [if_neg (by omega)]
  | succ m ih =>
    rintro i hi ht
    have h1 : (i : Int) < l.length := by omega
    have h2 : i < l.length := by omega
    have h4 : (0 : Int) ≤ i := by omega
    have h3 := rqRow_get l i h2
    refine i_code (by unfold a39_l0; exact rfl) ?_
    by_cases c : l[i].1 = x
    · have hc : (l[i].1 == x) = true := by simp [c]
      repeat' (first | (simp (disch := omega) only [go_sem, seval, reduceCtorEq, h1, h3, h4, hc, rqRow_length]) | with_reducible exact Ev.mk | ((first | apply x_split | apply x_splitg) <;> intro hβ hb <;> (simp (disch := omega) only [go_sem, seval, reduceCtorEq, h1, h3, h4, hc, rqRow_length, hβ]) <;> clear hβ))
      refine hr _ ?_
      have := idxN_here h2 ht c
      unfold idxI
      rw [this, if_pos h2]
      rfl
    · have hc : (l[i].1 == x) = false := by simp [c]
      repeat' (first | (simp (disch := omega) only [go_sem, seval, reduceCtorEq, h1, h3, h4, hc, rqRow_length]) | with_reducible exact Ev.mk | ((first | apply x_split | apply x_splitg) <;> intro hβ hb <;> (simp (disch := omega) only [go_sem, seval, reduceCtorEq, h1, h3, h4, hc, rqRow_length, hβ]) <;> clear hβ))
      refine i_lk (W_round ?_)
      (try simp (disch := omega) only [go_sem, seval, reduceCtorEq])
      refine ih (i + 1) (by omega) fun j hj hji => ?_
      rcases Nat.lt_or_ge j i with g | g
      · exact ht j hj g
      · have : j = i := by omega
        subst this; exact c

theorem ps_find (l : List Rq) (b : Bool) (x : Int) (hl : l.length ≤ 100000) : PS tb 39 [.slice b (rqRow l), .int .i64 x] (.int .i64 (idxI l x)) := by
  refine PS_of (af := a39) rfl rfl ?_
  unfold a39
  dsimp only [List.map, ofPV, initEnv]
  repeat' (first | (simp (disch := omega) only [go_sem, seval, reduceCtorEq]) | with_reducible exact Ev.mk | ((first | apply x_split | apply x_splitg) <;> intro hβ hb <;> (simp (disch := omega) only [go_sem, seval, reduceCtorEq, hβ]) <;> clear hβ))
  refine W_round ?_
  (try simp (disch := omega) only [go_sem, seval, reduceCtorEq])
  refine l_find l b x hl _ ?_ ?_ l.length 0 (by omega) (fun j hj h => by omega)
  · intro e
    repeat' (first | (simp (disch := omega) only [go_sem, seval, reduceCtorEq]) | with_reducible exact Ev.mk | ((first | apply x_split | apply x_splitg) <;> intro hβ hb <;> (simp (disch := omega) only [go_sem, seval, reduceCtorEq, hβ]) <;> clear hβ))
    all_goals simp [pur, dep, e]
  · intro s' hs
    (try simp (disch := omega) only [go_sem, seval, reduceCtorEq, hs])
    try simp [pur, dep]


/-! ## L2 -/

/-- Has a request its like in the list of all, one that takes not all? -/
def inG (g : List Rq) (r : Rq) : Bool := decide (idxN g r.1 < g.length) && !(g.getD (idxN g r.1) (0, false)).2
abbrev Q0 : Qd := (⟨#[]⟩, [])
/-- The queue at an index is as it must be, its requests left aside. -/
def okQ (l : List Qd) (i : Nat) : Bool := vkey (l.getD i Q0).1 && (decide (i = 0) || slt (l.getD (i - 1) Q0).1 (l.getD i Q0).1) && decide (0 < (l.getD i Q0).2.length) && ascR (l.getD i Q0).2
def validD (t : Td) : Bool := ascR t.1 && (List.range t.2.length).all fun i => okQ t.2 i && (t.2.getD i Q0).2.all (inG t.1)

theorem getD_q (l : List Qu) (i : Nat) (h : i < l.length) : (l.map Qu.d).getD i Q0 = (l[i].key, l[i].reqs) := by
  rw [List.getD_eq_getElem?_getD, List.getElem?_map, List.getElem?_eq_getElem h]; rfl

theorem idxI_neg {g : List Rq} {x : Int} (h : ¬ idxN g x < g.length) : idxI g x = -1 := by unfold idxI; rw [if_neg h]
theorem idxI_pos {g : List Rq} {x : Int} (h : idxN g x < g.length) : idxI g x = (idxN g x : Int) := by unfold idxI; rw [if_pos h]

theorem l_val0 (g : List Rq) (gf : Bool) (hg : g.length ≤ 100000) (X Q N I : PV) (rs : List Rq) (b : Bool) (hl : rs.length ≤ 100000) (K : Ex → St → Prop)
    (hx : rs.all (inG g) = true → K (.exit 2) ⟨[(1, .ptr 0 0), (13, .p Q), (14, .p N), (15, .p I)], [(0, .var false [.p (.slice gf (rqRow g)), .p X])], 1, [0]⟩)
    (hr : rs.all (inG g) = false → ∀ s', aget s'.env 2 = some (.p (.bool false)) → K .ret s') : ∀ (m i : Nat), i + m = rs.length → (rs.take i).all (inG g) = true →
    W tb a16_l0 ⟨[(1, .ptr 0 0), (13, .p Q), (14, .p N), (15, .p I), (53, .p (.slice b (rqRow rs))), (54, .p (.int .i64 rs.length)), (55, .p (.int .i64 i))], [(0, .var false [.p (.slice gf (rqRow g)), .p X])], 1, [0]⟩ (LK tb (.ghost (.free [4, 6]) (.ghost .lower a16_l0)) K) := by
  intro m
  induction m with
  | zero =>
    rintro i hi ht
    have h1 : ¬ (i : Int) < rs.length := by omega
    rw [List.take_of_length_le (by omega)] at ht
    refine i_code (by unfold a16_l0; exact rfl) ?_
    repeat' (first | (simp (disch := omega) only [go_sem, seval, reduceCtorEq, h1]) | with_reducible exact Ev.mk | ((first | apply x_split | apply x_splitg) <;> intro hβ hb <;> (simp (disch := omega) only [go_sem, seval, reduceCtorEq, h1, hβ]) <;> clear hβ))
    exact hx ht
  | succ m ih =>
    rintro i hi ht
    have h1 : (i : Int) < rs.length := by omega
    have h2 : i < rs.length := by omega
    have h4 : (0 : Int) ≤ i := by omega
    have h3 := rqRow_get rs i h2
    have q := ps_index g gf rs[i].1 hg
    have bad : inG g rs[i] = false → ∀ s', aget s'.env 2 = some (.p (.bool false)) → K .ret s' := fun h => hr (all_no _ _ i h2 h)
    have nxt : inG g rs[i] = true → _ := fun h => ih (i + 1) (by omega) (all_step _ _ i h2 ht h)
    refine i_code (by unfold a16_l0; exact rfl) ?_
    by_cases c : idxN g rs[i].1 < g.length
    · rw [idxI_pos c] at q
      have k1 : ¬ ((idxN g rs[i].1 : Nat) : Int) < 0 := by omega
      have k2 : (0 : Int) ≤ ((idxN g rs[i].1 : Nat) : Int) := by omega
      have h5 := rqRow_get g _ c
      have e : inG g rs[i] = !(g[idxN g rs[i].1]).2 := by unfold inG; rw [decide_eq_true c, getD_rq g _ c]; rfl
      cases hw : (g[idxN g rs[i].1]).2 with
      | true =>
        rw [hw] at h5 e
        repeat' (first | exact q | (simp (disch := omega) only [go_sem, seval, reduceCtorEq, h1, h3, h4, h5, k1, k2]) | with_reducible exact Ev.mk | apply x_call | ((first | apply x_split | apply x_splitg) <;> intro hβ hb <;> (simp (disch := omega) only [go_sem, seval, reduceCtorEq, h1, h3, h4, h5, k1, k2, hβ]) <;> clear hβ))
        exact bad e _ rfl
      | false =>
        rw [hw] at h5 e
        repeat' (first | exact q | (simp (disch := omega) only [go_sem, seval, reduceCtorEq, h1, h3, h4, h5, k1, k2]) | with_reducible exact Ev.mk | apply x_call | ((first | apply x_split | apply x_splitg) <;> intro hβ hb <;> (simp (disch := omega) only [go_sem, seval, reduceCtorEq, h1, h3, h4, h5, k1, k2, hβ]) <;> clear hβ))
        refine i_lk (W_round ?_)
        (try simp (disch := omega) only [go_sem, seval, reduceCtorEq])
        exact nxt e
    · rw [idxI_neg c] at q
      have e : inG g rs[i] = false := by unfold inG; rw [decide_eq_false c]; rfl
      repeat' (first | exact q | (simp (disch := omega) only [go_sem, seval, reduceCtorEq, h1, h3, h4]) | with_reducible exact Ev.mk | apply x_call | ((first | apply x_split | apply x_splitg) <;> intro hβ hb <;> (simp (disch := omega) only [go_sem, seval, reduceCtorEq, h1, h3, h4, hβ]) <;> clear hβ))
      exact bad e _ rfl

theorem l_val1 (g : List Rq) (gf qf : Bool) (hg : g.length ≤ 100000) (qs : List Qu) (hl : qs.length ≤ 100000) (hq : ∀ q ∈ qs, q.reqs.length ≤ 100000) (K : Ex → St → Prop)
    (hx : (∀ j, j < qs.length → (fun i => okQ (qs.map Qu.d) i && ((qs.map Qu.d).getD i Q0).2.all (inG g)) j = true) → K (.exit 0) ⟨[], [], 0, [0]⟩)
    (hr : (∃ j, j < qs.length ∧ (fun i => okQ (qs.map Qu.d) i && ((qs.map Qu.d).getD i Q0).2.all (inG g)) j = false) → ∀ s', aget s'.env 2 = some (.p (.bool false)) → K .ret s') : ∀ (m i : Nat), i + m = qs.length → (∀ j, j < i → (fun i => okQ (qs.map Qu.d) i && ((qs.map Qu.d).getD i Q0).2.all (inG g)) j = true) →
    W tb a16_l1 ⟨[(1, .ptr 0 0), (13, .p (.slice qf (quRow qs))), (14, .p (.int .i64 qs.length)), (15, .p (.int .i64 i))], [(0, .var false [.p (.slice gf (rqRow g)), .p (.slice qf (quRow qs))])], 1, [0]⟩ (LK tb (.ghost .lower a16_l1) K) := by
  intro m
  induction m with
  | zero =>
    rintro i hi ht
    have h1 : ¬ (i : Int) < qs.length := by omega
    refine i_code (by unfold a16_l1; exact rfl) ?_
    repeat' (first | (simp (disch := omega) only [go_sem, seval, reduceCtorEq, h1]) | with_reducible exact Ev.mk | ((first | apply x_split | apply x_splitg) <;> intro hβ hb <;> (simp (disch := omega) only [go_sem, seval, reduceCtorEq, h1, hβ]) <;> clear hβ))
    exact hx (fun j hj => ht j (by omega))
  | succ m ih =>
    rintro i hi ht
    have h1 : (i : Int) < qs.length := by omega
    have h2 : i < qs.length := by omega
    have h4 : (0 : Int) ≤ i := by omega
    have h3 := quRow_get qs i h2
    have hrl := hq _ (List.getElem_mem h2)
    have q := ps_asc qs[i].reqs qs[i].fl hrl
    have gd := getD_q qs i h2
    have bad : ((fun i => okQ (qs.map Qu.d) i && ((qs.map Qu.d).getD i Q0).2.all (inG g)) i = false) → ∀ s', aget s'.env 2 = some (.p (.bool false)) → K .ret s' := fun h => hr ⟨i, h2, h⟩
    have nxt : (okQ (qs.map Qu.d) i = true → qs[i].reqs.all (inG g) = true → _) := fun h h' => ih (i + 1) (by omega) (upto_step ht (by rw [h, gd, h']; rfl))
    have bad1 : okQ (qs.map Qu.d) i = false → ∀ s', aget s'.env 2 = some (.p (.bool false)) → K .ret s' := fun h => bad (by dsimp only; rw [h]; rfl)
    have hok : okQ (qs.map Qu.d) i = (vkey qs[i].key && (decide (i = 0) || slt ((qs.map Qu.d).getD (i - 1) Q0).1 qs[i].key) && decide (0 < qs[i].reqs.length) && ascR qs[i].reqs) := by unfold okQ; rw [gd]
    refine i_code (by unfold a16_l1; exact rfl) ?_
    cases hv : vkey qs[i].key with
    | false =>
      repeat' (first | exact ps_kvalid _ | (simp (disch := omega) only [go_sem, seval, reduceCtorEq, h1, h3, h4, hv]) | with_reducible exact Ev.mk | apply x_call | ((first | apply x_split | apply x_splitg) <;> intro hβ hb <;> (simp (disch := omega) only [go_sem, seval, reduceCtorEq, h1, h3, h4, hv, hβ]) <;> clear hβ))
      exact bad1 (by rw [hok, hv]; rfl) _ rfl
    | true =>
      rw [hv, Bool.true_and] at hok
      by_cases c3 : i = 0
      · have k0 : ¬ (0 : Int) < (i : Int) := by omega
        rw [decide_eq_true c3, Bool.true_or, Bool.true_and] at hok
        by_cases c5 : qs[i].reqs.length = 0
        · have n1 : ((qs[i].reqs.length : Int) == 0) = true := by simp [c5]
          repeat' (first | exact ps_kvalid _ | exact q | (simp (disch := omega) only [go_sem, seval, reduceCtorEq, h1, h3, h4, hv, k0, n1, rqRow_length]) | with_reducible exact Ev.mk | apply x_call | ((first | apply x_split | apply x_splitg) <;> intro hβ hb <;> (simp (disch := omega) only [go_sem, seval, reduceCtorEq, h1, h3, h4, hv, k0, n1, rqRow_length, hβ]) <;> clear hβ))
          exact bad1 (by rw [hok, decide_eq_false (by omega)]; rfl) _ rfl
        · have n1 : ((qs[i].reqs.length : Int) == 0) = false := by rw [beq_eq_false_iff_ne]; omega
          rw [decide_eq_true (by omega : 0 < qs[i].reqs.length), Bool.true_and] at hok
          cases c6 : ascR qs[i].reqs with
          | false =>
            rw [c6] at q
            repeat' (first | exact ps_kvalid _ | exact q | (simp (disch := omega) only [go_sem, seval, reduceCtorEq, h1, h3, h4, hv, k0, n1, rqRow_length]) | with_reducible exact Ev.mk | apply x_call | ((first | apply x_split | apply x_splitg) <;> intro hβ hb <;> (simp (disch := omega) only [go_sem, seval, reduceCtorEq, h1, h3, h4, hv, k0, n1, rqRow_length, hβ]) <;> clear hβ))
            exact bad1 (by rw [hok, c6]) _ rfl
          | true =>
            rw [c6] at q
            repeat' (first | exact ps_kvalid _ | exact q | (simp (disch := omega) only [go_sem, seval, reduceCtorEq, h1, h3, h4, hv, k0, n1, rqRow_length]) | with_reducible exact Ev.mk | apply x_call | ((first | apply x_split | apply x_splitg) <;> intro hβ hb <;> (simp (disch := omega) only [go_sem, seval, reduceCtorEq, h1, h3, h4, hv, k0, n1, rqRow_length, hβ]) <;> clear hβ))
            refine W_round ?_
            (try simp (disch := omega) only [go_sem, seval, reduceCtorEq])
            refine l_val0 g gf hg _ _ _ _ qs[i].reqs qs[i].fl hrl _ ?_ ?_ qs[i].reqs.length 0 (by omega) (by simp)
            · intro ha
              (try simp (disch := omega) only [go_sem, seval, reduceCtorEq])
              refine i_lk (W_round ?_)
              (try simp (disch := omega) only [go_sem, seval, reduceCtorEq])
              exact nxt (by rw [hok, c6]) ha
            · intro ha s' hs
              (try simp (disch := omega) only [go_sem, seval, reduceCtorEq])
              exact bad (by dsimp only; rw [gd, ha, Bool.and_false]) s' hs
      · have k0 : (0 : Int) < (i : Int) := by omega
        have k1 : (i : Int) - 1 = ((i - 1 : Nat) : Int) := by omega
        have h5 := quRow_get qs (i - 1) (by omega)
        have g1 := getD_q qs (i - 1) (by omega)
        have k2 : (0 : Int) ≤ ((i - 1 : Nat) : Int) := by omega
        rw [g1, decide_eq_false c3, Bool.false_or] at hok
        cases c4 : slt qs[i - 1].key qs[i].key with
        | false =>
          repeat' (first | exact ps_kvalid _ | (simp (disch := omega) only [go_sem, seval, reduceCtorEq, h1, h3, h4, hv, k0, k1, k2, h5, c4]) | with_reducible exact Ev.mk | apply x_call | ((first | apply x_split | apply x_splitg) <;> intro hβ hb <;> (simp (disch := omega) only [go_sem, seval, reduceCtorEq, h1, h3, h4, hv, k0, k1, k2, h5, c4, hβ]) <;> clear hβ))
          exact bad1 (by rw [hok]; simp [c4]) _ rfl
        | true =>
          dsimp only at hok
          rw [c4, Bool.true_and] at hok
          by_cases c5 : qs[i].reqs.length = 0
          · have n1 : ((qs[i].reqs.length : Int) == 0) = true := by simp [c5]
            repeat' (first | exact ps_kvalid _ | exact q | (simp (disch := omega) only [go_sem, seval, reduceCtorEq, h1, h3, h4, hv, k0, k1, k2, h5, c4, n1, rqRow_length]) | with_reducible exact Ev.mk | apply x_call | ((first | apply x_split | apply x_splitg) <;> intro hβ hb <;> (simp (disch := omega) only [go_sem, seval, reduceCtorEq, h1, h3, h4, hv, k0, k1, k2, h5, c4, n1, rqRow_length, hβ]) <;> clear hβ))
            exact bad1 (by rw [hok, decide_eq_false (by omega)]; rfl) _ rfl
          · have n1 : ((qs[i].reqs.length : Int) == 0) = false := by rw [beq_eq_false_iff_ne]; omega
            rw [decide_eq_true (by omega : 0 < qs[i].reqs.length), Bool.true_and] at hok
            cases c6 : ascR qs[i].reqs with
            | false =>
              rw [c6] at q
              repeat' (first | exact ps_kvalid _ | exact q | (simp (disch := omega) only [go_sem, seval, reduceCtorEq, h1, h3, h4, hv, k0, k1, k2, h5, c4, n1, rqRow_length]) | with_reducible exact Ev.mk | apply x_call | ((first | apply x_split | apply x_splitg) <;> intro hβ hb <;> (simp (disch := omega) only [go_sem, seval, reduceCtorEq, h1, h3, h4, hv, k0, k1, k2, h5, c4, n1, rqRow_length, hβ]) <;> clear hβ))
              exact bad1 (by rw [hok, c6]) _ rfl
            | true =>
              rw [c6] at q
              repeat' (first | exact ps_kvalid _ | exact q | (simp (disch := omega) only [go_sem, seval, reduceCtorEq, h1, h3, h4, hv, k0, k1, k2, h5, c4, n1, rqRow_length]) | with_reducible exact Ev.mk | apply x_call | ((first | apply x_split | apply x_splitg) <;> intro hβ hb <;> (simp (disch := omega) only [go_sem, seval, reduceCtorEq, h1, h3, h4, hv, k0, k1, k2, h5, c4, n1, rqRow_length, hβ]) <;> clear hβ))
              refine W_round ?_
              (try simp (disch := omega) only [go_sem, seval, reduceCtorEq])
              refine l_val0 g gf hg _ _ _ _ qs[i].reqs qs[i].fl hrl _ ?_ ?_ qs[i].reqs.length 0 (by omega) (by simp)
              · intro ha
                (try simp (disch := omega) only [go_sem, seval, reduceCtorEq])
                refine i_lk (W_round ?_)
                (try simp (disch := omega) only [go_sem, seval, reduceCtorEq])
                exact nxt (by rw [hok, c6]) ha
              · intro ha s' hs
                (try simp (disch := omega) only [go_sem, seval, reduceCtorEq])
                exact bad (by dsimp only; rw [gd, ha, Bool.and_false]) s' hs

theorem ps_valid (t : Tb) (hg : t.g.length ≤ 100000) (hl : t.qs.length ≤ 100000) (hq : ∀ q ∈ t.qs, q.reqs.length ≤ 100000) : PS tb 16 [.agg (tbC t)] (.bool (validD t.d)) := by
  refine PS_of (af := a16) rfl rfl ?_
  unfold a16
  dsimp only [List.map, ofPV, initEnv, tbC]
  have q := ps_asc t.g t.gf hg
  have hd : validD t.d = (ascR t.g && (List.range t.qs.length).all fun i => okQ (t.qs.map Qu.d) i && ((t.qs.map Qu.d).getD i Q0).2.all (inG t.g)) := by
    unfold validD Tb.d
    rw [List.length_map]
  cases c : ascR t.g with
  | false =>
    rw [c] at q hd
    repeat' (first | exact q | (simp (disch := omega) only [go_sem, seval, reduceCtorEq]) | with_reducible exact Ev.mk | apply x_call | ((first | apply x_split | apply x_splitg) <;> intro hβ hb <;> (simp (disch := omega) only [go_sem, seval, reduceCtorEq, hβ]) <;> clear hβ))
    all_goals simp [pur, dep, hd]
  | true =>
    rw [c] at q
    rw [c, Bool.true_and] at hd
    repeat' (first | exact q | (simp (disch := omega) only [go_sem, seval, reduceCtorEq, quRow_length]) | with_reducible exact Ev.mk | apply x_call | ((first | apply x_split | apply x_splitg) <;> intro hβ hb <;> (simp (disch := omega) only [go_sem, seval, reduceCtorEq, quRow_length, hβ]) <;> clear hβ))
    refine W_round ?_
    (try simp (disch := omega) only [go_sem, seval, reduceCtorEq])
    refine l_val1 t.g t.gf t.qf hg t.qs hl hq _ ?_ ?_ t.qs.length 0 (by omega) (by simp)
    · intro ha
      rw [all_range.2 ha] at hd
      repeat' (first | (simp (disch := omega) only [go_sem, seval, reduceCtorEq]) | with_reducible exact Ev.mk | ((first | apply x_split | apply x_splitg) <;> intro hβ hb <;> (simp (disch := omega) only [go_sem, seval, reduceCtorEq, hβ]) <;> clear hβ))
      all_goals simp [pur, dep, hd]
    · rintro ⟨j, hj, h⟩ s' hs
      rw [all_rangeF hj h] at hd
      (try simp (disch := omega) only [go_sem, seval, reduceCtorEq, hs])
      simp [pur, dep, hd]


/-! ## L3 -/

theorem l_rval0 (g : List Rq) (gf : Bool) (hg : g.length ≤ 100000) (X I Ky : PV) (rs : List Rq) (b : Bool) (hl : rs.length ≤ 100000) (K : Ex → St → Prop)
    (hx : rs.all (inG g) = true → K (.exit 2) ⟨[(1, .ptr 0 0), (3, .p I)], [(0, .var false [.p (.slice gf (rqRow g)), .p X])], 1, [0]⟩)
    (hr : rs.all (inG g) = false → ∀ s', aget s'.env 2 = some (.p (.bool false)) → K .ret s') : ∀ (m i : Nat), i + m = rs.length → (rs.take i).all (inG g) = true →
    W tb a17_l0 ⟨[(1, .ptr 0 0), (3, .p I), (4, .ptr 1 0), (5, .p (.int .i64 i))], [(1, .var false [.p Ky, .p (.slice b (rqRow rs))]), (0, .var false [.p (.slice gf (rqRow g)), .p X])], 2, [0]⟩ (LK tb (.ghost .lower a17_l0) K) := by
  intro m
  induction m with
  | zero =>
    rintro i hi ht
    have h1 : ¬ (i : Int) < rs.length := by omega
    rw [List.take_of_length_le (by omega)] at ht
    refine i_code (by unfold a17_l0; exact rfl) ?_
    repeat' (first | (simp (disch := omega) only [go_sem, seval, reduceCtorEq, h1, rqRow_length]) | with_reducible exact Ev.mk | ((first | apply x_split | apply x_splitg) <;> intro hβ hb <;> (simp (disch := omega) only [go_sem, seval, reduceCtorEq, h1, rqRow_length, hβ]) <;> clear hβ))
    exact hx ht
  | succ m ih =>
    rintro i hi ht
    have h1 : (i : Int) < rs.length := by omega
    have h2 : i < rs.length := by omega
    have h4 : (0 : Int) ≤ i := by omega
    have h3 := rqRow_get rs i h2
    have q := ps_find g gf rs[i].1 hg
    have bad : inG g rs[i] = false → ∀ s', aget s'.env 2 = some (.p (.bool false)) → K .ret s' := fun h => hr (all_no _ _ i h2 h)
    have nxt : inG g rs[i] = true → _ := fun h => ih (i + 1) (by omega) (all_step _ _ i h2 ht h)
    refine i_code (by unfold a17_l0; exact rfl) ?_
    by_cases c : idxN g rs[i].1 < g.length
    · rw [idxI_pos c] at q
      have k1 : ¬ ((idxN g rs[i].1 : Nat) : Int) < 0 := by omega
      have k2 : (0 : Int) ≤ ((idxN g rs[i].1 : Nat) : Int) := by omega
      have h5 := rqRow_get g _ c
      have e : inG g rs[i] = !(g[idxN g rs[i].1]).2 := by unfold inG; rw [decide_eq_true c, getD_rq g _ c]; rfl
      cases hw : (g[idxN g rs[i].1]).2 with
      | true =>
        rw [hw] at h5 e
        repeat' (first | exact q | (simp (disch := omega) only [go_sem, seval, reduceCtorEq, h1, rqRow_length, h3, h4, h5, k1, k2]) | with_reducible exact Ev.mk | apply x_call | ((first | apply x_split | apply x_splitg) <;> intro hβ hb <;> (simp (disch := omega) only [go_sem, seval, reduceCtorEq, h1, rqRow_length, h3, h4, h5, k1, k2, hβ]) <;> clear hβ))
        exact bad e _ rfl
      | false =>
        rw [hw] at h5 e
        repeat' (first | exact q | (simp (disch := omega) only [go_sem, seval, reduceCtorEq, h1, rqRow_length, h3, h4, h5, k1, k2]) | with_reducible exact Ev.mk | apply x_call | ((first | apply x_split | apply x_splitg) <;> intro hβ hb <;> (simp (disch := omega) only [go_sem, seval, reduceCtorEq, h1, rqRow_length, h3, h4, h5, k1, k2, hβ]) <;> clear hβ))
        refine i_lk (W_round ?_)
        (try simp (disch := omega) only [go_sem, seval, reduceCtorEq])
        exact nxt e
    · rw [idxI_neg c] at q
      have e : inG g rs[i] = false := by unfold inG; rw [decide_eq_false c]; rfl
      repeat' (first | exact q | (simp (disch := omega) only [go_sem, seval, reduceCtorEq, h1, rqRow_length, h3, h4]) | with_reducible exact Ev.mk | apply x_call | ((first | apply x_split | apply x_splitg) <;> intro hβ hb <;> (simp (disch := omega) only [go_sem, seval, reduceCtorEq, h1, rqRow_length, h3, h4, hβ]) <;> clear hβ))
      exact bad e _ rfl

theorem l_rval1 (g : List Rq) (gf qf : Bool) (hg : g.length ≤ 100000) (qs : List Qu) (hl : qs.length ≤ 100000) (hq : ∀ q ∈ qs, q.reqs.length ≤ 100000 ∧ q.key.size ≤ 1000) (K : Ex → St → Prop)
    (hx : (∀ j, j < qs.length → (fun i => okQ (qs.map Qu.d) i && ((qs.map Qu.d).getD i Q0).2.all (inG g)) j = true) → K (.exit 0) ⟨[], [], 0, [0]⟩)
    (hr : (∃ j, j < qs.length ∧ (fun i => okQ (qs.map Qu.d) i && ((qs.map Qu.d).getD i Q0).2.all (inG g)) j = false) → ∀ s', aget s'.env 2 = some (.p (.bool false)) → K .ret s') : ∀ (m i : Nat), i + m = qs.length → (∀ j, j < i → (fun i => okQ (qs.map Qu.d) i && ((qs.map Qu.d).getD i Q0).2.all (inG g)) j = true) →
    W tb a17_l1 ⟨[(1, .ptr 0 0), (3, .p (.int .i64 i))], [(0, .var false [.p (.slice gf (rqRow g)), .p (.slice qf (quRow qs))])], 1, [0]⟩ (LK tb (.ghost .lower a17_l1) K) := by
  intro m
  induction m with
  | zero =>
    rintro i hi ht
    have h1 : ¬ (i : Int) < qs.length := by omega
    refine i_code (by unfold a17_l1; exact rfl) ?_
    repeat' (first | (simp (disch := omega) only [go_sem, seval, reduceCtorEq, h1, quRow_length]) | with_reducible exact Ev.mk | ((first | apply x_split | apply x_splitg) <;> intro hβ hb <;> (simp (disch := omega) only [go_sem, seval, reduceCtorEq, h1, quRow_length, hβ]) <;> clear hβ))
    exact hx (fun j hj => ht j (by omega))
  | succ m ih =>
    rintro i hi ht
    have h1 : (i : Int) < qs.length := by omega
    have h2 : i < qs.length := by omega
    have h4 : (0 : Int) ≤ i := by omega
    have h3 := quRow_get qs i h2
    have hrl := (hq _ (List.getElem_mem h2)).1
    have hkz := (hq _ (List.getElem_mem h2)).2
    have q := ps_rasc qs[i].reqs qs[i].fl hrl
    have gd := getD_q qs i h2
    have bad : ((fun i => okQ (qs.map Qu.d) i && ((qs.map Qu.d).getD i Q0).2.all (inG g)) i = false) → ∀ s', aget s'.env 2 = some (.p (.bool false)) → K .ret s' := fun h => hr ⟨i, h2, h⟩
    have nxt : (okQ (qs.map Qu.d) i = true → qs[i].reqs.all (inG g) = true → _) := fun h h' => ih (i + 1) (by omega) (upto_step ht (by rw [h, gd, h']; rfl))
    have bad1 : okQ (qs.map Qu.d) i = false → ∀ s', aget s'.env 2 = some (.p (.bool false)) → K .ret s' := fun h => bad (by dsimp only; rw [h]; rfl)
    have hok : okQ (qs.map Qu.d) i = (vkey qs[i].key && (decide (i = 0) || slt ((qs.map Qu.d).getD (i - 1) Q0).1 qs[i].key) && decide (0 < qs[i].reqs.length) && ascR qs[i].reqs) := by unfold okQ; rw [gd]
    refine i_code (by unfold a17_l1; exact rfl) ?_
    cases hv : vkey qs[i].key with
    | false =>
      repeat' (first | exact ps_r4valid _ (by omega) | (simp (disch := omega) only [go_sem, seval, reduceCtorEq, h1, quRow_length, h3, h4, hv]) | with_reducible exact Ev.mk | apply x_call | ((first | apply x_split | apply x_splitg) <;> intro hβ hb <;> (simp (disch := omega) only [go_sem, seval, reduceCtorEq, h1, quRow_length, h3, h4, hv, hβ]) <;> clear hβ))
      exact bad1 (by rw [hok, hv]; rfl) _ rfl
    | true =>
      rw [hv, Bool.true_and] at hok
      by_cases c3 : i = 0
      · have k0 : ¬ (0 : Int) < (i : Int) := by omega
        rw [decide_eq_true c3, Bool.true_or, Bool.true_and] at hok
        by_cases c5 : qs[i].reqs.length = 0
        · have n1 : ((qs[i].reqs.length : Int) == 0) = true := by simp [c5]
          repeat' (first | exact ps_r4valid _ (by omega) | exact q | (simp (disch := omega) only [go_sem, seval, reduceCtorEq, h1, quRow_length, h3, h4, hv, k0, n1, rqRow_length]) | with_reducible exact Ev.mk | apply x_call | ((first | apply x_split | apply x_splitg) <;> intro hβ hb <;> (simp (disch := omega) only [go_sem, seval, reduceCtorEq, h1, quRow_length, h3, h4, hv, k0, n1, rqRow_length, hβ]) <;> clear hβ))
          exact bad1 (by rw [hok, decide_eq_false (by omega)]; rfl) _ rfl
        · have n1 : ((qs[i].reqs.length : Int) == 0) = false := by rw [beq_eq_false_iff_ne]; omega
          rw [decide_eq_true (by omega : 0 < qs[i].reqs.length), Bool.true_and] at hok
          cases c6 : ascR qs[i].reqs with
          | false =>
            rw [c6] at q
            repeat' (first | exact ps_r4valid _ (by omega) | exact q | (simp (disch := omega) only [go_sem, seval, reduceCtorEq, h1, quRow_length, h3, h4, hv, k0, n1, rqRow_length]) | with_reducible exact Ev.mk | apply x_call | ((first | apply x_split | apply x_splitg) <;> intro hβ hb <;> (simp (disch := omega) only [go_sem, seval, reduceCtorEq, h1, quRow_length, h3, h4, hv, k0, n1, rqRow_length, hβ]) <;> clear hβ))
            exact bad1 (by rw [hok, c6]) _ rfl
          | true =>
            rw [c6] at q
            repeat' (first | exact ps_r4valid _ (by omega) | exact q | (simp (disch := omega) only [go_sem, seval, reduceCtorEq, h1, quRow_length, h3, h4, hv, k0, n1, rqRow_length]) | with_reducible exact Ev.mk | apply x_call | ((first | apply x_split | apply x_splitg) <;> intro hβ hb <;> (simp (disch := omega) only [go_sem, seval, reduceCtorEq, h1, quRow_length, h3, h4, hv, k0, n1, rqRow_length, hβ]) <;> clear hβ))
            refine W_round ?_
            (try simp (disch := omega) only [go_sem, seval, reduceCtorEq])
            refine l_rval0 g gf hg _ _ _ qs[i].reqs qs[i].fl hrl _ ?_ ?_ qs[i].reqs.length 0 (by omega) (by simp)
            · intro ha
              (try simp (disch := omega) only [go_sem, seval, reduceCtorEq])
              refine i_lk (W_round ?_)
              (try simp (disch := omega) only [go_sem, seval, reduceCtorEq])
              exact nxt (by rw [hok, c6]) ha
            · intro ha s' hs
              (try simp (disch := omega) only [go_sem, seval, reduceCtorEq])
              exact bad (by dsimp only; rw [gd, ha, Bool.and_false]) s' hs
      · have k0 : (0 : Int) < (i : Int) := by omega
        have k1 : (i : Int) - 1 = ((i - 1 : Nat) : Int) := by omega
        have h5 := quRow_get qs (i - 1) (by omega)
        have g1 := getD_q qs (i - 1) (by omega)
        have k2 : (0 : Int) ≤ ((i - 1 : Nat) : Int) := by omega
        rw [g1, decide_eq_false c3, Bool.false_or] at hok
        cases c4 : slt qs[i - 1].key qs[i].key with
        | false =>
          repeat' (first | exact ps_r4valid _ (by omega) | (simp (disch := omega) only [go_sem, seval, reduceCtorEq, h1, quRow_length, h3, h4, hv, k0, k1, k2, h5, c4]) | with_reducible exact Ev.mk | apply x_call | ((first | apply x_split | apply x_splitg) <;> intro hβ hb <;> (simp (disch := omega) only [go_sem, seval, reduceCtorEq, h1, quRow_length, h3, h4, hv, k0, k1, k2, h5, c4, hβ]) <;> clear hβ))
          exact bad1 (by rw [hok]; simp [c4]) _ rfl
        | true =>
          dsimp only at hok
          rw [c4, Bool.true_and] at hok
          by_cases c5 : qs[i].reqs.length = 0
          · have n1 : ((qs[i].reqs.length : Int) == 0) = true := by simp [c5]
            repeat' (first | exact ps_r4valid _ (by omega) | exact q | (simp (disch := omega) only [go_sem, seval, reduceCtorEq, h1, quRow_length, h3, h4, hv, k0, k1, k2, h5, c4, n1, rqRow_length]) | with_reducible exact Ev.mk | apply x_call | ((first | apply x_split | apply x_splitg) <;> intro hβ hb <;> (simp (disch := omega) only [go_sem, seval, reduceCtorEq, h1, quRow_length, h3, h4, hv, k0, k1, k2, h5, c4, n1, rqRow_length, hβ]) <;> clear hβ))
            exact bad1 (by rw [hok, decide_eq_false (by omega)]; rfl) _ rfl
          · have n1 : ((qs[i].reqs.length : Int) == 0) = false := by rw [beq_eq_false_iff_ne]; omega
            rw [decide_eq_true (by omega : 0 < qs[i].reqs.length), Bool.true_and] at hok
            cases c6 : ascR qs[i].reqs with
            | false =>
              rw [c6] at q
              repeat' (first | exact ps_r4valid _ (by omega) | exact q | (simp (disch := omega) only [go_sem, seval, reduceCtorEq, h1, quRow_length, h3, h4, hv, k0, k1, k2, h5, c4, n1, rqRow_length]) | with_reducible exact Ev.mk | apply x_call | ((first | apply x_split | apply x_splitg) <;> intro hβ hb <;> (simp (disch := omega) only [go_sem, seval, reduceCtorEq, h1, quRow_length, h3, h4, hv, k0, k1, k2, h5, c4, n1, rqRow_length, hβ]) <;> clear hβ))
              exact bad1 (by rw [hok, c6]) _ rfl
            | true =>
              rw [c6] at q
              repeat' (first | exact ps_r4valid _ (by omega) | exact q | (simp (disch := omega) only [go_sem, seval, reduceCtorEq, h1, quRow_length, h3, h4, hv, k0, k1, k2, h5, c4, n1, rqRow_length]) | with_reducible exact Ev.mk | apply x_call | ((first | apply x_split | apply x_splitg) <;> intro hβ hb <;> (simp (disch := omega) only [go_sem, seval, reduceCtorEq, h1, quRow_length, h3, h4, hv, k0, k1, k2, h5, c4, n1, rqRow_length, hβ]) <;> clear hβ))
              refine W_round ?_
              (try simp (disch := omega) only [go_sem, seval, reduceCtorEq])
              refine l_rval0 g gf hg _ _ _ qs[i].reqs qs[i].fl hrl _ ?_ ?_ qs[i].reqs.length 0 (by omega) (by simp)
              · intro ha
                (try simp (disch := omega) only [go_sem, seval, reduceCtorEq])
                refine i_lk (W_round ?_)
                (try simp (disch := omega) only [go_sem, seval, reduceCtorEq])
                exact nxt (by rw [hok, c6]) ha
              · intro ha s' hs
                (try simp (disch := omega) only [go_sem, seval, reduceCtorEq])
                exact bad (by dsimp only; rw [gd, ha, Bool.and_false]) s' hs

theorem ps_rvalidT (t : Tb) (hg : t.g.length ≤ 100000) (hl : t.qs.length ≤ 100000) (hq : ∀ q ∈ t.qs, q.reqs.length ≤ 100000 ∧ q.key.size ≤ 1000) : PS tb 17 [.agg (tbC t)] (.bool (validD t.d)) := by
  refine PS_of (af := a17) rfl rfl ?_
  unfold a17
  dsimp only [List.map, ofPV, initEnv, tbC]
  have q := ps_rasc t.g t.gf hg
  have hd : validD t.d = (ascR t.g && (List.range t.qs.length).all fun i => okQ (t.qs.map Qu.d) i && ((t.qs.map Qu.d).getD i Q0).2.all (inG t.g)) := by
    unfold validD Tb.d
    rw [List.length_map]
  cases c : ascR t.g with
  | false =>
    rw [c] at q hd
    repeat' (first | exact q | (simp (disch := omega) only [go_sem, seval, reduceCtorEq]) | with_reducible exact Ev.mk | apply x_call | ((first | apply x_split | apply x_splitg) <;> intro hβ hb <;> (simp (disch := omega) only [go_sem, seval, reduceCtorEq, hβ]) <;> clear hβ))
    all_goals simp [pur, dep, hd]
  | true =>
    rw [c] at q
    rw [c, Bool.true_and] at hd
    repeat' (first | exact q | (simp (disch := omega) only [go_sem, seval, reduceCtorEq, quRow_length]) | with_reducible exact Ev.mk | apply x_call | ((first | apply x_split | apply x_splitg) <;> intro hβ hb <;> (simp (disch := omega) only [go_sem, seval, reduceCtorEq, quRow_length, hβ]) <;> clear hβ))
    refine W_round ?_
    (try simp (disch := omega) only [go_sem, seval, reduceCtorEq])
    refine l_rval1 t.g t.gf t.qf hg t.qs hl hq _ ?_ ?_ t.qs.length 0 (by omega) (by simp)
    · intro ha
      rw [all_range.2 ha] at hd
      repeat' (first | (simp (disch := omega) only [go_sem, seval, reduceCtorEq]) | with_reducible exact Ev.mk | ((first | apply x_split | apply x_splitg) <;> intro hβ hb <;> (simp (disch := omega) only [go_sem, seval, reduceCtorEq, hβ]) <;> clear hβ))
      all_goals simp [pur, dep, hd]
    · rintro ⟨j, hj, h⟩ s' hs
      rw [all_rangeF hj h] at hd
      (try simp (disch := omega) only [go_sem, seval, reduceCtorEq, hs])
      simp [pur, dep, hd]


/-! ## L4 -/

def AscQ (l : List Qu) : Prop := l.Pairwise fun x y => slt x.key y.key = true
def cmp3 (a b : ByteArray) : Int := if slt a b then -1 else if slt b a then 1 else 0
theorem cmp3_lt (a b : ByteArray) : cmp3 a b < 0 ↔ slt a b = true := by
  unfold cmp3
  split
  · rename_i h; simp [h]
  · rename_i h
    split <;> simp [h]
theorem cmp3_eq (a b : ByteArray) : cmp3 a b = 0 ↔ a = b := by
  unfold cmp3
  split
  · rename_i h; simp [slt_ne h]
  · rename_i h
    split
    · rename_i h2; simp [(slt_ne h2).symm]
    · rename_i h2
      simp [slt_tri (by simpa using h) (by simpa using h2)]

theorem ps_cmpQ (q : Qu) (k : ByteArray) : PS tb 60 [.agg (quC q), .str k] (.int .i64 (cmp3 q.key k)) := by
  refine PS_of (af := a60) rfl rfl ?_
  unfold a60
  dsimp only [List.map, ofPV, initEnv, quC]
  unfold cmp3
  cases c : slt q.key k with
  | true =>
    repeat' (first | (simp (disch := omega) only [go_sem, seval, reduceCtorEq, c]) | with_reducible exact Ev.mk | ((first | apply x_split | apply x_splitg) <;> intro hβ hb <;> (simp (disch := omega) only [go_sem, seval, reduceCtorEq, c, hβ]) <;> clear hβ))
    all_goals simp [pur, dep]
  | false =>
    cases c2 : slt k q.key with
    | true =>
      repeat' (first | (simp (disch := omega) only [go_sem, seval, reduceCtorEq, c, c2]) | with_reducible exact Ev.mk | ((first | apply x_split | apply x_splitg) <;> intro hβ hb <;> (simp (disch := omega) only [go_sem, seval, reduceCtorEq, c, c2, hβ]) <;> clear hβ))
      all_goals simp [pur, dep]
    | false =>
      repeat' (first | (simp (disch := omega) only [go_sem, seval, reduceCtorEq, c, c2]) | with_reducible exact Ev.mk | ((first | apply x_split | apply x_splitg) <;> intro hβ hb <;> (simp (disch := omega) only [go_sem, seval, reduceCtorEq, c, c2, hβ]) <;> clear hβ))
      all_goals simp [pur, dep]

theorem l_searchQ (l : List Qu) (k : ByteArray) (b : Bool) (hl : l.length ≤ 100000) (hs : AscQ l) (K : Ex → St → Prop)
    (hx : ∀ p, p ≤ l.length → (∀ (x : Nat) (hx : x < l.length), x < p → slt l[x].key k = true) → (∀ (x : Nat) (hx : x < l.length), p ≤ x → slt l[x].key k = false) → K (.exit 0) ⟨[(0, .p (.slice b (quRow l))), (1, .p (.str k)), (2, .p (.func 60 [])), (8, .p (.int .i64 l.length)), (9, .p (.int .i64 p))], [], 0, [0]⟩) :
    ∀ (m i j : Nat), j - i ≤ m → i ≤ j → j ≤ l.length → (∀ (x : Nat) (hx : x < l.length), x < i → slt l[x].key k = true) → (∀ (x : Nat) (hx : x < l.length), j ≤ x → slt l[x].key k = false) →
    W tb a59_l0 ⟨[(0, .p (.slice b (quRow l))), (1, .p (.str k)), (2, .p (.func 60 [])), (8, .p (.int .i64 l.length)), (9, .p (.int .i64 i)), (10, .p (.int .i64 j))], [], 0, [0]⟩ (LK tb (.ghost .lower a59_l0) K) := by
  intro m
  induction m with
  | zero =>
    intro i j hm hij hj h1 h2
    obtain rfl : i = j := by omega
    have h3 : ¬ (i : Int) < i := by omega
    refine i_code (by unfold a59_l0; exact rfl) ?_
    (try simp (disch := omega) only [go_sem, seval, reduceCtorEq, h3])
    exact hx i hj h1 h2
  | succ m ih =>
    intro i j hm hij hj h1 h2
    by_cases hlt : i < j
    · have h3 : (i : Int) < j := by omega
      have h4 : (i : Int) + (j : Int) = ((i + j : Nat) : Int) := by omega
      have h5 := shr_one' (i + j)
      have h6 : (i + j) / 2 < l.length := by omega
      have h7 := quRow_get l _ h6
      have h8 : (0 : Int) ≤ (((i + j) / 2 : Nat) : Int) := by omega
      have q := ps_cmpQ l[(i + j) / 2] k
      simp only [quC] at q
      have hc := cmp3_lt l[(i + j) / 2].key k
      refine i_code (by unfold a59_l0; exact rfl) ?_
      by_cases hb : cmp3 l[(i + j) / 2].key k < 0
      · repeat' (first | exact q | (simp (disch := omega) only [go_sem, seval, reduceCtorEq, h3, h4, h5, h7, h8, Go.IntWalk.u64_in, hb]) | with_reducible exact Ev.mk | apply x_call | ((first | apply x_split | apply x_splitg) <;> intro hβ hb <;> (simp (disch := omega) only [go_sem, seval, reduceCtorEq, h3, h4, h5, h7, h8, Go.IntWalk.u64_in, hb, hβ]) <;> clear hβ))
        refine i_lk (W_round ?_)
        (try simp (disch := omega) only [go_sem, seval, reduceCtorEq])
        refine ih ((i + j) / 2 + 1) j (by omega) (by omega) hj (fun x hx hxi => ?_) h2
        have hm := hc.1 hb
        rcases Nat.lt_or_ge x ((i + j) / 2) with h9 | h9
        · exact slt_trans ((List.pairwise_iff_getElem.1 hs) x _ hx h6 h9) hm
        · have : x = (i + j) / 2 := by omega
          subst this; exact hm
      · repeat' (first | exact q | (simp (disch := omega) only [go_sem, seval, reduceCtorEq, h3, h4, h5, h7, h8, Go.IntWalk.u64_in, hb]) | with_reducible exact Ev.mk | apply x_call | ((first | apply x_split | apply x_splitg) <;> intro hβ hb <;> (simp (disch := omega) only [go_sem, seval, reduceCtorEq, h3, h4, h5, h7, h8, Go.IntWalk.u64_in, hb, hβ]) <;> clear hβ))
        refine i_lk (W_round ?_)
        (try simp (disch := omega) only [go_sem, seval, reduceCtorEq])
        refine ih i ((i + j) / 2) (by omega) (by omega) (by omega) h1 (fun x hx hxi => ?_)
        have hm : slt l[(i + j) / 2].key k = false := by
          cases hs : slt l[(i + j) / 2].key k with
          | false => rfl
          | true => exact absurd (hc.2 hs) hb
        rcases Nat.lt_or_ge ((i + j) / 2) x with h9 | h9
        · exact sle_trans hm (slt_asymm ((List.pairwise_iff_getElem.1 hs) _ x h6 hx h9))
        · have : x = (i + j) / 2 := by omega
          subst this; exact hm
    · obtain rfl : i = j := by omega
      have h3 : ¬ (i : Int) < i := by omega
      refine i_code (by unfold a59_l0; exact rfl) ?_
      (try simp (disch := omega) only [go_sem, seval, reduceCtorEq, h3])
      exact hx i hj h1 h2

def fndQ (l : List Qu) (k : ByteArray) (p : Nat) : Bool := match l[p]? with
  | some h => decide (h.key = k)
  | none => false

/-- A key's place: what stands before is less, what stands there is not. -/
def AtQ (l : List Qu) (k : ByteArray) (p : Nat) : Prop := p ≤ l.length ∧ (∀ (x : Nat) (hx : x < l.length), x < p → slt l[x].key k = true) ∧ (∀ (x : Nat) (hx : x < l.length), p ≤ x → slt l[x].key k = false)

theorem ps_searchQ (l : List Qu) (k : ByteArray) (b : Bool) (hl : l.length ≤ 100000) (hs : AscQ l) : ∃ p : Nat, AtQ l k p ∧ PS tb 59 [.slice b (quRow l), .str k, .func 60 []] (.tuple [.int .i64 p, .bool (fndQ l k p)]) := by
  have w : W tb a59.body { env := initEnv 0 ([PV.slice b (quRow l), PV.str k, PV.func 60 []].map ofPV), heap := [], next := 0, marks := [0] } (Done a59.results fun v s => ∃ i : {p : Nat // AtQ l k p}, pur s.heap dep v = some (.tuple [.int .i64 i.1, .bool (fndQ l k i.1)])) := by
    unfold a59
    dsimp only [List.map, ofPV, initEnv]
    repeat' (first | (simp (disch := omega) only [go_sem, seval, reduceCtorEq, quRow_length]) | with_reducible exact Ev.mk | ((first | apply x_split | apply x_splitg) <;> intro hβ hb <;> (simp (disch := omega) only [go_sem, seval, reduceCtorEq, quRow_length, hβ]) <;> clear hβ))
    refine W_round ?_
    (try simp (disch := omega) only [go_sem, seval, reduceCtorEq])
    refine l_searchQ l k b hl hs _ ?_ l.length 0 l.length (by omega) (by omega) (Nat.le_refl _) (fun x _ h => by omega) (fun x _ h => by omega)
    intro p hp h1 h2
    have hat : AtQ l k p := ⟨hp, h1, h2⟩
    by_cases hlt : p < l.length
    · have h3 : (p : Int) < l.length := by omega
      have h4 := quRow_get l _ hlt
      have h5 : (0 : Int) ≤ p := by omega
      have q := ps_cmpQ l[p] k
      simp only [quC] at q
      have hf : fndQ l k p = (cmp3 l[p].key k == 0) := by
        unfold fndQ
        rw [List.getElem?_eq_getElem hlt]
        have := cmp3_eq l[p].key k
        by_cases c : l[p].key = k
        · simp [c, cmp3_eq]
        · have c2 : ¬ cmp3 l[p].key k = 0 := fun e => c (this.1 e)
          simp [c, c2]
      generalize hg : (cmp3 l[p].key k == 0) = g at hf
      repeat' (first | exact q | (simp (disch := omega) only [go_sem, seval, reduceCtorEq, h3, h4, h5, hg]) | with_reducible exact Ev.mk | apply x_call | ((first | apply x_split | apply x_splitg) <;> intro hβ hb <;> (simp (disch := omega) only [go_sem, seval, reduceCtorEq, h3, h4, h5, hg, hβ]) <;> clear hβ))
      all_goals exact ⟨⟨p, hat⟩, by simp [pur, dep, mapO, hf]⟩
    · have h3 : ¬ (p : Int) < l.length := by omega
      have hf : fndQ l k p = false := by
        unfold fndQ
        rw [List.getElem?_eq_none (by omega)]
      repeat' (first | (simp (disch := omega) only [go_sem, seval, reduceCtorEq, h3]) | with_reducible exact Ev.mk | ((first | apply x_split | apply x_splitg) <;> intro hβ hb <;> (simp (disch := omega) only [go_sem, seval, reduceCtorEq, h3, hβ]) <;> clear hβ))
      all_goals exact ⟨⟨p, hat⟩, by simp [pur, dep, mapO, hf]⟩
  obtain ⟨i, hi⟩ := PS_ex (f := 59) rfl rfl w
  exact ⟨i.1, i.2, hi⟩


theorem ps_shrQ : True := trivial

/-! ### copies -/

theorem bs_copied (l : List Rq) (b : Bool) (hl : l.length ≤ 100000) (H : Heap) (nx : Nat) (hf : aget H nx = none) : BS tb 58 [.p (.slice b (rqRow l))] H nx (.ref nx l.length 0 l.length) ((nx, .row false 2 (rqRow l)) :: H) (nx + 1) := by
  have h1 : (l.length : Int) ≤ ((l.length + 1 : Nat) : Int) := by omega
  have h2 : (l.length + 1) * 16 ≤ 140737488355328 := by omega
  have h3 : ((l.length + 1 : Nat) : Int) ≤ 140737488355328 := by omega
  have h4 : (0 : Int) ≤ l.length := by omega
  have h5 : ((l.length : Int)).toNat = l.length := by omega
  refine BS_of (af := a58) rfl rfl ?_
  unfold a58
  dsimp only [initEnv]
  repeat' (first | (simp (disch := omega) only [go_sem, seval, reduceCtorEq, rqRow_length, h1, h2, h3, h4, h5, maxBytes, List.length_replicate, allSz_rqRow, rqRow_take, takeAll, List.drop_replicate, Nat.sub_self]) | with_reducible exact Ev.mk | ((first | apply x_split | apply x_splitg) <;> intro hβ hb <;> (simp (disch := omega) only [go_sem, seval, reduceCtorEq, rqRow_length, h1, h2, h3, h4, h5, maxBytes, List.length_replicate, allSz_rqRow, rqRow_take, takeAll, List.drop_replicate, Nat.sub_self, hβ]) <;> clear hβ))
  trace_state


/-! ## L5 -/

def qCells (qs : List Qd) (ids : List Nat) : List (List DV) := List.zipWith (fun q i => [.p (.str q.1), .ref i q.2.length 0 q.2.length]) qs ids
theorem qCells_length {qs : List Qd} {ids : List Nat} (h : ids.length = qs.length) : (qCells qs ids).length = qs.length := by simp [qCells, h]
theorem qCells_get {qs : List Qd} {ids : List Nat} {j : Nat} {q : Qd} {i : Nat} (h1 : qs[j]? = some q) (h2 : ids[j]? = some i) : (qCells qs ids)[j]? = some [.p (.str q.1), .ref i q.2.length 0 q.2.length] := by
  simp [qCells, List.getElem?_zipWith, h1, h2]
theorem qCells_snoc {qs : List Qd} {ids : List Nat} (h : ids.length = qs.length) (q : Qd) (i : Nat) : qCells qs ids ++ [[.p (.str q.1), .ref i q.2.length 0 q.2.length]] = qCells (qs ++ [q]) (ids ++ [i]) := by
  unfold qCells
  rw [List.zipWith_append h.symm]
  rfl

/-- A table whose parts lie in blocks of our own. -/
structure TabQ (H : Heap) (nx ga qa : Nat) (g : List Rq) (qs : List Qd) (ids : List Nat) : Prop where
  gl : aget H ga = some (.row false 2 (rqRow g))
  ql : aget H qa = some (.rowd false 2 (qCells qs ids))
  len : ids.length = qs.length
  at_ : ∀ (j i : Nat) (q : Qd), ids[j]? = some i → qs[j]? = some q → aget H i = some (.row false 2 (rqRow q.2))
  nd : ids.Nodup
  ng : ga ∉ ids
  nq : qa ∉ ids
  gq : ga ≠ qa
  ltg : ga < nx
  ltq : qa < nx
  lt : ∀ i ∈ ids, i < nx
  free : ∀ k, nx ≤ k → aget H k = none

theorem TabQ.congr {H H' : Heap} {nx nx' ga qa : Nat} {g : List Rq} {qs : List Qd} {ids : List Nat} (h : TabQ H nx ga qa g qs ids) (hH : ∀ k, k = ga ∨ k = qa ∨ k ∈ ids → aget H' k = aget H k) (hn : nx ≤ nx') (hf : ∀ k, nx' ≤ k → aget H' k = none) : TabQ H' nx' ga qa g qs ids where
  gl := by rw [hH _ (.inl rfl), h.gl]
  ql := by rw [hH _ (.inr (.inl rfl)), h.ql]
  len := h.len
  at_ := fun j i q a b => by rw [hH _ (.inr (.inr (List.mem_of_getElem? a))), h.at_ j i q a b]
  nd := h.nd
  ng := h.ng
  nq := h.nq
  gq := h.gq
  ltg := by have := h.ltg; omega
  ltq := by have := h.ltq; omega
  lt := fun i hi => by have := h.lt i hi; omega
  free := hf

/-- One more queue at the end. -/
theorem TabQ.snoc {H H' : Heap} {nx nx' ga qa n1 : Nat} {g : List Rq} {qs : List Qd} {ids : List Nat} (h : TabQ H nx ga qa g qs ids) (q : Qd) (hn1 : nx ≤ n1) (hn : n1 < nx')
    (hq : aget H' qa = some (.rowd false 2 (qCells (qs ++ [q]) (ids ++ [n1])))) (h1 : aget H' n1 = some (.row false 2 (rqRow q.2))) (hH : ∀ k, k = ga ∨ k ∈ ids → aget H' k = aget H k) (hf : ∀ k, nx' ≤ k → aget H' k = none) : TabQ H' nx' ga qa g (qs ++ [q]) (ids ++ [n1]) where
  gl := by rw [hH _ (.inl rfl), h.gl]
  ql := hq
  len := by simp [h.len]
  at_ := fun j i q' a b => by
    rcases Nat.lt_or_ge j ids.length with c | c
    · rw [List.getElem?_append_left c] at a
      rw [List.getElem?_append_left (by rw [← h.len]; exact c)] at b
      rw [hH _ (.inr (List.mem_of_getElem? a)), h.at_ j i q' a b]
    · rw [List.getElem?_append_right c] at a
      rw [List.getElem?_append_right (by rw [← h.len]; exact c)] at b
      have e : j - ids.length = 0 := by
        rcases Nat.eq_zero_or_pos (j - ids.length) with e | e
        · exact e
        · rw [List.getElem?_eq_none (by simp; omega)] at a; cases a
      rw [e] at a
      rw [← h.len, e] at b
      simp at a b
      subst a; subst b
      exact h1
  nd := by
    rw [List.nodup_append]
    refine ⟨h.nd, by simp, fun a ha b hb => ?_⟩
    have := h.lt a ha
    simp at hb; omega
  ng := by
    have := h.ltg
    rw [List.mem_append, List.mem_singleton]
    rintro (e | e)
    · exact h.ng e
    · omega
  nq := by
    have := h.ltq
    rw [List.mem_append, List.mem_singleton]
    rintro (e | e)
    · exact h.nq e
    · omega
  gq := h.gq
  ltg := by have := h.ltg; omega
  ltq := by have := h.ltq; omega
  lt := fun i hi => by
    rcases List.mem_append.1 hi with e | e
    · have := h.lt i e; omega
    · simp at e; omega
  free := hf

theorem map_take_succ (qs : List Qu) (i : Nat) (h : i < qs.length) : (qs.take (i + 1)).map Qu.d = (qs.take i).map Qu.d ++ [(qs[i].key, qs[i].reqs)] := by
  rw [List.take_add_one, List.getElem?_eq_getElem h]
  simp only [Option.toList, List.map_append, List.map_cons, List.map_nil, Qu.d]

theorem bne_of {a b : Nat} (h : a ≠ b) : (a == b) = false := by simpa using h

theorem cl_other {H : Heap} {a b c d e k : Nat} {X Y V Z : Blk} (h1 : k ≠ a) (h2 : k ≠ b) (h3 : k ≠ c) (h4 : k ≠ d) (h5 : k ≠ e) : aget ((a, V) :: (b, Z) :: adel (hset (hset H d X) e Y) c) k = aget H k := by
  rw [aget_cons, if_neg (Ne.symm h1), aget_cons, if_neg (Ne.symm h2), aget_adel, if_neg (Ne.symm h3), aget_hset, if_neg (Ne.symm h5), aget_hset, if_neg (Ne.symm h4)]
theorem cl_d {H : Heap} {a b c d e : Nat} {X Y V Z B : Blk} (hd : aget H d = some B) (h1 : d ≠ a) (h2 : d ≠ b) (h3 : d ≠ c) (h5 : d ≠ e) : aget ((a, V) :: (b, Z) :: adel (hset (hset H d X) e Y) c) d = some X := by
  rw [aget_cons, if_neg (Ne.symm h1), aget_cons, if_neg (Ne.symm h2), aget_adel, if_neg (Ne.symm h3), aget_hset, if_neg (Ne.symm h5), aget_hset, if_pos rfl, hd]; rfl
theorem cl_e {H : Heap} {a b c d e : Nat} {X Y V Z B : Blk} (hd : aget H e = some B) (h1 : e ≠ a) (h2 : e ≠ b) (h3 : e ≠ c) (h5 : e ≠ d) : aget ((a, V) :: (b, Z) :: adel (hset (hset H d X) e Y) c) e = some Y := by
  rw [aget_cons, if_neg (Ne.symm h1), aget_cons, if_neg (Ne.symm h2), aget_adel, if_neg (Ne.symm h3), aget_hset, if_pos rfl, aget_hset, if_neg (Ne.symm h5), hd]; rfl
theorem cl_b {H : Heap} {a b c d e : Nat} {X Y V Z : Blk} (h1 : b ≠ a) : aget ((a, V) :: (b, Z) :: adel (hset (hset H d X) e Y) c) b = some Z := by
  rw [aget_cons, if_neg (Ne.symm h1), aget_cons, if_pos rfl]

theorem l_clone (qs : List Qu) (qf : Bool) (hl : qs.length ≤ 100000) (hq : ∀ q ∈ qs, q.reqs.length ≤ 100000) (g : List Rq) (va ga qa ra nx0 : Nat) (Hb : Heap) (hva : va ≠ ga ∧ va ≠ qa ∧ va ≠ ra ∧ ra ≠ ga ∧ ra ≠ qa) (K : Ex → St → Prop)
    (hx : ∀ (H : Heap) (nx : Nat) (ids : List Nat), TabQ H nx ga qa g (qs.map Qu.d) ids → aget H va = some (.var false [.ref ga g.length 0 g.length, .ref qa qs.length 0 qs.length]) → aget H ra = some (.var false [.p (.slice true []), .p (.slice true [])]) →
      va ∉ ids → ra ∉ ids → va < nx → ra < nx → nx0 ≤ nx → (∀ k, k < nx0 → aget H k = aget Hb k) → (∀ i ∈ ids, nx0 ≤ i) → K (.exit 0) ⟨[(2, .ptr ra 0), (3, .ptr va 0)], H, nx, [nx0]⟩) :
    ∀ (m i : Nat), i + m = qs.length → ∀ (H : Heap) (nx : Nat) (ids : List Nat), TabQ H nx ga qa g ((qs.take i).map Qu.d) ids → aget H va = some (.var false [.ref ga g.length 0 g.length, .ref qa i 0 i]) → aget H ra = some (.var false [.p (.slice true []), .p (.slice true [])]) →
      va ∉ ids → ra ∉ ids → va < nx → ra < nx → nx0 ≤ va → nx0 ≤ qa → nx0 ≤ nx → (∀ k, k < nx0 → aget H k = aget Hb k) → (∀ i ∈ ids, nx0 ≤ i) →
    W tb a35_l0 ⟨[(2, .ptr ra 0), (3, .ptr va 0), (11, .p (.slice qf (quRow qs))), (12, .p (.int .i64 qs.length)), (13, .p (.int .i64 i))], H, nx, [nx0]⟩ (LK tb (.ghost (.free [1, 5]) a35_l0) K) := by
  intro m
  induction m with
  | zero =>
    rintro i hi H nx ids hT hv hra n1 n2 l1 l2 l3 l4 l5 hb hi5
    have h1 : ¬ (i : Int) < qs.length := by omega
    have e : i = qs.length := by omega
    rw [List.take_of_length_le (by omega)] at hT
    rw [e] at hv h1 ⊢
    refine i_code (by unfold a35_l0; exact rfl) ?_
    repeat' (first | (simp (disch := omega) only [go_sem, seval, reduceCtorEq, h1]) | with_reducible exact Ev.mk | ((first | apply x_split | apply x_splitg) <;> intro hβ hb <;> (simp (disch := omega) only [go_sem, seval, reduceCtorEq, h1, hβ]) <;> clear hβ))
    exact hx H nx ids hT hv hra n1 n2 l1 l2 l5 hb hi5
  | succ m ih =>
    rintro i hi H nx ids hT hv hra n1 n2 l1 l2 l3 l4 l5 hb hi5
    have h1 : (i : Int) < qs.length := by omega
    have h2 : i < qs.length := by omega
    have h4 : (0 : Int) ≤ i := by omega
    have h3 := quRow_get qs i h2
    have hrl := hq _ (List.getElem_mem h2)
    have hql := hT.ql
    have hlen : ((qs.take i).map Qu.d).length = i := by simp; omega
    have hcl := qCells_length hT.len
    rw [hlen] at hcl
    have f0 := hT.free nx (Nat.le_refl _)
    have f1 := hT.free (nx + 1) (by omega)
    have f2 := hT.free (nx + 1 + 1) (by omega)
    have ltq := hT.ltq
    have ltg := hT.ltg
    have b1 := bne_of (show nx ≠ va by omega)
    have b2 := bne_of (show nx ≠ qa by omega)
    have b3 := bne_of (show nx + 1 ≠ va by omega)
    have b4 := bne_of (show nx + 1 ≠ qa by omega)
    have b5 := bne_of (show nx + 1 + 1 ≠ va by omega)
    have b6 := bne_of (show nx + 1 + 1 ≠ qa by omega)
    have b7 := bne_of (show nx ≠ nx + 1 by omega)
    have b8 := bne_of (show nx ≠ nx + 1 + 1 by omega)
    have b9 := bne_of (show nx + 1 ≠ nx by omega)
    have c1 := bne_of (show nx + 1 + 1 ≠ nx by omega)
    have c2 := bne_of (show qa ≠ va by have := hva.2.1; omega)
    have c3 := bne_of (show qa ≠ nx by omega)
    refine i_code (by unfold a35_l0; exact rfl) ?_
    (try simp (disch := omega) only [go_sem, seval, reduceCtorEq, h1, h3, h4, f0, f1, f2, hv, b1, b2, b3, b4, b5, b6, b7, b8, b9, c1, c2, c3])
    refine x_callnew (l := [.p (.slice qs[i].fl (rqRow qs[i].reqs))]) rfl ?_ (bs_copied _ _ hrl _ _ ?_) ⟨⟨_, _, _, rfl⟩, _, rfl⟩ rfl ?_
    · ((try simp (disch := omega) only [go_sem, seval, reduceCtorEq]) <;> with_reducible exact rfl)
    · ((try simp (disch := omega) only [go_sem, seval, reduceCtorEq, b7, f1]) <;> with_reducible exact rfl)
    have m1 : (i + 1) * 40 ≤ 140737488355328 := by omega
    have m2 : i + 1 ≤ 140737488355328 := by omega
    have d1 : (qa ≠ nx + 1 + 1) = True := eq_true (by omega)
    have hv2 : ∀ X, aget (hset H qa X) va = some (.var false [.ref ga g.length 0 g.length, .ref qa i 0 i]) := fun X => by rw [aget_hset, if_neg (fun e => hva.2.1 e.symm)]; exact hv
    have e1 : (nx + 1 != va) = true := by simp; omega
    have e2 : (nx + 1 != nx) = true := by simp
    have e3 : (nx + 1 + 1 != va) = true := by simp; omega
    have hq2 : ∀ X, aget (hset H qa X) qa = some X := fun X => by rw [aget_hset, if_pos rfl, hql]; rfl
    (try simp (disch := omega) only [go_sem, seval, reduceCtorEq, h1, h3, h4, f0, f1, f2, hv, hql, hcl, hv2, d1, m1, m2, maxBytes, b1, b2, b3, b4, b5, b6, b7, b8, b9, c1, c2, c3, e1, e2, e3])
    refine i_lk (W_round ?_)
    (try simp (disch := omega) only [go_sem, seval, reduceCtorEq, b9, c1])
    have hlt := hT.lt
    refine ih (i + 1) (by omega) _ _ (ids ++ [nx + 1]) ?_ (cl_e hv (by omega) (by omega) (by omega) (by omega)) ?_ ?_ ?_ (by omega) (by omega) l3 l4 (by omega) ?_ ?_
    · rw [map_take_succ qs i h2]
      refine hT.snoc (qs[i].key, qs[i].reqs) (by omega) (by omega) ?_ (cl_b (by omega)) ?_ ?_
      · rw [← qCells_snoc hT.len]
        exact cl_d hql (by omega) (by omega) (by omega) (by omega)
      · rintro k (rfl | hk)
        · exact cl_other (by omega) (by omega) (by omega) hT.gq (by omega)
        · have := hlt k hk
          exact cl_other (by omega) (by omega) (by omega) (fun e => hT.nq (e ▸ hk)) (fun e => n1 (e ▸ hk))
      · intro k hk
        rw [cl_other (by omega) (by omega) (by omega) (by omega) (by omega)]
        exact hT.free k (by omega)
    · rw [cl_other (by omega) (by omega) (by omega) (by omega) (by omega)]; exact hra
    · rw [List.mem_append, List.mem_singleton]; rintro (e | e)
      · exact n1 e
      · omega
    · rw [List.mem_append, List.mem_singleton]; rintro (e | e)
      · exact n2 e
      · omega
    · intro k hk
      rw [cl_other (by omega) (by omega) (by omega) (by omega) (by omega)]
      exact hb k hk
    · intro j hj
      rcases List.mem_append.1 hj with e | e
      · exact hi5 j e
      · simp at e; omega

theorem ag2 {H : Heap} {a b n : Nat} {X Y : Blk} (h : aget H n = none) (h1 : n ≠ a) (h2 : n ≠ b) : aget ((a, X) :: (b, Y) :: H) n = none := by
  rw [aget_cons, if_neg (Ne.symm h1), aget_cons, if_neg (Ne.symm h2)]; exact h

theorem bs_clone (t : Tb) (g : t.g.length ≤ 100000) (hl : t.qs.length ≤ 100000) (hq : ∀ q ∈ t.qs, q.reqs.length ≤ 100000) (H0 : Heap) (nx0 : Nat) (hf : ∀ k, nx0 ≤ k → aget H0 k = none) :
    ∃ (ga qa : Nat) (ids : List Nat) (H : Heap) (nx : Nat), BS tb 35 [.agg [.p (.slice t.gf (rqRow t.g)), .p (.slice t.qf (quRow t.qs))]] H0 nx0 (.agg [.ref ga t.g.length 0 t.g.length, .ref qa t.qs.length 0 t.qs.length]) H nx ∧
      TabQ H nx ga qa t.g t.d.2 ids ∧ (∀ k, k < nx0 → aget H k = aget H0 k) ∧ nx0 ≤ ga ∧ nx0 ≤ qa ∧ (∀ i ∈ ids, nx0 ≤ i) := by
  have w : W tb a35.body { env := initEnv 0 [.agg [.p (.slice t.gf (rqRow t.g)), .p (.slice t.qf (quRow t.qs))]], heap := H0, next := nx0, marks := [nx0] }
      (Done a35.results fun v s => ∃ q : Nat × Nat × List Nat × Heap × Nat, v = .agg [.ref q.1 t.g.length 0 t.g.length, .ref q.2.1 t.qs.length 0 t.qs.length] ∧ s.heap = q.2.2.2.1 ∧ s.next = q.2.2.2.2 ∧
        (TabQ q.2.2.2.1 q.2.2.2.2 q.1 q.2.1 t.g t.d.2 q.2.2.1 ∧ (∀ k, k < nx0 → aget q.2.2.2.1 k = aget H0 k) ∧ nx0 ≤ q.1 ∧ nx0 ≤ q.2.1 ∧ (∀ i ∈ q.2.2.1, nx0 ≤ i))) := by
    unfold a35
    dsimp only [initEnv]
    have e01 := bne_of (show nx0 ≠ nx0 + 1 by omega)
    have e02 := bne_of (show nx0 ≠ nx0 + 1 + 1 by omega)
    have e03 := bne_of (show nx0 ≠ nx0 + 1 + 1 + 1 by omega)
    have e04 := bne_of (show nx0 ≠ nx0 + 1 + 1 + 1 + 1 by omega)
    have e10 := bne_of (show nx0 + 1 ≠ nx0 by omega)
    have e12 := bne_of (show nx0 + 1 ≠ nx0 + 1 + 1 by omega)
    have e13 := bne_of (show nx0 + 1 ≠ nx0 + 1 + 1 + 1 by omega)
    have e14 := bne_of (show nx0 + 1 ≠ nx0 + 1 + 1 + 1 + 1 by omega)
    have e20 := bne_of (show nx0 + 1 + 1 ≠ nx0 by omega)
    have e21 := bne_of (show nx0 + 1 + 1 ≠ nx0 + 1 by omega)
    have e23 := bne_of (show nx0 + 1 + 1 ≠ nx0 + 1 + 1 + 1 by omega)
    have e24 := bne_of (show nx0 + 1 + 1 ≠ nx0 + 1 + 1 + 1 + 1 by omega)
    have e30 := bne_of (show nx0 + 1 + 1 + 1 ≠ nx0 by omega)
    have e31 := bne_of (show nx0 + 1 + 1 + 1 ≠ nx0 + 1 by omega)
    have e32 := bne_of (show nx0 + 1 + 1 + 1 ≠ nx0 + 1 + 1 by omega)
    have e34 := bne_of (show nx0 + 1 + 1 + 1 ≠ nx0 + 1 + 1 + 1 + 1 by omega)
    have e40 := bne_of (show nx0 + 1 + 1 + 1 + 1 ≠ nx0 by omega)
    have e41 := bne_of (show nx0 + 1 + 1 + 1 + 1 ≠ nx0 + 1 by omega)
    have e42 := bne_of (show nx0 + 1 + 1 + 1 + 1 ≠ nx0 + 1 + 1 by omega)
    have e43 := bne_of (show nx0 + 1 + 1 + 1 + 1 ≠ nx0 + 1 + 1 + 1 by omega)
    have f0 := hf (nx0) (by omega)
    have f1 := hf (nx0 + 1) (by omega)
    have f2 := hf (nx0 + 1 + 1) (by omega)
    have f3 := hf (nx0 + 1 + 1 + 1) (by omega)
    have f4 := hf (nx0 + 1 + 1 + 1 + 1) (by omega)
    repeat' (first | exact bs_copied t.g t.gf g _ _ (ag2 f2 (by omega) (by omega)) | (simp (disch := omega) only [go_sem, seval, reduceCtorEq, f0, f1, f2, f3, f4, allSz, qCells, List.set_cons_succ, List.set_cons_zero, quRow_length, e01, e02, e03, e04, e10, e12, e13, e14, e20, e21, e23, e24, e30, e31, e32, e34, e40, e41, e42, e43]) | with_reducible exact Ev.mk | apply x_callr | ((first | apply x_split | apply x_splitg) <;> intro hβ hb <;> (simp (disch := omega) only [go_sem, seval, reduceCtorEq, f0, f1, f2, f3, f4, allSz, qCells, List.set_cons_succ, List.set_cons_zero, quRow_length, e01, e02, e03, e04, e10, e12, e13, e14, e20, e21, e23, e24, e30, e31, e32, e34, e40, e41, e42, e43, hβ]) <;> clear hβ))
    refine W_round ?_
    (try simp (disch := omega) only [go_sem, seval, reduceCtorEq, e01, e02, e03, e04, e10, e12, e13, e14, e20, e21, e23, e24, e30, e31, e32, e34, e40, e41, e42, e43])
    refine l_clone t.qs t.qf hl hq t.g (nx0 + 1 + 1 + 1) (nx0 + 1 + 1) (nx0 + 1 + 1 + 1 + 1) (nx0 + 1) nx0 H0 (by omega) _ ?_ t.qs.length 0 (by omega) _ _ [] ?_ ?_ ?_ (by simp) (by simp) (by omega) (by omega) (by omega) (by omega) (by omega) ?_ (by simp)
    · intro H nx ids hT hv hra n1 n2 l1 l2 l3 hb hi
      have hra2 : ∀ X, aget (hset H (nx0 + 1) X) (nx0 + 1 + 1 + 1) = some (.var false [.ref (nx0 + 1 + 1) t.g.length 0 t.g.length, .ref (nx0 + 1 + 1 + 1 + 1) t.qs.length 0 t.qs.length]) := fun X => by rw [aget_hset, if_neg (by omega)]; exact hv
      have hfin : ∀ X, aget (adel (hset H (nx0 + 1) X) (nx0 + 1 + 1 + 1)) (nx0 + 1) = some X := fun X => by rw [aget_adel, if_neg (by omega), aget_hset, if_pos rfl, hra]; rfl
      repeat' (first | (simp (disch := omega) only [go_sem, seval, reduceCtorEq, hv, hra, hra2, hfin, e01, e02, e03, e04, e10, e12, e13, e14, e20, e21, e23, e24, e30, e31, e32, e34, e40, e41, e42, e43]) | with_reducible exact Ev.mk | ((first | apply x_split | apply x_splitg) <;> intro hβ hb <;> (simp (disch := omega) only [go_sem, seval, reduceCtorEq, hv, hra, hra2, hfin, e01, e02, e03, e04, e10, e12, e13, e14, e20, e21, e23, e24, e30, e31, e32, e34, e40, e41, e42, e43, hβ]) <;> clear hβ))
      refine ⟨(nx0 + 1 + 1, nx0 + 1 + 1 + 1 + 1, ids, _, nx), rfl, rfl, rfl, ?_, ?_, by simp only; omega, by simp only; omega, hi⟩
      · refine hT.congr (fun k hk => ?_) (Nat.le_refl _) (fun k hk => ?_)
        · have h1 : nx0 + 1 + 1 + 1 ≠ k := by
            rintro rfl
            rcases hk with e | e | e
            · omega
            · omega
            · exact n1 e
          have h2 : nx0 + 1 ≠ k := by
            rintro rfl
            rcases hk with e | e | e
            · omega
            · omega
            · exact n2 e
          rw [aget_adel, if_neg h1, aget_hset, if_neg h2]
        · simp only at hk ⊢
          rw [aget_adel, if_neg (by omega), aget_hset, if_neg (by omega)]
          exact hT.free k hk
      · intro k hk
        simp only
        rw [aget_adel, if_neg (by omega), aget_hset, if_neg (by omega)]
        exact hb k hk
    · refine ⟨?_, ?_, rfl, ?_, by simp, by simp, by simp, by omega, by omega, by omega, by simp, fun k hk => ?_⟩
      · ((try simp (disch := omega) only [go_sem, seval, reduceCtorEq, e01, e02, e03, e04, e10, e12, e13, e14, e20, e21, e23, e24, e30, e31, e32, e34, e40, e41, e42, e43]) <;> with_reducible exact rfl)
      · (try simp only [List.take_zero, List.map_nil]); simp only [qCells, List.zipWith_nil_left]
        ((try simp (disch := omega) only [go_sem, seval, reduceCtorEq, e01, e02, e03, e04, e10, e12, e13, e14, e20, e21, e23, e24, e30, e31, e32, e34, e40, e41, e42, e43]) <;> with_reducible exact rfl)
      · intro j i q a b; simp at a
      · rw [aget_cons, if_neg (by omega), aget_cons, if_neg (by omega), aget_cons, if_neg (by omega), aget_cons, if_neg (by omega), aget_adel]; split
        · rfl
        · exact hf k (by omega)
    · ((try simp (disch := omega) only [go_sem, seval, reduceCtorEq, e01, e02, e03, e04, e10, e12, e13, e14, e20, e21, e23, e24, e30, e31, e32, e34, e40, e41, e42, e43]) <;> with_reducible exact rfl)
    · ((try simp (disch := omega) only [go_sem, seval, reduceCtorEq, e01, e02, e03, e04, e10, e12, e13, e14, e20, e21, e23, e24, e30, e31, e32, e34, e40, e41, e42, e43]) <;> with_reducible exact rfl)
    · intro k hk
      rw [aget_cons, if_neg (by omega), aget_cons, if_neg (by omega), aget_cons, if_neg (by omega), aget_cons, if_neg (by omega), aget_adel, if_neg (by omega)]
  obtain ⟨⟨ga, qa, ids, H, nx⟩, h, hp⟩ := BS_ex (T := tb) (f := 35) (af := a35) (ι := Nat × Nat × List Nat × Heap × Nat) rfl rfl w
  exact ⟨ga, qa, ids, H, nx, h, hp⟩


/-! ## L6 -/

/-- A queue of the pure view. -/
def Qd.u (q : Qd) : Qu := ⟨q.1, false, q.2⟩

theorem mapO_map {α β γ : Type} (f : β → Option γ) (g : α → γ) (h : α → β) : ∀ (l : List α), (∀ a ∈ l, f (h a) = some (g a)) → mapO f (l.map h) = some (l.map g)
  | [], _ => rfl
  | a :: l, H => by
    have h1 := H a (by simp)
    have h2 := mapO_map f g h l fun b hb => H b (by simp [hb])
    simp only [List.map_cons, mapO, h1, h2]

theorem mapO_get {α β : Type} (f : α → Option β) : ∀ (l : List α) (r : List β), l.length = r.length → (∀ (i : Nat) (x : α) (y : β), l[i]? = some x → r[i]? = some y → f x = some y) → mapO f l = some r
  | [], [], _, _ => rfl
  | [], _ :: _, h, _ => by simp at h
  | _ :: _, [], h, _ => by simp at h
  | a :: l, b :: r, h, H => by
    have h1 := H 0 a b rfl rfl
    have h2 := mapO_get f l r (by simpa using h) fun i x y hx hy => H (i + 1) x y (by simpa using hx) (by simpa using hy)
    simp only [mapO, h1, h2]

theorem pur_row {H : Heap} {i n d : Nat} {fz : Bool} {sz : Nat} {xs : List (List PV)} (h : aget H i = some (.row fz sz xs)) (hn : n = xs.length) : pur H (d + 1) (.ref i n 0 n) = some (.slice false xs) := by
  subst hn
  simp only [pur, h]
  simp

theorem pur_tab {H : Heap} {nx ga qa : Nat} {g : List Rq} {qs : List Qd} {ids : List Nat} (h : TabQ H nx ga qa g qs ids) {n : Nat} (hn : n = qs.length) (d : Nat) : pur H (d + 3) (.ref qa n 0 n) = some (.slice false (quRow (qs.map Qd.u))) := by
  subst hn
  have hl := qCells_length h.len
  rw [pur, h.ql]
  simp only [hl, Nat.zero_add, Nat.le_refl, and_self, if_true, List.drop_zero]
  rw [List.take_of_length_le (by omega), mapO_get _ _ (quRow (qs.map Qd.u)) (by simp [quRow, hl]) ?_]
  intro j x y hx hy
  have hj : j < qs.length := by
    rcases Nat.lt_or_ge j qs.length with c | c
    · exact c
    · rw [List.getElem?_eq_none (by omega)] at hx; cases hx
  have hi : j < ids.length := by rw [h.len]; exact hj
  have e1 := qCells_get (List.getElem?_eq_getElem hj) (List.getElem?_eq_getElem hi)
  rw [e1] at hx
  cases hx
  have e2 : y = quC (Qd.u qs[j]) := by
    simp [quRow, hj] at hy
    exact hy.symm
  subst e2
  have hr := pur_row (d := d + 1) (n := qs[j].2.length) (h.at_ j _ _ (List.getElem?_eq_getElem hi) (List.getElem?_eq_getElem hj)) (rqRow_length _).symm
  simp only [mapO, pur_row (d := d + 1) (n := qs[j].2.length) (h.at_ j _ _ (List.getElem?_eq_getElem hi) (List.getElem?_eq_getElem hj)) (rqRow_length _).symm, quC, Qd.u]
  simp only [pur]

/-- The queue of a key with one more request. -/
def enq (k : ByteArray) (r : Rq) : List Qd → List Qd
  | [] => [(k, [r])]
  | q :: l => if slt q.1 k then q :: enq k r l else if q.1 = k then (q.1, q.2 ++ [r]) :: l else (k, [r]) :: q :: l

def AscD (l : List Qd) : Prop := l.Pairwise fun x y => slt x.1 y.1 = true

theorem AscD.u {l : List Qd} (h : AscD l) : AscQ (l.map Qd.u) := by
  unfold AscQ
  rw [List.pairwise_map]
  exact h

theorem TabQ.push {H : Heap} {nx ga qa : Nat} {g : List Rq} {qs : List Qd} {ids : List Nat} (h : TabQ H nx ga qa g qs ids) (b : Blk) : TabQ ((nx, b) :: H) (nx + 1) ga qa g qs ids := by
  have h1 := h.ltg
  have h2 := h.ltq
  refine h.congr (fun k hk => ?_) (by omega) (fun k hk => ?_)
  · rw [aget_cons, if_neg]
    rintro rfl
    rcases hk with e | e | e
    · omega
    · omega
    · exact absurd (h.lt _ e) (by omega)
  · rw [aget_cons, if_neg (by omega)]
    exact h.free k (by omega)

theorem bs_insQ (xs : List (List DV)) (k : ByteArray) (b : Bool) (p : Nat) (hp : p ≤ xs.length) (hl : xs.length ≤ 100000) (H : Heap) (id nx : Nat) (hH : aget H id = some (.rowd false 2 xs)) :
    BS tb 61 [.ref id xs.length 0 xs.length, .p (.int .i64 p), .p (.slice b [[.str k, .slice true []]])] H nx (.ref id (xs.length + 1) 0 (xs.length + 1)) (hset H id (.rowd false 2 (xs.take p ++ [.p (.str k), .p (.slice true [])] :: xs.drop p))) nx := by
  refine ⟨0, ?_⟩
  have hA : tb.A 61 = none := rfl
  have hX : tb.X = outside := rfl
  have h1 : (xs.length + 1) * 40 ≤ maxBytes := by simp only [maxBytes]; omega
  have h2 : xs.length + 1 ≤ maxBytes := by simp only [maxBytes]; omega
  have h3 : (0 : Int) ≤ p := by omega
  have h4 : (p : Int) ≤ xs.length := by omega
  have h5 : allSz 2 [[PV.str k, PV.slice true []]] = true := rfl
  have h6 : insAt xs (liftD [[PV.str k, PV.slice true []]]) p = xs.take p ++ [.p (.str k), .p (.slice true [])] :: xs.drop p := by simp [insAt, liftD]
  simp only [cfs, hA, hX]
  simp [outside, CallF.or, clones, cmpStrX, insX, insX, sortStrX, growX, hH, h1, h2, h4, h5, h6]

theorem qCells_set {qs : List Qd} {ids : List Nat} {j : Nat} {q : Qd} {i : Nat} (h2 : ids[j]? = some i) : (qCells qs ids).set j [.p (.str q.1), .ref i q.2.length 0 q.2.length] = qCells (qs.set j q) ids := by
  unfold qCells
  apply List.ext_getElem?
  intro n
  simp only [List.getElem?_set, List.getElem?_zipWith]
  by_cases c : j = n
  · subst c
    rw [if_pos rfl]
    cases hj : ids[j]? with
    | none => rw [hj] at h2; cases h2
    | some a =>
      rw [h2] at hj; cases hj
      simp only [if_pos rfl]
      have hl : j < ids.length := by
        rcases Nat.lt_or_ge j ids.length with c | c
        · exact c
        · rw [List.getElem?_eq_none c] at h2; cases h2
      by_cases cq : j < qs.length
      · rw [if_pos (by simp; omega), if_pos cq]; simp only [if_true]
      · rw [if_neg (by simp; omega), if_neg cq]; simp only [if_true]
  · simp [c]

theorem qCells_ins {qs : List Qd} {ids : List Nat} {p : Nat} (hl : ids.length = qs.length) (q : Qd) (i : Nat) : (qCells qs ids).take p ++ [.p (.str q.1), .ref i q.2.length 0 q.2.length] :: (qCells qs ids).drop p = qCells (qs.take p ++ q :: qs.drop p) (ids.take p ++ i :: ids.drop p) := by
  unfold qCells
  rw [List.zipWith_append (by simp [hl]), List.take_zipWith, List.drop_zipWith]
  rfl

/-- The queue at a place with one more request. -/
theorem enq_at (k : ByteArray) (r : Rq) : ∀ (l : List Qd) (p : Nat), AtQ (l.map Qd.u) k p →
    (∃ (h : p < l.length), l[p].1 = k ∧ fndQ (l.map Qd.u) k p = true ∧ enq k r l = l.set p (k, l[p].2 ++ [r])) ∨ (fndQ (l.map Qd.u) k p = false ∧ p ≤ l.length ∧ enq k r l = l.take p ++ (k, [r]) :: l.drop p)
  | [], p, h => .inr (by
    have : p = 0 := by simpa using h.1
    subst this
    exact ⟨rfl, Nat.le_refl _, rfl⟩)
  | q :: l, 0, h => by
    have h2 := h.2.2 0 (by simp) (Nat.le_refl _)
    simp only [List.map_cons, List.getElem_cons_zero, Qd.u] at h2
    by_cases c : q.1 = k
    · refine .inl ⟨by simp, by simpa using c, by simp [fndQ, Qd.u, c], ?_⟩
      rw [enq, h2, if_neg (by simp), if_pos c, List.set_cons_zero, List.getElem_cons_zero, c]
    · refine .inr ⟨by simp [fndQ, Qd.u, c], by simp, ?_⟩
      simp [enq, h2, c]
  | q :: l, p + 1, h => by
    have h2 := h.2.1 0 (by simp) (by omega)
    simp only [List.map_cons, List.getElem_cons_zero, Qd.u] at h2
    have hn : AtQ (l.map Qd.u) k p := by
      refine ⟨by simpa using h.1, fun x hx hxp => ?_, fun x hx hxp => ?_⟩
      · have := h.2.1 (x + 1) (by simpa using hx) (by omega)
        simpa using this
      · have := h.2.2 (x + 1) (by simpa using hx) (by omega)
        simpa using this
    rcases enq_at k r l p hn with ⟨a, b, c, d⟩ | ⟨a, b, c⟩
    · exact .inl ⟨by simpa using a, by simpa using b, by simpa [fndQ] using c, by simp [enq, h2, d]⟩
    · exact .inr ⟨by simpa [fndQ] using a, by simpa using b, by simp [enq, h2, c]⟩

theorem ad_3 {H : Heap} {a i c k : Nat} {X Y Z : Blk} (h1 : k ≠ a) (h2 : k ≠ i) (h3 : k ≠ c) : aget ((a, X) :: hset (hset H i Y) c Z) k = aget H k := by
  rw [aget_cons, if_neg (Ne.symm h1), aget_hset, if_neg (Ne.symm h3), aget_hset, if_neg (Ne.symm h2)]
theorem ad_c {H : Heap} {a i c : Nat} {X Y Z B : Blk} (h : aget H c = some B) (h1 : c ≠ a) (h2 : c ≠ i) : aget ((a, X) :: hset (hset H i Y) c Z) c = some Z := by
  rw [aget_cons, if_neg (Ne.symm h1), aget_hset, if_pos rfl, aget_hset, if_neg (Ne.symm h2), h]; rfl
theorem ad_i {H : Heap} {a i c : Nat} {X Y Z B : Blk} (h : aget H i = some B) (h1 : i ≠ a) (h2 : i ≠ c) : aget ((a, X) :: hset (hset H i Y) c Z) i = some Y := by
  rw [aget_cons, if_neg (Ne.symm h1), aget_hset, if_neg (Ne.symm h2), aget_hset, if_pos rfl, h]; rfl
theorem ae_k {H : Heap} {a b q v k : Nat} {X Y Z V W : Blk} (h1 : k ≠ a) (h2 : k ≠ b) (h3 : k ≠ q) (h4 : k ≠ v) : aget ((a, X) :: (b, Y) :: hset (hset (hset H q Z) v V) q W) k = aget H k := by
  rw [aget_cons, if_neg (Ne.symm h1), aget_cons, if_neg (Ne.symm h2), aget_hset, if_neg (Ne.symm h3), aget_hset, if_neg (Ne.symm h4), aget_hset, if_neg (Ne.symm h3)]
theorem ae_q {H : Heap} {a b q v : Nat} {X Y Z V W B : Blk} (h : aget H q = some B) (h1 : q ≠ a) (h2 : q ≠ b) (h4 : q ≠ v) : aget ((a, X) :: (b, Y) :: hset (hset (hset H q Z) v V) q W) q = some W := by
  rw [aget_cons, if_neg (Ne.symm h1), aget_cons, if_neg (Ne.symm h2), aget_hset, if_pos rfl, aget_hset, if_neg (Ne.symm h4), aget_hset, if_pos rfl, h]; rfl
theorem ae_v {H : Heap} {a b q v : Nat} {X Y Z V W B : Blk} (h : aget H v = some B) (h1 : v ≠ a) (h2 : v ≠ b) (h4 : v ≠ q) : aget ((a, X) :: (b, Y) :: hset (hset (hset H q Z) v V) q W) v = some V := by
  rw [aget_cons, if_neg (Ne.symm h1), aget_cons, if_neg (Ne.symm h2), aget_hset, if_neg (Ne.symm h4), aget_hset, if_pos rfl, aget_hset, if_neg (Ne.symm h4), h]; rfl

theorem get_unique {l : List Nat} (h : l.Nodup) {i j k : Nat} (h1 : l[i]? = some k) (h2 : l[j]? = some k) : i = j := by
  obtain ⟨hi, e1⟩ := List.getElem?_eq_some_iff.1 h1
  obtain ⟨hj, e2⟩ := List.getElem?_eq_some_iff.1 h2
  exact (List.getElem_inj h).1 (e1.trans e2.symm)

theorem bs_add (key : ByteArray) (x : Int) (w : Bool) {H : Heap} {nx ga qa va : Nat} {g : List Rq} {qs : List Qd} {ids : List Nat} (hT : TabQ H nx ga qa g qs ids) (hA : AscD qs) (hl : qs.length ≤ 99000) (hr : ∀ q ∈ qs, q.2.length ≤ 99000)
    (hv : aget H va = some (.var false [.ref ga g.length 0 g.length, .ref qa qs.length 0 qs.length])) (n1 : va ∉ ids) (n2 : va ≠ ga) (n3 : va ≠ qa) (n4 : va < nx) :
    ∃ (ids' : List Nat) (H' : Heap) (nx' : Nat), BS tb 36 [.ptr va 0, .p (.str key), .agg [.p (.int .i64 x), .p (.bool w)]] H nx (.tuple []) H' nx' ∧
      TabQ H' nx' ga qa g (enq key (x, w) qs) ids' ∧ aget H' va = some (.var false [.ref ga g.length 0 g.length, .ref qa (enq key (x, w) qs).length 0 (enq key (x, w) qs).length]) ∧ va ∉ ids' ∧ nx ≤ nx' ∧
      (∀ k, k < nx → k ≠ va → k ≠ qa → k ∉ ids → aget H' k = aget H k) ∧ (∀ i ∈ ids', i ∈ ids ∨ nx ≤ i) := by
  obtain ⟨p, hp, hs⟩ := ps_searchQ (qs.map Qd.u) key false (by simp; omega) hA.u
  have f0 := hT.free nx (Nat.le_refl _)
  have b1 := bne_of (show nx ≠ va by omega)
  have b2 := bne_of (show nx ≠ qa by have := hT.ltq; omega)
  have wk : W tb a36.body { env := initEnv 0 [.ptr va 0, .p (.str key), .agg [.p (.int .i64 x), .p (.bool w)]], heap := H, next := nx, marks := [nx] }
      (Done a36.results fun v s => ∃ q : List Nat × Heap × Nat, v = .tuple [] ∧ s.heap = q.2.1 ∧ s.next = q.2.2 ∧ (TabQ q.2.1 q.2.2 ga qa g (enq key (x, w) qs) q.1 ∧ aget q.2.1 va = some (.var false [.ref ga g.length 0 g.length, .ref qa (enq key (x, w) qs).length 0 (enq key (x, w) qs).length]) ∧ va ∉ q.1 ∧ nx ≤ q.2.2 ∧
      (∀ k, k < nx → k ≠ va → k ≠ qa → k ∉ ids → aget q.2.1 k = aget H k) ∧ (∀ i ∈ q.1, i ∈ ids ∨ nx ≤ i))) := by
    unfold a36
    dsimp only [initEnv]
    (try simp (disch := omega) only [go_sem, seval, reduceCtorEq, f0, hv, b1, b2])
    have hT1 := hT.push (.var false [.p (.int .i64 x), .p (.bool w)])
    refine x_pure (l := [.ref qa qs.length 0 qs.length, .p (.str key), .func 60 []]) (ps := [.slice false (quRow (qs.map Qd.u)), .str key, .func 60 []]) rfl ?_ hs rfl rfl ?_
    · have e : pur ((nx, .var false [.p (.int .i64 x), .p (.bool w)]) :: H) dep (.ref qa qs.length 0 qs.length) = _ := pur_tab hT1 rfl 2
      simp only [mapO, e]
      rfl
    have hcl := qCells_length hT.len
    rcases enq_at key (x, w) qs p hp with ⟨hpl, hk, hf, he⟩ | ⟨hf, hpl, he⟩
    · rw [hf]
      have hpi : p < ids.length := by rw [hT.len]; exact hpl
      have g1 := qCells_get (List.getElem?_eq_getElem hpl) (List.getElem?_eq_getElem hpi)
      have g2 := hT.at_ p _ _ (List.getElem?_eq_getElem hpi) (List.getElem?_eq_getElem hpl)
      have hmem : ids[p] ∈ ids := List.getElem_mem hpi
      have b3 := bne_of (show nx ≠ ids[p] by have := hT.lt _ hmem; omega)
      have e1 : ids[p] ≠ va := fun e => n1 (e ▸ hmem)
      have e2 : ids[p] ≠ qa := fun e => hT.nq (e ▸ hmem)
      have u1 : ∀ X, aget (hset H ids[p] X) va = some (.var false [.ref ga g.length 0 g.length, .ref qa qs.length 0 qs.length]) := fun X => by rw [aget_hset, if_neg e1, hv]
      have u2 : ∀ X, aget (hset H ids[p] X) qa = some (.rowd false 2 (qCells qs ids)) := fun X => by rw [aget_hset, if_neg e2, hT.ql]
      have i1 : (0 : Int) ≤ p := by omega
      have i2 : (p : Int) < qs.length := by omega
      have hrp := hr _ (List.getElem_mem hpl)
      have hz : allSz 2 [[PV.int IntKind.i64 x, PV.bool w]] = true := rfl
      have m1 : (qs[p].2.length + 1) * 16 ≤ 140737488355328 := by omega
      have m2 : qs[p].2.length + 1 ≤ 140737488355328 := by omega
      (try simp (disch := omega) only [go_sem, seval, reduceCtorEq, f0, hv, b1, b2, b3, hcl, hT.ql, g1, g2, hz, u1, u2, i1, i2, m1, m2, hpl, maxBytes, rqRow_length, List.set_cons_succ, List.set_cons_zero])
      have notg : ∀ i, i ∈ ids → ga ≠ i := fun i hi e => hT.ng (by rw [e]; exact hi)
      have notq : ∀ i, i ∈ ids → i ≠ qa := fun i hi e => hT.nq (by rw [← e]; exact hi)
      have notv : ∀ i, i ∈ ids → i ≠ va := fun i hi e => n1 (by rw [← e]; exact hi)
      have hltg := hT.ltg
      have hltq := hT.ltq
      have hlt := hT.lt
      have el : (enq key (x, w) qs).length = qs.length := by rw [he, List.length_set]
      have eS : (qCells qs ids).set p [DV.p (PV.str qs[p].fst), DV.ref ids[p] (qs[p].snd.length + 1) 0 (qs[p].snd.length + 1)] = qCells (enq key (x, w) qs) ids := by
        rw [he, ← qCells_set (q := (key, qs[p].2 ++ [(x, w)])) (List.getElem?_eq_getElem hpi), hk]
        simp
      rw [eS]
      refine ⟨by simp [e1], (ids, _, nx + 1), rfl, rfl, ⟨?_, ?_, by rw [el]; exact hT.len, ?_, hT.nd, hT.ng, hT.nq, hT.gq, by simp only; omega, by simp only; omega, fun k hk => by have := hlt k hk; simp only; omega, fun k hk => ?_⟩, ?_, n1, by simp only; omega, fun k k1 k2 k3 k4 => ?_, fun k hk => .inl hk⟩
      · rw [ad_3 (by omega) (notg _ hmem) hT.gq, hT.gl]
      · exact ad_c hT.ql (by omega) (Ne.symm e2)
      · intro j i q a b
        simp only at a
        rw [he, List.getElem?_set] at b
        by_cases c : p = j
        · subst c
          rw [if_pos rfl, if_pos hpl] at b
          cases b
          rw [List.getElem?_eq_getElem hpi] at a
          cases a
          rw [ad_i g2 (by have := hlt _ hmem; omega) e2, ← rqRow_append]
          rfl
        · rw [if_neg c] at b
          have hi : i ∈ ids := List.mem_of_getElem? a
          have := hlt i hi
          rw [ad_3 (by omega) ?_ (notq i hi), hT.at_ j i q a b]
          intro e
          exact c (get_unique hT.nd (List.getElem?_eq_getElem hpi) (e ▸ a))
      · simp only at hk
        have := hlt _ hmem
        rw [ad_3 (by omega) (by omega) (by omega)]
        exact hT.free k (by omega)
      · rw [ad_3 (by omega) (Ne.symm e1) n3, hv, el]
      · rw [ad_3 (by omega) (fun e => k4 (by rw [e]; exact hmem)) k3]
    · rw [hf]
      have g1 := bs_insQ (qCells qs ids) key true p (by omega) (by omega) ((nx, .var false [.p (.int .i64 x), .p (.bool w)]) :: H) qa (nx + 1) hT1.ql
      rw [hcl] at g1
      have hR1 : (List.take p (qCells qs ids) ++ [DV.p (PV.str key), DV.p (PV.slice true [])] :: List.drop p (qCells qs ids)).length = qs.length + 1 := by simp [hcl]; omega
      have hR2 : (List.take p (qCells qs ids) ++ [DV.p (PV.str key), DV.p (PV.slice true [])] :: List.drop p (qCells qs ids))[p]? = some [DV.p (PV.str key), DV.p (PV.slice true [])] := by
        rw [List.getElem?_append_right (by simp; omega)]
        simp [hcl, Nat.min_eq_left hpl]
      have hR3 : (List.take p (qCells qs ids) ++ [DV.p (PV.str key), DV.p (PV.slice true [])] :: List.drop p (qCells qs ids)).set p [.p (.str key), .ref (nx + 1) 1 0 1] = qCells (enq key (x, w) qs) (ids.take p ++ (nx + 1) :: ids.drop p) := by
        rw [he, ← qCells_ins hT.len, List.set_append_right _ _ (by simp; omega)]
        simp [hcl, Nat.min_eq_left hpl]
      generalize (List.take p (qCells qs ids) ++ [DV.p (PV.str key), DV.p (PV.slice true [])] :: List.drop p (qCells qs ids)) = R at g1 hR1 hR2 hR3
      have u1 : aget (hset H qa (.rowd false 2 R)) va = some (.var false [.ref ga g.length 0 g.length, .ref qa qs.length 0 qs.length]) := by rw [aget_hset, if_neg (Ne.symm n3), hv]
      have u2 : ∀ X, aget (hset (hset H qa (.rowd false 2 R)) va X) va = some X := fun X => by rw [aget_hset, if_pos rfl, u1]; rfl
      have u3 : ∀ X, aget (hset (hset H qa (.rowd false 2 R)) va X) qa = some (.rowd false 2 R) := fun X => by rw [aget_hset, if_neg n3, aget_hset, if_pos rfl, hT.ql]; rfl
      have hltq := hT.ltq
      have f1 : ∀ X, aget (hset (hset H qa (.rowd false 2 R)) va X) (nx + 1) = none := fun X => by rw [aget_hset, if_neg (by omega), aget_hset, if_neg (by omega)]; exact hT.free _ (by omega)
      have b3 := bne_of (show nx + 1 ≠ va by omega)
      have b4 := bne_of (show nx + 1 ≠ qa by omega)
      have b5 := bne_of (show nx ≠ nx + 1 by omega)
      have hz : allSz 2 [[PV.int IntKind.i64 x, PV.bool w]] = true := rfl
      have i1 : (0 : Int) ≤ p := by omega
      have i2 : (p : Int) < (qs.length + 1 : Nat) := by omega
      have i3 : p < qs.length + 1 := by omega
      repeat' (first | exact g1 | (simp (disch := omega) only [go_sem, seval, reduceCtorEq, f0, hv, b1, b2, hcl, hT.ql, u1, u2, u3, hR1, hR2, f1, hz, b3, b4, b5, i1, i2, i3, maxBytes, List.set_cons_succ, List.set_cons_zero]) | with_reducible exact Ev.mk | apply x_callr | ((first | apply x_split | apply x_splitg) <;> intro hβ hb <;> (simp (disch := omega) only [go_sem, seval, reduceCtorEq, f0, hv, b1, b2, hcl, hT.ql, u1, u2, u3, hR1, hR2, f1, hz, b3, b4, b5, i1, i2, i3, maxBytes, List.set_cons_succ, List.set_cons_zero, hβ]) <;> clear hβ))
      have notg : ∀ i, i ∈ ids → ga ≠ i := fun i hi e => hT.ng (by rw [e]; exact hi)
      have notq : ∀ i, i ∈ ids → i ≠ qa := fun i hi e => hT.nq (by rw [← e]; exact hi)
      have notv : ∀ i, i ∈ ids → i ≠ va := fun i hi e => n1 (by rw [← e]; exact hi)
      have hltg := hT.ltg
      have hlt := hT.lt
      have el : (enq key (x, w) qs).length = qs.length + 1 := by rw [he]; simp; omega
      have hnx : ¬ nx + 1 ∈ ids := fun h => by have := hlt _ h; omega
      rw [hR3]
      refine ⟨by simp [show nx + 1 ≠ va by omega], (ids.take p ++ (nx + 1) :: ids.drop p, _, nx + 1 + 1), rfl, rfl, ⟨?_, ?_, by rw [el]; simp [hT.len]; omega, ?_, ?_, ?_, ?_, hT.gq, by simp only; omega, by simp only; omega, fun k hk => ?_, fun k hk => ?_⟩, ?_, ?_, by simp only; omega, fun k k1 k2 k3 k4 => ?_, fun k hk => ?_⟩
      · rw [ae_k (by omega) (by omega) hT.gq (Ne.symm n2), hT.gl]
      · exact ae_q hT.ql (by omega) (by omega) (Ne.symm n3)
      · intro j i q a b
        simp only at a
        rw [he] at b
        have hpl2 : p ≤ ids.length := by rw [hT.len]; exact hpl
        have rest : ∀ (j' : Nat), ids[j']? = some i → qs[j']? = some q → aget ((nx + 1, Blk.row false 2 [[PV.int IntKind.i64 x, PV.bool w]]) :: (nx, Blk.var false [DV.p (PV.int IntKind.i64 x), DV.p (PV.bool w)]) :: hset (hset (hset H qa (Blk.rowd false 2 R)) va (Blk.var false [DV.ref ga g.length 0 g.length, DV.ref qa (qs.length + 1) 0 (qs.length + 1)])) qa (Blk.rowd false 2 (qCells (enq key (x, w) qs) (ids.take p ++ (nx + 1) :: ids.drop p)))) i = some (.row false 2 (rqRow q.2)) := fun j' a b => by
          have hi : i ∈ ids := List.mem_of_getElem? a
          have := hlt i hi
          rw [ae_k (by omega) (by omega) (notq i hi) (notv i hi), hT.at_ j' i q a b]
        rcases Nat.lt_trichotomy j p with c | c | c
        · rw [List.getElem?_append_left (by simp; omega), List.getElem?_take_of_lt c] at a b
          exact rest j a b
        · subst c
          rw [List.getElem?_append_right (by simp; omega)] at a b
          simp [Nat.min_eq_left hpl, Nat.min_eq_left hpl2] at a b
          subst a; subst b
          rw [aget_cons, if_pos rfl]
          rfl
        · rw [List.getElem?_append_right (by simp; omega)] at a b
          obtain ⟨d, rfl⟩ : ∃ d, j = p + 1 + d := ⟨j - p - 1, by omega⟩
          have ea : p + 1 + d - (ids.take p).length = d + 1 := by simp; omega
          have eb : p + 1 + d - (qs.take p).length = d + 1 := by simp; omega
          rw [ea, List.getElem?_cons_succ, List.getElem?_drop] at a
          rw [eb, List.getElem?_cons_succ, List.getElem?_drop] at b
          exact rest (p + d) a b
      · have h : (ids.take p ++ ids.drop p).Nodup := by rw [List.take_append_drop]; exact hT.nd
        rw [List.nodup_append] at h ⊢
        refine ⟨h.1, ?_, fun a ha b hb => ?_⟩
        · rw [List.nodup_cons]
          exact ⟨fun e => hnx (List.mem_of_mem_drop e), h.2.1⟩
        · rcases List.mem_cons.1 hb with e | e
          · rintro rfl
            exact hnx (e ▸ List.mem_of_mem_take ha)
          · exact h.2.2 a ha b e
      · intro e
        rcases List.mem_append.1 e with e | e
        · exact hT.ng (List.mem_of_mem_take e)
        · rcases List.mem_cons.1 e with e | e
          · omega
          · exact hT.ng (List.mem_of_mem_drop e)
      · intro e
        rcases List.mem_append.1 e with e | e
        · exact hT.nq (List.mem_of_mem_take e)
        · rcases List.mem_cons.1 e with e | e
          · omega
          · exact hT.nq (List.mem_of_mem_drop e)
      · simp only
        rcases List.mem_append.1 hk with e | e
        · have := hlt _ (List.mem_of_mem_take e); omega
        · rcases List.mem_cons.1 e with e | e
          · omega
          · have := hlt _ (List.mem_of_mem_drop e); omega
      · simp only at hk
        rw [ae_k (by omega) (by omega) (by omega) (by omega)]
        exact hT.free k (by omega)
      · rw [ae_v hv (by omega) (by omega) n3, el]
      · intro e
        rcases List.mem_append.1 e with e | e
        · exact n1 (List.mem_of_mem_take e)
        · rcases List.mem_cons.1 e with e | e
          · omega
          · exact n1 (List.mem_of_mem_drop e)
      · rw [ae_k (by omega) (by omega) k3 k2]
      · rcases List.mem_append.1 hk with e | e
        · exact .inl (List.mem_of_mem_take e)
        · rcases List.mem_cons.1 e with e | e
          · exact .inr (by omega)
          · exact .inl (List.mem_of_mem_drop e)
  obtain ⟨⟨ids', H', nx'⟩, h, hh⟩ := BS_ex (T := tb) (f := 36) (af := a36) (ι := List Nat × Heap × Nat) rfl rfl wk
  exact ⟨ids', H', nx', h, hh⟩

end Go.Dv.Try
