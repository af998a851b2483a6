/-
  Specifications of the functions of this claim, parts 49, 50, 51.
-/
import Derived.Test.YtjnigloanggmmaaTab
import Derived.Test.YtjnigloanggmmaaStep
import Derived.Test.YtjnigloanggmmaaS1
import Derived.Test.YtjnigloanggmmaaS7
import Derived.Test.YtjnigloanggmmaaS8
import Derived.Test.YtjnigloanggmmaaS16
import Derived.Test.YtjnigloanggmmaaS24
import Derived.Test.YtjnigloanggmmaaS29
import Derived.Test.YtjnigloanggmmaaS30
import Derived.Test.YtjnigloanggmmaaS32
import Derived.Test.YtjnigloanggmmaaS33
import Derived.Test.YtjnigloanggmmaaS35
import Derived.Test.YtjnigloanggmmaaS36
import Derived.Test.YtjnigloanggmmaaS37
import Derived.Test.YtjnigloanggmmaaS46
set_option linter.unusedVariables false
set_option linter.unusedSimpArgs false
set_option maxRecDepth 100000
set_option maxHeartbeats 16000000
namespace Go.Dv.Try
open Go Go.Dv

theorem okM_MFew {a : M} (h : okM a = true) (hl : a.log.length ≤ 300) : MFew a := by
  obtain ⟨hh, _⟩ := (okM_iff a).1 h
  obtain ⟨v, n, k⟩ := lists_of h
  have := hh.id1; have := hh.id2; have := hh.me1; have := hh.me2
  exact ⟨⟨by omega, by omega, by omega, by omega, by omega, by omega, by omega, by omega⟩, hl, v, n, k⟩

def doR (m : M) (k : Int) (x : X) : M × List X :=
  if k = 0 then timeoutR m else if k = 1 then (restartR m, []) else (countR (voteR m x).1 x, (voteR m x).2.toList)

theorem keeps_do {m : M} {k : Int} {x : X} (h : okM m = true) : Keeps m (doR m k x).1 := by
  unfold doR
  split
  · exact keeps_timeout h
  · split
    · exact keeps_restart h
    · exact (keeps_vote h).trans (keeps_count (keeps_vote h).ok)

def actC (k : Int) (x : X) (q : Bool) : List PV := .int .i64 k :: xC x q

theorem ps38 (m : M) (f : Fl) (k : Int) (x : X) (q : Bool) (ho : okM m = true) (hl : m.log.length ≤ 300) (hi : x.items.length ≤ 300) : ∃ g b, PS tb 38 [.agg (mC m f), .agg (actC k x q)] (.tuple [.agg (mC (doR m k x).1 g), .slice b (rowsT (doR m k x).2)]) := by
  have hm := okM_MFew ho hl
  by_cases k0 : k = 0
  · have j0 : (k == 0) = true := by simpa using k0
    obtain ⟨g, b, p⟩ := ps32 m f hm
    refine ⟨g, b, ?_⟩
    rw [show doR m k x = timeoutR m from if_pos k0]
    generalize timeoutR m = r at p
    refine PS_of (af := a38) rfl rfl ?_
    unfold a38
    dsimp only [List.map, ofPV, initEnv]
    repeat' (first | (simp (maxSteps := 2000000) (disch := omega) only [go_sem, seval, reduceCtorEq, mC, xC, actC, j0]) | (apply x_pure; iterate 5 (first | exact p | ((try simp (maxSteps := 2000000) (disch := omega) only [go_sem, seval, reduceCtorEq, mC, xC, actC, j0]) <;> with_reducible exact rfl))) | ((first | apply x_split_cond | apply x_split_guard); all_goals (intro hb; (try simp only [Bool.not_eq_true', Bool.not_eq_false'] at hb); (simp (maxSteps := 2000000) (disch := omega) only [go_sem, seval, reduceCtorEq, mC, xC, actC, j0, hb]); (try simp only [decide_eq_true_eq, decide_eq_false_iff_not, beq_iff_eq, beq_eq_false_iff_ne, ne_eq, bne_iff_ne, bne_eq_false_iff_eq, Decidable.not_not] at hb))))
    all_goals rfl
  · have j0 : (k == 0) = false := by simpa using k0
    by_cases k1 : k = 1
    · have j1 : (k == 1) = true := by simpa using k1
      obtain ⟨g, p⟩ := ps43 m f hm
      refine ⟨g, true, ?_⟩
      rw [show doR m k x = (restartR m, []) from (if_neg k0).trans (if_pos k1)]
      generalize restartR m = r at p
      refine PS_of (af := a38) rfl rfl ?_
      unfold a38
      dsimp only [List.map, ofPV, initEnv]
      repeat' (first | (simp (maxSteps := 2000000) (disch := omega) only [go_sem, seval, reduceCtorEq, mC, xC, actC, j0, j1]) | (apply x_pure; iterate 5 (first | exact p | ((try simp (maxSteps := 2000000) (disch := omega) only [go_sem, seval, reduceCtorEq, mC, xC, actC, j0, j1]) <;> with_reducible exact rfl))) | ((first | apply x_split_cond | apply x_split_guard); all_goals (intro hb; (try simp only [Bool.not_eq_true', Bool.not_eq_false'] at hb); (simp (maxSteps := 2000000) (disch := omega) only [go_sem, seval, reduceCtorEq, mC, xC, actC, j0, j1, hb]); (try simp only [decide_eq_true_eq, decide_eq_false_iff_not, beq_iff_eq, beq_eq_false_iff_ne, ne_eq, bne_iff_ne, bne_eq_false_iff_eq, Decidable.not_not] at hb))))
      all_goals rfl
    · have j1 : (k == 1) = false := by simpa using k1
      have kv := keeps_vote (x := x) ho
      obtain ⟨g, p⟩ := ps36 m f x q hm hi
      obtain ⟨g2, p2⟩ := ps41 (voteR m x).1 g x q (okM_MFew kv.ok (by rw [kv.log]; exact hl)) hi
      rw [show doR m k x = (countR (voteR m x).1 x, (voteR m x).2.toList) from (if_neg k0).trans (if_neg k1)]
      clear kv
      generalize voteR m x = r at p p2
      obtain ⟨a, o⟩ := r
      simp only at p p2
      generalize countR a x = c at p2
      simp only
      cases o with
      | none =>
        refine ⟨g2, false, PS_of (af := a38) rfl rfl ?_⟩
        simp only [optR] at p
        unfold a38
        dsimp only [List.map, ofPV, initEnv]
        repeat' (first | (simp (maxSteps := 2000000) (disch := omega) only [go_sem, seval, reduceCtorEq, mC, xC, actC, j0, j1]) | (apply x_pure; iterate 5 (first | exact p | exact p2 | ((try simp (maxSteps := 2000000) (disch := omega) only [go_sem, seval, reduceCtorEq, mC, xC, actC, j0, j1]) <;> with_reducible exact rfl))) | ((first | apply x_split_cond | apply x_split_guard); all_goals (intro hb; (try simp only [Bool.not_eq_true', Bool.not_eq_false'] at hb); (simp (maxSteps := 2000000) (disch := omega) only [go_sem, seval, reduceCtorEq, mC, xC, actC, j0, j1, hb]); (try simp only [decide_eq_true_eq, decide_eq_false_iff_not, beq_iff_eq, beq_eq_false_iff_ne, ne_eq, bne_iff_ne, bne_eq_false_iff_eq, Decidable.not_not] at hb))))
        all_goals rfl
      | some y =>
        refine ⟨g2, false, PS_of (af := a38) rfl rfl ?_⟩
        simp only [optR] at p
        have fold := rowsT_one y
        unfold a38
        dsimp only [List.map, ofPV, initEnv]
        repeat' (first | (simp (maxSteps := 2000000) (disch := omega) only [go_sem, seval, reduceCtorEq, mC, xC, actC, j0, j1, fold, rowsT_sz, rowsT_length, List.length_cons, List.length_nil, maxB]) | (apply x_pure; iterate 5 (first | exact p | exact p2 | ((try simp (maxSteps := 2000000) (disch := omega) only [go_sem, seval, reduceCtorEq, mC, xC, actC, j0, j1, fold, rowsT_sz, rowsT_length, List.length_cons, List.length_nil, maxB]) <;> with_reducible exact rfl))) | ((first | apply x_split_cond | apply x_split_guard); all_goals (intro hb; (try simp only [Bool.not_eq_true', Bool.not_eq_false'] at hb); (simp (maxSteps := 2000000) (disch := omega) only [go_sem, seval, reduceCtorEq, mC, xC, actC, j0, j1, fold, rowsT_sz, rowsT_length, List.length_cons, List.length_nil, maxB, hb]); (try simp only [decide_eq_true_eq, decide_eq_false_iff_not, beq_iff_eq, beq_eq_false_iff_ne, ne_eq, bne_iff_ne, bne_eq_false_iff_eq, Decidable.not_not] at hb))))
        all_goals rfl

theorem vote_some {m : M} {x y : X} (h : (voteR m x).2 = some y) : concernsX m x 1 = true ∧ (voteR m x).1 = castM (newer m x) x ∧ y = voteReplyX (castM (newer m x) x) x.frm (grants (newer m x) x) := by
  unfold voteR at h ⊢
  split at h
  · rename_i hc
    simp only [Option.some.injEq] at h
    rw [if_pos hc]
    exact ⟨hc, rfl, h.symm⟩
  · cases h

theorem count_other {m : M} {x : X} (h : x.kind ≠ 2) : countR m x = m := by
  have : concernsX m x 2 = false := by simp [concernsX, h]
  unfold countR
  rw [if_neg (by simp [this])]

theorem asksN_mem {c : M} {k : Nat} : ∀ y ∈ asksN c k, ∃ t : Nat, t < k ∧ ((t + 1 : Nat) : Int) ≠ c.id ∧ y = askX c (t + 1 : Nat) := by
  induction k with
  | zero => simp [asksN]
  | succ k ih =>
    intro y hy
    simp only [asksN] at hy
    split at hy
    · obtain ⟨t, h1, h2, h3⟩ := ih y hy
      exact ⟨t, by omega, h2, h3⟩
    · rename_i ne
      rcases List.mem_append.1 hy with h | h
      · obtain ⟨t, h1, h2, h3⟩ := ih y h
        exact ⟨t, by omega, h2, h3⟩
      · simp only [List.mem_singleton] at h
        exact ⟨k, by omega, ne, h⟩

theorem won_fields (m : M) : (wonM m).term = m.term ∧ (wonM m).vote = m.vote ∧ (wonM m).id = m.id ∧ (wonM m).members = m.members ∧ (wonM m).log = m.log := by
  unfold wonM; split <;> exact ⟨rfl, rfl, rfl, rfl, rfl⟩

theorem timeout_ok {m : M} (ho : okM m = true) : ∀ y ∈ (timeoutR m).2, okX y m.members = true ∧ y.frm = m.id ∧ y.term = (timeoutR m).1.term ∧ y.kind = 1 := by
  obtain ⟨hh, _⟩ := (okM_iff m).1 ho
  have i1 := hh.id1; have i2 := hh.id2; have i3 := hh.me1; have i4 := hh.me2; have t1 := hh.te1; have t2 := hh.te2
  have lg := ((okLog_iff _).1 hh.lg).1
  unfold timeoutR
  split
  · rename_i hc
    intro y hy
    obtain ⟨t, h1, h2, rfl⟩ := asksN_mem y hy
    have h1 : t < m.members.toNat := h1
    have h2 : ((t + 1 : Nat) : Int) ≠ m.id := h2
    obtain ⟨u1, u2⟩ := termN_ok hh.lg (n := m.log.length) (by omega) (Int.le_refl _)
    have tn := hc.2.2
    refine ⟨okX_mk i3 i4 i1 i2 (by show 1 ≤ ((t + 1 : Nat) : Int); omega) (by show ((t + 1 : Nat) : Int) ≤ m.members; omega) (by show m.id ≠ ((t + 1 : Nat) : Int); omega) (by show 1 ≤ m.term + 1; omega) (by show m.term + 1 ≤ _; omega) (by show (0 : Int) ≤ m.log.length; omega) (by show (m.log.length : Int) ≤ _; omega) u1 u2
      (by show (0 : Int) ≤ 0; omega) (by show (0 : Int) ≤ _; omega) okLog_nil (by show (1 : Int) ≤ 1; omega) (by show (1 : Int) ≤ 4; omega) rfl, rfl, (won_fields (candM m)).1.symm, rfl⟩
  · intro y hy; simp at hy

theorem do_msgs {m : M} {k : Int} {x : X} (ho : okM m = true) : ∀ y ∈ (doR m k x).2, okX y m.members = true ∧ y.frm = m.id ∧ y.term = (doR m k x).1.term ∧ (y.kind = 2 → y.ok = true → (doR m k x).1.vote = y.to ∧ y.to ≠ 0) := by
  unfold doR
  split
  · intro y hy
    obtain ⟨a, b, c, d⟩ := timeout_ok ho y hy
    exact ⟨a, b, c, fun e => by omega⟩
  · split
    · intro y hy; simp at hy
    · intro y hy
      have hy : (voteR m x).2 = some y := by simpa using hy
      obtain ⟨o1, o2⟩ := vote_reply_ok hy
      obtain ⟨hc, e1, e2⟩ := vote_some hy
      obtain ⟨h1, h2, h3, h4⟩ := concerns_ok hc
      have f := okX_facts h2
      show _ ∧ _ ∧ y.term = (countR (voteR m x).1 x).term ∧ (_ → _ → (countR (voteR m x).1 x).vote = y.to ∧ _)
      rw [count_other (by omega), e1]
      refine ⟨o1, o2, by rw [e2]; rfl, fun _ hk => ?_⟩
      rw [e2] at hk ⊢
      have hk : grants (newer m x) x = true := hk
      have : castM (newer m x) x = { newer m x with vote := x.frm } := by unfold castM; rw [if_pos hk]
      refine ⟨by rw [this]; rfl, by show x.frm ≠ 0; omega⟩

/-- Grants that agree with a member: none of a later term, those of its term are its vote. -/
structure GOk (G : List (Int × Int)) (m : M) : Prop where
  le : ∀ g ∈ G, g.1 ≤ m.term
  vote : ∀ g ∈ G, g.1 = m.term → m.vote = g.2 ∧ m.vote ≠ 0
  one : ∀ g ∈ G, ∀ h ∈ G, g.1 = h.1 → g.2 = h.2

theorem GOk.keeps {G : List (Int × Int)} {m a : M} (h : GOk G m) (k : Keeps m a) : GOk G a := by
  refine ⟨fun g hg => Int.le_trans (h.le g hg) k.term, fun g hg e => ?_, h.one⟩
  have h1 := h.le g hg
  have h2 := k.term
  have e2 : g.1 = m.term := by omega
  obtain ⟨v1, v2⟩ := h.vote g hg e2
  have := k.vote (by omega) v2
  rw [this]
  exact ⟨v1, v2⟩

theorem GOk.add {G : List (Int × Int)} {m : M} (h : GOk G m) (hv : m.vote ≠ 0) : GOk (G ++ [(m.term, m.vote)]) m := by
  refine ⟨?_, ?_, ?_⟩
  · intro g hg
    rcases List.mem_append.1 hg with h' | h'
    · exact h.le g h'
    · simp at h'; subst h'; exact Int.le_refl _
  · intro g hg e
    rcases List.mem_append.1 hg with h' | h'
    · exact h.vote g h' e
    · simp at h'; subst h'; exact ⟨rfl, hv⟩
  · intro g hg k hk e
    rcases List.mem_append.1 hg with h1 | h1 <;> rcases List.mem_append.1 hk with h2 | h2
    · exact h.one g h1 k h2 e
    · simp at h2; subst h2; exact ((h.vote g h1 e).1).symm
    · simp at h1; subst h1; exact (h.vote k h2 e.symm).1
    · simp at h1 h2; subst h1; subst h2; rfl

def grPV (G : List (Int × Int)) : List (List PV) := G.map fun g => [.int .i64 g.1, .int .i64 g.2]

theorem grPV_length (G : List (Int × Int)) : (grPV G).length = G.length := by simp [grPV]

theorem grPV_sz (G : List (Int × Int)) : allSz 2 (grPV G) = true := by simp [allSz, grPV]

theorem grPV_append (a b : List (Int × Int)) : grPV a ++ grPV b = grPV (a ++ b) := by simp [grPV]

theorem grPV_sing (a b : Int) : [[PV.int .i64 a, .int .i64 b]] = grPV [(a, b)] := rfl

theorem grPV_get (G : List (Int × Int)) (i : Nat) (h : i < G.length) : (grPV G)[i]? = some [.int .i64 G[i].1, .int .i64 G[i].2] := by simp [grPV, h]

theorem rowsT_get (l : List X) (i : Nat) (h : i < l.length) : (rowsT l)[i]? = some (xC l[i] true) := by simp [rowsT, h]

/-- The grants are one a term. -/
def One (G : List (Int × Int)) : Prop := ∀ g ∈ G, ∀ h ∈ G, g.1 = h.1 → g.2 = h.2

theorem l6a (G : List (Int × Int)) (hl : G.length ≤ 100000) (ho : One G) (i : Nat) (hi : i < G.length) (K : Ex → St → Prop)
    (hx : K (.exit 6) ⟨[(5, .ref 1 G.length 0 G.length), (10, .p (.int .i64 i))], [(1, .row false 2 (grPV G))], 2, [0]⟩) : ∀ (n k : Nat), k + n = i →
    W tb a6_l0 ⟨[(5, .ref 1 G.length 0 G.length), (10, .p (.int .i64 i)), (11, .p (.int .i64 k))], [(1, .row false 2 (grPV G))], 2, [0]⟩ (LK tb (.ghost .lower a6_l0) K) := by
  intro n
  induction n with
  | zero =>
    intro k hk
    have h1 : ¬ (k : Int) < (i : Int) := by omega
    refine i_code (by unfold a6_l0; exact rfl) ?_
    repeat' (first | (simp (maxSteps := 2000000) (disch := omega) only [go_sem, seval, reduceCtorEq, h1]) | ((first | apply x_split_cond | apply x_split_guard); all_goals (intro hb; (try simp only [Bool.not_eq_true', Bool.not_eq_false'] at hb); (simp (maxSteps := 2000000) (disch := omega) only [go_sem, seval, reduceCtorEq, h1, hb]); (try simp only [decide_eq_true_eq, decide_eq_false_iff_not, beq_iff_eq, beq_eq_false_iff_ne, ne_eq, bne_iff_ne, bne_eq_false_iff_eq, Decidable.not_not] at hb))))
    exact hx
  | succ n ih =>
    intro k hk
    have h1 : (k : Int) < (i : Int) := by omega
    have h2 : k < G.length := by omega
    have h3 := grPV_get G k h2
    have h4 := grPV_get G i hi
    have h5 : (0 : Int) ≤ k := by omega
    have h6 : (0 : Int) ≤ i := by omega
    have h7 : (k : Int) < (G.length : Int) := by omega
    have h8 : (i : Int) < (G.length : Int) := by omega
    refine i_code (by unfold a6_l0; exact rfl) ?_
    by_cases e : G[i].1 = G[k].1
    · have e1 : (G[i].1 == G[k].1) = true := by simpa using e
      have e2 : (G[i].2 != G[k].2) = false := by simpa using ho _ (List.getElem_mem hi) _ (List.getElem_mem h2) e
      repeat' (first | (simp (maxSteps := 2000000) (disch := omega) only [go_sem, seval, reduceCtorEq, h1, hi, h2, h3, h4, h5, h6, h7, h8, e1, e2, grPV_length]) | ((first | apply x_split_cond | apply x_split_guard); all_goals (intro hb; (try simp only [Bool.not_eq_true', Bool.not_eq_false'] at hb); (simp (maxSteps := 2000000) (disch := omega) only [go_sem, seval, reduceCtorEq, h1, hi, h2, h3, h4, h5, h6, h7, h8, e1, e2, grPV_length, hb]); (try simp only [decide_eq_true_eq, decide_eq_false_iff_not, beq_iff_eq, beq_eq_false_iff_ne, ne_eq, bne_iff_ne, bne_eq_false_iff_eq, Decidable.not_not] at hb))))
      refine i_lk (W_round ?_)
      (try simp (maxSteps := 2000000) (disch := omega) only [go_sem, seval, reduceCtorEq])
      exact ih (k + 1) (by omega)
    · have e1 : (G[i].1 == G[k].1) = false := by simpa using e
      repeat' (first | (simp (maxSteps := 2000000) (disch := omega) only [go_sem, seval, reduceCtorEq, h1, hi, h2, h3, h4, h5, h6, h7, h8, e1, grPV_length]) | ((first | apply x_split_cond | apply x_split_guard); all_goals (intro hb; (try simp only [Bool.not_eq_true', Bool.not_eq_false'] at hb); (simp (maxSteps := 2000000) (disch := omega) only [go_sem, seval, reduceCtorEq, h1, hi, h2, h3, h4, h5, h6, h7, h8, e1, grPV_length, hb]); (try simp only [decide_eq_true_eq, decide_eq_false_iff_not, beq_iff_eq, beq_eq_false_iff_ne, ne_eq, bne_iff_ne, bne_eq_false_iff_eq, Decidable.not_not] at hb))))
      refine i_lk (W_round ?_)
      (try simp (maxSteps := 2000000) (disch := omega) only [go_sem, seval, reduceCtorEq])
      exact ih (k + 1) (by omega)

theorem l6b (G : List (Int × Int)) (hl : G.length ≤ 100000) (ho : One G) (K : Ex → St → Prop) (hx : ∀ s, s.env = [] → K (.exit 4) s) : ∀ (n i : Nat), i + n = G.length →
    W tb a6_l1 ⟨[(5, .ref 1 G.length 0 G.length), (10, .p (.int .i64 i))], [(1, .row false 2 (grPV G))], 2, [0]⟩ (LK tb (.ghost .lower a6_l1) K) := by
  intro n
  induction n with
  | zero =>
    intro i hi
    have h1 : ¬ (i : Int) < (G.length : Int) := by omega
    refine i_code (by unfold a6_l1; exact rfl) ?_
    repeat' (first | (simp (maxSteps := 2000000) (disch := omega) only [go_sem, seval, reduceCtorEq, h1, grPV_length]) | ((first | apply x_split_cond | apply x_split_guard); all_goals (intro hb; (try simp only [Bool.not_eq_true', Bool.not_eq_false'] at hb); (simp (maxSteps := 2000000) (disch := omega) only [go_sem, seval, reduceCtorEq, h1, grPV_length, hb]); (try simp only [decide_eq_true_eq, decide_eq_false_iff_not, beq_iff_eq, beq_eq_false_iff_ne, ne_eq, bne_iff_ne, bne_eq_false_iff_eq, Decidable.not_not] at hb))))
    exact hx _ rfl
  | succ n ih =>
    intro i hi
    have h1 : (i : Int) < (G.length : Int) := by omega
    refine i_code (by unfold a6_l1; exact rfl) ?_
    repeat' (first | (simp (maxSteps := 2000000) (disch := omega) only [go_sem, seval, reduceCtorEq, h1, grPV_length]) | ((first | apply x_split_cond | apply x_split_guard); all_goals (intro hb; (try simp only [Bool.not_eq_true', Bool.not_eq_false'] at hb); (simp (maxSteps := 2000000) (disch := omega) only [go_sem, seval, reduceCtorEq, h1, grPV_length, hb]); (try simp only [decide_eq_true_eq, decide_eq_false_iff_not, beq_iff_eq, beq_eq_false_iff_ne, ne_eq, bne_iff_ne, bne_eq_false_iff_eq, Decidable.not_not] at hb))))
    refine W_round ?_
    (try simp (maxSteps := 2000000) (disch := omega) only [go_sem, seval, reduceCtorEq])
    refine l6a G hl ho i (by omega) _ ?_ i 0 (Nat.zero_add _)
    (try simp (maxSteps := 2000000) (disch := omega) only [go_sem, seval, reduceCtorEq])
    refine i_lk (W_round ?_)
    (try simp (maxSteps := 2000000) (disch := omega) only [go_sem, seval, reduceCtorEq])
    exact ih (i + 1) (by omega)

/-- What the messages of an action add to the grants. -/
def gAdd : List X → List (Int × Int)
  | [] => []
  | y :: r => (if y.kind = 2 ∧ y.ok = true then [(y.term, y.to)] else []) ++ gAdd r

theorem gAdd_len : ∀ l : List X, (gAdd l).length ≤ l.length
  | [] => by simp [gAdd]
  | y :: r => by
    have := gAdd_len r
    simp only [gAdd]
    split <;> simp <;> omega

theorem gAdd_take (l : List X) (k : Nat) (h : k < l.length) : gAdd (l.take (k + 1)) = gAdd (l.take k) ++ (if l[k].kind = 2 ∧ l[k].ok = true then [(l[k].term, l[k].to)] else []) := by
  induction l generalizing k with
  | nil => simp at h
  | cons y r ih =>
    cases k with
    | zero => simp [gAdd]
    | succ k =>
      have := ih k (by simpa using h)
      simp only [List.take_succ_cons, gAdd, this, List.append_assoc, List.getElem_cons_succ]

theorem l6c (m : M) (f : Fl) (la : PV) (i : Int) (G0 : List (Int × Int)) (hG : G0.length ≤ 10000) (b : Bool) (l : List X) (hl : l.length ≤ 10000) (ho : ∀ y ∈ l, okX y m.members = true ∧ y.frm = m.id ∧ y.term = m.term) (K : Ex → St → Prop)
    (hx : K (.exit 2) ⟨[(1, .p la), (2, .ptr 0 0), (5, .ref 1 (G0 ++ gAdd l).length 0 (G0 ++ gAdd l).length), (6, .p (.int .i64 i))], [(1, .row false 2 (grPV (G0 ++ gAdd l))), (0, .var false ((mC m f).map .p))], 2, [0]⟩) : ∀ (n k : Nat), k + n = l.length →
    W tb a6_l2 ⟨[(1, .p la), (2, .ptr 0 0), (5, .ref 1 (G0 ++ gAdd (l.take k)).length 0 (G0 ++ gAdd (l.take k)).length), (6, .p (.int .i64 i)), (8, .p (.slice b (rowsT l))), (9, .p (.int .i64 k))], [(1, .row false 2 (grPV (G0 ++ gAdd (l.take k)))), (0, .var false ((mC m f).map .p))], 2, [0]⟩ (LK tb (.ghost (.free [7]) (.ghost .lower a6_l2)) K) := by
  intro n
  induction n with
  | zero =>
    intro k hk
    have h1 : ¬ (k : Int) < (l.length : Int) := by omega
    rw [List.take_of_length_le (by omega)]
    refine i_code (by unfold a6_l2; exact rfl) ?_
    repeat' (first | (simp (maxSteps := 2000000) (disch := omega) only [go_sem, seval, reduceCtorEq, h1, rowsT_length, mC]) | ((first | apply x_split_cond | apply x_split_guard); all_goals (intro hb; (try simp only [Bool.not_eq_true', Bool.not_eq_false'] at hb); (simp (maxSteps := 2000000) (disch := omega) only [go_sem, seval, reduceCtorEq, h1, rowsT_length, mC, hb]); (try simp only [decide_eq_true_eq, decide_eq_false_iff_not, beq_iff_eq, beq_eq_false_iff_ne, ne_eq, bne_iff_ne, bne_eq_false_iff_eq, Decidable.not_not] at hb))))
    exact hx
  | succ n ih =>
    intro k hk
    have h1 : (k : Int) < (l.length : Int) := by omega
    have h2 : k < l.length := by omega
    have h3 := rowsT_get l k h2
    have h4 : (0 : Int) ≤ k := by omega
    obtain ⟨o1, o2, o3⟩ := ho _ (List.getElem_mem h2)
    have o4 : (l[k].frm != m.id) = false := by simp [o2]
    have o5 : (l[k].term != m.term) = false := by simp [o3]
    have o6 : l[k].items.length ≤ 140737488355328 := by
      have := ((okLog_iff _).1 (okX_facts o1).2.2.2.2.2.2.2.2.2.2.2.2.2.2.2).1
      omega
    have sp := ps40 l[k] true m.members o6
    rw [o1] at sp
    have gl := gAdd_len (l.take k)
    have gt : (l.take k).length ≤ k := List.length_take_le ..
    have gs : (G0 ++ gAdd (l.take k)).length ≤ 20000 := by simp; omega
    have ih := ih (k + 1) (by omega)
    rw [gAdd_take l k h2] at ih
    refine i_code (by unfold a6_l2; exact rfl) ?_
    by_cases e : l[k].kind = 2
    · have e1 : (l[k].kind == 2) = true := by simpa using e
      cases e2 : l[k].ok with
      | true =>
        rw [if_pos ⟨e, e2⟩, ← List.append_assoc] at ih
        generalize G0 ++ gAdd (l.take k) = G at *
        simp only [List.length_append, List.length_cons, List.length_nil, Nat.zero_add] at ih
        repeat' (first | (simp (maxSteps := 2000000) (disch := omega) only [go_sem, seval, reduceCtorEq, h1, h2, h3, h4, o4, o5, e1, xC, mC, rowsT_length, grPV_sing, grPV_sz, grPV_append, grPV_length, List.take_length, List.length_append, maxB]) | (apply x_pure; iterate 5 (first | exact sp | ((try simp (maxSteps := 2000000) (disch := omega) only [go_sem, seval, reduceCtorEq, h1, h2, h3, h4, o4, o5, e1, xC, mC, rowsT_length, grPV_sing, grPV_sz, grPV_append, grPV_length, List.take_length, List.length_append, maxB]) <;> with_reducible exact rfl))) | ((first | apply x_split_cond | apply x_split_guard); all_goals (intro hb; (try simp only [Bool.not_eq_true', Bool.not_eq_false'] at hb); (simp (maxSteps := 2000000) (disch := omega) only [go_sem, seval, reduceCtorEq, h1, h2, h3, h4, o4, o5, e1, xC, mC, rowsT_length, grPV_sing, grPV_sz, grPV_append, grPV_length, List.take_length, List.length_append, maxB, hb]); (try simp only [decide_eq_true_eq, decide_eq_false_iff_not, beq_iff_eq, beq_eq_false_iff_ne, ne_eq, bne_iff_ne, bne_eq_false_iff_eq, Decidable.not_not] at hb))))
        all_goals first
          | exact absurd (e2.symm.trans hb) (by decide)
          | (refine i_lk (W_round ?_)
             (try simp (maxSteps := 2000000) (disch := omega) only [go_sem, seval, reduceCtorEq, mC])
             exact ih)
      | false =>
        rw [if_neg (by rw [e2]; simp), List.append_nil] at ih
        generalize G0 ++ gAdd (l.take k) = G at *
        repeat' (first | (simp (maxSteps := 2000000) (disch := omega) only [go_sem, seval, reduceCtorEq, h1, h2, h3, h4, o4, o5, e1, xC, mC, rowsT_length, grPV_length]) | (apply x_pure; iterate 5 (first | exact sp | ((try simp (maxSteps := 2000000) (disch := omega) only [go_sem, seval, reduceCtorEq, h1, h2, h3, h4, o4, o5, e1, xC, mC, rowsT_length, grPV_length]) <;> with_reducible exact rfl))) | ((first | apply x_split_cond | apply x_split_guard); all_goals (intro hb; (try simp only [Bool.not_eq_true', Bool.not_eq_false'] at hb); (simp (maxSteps := 2000000) (disch := omega) only [go_sem, seval, reduceCtorEq, h1, h2, h3, h4, o4, o5, e1, xC, mC, rowsT_length, grPV_length, hb]); (try simp only [decide_eq_true_eq, decide_eq_false_iff_not, beq_iff_eq, beq_eq_false_iff_ne, ne_eq, bne_iff_ne, bne_eq_false_iff_eq, Decidable.not_not] at hb))))
        all_goals first
          | exact absurd (e2.symm.trans hb) (by decide)
          | (refine i_lk (W_round ?_)
             (try simp (maxSteps := 2000000) (disch := omega) only [go_sem, seval, reduceCtorEq, mC])
             exact ih)
    · have e1 : (l[k].kind == 2) = false := by simpa using e
      rw [if_neg (fun h => e h.1), List.append_nil] at ih
      generalize G0 ++ gAdd (l.take k) = G at *
      repeat' (first | (simp (maxSteps := 2000000) (disch := omega) only [go_sem, seval, reduceCtorEq, h1, h2, h3, h4, o4, o5, e1, xC, mC, rowsT_length, grPV_length]) | (apply x_pure; iterate 5 (first | exact sp | ((try simp (maxSteps := 2000000) (disch := omega) only [go_sem, seval, reduceCtorEq, h1, h2, h3, h4, o4, o5, e1, xC, mC, rowsT_length, grPV_length]) <;> with_reducible exact rfl))) | ((first | apply x_split_cond | apply x_split_guard); all_goals (intro hb; (try simp only [Bool.not_eq_true', Bool.not_eq_false'] at hb); (simp (maxSteps := 2000000) (disch := omega) only [go_sem, seval, reduceCtorEq, h1, h2, h3, h4, o4, o5, e1, xC, mC, rowsT_length, grPV_length, hb]); (try simp only [decide_eq_true_eq, decide_eq_false_iff_not, beq_iff_eq, beq_eq_false_iff_ne, ne_eq, bne_iff_ne, bne_eq_false_iff_eq, Decidable.not_not] at hb))))
      refine i_lk (W_round ?_)
      (try simp (maxSteps := 2000000) (disch := omega) only [go_sem, seval, reduceCtorEq, mC])
      exact ih

theorem GOk.msgs {m : M} : ∀ (l : List X) (G : List (Int × Int)), GOk G m → (∀ y ∈ l, y.term = m.term ∧ (y.kind = 2 → y.ok = true → m.vote = y.to ∧ y.to ≠ 0)) → GOk (G ++ gAdd l) m
  | [], G, h, _ => by simpa [gAdd] using h
  | y :: r, G, h, hl => by
    obtain ⟨a, b⟩ := hl y (by simp)
    have hr : ∀ z ∈ r, _ := fun z hz => hl z (by simp [hz])
    simp only [gAdd]
    split
    · rename_i hc
      obtain ⟨v1, v2⟩ := b hc.1 hc.2
      have := GOk.msgs r _ (h.add (by omega)) hr
      rw [← v1, a]
      simpa using this
    · simpa using GOk.msgs r G h hr

def actsPV (l : List (Int × X)) : List (List PV) := l.map fun t => actC t.1 t.2 false

theorem actsPV_length (l : List (Int × X)) : (actsPV l).length = l.length := by simp [actsPV]

theorem actsPV_get (l : List (Int × X)) (i : Nat) (h : i < l.length) : (actsPV l)[i]? = some (actC l[i].1 l[i].2 false) := by simp [actsPV, h]

theorem fit_acts {y : PV} (h : Fit (.slice [.int .i64, .int .i64, .int .i64, .int .i64, .int .i64, .int .i64, .int .i64, .int .i64, .bool, .slice [.int .i64, .str]]) y) : ∃ l, y = .slice false (actsPV l) := by
  cases h with
  | slice l xs h hl hr =>
    have : ∀ xs : List (List PV), (∀ x ∈ xs, ∃ n z, x = actC n z false) → ∃ l, xs = actsPV l := by
      intro xs
      induction xs with
      | nil => intro _; exact ⟨[], rfl⟩
      | cons x xs ih =>
        intro hx
        obtain ⟨n, z, hn⟩ := hx x (by simp)
        obtain ⟨l, hl⟩ := ih fun y hy => hx y (by simp [hy])
        exact ⟨(n, z) :: l, by rw [hn, hl]; rfl⟩
    obtain ⟨l, e⟩ := this xs fun x hx => by
      have h1 := hl x hx
      obtain ⟨i, hi⟩ := List.mem_iff_getElem?.1 hx
      match x, h1 with
      | [a0, a1, a2, a3, a4, a5, a6, a7, a8, a9], _ =>
        obtain ⟨n0, rfl, _⟩ := fit_int (hr i _ 0 _ _ hi rfl rfl)
        obtain ⟨n1, rfl, _⟩ := fit_int (hr i _ 1 _ _ hi rfl rfl)
        obtain ⟨n2, rfl, _⟩ := fit_int (hr i _ 2 _ _ hi rfl rfl)
        obtain ⟨n3, rfl, _⟩ := fit_int (hr i _ 3 _ _ hi rfl rfl)
        obtain ⟨n4, rfl, _⟩ := fit_int (hr i _ 4 _ _ hi rfl rfl)
        obtain ⟨n5, rfl, _⟩ := fit_int (hr i _ 5 _ _ hi rfl rfl)
        obtain ⟨n6, rfl, _⟩ := fit_int (hr i _ 6 _ _ hi rfl rfl)
        obtain ⟨n7, rfl, _⟩ := fit_int (hr i _ 7 _ _ hi rfl rfl)
        obtain ⟨n8, rfl⟩ := fit_bool (hr i _ 8 _ _ hi rfl rfl)
        obtain ⟨n9, rfl⟩ := fit_items (hr i _ 9 _ _ hi rfl rfl)
        exact ⟨n0, ⟨n1, n2, n3, n4, n5, n6, n7, n8, n9⟩, rfl⟩
    exact ⟨l, by rw [e]⟩

theorem do_len {m : M} {k : Int} {x : X} (ho : okM m = true) : (doR m k x).2.length ≤ 100 := by
  have := ((okM_iff m).1 ho).1.me2
  unfold doR
  split
  · unfold timeoutR
    split
    · have := asksN_length (candM m) m.members.toNat
      show (asksN (candM m) m.members.toNat).length ≤ 100
      omega
    · simp
  · split
    · simp
    · cases (voteR m x).2 <;> simp

theorem l6d (acts : List (Int × X)) (ha : acts.length ≤ 20) (b : Bool) (K : Ex → St → Prop) (hx : ∀ G, One G → G.length ≤ 100000 → K (.exit 0) ⟨[(5, .ref 1 G.length 0 G.length)], [(1, .row false 2 (grPV G))], 2, [0]⟩)
    (hr : ∀ s, aget s.env 4 = some (.p (.bool true)) → K .ret s) : ∀ (n i : Nat) (m : M) (f : Fl) (G : List (Int × Int)), i + n = acts.length → okM m = true → m.log.length ≤ 300 → GOk G m → G.length ≤ 200 * i + 1 →
    W tb a6_l3 ⟨[(1, .p (.slice b (actsPV acts))), (2, .ptr 0 0), (5, .ref 1 G.length 0 G.length), (6, .p (.int .i64 i))], [(1, .row false 2 (grPV G)), (0, .var false ((mC m f).map .p))], 2, [0]⟩ (LK tb (.ghost .lower a6_l3) K) := by
  intro n
  induction n with
  | zero =>
    intro i m f G hi ho hl hG hg
    have h1 : ¬ (i : Int) < (acts.length : Int) := by omega
    refine i_code (by unfold a6_l3; exact rfl) ?_
    repeat' (first | (simp (maxSteps := 2000000) (disch := omega) only [go_sem, seval, reduceCtorEq, h1, actsPV_length, mC]) | ((first | apply x_split_cond | apply x_split_guard); all_goals (intro hb; (try simp only [Bool.not_eq_true', Bool.not_eq_false'] at hb); (simp (maxSteps := 2000000) (disch := omega) only [go_sem, seval, reduceCtorEq, h1, actsPV_length, mC, hb]); (try simp only [decide_eq_true_eq, decide_eq_false_iff_not, beq_iff_eq, beq_eq_false_iff_ne, ne_eq, bne_iff_ne, bne_eq_false_iff_eq, Decidable.not_not] at hb))))
    exact hx G hG.one (by omega)
  | succ n ih =>
    intro i m f G hi ho hl hG hg
    have h1 : (i : Int) < (acts.length : Int) := by omega
    have h2 : i < acts.length := by omega
    have h3 := actsPV_get acts i h2
    have h4 : (0 : Int) ≤ i := by omega
    generalize acts[i] = t at h3
    obtain ⟨k, x⟩ := t
    simp only at h3
    refine i_code (by unfold a6_l3; exact rfl) ?_
    cases hf : few35 x.items with
    | false =>
      repeat' (first | (simp (maxSteps := 2000000) (disch := omega) only [go_sem, seval, reduceCtorEq, h1, h2, h3, h4, hf, actC, xC, mC, actsPV_length]) | (apply x_pure; iterate 5 (first | exact ps35 _ _ | exact ps22 | ((try simp (maxSteps := 2000000) (disch := omega) only [go_sem, seval, reduceCtorEq, h1, h2, h3, h4, hf, actC, xC, mC, actsPV_length]) <;> with_reducible exact rfl))) | ((first | apply x_split_cond | apply x_split_guard); all_goals (intro hb; (try simp only [Bool.not_eq_true', Bool.not_eq_false'] at hb); (simp (maxSteps := 2000000) (disch := omega) only [go_sem, seval, reduceCtorEq, h1, h2, h3, h4, hf, actC, xC, mC, actsPV_length, hb]); (try simp only [decide_eq_true_eq, decide_eq_false_iff_not, beq_iff_eq, beq_eq_false_iff_ne, ne_eq, bne_iff_ne, bne_eq_false_iff_eq, Decidable.not_not] at hb))))
      exact hr _ rfl
    | true =>
      have hi3 : x.items.length ≤ 300 := by
        simp only [few35, Bool.and_eq_true, decide_eq_true_eq] at hf
        omega
      have kp := keeps_do (k := k) (x := x) ho
      have ms := do_msgs (k := k) (x := x) ho
      have dl := do_len (k := k) (x := x) ho
      obtain ⟨g, b', q⟩ := ps38 m f k x false ho hl hi3
      generalize doR m k x = r at kp ms dl q
      obtain ⟨a, out⟩ := r
      simp only at kp ms dl q
      have ok := kp.ok
      have c1 : ¬ a.term < m.term := by have := kp.term; omega
      have c2 : (a.id != m.id) = false := by simp [kp.id]
      have c3 : (a.members != m.members) = false := by simp [kp.mem]
      have q28 := ps28 a g (valid_MIn ok)
      rw [ok] at q28
      have q39 : PS tb 39 [.slice g.a (itemsPV a.log), .slice f.a (itemsPV m.log)] (.bool true) := by
        rw [kp.log]
        exact ps39 m.log _ _ (by omega)
      have hGa := hG.keeps kp
      have la : a.log.length ≤ 300 := by rw [kp.log]; exact hl
      have ms2 : ∀ y ∈ out, okX y a.members = true ∧ y.frm = a.id ∧ y.term = a.term := fun y hy => by
        obtain ⟨u, v, w, _⟩ := ms y hy
        rw [kp.mem, kp.id]
        exact ⟨u, v, w⟩
      have ms3 : ∀ y ∈ out, y.term = a.term ∧ (y.kind = 2 → y.ok = true → a.vote = y.to ∧ y.to ≠ 0) := fun y hy => by
        obtain ⟨_, _, w, z⟩ := ms y hy
        exact ⟨w, z⟩
      have gl := gAdd_len out
      have key : (a.term == m.term) = false ∧ True ∧ True ∨ (a.term == m.term) = true ∧ (m.vote != 0) = false ∧ True ∨ (a.term == m.term) = true ∧ (m.vote != 0) = true ∧ (a.vote != m.vote) = false := by
        by_cases e : a.term = m.term
        · by_cases v : m.vote = 0
          · exact .inr (.inl ⟨by simpa using e, by simpa using v, trivial⟩)
          · exact .inr (.inr ⟨by simpa using e, by simpa using v, by simpa using kp.vote e v⟩)
        · exact .inl ⟨by simpa using e, trivial, trivial⟩
      by_cases v : a.vote = 0
      · have v1 : (a.vote != 0) = false := by simpa using v
        have nx := hGa.msgs out G ms3
        have gn : (G ++ gAdd out).length ≤ 200 * (i + 1) + 1 := by simp; omega
        rcases key with ⟨e1, e2, e3⟩ | ⟨e1, e2, e3⟩ | ⟨e1, e2, e3⟩
        all_goals
          repeat' (first | (simp (maxSteps := 2000000) (disch := omega) only [go_sem, seval, reduceCtorEq, h1, h2, h3, h4, hf, c1, c2, c3, e1, e2, e3, v1, actC, xC, mC, actsPV_length, grPV_length]) | (apply x_pure; iterate 5 (first | exact ps35 _ _ | exact q | exact q28 | exact q39 | ((try simp (maxSteps := 2000000) (disch := omega) only [go_sem, seval, reduceCtorEq, h1, h2, h3, h4, hf, c1, c2, c3, e1, e2, e3, v1, actC, xC, mC, actsPV_length, grPV_length]) <;> with_reducible exact rfl))) | ((first | apply x_split_cond | apply x_split_guard); all_goals (intro hb; (try simp only [Bool.not_eq_true', Bool.not_eq_false'] at hb); (simp (maxSteps := 2000000) (disch := omega) only [go_sem, seval, reduceCtorEq, h1, h2, h3, h4, hf, c1, c2, c3, e1, e2, e3, v1, actC, xC, mC, actsPV_length, grPV_length, hb]); (try simp only [decide_eq_true_eq, decide_eq_false_iff_not, beq_iff_eq, beq_eq_false_iff_ne, ne_eq, bne_iff_ne, bne_eq_false_iff_eq, Decidable.not_not] at hb))))
          refine W_round ?_
          (try simp (maxSteps := 2000000) (disch := omega) only [go_sem, seval, reduceCtorEq, mC])
          have lp := l6c a g (.slice b (actsPV acts)) i G (by omega) b' out (by omega) ms2
          have lp0 := fun K hx => lp K hx out.length 0 (Nat.zero_add _)
          simp only [List.take_zero, gAdd, List.append_nil] at lp0
          refine lp0 _ ?_
          (try simp (maxSteps := 2000000) (disch := omega) only [go_sem, seval, reduceCtorEq, mC])
          refine i_lk (W_round ?_)
          (try simp (maxSteps := 2000000) (disch := omega) only [go_sem, seval, reduceCtorEq, mC])
          exact ih (i + 1) a g (G ++ gAdd out) (by omega) ok la nx gn
      · have v1 : (a.vote != 0) = true := by simpa using v
        have gl1 : (G ++ [(a.term, a.vote)]).length = G.length + 1 := by simp
        have nx := (hGa.add v).msgs out _ ms3
        have gn : (G ++ [(a.term, a.vote)] ++ gAdd out).length ≤ 200 * (i + 1) + 1 := by simp; omega
        rcases key with ⟨e1, e2, e3⟩ | ⟨e1, e2, e3⟩ | ⟨e1, e2, e3⟩
        all_goals
          repeat' (first | (simp (maxSteps := 2000000) (disch := omega) only [go_sem, seval, reduceCtorEq, h1, h2, h3, h4, hf, c1, c2, c3, e1, e2, e3, v1, actC, xC, mC, actsPV_length, grPV_length, grPV_sing, grPV_sz, grPV_append, List.take_length, List.length_append, maxB]) | (apply x_pure; iterate 5 (first | exact ps35 _ _ | exact q | exact q28 | exact q39 | ((try simp (maxSteps := 2000000) (disch := omega) only [go_sem, seval, reduceCtorEq, h1, h2, h3, h4, hf, c1, c2, c3, e1, e2, e3, v1, actC, xC, mC, actsPV_length, grPV_length, grPV_sing, grPV_sz, grPV_append, List.take_length, List.length_append, maxB]) <;> with_reducible exact rfl))) | ((first | apply x_split_cond | apply x_split_guard); all_goals (intro hb; (try simp only [Bool.not_eq_true', Bool.not_eq_false'] at hb); (simp (maxSteps := 2000000) (disch := omega) only [go_sem, seval, reduceCtorEq, h1, h2, h3, h4, hf, c1, c2, c3, e1, e2, e3, v1, actC, xC, mC, actsPV_length, grPV_length, grPV_sing, grPV_sz, grPV_append, List.take_length, List.length_append, maxB, hb]); (try simp only [decide_eq_true_eq, decide_eq_false_iff_not, beq_iff_eq, beq_eq_false_iff_ne, ne_eq, bne_iff_ne, bne_eq_false_iff_eq, Decidable.not_not] at hb))))
          refine W_round ?_
          (try simp (maxSteps := 2000000) (disch := omega) only [go_sem, seval, reduceCtorEq, mC])
          have lp := l6c a g (.slice b (actsPV acts)) i (G ++ [(a.term, a.vote)]) (by simp; omega) b' out (by omega) ms2
          have lp0 := fun K hx => lp K hx out.length 0 (Nat.zero_add _)
          simp only [List.take_zero, gAdd, List.append_nil, gl1] at lp0
          refine lp0 _ ?_
          (try simp (maxSteps := 2000000) (disch := omega) only [go_sem, seval, reduceCtorEq, mC])
          refine i_lk (W_round ?_)
          (try simp (maxSteps := 2000000) (disch := omega) only [go_sem, seval, reduceCtorEq, mC])
          exact ih (i + 1) a g _ (by omega) ok la nx gn

theorem walkElectionOnce {u : List PV} {v : PV} (h : Fits [.int .i64, .int .i64, .int .i64, .int .i64, .slice [.int .i64, .str], .int .i64, .int .i64, .slice [.int .i64], .slice [.int .i64], .slice [.int .i64]] u)
    (h' : Fit (.slice [.int .i64, .int .i64, .int .i64, .int .i64, .int .i64, .int .i64, .int .i64, .int .i64, .bool, .slice [.int .i64, .str]]) v) : PS tb 6 [.agg u, v] (.bool true) := by
  obtain ⟨m, f, rfl, hr⟩ := fit_member h
  obtain ⟨acts, rfl⟩ := fit_acts h'
  refine PS_of (af := a6) rfl rfl ?_
  unfold a6
  dsimp only [List.map, ofPV, initEnv]
  cases hf : few21 m with
  | false =>
    repeat' (first | (simp (maxSteps := 2000000) (disch := omega) only [go_sem, seval, reduceCtorEq, mC, hf]) | (apply x_pure; iterate 5 (first | exact ps21 m f | exact ps22 | ((try simp (maxSteps := 2000000) (disch := omega) only [go_sem, seval, reduceCtorEq, mC, hf]) <;> with_reducible exact rfl))) | ((first | apply x_split_cond | apply x_split_guard); all_goals (intro hb; (try simp only [Bool.not_eq_true', Bool.not_eq_false'] at hb); (simp (maxSteps := 2000000) (disch := omega) only [go_sem, seval, reduceCtorEq, mC, hf, hb]); (try simp only [decide_eq_true_eq, decide_eq_false_iff_not, beq_iff_eq, beq_eq_false_iff_ne, ne_eq, bne_iff_ne, bne_eq_false_iff_eq, Decidable.not_not] at hb))))
    all_goals rfl
  | true =>
    have hm := few21_MFew hr hf
    by_cases ha : 20 < (acts.length : Int)
    · repeat' (first | (simp (maxSteps := 2000000) (disch := omega) only [go_sem, seval, reduceCtorEq, mC, hf, ha, actsPV_length]) | (apply x_pure; iterate 5 (first | exact ps21 m f | exact ps22 | ((try simp (maxSteps := 2000000) (disch := omega) only [go_sem, seval, reduceCtorEq, mC, hf, ha, actsPV_length]) <;> with_reducible exact rfl))) | ((first | apply x_split_cond | apply x_split_guard); all_goals (intro hb; (try simp only [Bool.not_eq_true', Bool.not_eq_false'] at hb); (simp (maxSteps := 2000000) (disch := omega) only [go_sem, seval, reduceCtorEq, mC, hf, ha, actsPV_length, hb]); (try simp only [decide_eq_true_eq, decide_eq_false_iff_not, beq_iff_eq, beq_eq_false_iff_ne, ne_eq, bne_iff_ne, bne_eq_false_iff_eq, Decidable.not_not] at hb))))
      all_goals rfl
    · cases ho : okM m with
      | false =>
        repeat' (first | (simp (maxSteps := 2000000) (disch := omega) only [go_sem, seval, reduceCtorEq, mC, hf, ha, ho, actsPV_length]) | (apply x_pure; iterate 5 (first | exact ps21 m f | exact ps22 | exact ps28 m f hm.toMIn | ((try simp (maxSteps := 2000000) (disch := omega) only [go_sem, seval, reduceCtorEq, mC, hf, ha, ho, actsPV_length]) <;> with_reducible exact rfl))) | ((first | apply x_split_cond | apply x_split_guard); all_goals (intro hb; (try simp only [Bool.not_eq_true', Bool.not_eq_false'] at hb); (simp (maxSteps := 2000000) (disch := omega) only [go_sem, seval, reduceCtorEq, mC, hf, ha, ho, actsPV_length, hb]); (try simp only [decide_eq_true_eq, decide_eq_false_iff_not, beq_iff_eq, beq_eq_false_iff_ne, ne_eq, bne_iff_ne, bne_eq_false_iff_eq, Decidable.not_not] at hb))))
        all_goals rfl
      | true =>
        have hl := hm.few1
        have fin : ∀ G, One G → G.length ≤ 100000 → W tb (.loop (.ghost .lower a6_l1)) ⟨[(5, .ref 1 G.length 0 G.length), (10, .p (.int .i64 0))], [(1, .row false 2 (grPV G))], 2, [0]⟩ (BK 4 (SK tb (.seq (.region false [⟨some 220, .call false 22 [], none, []⟩, ⟨some 4, .move (.t 220), none, []⟩] [220]) .ret) (Done [.tmp 4] fun v s => pur s.heap dep v = some (.bool true)))) := by
          intro G hG hgl
          refine W_round ?_
          (try simp (maxSteps := 2000000) (disch := omega) only [go_sem, seval, reduceCtorEq])
          refine l6b G hgl hG _ ?_ G.length 0 (Nat.zero_add _)
          intro s hs
          obtain ⟨env, H, nx, mk⟩ := s
          simp only at hs
          subst hs
          repeat' (first | (simp (maxSteps := 2000000) (disch := omega) only [go_sem, seval, reduceCtorEq]) | (apply x_pure; iterate 5 (first | exact ps22 | ((try simp (maxSteps := 2000000) (disch := omega) only [go_sem, seval, reduceCtorEq]) <;> with_reducible exact rfl))) | ((first | apply x_split_cond | apply x_split_guard); all_goals (intro hb; (try simp only [Bool.not_eq_true', Bool.not_eq_false'] at hb); (simp (maxSteps := 2000000) (disch := omega) only [go_sem, seval, reduceCtorEq, hb]); (try simp only [decide_eq_true_eq, decide_eq_false_iff_not, beq_iff_eq, beq_eq_false_iff_ne, ne_eq, bne_iff_ne, bne_eq_false_iff_eq, Decidable.not_not] at hb))))
          all_goals rfl
        by_cases v : m.vote = 0
        · have v1 : (m.vote != 0) = false := by simpa using v
          repeat' (first | (simp (maxSteps := 2000000) (disch := omega) only [go_sem, seval, reduceCtorEq, mC, hf, ha, ho, v1, actsPV_length]) | (apply x_pure; iterate 5 (first | exact ps21 m f | exact ps22 | exact ps28 m f hm.toMIn | ((try simp (maxSteps := 2000000) (disch := omega) only [go_sem, seval, reduceCtorEq, mC, hf, ha, ho, v1, actsPV_length]) <;> with_reducible exact rfl))) | ((first | apply x_split_cond | apply x_split_guard); all_goals (intro hb; (try simp only [Bool.not_eq_true', Bool.not_eq_false'] at hb); (simp (maxSteps := 2000000) (disch := omega) only [go_sem, seval, reduceCtorEq, mC, hf, ha, ho, v1, actsPV_length, hb]); (try simp only [decide_eq_true_eq, decide_eq_false_iff_not, beq_iff_eq, beq_eq_false_iff_ne, ne_eq, bne_iff_ne, bne_eq_false_iff_eq, Decidable.not_not] at hb))))
          refine W_round ?_
          (try simp (maxSteps := 2000000) (disch := omega) only [go_sem, seval, reduceCtorEq, mC])
          refine l6d acts (by omega) false _ ?_ ?_ acts.length 0 m f [] (Nat.zero_add _) ho hl ⟨by simp, by simp, by simp⟩ (by simp)
          · intro G hG hgl
            (try simp (maxSteps := 2000000) (disch := omega) only [go_sem, seval, reduceCtorEq])
            exact fin G hG hgl
          · intro s hs
            (try simp (maxSteps := 2000000) (disch := omega) only [go_sem, seval, reduceCtorEq, hs])
            all_goals simp [pur, dep]
        · have v1 : (m.vote != 0) = true := by simpa using v
          have gk : GOk [(m.term, m.vote)] m := by
            have := (show GOk [] m from ⟨by simp, by simp, by simp⟩).add v
            simpa using this
          repeat' (first | (simp (maxSteps := 2000000) (disch := omega) only [go_sem, seval, reduceCtorEq, mC, hf, ha, ho, v1, actsPV_length, grPV_sing, grPV_sz, grPV_length, maxB]) | (apply x_pure; iterate 5 (first | exact ps21 m f | exact ps22 | exact ps28 m f hm.toMIn | ((try simp (maxSteps := 2000000) (disch := omega) only [go_sem, seval, reduceCtorEq, mC, hf, ha, ho, v1, actsPV_length, grPV_sing, grPV_sz, grPV_length, maxB]) <;> with_reducible exact rfl))) | ((first | apply x_split_cond | apply x_split_guard); all_goals (intro hb; (try simp only [Bool.not_eq_true', Bool.not_eq_false'] at hb); (simp (maxSteps := 2000000) (disch := omega) only [go_sem, seval, reduceCtorEq, mC, hf, ha, ho, v1, actsPV_length, grPV_sing, grPV_sz, grPV_length, maxB, hb]); (try simp only [decide_eq_true_eq, decide_eq_false_iff_not, beq_iff_eq, beq_eq_false_iff_ne, ne_eq, bne_iff_ne, bne_eq_false_iff_eq, Decidable.not_not] at hb))))
          refine W_round ?_
          (try simp (maxSteps := 2000000) (disch := omega) only [go_sem, seval, reduceCtorEq, mC])
          refine l6d acts (by omega) false _ ?_ ?_ acts.length 0 m f [(m.term, m.vote)] (Nat.zero_add _) ho hl gk (by simp)
          · intro G hG hgl
            (try simp (maxSteps := 2000000) (disch := omega) only [go_sem, seval, reduceCtorEq])
            exact fin G hG hgl
          · intro s hs
            (try simp (maxSteps := 2000000) (disch := omega) only [go_sem, seval, reduceCtorEq, hs])
            all_goals simp [pur, dep]

end Go.Dv.Try
