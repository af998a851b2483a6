/-
  Specifications of the functions of this claim, parts 5, 4, 6.
-/
import Derived.Test.YtpjpnooiofegoaaTab
import Derived.Test.YtpjpnooiofegoaaStep
import Derived.Test.YtpjpnooiofegoaaS1
set_option linter.unusedVariables false
set_option linter.unusedSimpArgs false
set_option maxRecDepth 100000
set_option maxHeartbeats 16000000
namespace Go.Dv.Try
open Go Go.Dv

def pOK (m : M) (i : Nat) : Bool := decide (0 ≤ m.mtch.getD i 0) && decide (m.mtch.getD i 0 ≤ m.next.getD i 0) && decide (m.next.getD i 0 ≤ m.log.length)

def okProg (m : M) : Bool := decide ((m.next.length : Int) = m.members) && decide ((m.mtch.length : Int) = m.members) && (List.range m.next.length).all (pOK m) && decide (m.next.getD (m.id - 1).toNat 0 = m.log.length) && decide (m.mtch.getD (m.id - 1).toNat 0 = m.log.length)

theorem pOK_no {m : M} {i : Nat} (h : m.mtch.getD i 0 < 0 ∨ m.next.getD i 0 < m.mtch.getD i 0 ∨ (m.log.length : Int) < m.next.getD i 0) : pOK m i = false := by
  unfold pOK
  generalize m.mtch.getD i 0 = y at h ⊢
  generalize m.next.getD i 0 = z at h ⊢
  simp only [Bool.and_eq_false_iff, decide_eq_false_iff_not]
  omega

theorem pOK_yes {m : M} {i : Nat} (h1 : ¬ m.mtch.getD i 0 < 0) (h2 : ¬ m.next.getD i 0 < m.mtch.getD i 0) (h3 : ¬ (m.log.length : Int) < m.next.getD i 0) : pOK m i = true := by
  unfold pOK
  generalize m.mtch.getD i 0 = y at *
  generalize m.next.getD i 0 = z at *
  simp only [Bool.and_eq_true, decide_eq_true_eq]
  omega

theorem intsPV_getD (l : List Int) (i : Nat) (h : i < l.length) : (intsPV l)[i]? = some (intPV (l.getD i 0)) := by
  rw [intsPV_get l i h, getD_eq l i h]

theorem l77 (m : M) (f : Fl) (hl : m.next.length ≤ 9223372036854775807) (hq : m.mtch.length = m.next.length) (K : Ex → St → Prop)
    (hx : (List.range m.next.length).all (pOK m) = true → K (.exit 0) ⟨[(1, .ptr 0 0), (3, .p (.int .i64 m.log.length))], [(0, .var false ((mC m f).map .p))], 1, [0]⟩)
    (hr : (List.range m.next.length).all (pOK m) = false → ∀ s, aget s.env 2 = some (.p (.bool false)) → K .ret s) :
    ∀ (n i : Nat), i + n = m.next.length → (List.range i).all (pOK m) = true →
    W tb a88_l0 ⟨[(1, .ptr 0 0), (3, .p (.int .i64 m.log.length)), (30, .p (.int .i64 m.next.length)), (31, .p (.int .i64 i))], [(0, .var false ((mC m f).map .p))], 1, [0]⟩ (LK tb (.ghost .lower a88_l0) K) := by
  intro n
  induction n with
  | zero =>
    intro i hi ht
    have h1 : ¬ (i : Int) < m.next.length := by omega
    have he : i = m.next.length := by omega
    refine i_code (by unfold a88_l0; exact rfl) ?_
    repeat' (first | (simp (disch := omega) only [go_sem, seval, reduceCtorEq, h1, intsPV_length, mC]) | with_reducible exact Ev.mk | ((first | apply x_split | apply x_splitg) <;> intro hβ hb <;> (simp (disch := omega) only [go_sem, seval, reduceCtorEq, h1, intsPV_length, mC, hβ]) <;> clear hβ))
    rw [he] at ht
    exact hx ht
  | succ n ih =>
    intro i hi ht
    have h1 : (i : Int) < m.next.length := by omega
    have h2 : i < m.next.length := by omega
    have h3 := intsPV_getD m.next i h2
    have h5 := intsPV_getD m.mtch i (by omega)
    have h4 : (0 : Int) ≤ i := by omega
    refine i_code (by unfold a88_l0; exact rfl) ?_
    repeat' (first | (simp (disch := omega) only [go_sem, seval, reduceCtorEq, h1, h3, h4, h5, intPV, intsPV_length, mC]) | with_reducible exact Ev.mk | ((first | apply x_split | apply x_splitg) <;> intro hβ hb <;> (simp (disch := omega) only [go_sem, seval, reduceCtorEq, h1, h3, h4, h5, intPV, intsPV_length, mC, hβ]) <;> clear hβ))
    all_goals first
      | exact hr (ra_no h2 (pOK_no (by omega))) _ rfl
      | skip
    refine i_lk (W_round ?_)
    (try simp (disch := omega) only [go_sem, seval, reduceCtorEq, mC])
    exact ih (i + 1) (by omega) (ra_step ht (pOK_yes (by assumption) (by assumption) (by assumption)))

theorem ps77 (m : M) (f : Fl) (hl : m.next.length ≤ 9223372036854775807) (h1 : 1 ≤ m.id) (h2 : m.id ≤ m.members) : PS tb 88 [.agg (mC m f)] (.bool (okProg m)) := by
  refine PS_of (af := a88) rfl rfl ?_
  unfold a88
  dsimp only [List.map, ofPV, initEnv]
  repeat' (first | (simp (disch := omega) only [go_sem, seval, reduceCtorEq, mC, intsPV_length, itemsPV_length]) | with_reducible exact Ev.mk | ((first | apply x_split | apply x_splitg) <;> intro hβ hb <;> (simp (disch := omega) only [go_sem, seval, reduceCtorEq, mC, intsPV_length, itemsPV_length, hβ]) <;> clear hβ))
  · simp [okProg, hb, pur, dep]
  · rename_i hb0
    refine W_round ?_
    (try simp (disch := omega) only [go_sem, seval, reduceCtorEq, mC])
    refine l77 m f hl (by omega) _ ?_ ?_ m.next.length 0 (by omega) (by simp)
    · intro ha
      have e0 : (0 : Int) ≤ m.id - 1 := by omega
      have e1 := intsPV_getD m.next (m.id - 1).toNat (by omega)
      have e2 := intsPV_getD m.mtch (m.id - 1).toNat (by omega)
      repeat' (first | (simp (disch := omega) only [go_sem, seval, reduceCtorEq, mC, e0, e1, e2, intPV, intsPV_length]) | with_reducible exact Ev.mk | ((first | apply x_split | apply x_splitg) <;> intro hβ hb <;> (simp (disch := omega) only [go_sem, seval, reduceCtorEq, mC, e0, e1, e2, intPV, intsPV_length, hβ]) <;> clear hβ))
      all_goals simp [okProg, ha, hb, hb0, pur, dep]
      all_goals (first | rfl | (simp_all; done) | (simp_all; rfl))
    · intro ha s hs
      (try simp (disch := omega) only [go_sem, seval, reduceCtorEq, hs])
      simp [okProg, ha, pur, dep]
  · simp [okProg, hb, pur, dep]

def st79 (m : M) (f : Fl) (i : Nat) (own : Bool) : St := ⟨[(1, .ptr 0 0), (3, .p (.bool own)), (4, .p (.int .i64 i))], [(0, .var false ((mC m f).map .p))], 1, [0]⟩

theorem l79 (m : M) (f : Fl) (hl : m.votes.length ≤ 9223372036854775807) (K : Ex → St → Prop)
    (hx : (List.range m.votes.length).all (vOK m.members m.votes) = true → K (.exit 0) ⟨[(1, .ptr 0 0), (3, .p (.bool (m.votes.any (· == m.id))))], [(0, .var false ((mC m f).map .p))], 1, [0]⟩)
    (hr : (List.range m.votes.length).all (vOK m.members m.votes) = false → ∀ s, aget s.env 2 = some (.p (.bool false)) → K .ret s) :
    ∀ (n i : Nat), i + n = m.votes.length → (List.range i).all (vOK m.members m.votes) = true →
    W tb a81_l0 (st79 m f i ((m.votes.take i).any (· == m.id))) (LK tb (.ghost .lower a81_l0) K) := by
  intro n
  induction n with
  | zero =>
    intro i hi ht
    have h1 : ¬ (i : Int) < m.votes.length := by omega
    have he : i = m.votes.length := by omega
    rw [List.take_of_length_le (by omega)]
    unfold st79
    refine i_code (by unfold a81_l0; exact rfl) ?_
    repeat' (first | (simp (disch := omega) only [go_sem, seval, reduceCtorEq, h1, intsPV_length, mC]) | with_reducible exact Ev.mk | ((first | apply x_split | apply x_splitg) <;> intro hβ hb <;> (simp (disch := omega) only [go_sem, seval, reduceCtorEq, h1, intsPV_length, mC, hβ]) <;> clear hβ))
    rw [he] at ht
    exact hx ht
  | succ n ih =>
    intro i hi ht
    have h1 : (i : Int) < m.votes.length := by omega
    have h2 : i < m.votes.length := by omega
    have h3 := intsPV_get m.votes i h2
    have h4 : (0 : Int) ≤ i := by omega
    unfold st79
    refine i_code (by unfold a81_l0; exact rfl) ?_
    have back : ∀ (o : Bool), (m.votes.take (i + 1)).any (· == m.id) = o → vOK m.members m.votes i = true → LK tb (.ghost .lower a81_l0) K .normal ⟨[(1, .ptr 0 0), (3, .p (.bool o)), (4, .p (.int .i64 ((i + 1 : Nat) : Int)))], [(0, .var false ((mC m f).map .p))], 1, [0]⟩ := by
      intro o ho hv
      refine i_lk (W_round ?_)
      (try simp (disch := omega) only [go_sem, seval, reduceCtorEq, mC])
      subst ho
      exact ih (i + 1) (by omega) (ra_step ht hv)
    have own : (m.votes.take (i + 1)).any (· == m.id) = ((m.votes.take i).any (· == m.id) || m.votes[i] == m.id) := any_step m.votes m.id i h2
    by_cases h0 : i = 0
    · have h5 : ¬ (0 : Int) < i := by omega
      repeat' (first | (simp (disch := omega) only [go_sem, seval, reduceCtorEq, h1, h3, h4, h5, intPV, intsPV_length, mC]) | with_reducible exact Ev.mk | ((first | apply x_split | apply x_splitg) <;> intro hβ hb <;> (simp (disch := omega) only [go_sem, seval, reduceCtorEq, h1, h3, h4, h5, intPV, intsPV_length, mC, hβ]) <;> clear hβ))
      all_goals first
        | exact hr (ra_no h2 (vOK_no h2 (by omega))) _ rfl
        | exact back _ (by rw [own]; simp only [hb, Bool.true_or, Bool.false_or]) (vOK_yes h2 (by assumption) (by assumption) (.inl h0))
    · have h5 : (0 : Int) < i := by omega
      have h6 : (0 : Int) ≤ i - 1 := by omega
      have h7 : ((i : Int) - 1).toNat = i - 1 := by omega
      have h8 := intsPV_get m.votes (i - 1) (by omega)
      have h9 : m.votes.getD (i - 1) 0 = m.votes[i - 1] := getD_eq m.votes (i - 1) (by omega)
      repeat' (first | (simp (disch := omega) only [go_sem, seval, reduceCtorEq, h1, h3, h4, h5, h6, h7, h8, intPV, intsPV_length, mC]) | with_reducible exact Ev.mk | ((first | apply x_split | apply x_splitg) <;> intro hβ hb <;> (simp (disch := omega) only [go_sem, seval, reduceCtorEq, h1, h3, h4, h5, h6, h7, h8, intPV, intsPV_length, mC, hβ]) <;> clear hβ))
      all_goals first
        | exact hr (ra_no h2 (vOK_no h2 (by omega))) _ rfl
        | exact back _ (by rw [own]; simp only [hb, Bool.true_or, Bool.false_or]) (vOK_yes h2 (by assumption) (by assumption) (.inr (by rw [h9]; assumption)))

theorem ps79 (m : M) (f : Fl) (hl : m.votes.length ≤ 9223372036854775807) (hm : m.members ≤ 9223372036854775807) : PS tb 81 [.agg (mC m f)] (.bool (okVotes m)) := by
  refine PS_of (af := a81) rfl rfl ?_
  unfold a81
  dsimp only [List.map, ofPV, initEnv]
  (try simp (disch := omega) only [go_sem, seval, reduceCtorEq, mC, intsPV_length])
  refine W_round ?_
  (try simp (disch := omega) only [go_sem, seval, reduceCtorEq])
  refine l79 m f hl _ ?_ ?_ m.votes.length 0 (by omega) (by simp)
  · intro ha
    repeat' (first | exact ps26 _ hm | (simp (disch := omega) only [go_sem, seval, reduceCtorEq, mC, intsPV_length]) | with_reducible exact Ev.mk | apply x_call | ((first | apply x_split | apply x_splitg) <;> intro hβ hb <;> (simp (disch := omega) only [go_sem, seval, reduceCtorEq, mC, intsPV_length, hβ]) <;> clear hβ))
    all_goals simp [okVotes, ha, hb, pur, dep]
  · intro ha s hs
    (try simp (disch := omega) only [go_sem, seval, reduceCtorEq, hs])
    simp [okVotes, ha, pur, dep]

theorem l80 (m : M) (f : Fl) (hl : m.next.length ≤ 9223372036854775807) (hq : m.mtch.length = m.next.length) (hm : (m.next.length : Int) = m.members) (K : Ex → St → Prop)
    (hx : (List.range m.next.length).all (pOK m) = true → K (.exit 0) ⟨[(1, .ptr 0 0), (3, .p (.int .i64 m.log.length))], [(0, .var false ((mC m f).map .p))], 1, [0]⟩)
    (hr : (List.range m.next.length).all (pOK m) = false → ∀ s, aget s.env 2 = some (.p (.bool false)) → K .ret s) :
    ∀ (n i : Nat), i + n = m.next.length → (List.range i).all (pOK m) = true →
    W tb a82_l0 ⟨[(1, .ptr 0 0), (3, .p (.int .i64 m.log.length)), (4, .p (.int .i64 i))], [(0, .var false ((mC m f).map .p))], 1, [0]⟩ (LK tb (.ghost .lower a82_l0) K) := by
  intro n
  induction n with
  | zero =>
    intro i hi ht
    have h1 : ¬ (i : Int) < m.members := by omega
    have he : i = m.next.length := by omega
    refine i_code (by unfold a82_l0; exact rfl) ?_
    repeat' (first | (simp (disch := omega) only [go_sem, seval, reduceCtorEq, h1, intsPV_length, mC]) | with_reducible exact Ev.mk | ((first | apply x_split | apply x_splitg) <;> intro hβ hb <;> (simp (disch := omega) only [go_sem, seval, reduceCtorEq, h1, intsPV_length, mC, hβ]) <;> clear hβ))
    rw [he] at ht
    exact hx ht
  | succ n ih =>
    intro i hi ht
    have h1 : (i : Int) < m.members := by omega
    have h2 : i < m.next.length := by omega
    have h3 := intsPV_getD m.next i h2
    have h5 := intsPV_getD m.mtch i (by omega)
    have h4 : (0 : Int) ≤ i := by omega
    refine i_code (by unfold a82_l0; exact rfl) ?_
    repeat' (first | (simp (disch := omega) only [go_sem, seval, reduceCtorEq, h1, h3, h4, h5, intPV, intsPV_length, mC]) | with_reducible exact Ev.mk | ((first | apply x_split | apply x_splitg) <;> intro hβ hb <;> (simp (disch := omega) only [go_sem, seval, reduceCtorEq, h1, h3, h4, h5, intPV, intsPV_length, mC, hβ]) <;> clear hβ))
    all_goals first
      | exact hr (ra_no h2 (pOK_no (by omega))) _ rfl
      | skip
    refine i_lk (W_round ?_)
    (try simp (disch := omega) only [go_sem, seval, reduceCtorEq, mC])
    exact ih (i + 1) (by omega) (ra_step ht (pOK_yes (by assumption) (by assumption) (by assumption)))

theorem ps80 (m : M) (f : Fl) (hl : m.next.length ≤ 9223372036854775807) (h1 : 1 ≤ m.id) (h2 : m.id ≤ m.members) : PS tb 82 [.agg (mC m f)] (.bool (okProg m)) := by
  refine PS_of (af := a82) rfl rfl ?_
  unfold a82
  dsimp only [List.map, ofPV, initEnv]
  repeat' (first | (simp (disch := omega) only [go_sem, seval, reduceCtorEq, mC, intsPV_length, itemsPV_length]) | with_reducible exact Ev.mk | ((first | apply x_split | apply x_splitg) <;> intro hβ hb <;> (simp (disch := omega) only [go_sem, seval, reduceCtorEq, mC, intsPV_length, itemsPV_length, hβ]) <;> clear hβ))
  · simp [okProg, hb, pur, dep]
  · rename_i hb0
    refine W_round ?_
    (try simp (disch := omega) only [go_sem, seval, reduceCtorEq, mC])
    refine l80 m f hl (by omega) hb0 _ ?_ ?_ m.next.length 0 (by omega) (by simp)
    · intro ha
      have e0 : (0 : Int) ≤ m.id - 1 := by omega
      have e1 := intsPV_getD m.next (m.id - 1).toNat (by omega)
      have e2 := intsPV_getD m.mtch (m.id - 1).toNat (by omega)
      repeat' (first | (simp (disch := omega) only [go_sem, seval, reduceCtorEq, mC, e0, e1, e2, intPV, intsPV_length]) | with_reducible exact Ev.mk | ((first | apply x_split | apply x_splitg) <;> intro hβ hb <;> (simp (disch := omega) only [go_sem, seval, reduceCtorEq, mC, e0, e1, e2, intPV, intsPV_length, hβ]) <;> clear hβ))
      all_goals simp [okProg, ha, hb, hb0, pur, dep]
      all_goals (first | rfl | (simp_all; done) | (simp_all; rfl))
    · intro ha s hs
      (try simp (disch := omega) only [go_sem, seval, reduceCtorEq, hs])
      simp [okProg, ha, pur, dep]
  · simp [okProg, hb, pur, dep]

end Go.Dv.Try
