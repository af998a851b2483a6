/-
  Specifications of the functions of this claim, parts 15.
-/
import Derived.Test.YtjnigloanggmmaaTab
import Derived.Test.YtjnigloanggmmaaStep
import Derived.Test.YtjnigloanggmmaaS1
import Derived.Test.YtjnigloanggmmaaS7
import Derived.Test.YtjnigloanggmmaaS8
set_option linter.unusedVariables false
set_option linter.unusedSimpArgs false
set_option maxRecDepth 100000
set_option maxHeartbeats 16000000
namespace Go.Dv.Try
open Go Go.Dv

/-- The message to the member number k + 1. -/
def beat (m : M) (k : Nat) : X := ⟨3, m.id, (k + 1 : Nat), m.term, m.next.getD k 0, termN m.log (m.next.getD k 0), m.commit, false, m.log.drop (m.next.getD k 0).toNat⟩

def beats (m : M) : Nat → List X
  | 0 => []
  | k + 1 => if ((k + 1 : Nat) : Int) = m.id then beats m k else beats m k ++ [beat m k]

def beatsOf (m : M) : List X := if okM m = true ∧ m.role = 3 then beats m m.members.toNat else []

theorem beats_length (m : M) (k : Nat) : (beats m k).length ≤ k := by
  induction k with
  | zero => simp [beats]
  | succ k ih => simp only [beats]; split <;> (try simp only [List.length_append, List.length_cons, List.length_nil]) <;> omega

theorem prog_at {m : M} (h : okM m = true) (hr : m.role = 3) (i : Nat) (hi : i < m.next.length) : 0 ≤ m.next.getD i 0 ∧ m.next.getD i 0 ≤ m.log.length := by
  simp only [okM, okHead, okMid, okRole, okProg, hr, Bool.and_eq_true, decide_eq_true_eq, if_true, show ¬ (3 : Int) = 1 by decide, show ¬ (3 : Int) = 2 by decide, if_false, List.all_eq_true, List.mem_range] at h
  have h2 := h.2.2.1.1.2 i hi
  simp only [pOK, Bool.and_eq_true, decide_eq_true_eq] at h2
  omega

theorem l50 (m : M) (f : Fl) (hm : MFew m) (ho : okM m = true) (hr : m.role = 3) (K : Ex → St → Prop)
    (hx : ∀ s v, aget s.env 3 = some v → pur s.heap dep v = some (.slice false (msgsPV (beats m m.members.toNat))) → s.env = [(3, v)] → K (.exit 0) s) :
    ∀ (n k : Nat), k + n = m.members.toNat →
    W tb a50_l0 ⟨[(1, .ptr 0 0), (3, .ref 1 (beats m k).length 0 (beats m k).length), (4, .p (.int .i64 (k + 1 : Nat)))], [(1, .row false 9 (msgsPV (beats m k))), (0, .var false ((mC m f).map .p))], 2, [0]⟩ (LK tb (.ghost .lower a50_l0) K) := by
  have := hm.few1; have := hm.few2; have := hm.few3; have := hm.few4
  obtain ⟨f1, f2, f3, f4, f5, f6, f7⟩ := lead_facts ho hr
  intro n
  induction n with
  | zero =>
    intro k hk
    have h1 : ¬ ((k + 1 : Nat) : Int) ≤ m.members := by omega
    refine i_code (by unfold a50_l0; exact rfl) ?_
    repeat' (first | (simp (disch := omega) only [go_sem, seval, reduceCtorEq, h1, mC]) | ((first | apply x_split_cond | apply x_split_guard); all_goals (intro hb; (try simp only [Bool.not_eq_true', Bool.not_eq_false'] at hb); (simp (disch := omega) only [go_sem, seval, reduceCtorEq, h1, mC, hb]); (try simp only [decide_eq_true_eq, decide_eq_false_iff_not, beq_iff_eq, beq_eq_false_iff_ne, ne_eq, bne_iff_ne, bne_eq_false_iff_eq, Decidable.not_not] at hb))))
    have e : k = m.members.toNat := by omega
    subst e
    refine hx _ _ rfl (pur_all rfl (by rw [msgsPV_length])) rfl
  | succ n ih =>
    intro k hk
    have h1 : ((k + 1 : Nat) : Int) ≤ m.members := by omega
    have h2 : k < m.next.length := by omega
    obtain ⟨b1, b2⟩ := prog_at ho hr k h2
    have h3 := intsPV_getD m.next k h2
    have h4 : ((k + 1 : Nat) : Int) - 1 = (k : Nat) := by omega
    have h5 : (0 : Int) ≤ (k : Nat) := by omega
    have bl := beats_length m k
    refine i_code (by unfold a50_l0; exact rfl) ?_
    by_cases h6 : ((k + 1 : Nat) : Int) = m.id
    · have h7 : (((k + 1 : Nat) : Int) == m.id) = true := by simpa using h6
      repeat' (first | (simp (disch := omega) only [go_sem, seval, reduceCtorEq, h1, h7, mC]) | ((first | apply x_split_cond | apply x_split_guard); all_goals (intro hb; (try simp only [Bool.not_eq_true', Bool.not_eq_false'] at hb); (simp (disch := omega) only [go_sem, seval, reduceCtorEq, h1, h7, mC, hb]); (try simp only [decide_eq_true_eq, decide_eq_false_iff_not, beq_iff_eq, beq_eq_false_iff_ne, ne_eq, bne_iff_ne, bne_eq_false_iff_eq, Decidable.not_not] at hb))))
      refine i_lk (W_round ?_)
      (try simp (disch := omega) only [go_sem, seval, reduceCtorEq, mC])
      have := ih (k + 1) (by omega)
      rw [beats, if_pos h6] at this
      exact this
    · have h7 : (((k + 1 : Nat) : Int) == m.id) = false := by simpa using h6
      have h8 : (m.log.drop (m.next.getD k 0).toNat).length ≤ 100000 := by simp; omega
      repeat' (first | (simp (disch := omega) only [go_sem, seval, reduceCtorEq, h1, h7, h3, h4, h5, b1, b2, intPV, mC, itemsPV_sz, itemsPV_length, itemsPV_take, itemsPV_drop, List.take_length, msgsPV_sing, msgsPV_sz, msgsPV_append, msgsPV_length, maxB]) | (apply x_pure; iterate 5 (first | exact ps106 m f _ b1 b2 (by omega) | exact ps97 _ _ h8 | ((try simp (disch := omega) only [go_sem, seval, reduceCtorEq, h1, h7, h3, h4, h5, b1, b2, intPV, mC, itemsPV_sz, itemsPV_length, itemsPV_take, itemsPV_drop, List.take_length, msgsPV_sing, msgsPV_sz, msgsPV_append, msgsPV_length, maxB]) <;> with_reducible exact rfl))) | ((first | apply x_split_cond | apply x_split_guard); all_goals (intro hb; (try simp only [Bool.not_eq_true', Bool.not_eq_false'] at hb); (simp (disch := omega) only [go_sem, seval, reduceCtorEq, h1, h7, h3, h4, h5, b1, b2, intPV, mC, itemsPV_sz, itemsPV_length, itemsPV_take, itemsPV_drop, List.take_length, msgsPV_sing, msgsPV_sz, msgsPV_append, msgsPV_length, maxB, hb]); (try simp only [decide_eq_true_eq, decide_eq_false_iff_not, beq_iff_eq, beq_eq_false_iff_ne, ne_eq, bne_iff_ne, bne_eq_false_iff_eq, Decidable.not_not] at hb))))
      refine i_lk (W_round ?_)
      (try simp (disch := omega) only [go_sem, seval, reduceCtorEq, mC])
      have := ih (k + 1) (by omega)
      rw [beats, if_neg h6] at this
      simp only [List.length_append, List.length_cons, List.length_nil, Nat.zero_add] at this
      exact this

theorem ps50 (m : M) (f : Fl) (hm : MFew m) : ∃ b, PS tb 50 [.agg (mC m f)] (.slice b (msgsPV (beatsOf m))) := by
  by_cases ho : okM m = true
  · by_cases hr : m.role = 3
    · refine ⟨false, PS_of (af := a50) rfl rfl ?_⟩
      have hr2 : (m.role != 3) = false := by simp [hr]
      obtain ⟨f1, f2, f3, f4, f5, f6, f7⟩ := lead_facts ho hr
      have he : beatsOf m = beats m m.members.toNat := if_pos ⟨ho, hr⟩
      unfold a50
      dsimp only [List.map, ofPV, initEnv]
      rw [he]
      repeat' (first | (simp (disch := omega) only [go_sem, seval, reduceCtorEq, mC, ho, hr2]) | (apply x_pure; iterate 5 (first | exact ps28 m f hm.toMIn | ((try simp (disch := omega) only [go_sem, seval, reduceCtorEq, mC, ho, hr2]) <;> with_reducible exact rfl))) | ((first | apply x_split_cond | apply x_split_guard); all_goals (intro hb; (try simp only [Bool.not_eq_true', Bool.not_eq_false'] at hb); (simp (disch := omega) only [go_sem, seval, reduceCtorEq, mC, ho, hr2, hb]); (try simp only [decide_eq_true_eq, decide_eq_false_iff_not, beq_iff_eq, beq_eq_false_iff_ne, ne_eq, bne_iff_ne, bne_eq_false_iff_eq, Decidable.not_not] at hb))))
      refine W_round ?_
      (try simp (disch := omega) only [go_sem, seval, reduceCtorEq, mC])
      refine l50 m f hm ho hr _ ?_ m.members.toNat 0 (by omega)
      intro s v hv hp hs
      obtain ⟨env, H, nx, mk⟩ := s
      simp only at hs hp
      subst hs
      (try simp (disch := omega) only [go_sem, seval, reduceCtorEq, hp])
      all_goals exact hp
    · refine ⟨true, PS_of (af := a50) rfl rfl ?_⟩
      have hr2 : (m.role != 3) = true := by simp [hr]
      have he : beatsOf m = [] := if_neg fun h => hr h.2
      unfold a50
      dsimp only [List.map, ofPV, initEnv]
      rw [he]
      repeat' (first | (simp (disch := omega) only [go_sem, seval, reduceCtorEq, mC, ho, hr2]) | (apply x_pure; iterate 5 (first | exact ps28 m f hm.toMIn | ((try simp (disch := omega) only [go_sem, seval, reduceCtorEq, mC, ho, hr2]) <;> with_reducible exact rfl))) | ((first | apply x_split_cond | apply x_split_guard); all_goals (intro hb; (try simp only [Bool.not_eq_true', Bool.not_eq_false'] at hb); (simp (disch := omega) only [go_sem, seval, reduceCtorEq, mC, ho, hr2, hb]); (try simp only [decide_eq_true_eq, decide_eq_false_iff_not, beq_iff_eq, beq_eq_false_iff_ne, ne_eq, bne_iff_ne, bne_eq_false_iff_eq, Decidable.not_not] at hb))))
      all_goals rfl
  · refine ⟨true, PS_of (af := a50) rfl rfl ?_⟩
    have he : beatsOf m = [] := if_neg fun h => ho h.1
    have ho2 : okM m = false := by simpa using ho
    unfold a50
    dsimp only [List.map, ofPV, initEnv]
    rw [he]
    repeat' (first | (simp (disch := omega) only [go_sem, seval, reduceCtorEq, mC, ho2]) | (apply x_pure; iterate 5 (first | exact ps28 m f hm.toMIn | ((try simp (disch := omega) only [go_sem, seval, reduceCtorEq, mC, ho2]) <;> with_reducible exact rfl))) | ((first | apply x_split_cond | apply x_split_guard); all_goals (intro hb; (try simp only [Bool.not_eq_true', Bool.not_eq_false'] at hb); (simp (disch := omega) only [go_sem, seval, reduceCtorEq, mC, ho2, hb]); (try simp only [decide_eq_true_eq, decide_eq_false_iff_not, beq_iff_eq, beq_eq_false_iff_ne, ne_eq, bne_iff_ne, bne_eq_false_iff_eq, Decidable.not_not] at hb))))
    all_goals rfl

end Go.Dv.Try
