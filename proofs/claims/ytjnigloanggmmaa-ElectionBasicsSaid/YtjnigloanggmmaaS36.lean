/-
  Specifications, part 36: small members and messages of law 41, new members. Printed by wip/mkS36.py.
-/
import Derived.Test.YtjnigloanggmmaaS13
import Derived.Test.YtjnigloanggmmaaS24
import Derived.Test.YtjnigloanggmmaaS25
set_option linter.unusedVariables false
set_option linter.unusedSimpArgs false
set_option maxRecDepth 100000
set_option maxHeartbeats 8000000
namespace Go.Dv.Try
open Go Go.Dv

def short35 (x : Int × ByteArray) : Bool := decide (x.2.size ≤ 100)

def few35 (l : List (Int × ByteArray)) : Bool := decide (l.length ≤ 20) && l.all short35

theorem l35 (l : List (Int × ByteArray)) (b : Bool) (hl : l.length ≤ 20) (K : Ex → St → Prop) (hx : l.all short35 = true → K (.exit 0) ⟨[], [], 0, [0]⟩)
    (hr : l.all short35 = false → ∀ s, aget s.env 2 = some (.p (.bool false)) → K .ret s) : ∀ (m i : Nat), i + m = l.length → (l.take i).all short35 = true →
    W tb a35_l0 ⟨[(0, .p (.slice b (itemsPV l))), (3, .p (.int .i64 i))], [], 0, [0]⟩ (LK tb (.ghost .lower a35_l0) K) := by
  intro m
  induction m with
  | zero =>
    intro i hi ht
    have h1 : ¬ (i : Int) < l.length := by omega
    rw [List.take_of_length_le (by omega)] at ht
    refine i_code (by unfold a35_l0; exact rfl) ?_
    repeat' (first | (simp (disch := omega) only [go_sem, Nat.reduceBEq, Nat.reduceBNe, Nat.reduceLT, ↓reduceIte, Nat.reduceAdd, Nat.reduceSub, Nat.reduceMul, Nat.reduceLeDiff, Nat.reduceEqDiff, reduceCtorEq, Int.reduceEq, Int.reduceLT, Int.reduceLE, Int.reduceNeg, Int.reduceToNat, Int.reduceAdd, Int.reduceSub, Int.reduceBEq, Int.reduceBNe, h1, itemsPV_length]) | ((first | apply x_split_cond | apply x_split_guard); all_goals (intro hb; (try simp only [Bool.not_eq_true', Bool.not_eq_false'] at hb); (simp (disch := omega) only [go_sem, Nat.reduceBEq, Nat.reduceBNe, Nat.reduceLT, ↓reduceIte, Nat.reduceAdd, Nat.reduceSub, Nat.reduceMul, Nat.reduceLeDiff, Nat.reduceEqDiff, reduceCtorEq, Int.reduceEq, Int.reduceLT, Int.reduceLE, Int.reduceNeg, Int.reduceToNat, Int.reduceAdd, Int.reduceSub, Int.reduceBEq, Int.reduceBNe, h1, itemsPV_length, hb]); (try simp only [decide_eq_true_eq, decide_eq_false_iff_not, beq_iff_eq, beq_eq_false_iff_ne, ne_eq, bne_iff_ne, bne_eq_false_iff_eq, Decidable.not_not] at hb))))
    exact hx ht
  | succ m ih =>
    intro i hi ht
    have h1 : (i : Int) < l.length := by omega
    have h2 : i < l.length := by omega
    have h3 := itemsPV_get l i h2
    have h4 : (0 : Int) ≤ i := by omega
    refine i_code (by unfold a35_l0; exact rfl) ?_
    repeat' (first | (simp (disch := omega) only [go_sem, Nat.reduceBEq, Nat.reduceBNe, Nat.reduceLT, ↓reduceIte, Nat.reduceAdd, Nat.reduceSub, Nat.reduceMul, Nat.reduceLeDiff, Nat.reduceEqDiff, reduceCtorEq, Int.reduceEq, Int.reduceLT, Int.reduceLE, Int.reduceNeg, Int.reduceToNat, Int.reduceAdd, Int.reduceSub, Int.reduceBEq, Int.reduceBNe, h1, h3, h4, itemPV, itemsPV_length]) | ((first | apply x_split_cond | apply x_split_guard); all_goals (intro hb; (try simp only [Bool.not_eq_true', Bool.not_eq_false'] at hb); (simp (disch := omega) only [go_sem, Nat.reduceBEq, Nat.reduceBNe, Nat.reduceLT, ↓reduceIte, Nat.reduceAdd, Nat.reduceSub, Nat.reduceMul, Nat.reduceLeDiff, Nat.reduceEqDiff, reduceCtorEq, Int.reduceEq, Int.reduceLT, Int.reduceLE, Int.reduceNeg, Int.reduceToNat, Int.reduceAdd, Int.reduceSub, Int.reduceBEq, Int.reduceBNe, h1, h3, h4, itemPV, itemsPV_length, hb]); (try simp only [decide_eq_true_eq, decide_eq_false_iff_not, beq_iff_eq, beq_eq_false_iff_ne, ne_eq, bne_iff_ne, bne_eq_false_iff_eq, Decidable.not_not] at hb))))
    · refine hr ?_ _ rfl
      have : short35 l[i] = false := by simp only [short35, decide_eq_false_iff_not]; omega
      rw [List.all_eq_false]
      exact ⟨l[i], List.getElem_mem h2, by simp [this]⟩
    · refine i_lk (W_round ?_)
      (try simp (disch := omega) only [go_sem, Nat.reduceBEq, Nat.reduceBNe, Nat.reduceLT, ↓reduceIte, Nat.reduceAdd, Nat.reduceSub, Nat.reduceMul, Nat.reduceLeDiff, Nat.reduceEqDiff, reduceCtorEq, Int.reduceEq, Int.reduceLT, Int.reduceLE, Int.reduceNeg, Int.reduceToNat, Int.reduceAdd, Int.reduceSub, Int.reduceBEq, Int.reduceBNe])
      refine ih (i + 1) (by omega) ?_
      rw [List.take_add_one, List.all_append, ht, List.getElem?_eq_getElem h2]
      simp only [Option.toList_some, List.all_cons, List.all_nil, Bool.and_true, Bool.true_and, short35, decide_eq_true_eq]
      omega

theorem ps35 (l : List (Int × ByteArray)) (b : Bool) : PS tb 35 [.slice b (itemsPV l)] (.bool (few35 l)) := by
  refine PS_of (af := a35) rfl rfl ?_
  unfold a35
  dsimp only [List.map, ofPV, initEnv]
  repeat' (first | (simp (disch := omega) only [go_sem, Nat.reduceBEq, Nat.reduceBNe, Nat.reduceLT, ↓reduceIte, Nat.reduceAdd, Nat.reduceSub, Nat.reduceMul, Nat.reduceLeDiff, Nat.reduceEqDiff, reduceCtorEq, Int.reduceEq, Int.reduceLT, Int.reduceLE, Int.reduceNeg, Int.reduceToNat, Int.reduceAdd, Int.reduceSub, Int.reduceBEq, Int.reduceBNe, itemsPV_length]) | ((first | apply x_split_cond | apply x_split_guard); all_goals (intro hb; (try simp only [Bool.not_eq_true', Bool.not_eq_false'] at hb); (simp (disch := omega) only [go_sem, Nat.reduceBEq, Nat.reduceBNe, Nat.reduceLT, ↓reduceIte, Nat.reduceAdd, Nat.reduceSub, Nat.reduceMul, Nat.reduceLeDiff, Nat.reduceEqDiff, reduceCtorEq, Int.reduceEq, Int.reduceLT, Int.reduceLE, Int.reduceNeg, Int.reduceToNat, Int.reduceAdd, Int.reduceSub, Int.reduceBEq, Int.reduceBNe, itemsPV_length, hb]); (try simp only [decide_eq_true_eq, decide_eq_false_iff_not, beq_iff_eq, beq_eq_false_iff_ne, ne_eq, bne_iff_ne, bne_eq_false_iff_eq, Decidable.not_not] at hb))))
  · have : ¬ l.length ≤ 20 := by omega
    simp [few35, this, pur, dep]
  · refine W_round ?_
    have hl : l.length ≤ 20 := by omega
    (try simp (disch := omega) only [go_sem, Nat.reduceBEq, Nat.reduceBNe, Nat.reduceLT, ↓reduceIte, Nat.reduceAdd, Nat.reduceSub, Nat.reduceMul, Nat.reduceLeDiff, Nat.reduceEqDiff, reduceCtorEq, Int.reduceEq, Int.reduceLT, Int.reduceLE, Int.reduceNeg, Int.reduceToNat, Int.reduceAdd, Int.reduceSub, Int.reduceBEq, Int.reduceBNe])
    refine l35 l b hl _ ?_ ?_ l.length 0 (by omega) (by simp)
    · intro ha
      (try simp (disch := omega) only [go_sem, Nat.reduceBEq, Nat.reduceBNe, Nat.reduceLT, ↓reduceIte, Nat.reduceAdd, Nat.reduceSub, Nat.reduceMul, Nat.reduceLeDiff, Nat.reduceEqDiff, reduceCtorEq, Int.reduceEq, Int.reduceLT, Int.reduceLE, Int.reduceNeg, Int.reduceToNat, Int.reduceAdd, Int.reduceSub, Int.reduceBEq, Int.reduceBNe])
      simp [few35, hl, ha, pur, dep]
    · intro ha s hs
      (try simp (disch := omega) only [go_sem, Nat.reduceBEq, Nat.reduceBNe, Nat.reduceLT, ↓reduceIte, Nat.reduceAdd, Nat.reduceSub, Nat.reduceMul, Nat.reduceLeDiff, Nat.reduceEqDiff, reduceCtorEq, Int.reduceEq, Int.reduceLT, Int.reduceLE, Int.reduceNeg, Int.reduceToNat, Int.reduceAdd, Int.reduceSub, Int.reduceBEq, Int.reduceBNe, hs])
      simp [few35, hl, ha, pur, dep]

def few21 (m : M) : Bool := few35 m.log && decide ((m.votes.length : Int) ≤ 20) && decide ((m.next.length : Int) ≤ 20) && decide ((m.mtch.length : Int) ≤ 20)

theorem ps21 (m : M) (f : Fl) : PS tb 21 [.agg (mC m f)] (.bool (few21 m)) := by
  refine PS_of (af := a21) rfl rfl ?_
  unfold a21
  dsimp only [List.map, ofPV, initEnv]
  repeat' (first | (simp (disch := omega) only [go_sem, Nat.reduceBEq, Nat.reduceBNe, Nat.reduceLT, ↓reduceIte, Nat.reduceAdd, Nat.reduceSub, Nat.reduceMul, Nat.reduceLeDiff, Nat.reduceEqDiff, reduceCtorEq, Int.reduceEq, Int.reduceLT, Int.reduceLE, Int.reduceNeg, Int.reduceToNat, Int.reduceAdd, Int.reduceSub, Int.reduceBEq, Int.reduceBNe, mC, itemsPV_length, intsPV_length]) | (apply x_pure; iterate 5 (first | exact ps35 _ _ | ((try simp (disch := omega) only [go_sem, Nat.reduceBEq, Nat.reduceBNe, Nat.reduceLT, ↓reduceIte, Nat.reduceAdd, Nat.reduceSub, Nat.reduceMul, Nat.reduceLeDiff, Nat.reduceEqDiff, reduceCtorEq, Int.reduceEq, Int.reduceLT, Int.reduceLE, Int.reduceNeg, Int.reduceToNat, Int.reduceAdd, Int.reduceSub, Int.reduceBEq, Int.reduceBNe, mC, itemsPV_length, intsPV_length]) <;> with_reducible exact rfl))) | ((first | apply x_split_cond | apply x_split_guard); all_goals (intro hb; (try simp only [Bool.not_eq_true', Bool.not_eq_false'] at hb); (simp (disch := omega) only [go_sem, Nat.reduceBEq, Nat.reduceBNe, Nat.reduceLT, ↓reduceIte, Nat.reduceAdd, Nat.reduceSub, Nat.reduceMul, Nat.reduceLeDiff, Nat.reduceEqDiff, reduceCtorEq, Int.reduceEq, Int.reduceLT, Int.reduceLE, Int.reduceNeg, Int.reduceToNat, Int.reduceAdd, Int.reduceSub, Int.reduceBEq, Int.reduceBNe, mC, itemsPV_length, intsPV_length, hb]); (try simp only [decide_eq_true_eq, decide_eq_false_iff_not, beq_iff_eq, beq_eq_false_iff_ne, ne_eq, bne_iff_ne, bne_eq_false_iff_eq, Decidable.not_not] at hb))))
  all_goals (simp only [pur, dep, Option.some.injEq, PV.bool.injEq, PV.int.injEq, true_and] <;> grind [few21])

theorem lives_run : ((cfs tb.A tb.X 14).pure 22 []) = some (.bool true) := by kernel_rfl

theorem ps22 : PS tb 22 [] (.bool true) := ⟨14, lives_run⟩

theorem few21_MFew {m : M} (hm : MRan m) (h : few21 m = true) : MFew m := by
  simp only [few21, few35, Bool.and_eq_true, decide_eq_true_eq] at h
  exact ⟨⟨hm.id1, hm.id2, hm.me1, hm.me2, by omega, by omega, by omega, by omega⟩, by omega, by omega, by omega, by omega⟩

def badNew (id mem : Int) : Prop := mem < 1 ∨ 7 < mem ∨ id < 1 ∨ mem < id

instance (id mem : Int) : Decidable (badNew id mem) := by unfold badNew; infer_instance

def newM (id mem : Int) : M := if badNew id mem then zeroM else ⟨id, mem, 0, 0, [], 1, 0, [], [], []⟩

def newE (id mem : Int) : Int := if badNew id mem then 1 else 0

theorem ps23 (id mem : Int) : PS tb 23 [.int .i64 id, .int .i64 mem] (.tuple [.agg (mC (newM id mem) ⟨true, true, true, true⟩), .int .i64 (newE id mem)]) := by
  refine PS_of (af := a23) rfl rfl ?_
  by_cases h : badNew id mem
  · rw [show newM id mem = zeroM from if_pos h, show newE id mem = 1 from if_pos h]
    unfold badNew at h
    unfold a23
    dsimp only [List.map, ofPV, initEnv]
    repeat' (first | (simp (disch := omega) only [go_sem, Nat.reduceBEq, Nat.reduceBNe, Nat.reduceLT, ↓reduceIte, Nat.reduceAdd, Nat.reduceSub, Nat.reduceMul, Nat.reduceLeDiff, Nat.reduceEqDiff, reduceCtorEq, Int.reduceEq, Int.reduceLT, Int.reduceLE, Int.reduceNeg, Int.reduceToNat, Int.reduceAdd, Int.reduceSub, Int.reduceBEq, Int.reduceBNe]) | ((first | apply x_split_cond | apply x_split_guard); all_goals (intro hb; (try simp only [Bool.not_eq_true', Bool.not_eq_false'] at hb); (simp (disch := omega) only [go_sem, Nat.reduceBEq, Nat.reduceBNe, Nat.reduceLT, ↓reduceIte, Nat.reduceAdd, Nat.reduceSub, Nat.reduceMul, Nat.reduceLeDiff, Nat.reduceEqDiff, reduceCtorEq, Int.reduceEq, Int.reduceLT, Int.reduceLE, Int.reduceNeg, Int.reduceToNat, Int.reduceAdd, Int.reduceSub, Int.reduceBEq, Int.reduceBNe, hb]); (try simp only [decide_eq_true_eq, decide_eq_false_iff_not, beq_iff_eq, beq_eq_false_iff_ne, ne_eq, bne_iff_ne, bne_eq_false_iff_eq, Decidable.not_not] at hb))))
    all_goals first | rfl | (exfalso; omega)
  · rw [show newM id mem = ⟨id, mem, 0, 0, [], 1, 0, [], [], []⟩ from if_neg h, show newE id mem = 0 from if_neg h]
    unfold badNew at h
    unfold a23
    dsimp only [List.map, ofPV, initEnv]
    repeat' (first | (simp (disch := omega) only [go_sem, Nat.reduceBEq, Nat.reduceBNe, Nat.reduceLT, ↓reduceIte, Nat.reduceAdd, Nat.reduceSub, Nat.reduceMul, Nat.reduceLeDiff, Nat.reduceEqDiff, reduceCtorEq, Int.reduceEq, Int.reduceLT, Int.reduceLE, Int.reduceNeg, Int.reduceToNat, Int.reduceAdd, Int.reduceSub, Int.reduceBEq, Int.reduceBNe]) | ((first | apply x_split_cond | apply x_split_guard); all_goals (intro hb; (try simp only [Bool.not_eq_true', Bool.not_eq_false'] at hb); (simp (disch := omega) only [go_sem, Nat.reduceBEq, Nat.reduceBNe, Nat.reduceLT, ↓reduceIte, Nat.reduceAdd, Nat.reduceSub, Nat.reduceMul, Nat.reduceLeDiff, Nat.reduceEqDiff, reduceCtorEq, Int.reduceEq, Int.reduceLT, Int.reduceLE, Int.reduceNeg, Int.reduceToNat, Int.reduceAdd, Int.reduceSub, Int.reduceBEq, Int.reduceBNe, hb]); (try simp only [decide_eq_true_eq, decide_eq_false_iff_not, beq_iff_eq, beq_eq_false_iff_ne, ne_eq, bne_iff_ne, bne_eq_false_iff_eq, Decidable.not_not] at hb))))
    all_goals first | rfl | (exfalso; omega)

theorem ps24 (id mem : Int) : PS tb 24 [.int .i64 id, .int .i64 mem] (.tuple [.agg (mC (newM id mem) ⟨true, true, true, true⟩), .int .i64 (newE id mem)]) := by
  refine PS_of (af := a24) rfl rfl ?_
  by_cases h : badNew id mem
  · rw [show newM id mem = zeroM from if_pos h, show newE id mem = 1 from if_pos h]
    unfold badNew at h
    unfold a24
    dsimp only [List.map, ofPV, initEnv]
    repeat' (first | (simp (disch := omega) only [go_sem, Nat.reduceBEq, Nat.reduceBNe, Nat.reduceLT, ↓reduceIte, Nat.reduceAdd, Nat.reduceSub, Nat.reduceMul, Nat.reduceLeDiff, Nat.reduceEqDiff, reduceCtorEq, Int.reduceEq, Int.reduceLT, Int.reduceLE, Int.reduceNeg, Int.reduceToNat, Int.reduceAdd, Int.reduceSub, Int.reduceBEq, Int.reduceBNe]) | ((first | apply x_split_cond | apply x_split_guard); all_goals (intro hb; (try simp only [Bool.not_eq_true', Bool.not_eq_false'] at hb); (simp (disch := omega) only [go_sem, Nat.reduceBEq, Nat.reduceBNe, Nat.reduceLT, ↓reduceIte, Nat.reduceAdd, Nat.reduceSub, Nat.reduceMul, Nat.reduceLeDiff, Nat.reduceEqDiff, reduceCtorEq, Int.reduceEq, Int.reduceLT, Int.reduceLE, Int.reduceNeg, Int.reduceToNat, Int.reduceAdd, Int.reduceSub, Int.reduceBEq, Int.reduceBNe, hb]); (try simp only [decide_eq_true_eq, decide_eq_false_iff_not, beq_iff_eq, beq_eq_false_iff_ne, ne_eq, bne_iff_ne, bne_eq_false_iff_eq, Decidable.not_not] at hb))))
    all_goals first | rfl | (exfalso; omega)
  · rw [show newM id mem = ⟨id, mem, 0, 0, [], 1, 0, [], [], []⟩ from if_neg h, show newE id mem = 0 from if_neg h]
    unfold badNew at h
    unfold a24
    dsimp only [List.map, ofPV, initEnv]
    repeat' (first | (simp (disch := omega) only [go_sem, Nat.reduceBEq, Nat.reduceBNe, Nat.reduceLT, ↓reduceIte, Nat.reduceAdd, Nat.reduceSub, Nat.reduceMul, Nat.reduceLeDiff, Nat.reduceEqDiff, reduceCtorEq, Int.reduceEq, Int.reduceLT, Int.reduceLE, Int.reduceNeg, Int.reduceToNat, Int.reduceAdd, Int.reduceSub, Int.reduceBEq, Int.reduceBNe]) | ((first | apply x_split_cond | apply x_split_guard); all_goals (intro hb; (try simp only [Bool.not_eq_true', Bool.not_eq_false'] at hb); (simp (disch := omega) only [go_sem, Nat.reduceBEq, Nat.reduceBNe, Nat.reduceLT, ↓reduceIte, Nat.reduceAdd, Nat.reduceSub, Nat.reduceMul, Nat.reduceLeDiff, Nat.reduceEqDiff, reduceCtorEq, Int.reduceEq, Int.reduceLT, Int.reduceLE, Int.reduceNeg, Int.reduceToNat, Int.reduceAdd, Int.reduceSub, Int.reduceBEq, Int.reduceBNe, hb]); (try simp only [decide_eq_true_eq, decide_eq_false_iff_not, beq_iff_eq, beq_eq_false_iff_ne, ne_eq, bne_iff_ne, bne_eq_false_iff_eq, Decidable.not_not] at hb))))
    all_goals first | rfl | (exfalso; omega)

theorem newM_MIn (id mem : Int) (h1 : -9223372036854775808 ≤ id) (h2 : id ≤ 9223372036854775807) (h3 : -9223372036854775808 ≤ mem) (h4 : mem ≤ 9223372036854775807) : MIn (newM id mem) := by
  unfold newM
  split
  · exact ⟨by decide, by decide, by decide, by decide, by decide, by decide, by decide, by decide⟩
  · exact ⟨h1, h2, h3, h4, by simp, by simp, by simp, by simp⟩

theorem walkElectionBasics {u : List PV} {a b : PV} (h : Fits [.int .i64, .int .i64, .int .i64, .int .i64, .slice [.int .i64, .str], .int .i64, .int .i64, .slice [.int .i64], .slice [.int .i64], .slice [.int .i64]] u) (ha : Fit (.int .i64) a) (hb : Fit (.int .i64) b) :
    PS tb 3 [.agg u, a, b] (.bool true) := by
  obtain ⟨m, f, rfl, hr⟩ := fit_member h
  obtain ⟨a, rfl, a1, a2⟩ := fit_int ha
  obtain ⟨b, rfl, b1, b2⟩ := fit_int hb
  refine PS_of (af := a3) rfl rfl ?_
  unfold a3
  dsimp only [List.map, ofPV, initEnv]
  cases hf : few21 m with
  | false =>
    repeat' (first | (simp (disch := omega) only [go_sem, Nat.reduceBEq, Nat.reduceBNe, Nat.reduceLT, ↓reduceIte, Nat.reduceAdd, Nat.reduceSub, Nat.reduceMul, Nat.reduceLeDiff, Nat.reduceEqDiff, reduceCtorEq, Int.reduceEq, Int.reduceLT, Int.reduceLE, Int.reduceNeg, Int.reduceToNat, Int.reduceAdd, Int.reduceSub, Int.reduceBEq, Int.reduceBNe, mC, hf]) | (apply x_pure; iterate 5 (first | exact ps21 m f | exact ps22 | ((try simp (disch := omega) only [go_sem, Nat.reduceBEq, Nat.reduceBNe, Nat.reduceLT, ↓reduceIte, Nat.reduceAdd, Nat.reduceSub, Nat.reduceMul, Nat.reduceLeDiff, Nat.reduceEqDiff, reduceCtorEq, Int.reduceEq, Int.reduceLT, Int.reduceLE, Int.reduceNeg, Int.reduceToNat, Int.reduceAdd, Int.reduceSub, Int.reduceBEq, Int.reduceBNe, mC, hf]) <;> with_reducible exact rfl))) | ((first | apply x_split_cond | apply x_split_guard); all_goals (intro hb; (try simp only [Bool.not_eq_true', Bool.not_eq_false'] at hb); (simp (disch := omega) only [go_sem, Nat.reduceBEq, Nat.reduceBNe, Nat.reduceLT, ↓reduceIte, Nat.reduceAdd, Nat.reduceSub, Nat.reduceMul, Nat.reduceLeDiff, Nat.reduceEqDiff, reduceCtorEq, Int.reduceEq, Int.reduceLT, Int.reduceLE, Int.reduceNeg, Int.reduceToNat, Int.reduceAdd, Int.reduceSub, Int.reduceBEq, Int.reduceBNe, mC, hf, hb]); (try simp only [decide_eq_true_eq, decide_eq_false_iff_not, beq_iff_eq, beq_eq_false_iff_ne, ne_eq, bne_iff_ne, bne_eq_false_iff_eq, Decidable.not_not] at hb))))
    all_goals rfl
  | true =>
    have hm := few21_MFew hr hf
    have hl : m.log.length ≤ 100000 := by have := hm.few1; omega
    repeat' (first | (simp (disch := omega) only [go_sem, Nat.reduceBEq, Nat.reduceBNe, Nat.reduceLT, ↓reduceIte, Nat.reduceAdd, Nat.reduceSub, Nat.reduceMul, Nat.reduceLeDiff, Nat.reduceEqDiff, reduceCtorEq, Int.reduceEq, Int.reduceLT, Int.reduceLE, Int.reduceNeg, Int.reduceToNat, Int.reduceAdd, Int.reduceSub, Int.reduceBEq, Int.reduceBNe, mC, hf, beq_self_eq_true]) | (apply x_pure; iterate 5 (first | exact ps21 m f | exact ps22 | exact ps23 a b | exact ps24 a b | exact ps25 a a2 | exact ps26 a a2 | exact ps27 (newM a b) ⟨true, true, true, true⟩ ⟨true, true, true, true⟩ (newM_MIn a b a1 a2 b1 b2) | exact ps28 m f hm.toMIn | exact ps29 m f hm.toMIn | exact ps30 m f a b hl | exact ps31 m f a b hl | ((try simp (disch := omega) only [go_sem, Nat.reduceBEq, Nat.reduceBNe, Nat.reduceLT, ↓reduceIte, Nat.reduceAdd, Nat.reduceSub, Nat.reduceMul, Nat.reduceLeDiff, Nat.reduceEqDiff, reduceCtorEq, Int.reduceEq, Int.reduceLT, Int.reduceLE, Int.reduceNeg, Int.reduceToNat, Int.reduceAdd, Int.reduceSub, Int.reduceBEq, Int.reduceBNe, mC, hf, beq_self_eq_true]) <;> with_reducible exact rfl))) | ((first | apply x_split_cond | apply x_split_guard); all_goals (intro hb; (try simp only [Bool.not_eq_true', Bool.not_eq_false'] at hb); (simp (disch := omega) only [go_sem, Nat.reduceBEq, Nat.reduceBNe, Nat.reduceLT, ↓reduceIte, Nat.reduceAdd, Nat.reduceSub, Nat.reduceMul, Nat.reduceLeDiff, Nat.reduceEqDiff, reduceCtorEq, Int.reduceEq, Int.reduceLT, Int.reduceLE, Int.reduceNeg, Int.reduceToNat, Int.reduceAdd, Int.reduceSub, Int.reduceBEq, Int.reduceBNe, mC, hf, beq_self_eq_true, hb]); (try simp only [decide_eq_true_eq, decide_eq_false_iff_not, beq_iff_eq, beq_eq_false_iff_ne, ne_eq, bne_iff_ne, bne_eq_false_iff_eq, Decidable.not_not] at hb))))
    all_goals rfl

end Go.Dv.Try
