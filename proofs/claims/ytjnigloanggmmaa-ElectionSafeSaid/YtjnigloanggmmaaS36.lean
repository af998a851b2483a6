/-
  Specifications of the functions of this claim, parts 36.
-/
import Derived.Test.YtjnigloanggmmaaTab
import Derived.Test.YtjnigloanggmmaaStep
import Derived.Test.YtjnigloanggmmaaS1
import Derived.Test.YtjnigloanggmmaaS8
set_option linter.unusedVariables false
set_option linter.unusedSimpArgs false
set_option maxRecDepth 100000
set_option maxHeartbeats 16000000
namespace Go.Dv.Try
open Go Go.Dv

def short35 (x : Int × ByteArray) : Bool := decide (x.2.size ≤ 100)

def few35 (l : List (Int × ByteArray)) : Bool := decide (l.length ≤ 20) && l.all short35

theorem l35 (l : List (Int × ByteArray)) (b : Bool) (hl : l.length ≤ 20) (K : Ex → St → Prop) (hx : l.all short35 = true → K (.exit 0) ⟨[], [], 0, [0]⟩)
    (hr : l.all short35 = false → ∀ s, aget s.env 2 = some (.p (.bool false)) → K .ret s) : ∀ (m i : Nat), i + m = l.length → (l.take i).all short35 = true →
    W tb a35_l0 ⟨[(0, .p (.slice b (itemsPV l))), (3, .p (.int .i64 i))], [], 0, [0]⟩ (LK tb (.ghost .lower a35_l0) K) := by
  intro m
  induction m with
  | zero =>
    intro i hi ht
    have h1 : ¬ (i : Int) < l.length := by omega
    rw [List.take_of_length_le (by omega)] at ht
    refine i_code (by unfold a35_l0; exact rfl) ?_
    repeat' (first | (simp (disch := omega) only [go_sem, seval, reduceCtorEq, h1, itemsPV_length]) | ((first | apply x_split_cond | apply x_split_guard); all_goals (intro hb; (try simp only [Bool.not_eq_true', Bool.not_eq_false'] at hb); (simp (disch := omega) only [go_sem, seval, reduceCtorEq, h1, itemsPV_length, hb]); (try simp only [decide_eq_true_eq, decide_eq_false_iff_not, beq_iff_eq, beq_eq_false_iff_ne, ne_eq, bne_iff_ne, bne_eq_false_iff_eq, Decidable.not_not] at hb))))
    exact hx ht
  | succ m ih =>
    intro i hi ht
    have h1 : (i : Int) < l.length := by omega
    have h2 : i < l.length := by omega
    have h3 := itemsPV_get l i h2
    have h4 : (0 : Int) ≤ i := by omega
    refine i_code (by unfold a35_l0; exact rfl) ?_
    repeat' (first | (simp (disch := omega) only [go_sem, seval, reduceCtorEq, h1, h3, h4, itemPV, itemsPV_length]) | ((first | apply x_split_cond | apply x_split_guard); all_goals (intro hb; (try simp only [Bool.not_eq_true', Bool.not_eq_false'] at hb); (simp (disch := omega) only [go_sem, seval, reduceCtorEq, h1, h3, h4, itemPV, itemsPV_length, hb]); (try simp only [decide_eq_true_eq, decide_eq_false_iff_not, beq_iff_eq, beq_eq_false_iff_ne, ne_eq, bne_iff_ne, bne_eq_false_iff_eq, Decidable.not_not] at hb))))
    · refine hr ?_ _ rfl
      have : short35 l[i] = false := by simp only [short35, decide_eq_false_iff_not]; omega
      rw [List.all_eq_false]
      exact ⟨l[i], List.getElem_mem h2, by simp [this]⟩
    · refine i_lk (W_round ?_)
      (try simp (disch := omega) only [go_sem, seval, reduceCtorEq])
      refine ih (i + 1) (by omega) ?_
      rw [List.take_add_one, List.all_append, ht, List.getElem?_eq_getElem h2]
      simp only [Option.toList_some, List.all_cons, List.all_nil, Bool.and_true, Bool.true_and, short35, decide_eq_true_eq]
      omega

theorem ps35 (l : List (Int × ByteArray)) (b : Bool) : PS tb 35 [.slice b (itemsPV l)] (.bool (few35 l)) := by
  refine PS_of (af := a35) rfl rfl ?_
  unfold a35
  dsimp only [List.map, ofPV, initEnv]
  repeat' (first | (simp (disch := omega) only [go_sem, seval, reduceCtorEq, itemsPV_length]) | ((first | apply x_split_cond | apply x_split_guard); all_goals (intro hb; (try simp only [Bool.not_eq_true', Bool.not_eq_false'] at hb); (simp (disch := omega) only [go_sem, seval, reduceCtorEq, itemsPV_length, hb]); (try simp only [decide_eq_true_eq, decide_eq_false_iff_not, beq_iff_eq, beq_eq_false_iff_ne, ne_eq, bne_iff_ne, bne_eq_false_iff_eq, Decidable.not_not] at hb))))
  · have : ¬ l.length ≤ 20 := by omega
    simp [few35, this, pur, dep]
  · refine W_round ?_
    have hl : l.length ≤ 20 := by omega
    (try simp (disch := omega) only [go_sem, seval, reduceCtorEq])
    refine l35 l b hl _ ?_ ?_ l.length 0 (by omega) (by simp)
    · intro ha
      (try simp (disch := omega) only [go_sem, seval, reduceCtorEq])
      simp [few35, hl, ha, pur, dep]
    · intro ha s hs
      (try simp (disch := omega) only [go_sem, seval, reduceCtorEq, hs])
      simp [few35, hl, ha, pur, dep]

def few21 (m : M) : Bool := few35 m.log && decide ((m.votes.length : Int) ≤ 20) && decide ((m.next.length : Int) ≤ 20) && decide ((m.mtch.length : Int) ≤ 20)

theorem ps21 (m : M) (f : Fl) : PS tb 21 [.agg (mC m f)] (.bool (few21 m)) := by
  refine PS_of (af := a21) rfl rfl ?_
  unfold a21
  dsimp only [List.map, ofPV, initEnv]
  repeat' (first | (simp (disch := omega) only [go_sem, seval, reduceCtorEq, mC, itemsPV_length, intsPV_length]) | (apply x_pure; iterate 5 (first | exact ps35 _ _ | ((try simp (disch := omega) only [go_sem, seval, reduceCtorEq, mC, itemsPV_length, intsPV_length]) <;> with_reducible exact rfl))) | ((first | apply x_split_cond | apply x_split_guard); all_goals (intro hb; (try simp only [Bool.not_eq_true', Bool.not_eq_false'] at hb); (simp (disch := omega) only [go_sem, seval, reduceCtorEq, mC, itemsPV_length, intsPV_length, hb]); (try simp only [decide_eq_true_eq, decide_eq_false_iff_not, beq_iff_eq, beq_eq_false_iff_ne, ne_eq, bne_iff_ne, bne_eq_false_iff_eq, Decidable.not_not] at hb))))
  all_goals (simp only [pur, dep, Option.some.injEq, PV.bool.injEq, PV.int.injEq, true_and] <;> grind [few21])

theorem lives_run : ((cfs tb.A tb.X 14).pure 22 []) = some (.bool true) := by kernel_rfl

theorem ps22 : PS tb 22 [] (.bool true) := ⟨14, lives_run⟩

theorem few21_MFew {m : M} (hm : MRan m) (h : few21 m = true) : MFew m := by
  simp only [few21, few35, Bool.and_eq_true, decide_eq_true_eq] at h
  exact ⟨⟨hm.id1, hm.id2, hm.me1, hm.me2, by omega, by omega, by omega, by omega⟩, by omega, by omega, by omega, by omega⟩

def badNew (id mem : Int) : Prop := mem < 1 ∨ 7 < mem ∨ id < 1 ∨ mem < id

instance (id mem : Int) : Decidable (badNew id mem) := by unfold badNew; infer_instance

def newM (id mem : Int) : M := if badNew id mem then zeroM else ⟨id, mem, 0, 0, [], 1, 0, [], [], []⟩

def newE (id mem : Int) : Int := if badNew id mem then 1 else 0

theorem ps23 (id mem : Int) : PS tb 23 [.int .i64 id, .int .i64 mem] (.tuple [.agg (mC (newM id mem) ⟨true, true, true, true⟩), .int .i64 (newE id mem)]) := by
  refine PS_of (af := a23) rfl rfl ?_
  by_cases h : badNew id mem
  · rw [show newM id mem = zeroM from if_pos h, show newE id mem = 1 from if_pos h]
    unfold badNew at h
    unfold a23
    dsimp only [List.map, ofPV, initEnv]
    repeat' (first | (simp (disch := omega) only [go_sem, seval, reduceCtorEq]) | ((first | apply x_split_cond | apply x_split_guard); all_goals (intro hb; (try simp only [Bool.not_eq_true', Bool.not_eq_false'] at hb); (simp (disch := omega) only [go_sem, seval, reduceCtorEq, hb]); (try simp only [decide_eq_true_eq, decide_eq_false_iff_not, beq_iff_eq, beq_eq_false_iff_ne, ne_eq, bne_iff_ne, bne_eq_false_iff_eq, Decidable.not_not] at hb))))
    all_goals first | rfl | (exfalso; omega)
  · rw [show newM id mem = ⟨id, mem, 0, 0, [], 1, 0, [], [], []⟩ from if_neg h, show newE id mem = 0 from if_neg h]
    unfold badNew at h
    unfold a23
    dsimp only [List.map, ofPV, initEnv]
    repeat' (first | (simp (disch := omega) only [go_sem, seval, reduceCtorEq]) | ((first | apply x_split_cond | apply x_split_guard); all_goals (intro hb; (try simp only [Bool.not_eq_true', Bool.not_eq_false'] at hb); (simp (disch := omega) only [go_sem, seval, reduceCtorEq, hb]); (try simp only [decide_eq_true_eq, decide_eq_false_iff_not, beq_iff_eq, beq_eq_false_iff_ne, ne_eq, bne_iff_ne, bne_eq_false_iff_eq, Decidable.not_not] at hb))))
    all_goals first | rfl | (exfalso; omega)

end Go.Dv.Try
