/-
  Specifications of the functions of this claim, parts 12, 13, 14, 15.
-/
import Derived.Test.YtjnigloanggmmaaTab
import Derived.Test.YtjnigloanggmmaaStep
import Derived.Test.YtjnigloanggmmaaS1
import Derived.Test.YtjnigloanggmmaaS7
import Derived.Test.YtjnigloanggmmaaS8
import Derived.Test.YtjnigloanggmmaaBridge
set_option linter.unusedVariables false
set_option linter.unusedSimpArgs false
set_option maxRecDepth 100000
set_option maxHeartbeats 16000000
namespace Go.Dv.Try
open Go Go.Dv

/-- A member that is small enough, with what is sure of any. -/
structure MFew (m : M) : Prop extends MIn m where
  few1 : m.log.length ≤ 300
  few2 : m.votes.length ≤ 40
  few3 : m.next.length ≤ 40
  few4 : m.mtch.length ≤ 40

theorem fresh_of {H : Heap} {n : Nat} (h : H.all (fun x => decide (x.1 < n)) = true) : ∀ j, n ≤ j → aget H j = none := by
  intro j hj
  cases hx : aget H j with
  | none => rfl
  | some b =>
    have := List.all_eq_true.1 h _ (aget_mem _ _ _ hx)
    simp at this; omega

def zeroM : M := ⟨0, 0, 0, 0, [], 0, 0, [], [], []⟩

def withItem (m : M) (d : ByteArray) : M := { m with log := m.log ++ [(m.term, d)], next := m.next.set (m.id - 1).toNat (m.log.length + 1 : Nat), mtch := m.mtch.set (m.id - 1).toNat (m.log.length + 1 : Nat) }

def proposed (m : M) (d : ByteArray) : M := { withItem m d with commit := commOf (withItem m d) }

def errP (m : M) (d : ByteArray) : Int := if okM m = false then 1 else if m.role ≠ 3 then 21 else if 4096 < (d.size : Int) then 2 else if 256 ≤ (m.log.length : Int) then 17 else 0

def resP (m : M) (d : ByteArray) : M := if errP m d = 0 then proposed m d else zeroM

theorem lead_facts {m : M} (h : okM m = true) (hr : m.role = 3) : 1 ≤ m.id ∧ m.id ≤ m.members ∧ m.members ≤ 7 ∧ (m.next.length : Int) = m.members ∧ (m.mtch.length : Int) = m.members ∧ 0 ≤ m.commit ∧ m.commit ≤ m.log.length := by
  simp only [okM, okHead, okMid, okRole, okProg, hr, Bool.and_eq_true, decide_eq_true_eq, if_true, show ¬ (3 : Int) = 1 by decide, show ¬ (3 : Int) = 2 by decide, if_false] at h
  omega

theorem ps47 (m : M) (f : Fl) (d : ByteArray) (hm : MFew m) : ∃ g, PS tb 47 [.agg (mC m f), .str d] (.tuple [.agg (mC (resP m d) g), .int .i64 (errP m d)]) := by
  have := hm.few1; have := hm.few2; have := hm.few3; have := hm.few4
  by_cases h1 : ¬ okM m = true
  · refine ⟨⟨true, true, true, true⟩, PS_of (af := a47) rfl rfl ?_⟩
    have he : errP m d = 1 := by simp [errP, h1]
    have hr : resP m d = zeroM := by simp [resP, he]
    rw [he, hr]
    unfold a47
    dsimp only [List.map, ofPV, initEnv]
    repeat' (first | (simp (disch := omega) only [go_sem, seval, reduceCtorEq, mC, h1]) | (apply x_pure; iterate 5 (first | exact ps28 m f hm.toMIn | ((try simp (disch := omega) only [go_sem, seval, reduceCtorEq, mC, h1]) <;> with_reducible exact rfl))) | ((first | apply x_split_cond | apply x_split_guard); all_goals (intro hb; (try simp only [Bool.not_eq_true', Bool.not_eq_false'] at hb); (simp (disch := omega) only [go_sem, seval, reduceCtorEq, mC, h1, hb]); (try simp only [decide_eq_true_eq, decide_eq_false_iff_not, beq_iff_eq, beq_eq_false_iff_ne, ne_eq, bne_iff_ne, bne_eq_false_iff_eq, Decidable.not_not] at hb))))
    all_goals rfl
  have h1 := Decidable.not_not.1 h1
  by_cases h2 : ¬ m.role = 3
  · refine ⟨⟨true, true, true, true⟩, PS_of (af := a47) rfl rfl ?_⟩
    have he : errP m d = 21 := by simp [errP, h1, h2]
    have hr : resP m d = zeroM := by simp [resP, he]
    have h2b : (m.role != 3) = true := by simpa using h2
    rw [he, hr]
    unfold a47
    dsimp only [List.map, ofPV, initEnv]
    repeat' (first | (simp (disch := omega) only [go_sem, seval, reduceCtorEq, mC, h1, h2b]) | (apply x_pure; iterate 5 (first | exact ps28 m f hm.toMIn | ((try simp (disch := omega) only [go_sem, seval, reduceCtorEq, mC, h1, h2b]) <;> with_reducible exact rfl))) | ((first | apply x_split_cond | apply x_split_guard); all_goals (intro hb; (try simp only [Bool.not_eq_true', Bool.not_eq_false'] at hb); (simp (disch := omega) only [go_sem, seval, reduceCtorEq, mC, h1, h2b, hb]); (try simp only [decide_eq_true_eq, decide_eq_false_iff_not, beq_iff_eq, beq_eq_false_iff_ne, ne_eq, bne_iff_ne, bne_eq_false_iff_eq, Decidable.not_not] at hb))))
    all_goals rfl
  have h2 := Decidable.not_not.1 h2
  have h2c : (m.role != 3) = false := by simp [h2]
  by_cases h3 : 4096 < (d.size : Int)
  · refine ⟨⟨true, true, true, true⟩, PS_of (af := a47) rfl rfl ?_⟩
    have he : errP m d = 2 := by simp [errP, h1, h2, h3]
    have hr : resP m d = zeroM := by simp [resP, he]
    rw [he, hr]
    unfold a47
    dsimp only [List.map, ofPV, initEnv]
    repeat' (first | (simp (disch := omega) only [go_sem, seval, reduceCtorEq, mC, h1, h2c, h3]) | (apply x_pure; iterate 5 (first | exact ps28 m f hm.toMIn | ((try simp (disch := omega) only [go_sem, seval, reduceCtorEq, mC, h1, h2c, h3]) <;> with_reducible exact rfl))) | ((first | apply x_split_cond | apply x_split_guard); all_goals (intro hb; (try simp only [Bool.not_eq_true', Bool.not_eq_false'] at hb); (simp (disch := omega) only [go_sem, seval, reduceCtorEq, mC, h1, h2c, h3, hb]); (try simp only [decide_eq_true_eq, decide_eq_false_iff_not, beq_iff_eq, beq_eq_false_iff_ne, ne_eq, bne_iff_ne, bne_eq_false_iff_eq, Decidable.not_not] at hb))))
    all_goals rfl
  by_cases h4 : 256 ≤ (m.log.length : Int)
  · refine ⟨⟨true, true, true, true⟩, PS_of (af := a47) rfl rfl ?_⟩
    have he : errP m d = 17 := by simp [errP, h1, h2, h3, h4]
    have hr : resP m d = zeroM := by simp [resP, he]
    rw [he, hr]
    unfold a47
    dsimp only [List.map, ofPV, initEnv]
    repeat' (first | (simp (disch := omega) only [go_sem, seval, reduceCtorEq, mC, h1, h2c, h3, h4, itemsPV_length]) | (apply x_pure; iterate 5 (first | exact ps28 m f hm.toMIn | ((try simp (disch := omega) only [go_sem, seval, reduceCtorEq, mC, h1, h2c, h3, h4, itemsPV_length]) <;> with_reducible exact rfl))) | ((first | apply x_split_cond | apply x_split_guard); all_goals (intro hb; (try simp only [Bool.not_eq_true', Bool.not_eq_false'] at hb); (simp (disch := omega) only [go_sem, seval, reduceCtorEq, mC, h1, h2c, h3, h4, itemsPV_length, hb]); (try simp only [decide_eq_true_eq, decide_eq_false_iff_not, beq_iff_eq, beq_eq_false_iff_ne, ne_eq, bne_iff_ne, bne_eq_false_iff_eq, Decidable.not_not] at hb))))
    all_goals rfl
  refine ⟨⟨false, false, false, false⟩, PS_of (af := a47) rfl rfl ?_⟩
  have he : errP m d = 0 := by simp [errP, h1, h2, h3, h4]
  have hr : resP m d = proposed m d := by simp [resP, he]
  obtain ⟨f1, f2, f3, f4, f5, f6, f7⟩ := lead_facts h1 h2
  have g1 : (0 : Int) ≤ m.id - 1 := by omega
  have g2 := intsPV_getD m.next (m.id - 1).toNat (by omega)
  have g3 := intsPV_getD m.mtch (m.id - 1).toNat (by omega)
  have g4 : m.id - 1 < (m.next.length : Int) := by omega
  have g5 : m.id - 1 < (m.mtch.length : Int) := by omega
  rw [he, hr]
  unfold a47
  dsimp only [List.map, ofPV, initEnv]
  have t1 : (m.log ++ [(m.term, d)]).take (m.log.length + 1) = m.log ++ [(m.term, d)] := List.take_of_length_le (by simp)
  have t2 : ∀ (i : Nat) (x : Int), (m.next.set i x).take m.next.length = m.next.set i x := fun i x => List.take_of_length_le (by simp)
  have t3 : ∀ (i : Nat) (x : Int), (m.mtch.set i x).take m.mtch.length = m.mtch.set i x := fun i x => List.take_of_length_le (by simp)
  have c1 : 0 ≤ (withItem m d).commit := f6
  have c2 : (withItem m d).log.length ≤ 140737488355328 := by simp [withItem]; omega
  have c3 : (withItem m d).mtch.length ≤ 140737488355328 := by simp [withItem]; omega
  have c4 : (withItem m d).members ≤ 9223372036854775807 := hm.me2
  repeat' (first | (simp (disch := omega) only [go_sem, seval, reduceCtorEq, mC, rC, intPV, h1, h2c, h3, h4, g1, g2, g3, g4, g5, t1, t2, t3, itemsPV_length, intsPV_length, itemsPV_sing, itemsPV_append, itemsPV_sz, itemsPV_take, intsPV_take, intsPV_set, List.length_append, List.length_set, List.take_length, maxB]) | (apply x_pure; iterate 5 (first | exact ps28 m f hm.toMIn | exact ps102 (withItem m d) ⟨false, false, false, false⟩ c2 c3 c4 c1 | ((try simp (disch := omega) only [go_sem, seval, reduceCtorEq, mC, rC, intPV, h1, h2c, h3, h4, g1, g2, g3, g4, g5, t1, t2, t3, itemsPV_length, intsPV_length, itemsPV_sing, itemsPV_append, itemsPV_sz, itemsPV_take, intsPV_take, intsPV_set, List.length_append, List.length_set, List.take_length, maxB]) <;> with_reducible exact rfl))) | (apply x_byref; iterate 3 (first | exact bs101 m f _ _ (fresh_of rfl) (by omega) (by omega) (by omega) (by omega) | ((try simp (disch := omega) only [go_sem, seval, reduceCtorEq, mC, rC, intPV, h1, h2c, h3, h4, g1, g2, g3, g4, g5, t1, t2, t3, itemsPV_length, intsPV_length, itemsPV_sing, itemsPV_append, itemsPV_sz, itemsPV_take, intsPV_take, intsPV_set, List.length_append, List.length_set, List.take_length, maxB]) <;> with_reducible exact rfl))) | ((first | apply x_split_cond | apply x_split_guard); all_goals (intro hb; (try simp only [Bool.not_eq_true', Bool.not_eq_false'] at hb); (simp (disch := omega) only [go_sem, seval, reduceCtorEq, mC, rC, intPV, h1, h2c, h3, h4, g1, g2, g3, g4, g5, t1, t2, t3, itemsPV_length, intsPV_length, itemsPV_sing, itemsPV_append, itemsPV_sz, itemsPV_take, intsPV_take, intsPV_set, List.length_append, List.length_set, List.take_length, maxB, hb]); (try simp only [decide_eq_true_eq, decide_eq_false_iff_not, beq_iff_eq, beq_eq_false_iff_ne, ne_eq, bne_iff_ne, bne_eq_false_iff_eq, Decidable.not_not] at hb))))
  (simp (disch := omega) only [go_sem, seval, reduceCtorEq, mC, proposed, withItem, itemsPV_length, intsPV_length, itemsPV_take, intsPV_take, List.length_append, List.length_set, t1, t2, t3, List.take_length])

theorem ps104' (l : List Int) (b : Bool) (i : Int) (n : Int) (h0 : 0 ≤ i) (hi : i < (l.length : Int)) (hl : l.length ≤ 100000) :
    PS tb 104 [.slice b (intsPV l), .int .i64 i, .int .i64 n] (.slice false (intsPV (l.set i.toNat n))) := by
  obtain ⟨k, rfl⟩ := Int.eq_ofNat_of_zero_le h0
  exact ps104 l b k n (by omega) hl

theorem fit_int {y : PV} (h : Fit (.int .i64) y) : ∃ n, y = .int .i64 n ∧ -9223372036854775808 ≤ n ∧ n ≤ 9223372036854775807 := by
  cases h with
  | int k n h =>
    refine ⟨n, rfl, ?_⟩
    simp [Lit.wf, IntKind.min, IntKind.max, IntKind.signed, IntKind.bits] at h
    omega

theorem fit_str {y : PV} (h : Fit .str y) : ∃ s, y = .str s := by
  cases h with
  | str s h => exact ⟨s, rfl⟩

theorem fit_bool {y : PV} (h : Fit .bool y) : ∃ s, y = .bool s := by
  cases h with
  | bool s => exact ⟨s, rfl⟩

theorem fit_ints {y : PV} (h : Fit (.slice [.int .i64]) y) : ∃ l, y = .slice false (intsPV l) := by
  cases h with
  | slice l xs h hl hr =>
    have : ∀ xs : List (List PV), (∀ x ∈ xs, ∃ n, x = intPV n) → ∃ l, xs = intsPV l := by
      intro xs
      induction xs with
      | nil => intro _; exact ⟨[], rfl⟩
      | cons x xs ih =>
        intro hx
        obtain ⟨n, hn⟩ := hx x (by simp)
        obtain ⟨l, hl⟩ := ih fun y hy => hx y (by simp [hy])
        exact ⟨n :: l, by rw [hn, hl]; rfl⟩
    obtain ⟨l, e⟩ := this xs fun x hx => by
      have h1 := hl x hx
      obtain ⟨i, hi⟩ := List.mem_iff_getElem?.1 hx
      cases x with
      | nil => simp at h1
      | cons a r =>
        have h2 : r = [] := by simpa using h1
        subst h2
        obtain ⟨n, rfl, _⟩ := fit_int (hr i _ 0 _ _ hi rfl rfl)
        exact ⟨n, rfl⟩
    exact ⟨l, by rw [e]⟩

theorem fit_items {y : PV} (h : Fit (.slice [.int .i64, .str]) y) : ∃ l, y = .slice false (itemsPV l) := by
  cases h with
  | slice l xs h hl hr =>
    have : ∀ xs : List (List PV), (∀ x ∈ xs, ∃ n, x = itemPV n) → ∃ l, xs = itemsPV l := by
      intro xs
      induction xs with
      | nil => intro _; exact ⟨[], rfl⟩
      | cons x xs ih =>
        intro hx
        obtain ⟨n, hn⟩ := hx x (by simp)
        obtain ⟨l, hl⟩ := ih fun y hy => hx y (by simp [hy])
        exact ⟨n :: l, by rw [hn, hl]; rfl⟩
    obtain ⟨l, e⟩ := this xs fun x hx => by
      have h1 := hl x hx
      obtain ⟨i, hi⟩ := List.mem_iff_getElem?.1 hx
      match x, h1 with
      | [a, c], _ =>
        obtain ⟨n, rfl, _⟩ := fit_int (hr i _ 0 _ _ hi rfl rfl)
        obtain ⟨s, rfl⟩ := fit_str (hr i _ 1 _ _ hi rfl rfl)
        exact ⟨(n, s), rfl⟩
    exact ⟨l, by rw [e]⟩

/-- What is sure of a member that came in. -/
structure MRan (m : M) : Prop where
  id1 : -9223372036854775808 ≤ m.id
  id2 : m.id ≤ 9223372036854775807
  me1 : -9223372036854775808 ≤ m.members
  me2 : m.members ≤ 9223372036854775807

theorem fit_member {u : List PV} (h : Fits [.int .i64, .int .i64, .int .i64, .int .i64, .slice [.int .i64, .str], .int .i64, .int .i64, .slice [.int .i64], .slice [.int .i64], .slice [.int .i64]] u) : ∃ m f, u = mC m f ∧ MRan m := by
  obtain ⟨y0, u0, rfl, e0, h⟩ := h.cons
  obtain ⟨y1, u1, rfl, e1, h⟩ := h.cons
  obtain ⟨y2, u2, rfl, e2, h⟩ := h.cons
  obtain ⟨y3, u3, rfl, e3, h⟩ := h.cons
  obtain ⟨y4, u4, rfl, e4, h⟩ := h.cons
  obtain ⟨y5, u5, rfl, e5, h⟩ := h.cons
  obtain ⟨y6, u6, rfl, e6, h⟩ := h.cons
  obtain ⟨y7, u7, rfl, e7, h⟩ := h.cons
  obtain ⟨y8, u8, rfl, e8, h⟩ := h.cons
  obtain ⟨y9, u9, rfl, e9, h⟩ := h.cons
  have hn := h.nil
  subst hn
  obtain ⟨n0, rfl, a0, b0⟩ := fit_int e0
  obtain ⟨n1, rfl, a1, b1⟩ := fit_int e1
  obtain ⟨n2, rfl, _⟩ := fit_int e2
  obtain ⟨n3, rfl, _⟩ := fit_int e3
  obtain ⟨n4, rfl⟩ := fit_items e4
  obtain ⟨n5, rfl, _⟩ := fit_int e5
  obtain ⟨n6, rfl, _⟩ := fit_int e6
  obtain ⟨n7, rfl⟩ := fit_ints e7
  obtain ⟨n8, rfl⟩ := fit_ints e8
  obtain ⟨n9, rfl⟩ := fit_ints e9
  exact ⟨⟨n0, n1, n2, n3, n4, n5, n6, n7, n8, n9⟩, ⟨false, false, false, false⟩, rfl, ⟨a0, b0, a1, b1⟩⟩

theorem few_MFew {m : M} {x : X} (hm : MRan m) (h : few m x = true) : MFew m := by
  simp only [few, few98, Bool.and_eq_true, decide_eq_true_eq] at h
  exact ⟨⟨hm.id1, hm.id2, hm.me1, hm.me2, by omega, by omega, by omega, by omega⟩, by omega, by omega, by omega, by omega⟩

theorem works_run : ((cfs tb.A tb.X 12).pure 46 []) = some (.bool true) := by kernel_rfl

theorem ps46 : PS tb 46 [] (.bool true) := ⟨12, works_run⟩

def termN (l : List (Int × ByteArray)) (n : Int) : Int := if n = 0 then 0 else itTerm l (n - 1).toNat

theorem itemsPV_getT (l : List (Int × ByteArray)) (i : Nat) (h : i < l.length) : ∃ s, (itemsPV l)[i]? = some [.int .i64 (itTerm l i), .str s] := by
  rw [itemsPV_get l i h, itTerm_eq l i h]
  exact ⟨l[i].2, rfl⟩

theorem ps106 (m : M) (f : Fl) (n : Int) (h0 : 0 ≤ n) (h1 : n ≤ m.log.length) (hl : m.log.length ≤ 100000) : PS tb 106 [.agg (mC m f), .int .i64 n] (.int .i64 (termN m.log n)) := by
  refine PS_of (af := a106) rfl rfl ?_
  unfold a106
  dsimp only [List.map, ofPV, initEnv]
  by_cases h : n = 0
  · subst h
    repeat' (first | (simp (disch := omega) only [go_sem, seval, reduceCtorEq, mC]) | ((first | apply x_split_cond | apply x_split_guard); all_goals (intro hb; (try simp only [Bool.not_eq_true', Bool.not_eq_false'] at hb); (simp (disch := omega) only [go_sem, seval, reduceCtorEq, mC, hb]); (try simp only [decide_eq_true_eq, decide_eq_false_iff_not, beq_iff_eq, beq_eq_false_iff_ne, ne_eq, bne_iff_ne, bne_eq_false_iff_eq, Decidable.not_not] at hb))))
    all_goals rfl
  · have e1 : (0 : Int) ≤ n - 1 := by omega
    have e2 : (n == 0) = false := by simpa using h
    obtain ⟨s, e3⟩ := itemsPV_getT m.log (n - 1).toNat (by omega)
    have e4 : termN m.log n = itTerm m.log (n - 1).toNat := if_neg h
    repeat' (first | (simp (disch := omega) only [go_sem, seval, reduceCtorEq, mC, e1, e2, e3, e4]) | ((first | apply x_split_cond | apply x_split_guard); all_goals (intro hb; (try simp only [Bool.not_eq_true', Bool.not_eq_false'] at hb); (simp (disch := omega) only [go_sem, seval, reduceCtorEq, mC, e1, e2, e3, e4, hb]); (try simp only [decide_eq_true_eq, decide_eq_false_iff_not, beq_iff_eq, beq_eq_false_iff_ne, ne_eq, bne_iff_ne, bne_eq_false_iff_eq, Decidable.not_not] at hb))))
    all_goals rfl

theorem PS_out {T : Tab} {f : FuncId} {l : List PV} {r : PV} (h : T.A f = none) (hx : T.X.pure f l = some r) : PS T f l r := ⟨0, by simp only [cfs, h, hx]⟩

theorem ps97 (l : List (Int × ByteArray)) (b : Bool) (h : l.length ≤ 100000) : PS tb 97 [.slice b (itemsPV l)] (.slice false (itemsPV l)) := by
  refine PS_out (show tab 97 = none from rfl) ?_
  show outside.pure 97 _ = _
  simp [outside, cloneOf, itemsPV_sz, itemsPV_length, maxBytes]
  omega

def msgPV (x : X) : List PV := xC x false

def msgsPV (l : List X) : List (List PV) := l.map msgPV

theorem msgsPV_length (l : List X) : (msgsPV l).length = l.length := by simp [msgsPV]

theorem msgsPV_sz (l : List X) : allSz 9 (msgsPV l) = true := by simp [allSz, msgsPV, msgPV, xC]

theorem msgsPV_append (a b : List X) : msgsPV a ++ msgsPV b = msgsPV (a ++ b) := by simp [msgsPV]

theorem msgsPV_sing (a b c d e f g : Int) (o : Bool) (l : List (Int × ByteArray)) : [[PV.int .i64 a, .int .i64 b, .int .i64 c, .int .i64 d, .int .i64 e, .int .i64 f, .int .i64 g, .bool o, .slice false (itemsPV l)]] = msgsPV [⟨a, b, c, d, e, f, g, o, l⟩] := rfl

theorem l87 (x : X) (p q : Bool) (hl : x.items.length ≤ 140737488355328) (K : Ex → St → Prop)
    (hx : K (.exit 0) ⟨[], [], 0, [0]⟩) : ∀ (n i : Nat), i + n = x.items.length →
    W tb a87_l0 ⟨[(2, .ptr 0 0), (3, .ptr 1 0), (5, .p (.int .i64 i))], [(1, .var false ((xC x q).map .p)), (0, .var false ((xC x p).map .p))], 2, [0]⟩ (LK tb (.ghost .lower a87_l0) K) := by
  intro n
  induction n with
  | zero =>
    intro i hi
    have h1 : ¬ (i : Int) < x.items.length := by omega
    refine i_code (by unfold a87_l0; exact rfl) ?_
    repeat' (first | (simp (disch := omega) only [go_sem, seval, reduceCtorEq, h1, xC, itemsPV_length]) | ((first | apply x_split_cond | apply x_split_guard); all_goals (intro hb; (try simp only [Bool.not_eq_true', Bool.not_eq_false'] at hb); (simp (disch := omega) only [go_sem, seval, reduceCtorEq, h1, xC, itemsPV_length, hb]); (try simp only [decide_eq_true_eq, decide_eq_false_iff_not, beq_iff_eq, beq_eq_false_iff_ne, ne_eq, bne_iff_ne, bne_eq_false_iff_eq, Decidable.not_not] at hb))))
    exact hx
  | succ n ih =>
    intro i hi
    have h1 : (i : Int) < x.items.length := by omega
    have h2 : i < x.items.length := by omega
    have h3 := itemsPV_get x.items i h2
    have h4 : (0 : Int) ≤ i := by omega
    refine i_code (by unfold a87_l0; exact rfl) ?_
    repeat' (first | (simp (disch := omega) only [go_sem, seval, reduceCtorEq, h1, h3, h4, xC, itemPV, itemsPV_length]) | ((first | apply x_split_cond | apply x_split_guard); all_goals (intro hb; (try simp only [Bool.not_eq_true', Bool.not_eq_false'] at hb); (simp (disch := omega) only [go_sem, seval, reduceCtorEq, h1, h3, h4, xC, itemPV, itemsPV_length, hb]); (try simp only [decide_eq_true_eq, decide_eq_false_iff_not, beq_iff_eq, beq_eq_false_iff_ne, ne_eq, bne_iff_ne, bne_eq_false_iff_eq, Decidable.not_not] at hb))))
    refine i_lk (W_round ?_)
    (try simp (disch := omega) only [go_sem, seval, reduceCtorEq, xC])
    exact ih (i + 1) (by omega)

theorem ps87 (x : X) (p q : Bool) (hl : x.items.length ≤ 140737488355328) : PS tb 87 [.agg (xC x p), .agg (xC x q)] (.bool true) := by
  refine PS_of (af := a87) rfl rfl ?_
  unfold a87
  dsimp only [List.map, ofPV, initEnv]
  repeat' (first | (simp (disch := omega) only [go_sem, seval, reduceCtorEq, xC, itemsPV_length]) | ((first | apply x_split_cond | apply x_split_guard); all_goals (intro hb; (try simp only [Bool.not_eq_true', Bool.not_eq_false'] at hb); (simp (disch := omega) only [go_sem, seval, reduceCtorEq, xC, itemsPV_length, hb]); (try simp only [decide_eq_true_eq, decide_eq_false_iff_not, beq_iff_eq, beq_eq_false_iff_ne, ne_eq, bne_iff_ne, bne_eq_false_iff_eq, Decidable.not_not] at hb))))
  refine W_round ?_
  (try simp (disch := omega) only [go_sem, seval, reduceCtorEq, xC])
  refine l87 x p q hl _ ?_ x.items.length 0 (by omega)
  (try simp (disch := omega) only [go_sem, seval, reduceCtorEq])
  all_goals simp [pur, dep]

/-- The message to the member number k + 1. -/
def beat (m : M) (k : Nat) : X := ⟨3, m.id, (k + 1 : Nat), m.term, m.next.getD k 0, termN m.log (m.next.getD k 0), m.commit, false, m.log.drop (m.next.getD k 0).toNat⟩

def beats (m : M) : Nat → List X
  | 0 => []
  | k + 1 => if ((k + 1 : Nat) : Int) = m.id then beats m k else beats m k ++ [beat m k]

def beatsOf (m : M) : List X := if okM m = true ∧ m.role = 3 then beats m m.members.toNat else []

theorem beats_length (m : M) (k : Nat) : (beats m k).length ≤ k := by
  induction k with
  | zero => simp [beats]
  | succ k ih => simp only [beats]; split <;> (try simp only [List.length_append, List.length_cons, List.length_nil]) <;> omega

theorem prog_at {m : M} (h : okM m = true) (hr : m.role = 3) (i : Nat) (hi : i < m.next.length) : 0 ≤ m.next.getD i 0 ∧ m.next.getD i 0 ≤ m.log.length := by
  simp only [okM, okHead, okMid, okRole, okProg, hr, Bool.and_eq_true, decide_eq_true_eq, if_true, show ¬ (3 : Int) = 1 by decide, show ¬ (3 : Int) = 2 by decide, if_false, List.all_eq_true, List.mem_range] at h
  have h2 := h.2.2.1.1.2 i hi
  simp only [pOK, Bool.and_eq_true, decide_eq_true_eq] at h2
  omega

theorem l50 (m : M) (f : Fl) (hm : MFew m) (ho : okM m = true) (hr : m.role = 3) (K : Ex → St → Prop)
    (hx : ∀ s v, aget s.env 3 = some v → pur s.heap dep v = some (.slice false (msgsPV (beats m m.members.toNat))) → s.env = [(3, v)] → K (.exit 0) s) :
    ∀ (n k : Nat), k + n = m.members.toNat →
    W tb a50_l0 ⟨[(1, .ptr 0 0), (3, .ref 1 (beats m k).length 0 (beats m k).length), (4, .p (.int .i64 (k + 1 : Nat)))], [(1, .row false 9 (msgsPV (beats m k))), (0, .var false ((mC m f).map .p))], 2, [0]⟩ (LK tb (.ghost .lower a50_l0) K) := by
  have := hm.few1; have := hm.few2; have := hm.few3; have := hm.few4
  obtain ⟨f1, f2, f3, f4, f5, f6, f7⟩ := lead_facts ho hr
  intro n
  induction n with
  | zero =>
    intro k hk
    have h1 : ¬ ((k + 1 : Nat) : Int) ≤ m.members := by omega
    refine i_code (by unfold a50_l0; exact rfl) ?_
    repeat' (first | (simp (disch := omega) only [go_sem, seval, reduceCtorEq, h1, mC]) | ((first | apply x_split_cond | apply x_split_guard); all_goals (intro hb; (try simp only [Bool.not_eq_true', Bool.not_eq_false'] at hb); (simp (disch := omega) only [go_sem, seval, reduceCtorEq, h1, mC, hb]); (try simp only [decide_eq_true_eq, decide_eq_false_iff_not, beq_iff_eq, beq_eq_false_iff_ne, ne_eq, bne_iff_ne, bne_eq_false_iff_eq, Decidable.not_not] at hb))))
    have e : k = m.members.toNat := by omega
    subst e
    refine hx _ _ rfl (pur_all rfl (by rw [msgsPV_length])) rfl
  | succ n ih =>
    intro k hk
    have h1 : ((k + 1 : Nat) : Int) ≤ m.members := by omega
    have h2 : k < m.next.length := by omega
    obtain ⟨b1, b2⟩ := prog_at ho hr k h2
    have h3 := intsPV_getD m.next k h2
    have h4 : ((k + 1 : Nat) : Int) - 1 = (k : Nat) := by omega
    have h5 : (0 : Int) ≤ (k : Nat) := by omega
    have bl := beats_length m k
    refine i_code (by unfold a50_l0; exact rfl) ?_
    by_cases h6 : ((k + 1 : Nat) : Int) = m.id
    · have h7 : (((k + 1 : Nat) : Int) == m.id) = true := by simpa using h6
      repeat' (first | (simp (disch := omega) only [go_sem, seval, reduceCtorEq, h1, h7, mC]) | ((first | apply x_split_cond | apply x_split_guard); all_goals (intro hb; (try simp only [Bool.not_eq_true', Bool.not_eq_false'] at hb); (simp (disch := omega) only [go_sem, seval, reduceCtorEq, h1, h7, mC, hb]); (try simp only [decide_eq_true_eq, decide_eq_false_iff_not, beq_iff_eq, beq_eq_false_iff_ne, ne_eq, bne_iff_ne, bne_eq_false_iff_eq, Decidable.not_not] at hb))))
      refine i_lk (W_round ?_)
      (try simp (disch := omega) only [go_sem, seval, reduceCtorEq, mC])
      have := ih (k + 1) (by omega)
      rw [beats, if_pos h6] at this
      exact this
    · have h7 : (((k + 1 : Nat) : Int) == m.id) = false := by simpa using h6
      have h8 : (m.log.drop (m.next.getD k 0).toNat).length ≤ 100000 := by simp; omega
      repeat' (first | (simp (disch := omega) only [go_sem, seval, reduceCtorEq, h1, h7, h3, h4, h5, b1, b2, intPV, mC, itemsPV_sz, itemsPV_length, itemsPV_take, itemsPV_drop, List.take_length, msgsPV_sing, msgsPV_sz, msgsPV_append, msgsPV_length, maxB]) | (apply x_pure; iterate 5 (first | exact ps106 m f _ b1 b2 (by omega) | exact ps97 _ _ h8 | ((try simp (disch := omega) only [go_sem, seval, reduceCtorEq, h1, h7, h3, h4, h5, b1, b2, intPV, mC, itemsPV_sz, itemsPV_length, itemsPV_take, itemsPV_drop, List.take_length, msgsPV_sing, msgsPV_sz, msgsPV_append, msgsPV_length, maxB]) <;> with_reducible exact rfl))) | ((first | apply x_split_cond | apply x_split_guard); all_goals (intro hb; (try simp only [Bool.not_eq_true', Bool.not_eq_false'] at hb); (simp (disch := omega) only [go_sem, seval, reduceCtorEq, h1, h7, h3, h4, h5, b1, b2, intPV, mC, itemsPV_sz, itemsPV_length, itemsPV_take, itemsPV_drop, List.take_length, msgsPV_sing, msgsPV_sz, msgsPV_append, msgsPV_length, maxB, hb]); (try simp only [decide_eq_true_eq, decide_eq_false_iff_not, beq_iff_eq, beq_eq_false_iff_ne, ne_eq, bne_iff_ne, bne_eq_false_iff_eq, Decidable.not_not] at hb))))
      refine i_lk (W_round ?_)
      (try simp (disch := omega) only [go_sem, seval, reduceCtorEq, mC])
      have := ih (k + 1) (by omega)
      rw [beats, if_neg h6] at this
      simp only [List.length_append, List.length_cons, List.length_nil, Nat.zero_add] at this
      exact this

theorem ps50 (m : M) (f : Fl) (hm : MFew m) : ∃ b, PS tb 50 [.agg (mC m f)] (.slice b (msgsPV (beatsOf m))) := by
  by_cases ho : okM m = true
  · by_cases hr : m.role = 3
    · refine ⟨false, PS_of (af := a50) rfl rfl ?_⟩
      have hr2 : (m.role != 3) = false := by simp [hr]
      obtain ⟨f1, f2, f3, f4, f5, f6, f7⟩ := lead_facts ho hr
      have he : beatsOf m = beats m m.members.toNat := if_pos ⟨ho, hr⟩
      unfold a50
      dsimp only [List.map, ofPV, initEnv]
      rw [he]
      repeat' (first | (simp (disch := omega) only [go_sem, seval, reduceCtorEq, mC, ho, hr2]) | (apply x_pure; iterate 5 (first | exact ps28 m f hm.toMIn | ((try simp (disch := omega) only [go_sem, seval, reduceCtorEq, mC, ho, hr2]) <;> with_reducible exact rfl))) | ((first | apply x_split_cond | apply x_split_guard); all_goals (intro hb; (try simp only [Bool.not_eq_true', Bool.not_eq_false'] at hb); (simp (disch := omega) only [go_sem, seval, reduceCtorEq, mC, ho, hr2, hb]); (try simp only [decide_eq_true_eq, decide_eq_false_iff_not, beq_iff_eq, beq_eq_false_iff_ne, ne_eq, bne_iff_ne, bne_eq_false_iff_eq, Decidable.not_not] at hb))))
      refine W_round ?_
      (try simp (disch := omega) only [go_sem, seval, reduceCtorEq, mC])
      refine l50 m f hm ho hr _ ?_ m.members.toNat 0 (by omega)
      intro s v hv hp hs
      obtain ⟨env, H, nx, mk⟩ := s
      simp only at hs hp
      subst hs
      (try simp (disch := omega) only [go_sem, seval, reduceCtorEq, hp])
      all_goals exact hp
    · refine ⟨true, PS_of (af := a50) rfl rfl ?_⟩
      have hr2 : (m.role != 3) = true := by simp [hr]
      have he : beatsOf m = [] := if_neg fun h => hr h.2
      unfold a50
      dsimp only [List.map, ofPV, initEnv]
      rw [he]
      repeat' (first | (simp (disch := omega) only [go_sem, seval, reduceCtorEq, mC, ho, hr2]) | (apply x_pure; iterate 5 (first | exact ps28 m f hm.toMIn | ((try simp (disch := omega) only [go_sem, seval, reduceCtorEq, mC, ho, hr2]) <;> with_reducible exact rfl))) | ((first | apply x_split_cond | apply x_split_guard); all_goals (intro hb; (try simp only [Bool.not_eq_true', Bool.not_eq_false'] at hb); (simp (disch := omega) only [go_sem, seval, reduceCtorEq, mC, ho, hr2, hb]); (try simp only [decide_eq_true_eq, decide_eq_false_iff_not, beq_iff_eq, beq_eq_false_iff_ne, ne_eq, bne_iff_ne, bne_eq_false_iff_eq, Decidable.not_not] at hb))))
      all_goals rfl
  · refine ⟨true, PS_of (af := a50) rfl rfl ?_⟩
    have he : beatsOf m = [] := if_neg fun h => ho h.1
    have ho2 : okM m = false := by simpa using ho
    unfold a50
    dsimp only [List.map, ofPV, initEnv]
    rw [he]
    repeat' (first | (simp (disch := omega) only [go_sem, seval, reduceCtorEq, mC, ho2]) | (apply x_pure; iterate 5 (first | exact ps28 m f hm.toMIn | ((try simp (disch := omega) only [go_sem, seval, reduceCtorEq, mC, ho2]) <;> with_reducible exact rfl))) | ((first | apply x_split_cond | apply x_split_guard); all_goals (intro hb; (try simp only [Bool.not_eq_true', Bool.not_eq_false'] at hb); (simp (disch := omega) only [go_sem, seval, reduceCtorEq, mC, ho2, hb]); (try simp only [decide_eq_true_eq, decide_eq_false_iff_not, beq_iff_eq, beq_eq_false_iff_ne, ne_eq, bne_iff_ne, bne_eq_false_iff_eq, Decidable.not_not] at hb))))
    all_goals rfl

end Go.Dv.Try
