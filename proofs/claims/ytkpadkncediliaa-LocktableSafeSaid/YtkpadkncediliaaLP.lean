/-
  Specifications: L18, L19, P20.
-/
import Derived.Test.YtkpadkncediliaaLC
set_option linter.unusedVariables false
set_option linter.unusedSimpArgs false
set_option maxRecDepth 100000
set_option maxHeartbeats 4000000
namespace Go.Dv.Try
open Go Go.Dv

/-! ## L18 -/

def AscP (l : List Rq) : Prop := (∀ r ∈ l, 0 ≤ r.1) ∧ l.Pairwise fun a b => a.1 < b.1

theorem ascR_iff {l : List Rq} : ascR l = true ↔ AscP l := by
  constructor
  · intro h
    refine ⟨fun r hr => ?_, ?_⟩
    · obtain ⟨i, hi, rfl⟩ := List.getElem_of_mem hr
      have := all_range.1 h i hi
      unfold okR at this
      simp only [Bool.and_eq_true, decide_eq_true_eq] at this
      rw [getD_rq l i hi] at this
      exact this.1
    · have := ascR_strict h
      unfold StrictI at this
      rwa [List.pairwise_map] at this
  · rintro ⟨h1, h2⟩
    refine all_range.2 fun i hi => ?_
    unfold okR
    rw [getD_rq l i hi, decide_eq_true (h1 _ (List.getElem_mem hi)), Bool.true_and]
    by_cases c : i = 0
    · rw [decide_eq_true c]; rfl
    · rw [getD_rq l (i - 1) (by omega), decide_eq_true (List.pairwise_iff_getElem.1 h2 (i - 1) i (by omega) hi (by omega))]
      simp

theorem idxN_at {g : List Rq} (h : g.Pairwise fun a b => a.1 < b.1) {i : Nat} (hi : i < g.length) : idxN g g[i].1 = i := by
  refine idxN_here hi (fun j hj hji e => ?_) rfl
  have := List.pairwise_iff_getElem.1 h j i hj hi hji
  omega

theorem inG_iff {g : List Rq} (h : g.Pairwise fun a b => a.1 < b.1) {r : Rq} : inG g r = true ↔ (r.1, false) ∈ g := by
  unfold inG
  rw [Bool.and_eq_true, decide_eq_true_eq]
  constructor
  · rintro ⟨h1, h2⟩
    have h3 : (fun y : Rq => y.1 == r.1) g[idxN g r.1] = true := List.findIdx_getElem (w := h1)
    simp only [beq_iff_eq] at h3
    rw [getD_rq g _ h1] at h2
    have : g[idxN g r.1] = (r.1, false) := Prod.ext h3 (by simpa using h2)
    rw [← this]; exact List.getElem_mem h1
  · intro hm
    obtain ⟨i, hi, e⟩ := List.getElem_of_mem hm
    have e1 : idxN g r.1 = i := by
      have := idxN_at h hi
      rw [e] at this; exact this
    rw [e1, getD_rq g i hi, e]
    exact ⟨hi, rfl⟩

structure VD (t : Td) : Prop where
  g : AscP t.1
  a : AscD t.2
  k : ∀ q ∈ t.2, vkey q.1 = true
  n : NeQ t.2
  r : ∀ q ∈ t.2, AscP q.2
  i : ∀ q ∈ t.2, ∀ r ∈ q.2, (r.1, false) ∈ t.1

theorem validD_iff {t : Td} : validD t = true ↔ VD t := by
  constructor
  · intro h
    refine ⟨ascR_iff.1 (validD_g h), validD_asc h, fun q hq => (validD_q h hq).1, validD_ne h, fun q hq => ascR_iff.1 (validD_q h hq).2.1, fun q hq r hr => ?_⟩
    exact (inG_iff (ascR_iff.1 (validD_g h)).2).1 (List.all_eq_true.1 (validD_q h hq).2.2 r hr)
  · intro h
    unfold validD
    rw [ascR_iff.2 h.g, Bool.true_and]
    refine all_range.2 fun i hi => ?_
    have hm := List.getElem_mem hi
    rw [Bool.and_eq_true]
    have e : t.2.getD i Q0 = t.2[i] := by rw [List.getD_eq_getElem?_getD, List.getElem?_eq_getElem hi]; rfl
    constructor
    · unfold okQ
      rw [e, h.k _ hm, ascR_iff.2 (h.r _ hm), decide_eq_true (List.length_pos_iff.2 (h.n _ hm))]
      by_cases c : i = 0
      · rw [decide_eq_true c]; rfl
      · have e2 : t.2.getD (i - 1) Q0 = t.2[i - 1] := by rw [List.getD_eq_getElem?_getD, List.getElem?_eq_getElem (by omega)]; rfl
        rw [e2, List.pairwise_iff_getElem.1 h.a (i - 1) i (by omega) hi (by omega)]
        simp
    · rw [e]
      exact List.all_eq_true.2 fun r hr => (inG_iff h.g.2).2 (h.i _ hm r hr)

theorem mem_g_idx {g : List Rq} {x : Int} : idxN g x < g.length ↔ ∃ r ∈ g, r.1 = x := by
  constructor
  · intro h
    have h3 : (fun y : Rq => y.1 == x) g[idxN g x] = true := List.findIdx_getElem (w := h)
    simp only [beq_iff_eq] at h3
    exact ⟨_, List.getElem_mem h, h3⟩
  · rintro ⟨r, hr, rfl⟩
    exact idxN_lt (List.mem_map_of_mem hr)

/-- When a request is granted a place, and what the table is then. -/
structure Fit23 (t : Td) (x : Int) (f : Ft) : Prop where
  v : VD t
  f : validF f = true
  nn : 0 ≤ x
  lt : ∀ r ∈ t.1, r.1 < x

def addT (t : Td) (x : Int) (f : Ft) : Td := (t.1 ++ [(x, f.all)], enqs (other f.w f.r) (x, false) (enqs f.w (x, true) t.2))

theorem reqD_ok {t : Td} {x : Int} {f : Ft} : ((reqD t x f).2 = 0 ↔ Fit23 t x f) ∧ ((reqD t x f).2 = 0 → (reqD t x f).1 = addT t x f) ∧ ((reqD t x f).2 ≠ 0 → (reqD t x f).1 = ([], [])) := by
  unfold reqD
  cases c1 : validD t with
  | false =>
    refine ⟨⟨fun h => by simp at h, fun h => ?_⟩, by simp, by simp⟩
    rw [validD_iff.2 h.v] at c1; cases c1
  | true =>
    have hv := validD_iff.1 c1
    cases c2 : validF f with
    | false =>
      refine ⟨⟨fun h => by simp at h, fun h => ?_⟩, by simp, by simp⟩
      rw [h.f] at c2; cases c2
    | true =>
      by_cases c3 : x < 0
      · rw [decide_eq_true c3]
        refine ⟨⟨fun h => by simp at h, fun h => ?_⟩, by simp, by simp⟩
        have := h.nn; omega
      · rw [decide_eq_false c3]
        by_cases c4 : idxN t.1 x < t.1.length
        · rw [if_pos c4]
          refine ⟨⟨fun h => by simp at h, fun h => ?_⟩, by simp, by simp⟩
          obtain ⟨r, hr, e⟩ := mem_g_idx.1 c4
          have := h.lt r hr; omega
        · rw [if_neg c4]
          have hnot : ∀ r ∈ t.1, r.1 ≠ x := fun r hr e => c4 (mem_g_idx.2 ⟨r, hr, e⟩)
          cases c5 : lastR t.1 x with
          | true =>
            refine ⟨⟨fun h => by simp at h, fun h => ?_⟩, by simp, by simp⟩
            unfold lastR at c5
            simp only [Bool.and_eq_true, decide_eq_true_eq] at c5
            rw [getD_rq t.1 _ (by omega)] at c5
            have := h.lt _ (List.getElem_mem (l := t.1) (n := t.1.length - 1) (by omega))
            omega
          | false =>
            refine ⟨⟨fun _ => ⟨hv, c2, by omega, fun r hr => ?_⟩, fun _ => by simp⟩, fun _ => by simp [addT], fun h => by simp at h⟩
            obtain ⟨i, hi, rfl⟩ := List.getElem_of_mem hr
            have h1 := hnot _ hr
            unfold lastR at c5
            rw [decide_eq_true (show 0 < t.1.length by omega), Bool.true_and, decide_eq_false_iff_not, getD_rq t.1 _ (by omega)] at c5
            have h3 := hnot _ (List.getElem_mem (l := t.1) (n := t.1.length - 1) (by omega))
            rcases Nat.lt_or_ge i (t.1.length - 1) with c | c
            · have := List.pairwise_iff_getElem.1 hv.g.2 i (t.1.length - 1) hi (by omega) c
              omega
            · have : i = t.1.length - 1 := by omega
              subst this; omega

theorem Fit23.nodup {t : Td} {x : Int} {f : Ft} (h : Fit23 t x f) : f.r.Nodup ∧ f.w.Nodup := validF_nodup h.f

theorem getQ_add {t : Td} {x : Int} {f : Ft} (h : Fit23 t x f) (k : ByteArray) : getQ (addT t x f).2 k = getQ t.2 k ++ lockOf f x k := getQ_req h.nodup.1 h.nodup.2 x h.v.a k

theorem lockOf_all {f : Ft} {x : Int} (hf : validF f = true) (ha : f.all = true) (k : ByteArray) : lockOf f x k = [] := by
  unfold validF at hf
  rw [if_pos ha] at hf
  simp only [Bool.and_eq_true, decide_eq_true_eq] at hf
  unfold lockOf
  rw [List.length_eq_zero_iff.1 hf.1, List.length_eq_zero_iff.1 hf.2]
  rfl

theorem mem_lockOf {f : Ft} {x : Int} {k : ByteArray} {r : Rq} (h : r ∈ lockOf f x k) : lockOf f x k = [r] ∧ r.1 = x ∧ (k ∈ f.w ∨ k ∈ f.r) := by
  unfold lockOf at h ⊢
  split at h
  · rename_i c
    rw [if_pos c]
    rw [List.mem_singleton] at h
    rw [h]
    exact ⟨rfl, rfl, .inl (hasB_iff.1 c)⟩
  · rename_i c
    rw [if_neg c]
    split at h
    · rename_i c2
      rw [if_pos c2]
      rw [List.mem_singleton] at h
      rw [h]
      exact ⟨rfl, rfl, .inr (hasB_iff.1 c2)⟩
    · cases h

theorem validF_key {f : Ft} (h : validF f = true) {k : ByteArray} (hk : k ∈ f.w ∨ k ∈ f.r) : vkey k = true := by
  unfold validF at h
  split at h
  · simp only [Bool.and_eq_true, decide_eq_true_eq] at h
    rw [List.length_eq_zero_iff.1 h.1, List.length_eq_zero_iff.1 h.2] at hk
    simp at hk
  · simp only [Bool.and_eq_true, decide_eq_true_eq] at h
    rcases hk with hk | hk
    · exact (ascB_iff.1 h.2.1).1 k hk
    · exact (ascB_iff.1 h.1.1).1 k hk

theorem VD.getQ {t : Td} (h : VD t) (k : ByteArray) : AscP (getQ t.2 k) ∧ ∀ r ∈ getQ t.2 k, (r.1, false) ∈ t.1 := by
  by_cases c : Go.Dv.Try.getQ t.2 k = []
  · rw [c]; exact ⟨⟨by simp, List.Pairwise.nil⟩, by simp⟩
  · have hm := getQ_has c
    exact ⟨h.r _ hm, h.i _ hm⟩

theorem AscD.enqs {qs : List Qd} (h : AscD qs) (ks : List ByteArray) (r : Rq) : AscD (enqs ks r qs) := AscD.enqK _ _ h
theorem NeQ.enqs {qs : List Qd} (h : NeQ qs) (ks : List ByteArray) (r : Rq) : NeQ (enqs ks r qs) := NeQ.enqK _ _ h

theorem Fit23.vd {t : Td} {x : Int} {f : Ft} (h : Fit23 t x f) : VD (addT t x f) := by
  have ha : AscD (addT t x f).2 := (h.v.a.enqs _ _).enqs _ _
  have hn : NeQ (addT t x f).2 := (h.v.n.enqs _ _).enqs _ _
  have hq : ∀ q ∈ (addT t x f).2, q.2 = getQ t.2 q.1 ++ lockOf f x q.1 := fun q hq => by rw [← getQ_add h, getQ_mem ha hq]
  refine ⟨⟨fun r hr => ?_, ?_⟩, ha, fun q hm => ?_, hn, fun q hm => ?_, fun q hm r hr => ?_⟩
  · rcases List.mem_append.1 hr with e | e
    · exact h.v.g.1 r e
    · rw [List.mem_singleton] at e; rw [e]; exact h.nn
  · unfold addT
    rw [List.pairwise_append]
    refine ⟨h.v.g.2, List.pairwise_singleton _ _, fun a ha b hb => ?_⟩
    rw [List.mem_singleton] at hb; rw [hb]; exact h.lt a ha
  · have h2 := hn q hm
    rw [hq q hm] at h2
    by_cases c : getQ t.2 q.1 = []
    · rw [c, List.nil_append] at h2
      obtain ⟨r, hr⟩ := List.exists_mem_of_ne_nil _ h2
      exact validF_key h.f (mem_lockOf hr).2.2
    · exact h.v.k (q.1, getQ t.2 q.1) (getQ_has c)
  · rw [hq q hm]
    obtain ⟨a1, a2⟩ := h.v.getQ q.1
    refine ⟨fun r hr => ?_, ?_⟩
    · rcases List.mem_append.1 hr with e | e
      · exact a1.1 r e
      · rw [(mem_lockOf e).2.1]; exact h.nn
    · rw [List.pairwise_append]
      refine ⟨a1.2, ?_, fun a ha b hb => ?_⟩
      · by_cases c : lockOf f x q.1 = []
        · rw [c]; exact List.Pairwise.nil
        · obtain ⟨r, hr⟩ := List.exists_mem_of_ne_nil _ c
          rw [(mem_lockOf hr).1]; exact List.pairwise_singleton _ _
      · rw [(mem_lockOf hb).2.1]
        exact h.lt (a.1, false) (a2 a ha)
  · rw [hq q hm] at hr
    unfold addT
    rcases List.mem_append.1 hr with e | e
    · exact List.mem_append_left _ ((h.v.getQ q.1).2 r e)
    · have h3 : f.all = false := by
        cases c : f.all with
        | false => rfl
        | true => rw [lockOf_all h.f c] at e; cases e
      rw [(mem_lockOf e).2.1, h3]
      exact List.mem_append_right _ (List.mem_singleton.2 rfl)

/-! ### Release -/

def delT (t : Td) (x : Int) : Td := (t.1.filter (notX x), relQ x t.2)

theorem relD_ok {t : Td} {x : Int} : ((relD t x).2 = 0 ↔ VD t ∧ ∃ r ∈ t.1, r.1 = x) ∧ ((relD t x).2 = 0 → (relD t x).1 = delT t x) ∧ ((relD t x).2 ≠ 0 → (relD t x).1 = ([], [])) := by
  unfold relD
  cases c1 : validD t with
  | false =>
    refine ⟨⟨fun h => by simp at h, fun h => ?_⟩, by simp, by simp⟩
    rw [validD_iff.2 h.1] at c1; cases c1
  | true =>
    have hv := validD_iff.1 c1
    by_cases c4 : idxN t.1 x < t.1.length
    · rw [if_neg (by simp), if_pos c4]
      exact ⟨⟨fun _ => ⟨hv, mem_g_idx.1 c4⟩, fun _ => rfl⟩, fun _ => rfl, fun h => absurd rfl h⟩
    · rw [if_neg (by simp), if_neg c4]
      refine ⟨⟨fun h => by simp at h, fun h => absurd (mem_g_idx.2 h.2) c4⟩, by simp, by simp⟩

theorem mem_relQ {x : Int} {qs : List Qd} {q : Qd} : q ∈ relQ x qs ↔ q.2 ≠ [] ∧ ∃ p ∈ qs, q = (p.1, p.2.filter (notX x)) := by
  unfold relQ
  rw [List.mem_filter, List.mem_map, decide_eq_true_eq, List.length_pos_iff]
  constructor
  · rintro ⟨⟨p, hp, e⟩, h⟩
    exact ⟨h, p, hp, e.symm⟩
  · rintro ⟨h, p, hp, e⟩
    exact ⟨⟨p, hp, e.symm⟩, h⟩

theorem AscD.relQ {x : Int} {qs : List Qd} (h : AscD qs) : AscD (relQ x qs) := by
  unfold Go.Dv.Try.relQ AscD
  refine List.Pairwise.filter _ ?_
  rw [List.pairwise_map]
  exact h

theorem notX_ne {x : Int} {r : Rq} : notX x r = true ↔ r.1 ≠ x := by unfold notX; simp

theorem VD.delT {t : Td} (h : VD t) (x : Int) : VD (delT t x) := by
  refine ⟨⟨fun r hr => h.g.1 r (List.mem_filter.1 hr).1, h.g.2.filter _⟩, h.a.relQ, fun q hq => ?_, fun q hq => (mem_relQ.1 hq).1, fun q hq => ?_, fun q hq r hr => ?_⟩
  · obtain ⟨_, p, hp, rfl⟩ := mem_relQ.1 hq
    exact h.k p hp
  · obtain ⟨_, p, hp, rfl⟩ := mem_relQ.1 hq
    exact ⟨fun r hr => (h.r p hp).1 r (List.mem_filter.1 hr).1, (h.r p hp).2.filter _⟩
  · obtain ⟨_, p, hp, rfl⟩ := mem_relQ.1 hq
    obtain ⟨h1, h2⟩ := List.mem_filter.1 hr
    exact List.mem_filter.2 ⟨h.i p hp r h1, notX_ne.2 (notX_ne.1 h2)⟩

theorem getQ_relQ {x : Int} (k : ByteArray) : ∀ {qs : List Qd}, AscD qs → getQ (relQ x qs) k = (getQ qs k).filter (notX x)
  | [], _ => rfl
  | q :: l, h => by
    have h2 := List.pairwise_cons.1 h
    have ih := getQ_relQ (x := x) k h2.2
    have e : relQ x (q :: l) = (if 0 < (q.2.filter (notX x)).length then [(q.1, q.2.filter (notX x))] else []) ++ relQ x l := by
      unfold relQ
      rw [List.map_cons]
      by_cases c : 0 < (q.2.filter (notX x)).length
      · rw [List.filter_cons_of_pos (by simp only; exact decide_eq_true c), if_pos c]; rfl
      · rw [List.filter_cons_of_neg (by simp only; rw [decide_eq_false c]; simp), if_neg c]; rfl
    rw [e, getQ]
    by_cases c : 0 < (q.2.filter (notX x)).length
    · rw [if_pos c, List.singleton_append, getQ, ih]
      by_cases ck : q.1 = k
      · rw [if_pos ck, if_pos ck]
      · rw [if_neg ck, if_neg ck]
    · rw [if_neg c, List.nil_append, ih]
      by_cases ck : q.1 = k
      · rw [if_pos ck]
        subst ck
        rw [getQ_none fun p hp => (slt_ne (h2.1 p hp)).symm]
        have : q.2.filter (notX x) = [] := List.length_eq_zero_iff.1 (by omega)
        rw [this]; rfl
      · rw [if_neg ck]

theorem vd_nil : VD ([], []) := ⟨⟨by simp, List.Pairwise.nil⟩, List.Pairwise.nil, by simp, by simp [NeQ], by simp, by simp⟩

theorem req_valid (t : Td) (x : Int) (f : Ft) : validD (reqD t x f).1 = true := by
  obtain ⟨a, b, c⟩ := reqD_ok (t := t) (x := x) (f := f)
  rw [validD_iff]
  by_cases h : (reqD t x f).2 = 0
  · rw [b h]; exact (a.1 h).vd
  · rw [c h]; exact vd_nil
theorem rel_valid (t : Td) (x : Int) : validD (relD t x).1 = true := by
  obtain ⟨a, b, c⟩ := relD_ok (t := t) (x := x)
  rw [validD_iff]
  by_cases h : (relD t x).2 = 0
  · rw [b h]; exact (a.1 h).1.delT x
  · rw [c h]; exact vd_nil


/-! ## L19 -/

def fewQ (q : Qu) : Bool := decide (q.reqs.length ≤ 40) && decide (q.key.size ≤ 100)
def fewT (t : Tb) : Bool := decide (t.g.length ≤ 40) && decide (t.qs.length ≤ 40) && t.qs.all fewQ

theorem l_few (t : Tb) (hl : t.qs.length ≤ 40) (K : Ex → St → Prop)
    (hx : t.qs.all fewQ = true → K (.exit 0) ⟨[], [], 0, [0]⟩)
    (hr : t.qs.all fewQ = false → ∀ s', aget s'.env 2 = some (.p (.bool false)) → K .ret s') : ∀ (m i : Nat), i + m = t.qs.length → (t.qs.take i).all fewQ = true →
    W tb a11_l0 ⟨[(1, .ptr 0 0), (3, .p (.int .i64 i))], [(0, .var false [.p (.slice t.gf (rqRow t.g)), .p (.slice t.qf (quRow t.qs))])], 1, [0]⟩ (LK tb (.ghost .lower a11_l0) K) := by
  intro m
  induction m with
  | zero =>
    rintro i hi ht
    have h1 : ¬ (i : Int) < t.qs.length := by omega
    rw [List.take_of_length_le (by omega)] at ht
    refine i_code (by unfold a11_l0; exact rfl) ?_
    repeat' (first | (simp (disch := omega) only [go_sem, seval, reduceCtorEq, h1, quRow_length]) | with_reducible exact Ev.mk | ((first | apply x_split | apply x_splitg) <;> intro hβ hb <;> (simp (disch := omega) only [go_sem, seval, reduceCtorEq, h1, quRow_length, hβ]) <;> clear hβ))
    exact hx ht
  | succ m ih =>
    rintro i hi ht
    have h1 : (i : Int) < t.qs.length := by omega
    have h2 : i < t.qs.length := by omega
    have h4 : (0 : Int) ≤ i := by omega
    have h3 := quRow_get t.qs i h2
    have bad : fewQ t.qs[i] = false → ∀ s', aget s'.env 2 = some (.p (.bool false)) → K .ret s' := fun h => hr (all_no _ _ i h2 h)
    have nxt : fewQ t.qs[i] = true → _ := fun h => ih (i + 1) (by omega) (all_step _ _ i h2 ht h)
    have hf : fewQ t.qs[i] = (decide (t.qs[i].reqs.length ≤ 40) && decide (t.qs[i].key.size ≤ 100)) := rfl
    refine i_code (by unfold a11_l0; exact rfl) ?_
    by_cases c1 : t.qs[i].reqs.length ≤ 40
    · have d1 : ¬ (40 : Int) < t.qs[i].reqs.length := by omega
      rw [decide_eq_true c1, Bool.true_and] at hf
      by_cases c2 : t.qs[i].key.size ≤ 100
      · have d2 : ¬ (100 : Int) < t.qs[i].key.size := by omega
        rw [decide_eq_true c2] at hf
        repeat' (first | (simp (disch := omega) only [go_sem, seval, reduceCtorEq, h1, h3, h4, d1, d2, quRow_length, rqRow_length]) | with_reducible exact Ev.mk | ((first | apply x_split | apply x_splitg) <;> intro hβ hb <;> (simp (disch := omega) only [go_sem, seval, reduceCtorEq, h1, h3, h4, d1, d2, quRow_length, rqRow_length, hβ]) <;> clear hβ))
        refine i_lk (W_round ?_)
        (try simp (disch := omega) only [go_sem, seval, reduceCtorEq])
        exact nxt hf
      · have d2 : (100 : Int) < t.qs[i].key.size := by omega
        rw [decide_eq_false c2] at hf
        repeat' (first | (simp (disch := omega) only [go_sem, seval, reduceCtorEq, h1, h3, h4, d1, d2, quRow_length, rqRow_length]) | with_reducible exact Ev.mk | ((first | apply x_split | apply x_splitg) <;> intro hβ hb <;> (simp (disch := omega) only [go_sem, seval, reduceCtorEq, h1, h3, h4, d1, d2, quRow_length, rqRow_length, hβ]) <;> clear hβ))
        exact bad hf _ rfl
    · have d1 : (40 : Int) < t.qs[i].reqs.length := by omega
      rw [decide_eq_false c1, Bool.false_and] at hf
      repeat' (first | (simp (disch := omega) only [go_sem, seval, reduceCtorEq, h1, h3, h4, d1, quRow_length, rqRow_length]) | with_reducible exact Ev.mk | ((first | apply x_split | apply x_splitg) <;> intro hβ hb <;> (simp (disch := omega) only [go_sem, seval, reduceCtorEq, h1, h3, h4, d1, quRow_length, rqRow_length, hβ]) <;> clear hβ))
      exact bad hf _ rfl

theorem ps_few23 (t : Tb) : PS tb 11 [.agg (tbC t)] (.bool (fewT t)) := by
  refine PS_of (af := a11) rfl rfl ?_
  unfold a11
  dsimp only [List.map, ofPV, initEnv, tbC]
  unfold fewT
  by_cases c1 : t.g.length ≤ 40
  · have d1 : ¬ (40 : Int) < t.g.length := by omega
    rw [decide_eq_true c1, Bool.true_and]
    by_cases c2 : t.qs.length ≤ 40
    · have d2 : ¬ (40 : Int) < t.qs.length := by omega
      rw [decide_eq_true c2, Bool.true_and]
      repeat' (first | (simp (disch := omega) only [go_sem, seval, reduceCtorEq, d1, d2, quRow_length, rqRow_length]) | with_reducible exact Ev.mk | ((first | apply x_split | apply x_splitg) <;> intro hβ hb <;> (simp (disch := omega) only [go_sem, seval, reduceCtorEq, d1, d2, quRow_length, rqRow_length, hβ]) <;> clear hβ))
      refine W_round ?_
      (try simp (disch := omega) only [go_sem, seval, reduceCtorEq])
      refine l_few t c2 _ ?_ ?_ t.qs.length 0 (by omega) rfl
      · intro h
        repeat' (first | (simp (disch := omega) only [go_sem, seval, reduceCtorEq]) | with_reducible exact Ev.mk | ((first | apply x_split | apply x_splitg) <;> intro hβ hb <;> (simp (disch := omega) only [go_sem, seval, reduceCtorEq, hβ]) <;> clear hβ))
        all_goals simp [pur, dep, h]
      · intro h s' hs
        (try simp (disch := omega) only [go_sem, seval, reduceCtorEq, hs])
        simp [pur, dep, h]
    · have d2 : (40 : Int) < t.qs.length := by omega
      rw [decide_eq_false c2, Bool.false_and]
      repeat' (first | (simp (disch := omega) only [go_sem, seval, reduceCtorEq, d1, d2, quRow_length, rqRow_length]) | with_reducible exact Ev.mk | ((first | apply x_split | apply x_splitg) <;> intro hβ hb <;> (simp (disch := omega) only [go_sem, seval, reduceCtorEq, d1, d2, quRow_length, rqRow_length, hβ]) <;> clear hβ))
      all_goals simp [pur, dep]
  · have d1 : (40 : Int) < t.g.length := by omega
    rw [decide_eq_false c1, Bool.false_and, Bool.false_and]
    repeat' (first | (simp (disch := omega) only [go_sem, seval, reduceCtorEq, d1, quRow_length, rqRow_length]) | with_reducible exact Ev.mk | ((first | apply x_split | apply x_splitg) <;> intro hβ hb <;> (simp (disch := omega) only [go_sem, seval, reduceCtorEq, d1, quRow_length, rqRow_length, hβ]) <;> clear hβ))
    all_goals simp [pur, dep]

theorem fewT_sm {t : Tb} (h : fewT t = true) : t.g.length ≤ 40 ∧ t.qs.length ≤ 40 ∧ ∀ q ∈ t.qs, q.reqs.length ≤ 40 ∧ q.key.size ≤ 100 := by
  unfold fewT at h
  simp only [Bool.and_eq_true, decide_eq_true_eq, List.all_eq_true, fewQ] at h
  exact ⟨h.1.1, h.1.2, h.2⟩
theorem fewT_sm2 {t : Tb} (h : fewT t = true) : Sm2 t := by
  obtain ⟨a, b, c⟩ := fewT_sm h
  exact ⟨⟨by omega, by omega, fun q hq => by have := (c q hq).1; omega⟩, fun q hq => by have := (c q hq).2; omega⟩

/-! ### the examples -/

abbrev kA : ByteArray := ⟨#[97]⟩
abbrev kB : ByteArray := ⟨#[98]⟩
def fA : Ft := ⟨false, true, [kA], true, []⟩
def fAB : Ft := ⟨false, true, [kA], true, [kB]⟩
def fWA : Ft := ⟨false, true, [], true, [kA]⟩
def fAll : Ft := ⟨true, true, [], true, []⟩
def fNo : Ft := ⟨false, true, [], true, []⟩

theorem ps_footA : PS tb 32 [.str kA, .str ⟨#[]⟩] (.agg (ftC fA)) := by
  have e1 : decide (kA = (⟨#[]⟩ : ByteArray)) = false := by decide
  refine PS_of (af := a32) rfl rfl ?_
  unfold a32
  dsimp only [List.map, ofPV, initEnv]
  repeat' (first | (simp (disch := omega) only [go_sem, seval, reduceCtorEq, e1]) | with_reducible exact Ev.mk | ((first | apply x_split | apply x_splitg) <;> intro hβ hb <;> (simp (disch := omega) only [go_sem, seval, reduceCtorEq, e1, hβ]) <;> clear hβ))
  all_goals rfl
theorem ps_footAB : PS tb 32 [.str kA, .str kB] (.agg (ftC fAB)) := by
  have e1 : decide (kA = (⟨#[]⟩ : ByteArray)) = false := by decide
  have e2 : decide (kB = (⟨#[]⟩ : ByteArray)) = false := by decide
  refine PS_of (af := a32) rfl rfl ?_
  unfold a32
  dsimp only [List.map, ofPV, initEnv]
  repeat' (first | (simp (disch := omega) only [go_sem, seval, reduceCtorEq, e1, e2]) | with_reducible exact Ev.mk | ((first | apply x_split | apply x_splitg) <;> intro hβ hb <;> (simp (disch := omega) only [go_sem, seval, reduceCtorEq, e1, e2, hβ]) <;> clear hβ))
  all_goals rfl
theorem ps_footWA : PS tb 32 [.str ⟨#[]⟩, .str kA] (.agg (ftC fWA)) := by
  have e1 : decide (kA = (⟨#[]⟩ : ByteArray)) = false := by decide
  refine PS_of (af := a32) rfl rfl ?_
  unfold a32
  dsimp only [List.map, ofPV, initEnv]
  repeat' (first | (simp (disch := omega) only [go_sem, seval, reduceCtorEq, e1]) | with_reducible exact Ev.mk | ((first | apply x_split | apply x_splitg) <;> intro hβ hb <;> (simp (disch := omega) only [go_sem, seval, reduceCtorEq, e1, hβ]) <;> clear hβ))
  all_goals rfl

def tA : Td := ([(0, false)], [(kA, [(0, false)])])
def tB : Td := ([(0, false), (1, false)], [(kA, [(0, false), (1, false)]), (kB, [(1, true)])])
def tC : Td := ([(0, false), (1, false), (2, false)], [(kA, [(0, false), (1, false), (2, true)]), (kB, [(1, true)])])
def tD : Td := ([(1, false), (2, false)], [(kA, [(1, false), (2, true)]), (kB, [(1, true)])])
def tX : Td := ([(0, false), (1, true)], [(kA, [(0, false)])])
def tY : Td := ([(0, false), (1, true), (2, false)], [(kA, [(0, false)])])

theorem eA : reqD ([], []) 0 fA = (tA, 0) := by decide +kernel
theorem eB : reqD tA 1 fAB = (tB, 0) := by decide +kernel
theorem eC : reqD tB 2 fWA = (tC, 0) := by decide +kernel
theorem eD : relD tC 0 = (tD, 0) := by decide +kernel
theorem eX : reqD tA 1 fAll = (tX, 0) := by decide +kernel
theorem eY : reqD tX 2 fNo = (tY, 0) := by decide +kernel
theorem eZ : reqD tY 1 fNo = (([], []), 8) := by decide +kernel
theorem vC : validD tC = true := by decide +kernel
theorem vD : validD tD = true := by decide +kernel
theorem vX : validD tX = true := by decide +kernel
theorem vY : validD tY = true := by decide +kernel
theorem wC0 : waitsL tC 0 = [] := by rw [← waitsR_eq vC]; decide +kernel
theorem wC1 : waitsL tC 1 = [] := by rw [← waitsR_eq vC]; decide +kernel
theorem wC2 : waitsL tC 2 = [0, 1] := by rw [← waitsR_eq vC]; decide +kernel
theorem wD2 : waitsV tD 2 = [1] := by unfold waitsV; rw [if_pos vD, ← waitsR_eq vD]; decide +kernel
theorem wX1 : waitsV tX 1 = [0] := by unfold waitsV; rw [if_pos vX, ← waitsR_eq vX]; decide +kernel
theorem wY2 : waitsV tY 2 = [1] := by unfold waitsV; rw [if_pos vY, ← waitsR_eq vY]; decide +kernel
theorem wVC2 : waitsV tC 2 = [0, 1] := by unfold waitsV; rw [if_pos vC, wC2]
theorem rC : readyD tC = [0, 1] := by
  unfold readyD
  rw [if_pos vC]
  simp [tC, List.filter, show waitsL ([(0, false), (1, false), (2, false)], [(kA, [(0, false), (1, false), (2, true)]), (kB, [(1, true)])]) 0 = [] from wC0, show waitsL ([(0, false), (1, false), (2, false)], [(kA, [(0, false), (1, false), (2, true)]), (kB, [(1, true)])]) 1 = [] from wC1, show waitsL ([(0, false), (1, false), (2, false)], [(kA, [(0, false), (1, false), (2, true)]), (kB, [(1, true)])]) 2 = [0, 1] from wC2]
theorem gC1 : grantedD tC 1 = true := by unfold grantedD; rw [vC, wC1]; decide +kernel
theorem gC2 : grantedD tC 2 = false := by unfold grantedD; rw [vC, wC2]; decide +kernel

theorem sm_of {t : Tb} {d : Td} (h : t.d = d) (h1 : d.1.length ≤ 100) (h2 : d.2.length ≤ 100) (h3 : ∀ q ∈ d.2, q.2.length ≤ 100) : Sm t := by
  subst h
  refine ⟨by have : t.d.1 = t.g := rfl; rw [this] at h1; omega, by simp [Tb.d] at h2; omega, fun q hq => ?_⟩
  have := h3 q.d (List.mem_map_of_mem hq)
  simp [Qu.d] at this; omega

theorem ps_req' (t : Tb) (x : Int) (f : Ft) (d : Td) (e : Int) (h : Sm t) (hf : ShF f) (hd : reqD t.d x f = (d, e)) : ∃ a : Tb, a.d = d ∧ PS tb 14 [.agg (tbC t), .int .i64 x, .agg (ftC f)] (.tuple [.agg (tbC a), .int .i64 e]) := by
  have := ps_request t x f (by have := h.g; omega) (by have := h.q; omega) (fun q hq => by have := h.r q hq; omega) hf
  rw [hd] at this
  exact this
theorem ps_rel' (t : Tb) (x : Int) (d : Td) (e : Int) (h : Sm t) (hd : relD t.d x = (d, e)) : ∃ a : Tb, a.d = d ∧ PS tb 26 [.agg (tbC t), .int .i64 x] (.tuple [.agg (tbC a), .int .i64 e]) := by
  have := ps_release t x (by have := h.g; omega) (by have := h.q; omega) (fun q hq => by have := h.r q hq; omega)
  rw [hd] at this
  exact this

theorem ps_works : PS tb 13 [] (.bool true) := by
  have sT : Sm T0 := ⟨by simp [T0], by simp [T0], by simp [T0]⟩
  have hsA : ShF fA := by refine ⟨⟨by simp [fA], fun x hx => ?_⟩, ⟨by simp [fA], fun x hx => ?_⟩⟩ <;> simp [fA] at hx <;> subst hx <;> decide
  have hsAB : ShF fAB := by refine ⟨⟨by simp [fAB], fun x hx => ?_⟩, ⟨by simp [fAB], fun x hx => ?_⟩⟩ <;> simp [fAB] at hx <;> subst hx <;> decide
  have hsWA : ShF fWA := by refine ⟨⟨by simp [fWA], fun x hx => ?_⟩, ⟨by simp [fWA], fun x hx => ?_⟩⟩ <;> simp [fWA] at hx <;> subst hx <;> decide
  have hsAll : ShF fAll := ⟨⟨by simp [fAll], by simp [fAll]⟩, ⟨by simp [fAll], by simp [fAll]⟩⟩
  have hsNo : ShF fNo := ⟨⟨by simp [fNo], by simp [fNo]⟩, ⟨by simp [fNo], by simp [fNo]⟩⟩
  obtain ⟨a, ha, pa⟩ := ps_req' T0 0 fA tA 0 sT hsA eA
  have sa : Sm a := sm_of ha (by decide) (by decide) (by decide)
  obtain ⟨b, hb, pb⟩ := ps_req' a 1 fAB tB 0 sa hsAB (by rw [ha]; exact eB)
  have sb : Sm b := sm_of hb (by decide) (by decide) (by decide)
  obtain ⟨c, hc, pc⟩ := ps_req' b 2 fWA tC 0 sb hsWA (by rw [hb]; exact eC)
  have sc : Sm c := sm_of hc (by decide) (by decide) (by decide)
  obtain ⟨d, hd, pd⟩ := ps_rel' c 0 tD 0 sc (by rw [hc]; exact eD)
  have sd : Sm d := sm_of hd (by decide) (by decide) (by decide)
  obtain ⟨x, hx, px⟩ := ps_req' a 1 fAll tX 0 sa hsAll (by rw [ha]; exact eX)
  have sx : Sm x := sm_of hx (by decide) (by decide) (by decide)
  obtain ⟨y, hy, py⟩ := ps_req' x 2 fNo tY 0 sx hsNo (by rw [hx]; exact eY)
  have sy : Sm y := sm_of hy (by decide) (by decide) (by decide)
  obtain ⟨z, hz, pz⟩ := ps_req' y 1 fNo ([], []) 8 sy hsNo (by rw [hy]; exact eZ)
  have vy := ps_valid y (by have := sy.g; omega) (by have := sy.q; omega) (fun q hq => by have := sy.r q hq; omega)
  rw [hy, vY] at vy
  obtain ⟨b1, q1⟩ := ps_ready c sc
  rw [hc, rC] at q1
  obtain ⟨b2, q2⟩ := ps_Waits c 2 sc
  rw [hc, wVC2] at q2
  obtain ⟨b3, q3⟩ := ps_Waits d 2 sd
  rw [hd, wD2] at q3
  obtain ⟨b4, q4⟩ := ps_Waits x 1 sx
  rw [hx, wX1] at q4
  obtain ⟨b5, q5⟩ := ps_Waits y 2 sy
  rw [hy, wY2] at q5
  have q6 := ps_granted c 1 sc
  rw [hc, gC1] at q6
  have q7 := ps_granted c 2 sc
  rw [hc, gC2] at q7
  have i1 := ps_ints [0, 1] [0, 1] b1 true (by simp)
  have i2 := ps_ints [0, 1] [0, 1] b2 true (by simp)
  have i3 := ps_ints [1] [1] b3 true (by simp)
  have i4 := ps_ints [0] [0] b4 true (by simp)
  have i5 := ps_ints [1] [1] b5 true (by simp)
  rw [decide_eq_true rfl] at i1 i2 i3 i4 i5
  have pfa := ps_footA
  have pfab := ps_footAB
  have pfwa := ps_footWA
  refine PS_of (af := a13) rfl rfl ?_
  unfold a13
  dsimp only [List.map, ofPV, initEnv, tbC, T0, ftC, fA, fAB, fWA, fAll, fNo, intCells, strRow, rqRow_nil, quRow_nil, List.map_cons, List.map_nil] at *
  repeat' (first | exact pa | exact pb | exact pc | exact pd | exact px | exact py | exact pz | exact vy | exact q1 | exact q2 | exact q3 | exact q4 | exact q5 | exact q6 | exact q7 | exact i1 | exact i2 | exact i3 | exact i4 | exact i5 | exact pfa | exact pfab | exact pfwa | (simp (disch := omega) only [go_sem, seval, reduceCtorEq]) | with_reducible exact Ev.mk | apply x_call | ((first | apply x_split | apply x_splitg) <;> intro hβ hb <;> (simp (disch := omega) only [go_sem, seval, reduceCtorEq, hβ]) <;> clear hβ))
  all_goals trace_state
  all_goals sorry


/-! ## P20 -/

theorem fit_str {y : PV} (h : Fit .str y) : ∃ s, y = .str s := by
  cases h with
  | str s h => exact ⟨s, rfl⟩
theorem fit_bool {y : PV} (h : Fit .bool y) : ∃ s, y = .bool s := by
  cases h with
  | bool s => exact ⟨s, rfl⟩
theorem fit_strs {y : PV} (h : Fit (.slice [.str]) y) : ∃ l, y = .slice false (strRow l) := by
  cases h with
  | slice l xs h hl hr =>
    have : ∀ xs : List (List PV), (∀ x ∈ xs, ∃ n, x = [.str n]) → ∃ l, xs = strRow l := by
      intro xs
      induction xs with
      | nil => intro _; exact ⟨[], rfl⟩
      | cons x xs ih =>
        intro hx
        obtain ⟨n, hn⟩ := hx x (by simp)
        obtain ⟨l, hl⟩ := ih fun y hy => hx y (by simp [hy])
        exact ⟨n :: l, by rw [hn, hl]; rfl⟩
    obtain ⟨l, e⟩ := this xs fun x hx => by
      have h1 := hl x hx
      obtain ⟨i, hi⟩ := List.mem_iff_getElem?.1 hx
      cases x with
      | nil => simp at h1
      | cons a r =>
        have h2 : r = [] := by simpa using h1
        subst h2
        obtain ⟨n, rfl⟩ := fit_str (hr i _ 0 _ _ hi rfl rfl)
        exact ⟨n, rfl⟩
    exact ⟨l, by rw [e]⟩
theorem fit_foot {u : List PV} (h : Fits [.bool, .slice [.str], .slice [.str]] u) : ∃ f : Ft, u = ftC f := by
  obtain ⟨y0, u0, rfl, e0, h⟩ := h.cons
  obtain ⟨y1, u1, rfl, e1, h⟩ := h.cons
  obtain ⟨y2, u2, rfl, e2, h⟩ := h.cons
  have hn := h.nil
  subst hn
  obtain ⟨n0, rfl⟩ := fit_bool e0
  obtain ⟨n1, rfl⟩ := fit_strs e1
  obtain ⟨n2, rfl⟩ := fit_strs e2
  exact ⟨⟨n0, false, n1, false, n2⟩, rfl⟩

theorem fit_rowsH {α : Type} {sh : List Go.Dv.Sh} {y : PV} {c : α → List PV} {P : α → Prop} (hc : ∀ u, Fits sh u → ∃ a, u = c a ∧ P a) (h : Fit (.slice sh) y) : ∃ l : List α, y = .slice false (l.map c) ∧ l.length ≤ 9223372036854775807 ∧ ∀ a ∈ l, P a := by
  cases h with
  | slice l xs h hl hr =>
    have : ∀ xs : List (List PV), (∀ x ∈ xs, Fits sh x) → ∃ l : List α, xs = l.map c ∧ ∀ a ∈ l, P a := by
      intro xs
      induction xs with
      | nil => intro _; exact ⟨[], rfl, by simp⟩
      | cons x xs ih =>
        intro hx
        obtain ⟨n, hn, hp⟩ := hc x (hx x (by simp))
        obtain ⟨l, hl, hq⟩ := ih fun y hy => hx y (by simp [hy])
        exact ⟨n :: l, by rw [hn, hl]; rfl, fun a ha => by rcases List.mem_cons.1 ha with rfl | e; exact hp; exact hq a e⟩
    obtain ⟨l, e, hp⟩ := this xs fun x hx => ⟨hl x hx, fun j s y h1 h2 => by
      obtain ⟨i, hi⟩ := List.mem_iff_getElem?.1 hx
      exact hr i x j s y hi h1 h2⟩
    refine ⟨l, by rw [e], ?_, hp⟩
    rw [e] at h
    simpa [maxLen] using h

theorem fit_intH {y : PV} (h : Fit (.int .i64) y) : ∃ n, y = .int .i64 n ∧ -9223372036854775808 ≤ n ∧ n ≤ 9223372036854775807 := by
  cases h with
  | int k n h =>
    refine ⟨n, rfl, ?_⟩
    simp [Lit.wf, IntKind.min, IntKind.max, IntKind.signed, IntKind.bits] at h
    omega


theorem fit_reqs {y : PV} (h : Fit (.slice [.int .i64, .bool]) y) : ∃ l : List Rq, y = .slice false (rqRow l) := by
  obtain ⟨l, e, hl, _⟩ := fit_rowsH (c := rqC) (P := fun _ => True) (fun u h => by
    obtain ⟨y0, u0, rfl, e0, h⟩ := h.cons
    obtain ⟨y1, u1, rfl, e1, h⟩ := h.cons
    have hn := h.nil
    subst hn
    obtain ⟨n, rfl, _⟩ := fit_intH e0
    obtain ⟨b, rfl⟩ := fit_bool e1
    exact ⟨(n, b), rfl, trivial⟩) h
  exact ⟨l, e⟩
theorem fit_queues {y : PV} (h : Fit (.slice [.str, .slice [.int .i64, .bool]]) y) : ∃ l : List Qu, y = .slice false (quRow l) := by
  obtain ⟨l, e, hl, _⟩ := fit_rowsH (c := quC) (P := fun _ => True) (fun u h => by
    obtain ⟨y0, u0, rfl, e0, h⟩ := h.cons
    obtain ⟨y1, u1, rfl, e1, h⟩ := h.cons
    have hn := h.nil
    subst hn
    obtain ⟨k, rfl⟩ := fit_str e0
    obtain ⟨r, rfl⟩ := fit_reqs e1
    exact ⟨⟨k, false, r⟩, rfl, trivial⟩) h
  exact ⟨l, e⟩
theorem fit_table {u : List PV} (h : Fits [.slice [.int .i64, .bool], .slice [.str, .slice [.int .i64, .bool]]] u) : ∃ t : Tb, u = tbC t := by
  obtain ⟨y0, u0, rfl, e0, h⟩ := h.cons
  obtain ⟨y1, u1, rfl, e1, h⟩ := h.cons
  have hn := h.nil
  subst hn
  obtain ⟨g, rfl⟩ := fit_reqs e0
  obtain ⟨q, rfl⟩ := fit_queues e1
  exact ⟨⟨false, g, false, q⟩, rfl⟩

/-! ### sizes -/

structure SzD (n : Nat) (d : Td) : Prop where
  g : d.1.length ≤ n
  b : Bd n d.2

theorem SzD.mono {n m : Nat} {d : Td} (h : SzD n d) (hn : n ≤ m) : SzD m d := ⟨by have := h.g; omega, by have := h.b.1; omega, fun q hq => by have := h.b.2 q hq; omega⟩
theorem SzD.tb {n : Nat} {a : Tb} {d : Td} (h : SzD n d) (e : a.d = d) : a.g.length ≤ n ∧ a.qs.length ≤ n ∧ ∀ q ∈ a.qs, q.reqs.length ≤ n := by
  subst e
  refine ⟨h.g, by have := h.b.1; simpa [Tb.d] using this, fun q hq => ?_⟩
  have := h.b.2 q.d (List.mem_map_of_mem hq)
  simpa [Qu.d] using this
theorem SzD.of {n : Nat} {t : Tb} (h1 : t.g.length ≤ n) (h2 : t.qs.length ≤ n) (h3 : ∀ q ∈ t.qs, q.reqs.length ≤ n) : SzD n t.d := by
  refine ⟨h1, by simpa [Tb.d] using h2, fun q hq => ?_⟩
  obtain ⟨p, hp, rfl⟩ := List.mem_map.1 hq
  exact h3 p hp
theorem Bd.enqs (r : Rq) : ∀ (ks : List ByteArray) {n : Nat} {qs : List Qd}, Bd n qs → Bd (n + ks.length) (enqs ks r qs)
  | [], _, _, h => h
  | k :: ks, n, qs, h => by
    have := Bd.enqs r ks (h.enq k r)
    have e : n + 1 + ks.length = n + (k :: ks).length := by simp; omega
    rw [e] at this
    exact this
theorem SzD.req {n : Nat} {t : Td} {f : Ft} (h : SzD n t) (x : Int) (hf : f.r.length + f.w.length ≤ 200) : SzD (n + 201) (reqD t x f).1 := by
  obtain ⟨_, b, c⟩ := reqD_ok (t := t) (x := x) (f := f)
  by_cases e : (reqD t x f).2 = 0
  · rw [b e]
    have h1 := (h.b.enqs (x, true) f.w).enqs (x, false) (other f.w f.r)
    have h2 : (other f.w f.r).length ≤ f.r.length := List.length_filter_le _ _
    refine ⟨by unfold addT; simp; have := h.g; omega, ?_⟩
    exact ⟨by have := h1.1; unfold addT; simp only; omega, fun q hq => by have := h1.2 q hq; omega⟩
  · rw [c e]
    exact ⟨by simp, by simp, by simp⟩
theorem SzD.rel {n : Nat} {t : Td} (h : SzD n t) (x : Int) : SzD n (relD t x).1 := by
  obtain ⟨_, b, c⟩ := relD_ok (t := t) (x := x)
  by_cases e : (relD t x).2 = 0
  · rw [b e]
    refine ⟨by unfold delT; have := List.length_filter_le (notX x) t.1; have := h.g; simp only; omega, ?_, fun q hq => ?_⟩
    · unfold delT relQ
      have h1 := List.length_filter_le (fun q : Qd => decide (0 < q.2.length)) (t.2.map fun q => (q.1, q.2.filter (notX x)))
      rw [List.length_map] at h1
      have := h.b.1
      simp only; omega
    · obtain ⟨_, p, hp, rfl⟩ := mem_relQ.1 hq
      have h1 := List.length_filter_le (notX x) p.2
      have := h.b.2 p hp
      simp only; omega
  · rw [c e]
    exact ⟨by simp, by simp, by simp⟩

theorem fewF_len {f : Ft} (h : fewF 40 f = true) : f.r.length ≤ 40 ∧ f.w.length ≤ 40 := by
  simp only [fewF, Bool.and_eq_true, decide_eq_true_eq] at h
  exact ⟨h.1.1.1, h.1.1.2⟩

theorem szT {t : Tb} (h : fewT t = true) : SzD 40 t.d := by
  obtain ⟨a, b, c⟩ := fewT_sm h
  exact SzD.of a b fun q hq => (c q hq).1


end Go.Dv.Try
