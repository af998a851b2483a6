/-
  Specifications: P21, P23, P24, P25.
-/
import Derived.Test.YtkpadkncediliaaLP
set_option linter.unusedVariables false
set_option linter.unusedSimpArgs false
set_option maxRecDepth 100000
set_option maxHeartbeats 4000000
namespace Go.Dv.Try
open Go Go.Dv

/-! ## P21 -/

/-- The request b, of transaction x, waits for a. -/
def Pq (x : Int) (a b : Rq) : Prop := b.1 = x ∧ a.1 < x ∧ (a.2 || b.2) = true

theorem mem_bef {l : List Rq} (h : AscP l) {x y : Int} : y ∈ beforeL l x ↔ ∃ a ∈ l, ∃ b ∈ l, a.1 = y ∧ Pq x a b := by
  unfold beforeL
  constructor
  · intro hm
    split at hm
    · rename_i c
      obtain ⟨a, ha, rfl⟩ := List.mem_map.1 hm
      obtain ⟨h1, h2⟩ := List.mem_filter.1 ha
      have h3 : (fun r : Rq => r.1 == x) l[idxN l x] = true := List.findIdx_getElem (w := c)
      simp only [beq_iff_eq] at h3
      obtain ⟨i, hi, rfl⟩ := List.getElem_of_mem h1
      rw [List.length_take] at hi
      rw [List.getElem_take]
      have hlt := List.pairwise_iff_getElem.1 h.2 i (idxN l x) (by omega) c (by omega)
      unfold befF at h2
      rw [getD_rq l _ c, List.getElem_take] at h2
      exact ⟨l[i], List.getElem_mem _, l[idxN l x], List.getElem_mem c, rfl, h3, by omega, h2⟩
    · cases hm
  · rintro ⟨a, ha, b, hb, rfl, h1, h2, h3⟩
    obtain ⟨j, hj, rfl⟩ := List.getElem_of_mem hb
    obtain ⟨i, hi, rfl⟩ := List.getElem_of_mem ha
    have e : idxN l x = j := by rw [← h1]; exact idxN_at h.2 hj
    have hij : i < j := by
      rcases Nat.lt_trichotomy i j with c | c | c
      · exact c
      · subst c; omega
      · have := List.pairwise_iff_getElem.1 h.2 j i hj hi c
        omega
    rw [e, if_pos hj]
    refine List.mem_map.2 ⟨l[i], List.mem_filter.2 ⟨?_, ?_⟩, rfl⟩
    · rw [List.mem_iff_getElem]
      exact ⟨i, by rw [List.length_take]; omega, by rw [List.getElem_take]⟩
    · unfold befF
      rw [getD_rq l _ hj]
      exact h3

/-- Nobody is waited for. -/
structure Free (t : Td) (x : Int) : Prop where
  g : ∀ a ∈ t.1, ∀ b ∈ t.1, ¬ Pq x a b
  q : ∀ q ∈ t.2, ∀ a ∈ q.2, ∀ b ∈ q.2, ¬ Pq x a b

theorem waits_nil {t : Td} (h : VD t) {x : Int} : waitsL t x = [] ↔ Free t x := by
  rw [List.eq_nil_iff_forall_not_mem]
  constructor
  · intro hn
    refine ⟨fun a ha b hb hp => hn a.1 ?_, fun q hq a ha b hb hp => hn a.1 ?_⟩
    · rw [mem_waitsL]
      exact List.mem_append_left _ ((mem_bef h.g).2 ⟨a, ha, b, hb, rfl, hp⟩)
    · rw [mem_waitsL]
      exact List.mem_append_right _ (List.mem_flatMap.2 ⟨q, hq, (mem_bef (h.r q hq)).2 ⟨a, ha, b, hb, rfl, hp⟩⟩)
  · intro hf y hy
    rw [mem_waitsL] at hy
    rcases List.mem_append.1 hy with e | e
    · obtain ⟨a, ha, b, hb, _, hp⟩ := (mem_bef h.g).1 e
      exact hf.g a ha b hb hp
    · obtain ⟨q, hq, e⟩ := List.mem_flatMap.1 e
      obtain ⟨a, ha, b, hb, _, hp⟩ := (mem_bef (h.r q hq)).1 e
      exact hf.q q hq a ha b hb hp

theorem granted_iff {t : Td} {x : Int} : grantedD t x = true ↔ VD t ∧ (∃ r ∈ t.1, r.1 = x) ∧ Free t x := by
  unfold grantedD
  rw [Bool.and_eq_true, Bool.and_eq_true, decide_eq_true_eq, decide_eq_true_eq, validD_iff, mem_g_idx]
  constructor
  · rintro ⟨⟨a, b⟩, c⟩
    exact ⟨a, b, (waits_nil a).1 (List.length_eq_zero_iff.1 c)⟩
  · rintro ⟨a, b, c⟩
    exact ⟨⟨a, b⟩, by rw [(waits_nil a).2 c]; rfl⟩

theorem mem_ready {t : Td} {x : Int} : x ∈ readyD t ↔ grantedD t x = true := by
  rw [← readyR_eq, List.mem_filter]
  refine ⟨fun h => h.2, fun h => ⟨?_, h⟩⟩
  obtain ⟨_, ⟨r, hr, e⟩, _⟩ := granted_iff.1 h
  rw [← e]; exact List.mem_map_of_mem hr

theorem stays_req {t : Td} {x r : Int} {f : Ft} (h : Fit23 t x f) (hr : grantedD t r = true) : grantedD (addT t x f) r = true := by
  obtain ⟨hv, ⟨s, hs, e⟩, hf⟩ := granted_iff.1 hr
  have hlt : r < x := by rw [← e]; exact h.lt s hs
  refine granted_iff.2 ⟨h.vd, ⟨s, List.mem_append_left _ hs, e⟩, ⟨fun a ha b hb hp => ?_, fun q hq a ha b hb hp => ?_⟩⟩
  · obtain ⟨p1, p2, p3⟩ := hp
    have a' : a ∈ t.1 := by
      rcases List.mem_append.1 ha with c | c
      · exact c
      · rw [List.mem_singleton] at c; rw [c] at p2; simp only at p2; omega
    have b' : b ∈ t.1 := by
      rcases List.mem_append.1 hb with c | c
      · exact c
      · rw [List.mem_singleton] at c; rw [c] at p1; simp only at p1; omega
    exact hf.g a a' b b' ⟨p1, p2, p3⟩
  · obtain ⟨p1, p2, p3⟩ := hp
    have hq2 : q.2 = getQ t.2 q.1 ++ lockOf f x q.1 := by rw [← getQ_add h, getQ_mem h.vd.a hq]
    rw [hq2] at ha hb
    have a' : a ∈ getQ t.2 q.1 := by
      rcases List.mem_append.1 ha with c | c
      · exact c
      · have := (mem_lockOf c).2.1; omega
    have b' : b ∈ getQ t.2 q.1 := by
      rcases List.mem_append.1 hb with c | c
      · exact c
      · have := (mem_lockOf c).2.1; omega
    have hm : (q.1, getQ t.2 q.1) ∈ t.2 := getQ_has (List.ne_nil_of_mem a')
    exact hf.q _ hm a a' b b' ⟨p1, p2, p3⟩

theorem stays_rel {t : Td} {x r : Int} (hx : r ≠ x) (hr : grantedD t r = true) : grantedD (delT t x) r = true := by
  obtain ⟨hv, ⟨s, hs, e⟩, hf⟩ := granted_iff.1 hr
  refine granted_iff.2 ⟨hv.delT x, ⟨s, List.mem_filter.2 ⟨hs, notX_ne.2 (by omega)⟩, e⟩, ⟨fun a ha b hb hp => ?_, fun q hq a ha b hb hp => ?_⟩⟩
  · exact hf.g a (List.mem_filter.1 ha).1 b (List.mem_filter.1 hb).1 hp
  · obtain ⟨_, p, hp2, rfl⟩ := mem_relQ.1 hq
    exact hf.q p hp2 a (List.mem_filter.1 ha).1 b (List.mem_filter.1 hb).1 hp

theorem gone {t : Td} {x : Int} : grantedD (delT t x) x = false := by
  cases c : grantedD (delT t x) x with
  | false => rfl
  | true =>
    obtain ⟨_, ⟨s, hs, e⟩, _⟩ := granted_iff.1 c
    exact absurd e (notX_ne.1 (List.mem_filter.1 hs).2)

theorem first_free {t : Td} (hv : VD t) (h : 0 < t.1.length) : waitsL t t.1[0].1 = [] := by
  have hmin : ∀ r ∈ t.1, t.1[0].1 ≤ r.1 := fun r hr => by
    obtain ⟨i, hi, rfl⟩ := List.getElem_of_mem hr
    rcases Nat.eq_zero_or_pos i with e | e
    · subst e; omega
    · have := List.pairwise_iff_getElem.1 hv.g.2 0 i h hi e
      omega
  refine (waits_nil hv).2 ⟨fun a ha b hb hp => ?_, fun q hq a ha b hb hp => ?_⟩
  · have := hmin a ha
    have := hp.2.1
    omega
  · have := hmin _ (hv.i q hq a ha)
    have := hp.2.1
    simp only at *
    omega



/-! ## P23 -/

def ftAt (l : List Ft) (i : Nat) : Ft := l.getD i fNo

/-- The table in which the first n have requested. -/
def filT (l : List Ft) : Nat → Td
  | 0 => ([], [])
  | n + 1 => addT (filT l n) (n : Int) (ftAt l n)

/-- The table under work: who is in it has all its requests in it. -/
structure LI (l : List Ft) (t : Td) : Prop where
  v : VD t
  g : ∀ r ∈ t.1, ∃ i : Nat, i < l.length ∧ r = ((i : Int), (ftAt l i).all)
  q : ∀ i : Nat, (∃ r ∈ t.1, r.1 = (i : Int)) → ∀ k, ∀ r ∈ lockOf (ftAt l i) (i : Int) k, r ∈ getQ t.2 k

def allV (l : List Ft) : Prop := ∀ f ∈ l, validF f = true
theorem allV.at {l : List Ft} (h : allV l) {i : Nat} (hi : i < l.length) : validF (ftAt l i) = true := by
  unfold ftAt
  rw [List.getD_eq_getElem?_getD, List.getElem?_eq_getElem hi]
  exact h _ (List.getElem_mem hi)

theorem fil_ok {l : List Ft} (h : allV l) : ∀ n, n ≤ l.length → LI l (filT l n) ∧ ∀ r ∈ (filT l n).1, r.1 < (n : Int)
  | 0, _ => ⟨⟨vd_nil, by simp [filT], by simp [filT]⟩, by simp [filT]⟩
  | n + 1, hn => by
    obtain ⟨ih, hlt⟩ := fil_ok h n (by omega)
    have hf : Fit23 (filT l n) (n : Int) (ftAt l n) := ⟨ih.v, h.at (by omega), by omega, hlt⟩
    refine ⟨⟨hf.vd, fun r hr => ?_, fun i hi k r hr => ?_⟩, fun r hr => ?_⟩
    · rcases List.mem_append.1 hr with e | e
      · exact ih.g r e
      · rw [List.mem_singleton] at e
        exact ⟨n, by omega, e⟩
    · show r ∈ getQ (addT (filT l n) n (ftAt l n)).2 k
      rw [getQ_add hf]
      obtain ⟨s, hs, e⟩ := hi
      rcases List.mem_append.1 hs with c | c
      · exact List.mem_append_left _ (ih.q i ⟨s, c, e⟩ k r hr)
      · rw [List.mem_singleton] at c
        rw [c] at e
        have e2 : n = i := by simp only at e; omega
        subst e2
        exact List.mem_append_right _ hr
    · rcases List.mem_append.1 hr with e | e
      · have := hlt r e; omega
      · rw [List.mem_singleton] at e
        rw [e]; simp only; omega

theorem fil_fit {l : List Ft} (h : allV l) {n : Nat} (hn : n < l.length) : Fit23 (filT l n) (n : Int) (ftAt l n) := by
  obtain ⟨ih, hlt⟩ := fil_ok h n (by omega)
  exact ⟨ih.v, h.at hn, by omega, hlt⟩

theorem fil_len (l : List Ft) : ∀ n, (filT l n).1.length = n
  | 0 => rfl
  | n + 1 => by
    have := fil_len l n
    unfold filT addT
    simp [this]

theorem LI.del {l : List Ft} {t : Td} (h : LI l t) (x : Int) : LI l (delT t x) := by
  refine ⟨h.v.delT x, fun r hr => h.g r (List.mem_filter.1 hr).1, fun i hi k r hr => ?_⟩
  obtain ⟨s, hs, e⟩ := hi
  obtain ⟨h1, h2⟩ := List.mem_filter.1 hs
  show r ∈ getQ (relQ x t.2) k
  rw [getQ_relQ k h.v.a]
  refine List.mem_filter.2 ⟨h.q i ⟨s, h1, e⟩ k r hr, notX_ne.2 ?_⟩
  rw [(mem_lockOf hr).2.1, ← e]
  exact notX_ne.1 h2

theorem lock_w {f : Ft} {k : ByteArray} (h : k ∈ f.w) (x : Int) : (x, true) ∈ lockOf f x k := by
  unfold lockOf
  rw [if_pos (hasB_iff.2 h)]; simp
theorem lock_r {f : Ft} {k : ByteArray} (h : k ∈ f.r) (x : Int) : ∃ b, (x, b) ∈ lockOf f x k := by
  unfold lockOf
  cases c : hasB f.w k with
  | true => exact ⟨true, by simp⟩
  | false => exact ⟨false, by rw [hasB_iff.2 h]; simp⟩

theorem meet_iff {a b : List ByteArray} : meetB a b = true ↔ ∃ k, k ∈ a ∧ k ∈ b := by
  unfold meetB
  rw [List.any_eq_true]
  constructor
  · rintro ⟨k, h1, h2⟩; exact ⟨k, h1, hasB_iff.1 h2⟩
  · rintro ⟨k, h1, h2⟩; exact ⟨k, h1, hasB_iff.2 h2⟩

/-- Who waits for no one does not conflict with an earlier one. -/
theorem no_conf {l : List Ft} {t : Td} (hl : allV l) (h : LI l t) {i j : Nat} (hij : i < j) (hi : ∃ r ∈ t.1, r.1 = (i : Int)) (hj : ∃ r ∈ t.1, r.1 = (j : Int)) (hf : Free t (j : Int)) :
    conflB (ftAt l j) (ftAt l i) = false ∧ conflB (ftAt l i) (ftAt l j) = false := by
  have gi : i < l.length ∧ ((i : Int), (ftAt l i).all) ∈ t.1 := by
    obtain ⟨r, hr, e⟩ := hi
    obtain ⟨i', h1, h2⟩ := h.g r hr
    rw [h2] at e
    have : i' = i := by simp only at e; omega
    subst this
    exact ⟨h1, h2 ▸ hr⟩
  have gj : j < l.length ∧ ((j : Int), (ftAt l j).all) ∈ t.1 := by
    obtain ⟨r, hr, e⟩ := hj
    obtain ⟨j', h1, h2⟩ := h.g r hr
    rw [h2] at e
    have : j' = j := by simp only at e; omega
    subst this
    exact ⟨h1, h2 ▸ hr⟩
  have vi := hl.at gi.1
  have vj := hl.at gj.1
  have hall : (ftAt l i).all = false ∧ (ftAt l j).all = false := by
    have := hf.g _ gi.2 _ gj.2
    unfold Pq at this
    cases c1 : (ftAt l i).all <;> cases c2 : (ftAt l j).all <;> simp [c1, c2] at this ⊢ <;> omega
  have key : ∀ k b1 b2, ((i : Int), b1) ∈ lockOf (ftAt l i) i k → ((j : Int), b2) ∈ lockOf (ftAt l j) j k → (b1 || b2) = false := fun k b1 b2 h1 h2 => by
    have m1 := h.q i hi k _ h1
    have m2 := h.q j hj k _ h2
    have hm := getQ_has (l := t.2) (k := k) (List.ne_nil_of_mem m1)
    have := hf.q _ hm _ m1 _ m2
    cases c : (b1 || b2) with
    | false => rfl
    | true => exact absurd ⟨rfl, by simp only; omega, c⟩ this
  have ww : ∀ k, k ∈ (ftAt l i).w → k ∈ (ftAt l j).w → False := fun k h1 h2 => by simpa using key k true true (lock_w h1 _) (lock_w h2 _)
  have wr : ∀ k, k ∈ (ftAt l i).w → k ∈ (ftAt l j).r → False := fun k h1 h2 => by
    obtain ⟨b, hb⟩ := lock_r h2 (j : Int)
    simpa using key k true b (lock_w h1 _) hb
  have rw' : ∀ k, k ∈ (ftAt l i).r → k ∈ (ftAt l j).w → False := fun k h1 h2 => by
    obtain ⟨b, hb⟩ := lock_r h1 (i : Int)
    simpa using key k b true hb (lock_w h2 _)
  have no : ∀ a b : List ByteArray, (∀ k, k ∈ a → k ∈ b → False) → meetB a b = false := fun a b h => by
    cases c : meetB a b with
    | false => rfl
    | true => obtain ⟨k, h1, h2⟩ := meet_iff.1 c; exact (h k h1 h2).elim
  unfold conflB
  rw [vi, vj, hall.1, hall.2]
  constructor
  · rw [no _ _ fun k h1 h2 => ww k h2 h1, no _ _ fun k h1 h2 => rw' k h2 h1, no _ _ fun k h1 h2 => wr k h2 h1]; rfl
  · rw [no _ _ fun k h1 h2 => ww k h1 h2, no _ _ fun k h1 h2 => wr k h1 h2, no _ _ fun k h1 h2 => rw' k h1 h2]; rfl

theorem del_len {t : Td} (hv : VD t) {x : Int} (hx : ∃ r ∈ t.1, r.1 = x) : (delT t x).1.length + 1 = t.1.length := by
  obtain ⟨r, hr, rfl⟩ := hx
  obtain ⟨i, hi, rfl⟩ := List.getElem_of_mem hr
  have hp := hv.g.2
  have e : t.1 = t.1.take i ++ t.1[i] :: t.1.drop (i + 1) := by rw [← List.drop_eq_getElem_cons hi, List.take_append_drop]
  have h1 : (t.1.take i).filter (notX t.1[i].1) = t.1.take i := List.filter_eq_self.2 fun r hr => by
    obtain ⟨j, hj, rfl⟩ := List.getElem_of_mem hr
    rw [List.length_take] at hj
    rw [notX_ne, List.getElem_take]
    have := List.pairwise_iff_getElem.1 hp j i (by omega) hi (by omega)
    omega
  have h2 : (t.1.drop (i + 1)).filter (notX t.1[i].1) = t.1.drop (i + 1) := List.filter_eq_self.2 fun r hr => by
    obtain ⟨j, hj, rfl⟩ := List.getElem_of_mem hr
    rw [List.length_drop] at hj
    rw [notX_ne, List.getElem_drop]
    have := List.pairwise_iff_getElem.1 hp i (i + 1 + j) hi (by omega) (by omega)
    omega
  have h3 : t.1.filter (notX t.1[i].1) = t.1.take i ++ t.1.drop (i + 1) := by
    refine (congrArg (List.filter (notX t.1[i].1)) e).trans ?_
    rw [List.filter_append, List.filter_cons_of_neg (by simp [notX]), h1, h2]
  unfold delT
  simp only
  rw [h3, List.length_append, List.length_take, List.length_drop]
  omega

theorem vd_empty {t : Td} (hv : VD t) (h : t.1.length = 0) : t = ([], []) := by
  have h1 : t.1 = [] := List.length_eq_zero_iff.1 h
  have h2 : t.2 = [] := List.eq_nil_iff_forall_not_mem.2 fun q hq => by
    obtain ⟨r, hr⟩ := List.exists_mem_of_ne_nil _ (hv.n q hq)
    have := hv.i q hq r hr
    rw [h1] at this; cases this
  exact Prod.ext h1 h2

theorem ready_strict {t : Td} (hv : VD t) : StrictI (readyD t) := by
  rw [← readyR_eq]
  exact List.Pairwise.filter _ (ascR_strict (ascR_iff.2 hv.g))

theorem ready_ne {t : Td} (hv : VD t) (h : 0 < t.1.length) : readyD t ≠ [] := by
  have : t.1[0].1 ∈ readyD t := mem_ready.2 (granted_iff.2 ⟨hv, ⟨t.1[0], List.getElem_mem h, rfl⟩, (waits_nil hv).1 (first_free hv h)⟩)
  exact List.ne_nil_of_mem this

/-- A ready one: its number. -/
theorem LI.ready {l : List Ft} {t : Td} (h : LI l t) {x : Int} (hx : x ∈ readyD t) : ∃ i : Nat, i < l.length ∧ x = i ∧ (∃ r ∈ t.1, r.1 = (i : Int)) ∧ Free t (i : Int) := by
  obtain ⟨_, ⟨r, hr, e⟩, hf⟩ := granted_iff.1 (mem_ready.1 hx)
  obtain ⟨i, hi, e2⟩ := h.g r hr
  rw [e2] at e
  simp only at e
  subst e
  exact ⟨i, hi, rfl, ⟨r, hr, by rw [e2]⟩, hf⟩

theorem rel_ready {t : Td} {x : Int} (hx : x ∈ readyD t) : relD t x = (delT t x, 0) := by
  obtain ⟨hv, hr, _⟩ := granted_iff.1 (mem_ready.1 hx)
  obtain ⟨a, b, _⟩ := relD_ok (t := t) (x := x)
  have h0 := a.2 ⟨hv, hr⟩
  exact Prod.ext (b h0) h0


/-! ## P24 -/

def okFt (f : Ft) : Bool := fewF 40 f && validF f
def fRow (l : List Ft) : List (List PV) := l.map ftC
theorem fRow_length (l : List Ft) : (fRow l).length = l.length := by simp [fRow]
theorem fRow_get (l : List Ft) (i : Nat) (h : i < l.length) : (fRow l)[i]? = some [.bool l[i].all, .slice l[i].br (strRow l[i].r), .slice l[i].bw (strRow l[i].w)] := by simp [fRow, ftC, h]
theorem fit_fts {y : PV} (h : Fit (.slice [.bool, .slice [.str], .slice [.str]]) y) : ∃ l : List Ft, y = .slice false (fRow l) := by
  obtain ⟨l, e, hl, _⟩ := fit_rowsH (c := ftC) (P := fun _ => True) (fun u h => by
    obtain ⟨f, e⟩ := fit_foot h
    exact ⟨f, e, trivial⟩) h
  exact ⟨l, e⟩
theorem fit_ints {y : PV} (h : Fit (.slice [.int .i64]) y) : ∃ l : List Int, y = .slice false (intCells l) := by
  obtain ⟨l, e, hl, _⟩ := fit_rowsH (c := fun z => [PV.int .i64 z]) (P := fun _ => True) (fun u h => by
    obtain ⟨y0, u0, rfl, e0, h⟩ := h.cons
    have hn := h.nil
    subst hn
    obtain ⟨n, rfl, _⟩ := fit_intH e0
    exact ⟨n, rfl, trivial⟩) h
  exact ⟨l, e⟩

def validL (l : List Ft) : Bool := decide (l.length ≤ 20) && l.all okFt

theorem l_lvalid (l : List Ft) (b : Bool) (hl : l.length ≤ 20) (K : Ex → St → Prop)
    (hx : l.all okFt = true → K (.exit 0) ⟨[], [], 0, [0]⟩)
    (hr : l.all okFt = false → ∀ s', aget s'.env 2 = some (.p (.bool false)) → K .ret s') : ∀ (m i : Nat), i + m = l.length → (l.take i).all okFt = true →
    W tb a28_l0 ⟨[(0, .p (.slice b (fRow l))), (3, .p (.int .i64 i))], [], 0, [0]⟩ (LK tb (.ghost .lower a28_l0) K) := by
  intro m
  induction m with
  | zero =>
    rintro i hi ht
    have h1 : ¬ (i : Int) < l.length := by omega
    rw [List.take_of_length_le (by omega)] at ht
    refine i_code (by unfold a28_l0; exact rfl) ?_
    repeat' (first | (simp (disch := omega) only [go_sem, seval, reduceCtorEq, h1, fRow_length]) | with_reducible exact Ev.mk | ((first | apply x_split | apply x_splitg) <;> intro hβ hb <;> (simp (disch := omega) only [go_sem, seval, reduceCtorEq, h1, fRow_length, hβ]) <;> clear hβ))
    exact hx ht
  | succ m ih =>
    rintro i hi ht
    have h1 : (i : Int) < l.length := by omega
    have h2 : i < l.length := by omega
    have h4 : (0 : Int) ≤ i := by omega
    have h3 := fRow_get l i h2
    have bad : okFt l[i] = false → ∀ s', aget s'.env 2 = some (.p (.bool false)) → K .ret s' := fun h => hr (all_no _ _ i h2 h)
    have nxt : okFt l[i] = true → _ := fun h => ih (i + 1) (by omega) (all_step _ _ i h2 ht h)
    have q1 := ps_few l[i] 40 (by omega)
    refine i_code (by unfold a28_l0; exact rfl) ?_
    cases c1 : fewF 40 l[i] with
    | false =>
      rw [c1] at q1
      dsimp only [ftC] at q1
      repeat' (first | exact q1 | (simp (disch := omega) only [go_sem, seval, reduceCtorEq, h1, h3, h4, fRow_length]) | with_reducible exact Ev.mk | apply x_call | ((first | apply x_split | apply x_splitg) <;> intro hβ hb <;> (simp (disch := omega) only [go_sem, seval, reduceCtorEq, h1, h3, h4, fRow_length, hβ]) <;> clear hβ))
      exact bad (by unfold okFt; rw [c1]; rfl) _ rfl
    | true =>
      rw [c1] at q1
      have q2 := ps_rvalid l[i] (fewF_sh c1 (by omega))
      cases c2 : validF l[i] with
      | false =>
        rw [c2] at q2
        dsimp only [ftC] at q1 q2
        repeat' (first | exact q1 | exact q2 | (simp (disch := omega) only [go_sem, seval, reduceCtorEq, h1, h3, h4, fRow_length]) | with_reducible exact Ev.mk | apply x_call | ((first | apply x_split | apply x_splitg) <;> intro hβ hb <;> (simp (disch := omega) only [go_sem, seval, reduceCtorEq, h1, h3, h4, fRow_length, hβ]) <;> clear hβ))
        exact bad (by unfold okFt; rw [c1, c2]; rfl) _ rfl
      | true =>
        rw [c2] at q2
        dsimp only [ftC] at q1 q2
        repeat' (first | exact q1 | exact q2 | (simp (disch := omega) only [go_sem, seval, reduceCtorEq, h1, h3, h4, fRow_length]) | with_reducible exact Ev.mk | apply x_call | ((first | apply x_split | apply x_splitg) <;> intro hβ hb <;> (simp (disch := omega) only [go_sem, seval, reduceCtorEq, h1, h3, h4, fRow_length, hβ]) <;> clear hβ))
        refine i_lk (W_round ?_)
        (try simp (disch := omega) only [go_sem, seval, reduceCtorEq])
        exact nxt (by unfold okFt; rw [c1, c2]; rfl)

theorem ps_lvalid (l : List Ft) (b : Bool) : PS tb 28 [.slice b (fRow l)] (.bool (validL l)) := by
  refine PS_of (af := a28) rfl rfl ?_
  unfold a28
  dsimp only [List.map, ofPV, initEnv]
  unfold validL
  by_cases c1 : l.length ≤ 20
  · have d1 : ¬ (20 : Int) < l.length := by omega
    rw [decide_eq_true c1, Bool.true_and]
    repeat' (first | (simp (disch := omega) only [go_sem, seval, reduceCtorEq, d1, fRow_length]) | with_reducible exact Ev.mk | ((first | apply x_split | apply x_splitg) <;> intro hβ hb <;> (simp (disch := omega) only [go_sem, seval, reduceCtorEq, d1, fRow_length, hβ]) <;> clear hβ))
    refine W_round ?_
    (try simp (disch := omega) only [go_sem, seval, reduceCtorEq])
    refine l_lvalid l b c1 _ ?_ ?_ l.length 0 (by omega) rfl
    · intro h
      repeat' (first | (simp (disch := omega) only [go_sem, seval, reduceCtorEq]) | with_reducible exact Ev.mk | ((first | apply x_split | apply x_splitg) <;> intro hβ hb <;> (simp (disch := omega) only [go_sem, seval, reduceCtorEq, hβ]) <;> clear hβ))
      all_goals simp [pur, dep, h]
    · intro h s' hs
      (try simp (disch := omega) only [go_sem, seval, reduceCtorEq, hs])
      simp [pur, dep, h]
  · have d1 : (20 : Int) < l.length := by omega
    rw [decide_eq_false c1, Bool.false_and]
    repeat' (first | (simp (disch := omega) only [go_sem, seval, reduceCtorEq, d1, fRow_length]) | with_reducible exact Ev.mk | ((first | apply x_split | apply x_splitg) <;> intro hβ hb <;> (simp (disch := omega) only [go_sem, seval, reduceCtorEq, d1, fRow_length, hβ]) <;> clear hβ))
    all_goals simp [pur, dep]

theorem validL_iff {l : List Ft} (h : validL l = true) : l.length ≤ 20 ∧ allV l ∧ ∀ f ∈ l, fewF 40 f = true := by
  unfold validL at h
  rw [Bool.and_eq_true, decide_eq_true_eq, List.all_eq_true] at h
  refine ⟨h.1, fun f hf => ?_, fun f hf => ?_⟩ <;>
  · have := h.2 f hf
    unfold okFt at this
    rw [Bool.and_eq_true] at this
    first | exact this.2 | exact this.1

/-! ### filled -/

theorem fil_sz {l : List Ft} (h : validL l = true) : ∀ n, n ≤ l.length → SzD (201 * n) (filT l n)
  | 0, _ => ⟨by simp [filT], by simp [filT], by simp [filT]⟩
  | n + 1, hn => by
    obtain ⟨h1, h2, h3⟩ := validL_iff h
    have ih := fil_sz h n (by omega)
    have hfit := fil_fit h2 (n := n) (by omega)
    obtain ⟨r1, r2, _⟩ := reqD_ok (t := filT l n) (x := (n : Int)) (f := ftAt l n)
    have h0 := r1.2 hfit
    have hfe : fewF 40 (ftAt l n) = true := by
      unfold ftAt
      rw [List.getD_eq_getElem?_getD, List.getElem?_eq_getElem (by omega)]
      exact h3 _ (List.getElem_mem (by omega))
    obtain ⟨l1, l2⟩ := fewF_len hfe
    have := ih.req (n : Int) (f := ftAt l n) (by omega)
    rw [r2 h0] at this
    have e : 201 * n + 201 = 201 * (n + 1) := by omega
    rw [e] at this
    exact this

theorem l_filled (l : List Ft) (b : Bool) (h : validL l = true) (K : Ex → St → Prop)
    (hx : ∀ a : Tb, a.d = filT l l.length → K (.exit 0) ⟨[(2, .ptr 0 0), (4, .ptr 1 0)], [(1, .var false [.p (.slice a.gf (rqRow a.g)), .p (.slice a.qf (quRow a.qs))]), (0, .var false [.p (.slice true []), .p (.slice true [])])], 2, [0]⟩) :
    ∀ (m i : Nat), i + m = l.length → ∀ a : Tb, a.d = filT l i →
    W tb a29_l0 ⟨[(0, .p (.slice b (fRow l))), (2, .ptr 0 0), (4, .ptr 1 0), (5, .p (.int .i64 i))], [(1, .var false [.p (.slice a.gf (rqRow a.g)), .p (.slice a.qf (quRow a.qs))]), (0, .var false [.p (.slice true []), .p (.slice true [])])], 2, [0]⟩ (LK tb (.ghost (.free [6]) (.ghost .lower a29_l0)) K) := by
  obtain ⟨g1, g2, g3⟩ := validL_iff h
  intro m
  induction m with
  | zero =>
    rintro i hi a ha
    have h1 : ¬ (i : Int) < l.length := by omega
    have e : i = l.length := by omega
    subst e
    refine i_code (by unfold a29_l0; exact rfl) ?_
    repeat' (first | (simp (disch := omega) only [go_sem, seval, reduceCtorEq, h1, fRow_length]) | with_reducible exact Ev.mk | ((first | apply x_split | apply x_splitg) <;> intro hβ hb <;> (simp (disch := omega) only [go_sem, seval, reduceCtorEq, h1, fRow_length, hβ]) <;> clear hβ))
    exact hx a ha
  | succ m ih =>
    rintro i hi a ha
    have h1 : (i : Int) < l.length := by omega
    have h2 : i < l.length := by omega
    have h4 : (0 : Int) ≤ i := by omega
    have h3 := fRow_get l i h2
    have hsz := ((fil_sz h i (by omega)).mono (m := 40000) (by omega)).tb ha
    have ef : ftAt l i = l[i] := by unfold ftAt; rw [List.getD_eq_getElem?_getD, List.getElem?_eq_getElem h2]; rfl
    obtain ⟨c, hc, pc⟩ := ps_request a (i : Int) l[i] (by omega) (by omega) (fun q hq => by have := hsz.2.2 q hq; omega) (fewF_sh (g3 _ (List.getElem_mem h2)) (by omega))
    have hfit := fil_fit g2 h2
    rw [ef, ← ha] at hfit
    obtain ⟨r1, r2, _⟩ := reqD_ok (t := a.d) (x := (i : Int)) (f := l[i])
    have h0 := r1.2 hfit
    rw [h0] at pc
    rw [r2 h0, ha, ← ef] at hc
    have hc2 : c.d = filT l (i + 1) := hc
    refine i_code (by unfold a29_l0; exact rfl) ?_
    dsimp only [tbC, ftC] at pc
    repeat' (first | exact pc | (simp (disch := omega) only [go_sem, seval, reduceCtorEq, h1, h3, h4, fRow_length, bne]) | with_reducible exact Ev.mk | apply x_call | ((first | apply x_split | apply x_splitg) <;> intro hβ hb <;> (simp (disch := omega) only [go_sem, seval, reduceCtorEq, h1, h3, h4, fRow_length, bne, hβ]) <;> clear hβ))
    refine i_lk (W_round ?_)
    (try simp (disch := omega) only [go_sem, seval, reduceCtorEq])
    exact ih (i + 1) (by omega) c hc2

theorem ps_filled (l : List Ft) (b : Bool) (h : validL l = true) : ∃ a : Tb, a.d = filT l l.length ∧ PS tb 29 [.slice b (fRow l)] (.tuple [.agg (tbC a), .bool true]) := by
  have w : W tb a29.body { env := initEnv 0 ([PV.slice b (fRow l)].map ofPV), heap := [], next := 0, marks := [0] }
      (Done a29.results fun v s => ∃ q : { a : Tb // a.d = filT l l.length }, pur s.heap dep v = some (.tuple [.agg (tbC q.1), .bool true])) := by
    generalize hR : (fun (v : DV) (s : St) => ∃ q : { a : Tb // a.d = filT l l.length }, pur s.heap dep v = some (.tuple [.agg (tbC q.1), .bool true])) = R
    have hR' : ∀ (v : DV) (s : St) (a : Tb), a.d = filT l l.length → pur s.heap dep v = some (.tuple [.agg (tbC a), .bool true]) → R v s := fun v s a h1 h2 => by
      subst hR; exact ⟨⟨a, h1⟩, h2⟩
    clear hR
    unfold a29
    dsimp only [List.map, ofPV, initEnv]
    repeat' (first | (simp (disch := omega) only [go_sem, seval, reduceCtorEq]) | with_reducible exact Ev.mk | ((first | apply x_split | apply x_splitg) <;> intro hβ hb <;> (simp (disch := omega) only [go_sem, seval, reduceCtorEq, hβ]) <;> clear hβ))
    refine W_round ?_
    (try simp (disch := omega) only [go_sem, seval, reduceCtorEq])
    refine l_filled l b h _ ?_ l.length 0 (by omega) T0 rfl
    intro a ha
    repeat' (first | (simp (disch := omega) only [go_sem, seval, reduceCtorEq]) | with_reducible exact Ev.mk | ((first | apply x_split | apply x_splitg) <;> intro hβ hb <;> (simp (disch := omega) only [go_sem, seval, reduceCtorEq, hβ]) <;> clear hβ))
    exact hR' _ _ a ha rfl
  obtain ⟨⟨a, ha⟩, hp⟩ := PS_ex (T := tb) (f := 29) (af := a29) rfl rfl w
  exact ⟨a, ha, hp⟩

/-! ### pick -/

theorem ps_pick (l c : List Int) (b d : Bool) (i : Nat) (hl : l ≠ []) : ∃ x ∈ l, PS tb 31 [.slice b (intCells l), .slice d (intCells c), .int .i64 i] (.int .i64 x) := by
  have hpos : 0 < l.length := List.length_pos_iff.2 hl
  have e0 := intCells_get l 0 hpos
  have p0 : (0 : Int) < l.length := by omega
  by_cases c1 : i < c.length
  · have h1 : (i : Int) < c.length := by omega
    have h3 := intCells_get c i c1
    have h4 : (0 : Int) ≤ i := by omega
    by_cases c2 : 0 < c[i]
    · obtain ⟨n, hn⟩ := Int.eq_ofNat_of_zero_le (show 0 ≤ c[i] by omega)
      have hm : n % l.length < l.length := Nat.mod_lt _ hpos
      have em := intCells_get l (n % l.length) hm
      refine ⟨l[n % l.length], List.getElem_mem hm, ?_⟩
      rw [hn] at h3 c2
      have h5 : Int.tmod (n : Int) (l.length : Int) = ((n % l.length : Nat) : Int) := by rfl
      have h6 : (0 : Int) ≤ ((n % l.length : Nat) : Int) := by omega
      have h7 : ((n % l.length : Nat) : Int) < l.length := by omega
      have h8 : ((l.length : Int) == 0) = false := by rw [beq_eq_false_iff_ne]; omega
      have h9 : ¬ (l.length : Int) = 0 := by omega
      refine PS_of (af := a31) rfl rfl ?_
      unfold a31
      dsimp only [List.map, ofPV, initEnv]
      repeat' (first | (simp (disch := omega) only [go_sem, seval, reduceCtorEq, h1, h3, h4, c2, h5, h6, h7, h8, h9, em, intCells_length]) | with_reducible exact Ev.mk | ((first | apply x_split | apply x_splitg) <;> intro hβ hb <;> (simp (disch := omega) only [go_sem, seval, reduceCtorEq, h1, h3, h4, c2, h5, h6, h7, h8, h9, em, intCells_length, hβ]) <;> clear hβ))
      all_goals trace_state
      all_goals sorry
    · refine ⟨l[0], List.getElem_mem hpos, ?_⟩
      refine PS_of (af := a31) rfl rfl ?_
      unfold a31
      dsimp only [List.map, ofPV, initEnv]
      repeat' (first | (simp (disch := omega) only [go_sem, seval, reduceCtorEq, h1, h3, h4, c2, e0, p0, intCells_length]) | with_reducible exact Ev.mk | ((first | apply x_split | apply x_splitg) <;> intro hβ hb <;> (simp (disch := omega) only [go_sem, seval, reduceCtorEq, h1, h3, h4, c2, e0, p0, intCells_length, hβ]) <;> clear hβ))
      all_goals rfl
  · have h1 : ¬ (i : Int) < c.length := by omega
    refine ⟨l[0], List.getElem_mem hpos, ?_⟩
    refine PS_of (af := a31) rfl rfl ?_
    unfold a31
    dsimp only [List.map, ofPV, initEnv]
    repeat' (first | (simp (disch := omega) only [go_sem, seval, reduceCtorEq, h1, e0, p0, intCells_length]) | with_reducible exact Ev.mk | ((first | apply x_split | apply x_splitg) <;> intro hβ hb <;> (simp (disch := omega) only [go_sem, seval, reduceCtorEq, h1, e0, p0, intCells_length, hβ]) <;> clear hβ))
    all_goals rfl


/-! ## P25 -/

/-- Two of a list of ready ones. -/
def Pairs (l : List Ft) (R : List Int) : Prop := ∀ (a b : Nat) (ha : a < R.length) (hb : b < a), ∃ i j : Nat, R[a] = (j : Int) ∧ R[b]'(by omega) = (i : Int) ∧ i < j ∧ j < l.length ∧ conflB (ftAt l j) (ftAt l i) = false

theorem LI.pairs {l : List Ft} {t : Td} (hl : allV l) (h : LI l t) : Pairs l (readyD t) := by
  intro a b ha hb
  obtain ⟨j, hj, ej, aj, fj⟩ := h.ready (List.getElem_mem ha)
  obtain ⟨i, hi, ei, ai, _⟩ := h.ready (List.getElem_mem (l := readyD t) (n := b) (by omega))
  have hlt := List.pairwise_iff_getElem.1 (ready_strict h.v) b a (by omega) ha hb
  have hij : i < j := by rw [ei, ej] at hlt; omega
  exact ⟨i, j, ej, ei, hij, hj, (no_conf hl h hij ai aj fj).1⟩

theorem ftAt_get {l : List Ft} {i : Nat} (h : i < l.length) : ftAt l i = l[i] := by unfold ftAt; rw [List.getD_eq_getElem?_getD, List.getElem?_eq_getElem h]; rfl

theorem l_safe0 (l : List Ft) (bl : Bool) (C : PV) (hv : validL l = true) (t : Tb) (st : Nat) (R : List Int) (bR : Bool) (hRl : R.length ≤ 1000) (hP : Pairs l R) (a : Nat) (ha : a < R.length) (K : Ex → St → Prop)
    (hx : K (.exit 4) ⟨[(0, .p (.slice bl (fRow l))), (1, .p C), (5, .ptr 0 0), (7, .p (.int .i64 st)), (8, .p (.slice bR (intCells R))), (9, .p (.int .i64 a))], [(0, .var false [.p (.slice t.gf (rqRow t.g)), .p (.slice t.qf (quRow t.qs))])], 1, [0]⟩) :
    ∀ (m b : Nat), b + m = a →
    W tb a6_l0 ⟨[(0, .p (.slice bl (fRow l))), (1, .p C), (5, .ptr 0 0), (7, .p (.int .i64 st)), (8, .p (.slice bR (intCells R))), (9, .p (.int .i64 a)), (10, .p (.int .i64 b))], [(0, .var false [.p (.slice t.gf (rqRow t.g)), .p (.slice t.qf (quRow t.qs))])], 1, [0]⟩ (LK tb (.ghost .lower a6_l0) K) := by
  obtain ⟨g1, g2, g3⟩ := validL_iff hv
  intro m
  induction m with
  | zero =>
    rintro b hb
    have h1 : ¬ (b : Int) < a := by omega
    refine i_code (by unfold a6_l0; exact rfl) ?_
    repeat' (first | (simp (disch := omega) only [go_sem, seval, reduceCtorEq, h1]) | with_reducible exact Ev.mk | ((first | apply x_split | apply x_splitg) <;> intro hβ hb <;> (simp (disch := omega) only [go_sem, seval, reduceCtorEq, h1, hβ]) <;> clear hβ))
    exact hx
  | succ m ih =>
    rintro b hb
    have h1 : (b : Int) < a := by omega
    have hba : b < a := by omega
    obtain ⟨i, j, ej, ei, hij, hj, hc⟩ := hP a b ha hba
    have hi : i < l.length := by omega
    have r1 := intCells_get R a ha
    have r2 := intCells_get R b (by omega)
    rw [ej] at r1
    rw [ei] at r2
    have s1 := fRow_get l j hj
    have s2 := fRow_get l i hi
    have u1 : (0 : Int) ≤ a := by omega
    have u2 : (a : Int) < R.length := by omega
    have u3 : (0 : Int) ≤ b := by omega
    have u4 : (b : Int) < R.length := by omega
    have d1 : ¬ (j : Int) < 0 := by omega
    have d2 : ¬ (l.length : Int) ≤ j := by omega
    have d3 : ¬ (i : Int) < 0 := by omega
    have d4 : ¬ (j : Int) ≤ i := by omega
    have w1 : (0 : Int) ≤ j := by omega
    have w2 : (j : Int) < l.length := by omega
    have w3 : (0 : Int) ≤ i := by omega
    have w4 : (i : Int) < l.length := by omega
    have q := ps_rconfl l[j] l[i] (fewF_sh (g3 _ (List.getElem_mem hj)) (by omega)) (fewF_sh (g3 _ (List.getElem_mem hi)) (by omega))
    rw [ftAt_get hj, ftAt_get hi] at hc
    rw [hc] at q
    dsimp only [ftC] at q
    have ih' := ih (b + 1) (by omega)
    refine i_code (by unfold a6_l0; exact rfl) ?_
    repeat' (first | exact q | (simp (disch := omega) only [go_sem, seval, reduceCtorEq, h1, r1, r2, s1, s2, u1, u2, u3, u4, d1, d2, d3, d4, w1, w2, w3, w4, fRow_length, intCells_length]) | with_reducible exact Ev.mk | apply x_call | ((first | apply x_split | apply x_splitg) <;> intro hβ hb <;> (simp (disch := omega) only [go_sem, seval, reduceCtorEq, h1, r1, r2, s1, s2, u1, u2, u3, u4, d1, d2, d3, d4, w1, w2, w3, w4, fRow_length, intCells_length, hβ]) <;> clear hβ))
    refine i_lk (W_round ?_)
    (try simp (disch := omega) only [go_sem, seval, reduceCtorEq])
    exact ih'

theorem l_safe1 (l : List Ft) (bl : Bool) (C : PV) (hv : validL l = true) (t : Tb) (st : Nat) (R : List Int) (bR : Bool) (hRl : R.length ≤ 1000) (hP : Pairs l R) (K : Ex → St → Prop)
    (hx : K (.exit 2) ⟨[(0, .p (.slice bl (fRow l))), (1, .p C), (5, .ptr 0 0), (7, .p (.int .i64 st)), (8, .p (.slice bR (intCells R)))], [(0, .var false [.p (.slice t.gf (rqRow t.g)), .p (.slice t.qf (quRow t.qs))])], 1, [0]⟩) :
    ∀ (m a : Nat), a + m = R.length →
    W tb a6_l1 ⟨[(0, .p (.slice bl (fRow l))), (1, .p C), (5, .ptr 0 0), (7, .p (.int .i64 st)), (8, .p (.slice bR (intCells R))), (9, .p (.int .i64 a))], [(0, .var false [.p (.slice t.gf (rqRow t.g)), .p (.slice t.qf (quRow t.qs))])], 1, [0]⟩ (LK tb (.ghost .lower a6_l1) K) := by
  intro m
  induction m with
  | zero =>
    rintro a ha
    have h1 : ¬ (a : Int) < R.length := by omega
    refine i_code (by unfold a6_l1; exact rfl) ?_
    repeat' (first | (simp (disch := omega) only [go_sem, seval, reduceCtorEq, h1, intCells_length]) | with_reducible exact Ev.mk | ((first | apply x_split | apply x_splitg) <;> intro hβ hb <;> (simp (disch := omega) only [go_sem, seval, reduceCtorEq, h1, intCells_length, hβ]) <;> clear hβ))
    exact hx
  | succ m ih =>
    rintro a ha
    have h1 : (a : Int) < R.length := by omega
    have ih' := ih (a + 1) (by omega)
    refine i_code (by unfold a6_l1; exact rfl) ?_
    repeat' (first | (simp (disch := omega) only [go_sem, seval, reduceCtorEq, h1, intCells_length]) | with_reducible exact Ev.mk | ((first | apply x_split | apply x_splitg) <;> intro hβ hb <;> (simp (disch := omega) only [go_sem, seval, reduceCtorEq, h1, intCells_length, hβ]) <;> clear hβ))
    refine W_round ?_
    (try simp (disch := omega) only [go_sem, seval, reduceCtorEq])
    refine l_safe0 l bl C hv t st R bR hRl hP a (by omega) _ ?_ a 0 (by omega)
    repeat' (first | (simp (disch := omega) only [go_sem, seval, reduceCtorEq]) | with_reducible exact Ev.mk | ((first | apply x_split | apply x_splitg) <;> intro hβ hb <;> (simp (disch := omega) only [go_sem, seval, reduceCtorEq, hβ]) <;> clear hβ))
    refine i_lk (W_round ?_)
    (try simp (disch := omega) only [go_sem, seval, reduceCtorEq])
    exact ih'

theorem l_safe2 (l : List Ft) (bl : Bool) (c : List Int) (bc : Bool) (hv : validL l = true) (K : Ex → St → Prop)
    (hx : ∀ t : Tb, t.d = ([], []) → K (.exit 0) ⟨[(5, .ptr 0 0)], [(0, .var false [.p (.slice t.gf (rqRow t.g)), .p (.slice t.qf (quRow t.qs))])], 1, [0]⟩) :
    ∀ (m st : Nat), st + m = l.length → ∀ t : Tb, LI l t.d → t.d.1.length = m → SzD 5000 t.d →
    W tb a6_l2 ⟨[(0, .p (.slice bl (fRow l))), (1, .p (.slice bc (intCells c))), (5, .ptr 0 0), (7, .p (.int .i64 st))], [(0, .var false [.p (.slice t.gf (rqRow t.g)), .p (.slice t.qf (quRow t.qs))])], 1, [0]⟩ (LK tb (.ghost (.free [11]) (.ghost .lower a6_l2)) K) := by
  obtain ⟨g1, g2, g3⟩ := validL_iff hv
  intro m
  induction m with
  | zero =>
    rintro st hst t hL hm hS
    have h1 : ¬ (st : Int) < l.length := by omega
    refine i_code (by unfold a6_l2; exact rfl) ?_
    repeat' (first | (simp (disch := omega) only [go_sem, seval, reduceCtorEq, h1, fRow_length]) | with_reducible exact Ev.mk | ((first | apply x_split | apply x_splitg) <;> intro hβ hb <;> (simp (disch := omega) only [go_sem, seval, reduceCtorEq, h1, fRow_length, hβ]) <;> clear hβ))
    exact hx t (vd_empty hL.v hm)
  | succ m ih =>
    rintro st hst t hL hm hS
    have h1 : (st : Int) < l.length := by omega
    obtain ⟨z1, z2, z3⟩ := hS.tb rfl
    have hgl : t.g.length = m + 1 := hm
    have sm : Sm t := ⟨by omega, by omega, fun q hq => by
      have h4 := hL.v.r q.d (List.mem_map_of_mem hq)
      have h5 : ∀ r ∈ q.reqs, ∃ k : Nat, k < l.length ∧ r.1 = (k : Int) := fun r hr => by
        have h6 := hL.v.i q.d (List.mem_map_of_mem hq) r hr
        obtain ⟨k, hk, e⟩ := hL.g _ h6
        exact ⟨k, hk, congrArg Prod.fst e⟩
      have h7 : ∀ (n : Nat) (hn : n < q.reqs.length), (n : Int) ≤ (q.reqs[n]).1 := by
        intro n
        induction n with
        | zero => intro hn; exact h4.1 _ (List.getElem_mem hn)
        | succ n ihn =>
          intro hn
          have := ihn (by omega)
          have h8 := List.pairwise_iff_getElem.1 h4.2 n (n + 1) (show n < q.reqs.length by omega) hn (by omega)
          have h9 : q.reqs[n].1 < q.reqs[n + 1].1 := h8
          omega
      rcases Nat.lt_or_ge 1000 q.reqs.length with c | c
      · have := h7 (q.reqs.length - 1) (by omega)
        obtain ⟨k, hk, e⟩ := h5 _ (List.getElem_mem (l := q.reqs) (n := q.reqs.length - 1) (by omega))
        omega
      · exact c⟩
    obtain ⟨bR, pr⟩ := ps_ready t sm
    have hne := ready_ne hL.v (by omega)
    have hRl : (readyD t.d).length ≤ 1000 := by
      rw [← readyR_eq]
      have := List.length_filter_le (fun x => grantedD t.d x) (t.d.1.map (·.1))
      rw [List.length_map] at this
      omega
    have e1 : (((readyD t.d).length : Int) == 0) = false := by
      rw [beq_eq_false_iff_ne]
      have := List.length_pos_iff.2 hne
      omega
    obtain ⟨x, hxr, pp⟩ := ps_pick (readyD t.d) c bR bc st hne
    obtain ⟨t', ht', pt⟩ := ps_release t x (by omega) (by omega) (fun q hq => by have := z3 q hq; omega)
    have hrel := rel_ready hxr
    rw [hrel] at ht' pt
    have hL' : LI l t'.d := by rw [ht']; exact hL.del x
    have hlen : t'.d.1.length = m := by
      have := del_len hL.v (x := x) (by obtain ⟨_, hr, _⟩ := granted_iff.1 (mem_ready.1 hxr); exact hr)
      rw [ht']
      show (delT t.d x).1.length = m
      omega
    have hS' : SzD 5000 t'.d := by
      have := hS.rel x
      rw [hrel] at this
      rw [ht']; exact this
    have ih' := ih (st + 1) (by omega) t' hL' hlen hS'
    have hPr := hL.pairs g2
    dsimp only [tbC] at pr pt
    refine i_code (by unfold a6_l2; exact rfl) ?_
    repeat' (first | exact pr | (simp (disch := omega) only [go_sem, seval, reduceCtorEq, h1, e1, fRow_length, intCells_length]) | with_reducible exact Ev.mk | apply x_call | ((first | apply x_split | apply x_splitg) <;> intro hβ hb <;> (simp (disch := omega) only [go_sem, seval, reduceCtorEq, h1, e1, fRow_length, intCells_length, hβ]) <;> clear hβ))
    refine W_round ?_
    (try simp (disch := omega) only [go_sem, seval, reduceCtorEq])
    refine l_safe1 l bl (.slice bc (intCells c)) hv t st (readyD t.d) bR hRl hPr _ ?_ (readyD t.d).length 0 (by omega)
    repeat' (first | exact pp | exact pt | (simp (disch := omega) only [go_sem, seval, reduceCtorEq, bne]) | with_reducible exact Ev.mk | apply x_call | ((first | apply x_split | apply x_splitg) <;> intro hβ hb <;> (simp (disch := omega) only [go_sem, seval, reduceCtorEq, bne, hβ]) <;> clear hβ))
    refine i_lk (W_round ?_)
    (try simp (disch := omega) only [go_sem, seval, reduceCtorEq])
    exact ih'

theorem walkLocktableSafe {u v : PV} (h : Fit (.slice [.bool, .slice [.str], .slice [.str]]) u) (h' : Fit (.slice [.int .i64]) v) : PS tb 6 [u, v] (.bool true) := by
  obtain ⟨l, rfl⟩ := fit_fts h
  obtain ⟨c, rfl⟩ := fit_ints h'
  have hw := ps_works
  have hv := ps_lvalid l false
  refine PS_of (af := a6) rfl rfl ?_
  unfold a6
  dsimp only [List.map, ofPV, initEnv]
  cases c1 : validL l with
  | false =>
    rw [c1] at hv
    repeat' (first | exact hv | exact hw | (simp (disch := omega) only [go_sem, seval, reduceCtorEq]) | with_reducible exact Ev.mk | apply x_call | ((first | apply x_split | apply x_splitg) <;> intro hβ hb <;> (simp (disch := omega) only [go_sem, seval, reduceCtorEq, hβ]) <;> clear hβ))
    all_goals rfl
  | true =>
    rw [c1] at hv
    obtain ⟨g1, g2, g3⟩ := validL_iff c1
    obtain ⟨t, ht, pf⟩ := ps_filled l false c1
    dsimp only [tbC] at pf
    repeat' (first | exact hv | exact pf | (simp (disch := omega) only [go_sem, seval, reduceCtorEq]) | with_reducible exact Ev.mk | apply x_call | ((first | apply x_split | apply x_splitg) <;> intro hβ hb <;> (simp (disch := omega) only [go_sem, seval, reduceCtorEq, hβ]) <;> clear hβ))
    refine W_round ?_
    (try simp (disch := omega) only [go_sem, seval, reduceCtorEq])
    refine l_safe2 l false c false c1 _ ?_ l.length 0 (by omega) t (by rw [ht]; exact (fil_ok g2 l.length (Nat.le_refl _)).1) (by rw [ht]; exact fil_len l l.length) (by rw [ht]; exact (fil_sz c1 l.length (Nat.le_refl _)).mono (by omega))
    intro t' ht'
    have sm : Sm t' := sm_of ht' (by simp) (by simp) (by simp)
    obtain ⟨b2, p2⟩ := ps_ready t' sm
    have e : readyD t'.d = [] := by rw [ht']; rfl
    rw [e] at p2
    dsimp only [tbC] at p2
    repeat' (first | exact p2 | exact hw | (simp (disch := omega) only [go_sem, seval, reduceCtorEq, intCells_length, List.length_nil]) | with_reducible exact Ev.mk | apply x_call | ((first | apply x_split | apply x_splitg) <;> intro hβ hb <;> (simp (disch := omega) only [go_sem, seval, reduceCtorEq, intCells_length, List.length_nil, hβ]) <;> clear hβ))
    all_goals rfl

end Go.Dv.Try
