/-
  Specifications: T1, T1b, T2, T3, T4, T5, T6.
-/
import Derived.Test.YthdcneolpbbcmaaHA
import Derived.Test.YthdcneolpbbcmaaHO
import Derived.Test.YthdcneolpbbcmaaFA
import Derived.Test.YthdcneolpbbcmaaBulk
set_option linter.unusedVariables false
set_option linter.unusedSimpArgs false
set_option maxRecDepth 100000
set_option maxHeartbeats 4000000
namespace Go.Dv.Try
open Go Go.Dv

/-! ## T1 -/

def capC (n : Int) : Int := if 1099511627776 < n then 1099511627776 else n

/-- Ascending counters after one access. -/
def addK (k : ByteArray) : List Ht → List Ht
  | [] => [(k, 1)]
  | h :: r => if slt h.1 k then h :: addK k r else if h.1 = k then (k, capC (h.2 + 1)) :: r else (k, 1) :: h :: r

theorem addK_at (k : ByteArray) : ∀ (l : List Ht) (p : Nat), p ≤ l.length → (∀ (x : Nat) (hx : x < l.length), x < p → slt l[x].1 k = true) → (∀ (hp : p < l.length), slt l[p].1 k = false) →
    addK k l = if hp : p < l.length then (if l[p].1 = k then l.take p ++ (k, capC (l[p].2 + 1)) :: l.drop (p + 1) else l.take p ++ (k, 1) :: l.drop p) else l ++ [(k, 1)]
  | [], p, hp, _, _ => by simp [addK]
  | h :: r, 0, hp, h1, h2 => by
    have := h2 (by simp)
    simp only [List.getElem_cons_zero] at this
    simp [addK, this]
  | h :: r, p + 1, hp, h1, h2 => by
    have e := h1 0 (by simp) (by omega)
    simp only [List.getElem_cons_zero] at e
    have ih := addK_at k r p (by simpa using hp) (fun x hx hp => h1 (x + 1) (by simpa using hx) (by omega)) (fun hp => h2 (by simpa using hp))
    simp only [addK, e, if_true, ih, List.length_cons, Nat.add_lt_add_iff_right, List.getElem_cons_succ, List.take_succ_cons, List.drop_succ_cons]
    split
    · split <;> rfl
    · rfl

theorem addK_key {k : ByteArray} : ∀ {l : List Ht} {x : Ht}, x ∈ addK k l → x.1 = k ∨ x ∈ l
  | [], x, h => by simp [addK] at h; exact .inl (by rw [h])
  | h :: r, x, hx => by
    unfold addK at hx
    split at hx
    · rcases List.mem_cons.1 hx with e | e
      · exact .inr (by rw [e]; simp)
      · rcases addK_key e with e | e
        · exact .inl e
        · exact .inr (List.mem_cons_of_mem _ e)
    · split at hx
      · rcases List.mem_cons.1 hx with e | e
        · exact .inl (by rw [e])
        · exact .inr (List.mem_cons_of_mem _ e)
      · rcases List.mem_cons.1 hx with e | e
        · exact .inl (by rw [e])
        · exact .inr e

theorem addK_asc {k : ByteArray} : ∀ {l : List Ht}, AscK l → AscK (addK k l)
  | [], _ => by simp [addK, AscK]
  | h :: r, hl => by
    unfold AscK at hl
    obtain ⟨h1, h2⟩ := List.pairwise_cons.1 hl
    unfold addK
    split
    · rename_i c
      refine List.pairwise_cons.2 ⟨fun x hx => ?_, addK_asc h2⟩
      rcases addK_key hx with e | e
      · rw [e]; exact c
      · exact h1 x e
    · rename_i c
      split
      · rename_i e
        exact List.pairwise_cons.2 ⟨fun x hx => by rw [← e]; exact h1 x hx, h2⟩
      · rename_i e
        have hk : slt k h.1 = true := by
          cases hs : slt k h.1 with
          | true => rfl
          | false => exact absurd (slt_tri (by simpa using c) hs) e
        refine List.pairwise_cons.2 ⟨fun x hx => ?_, hl⟩
        rcases List.mem_cons.1 hx with e | e
        · rw [e]; exact hk
        · exact slt_trans hk (h1 x e)

theorem addK_len (k : ByteArray) : ∀ l : List Ht, (addK k l).length ≤ l.length + 1 ∧ l.length ≤ (addK k l).length
  | [] => by simp [addK]
  | h :: r => by
    have := addK_len k r
    unfold addK
    split
    · simp only [List.length_cons]; omega
    · split <;> simp

/-- What a list of counters holds for a key. -/
def getC (k : ByteArray) : List Ht → Int
  | [] => 0
  | h :: r => if h.1 = k then h.2 else getC k r

theorem getC_none {k : ByteArray} : ∀ {l : List Ht}, (∀ x ∈ l, x.1 ≠ k) → getC k l = 0
  | [], _ => rfl
  | h :: r, hn => by
    unfold getC
    rw [if_neg (hn h (by simp))]
    exact getC_none fun x hx => hn x (List.mem_cons_of_mem _ hx)

theorem getC_addK {k k' : ByteArray} : ∀ {l : List Ht}, AscK l → getC k' (addK k l) = if k' = k then capC (getC k l + 1) else getC k' l
  | [], _ => by
    by_cases h : k' = k
    · subst h; simp [addK, getC, capC]
    · have h' : ¬ k = k' := fun e => h e.symm
      simp [addK, getC, h, h']
  | h :: r, hl => by
    unfold AscK at hl
    obtain ⟨h1, h2⟩ := List.pairwise_cons.1 hl
    unfold addK
    split
    · rename_i c
      have hne := slt_ne c
      simp only [getC, getC_addK (k := k) (k' := k') h2]
      by_cases e : k' = k
      · subst e; simp [hne]
      · simp [e]
    · rename_i c
      split
      · rename_i e
        by_cases e2 : k' = k
        · subst e2; simp [getC, e]
        · have e3 : ¬ k = k' := fun x => e2 x.symm
          simp [getC, e, e2, e3]
      · rename_i e
        by_cases e2 : k' = k
        · subst e2
          have hk : slt k' h.1 = true := by
            cases hs : slt k' h.1 with
            | true => rfl
            | false => exact absurd (slt_tri (by simpa using c) hs) e
          have : getC k' (h :: r) = 0 := getC_none fun x hx => by
            rcases List.mem_cons.1 hx with e | e
            · rw [e]; exact (slt_ne hk).symm
            · exact (slt_ne (slt_trans hk (h1 x e))).symm
          rw [this]
          simp [getC, capC]
        · have e3 : ¬ k = k' := fun x => e2 x.symm
          simp [getC, e2, e3]

/-- Ascending, with valid keys and counts. -/
def Good (l : List Ht) : Prop := AscK l ∧ ∀ h ∈ l, vkey h.1 = true ∧ 1 ≤ h.2 ∧ h.2 ≤ 1099511627776

theorem good_iff (l : List Ht) : validH l = true ↔ Good l ∧ l.length ≤ 32 := by
  rw [validH_iff]
  exact ⟨fun ⟨a, b, c⟩ => ⟨⟨b, a⟩, c⟩, fun ⟨⟨b, a⟩, c⟩ => ⟨a, b, c⟩⟩

theorem capC_rng {n : Int} (h : 1 ≤ n) : 1 ≤ capC n ∧ capC n ≤ 1099511627776 := by
  unfold capC; split <;> omega

theorem addK_val {k : ByteArray} : ∀ {l : List Ht}, (∀ h ∈ l, 1 ≤ h.2 ∧ h.2 ≤ 1099511627776) → ∀ x ∈ addK k l, 1 ≤ x.2 ∧ x.2 ≤ 1099511627776
  | [], _, x, hx => by simp [addK] at hx; rw [hx]; simp
  | h :: r, hl, x, hx => by
    have h0 := hl h (by simp)
    have hr : ∀ y ∈ r, 1 ≤ y.2 ∧ y.2 ≤ 1099511627776 := fun y hy => hl y (List.mem_cons_of_mem _ hy)
    unfold addK at hx
    split at hx
    · rcases List.mem_cons.1 hx with e | e
      · rw [e]; exact h0
      · exact addK_val hr x e
    · split at hx
      · rcases List.mem_cons.1 hx with e | e
        · rw [e]; exact capC_rng (by omega)
        · exact hr x e
      · rcases List.mem_cons.1 hx with e | e
        · rw [e]; simp
        · exact hl x e

theorem addK_good {k : ByteArray} (hk : vkey k = true) {l : List Ht} (h : Good l) : Good (addK k l) := by
  refine ⟨addK_asc h.1, fun x hx => ⟨?_, addK_val (fun y hy => (h.2 y hy).2) x hx⟩⟩
  rcases addK_key hx with e | e
  · rw [e]; exact hk
  · exact (h.2 x e).1

/-- Many keys. -/
def tchL (l : List Ht) (ks : List ByteArray) : List Ht := ks.foldl (fun a k => if vkey k then addK k a else a) l

theorem tchL_good : ∀ {ks : List ByteArray} {l : List Ht}, Good l → Good (tchL l ks)
  | [], _, h => h
  | k :: ks, l, h => by
    show Good (tchL (if vkey k then addK k l else l) ks)
    refine tchL_good ?_
    split
    · rename_i c; exact addK_good c h
    · exact h

theorem tchL_len : ∀ (ks : List ByteArray) (l : List Ht), (tchL l ks).length ≤ l.length + ks.length ∧ l.length ≤ (tchL l ks).length
  | [], l => by simp [tchL]
  | k :: ks, l => by
    have ih := tchL_len ks (if vkey k then addK k l else l)
    have := addK_len k l
    show (tchL (if vkey k then addK k l else l) ks).length ≤ _ ∧ _ ≤ (tchL (if vkey k then addK k l else l) ks).length
    simp only [List.length_cons]
    split at ih <;> rename_i c <;> (first | rw [if_pos c] | rw [if_neg c]) <;> omega

theorem tchL_step (l : List Ht) (ks : List ByteArray) (i : Nat) (h : i < ks.length) : tchL l (ks.take (i + 1)) = if vkey ks[i] then addK ks[i] (tchL l (ks.take i)) else tchL l (ks.take i) := by
  unfold tchL
  rw [List.take_add_one, List.getElem?_eq_getElem h]
  simp only [Option.toList, List.foldl_append, List.foldl_cons, List.foldl_nil]

theorem tchL_app (l : List Ht) (a b : List ByteArray) : tchL l (a ++ b) = tchL (tchL l a) b := by
  unfold tchL; rw [List.foldl_append]

def cnt (k : ByteArray) (ks : List ByteArray) : Int := ((ks.filter fun x => decide (x = k)).length : Nat)
theorem cnt_nn (k : ByteArray) (ks : List ByteArray) : 0 ≤ cnt k ks := by unfold cnt; omega
theorem cnt_cons (k x : ByteArray) (ks : List ByteArray) : cnt k (x :: ks) = if x = k then cnt k ks + 1 else cnt k ks := by
  unfold cnt
  by_cases h : x = k
  · simp [h]
  · simp [h]
theorem cnt_app (k : ByteArray) (a b : List ByteArray) : cnt k (a ++ b) = cnt k a + cnt k b := by
  unfold cnt; simp
theorem cnt_rev (k : ByteArray) (a : List ByteArray) : cnt k a.reverse = cnt k a := by
  unfold cnt; rw [List.filter_reverse, List.length_reverse]

theorem getC_le {k : ByteArray} : ∀ {l : List Ht}, (∀ h ∈ l, 1 ≤ h.2 ∧ h.2 ≤ 1099511627776) → 0 ≤ getC k l ∧ getC k l ≤ 1099511627776
  | [], _ => by simp [getC]
  | h :: r, hl => by
    have h0 := hl h (by simp)
    have ih := getC_le (k := k) (l := r) fun y hy => hl y (List.mem_cons_of_mem _ hy)
    unfold getC
    split <;> omega

theorem getC_tchL {k : ByteArray} : ∀ {ks : List ByteArray} {l : List Ht}, Good l → getC k (tchL l ks) = if vkey k then capC (getC k l + cnt k ks) else getC k l
  | [], l, h => by
    have := getC_le (k := k) fun x hx => (h.2 x hx).2
    show getC k l = _
    have e : cnt k [] = 0 := rfl
    rw [e]
    unfold capC
    split
    · split <;> omega
    · rfl
  | x :: ks, l, h => by
    show getC k (tchL (if vkey x then addK x l else l) ks) = _
    have hb := getC_le (k := k) fun y hy => (h.2 y hy).2
    have hc := cnt_nn k ks
    rw [cnt_cons]
    by_cases hv : vkey x = true
    · rw [if_pos hv, getC_tchL (addK_good hv h), getC_addK h.1]
      by_cases e : k = x
      · subst e
        rw [if_pos hv, if_pos hv, if_pos rfl, if_pos rfl]
        unfold capC
        split <;> split <;> (try split) <;> omega
      · have e' : ¬ x = k := fun q => e q.symm
        rw [if_neg e, if_neg e']
    · rw [if_neg hv, getC_tchL h]
      by_cases e : x = k
      · subst e; rw [if_neg hv, if_neg hv]
      · rw [if_neg e]

theorem good_ext : ∀ {l r : List Ht}, Good l → Good r → (∀ k, getC k l = getC k r) → l = r
  | [], [], _, _, _ => rfl
  | [], y :: r, _, hr, h => by
    have := h y.1
    have := (hr.2 y (by simp)).2
    simp [getC] at *
    omega
  | x :: l, [], hl, _, h => by
    have := h x.1
    have := (hl.2 x (by simp)).2
    simp [getC] at *
    omega
  | x :: l, y :: r, hl, hr, h => by
    obtain ⟨l1, l2⟩ := List.pairwise_cons.1 hl.1
    obtain ⟨r1, r2⟩ := List.pairwise_cons.1 hr.1
    have px := (hl.2 x (by simp)).2.1
    have py := (hr.2 y (by simp)).2.1
    have e : x.1 = y.1 := by
      cases c1 : slt x.1 y.1 with
      | true =>
        have : getC x.1 (y :: r) = 0 := getC_none fun z hz => by
          rcases List.mem_cons.1 hz with q | q
          · rw [q]; exact (slt_ne c1).symm
          · exact (slt_ne (slt_trans c1 (r1 z q))).symm
        have g := h x.1
        rw [this] at g
        simp only [getC, if_true] at g
        omega
      | false =>
        cases c2 : slt y.1 x.1 with
        | true =>
          have : getC y.1 (x :: l) = 0 := getC_none fun z hz => by
            rcases List.mem_cons.1 hz with q | q
            · rw [q]; exact (slt_ne c2).symm
            · exact (slt_ne (slt_trans c2 (l1 z q))).symm
          have g := h y.1
          rw [this] at g
          simp only [getC, if_true] at g
          omega
        | false => exact slt_tri c1 c2
    have e2 : x.2 = y.2 := by
      have g := h x.1
      simp only [getC, if_true, e] at g
      exact g
    have e3 : x = y := Prod.ext e e2
    subst e3
    congr 1
    refine good_ext ⟨l2, fun z hz => hl.2 z (List.mem_cons_of_mem _ hz)⟩ ⟨r2, fun z hz => hr.2 z (List.mem_cons_of_mem _ hz)⟩ fun k => ?_
    by_cases q : x.1 = k
    · subst q
      rw [getC_none fun z hz => (slt_ne (l1 z hz)).symm, getC_none fun z hz => (slt_ne (r1 z hz)).symm]
    · have g := h k
      simp only [getC, if_neg q] at g
      exact g

theorem tchL_comm {l : List Ht} (h : Good l) (a b : List ByteArray) : tchL l (a ++ b) = tchL l (b ++ a) :=
  good_ext (tchL_good h) (tchL_good h) fun k => by
    rw [getC_tchL h, getC_tchL h, cnt_app, cnt_app, Int.add_comm (cnt k a)]
theorem tchL_rev {l : List Ht} (h : Good l) (a : List ByteArray) : tchL l a.reverse = tchL l a :=
  good_ext (tchL_good h) (tchL_good h) fun k => by
    rw [getC_tchL h, getC_tchL h, cnt_rev]

/-! ### the hottest -/

/-- Is a hotter than b? -/
def hotB (a b : Ht) : Bool := decide (b.2 < a.2) || (decide (a.2 = b.2) && slt a.1 b.1)
def rank (l : List Ht) (h : Ht) : Nat := (l.filter fun x => hotB x h).length
def cutL (l : List Ht) : List Ht := l.filter fun h => decide (rank l h < 32)

theorem hotB_irrefl (a : Ht) : hotB a a = false := by simp [hotB, slt_irrefl]
theorem hotB_asymm {a b : Ht} (h : hotB a b = true) : hotB b a = false := by
  unfold hotB at *
  by_cases c1 : b.2 < a.2
  · have : ¬ a.2 < b.2 := by omega
    have : ¬ b.2 = a.2 := by omega
    simp [*]
  · simp only [c1, decide_false, Bool.false_or, Bool.and_eq_true, decide_eq_true_eq] at h
    have : ¬ a.2 < b.2 := by omega
    simp [this, slt_asymm h.2]
theorem hotB_tot {a b : Ht} (h : a.1 ≠ b.1) (k : hotB a b = false) : hotB b a = true := by
  unfold hotB at *
  by_cases c1 : a.2 < b.2
  · simp [c1]
  · by_cases c2 : b.2 < a.2
    · simp [c2] at k
    · have e : a.2 = b.2 := by omega
      simp only [e, decide_true, Bool.true_and, Int.lt_irrefl, decide_false, Bool.false_or] at k ⊢
      cases c : slt b.1 a.1 with
      | true => rfl
      | false => exact absurd (slt_tri k c) h

theorem ascK_sub {l r : List Ht} (h : AscK l) (hs : List.Sublist r l) : AscK r := List.Pairwise.sublist hs h
theorem cutL_sub (l : List Ht) : List.Sublist (cutL l) l := List.filter_sublist
theorem cutL_good {l : List Ht} (h : Good l) : Good (cutL l) := ⟨ascK_sub h.1 (cutL_sub l), fun x hx => h.2 x (List.mem_filter.1 hx).1⟩

theorem ascK_ne {l : List Ht} (h : AscK l) {i j : Nat} (hi : i < l.length) (hj : j < l.length) (hij : i ≠ j) : l[i].1 ≠ l[j].1 := by
  rcases Nat.lt_or_ge i j with c | c
  · exact slt_ne ((List.pairwise_iff_getElem.1 h) i j hi hj c)
  · exact (slt_ne ((List.pairwise_iff_getElem.1 h) j i hj hi (by omega))).symm

theorem cutL_all {l : List Ht} (hl : l.length ≤ 32) : cutL l = l := by
  unfold cutL
  rw [List.filter_eq_self]
  intro h hm
  rw [decide_eq_true_eq]
  have : rank l h < l.length := by
    unfold rank
    have h0 := List.length_filter_le (fun x => hotB x h) l
    rcases Nat.lt_or_ge (l.filter fun x => hotB x h).length l.length with c | c
    · exact c
    · have e : l.filter (fun x => hotB x h) = l := List.Sublist.eq_of_length_le List.filter_sublist c
      have := (List.filter_eq_self.1 e) h hm
      rw [hotB_irrefl] at this
      cases this
  omega

/-- The coldest goes: what stays of the hottest 32 is the same. -/
theorem cutL_drop {l : List Ht} {c : Nat} (hl : 32 < l.length) (hc : c < l.length) (hcold : ∀ (j : Nat) (hj : j < l.length), j ≠ c → hotB l[j] l[c] = true) : cutL (l.take c ++ l.drop (c + 1)) = cutL l := by
  have e : l = l.take c ++ l[c] :: l.drop (c + 1) := by rw [List.getElem_cons_drop, List.take_append_drop]
  have hA : ∀ x ∈ l.take c, hotB x l[c] = true := fun x hx => by
    obtain ⟨j, hj, rfl⟩ := List.getElem_of_mem hx
    rw [List.length_take] at hj
    rw [List.getElem_take]
    exact hcold j (by omega) (by omega)
  have hB : ∀ x ∈ l.drop (c + 1), hotB x l[c] = true := fun x hx => by
    obtain ⟨j, hj, rfl⟩ := List.getElem_of_mem hx
    rw [List.length_drop] at hj
    rw [List.getElem_drop]
    exact hcold _ (by omega) (by omega)
  generalize l.take c = A at *
  generalize l.drop (c + 1) = B at *
  generalize l[c] = x at *
  subst e
  have r0 : ∀ h, hotB h x = true → rank (A ++ x :: B) h = rank (A ++ B) h := fun h hh => by
    unfold rank
    rw [List.filter_append, List.filter_append, List.filter_cons_of_neg (by rw [hotB_asymm hh]; simp)]
  have rx : ¬ rank (A ++ x :: B) x < 32 := by
    unfold rank
    rw [List.filter_append, List.filter_cons_of_neg (by rw [hotB_irrefl]; simp), List.filter_eq_self.2 hA, List.filter_eq_self.2 hB]
    simp only [List.length_append, List.length_cons] at hl ⊢
    omega
  unfold cutL
  rw [List.filter_append, List.filter_append, List.filter_cons_of_neg (by simpa using rx)]
  congr 1
  · refine List.filter_congr fun h hh => ?_
    rw [r0 h (hA h hh)]
  · refine List.filter_congr fun h hh => ?_
    rw [r0 h (hB h hh)]

theorem nodup_asc {l : List Ht} (h : AscK l) : l.Nodup := List.Pairwise.imp (fun {a b} h e => by rw [e, slt_irrefl] at h; cases h) h

theorem asc_ext {l r : List Ht} (hl : AscK l) (hr : AscK r) (h : l.Perm r) : l = r :=
  List.Perm.eq_of_pairwise (le := fun (a b : Ht) => slt a.1 b.1 = true) (fun a b _ _ h k => by rw [slt_asymm h] at k; cases k) hl hr h

/-- A list of counters, touched. -/
def tchF (l : List Ht) (ks : List ByteArray) : List Ht := if validH l then cutL (tchL l ks) else []

/-! ### sums -/

def tot (l : List Ht) : Int := (l.map (·.2)).sum
theorem tot_cons (h : Ht) (l : List Ht) : tot (h :: l) = h.2 + tot l := by simp [tot]
theorem tot_nil : tot [] = 0 := rfl
theorem tot_nn : ∀ {l : List Ht}, (∀ h ∈ l, 1 ≤ h.2 ∧ h.2 ≤ 1099511627776) → 0 ≤ tot l ∧ tot l ≤ 1099511627776 * l.length
  | [], _ => by simp [tot]
  | h :: r, hl => by
    have h0 := hl h (by simp)
    have ih := tot_nn (l := r) fun y hy => hl y (List.mem_cons_of_mem _ hy)
    rw [tot_cons, List.length_cons]
    omega
theorem tot_sub : ∀ {l : List Ht} (p : Ht → Bool), (∀ h ∈ l, 1 ≤ h.2) → tot (l.filter p) ≤ tot l
  | [], p, _ => by simp
  | h :: r, p, hl => by
    have h0 := hl h (by simp)
    have ih := tot_sub (l := r) p fun y hy => hl y (List.mem_cons_of_mem _ hy)
    rw [List.filter_cons]
    split
    · rw [tot_cons, tot_cons]; omega
    · rw [tot_cons]; omega
theorem tot_addK {k : ByteArray} : ∀ {l : List Ht}, AscK l → (∀ h ∈ l, 1 ≤ h.2 ∧ h.2 ≤ 1099511627776) → tot (addK k l) = if getC k l = 1099511627776 then tot l else tot l + 1
  | [], _, _ => by simp [addK, getC, tot]
  | h :: r, hl, hv => by
    unfold AscK at hl
    obtain ⟨h1, h2⟩ := List.pairwise_cons.1 hl
    have h0 := hv h (by simp)
    have ih := tot_addK (k := k) (l := r) h2 fun y hy => hv y (List.mem_cons_of_mem _ hy)
    unfold addK
    split
    · rename_i c
      rw [tot_cons, ih, tot_cons]
      simp only [getC, slt_ne c, if_false]
      split <;> omega
    · rename_i c
      split
      · rename_i e
        simp only [getC, e, if_true, tot_cons, capC]
        split <;> split <;> omega
      · rename_i e
        have hk : slt k h.1 = true := by
          cases hs : slt k h.1 with
          | true => rfl
          | false => exact absurd (slt_tri (by simpa using c) hs) e
        have : getC k (h :: r) = 0 := getC_none fun x hx => by
          rcases List.mem_cons.1 hx with e | e
          · rw [e]; exact (slt_ne hk).symm
          · exact (slt_ne (slt_trans hk (h1 x e))).symm
        rw [this, tot_cons]
        simp only [show ¬ ((0 : Int) = 1099511627776) by decide, if_false]
        show (1 : Int) + tot (h :: r) = _
        rw [tot_cons]; omega

def vcnt (ks : List ByteArray) : Int := ((ks.filter vkey).length : Nat)
theorem vcnt_cons (k : ByteArray) (ks : List ByteArray) : vcnt (k :: ks) = if vkey k then vcnt ks + 1 else vcnt ks := by
  unfold vcnt
  rw [List.filter_cons]
  split <;> simp
theorem vcnt_step (ks : List ByteArray) (i : Nat) (h : i < ks.length) : vcnt (ks.take (i + 1)) = if vkey ks[i] then vcnt (ks.take i) + 1 else vcnt (ks.take i) := by
  unfold vcnt
  rw [List.take_add_one, List.getElem?_eq_getElem h, List.filter_append]
  cases c : vkey ks[i] <;> simp [c]

theorem mem_getC {l : List Ht} {k : ByteArray} (h : getC k l ≠ 0) : ∃ x ∈ l, x.2 = getC k l := by
  induction l with
  | nil => exact absurd rfl h
  | cons x r ih =>
    unfold getC at h ⊢
    split at h
    · rename_i e; rw [if_pos e]; exact ⟨x, by simp, rfl⟩
    · rename_i e; rw [if_neg e]
      obtain ⟨y, hy, h⟩ := ih h
      exact ⟨y, List.mem_cons_of_mem _ hy, h⟩
theorem getC_mem : ∀ {l : List Ht}, AscK l → ∀ x ∈ l, getC x.1 l = x.2
  | [], _, x, hx => by cases hx
  | h :: r, hl, x, hx => by
    unfold AscK at hl
    obtain ⟨h1, h2⟩ := List.pairwise_cons.1 hl
    rcases List.mem_cons.1 hx with e | e
    · subst e; simp [getC]
    · unfold getC
      rw [if_neg (slt_ne (h1 x e)), getC_mem h2 x e]

theorem tot_tchL : ∀ {ks : List ByteArray} {l : List Ht}, Good l → tot (tchL l ks) ≤ tot l + vcnt ks ∧ ((∃ x ∈ tchL l ks, x.2 = 1099511627776) ∨ tot (tchL l ks) = tot l + vcnt ks)
  | [], l, h => by
    have e : vcnt [] = 0 := rfl
    show tot l ≤ tot l + vcnt [] ∧ ((∃ x ∈ l, x.2 = 1099511627776) ∨ tot l = tot l + vcnt [])
    rw [e]
    exact ⟨by omega, .inr (by omega)⟩
  | k :: ks, l, h => by
    rw [vcnt_cons]
    show tot (tchL (if vkey k then addK k l else l) ks) ≤ _ ∧ ((∃ x ∈ tchL (if vkey k then addK k l else l) ks, _) ∨ tot (tchL (if vkey k then addK k l else l) ks) = _)
    by_cases hv : vkey k = true
    · rw [if_pos hv, if_pos hv]
      have hg := addK_good hv h
      obtain ⟨i1, i2⟩ := tot_tchL (ks := ks) hg
      have ht := tot_addK (k := k) h.1 fun y hy => (h.2 y hy).2
      by_cases c : getC k l = 1099511627776
      · rw [if_pos c] at ht
        refine ⟨by omega, .inl ?_⟩
        have hgc : getC k (tchL (addK k l) ks) = 1099511627776 := by
          rw [getC_tchL hg, if_pos hv, getC_addK h.1, if_pos rfl, c]
          have := cnt_nn k ks
          unfold capC
          rw [if_pos (by decide : (1099511627776 : Int) < 1099511627776 + 1)]
          split <;> omega
        obtain ⟨x, hx, e⟩ := mem_getC (l := tchL (addK k l) ks) (k := k) (by rw [hgc]; decide)
        exact ⟨x, hx, by rw [e, hgc]⟩
      · rw [if_neg c] at ht
        refine ⟨by omega, ?_⟩
        rcases i2 with i2 | i2
        · exact .inl i2
        · exact .inr (by omega)
    · rw [if_neg hv, if_neg hv]
      exact tot_tchL h

theorem tot_half : ∀ (l : List Ht), (∀ h ∈ l, 1 ≤ h.2) → 2 * tot (decL l) ≤ tot l
  | [], _ => by simp [decL, tot]
  | h :: r, hl => by
    have h0 := hl h (by simp)
    have ih := tot_half r fun y hy => hl y (List.mem_cons_of_mem _ hy)
    unfold decL at ih ⊢
    rw [List.filter_cons]
    split
    · rw [List.map_cons, tot_cons, tot_cons]
      simp only [half]
      omega
    · rw [tot_cons]; omega


/-! ## T1b -/

open Go.Sort Go.Shelf Go.Proofs Go.Lib in
/-- By falling heat, the first 32, by keys: the 32 hottest. -/
theorem cut_sorts {l : List Ht} (hl : AscK l) : sortL Try0.keyC ((sortL Try0.hotC l).take 32) = cutL l ∧ (sortL Try0.hotC l).length = l.length := by
  obtain ⟨p1, n1, s1⟩ := sortL_sorts Try0.swo_hot l
  generalize sortL Try0.hotC l = s at *
  obtain ⟨p2, n2, s2⟩ := sortL_sorts Try0.swo_key (s.take 32)
  generalize sortL Try0.keyC (s.take 32) = t at *
  refine ⟨?_, n1⟩
  have nd : s.Nodup := p1.nodup_iff.2 (nodup_asc hl)
  have kinj : ∀ a ∈ l, ∀ b ∈ l, a.1 = b.1 → a = b := fun a ha b hb e => by
    obtain ⟨i, hi, rfl⟩ := List.getElem_of_mem ha
    obtain ⟨j, hj, rfl⟩ := List.getElem_of_mem hb
    rcases Nat.decEq i j with c | c
    · exact absurd e (ascK_ne hl hi hj c)
    · subst c; rfl
  have hs : ∀ (i j : Nat) (hi : i < s.length) (hj : j < s.length), i < j → hotB s[i] s[j] = true := fun i j hi hj hij => by
    have h := s1 i j hi hj hij
    have hne : s[j].1 ≠ s[i].1 := fun e => by
      have := kinj _ (p1.mem_iff.1 (List.getElem_mem hj)) _ (p1.mem_iff.1 (List.getElem_mem hi)) e
      have := (List.getElem_inj nd).1 this
      omega
    refine hotB_tot hne ?_
    have hh : ¬ ltOf Try0.hotC s[j] s[i] = true := by unfold ltOf; simpa using h
    rw [Try0.hot_lt] at hh
    unfold hotB
    rw [Bool.eq_false_iff]
    simpa using hh
  have rk : ∀ (i : Nat) (hi : i < s.length), rank l s[i] = i := fun i hi => by
    unfold rank
    rw [← (p1.filter _).length_eq]
    have e : s = s.take i ++ s.drop i := (List.take_append_drop i s).symm
    have e1 : (s.take i).filter (fun x => hotB x s[i]) = s.take i := List.filter_eq_self.2 fun x hx => by
      obtain ⟨j, hj, rfl⟩ := List.getElem_of_mem hx
      rw [List.length_take] at hj
      rw [List.getElem_take]
      exact hs j i (by omega) hi (by omega)
    have e2 : (s.drop i).filter (fun x => hotB x s[i]) = [] := List.filter_eq_nil_iff.2 fun x hx => by
      obtain ⟨j, hj, rfl⟩ := List.getElem_of_mem hx
      rw [List.length_drop] at hj
      rw [List.getElem_drop]
      rcases Nat.eq_zero_or_pos j with c | c
      · subst c; simp only [Nat.add_zero, hotB_irrefl]; simp
      · rw [hotB_asymm (hs i (i + j) hi (by omega) (by omega))]; simp
    have : (s.filter fun x => hotB x s[i]) = (s.take i).filter (fun x => hotB x s[i]) ++ (s.drop i).filter (fun x => hotB x s[i]) := by
      rw [← List.filter_append, List.take_append_drop]
    rw [this, e1, e2, List.append_nil, List.length_take]
    omega
  have mt : ∀ x, x ∈ s.take 32 ↔ x ∈ cutL l := fun x => by
    unfold cutL
    rw [List.mem_filter, decide_eq_true_eq]
    constructor
    · intro hx
      obtain ⟨j, hj, rfl⟩ := List.getElem_of_mem hx
      rw [List.length_take] at hj
      rw [List.getElem_take]
      exact ⟨p1.mem_iff.1 (List.getElem_mem _), by rw [rk j (by omega)]; omega⟩
    · rintro ⟨h1, h2⟩
      obtain ⟨j, hj, rfl⟩ := List.getElem_of_mem (p1.mem_iff.2 h1)
      rw [rk j hj] at h2
      exact List.mem_iff_getElem.2 ⟨j, by rw [List.length_take]; omega, by rw [List.getElem_take]⟩
  have ndt : t.Nodup := p2.nodup_iff.2 (nd.sublist (List.take_sublist _ _))
  have tl : ∀ x ∈ t, x ∈ l := fun x hx => p1.mem_iff.1 (List.mem_of_mem_take (p2.mem_iff.1 hx))
  refine asc_ext ?_ (ascK_sub hl (cutL_sub l)) ?_
  · unfold AscK
    rw [List.pairwise_iff_getElem]
    intro i j hi hj hij
    have h := s2 i j hi hj hij
    have hne : t[j].1 ≠ t[i].1 := fun e => by
      have := kinj _ (tl _ (List.getElem_mem hj)) _ (tl _ (List.getElem_mem hi)) e
      have := (List.getElem_inj ndt).1 this
      omega
    have hh : ¬ ltOf Try0.keyC t[j] t[i] = true := by unfold ltOf; simpa using h
    rw [Try0.key_lt] at hh
    cases c : slt t[i].1 t[j].1 with
    | true => rfl
    | false => exact absurd (slt_tri (by simpa using hh) c) hne
  · refine (List.perm_ext_iff_of_nodup ndt ((nodup_asc hl).sublist (cutL_sub l))).2 fun x => ?_
    rw [p2.mem_iff, mt]

open Go.Sort Go.Shelf Go.Proofs Go.Lib in
theorem cutL_len {l : List Ht} (hl : AscK l) : (cutL l).length = min 32 l.length := by
  obtain ⟨e, n⟩ := cut_sorts hl
  rw [← e]
  have := (sortL_sorts Try0.swo_key ((sortL Try0.hotC l).take 32)).2.1
  rw [this, List.length_take, n]

theorem tchF_valid (l : List Ht) (ks : List ByteArray) : validH (tchF l ks) = true := by
  unfold tchF
  split
  · rename_i h
    have hg := tchL_good (ks := ks) ((good_iff l).1 h).1
    refine (good_iff _).2 ⟨cutL_good hg, ?_⟩
    rw [cutL_len hg.1]; omega
  · rfl


/-! ## T2 -/

theorem ps_scmp (a b : ByteArray) : PS tb 25 [.str a, .str b] (.int .i64 (cmpS a b)) := by
  refine ⟨0, ?_⟩
  have hA : tb.A 25 = none := rfl
  have hX : tb.X = outside := rfl
  simp only [cfs, hA, hX]
  simp [outside, CallF.or, clones, cmpStrX, insX, sortX22, sortFX, insX, sortStrX, growX]

theorem ps_byKey (h : Ht) (k : ByteArray) : PS tb 20 [.agg (htC h), .str k] (.int .i64 (cmpS h.1 k)) := by
  refine PS_of (af := a20) rfl rfl ?_
  unfold a20
  dsimp only [List.map, ofPV, initEnv, htC]
  repeat' (first | exact ps_scmp _ _ | (simp (disch := omega) only [go_sem, seval, reduceCtorEq]) | with_reducible exact Ev.mk | apply x_call | ((first | apply x_split | apply x_splitg) <;> intro hβ hb <;> (simp (disch := omega) only [go_sem, seval, reduceCtorEq, hβ]) <;> clear hβ))
  all_goals simp [pur, dep]

theorem l_searchF (l : List Ht) (k : ByteArray) (b : Bool) (hl : l.length ≤ 1099511627776) (hs : AscK l) (K : Ex → St → Prop)
    (hx : ∀ p, p ≤ l.length → (∀ (x : Nat) (hx : x < l.length), x < p → slt l[x].1 k = true) → (∀ (x : Nat) (hx : x < l.length), p ≤ x → slt l[x].1 k = false) → K (.exit 0) ⟨[(0, .p (.slice b (htRow l))), (1, .p (.str k)), (2, .p (.func 20 [])), (8, .p (.int .i64 l.length)), (9, .p (.int .i64 p))], [], 0, [0]⟩) :
    ∀ (m i j : Nat), j - i ≤ m → i ≤ j → j ≤ l.length → (∀ (x : Nat) (hx : x < l.length), x < i → slt l[x].1 k = true) → (∀ (x : Nat) (hx : x < l.length), j ≤ x → slt l[x].1 k = false) →
    W tb a19_l0 ⟨[(0, .p (.slice b (htRow l))), (1, .p (.str k)), (2, .p (.func 20 [])), (8, .p (.int .i64 l.length)), (9, .p (.int .i64 i)), (10, .p (.int .i64 j))], [], 0, [0]⟩ (LK tb (.ghost .lower a19_l0) K) := by
  intro m
  induction m with
  | zero =>
    intro i j hm hij hj h1 h2
    obtain rfl : i = j := by omega
    have h3 : ¬ (i : Int) < i := by omega
    refine i_code (by unfold a19_l0; exact rfl) ?_
    (try simp (disch := omega) only [go_sem, seval, reduceCtorEq, h3])
    exact hx i hj h1 h2
  | succ m ih =>
    intro i j hm hij hj h1 h2
    by_cases hlt : i < j
    · have h3 : (i : Int) < j := by omega
      have h4 : (i : Int) + (j : Int) = ((i + j : Nat) : Int) := by omega
      have h5 := shr_one' (i + j)
      have h6 : (i + j) / 2 < l.length := by omega
      have h7 := htRow_get l _ h6
      have h8 : (0 : Int) ≤ (((i + j) / 2 : Nat) : Int) := by omega
      have q := ps_byKey l[(i + j) / 2] k
      simp only [htC] at q
      have hc := cmpS_lt l[(i + j) / 2].1 k
      refine i_code (by unfold a19_l0; exact rfl) ?_
      by_cases hb : cmpS l[(i + j) / 2].1 k < 0
      · repeat' (first | exact q | (simp (disch := omega) only [go_sem, seval, reduceCtorEq, h3, h4, h5, h7, h8, Go.IntWalk.u64_in, hb]) | with_reducible exact Ev.mk | apply x_call | ((first | apply x_split | apply x_splitg) <;> intro hβ hb <;> (simp (disch := omega) only [go_sem, seval, reduceCtorEq, h3, h4, h5, h7, h8, Go.IntWalk.u64_in, hb, hβ]) <;> clear hβ))
        refine i_lk (W_round ?_)
        (try simp (disch := omega) only [go_sem, seval, reduceCtorEq])
        refine ih ((i + j) / 2 + 1) j (by omega) (by omega) hj (fun x hx hxi => ?_) h2
        have hm := hc.1 hb
        rcases Nat.lt_or_ge x ((i + j) / 2) with h9 | h9
        · exact slt_trans ((List.pairwise_iff_getElem.1 hs) x _ hx h6 h9) hm
        · have : x = (i + j) / 2 := by omega
          subst this; exact hm
      · repeat' (first | exact q | (simp (disch := omega) only [go_sem, seval, reduceCtorEq, h3, h4, h5, h7, h8, Go.IntWalk.u64_in, hb]) | with_reducible exact Ev.mk | apply x_call | ((first | apply x_split | apply x_splitg) <;> intro hβ hb <;> (simp (disch := omega) only [go_sem, seval, reduceCtorEq, h3, h4, h5, h7, h8, Go.IntWalk.u64_in, hb, hβ]) <;> clear hβ))
        refine i_lk (W_round ?_)
        (try simp (disch := omega) only [go_sem, seval, reduceCtorEq])
        refine ih i ((i + j) / 2) (by omega) (by omega) (by omega) h1 (fun x hx hxi => ?_)
        have hm : slt l[(i + j) / 2].1 k = false := by
          cases hs : slt l[(i + j) / 2].1 k with
          | false => rfl
          | true => exact absurd (hc.2 hs) hb
        rcases Nat.lt_or_ge ((i + j) / 2) x with h9 | h9
        · exact sle_trans hm (slt_asymm ((List.pairwise_iff_getElem.1 hs) _ x h6 hx h9))
        · have : x = (i + j) / 2 := by omega
          subst this; exact hm
    · obtain rfl : i = j := by omega
      have h3 : ¬ (i : Int) < i := by omega
      refine i_code (by unfold a19_l0; exact rfl) ?_
      (try simp (disch := omega) only [go_sem, seval, reduceCtorEq, h3])
      exact hx i hj h1 h2

def fndK (l : List Ht) (k : ByteArray) (p : Nat) : Bool := match l[p]? with
  | some h => decide (h.1 = k)
  | none => false

/-- A key's place: what stands before is less, what stands there is not. -/
def At (l : List Ht) (k : ByteArray) (p : Nat) : Prop := p ≤ l.length ∧ (∀ (x : Nat) (hx : x < l.length), x < p → slt l[x].1 k = true) ∧ (∀ (x : Nat) (hx : x < l.length), p ≤ x → slt l[x].1 k = false)

theorem ps_searchF (l : List Ht) (k : ByteArray) (b : Bool) (hl : l.length ≤ 1099511627776) (hs : AscK l) : ∃ p : Nat, At l k p ∧ PS tb 19 [.slice b (htRow l), .str k, .func 20 []] (.tuple [.int .i64 p, .bool (fndK l k p)]) := by
  have w : W tb a19.body { env := initEnv 0 ([PV.slice b (htRow l), PV.str k, PV.func 20 []].map ofPV), heap := [], next := 0, marks := [0] } (Done a19.results fun v s => ∃ i : {p : Nat // At l k p}, pur s.heap dep v = some (.tuple [.int .i64 i.1, .bool (fndK l k i.1)])) := by
    unfold a19
    dsimp only [List.map, ofPV, initEnv]
    repeat' (first | (simp (disch := omega) only [go_sem, seval, reduceCtorEq, htRow_length]) | with_reducible exact Ev.mk | ((first | apply x_split | apply x_splitg) <;> intro hβ hb <;> (simp (disch := omega) only [go_sem, seval, reduceCtorEq, htRow_length, hβ]) <;> clear hβ))
    refine W_round ?_
    (try simp (disch := omega) only [go_sem, seval, reduceCtorEq])
    refine l_searchF l k b hl hs _ ?_ l.length 0 l.length (by omega) (by omega) (Nat.le_refl _) (fun x _ h => by omega) (fun x _ h => by omega)
    intro p hp h1 h2
    have hat : At l k p := ⟨hp, h1, h2⟩
    by_cases hlt : p < l.length
    · have h3 : (p : Int) < l.length := by omega
      have h4 := htRow_get l _ hlt
      have h5 : (0 : Int) ≤ p := by omega
      have q := ps_byKey l[p] k
      simp only [htC] at q
      have hf : fndK l k p = (cmpS l[p].1 k == 0) := by
        unfold fndK
        rw [List.getElem?_eq_getElem hlt]
        have := cmpS_eq l[p].1 k
        by_cases c : l[p].1 = k
        · simp [c, cmpS_eq]
        · have c2 : ¬ cmpS l[p].1 k = 0 := fun e => c (this.1 e)
          simp [c, c2]
      generalize hg : (cmpS l[p].1 k == 0) = g at hf
      repeat' (first | exact q | (simp (disch := omega) only [go_sem, seval, reduceCtorEq, h3, h4, h5, hg]) | with_reducible exact Ev.mk | apply x_call | ((first | apply x_split | apply x_splitg) <;> intro hβ hb <;> (simp (disch := omega) only [go_sem, seval, reduceCtorEq, h3, h4, h5, hg, hβ]) <;> clear hβ))
      all_goals exact ⟨⟨p, hat⟩, by simp [pur, dep, mapO, hf]⟩
    · have h3 : ¬ (p : Int) < l.length := by omega
      have hf : fndK l k p = false := by
        unfold fndK
        rw [List.getElem?_eq_none (by omega)]
      repeat' (first | (simp (disch := omega) only [go_sem, seval, reduceCtorEq, h3]) | with_reducible exact Ev.mk | ((first | apply x_split | apply x_splitg) <;> intro hβ hb <;> (simp (disch := omega) only [go_sem, seval, reduceCtorEq, h3, hβ]) <;> clear hβ))
      all_goals exact ⟨⟨p, hat⟩, by simp [pur, dep, mapO, hf]⟩
  obtain ⟨i, hi⟩ := PS_ex (f := 19) rfl rfl w
  exact ⟨i.1, i.2, hi⟩

theorem htRow_set (l : List Ht) (i : Nat) (k : ByteArray) (c : Int) : (htRow l).set i [.str k, .int .i64 c] = htRow (l.set i (k, c)) := by
  simp [htRow, List.map_set, htC]
theorem htRow_ins (l : List Ht) (p : Nat) (k : ByteArray) (c : Int) : insAt (htRow l) [[.str k, .int .i64 c]] p = htRow (l.take p ++ (k, c) :: l.drop p) := by
  simp [htRow, insAt, htC, List.map_take, List.map_drop]

theorem bs_insert (l : List Ht) (k : ByteArray) (c : Int) (b : Bool) (p : Nat) (hp : p ≤ l.length) (hl : l.length ≤ 1099511627776) (H : Heap) (id nx : Nat) (hH : aget H id = some (.row false 2 (htRow l))) :
    BS tb 21 [.ref id l.length 0 l.length, .p (.int .i64 p), .p (.slice b [[.str k, .int .i64 c]])] H nx (.ref id (l.length + 1) 0 (l.length + 1)) (hset H id (.row false 2 (htRow (l.take p ++ (k, c) :: l.drop p)))) nx := by
  refine ⟨0, ?_⟩
  have hA : tb.A 21 = none := rfl
  have hX : tb.X = outside := rfl
  have h1 : (l.length + 1) * 24 ≤ maxBytes := by simp only [maxBytes]; omega
  have h2 : l.length + 1 ≤ maxBytes := by simp only [maxBytes]; omega
  have h3 : (0 : Int) ≤ p := by omega
  have h4 : (p : Int) ≤ l.length := by omega
  have h5 : allSz 2 [[PV.str k, PV.int .i64 c]] = true := rfl
  have h6 := htRow_ins l p k c
  simp only [cfs, hA, hX]
  simp [outside, CallF.or, clones, cmpStrX, insX, sortX22, sortFX, insX, sortStrX, growX, hH, htRow_length, h1, h2, h4, h5, h6]


/-! ## T3 -/

theorem bs_cloneH (l : List Ht) (b : Bool) (hl : l.length ≤ 1099511627776) (H : Heap) (nx : Nat) : BS tb 18 [.p (.slice b (htRow l))] H nx (.ref nx l.length 0 l.length) ((nx, .row false 2 (htRow l)) :: H) (nx + 1) := by
  refine ⟨0, ?_⟩
  have hA : tb.A 18 = none := rfl
  have h1 : l.length * 24 ≤ maxBytes := by simp only [maxBytes]; omega
  have h2 : l.length ≤ maxBytes := by simp only [maxBytes]; omega
  have hX : tb.X = outside := rfl
  simp only [cfs, hA, hX]
  simp [outside, CallF.or, clones, cloneOf, allSz_htRow, htRow_length, h1, h2]

theorem dec_row : ∀ l : List Ht, mapO Try0.decH (htRow l) = some l
  | [] => rfl
  | h :: r => by
    have ih := dec_row r
    unfold htRow at ih ⊢
    simp only [List.map_cons, mapO, ih]
    rfl

theorem bs_sortH (l r : List Ht) (g : FuncId) (cf : Ht → Ht → Int) (hg : Try0.csH g = some cf) (h0 : l ≠ []) (hl : l.length ≤ 1099511627776) (H : Heap) (id nx : Nat) (hH : aget H id = some (.row false 2 (htRow (l ++ r)))) :
    BS tb 22 [.ref id (l.length + r.length) 0 l.length, .func g []] H nx (.tuple []) (hset H id (.row false 2 (htRow (sortL cf l ++ r)))) nx := by
  refine ⟨0, ?_⟩
  have hA : tb.A 22 = none := rfl
  have hX : tb.X = outside := rfl
  have h1 : (htRow (l ++ r)).take l.length = htRow l := by rw [htRow_take]; simp
  have h2 : l.isEmpty = false := by cases l with | nil => exact absurd rfl h0 | cons _ _ => rfl
  have h3 : l.length ≤ maxBytes := by simp only [maxBytes]; omega
  have h4 : (sortL cf l).map Try0.hpC ++ (htRow (l ++ r)).drop l.length = htRow (sortL cf l ++ r) := by
    rw [htRow_drop, ← htRow_append]
    have : (l ++ r).drop l.length = r := by simp
    rw [this]; rfl
  have h5 := dec_row l
  simp only [cfs, hA, hX]
  simp [outside, CallF.or, clones, cloneOf, cmpStrX, insX, sortX22, sortFX, insX, sortStrX, growX, hH, htRow_length, h0, h1, h2, h3, h4, h5, hg]

theorem l_tch (l : List Ht) (ks : List ByteArray) (b : Bool) (hg : Good l) (hl : l.length ≤ 32) (hk : ks.length ≤ 4294967296) (K : Ex → St → Prop)
    (hx : K (.exit 0) ⟨[(5, .ref 0 (tchL l ks).length 0 (tchL l ks).length)], [(0, .row false 2 (htRow (tchL l ks)))], 1, [0]⟩) : ∀ (m i : Nat), i + m = ks.length → ∀ acc, acc = tchL l (ks.take i) →
    W tb a6_l0 ⟨[(5, .ref 0 acc.length 0 acc.length), (15, .p (.slice b (strRow ks))), (16, .p (.int .i64 ks.length)), (17, .p (.int .i64 i))], [(0, .row false 2 (htRow acc))], 1, [0]⟩ (LK tb (.ghost .lower a6_l0) K) := by
  intro m
  induction m with
  | zero =>
    rintro i hi acc rfl
    have h1 : ¬ (i : Int) < ks.length := by omega
    rw [List.take_of_length_le (by omega)]
    refine i_code (by unfold a6_l0; exact rfl) ?_
    repeat' (first | (simp (disch := omega) only [go_sem, seval, reduceCtorEq, h1]) | with_reducible exact Ev.mk | ((first | apply x_split | apply x_splitg) <;> intro hβ hb <;> (simp (disch := omega) only [go_sem, seval, reduceCtorEq, h1, hβ]) <;> clear hβ))
    exact hx
  | succ m ih =>
    rintro i hi acc hacc
    have h1 : (i : Int) < ks.length := by omega
    have h2 : i < ks.length := by omega
    have h4 : (0 : Int) ≤ i := by omega
    have h3 := strRow_get ks i h2
    have st := tchL_step l ks i h2
    rw [← hacc] at st
    have hga : Good acc := by rw [hacc]; exact tchL_good hg
    have hla : acc.length ≤ 4294967328 := by
      have := (tchL_len (ks.take i) l).1
      rw [← hacc, List.length_take] at this
      omega
    have ihk := ih (i + 1) (by omega) _ st.symm
    obtain ⟨p, ⟨p1, p2, p3⟩, q⟩ := ps_searchF acc ks[i] false (by omega) hga.1
    have ea := addK_at ks[i] acc p p1 p2 (fun hp => p3 p hp (Nat.le_refl _))
    refine i_code (by unfold a6_l0; exact rfl) ?_
    cases hv : vkey ks[i] with
    | false =>
      rw [if_neg (by rw [hv]; simp)] at ihk
      repeat' (first | exact ps_kvalid _ | (simp (disch := omega) only [go_sem, seval, reduceCtorEq, h1, h3, h4, hv]) | with_reducible exact Ev.mk | apply x_call | ((first | apply x_split | apply x_splitg) <;> intro hβ hb <;> (simp (disch := omega) only [go_sem, seval, reduceCtorEq, h1, h3, h4, hv, hβ]) <;> clear hβ))
      refine i_lk (W_round ?_)
      (try simp (disch := omega) only [go_sem, seval, reduceCtorEq])
      exact ihk
    | true =>
      rw [if_pos hv] at ihk
      have h6 : (0 : Int) ≤ p := by omega
      cases hf : fndK acc ks[i] p with
      | true =>
        rw [hf] at q
        have hp : p < acc.length := by
          unfold fndK at hf
          split at hf
          · rename_i h hh; exact (List.getElem?_eq_some_iff.1 hh).1
          · cases hf
        have hkk : acc[p].1 = ks[i] := by
          unfold fndK at hf
          rw [List.getElem?_eq_getElem hp] at hf
          simpa using hf
        have h5 := htRow_get acc p hp
        have h7 : (p : Int) < acc.length := by omega
        obtain ⟨v1, v2⟩ := (hga.2 _ (List.getElem_mem hp)).2
        have es : acc.set p (ks[i], capC (acc[p].2 + 1)) = acc.take p ++ (ks[i], capC (acc[p].2 + 1)) :: acc.drop (p + 1) := by rw [List.set_eq_take_append_cons_drop, if_pos hp]
        rw [dif_pos hp, if_pos hkk, ← es] at ea
        rw [ea, List.length_set] at ihk
        have hs := htRow_set acc p acc[p].1 (capC (acc[p].2 + 1))
        rw [hkk] at hs h5
        unfold capC at hs ihk
        have hw : (if acc[p].2 + 1 < 1099511627776 then acc[p].2 + 1 else 1099511627776) = (if 1099511627776 < acc[p].2 + 1 then 1099511627776 else acc[p].2 + 1) := by split <;> split <;> omega
        repeat' (first | exact ps_kvalid _ | exact q | (simp (disch := omega) only [go_sem, seval, reduceCtorEq, h1, h3, h4, h5, h6, h7, hp, hv, hw, hs, htRow_length, htRow_take, htRow_drop, List.drop_zero, takeAll]) | with_reducible exact Ev.mk | apply x_call | ((first | apply x_split | apply x_splitg) <;> intro hβ hb <;> (simp (disch := omega) only [go_sem, seval, reduceCtorEq, h1, h3, h4, h5, h6, h7, hp, hv, hw, hs, htRow_length, htRow_take, htRow_drop, List.drop_zero, takeAll, hβ]) <;> clear hβ))
        refine i_lk (W_round ?_)
        (try simp (disch := omega) only [go_sem, seval, reduceCtorEq, htRow_length])
        exact ihk
      | false =>
        rw [hf] at q
        have hne : addK ks[i] acc = acc.take p ++ (ks[i], 1) :: acc.drop p := by
          rw [ea]
          split
          · rename_i hp
            unfold fndK at hf
            rw [List.getElem?_eq_getElem hp] at hf
            rw [if_neg (by simpa using hf)]
          · rename_i hp
            rw [List.take_of_length_le (by omega), List.drop_of_length_le (by omega)]
        have hz : (acc.take p).length = p := by simp; omega
        obtain ⟨r, hr⟩ : ∃ r, r = acc.take p ++ (ks[i], 0) :: acc.drop p := ⟨_, rfl⟩
        have hrl : r.length = acc.length + 1 := by rw [hr]; simp; omega
        have hrp : p < r.length := by omega
        have hrg : r[p] = (ks[i], 0) := by
          subst hr
          rw [List.getElem_append_right (by omega)]
          simp [hz]
        have hrs : r.set p (ks[i], 1) = addK ks[i] acc := by
          rw [hne, hr, List.set_append_right _ _ (by omega), hz, Nat.sub_self]
          rfl
        have h5 := htRow_get r p hrp
        rw [hrg] at h5
        dsimp only at h5
        have h7 : (p : Int) < ((acc.length + 1 : Nat) : Int) := by omega
        have hs := htRow_set r p ks[i] 1
        rw [hrs] at hs
        have hpl : p < acc.length + 1 := by omega
        have hal : (addK ks[i] acc).length = acc.length + 1 := by rw [← hrs, List.length_set, hrl]
        rw [hal] at ihk
        have qi := fun H hH => bs_insert acc ks[i] 0 true p p1 (by omega) H 0 1 hH
        rw [← hr] at qi
        have q2 := qi [(0, .row false 2 (htRow acc))] rfl
        repeat' (first | exact ps_kvalid _ | exact q | exact q2 | (simp (disch := omega) only [go_sem, seval, reduceCtorEq, h1, h3, h4, h5, h6, h7, hpl, hv, hs, hrl, htRow_length, htRow_take, htRow_drop, List.drop_zero, takeAll]) | with_reducible exact Ev.mk | apply x_call | apply x_callr | ((first | apply x_split | apply x_splitg) <;> intro hβ hb <;> (simp (disch := omega) only [go_sem, seval, reduceCtorEq, h1, h3, h4, h5, h6, h7, hpl, hv, hs, hrl, htRow_length, htRow_take, htRow_drop, List.drop_zero, takeAll, hβ]) <;> clear hβ))
        refine i_lk (W_round ?_)
        (try simp (disch := omega) only [go_sem, seval, reduceCtorEq, htRow_length])
        exact ihk

theorem ps_touch (l : List Ht) (ks : List ByteArray) (b d : Bool) (hl : l.length ≤ 9223372036854775807) (hk : ks.length ≤ 4294967296) :
    PS tb 6 [.slice b (htRow l), .slice d (strRow ks)] (.slice (!validH l) (htRow (tchF l ks))) := by
  refine PS_of (af := a6) rfl rfl ?_
  unfold a6
  dsimp only [List.map, ofPV, initEnv]
  have q := ps_hvalid l b hl
  cases c : validH l with
  | false =>
    rw [c] at q
    repeat' (first | exact q | (simp (disch := omega) only [go_sem, seval, reduceCtorEq]) | with_reducible exact Ev.mk | apply x_call | ((first | apply x_split | apply x_splitg) <;> intro hβ hb <;> (simp (disch := omega) only [go_sem, seval, reduceCtorEq, hβ]) <;> clear hβ))
    all_goals simp [pur, dep, tchF, c, htRow]
  | true =>
    rw [c] at q
    have hv := (good_iff l).1 c
    have hc := hv.2
    have hf : tchF l ks = cutL (tchL l ks) := by unfold tchF; rw [c]; rfl
    have hln := (tchL_len ks l).1
    have hg := tchL_good (ks := ks) hv.1
    repeat' (first | exact q | exact bs_cloneH l b (by omega) _ _ | (simp (disch := omega) only [go_sem, seval, reduceCtorEq]) | with_reducible exact Ev.mk | apply x_call | apply x_callr | ((first | apply x_split | apply x_splitg) <;> intro hβ hb <;> (simp (disch := omega) only [go_sem, seval, reduceCtorEq, hβ]) <;> clear hβ))
    refine W_round ?_
    (try simp (disch := omega) only [go_sem, seval, reduceCtorEq, strRow_length])
    refine l_tch l ks d hv.1 hc hk _ ?_ ks.length 0 (by omega) l rfl
    rw [hf]
    generalize hX : tchL l ks = X at *
    by_cases c1 : 32 < X.length
    · have c2 : (32 : Int) < X.length := by omega
      obtain ⟨e1, e2⟩ := cut_sorts hg.1
      have hne : X ≠ [] := by rintro rfl; simp at c1
      have s1 := fun H hH => bs_sortH X [] 23 Try0.hotC rfl hne (by omega) H 0 1 hH
      have s2 := s1 [(0, .row false 2 (htRow X))] (by simp [aget])
      simp only [List.append_nil, List.length_nil, Nat.add_zero] at s2
      generalize hS : sortL Try0.hotC X = S at *
      have t1 : (S.take 32).length = 32 := by rw [List.length_take]; omega
      have t2 : (S.take 32).length + (S.drop 32).length = X.length := by rw [← List.length_append, List.take_append_drop, e2]
      have hne2 : S.take 32 ≠ [] := by intro e; rw [e] at t1; simp at t1
      have u1 := fun H hH => bs_sortH (S.take 32) (S.drop 32) 24 Try0.keyC rfl hne2 (by omega) H 0 1 hH
      have u2 := u1 [(0, .row false 2 (htRow S))] (by simp [aget])
      rw [t2, t1, e1] at u2
      have t3 : 32 ≤ X.length := by omega
      have t4 : ((cutL X) ++ S.drop 32).length = X.length := by
        rw [List.length_append, ← e1, (sortL_sorts Try0.swo_key (S.take 32)).2.1, t2]
      have t5 : ((cutL X) ++ S.drop 32).take 32 = cutL X := by
        rw [List.take_append_of_le_length (by rw [← e1, (sortL_sorts Try0.swo_key (S.take 32)).2.1]; omega)]
        exact List.take_of_length_le (by rw [← e1, (sortL_sorts Try0.swo_key (S.take 32)).2.1]; omega)
      have t6 : (32 : Int) ≤ X.length := by omega
      repeat' (first | exact s2 | exact u2 | (simp (disch := omega) only [go_sem, seval, reduceCtorEq, c2, htRow_length, e2, t6]) | with_reducible exact Ev.mk | apply x_callr | ((first | apply x_split | apply x_splitg) <;> intro hβ hb <;> (simp (disch := omega) only [go_sem, seval, reduceCtorEq, c2, htRow_length, e2, t6, hβ]) <;> clear hβ))
      have t7 : (cutL X).length + (S.length - 32) = X.length := by rw [List.length_append, List.length_drop] at t4; exact t4
      all_goals (simp [pur, dep, htRow_length, htRow_take, t4, t5, t3, t7]; try omega)
    · have c2 : ¬ (32 : Int) < X.length := by omega
      rw [cutL_all (by omega)]
      repeat' (first | (simp (disch := omega) only [go_sem, seval, reduceCtorEq, c2, htRow_length]) | with_reducible exact Ev.mk | ((first | apply x_split | apply x_splitg) <;> intro hβ hb <;> (simp (disch := omega) only [go_sem, seval, reduceCtorEq, c2, htRow_length, hβ]) <;> clear hβ))
      all_goals simp [pur, dep, htRow_length, htRow_take]


/-! ## T4 -/

theorem l_radd (l : List Ht) (k : ByteArray) (b : Bool) (hl : l.length ≤ 1099511627776) (p : Nat) (hp : p ≤ l.length) (h1p : ∀ (x : Nat) (hx : x < l.length), x < p → slt l[x].1 k = true) (h2p : ∀ (hp : p < l.length), slt l[p].1 k = false) (K : Ex → St → Prop)
    (hx : K (.exit 0) ⟨[(0, .p (.slice b (htRow l))), (1, .p (.str k)), (5, .p (.int .i64 p))], [], 0, [0]⟩) : ∀ (m i : Nat), i + m = p →
    W tb a32_l0 ⟨[(0, .p (.slice b (htRow l))), (1, .p (.str k)), (5, .p (.int .i64 i))], [], 0, [0]⟩ (LK tb (.ghost .lower a32_l0) K) := by
  intro m
  induction m with
  | zero =>
    intro i hi
    obtain rfl : i = p := by omega
    refine i_code (by unfold a32_l0; exact rfl) ?_
    by_cases c : i < l.length
    · have h1 : (i : Int) < l.length := by omega
      have h4 : (0 : Int) ≤ i := by omega
      have h3 := htRow_get l i c
      have h5 := h2p c
      repeat' (first | (simp (disch := omega) only [go_sem, seval, reduceCtorEq, h1, h3, h4, h5, htRow_length]) | with_reducible exact Ev.mk | ((first | apply x_split | apply x_splitg) <;> intro hβ hb <;> (simp (disch := omega) only [go_sem, seval, reduceCtorEq, h1, h3, h4, h5, htRow_length, hβ]) <;> clear hβ))
      exact hx
    · have h1 : ¬ (i : Int) < l.length := by omega
      repeat' (first | (simp (disch := omega) only [go_sem, seval, reduceCtorEq, h1, htRow_length]) | with_reducible exact Ev.mk | ((first | apply x_split | apply x_splitg) <;> intro hβ hb <;> (simp (disch := omega) only [go_sem, seval, reduceCtorEq, h1, htRow_length, hβ]) <;> clear hβ))
      exact hx
  | succ m ih =>
    intro i hi
    have c : i < l.length := by omega
    have h1 : (i : Int) < l.length := by omega
    have h4 : (0 : Int) ≤ i := by omega
    have h3 := htRow_get l i c
    have h5 := h1p i c (by omega)
    refine i_code (by unfold a32_l0; exact rfl) ?_
    repeat' (first | (simp (disch := omega) only [go_sem, seval, reduceCtorEq, h1, h3, h4, h5, htRow_length]) | with_reducible exact Ev.mk | ((first | apply x_split | apply x_splitg) <;> intro hβ hb <;> (simp (disch := omega) only [go_sem, seval, reduceCtorEq, h1, h3, h4, h5, htRow_length, hβ]) <;> clear hβ))
    refine i_lk (W_round ?_)
    (try simp (disch := omega) only [go_sem, seval, reduceCtorEq])
    exact ih (i + 1) (by omega)

theorem htRow_one (k : ByteArray) (c : Int) : [[PV.str k, PV.int .i64 c]] = htRow [(k, c)] := rfl

theorem exists_at (l : List Ht) (k : ByteArray) : ∃ p, p ≤ l.length ∧ (∀ (x : Nat) (hx : x < l.length), x < p → slt l[x].1 k = true) ∧ (∀ (hp : p < l.length), slt l[p].1 k = false) := by
  induction l with
  | nil => exact ⟨0, Nat.le_refl _, fun x hx => absurd hx (by simp), fun hp => absurd hp (by simp)⟩
  | cons h r ih =>
    cases c : slt h.1 k with
    | false => exact ⟨0, Nat.zero_le _, fun x hx h => by omega, fun hp => c⟩
    | true =>
      obtain ⟨p, p1, p2, p3⟩ := ih
      refine ⟨p + 1, by simpa using p1, fun x hx hlt => ?_, fun hp => p3 (by simpa using hp)⟩
      cases x with
      | zero => exact c
      | succ x => exact p2 x (by simpa using hx) (by omega)

theorem ps_radd (l : List Ht) (k : ByteArray) (b : Bool) (hl : l.length ≤ 1099511627776) (hv : ∀ h ∈ l, 1 ≤ h.2 ∧ h.2 ≤ 1099511627776) : PS tb 32 [.slice b (htRow l), .str k] (.slice false (htRow (addK k l))) := by
  obtain ⟨p, p1, p2, p3⟩ := exists_at l k
  have ea := addK_at k l p p1 p2 p3
  refine PS_of (af := a32) rfl rfl ?_
  unfold a32
  dsimp only [List.map, ofPV, initEnv]
  repeat' (first | (simp (disch := omega) only [go_sem, seval, reduceCtorEq]) | with_reducible exact Ev.mk | ((first | apply x_split | apply x_splitg) <;> intro hβ hb <;> (simp (disch := omega) only [go_sem, seval, reduceCtorEq, hβ]) <;> clear hβ))
  refine W_round ?_
  (try simp (disch := omega) only [go_sem, seval, reduceCtorEq])
  refine l_radd l k b hl p p1 p2 p3 _ ?_ p 0 (by omega)
  have h4 : (0 : Int) ≤ p := by omega
  have h6 : (p : Int) ≤ l.length := by omega
  have h7 : (l.take p).length = p := by simp; omega
  have h8 : (l.drop p).length ≤ 1099511627776 := by simp; omega
  have h9 : (l.drop (p + 1)).length ≤ 1099511627776 := by simp; omega
  by_cases c : p < l.length
  · have h1 : (p : Int) < l.length := by omega
    have h3 := htRow_get l p c
    obtain ⟨v1, v2⟩ := hv _ (List.getElem_mem c)
    rw [dif_pos c] at ea
    have g2 : ((p : Int) + 1) = ((p + 1 : Nat) : Int) := by omega
    have g3 : (0 : Int) ≤ ((p + 1 : Nat) : Int) := by omega
    have g4 : ((p + 1 : Nat) : Int) ≤ l.length := by omega
    by_cases e : l[p].1 = k
    · rw [if_pos e] at ea
      have d1 : decide (l[p].1 = k) = true := decide_eq_true e
      rw [ea]
      unfold capC
      by_cases c2 : l[p].2 + 1 < 1099511627776
      · have c3 : ¬ 1099511627776 < l[p].2 + 1 := by omega
        repeat' (first | (simp (disch := omega) only [go_sem, seval, reduceCtorEq, h1, h3, h4, h6, d1, c2, c3, g2, g3, g4, allSz_htRow, htRow_length, htRow_take, htRow_drop, htRow_append, htRow_one, htRow_nil, maxB, List.length_append, List.drop_zero, takeApp, takeAll]) | with_reducible exact Ev.mk | ((first | apply x_split | apply x_splitg) <;> intro hβ hb <;> (simp (disch := omega) only [go_sem, seval, reduceCtorEq, h1, h3, h4, h6, d1, c2, c3, g2, g3, g4, allSz_htRow, htRow_length, htRow_take, htRow_drop, htRow_append, htRow_one, htRow_nil, maxB, List.length_append, List.drop_zero, takeApp, takeAll, hβ]) <;> clear hβ))
        rw [List.take_of_length_le (by simp; omega), List.append_assoc]
        rfl
      · have c4 : capC (l[p].2 + 1) = 1099511627776 := by unfold capC; split <;> omega
        unfold capC at c4
        rw [c4]
        repeat' (first | (simp (disch := omega) only [go_sem, seval, reduceCtorEq, h1, h3, h4, h6, d1, c2, g2, g3, g4, allSz_htRow, htRow_length, htRow_take, htRow_drop, htRow_append, htRow_one, htRow_nil, maxB, List.length_append, List.drop_zero, takeApp, takeAll]) | with_reducible exact Ev.mk | ((first | apply x_split | apply x_splitg) <;> intro hβ hb <;> (simp (disch := omega) only [go_sem, seval, reduceCtorEq, h1, h3, h4, h6, d1, c2, g2, g3, g4, allSz_htRow, htRow_length, htRow_take, htRow_drop, htRow_append, htRow_one, htRow_nil, maxB, List.length_append, List.drop_zero, takeApp, takeAll, hβ]) <;> clear hβ))
        rw [List.take_of_length_le (by simp; omega), List.append_assoc]
        rfl
    · rw [if_neg e] at ea
      have d1 : decide (l[p].1 = k) = false := decide_eq_false e
      rw [ea]
      repeat' (first | (simp (disch := omega) only [go_sem, seval, reduceCtorEq, h1, h3, h4, h6, d1, g2, g3, g4, allSz_htRow, htRow_length, htRow_take, htRow_drop, htRow_append, htRow_one, htRow_nil, maxB, List.length_append, List.drop_zero, takeApp, takeAll]) | with_reducible exact Ev.mk | ((first | apply x_split | apply x_splitg) <;> intro hβ hb <;> (simp (disch := omega) only [go_sem, seval, reduceCtorEq, h1, h3, h4, h6, d1, g2, g3, g4, allSz_htRow, htRow_length, htRow_take, htRow_drop, htRow_append, htRow_one, htRow_nil, maxB, List.length_append, List.drop_zero, takeApp, takeAll, hβ]) <;> clear hβ))
      rw [List.take_of_length_le (by simp; omega), List.append_assoc]
      rfl
  · have h1 : ¬ (p : Int) < l.length := by omega
    rw [dif_neg c] at ea
    rw [ea]
    have e1 : l.take p = l := List.take_of_length_le (by omega)
    have e2 : l.drop p = [] := List.drop_of_length_le (by omega)
    repeat' (first | (simp (disch := omega) only [go_sem, seval, reduceCtorEq, h1, h4, h6, allSz_htRow, htRow_length, htRow_take, htRow_drop, htRow_append, htRow_one, htRow_nil, maxB, List.length_append, List.drop_zero, takeApp, takeAll]) | with_reducible exact Ev.mk | ((first | apply x_split | apply x_splitg) <;> intro hβ hb <;> (simp (disch := omega) only [go_sem, seval, reduceCtorEq, h1, h4, h6, allSz_htRow, htRow_length, htRow_take, htRow_drop, htRow_append, htRow_one, htRow_nil, maxB, List.length_append, List.drop_zero, takeApp, takeAll, hβ]) <;> clear hβ))
    rw [e1, e2, List.append_nil, List.take_of_length_le (by simp)]

/-! ### the coldest -/

theorem l_cold (l : List Ht) (b : Bool) (hl : l.length ≤ 1099511627776) (K : Ex → St → Prop)
    (hx : ∀ c : Nat, c < l.length → (∀ (j : Nat) (hj : j < l.length) (hc : c < l.length), l[c].2 ≤ l[j].2) → (∀ (j : Nat) (hj : j < l.length) (hc : c < l.length), c < j → l[c].2 < l[j].2) → K (.exit 0) ⟨[(3, .p (.int .i64 c))], [], 0, [0]⟩) : ∀ (m i c : Nat), i + m = l.length → c < l.length → (c < i ∨ (i = 0 ∧ c = 0)) →
    (∀ (j : Nat) (hj : j < l.length) (hc : c < l.length), j < i → l[c].2 ≤ l[j].2) → (∀ (j : Nat) (hj : j < l.length) (hc : c < l.length), j < i → c < j → l[c].2 < l[j].2) →
    W tb a33_l0 ⟨[(0, .p (.slice b (htRow l))), (3, .p (.int .i64 c)), (4, .p (.int .i64 i))], [], 0, [0]⟩ (LK tb (.ghost .lower a33_l0) K) := by
  intro m
  induction m with
  | zero =>
    intro i c hi hc hci h1 h2
    have h3 : ¬ (i : Int) < l.length := by omega
    refine i_code (by unfold a33_l0; exact rfl) ?_
    repeat' (first | (simp (disch := omega) only [go_sem, seval, reduceCtorEq, h3, htRow_length]) | with_reducible exact Ev.mk | ((first | apply x_split | apply x_splitg) <;> intro hβ hb <;> (simp (disch := omega) only [go_sem, seval, reduceCtorEq, h3, htRow_length, hβ]) <;> clear hβ))
    exact hx c hc (fun j hj hc => h1 j hj hc (by omega)) (fun j hj hc hcj => h2 j hj hc (by omega) hcj)
  | succ m ih =>
    intro i c hi hc hci h1 h2
    have h3 : (i : Int) < l.length := by omega
    have hil : i < l.length := by omega
    have h4 : (0 : Int) ≤ i := by omega
    have h5 := htRow_get l i hil
    have h6 : (0 : Int) ≤ c := by omega
    have h7 := htRow_get l c hc
    refine i_code (by unfold a33_l0; exact rfl) ?_
    by_cases q : l[i].2 ≤ l[c].2
    · repeat' (first | (simp (disch := omega) only [go_sem, seval, reduceCtorEq, h3, h4, h5, h6, h7, q, htRow_length]) | with_reducible exact Ev.mk | ((first | apply x_split | apply x_splitg) <;> intro hβ hb <;> (simp (disch := omega) only [go_sem, seval, reduceCtorEq, h3, h4, h5, h6, h7, q, htRow_length, hβ]) <;> clear hβ))
      refine i_lk (W_round ?_)
      (try simp (disch := omega) only [go_sem, seval, reduceCtorEq])
      refine ih (i + 1) i (by omega) hil (by omega) (fun j hj hc' hji => ?_) (fun j hj hc' hji hcj => by omega)
      rcases Nat.lt_or_ge j i with g | g
      · have := h1 j hj hc g; omega
      · obtain rfl : j = i := by omega
        omega
    · repeat' (first | (simp (disch := omega) only [go_sem, seval, reduceCtorEq, h3, h4, h5, h6, h7, q, htRow_length]) | with_reducible exact Ev.mk | ((first | apply x_split | apply x_splitg) <;> intro hβ hb <;> (simp (disch := omega) only [go_sem, seval, reduceCtorEq, h3, h4, h5, h6, h7, q, htRow_length, hβ]) <;> clear hβ))
      refine i_lk (W_round ?_)
      (try simp (disch := omega) only [go_sem, seval, reduceCtorEq])
      refine ih (i + 1) c (by omega) hc ?_ (fun j hj hc' hji => ?_) (fun j hj hc' hji hcj => ?_)
      · rcases hci with g | g
        · left; omega
        · obtain ⟨rfl, rfl⟩ := g
          exact absurd (Int.le_refl _) q
      · rcases Nat.lt_or_ge j i with g | g
        · exact h1 j hj hc g
        · obtain rfl : j = i := by omega
          omega
      · rcases Nat.lt_or_ge j i with g | g
        · exact h2 j hj hc g hcj
        · obtain rfl : j = i := by omega
          omega

theorem ps_cold (l : List Ht) (b : Bool) (hl : l.length ≤ 1099511627776) (h0 : 0 < l.length) (hs : AscK l) : ∃ c : Nat, (∃ hc : c < l.length, ∀ (j : Nat) (hj : j < l.length), j ≠ c → hotB l[j] l[c] = true) ∧ PS tb 33 [.slice b (htRow l)] (.int .i64 c) := by
  have w : W tb a33.body { env := initEnv 0 ([PV.slice b (htRow l)].map ofPV), heap := [], next := 0, marks := [0] } (Done a33.results fun v s => ∃ i : {c : Nat // ∃ hc : c < l.length, ∀ (j : Nat) (hj : j < l.length), j ≠ c → hotB l[j] l[c] = true}, pur s.heap dep v = some (.int .i64 i.1)) := by
    unfold a33
    dsimp only [List.map, ofPV, initEnv]
    repeat' (first | (simp (disch := omega) only [go_sem, seval, reduceCtorEq]) | with_reducible exact Ev.mk | ((first | apply x_split | apply x_splitg) <;> intro hβ hb <;> (simp (disch := omega) only [go_sem, seval, reduceCtorEq, hβ]) <;> clear hβ))
    refine W_round ?_
    (try simp (disch := omega) only [go_sem, seval, reduceCtorEq])
    refine l_cold l b hl _ ?_ l.length 0 0 (by omega) h0 (by omega) (fun j hj hc h => by omega) (fun j hj hc h => by omega)
    intro c hc h1 h2
    repeat' (first | (simp (disch := omega) only [go_sem, seval, reduceCtorEq]) | with_reducible exact Ev.mk | ((first | apply x_split | apply x_splitg) <;> intro hβ hb <;> (simp (disch := omega) only [go_sem, seval, reduceCtorEq, hβ]) <;> clear hβ))
    all_goals refine ⟨⟨c, hc, fun j hj hne => ?_⟩, by simp [pur, dep]⟩
    all_goals
      unfold hotB
      have g1 := h1 j hj hc
      rcases Nat.lt_or_ge j c with g | g
      · have g2 := (List.pairwise_iff_getElem.1 hs) j c hj hc g
        by_cases e : l[c].2 < l[j].2
        · simp [e]
        · have e2 : l[j].2 = l[c].2 := by omega
          simp [e2, g2]
      · have g3 := h2 j hj hc (by omega)
        simp [g3]
  obtain ⟨i, hi⟩ := PS_ex (f := 33) rfl rfl w
  exact ⟨i.1, i.2, hi⟩

theorem ascK_drop {l : List Ht} (h : AscK l) (c : Nat) : AscK (l.take c ++ l.drop (c + 1)) :=
  ascK_sub h (by
    have : l.take c ++ l.drop c = l := List.take_append_drop c l
    conv => rhs; rw [← this]
    exact List.Sublist.append_left (List.drop_sublist_drop_left l (Nat.le_succ c)) _)

theorem l_rt0 (K : Ex → St → Prop) (r : List Ht) (hx : K (.exit 2) ⟨[(5, .p (.slice false (htRow r)))], [], 0, [0]⟩) : ∀ (m : Nat) (acc : List Ht), acc.length ≤ m + 32 → acc.length ≤ 1099511627776 → AscK acc → cutL acc = r →
    W tb a14_l0 ⟨[(5, .p (.slice false (htRow acc)))], [], 0, [0]⟩ (LK tb (.ghost (.pure [5]) (.ghost .reset a14_l0)) K) := by
  intro m
  induction m with
  | zero =>
    rintro acc h1 h2 h3 h4
    have e : acc = r := by rw [← h4]; exact (cutL_all (by omega)).symm
    subst e
    have c1 : ¬ (32 : Int) < acc.length := by omega
    refine i_code (by unfold a14_l0; exact rfl) ?_
    repeat' (first | (simp (disch := omega) only [go_sem, seval, reduceCtorEq, c1, htRow_length]) | with_reducible exact Ev.mk | ((first | apply x_split | apply x_splitg) <;> intro hβ hb <;> (simp (disch := omega) only [go_sem, seval, reduceCtorEq, c1, htRow_length, hβ]) <;> clear hβ))
    exact hx
  | succ m ih =>
    rintro acc h1 h2 h3 h4
    by_cases c1 : 32 < acc.length
    · have c2 : (32 : Int) < acc.length := by omega
      obtain ⟨c, ⟨hc, hcold⟩, q⟩ := ps_cold acc false h2 (by omega) h3
      have hcut := cutL_drop c1 hc hcold
      have g2 : ((c : Int) + 1) = ((c + 1 : Nat) : Int) := by omega
      have g3 : (0 : Int) ≤ ((c + 1 : Nat) : Int) := by omega
      have g4 : ((c + 1 : Nat) : Int) ≤ acc.length := by omega
      have g5 : (0 : Int) ≤ c := by omega
      have g6 : (c : Int) ≤ acc.length := by omega
      have k7 : (acc.take c).length = c := by simp; omega
      have k8 : (acc.drop (c + 1)).length ≤ 1099511627776 := by simp; omega
      have k10 : (acc.take c ++ acc.drop (c + 1)).length ≤ 1099511627776 := by simp; omega
      have k9 : (acc.take c ++ acc.drop (c + 1)).length ≤ m + 32 := by simp; omega
      refine i_code (by unfold a14_l0; exact rfl) ?_
      repeat' (first | exact q | (simp (disch := omega) only [go_sem, seval, reduceCtorEq, c2, g2, g3, g4, g5, g6, allSz_htRow, htRow_length, htRow_take, htRow_drop, htRow_append, htRow_nil, maxB, List.length_append, List.drop_zero, takeApp, takeAll]) | with_reducible exact Ev.mk | apply x_call | ((first | apply x_split | apply x_splitg) <;> intro hβ hb <;> (simp (disch := omega) only [go_sem, seval, reduceCtorEq, c2, g2, g3, g4, g5, g6, allSz_htRow, htRow_length, htRow_take, htRow_drop, htRow_append, htRow_nil, maxB, List.length_append, List.drop_zero, takeApp, takeAll, hβ]) <;> clear hβ))
      refine i_lk (W_round ?_)
      (try simp (disch := omega) only [go_sem, seval, reduceCtorEq, htRow_take, htRow_drop, List.drop_zero, takeApp, htRow_length, List.length_append])
      exact ih _ k9 k10 (ascK_drop h3 c) (by rw [hcut, h4])
    · have e : acc = r := by rw [← h4]; exact (cutL_all (by omega)).symm
      subst e
      have c1 : ¬ (32 : Int) < acc.length := by omega
      refine i_code (by unfold a14_l0; exact rfl) ?_
      repeat' (first | (simp (disch := omega) only [go_sem, seval, reduceCtorEq, c1, htRow_length]) | with_reducible exact Ev.mk | ((first | apply x_split | apply x_splitg) <;> intro hβ hb <;> (simp (disch := omega) only [go_sem, seval, reduceCtorEq, c1, htRow_length, hβ]) <;> clear hβ))
      exact hx

theorem l_rt1 (l : List Ht) (ks : List ByteArray) (b : Bool) (hg : Good l) (hl : l.length ≤ 32) (hk : ks.length ≤ 4294967296) (hsz : ∀ k ∈ ks, k.size ≤ 9223372036854775807) (K : Ex → St → Prop)
    (hx : K (.exit 0) ⟨[(5, .p (.slice false (htRow (tchL l ks))))], [], 0, [0]⟩) : ∀ (m i : Nat), i + m = ks.length → ∀ acc, acc = tchL l (ks.take i) →
    W tb a14_l1 ⟨[(1, .p (.slice b (strRow ks))), (5, .p (.slice false (htRow acc))), (6, .p (.int .i64 i))], [], 0, [0]⟩ (LK tb (.ghost (.pure [5]) (.ghost .reset a14_l1)) K) := by
  intro m
  induction m with
  | zero =>
    rintro i hi acc rfl
    have h1 : ¬ (i : Int) < ks.length := by omega
    rw [List.take_of_length_le (by omega)]
    refine i_code (by unfold a14_l1; exact rfl) ?_
    repeat' (first | (simp (disch := omega) only [go_sem, seval, reduceCtorEq, h1, strRow_length]) | with_reducible exact Ev.mk | ((first | apply x_split | apply x_splitg) <;> intro hβ hb <;> (simp (disch := omega) only [go_sem, seval, reduceCtorEq, h1, strRow_length, hβ]) <;> clear hβ))
    exact hx
  | succ m ih =>
    rintro i hi acc hacc
    have h1 : (i : Int) < ks.length := by omega
    have h2 : i < ks.length := by omega
    have h4 : (0 : Int) ≤ i := by omega
    have h3 := strRow_get ks i h2
    have hz := hsz _ (List.getElem_mem h2)
    have st := tchL_step l ks i h2
    rw [← hacc] at st
    have hga : Good acc := by rw [hacc]; exact tchL_good hg
    have hla : acc.length ≤ 1099511627776 := by
      have := (tchL_len (ks.take i) l).1
      rw [← hacc, List.length_take] at this
      omega
    have ihk := ih (i + 1) (by omega) _ st.symm
    have q2 := ps_radd acc ks[i] false hla (fun h hm => (hga.2 h hm).2)
    refine i_code (by unfold a14_l1; exact rfl) ?_
    cases hv : vkey ks[i] with
    | true =>
      rw [if_pos hv] at ihk
      repeat' (first | exact ps_r4valid _ hz | exact q2 | (simp (disch := omega) only [go_sem, seval, reduceCtorEq, h1, h3, h4, hv, strRow_length]) | with_reducible exact Ev.mk | apply x_call | ((first | apply x_split | apply x_splitg) <;> intro hβ hb <;> (simp (disch := omega) only [go_sem, seval, reduceCtorEq, h1, h3, h4, hv, strRow_length, hβ]) <;> clear hβ))
      refine i_lk (W_round ?_)
      (try simp (disch := omega) only [go_sem, seval, reduceCtorEq])
      exact ihk
    | false =>
      rw [if_neg (by rw [hv]; simp)] at ihk
      repeat' (first | exact ps_r4valid _ hz | exact q2 | (simp (disch := omega) only [go_sem, seval, reduceCtorEq, h1, h3, h4, hv, strRow_length]) | with_reducible exact Ev.mk | apply x_call | ((first | apply x_split | apply x_splitg) <;> intro hβ hb <;> (simp (disch := omega) only [go_sem, seval, reduceCtorEq, h1, h3, h4, hv, strRow_length, hβ]) <;> clear hβ))
      refine i_lk (W_round ?_)
      (try simp (disch := omega) only [go_sem, seval, reduceCtorEq])
      exact ihk

theorem ps_rtouch (l : List Ht) (ks : List ByteArray) (b d : Bool) (hl : l.length ≤ 9223372036854775807) (hlz : ∀ i (h : i < l.length), l[i].1.size ≤ 9223372036854775807) (hk : ks.length ≤ 4294967296) (hsz : ∀ k ∈ ks, k.size ≤ 9223372036854775807) :
    PS tb 14 [.slice b (htRow l), .slice d (strRow ks)] (.slice (!validH l) (htRow (tchF l ks))) := by
  refine PS_of (af := a14) rfl rfl ?_
  unfold a14
  dsimp only [List.map, ofPV, initEnv]
  have q := ps_rhvalid l b hl hlz
  cases c : validH l with
  | false =>
    rw [c] at q
    repeat' (first | exact q | (simp (disch := omega) only [go_sem, seval, reduceCtorEq]) | with_reducible exact Ev.mk | apply x_call | ((first | apply x_split | apply x_splitg) <;> intro hβ hb <;> (simp (disch := omega) only [go_sem, seval, reduceCtorEq, hβ]) <;> clear hβ))
    all_goals simp [pur, dep, tchF, c, htRow]
  | true =>
    rw [c] at q
    have hv := (good_iff l).1 c
    have hc := hv.2
    have hf : tchF l ks = cutL (tchL l ks) := by unfold tchF; rw [c]; rfl
    have hln := (tchL_len ks l).1
    repeat' (first | exact q | (simp (disch := omega) only [go_sem, seval, reduceCtorEq, allSz_htRow, htRow_length, htRow_append, List.nil_append, maxB]) | with_reducible exact Ev.mk | apply x_call | ((first | apply x_split | apply x_splitg) <;> intro hβ hb <;> (simp (disch := omega) only [go_sem, seval, reduceCtorEq, allSz_htRow, htRow_length, htRow_append, List.nil_append, maxB, hβ]) <;> clear hβ))
    refine W_round ?_
    (try simp (disch := omega) only [go_sem, seval, reduceCtorEq, htRow_take, htRow_drop, List.drop_zero, takeAll, htRow_length, List.nil_append])
    refine l_rt1 l ks d hv.1 hc hk hsz _ ?_ ks.length 0 (by omega) l rfl
    repeat' (first | (simp (disch := omega) only [go_sem, seval, reduceCtorEq]) | with_reducible exact Ev.mk | ((first | apply x_split | apply x_splitg) <;> intro hβ hb <;> (simp (disch := omega) only [go_sem, seval, reduceCtorEq, hβ]) <;> clear hβ))
    refine W_round ?_
    (try simp (disch := omega) only [go_sem, seval, reduceCtorEq])
    refine l_rt0 _ (tchF l ks) ?_ (tchL l ks).length (tchL l ks) (by omega) (by omega) (tchL_good hv.1).1 hf.symm
    repeat' (first | (simp (disch := omega) only [go_sem, seval, reduceCtorEq]) | with_reducible exact Ev.mk | ((first | apply x_split | apply x_splitg) <;> intro hβ hb <;> (simp (disch := omega) only [go_sem, seval, reduceCtorEq, hβ]) <;> clear hβ))
    all_goals simp [pur, dep]


/-! ## T5 -/

theorem l_rdec (l : List Ht) (b : Bool) (hl : l.length ≤ 32) (hc : ∀ x ∈ l, 1 ≤ x.2 ∧ x.2 ≤ 1099511627776) (K : Ex → St → Prop)
    (hx : K (.exit 0) ⟨[(3, .ref 0 (decL l).length 0 (decL l).length)], [(0, .row false 2 (htRow (decL l)))], 1, [0]⟩) : ∀ (m i : Nat), i + m = l.length →
    W tb a15_l0 ⟨[(0, .p (.slice b (htRow l))), (3, .ref 0 (decL (l.take i)).length 0 (decL (l.take i)).length), (4, .p (.int .i64 i))], [(0, .row false 2 (htRow (decL (l.take i))))], 1, [0]⟩ (LK tb (.ghost .lower a15_l0) K) := by
  intro m
  induction m with
  | zero =>
    intro i hi
    have h1 : ¬ (i : Int) < l.length := by omega
    have e : i = l.length := by omega
    subst e
    rw [List.take_length]
    refine i_code (by unfold a15_l0; exact rfl) ?_
    repeat' (first | (simp (disch := omega) only [go_sem, seval, reduceCtorEq, h1, htRow_length]) | with_reducible exact Ev.mk | ((first | apply x_split | apply x_splitg) <;> intro hβ hb <;> (simp (disch := omega) only [go_sem, seval, reduceCtorEq, h1, htRow_length, hβ]) <;> clear hβ))
    exact hx
  | succ m ih =>
    intro i hi
    have h1 : (i : Int) < l.length := by omega
    have h2 : i < l.length := by omega
    have h4 : (0 : Int) ≤ i := by omega
    have h3 := htRow_get l i h2
    have st := decL_step l i h2
    have ln := decL_len (l.take i)
    rw [List.length_take] at ln
    have m1 : ((decL (l.take i)).length + 1) * 24 ≤ 140737488355328 := by omega
    have m2 : (decL (l.take i)).length + 1 ≤ 140737488355328 := by omega
    obtain ⟨c1, c2⟩ := hc _ (List.getElem_mem h2)
    have ht : l[i].2.tdiv 2 = l[i].2 / 2 := Int.tdiv_eq_ediv_of_nonneg (by omega)
    have b1 : -9223372036854775808 ≤ l[i].2 / 2 := by omega
    have b2 : l[i].2 / 2 ≤ 9223372036854775807 := by omega
    have z : ¬ ((2 : Int) = 0) := by decide
    have sn := htRow_snoc (decL (l.take i)) (half l[i])
    simp only [half] at sn st
    have ihk := ih (i + 1) (by omega)
    rw [st] at ihk
    refine i_code (by unfold a15_l0; exact rfl) ?_
    by_cases c : 2 ≤ l[i].2
    · rw [if_pos c, List.length_append] at ihk
      simp only [List.length_cons, List.length_nil] at ihk
      repeat' (first | (simp (disch := omega) only [go_sem, seval, reduceCtorEq, h1, h3, h4, c, sn, ht, b1, b2, z, htRow_length, sz2, m1, m2, maxBytes]) | with_reducible exact Ev.mk | ((first | apply x_split | apply x_splitg) <;> intro hβ hb <;> (simp (disch := omega) only [go_sem, seval, reduceCtorEq, h1, h3, h4, c, sn, ht, b1, b2, z, htRow_length, sz2, m1, m2, maxBytes, hβ]) <;> clear hβ))
      refine i_lk (W_round ?_)
      (try simp (disch := omega) only [go_sem, seval, reduceCtorEq])
      exact ihk
    · rw [if_neg c] at ihk
      repeat' (first | (simp (disch := omega) only [go_sem, seval, reduceCtorEq, h1, h3, h4, c, sn, ht, b1, b2, z, htRow_length, sz2, m1, m2, maxBytes]) | with_reducible exact Ev.mk | ((first | apply x_split | apply x_splitg) <;> intro hβ hb <;> (simp (disch := omega) only [go_sem, seval, reduceCtorEq, h1, h3, h4, c, sn, ht, b1, b2, z, htRow_length, sz2, m1, m2, maxBytes, hβ]) <;> clear hβ))
      refine i_lk (W_round ?_)
      (try simp (disch := omega) only [go_sem, seval, reduceCtorEq])
      exact ihk

theorem ps_rdecay (l : List Ht) (b : Bool) (hl : l.length ≤ 9223372036854775807) (hlz : ∀ i (h : i < l.length), l[i].1.size ≤ 9223372036854775807) : PS tb 15 [.slice b (htRow l)] (.slice (!validH l) (htRow (decF l))) := by
  refine PS_of (af := a15) rfl rfl ?_
  unfold a15
  dsimp only [List.map, ofPV, initEnv]
  have q := ps_rhvalid l b hl hlz
  cases c : validH l with
  | false =>
    rw [c] at q
    repeat' (first | exact q | (simp (disch := omega) only [go_sem, seval, reduceCtorEq]) | with_reducible exact Ev.mk | apply x_call | ((first | apply x_split | apply x_splitg) <;> intro hβ hb <;> (simp (disch := omega) only [go_sem, seval, reduceCtorEq, hβ]) <;> clear hβ))
    all_goals simp [pur, dep, decF, c, htRow]
  | true =>
    rw [c] at q
    have hv := (validH_iff l).1 c
    have e0 : decL (l.take 0) = [] := rfl
    have e1 : decF l = decL l := by unfold decF; rw [c]; rfl
    rw [e1]
    repeat' (first | exact q | (simp (disch := omega) only [go_sem, seval, reduceCtorEq]) | with_reducible exact Ev.mk | apply x_call | ((first | apply x_split | apply x_splitg) <;> intro hβ hb <;> (simp (disch := omega) only [go_sem, seval, reduceCtorEq, hβ]) <;> clear hβ))
    refine W_round ?_
    (try simp (disch := omega) only [go_sem, seval, reduceCtorEq])
    have key := fun K hx => l_rdec l b hv.2.2 (fun x hx => (hv.1 x hx).2) K hx l.length 0 (by omega)
    rw [e0] at key
    refine key _ ?_
    have ht : (decL l).take (decL l).length = decL l := List.take_length
    repeat' (first | (simp (disch := omega) only [go_sem, seval, reduceCtorEq, htRow_length]) | with_reducible exact Ev.mk | ((first | apply x_split | apply x_splitg) <;> intro hβ hb <;> (simp (disch := omega) only [go_sem, seval, reduceCtorEq, htRow_length, hβ]) <;> clear hβ))
    all_goals simp [pur, dep, htRow_length, htRow_take, ht]

/-! ### batches -/

/-- The keys of a batch: of one text and of the other. -/
def bkF (fs : List Ft) : List ByteArray := fs.flatMap fun f => if f.all then [] else keysF f
def bkR (fs : List Ft) : List ByteArray := fs.flatMap fun f => if f.all then [] else keysR f
theorem flat_step {α β : Type} (g : α → List β) (l : List α) (i : Nat) (h : i < l.length) : (l.take (i + 1)).flatMap g = (l.take i).flatMap g ++ g l[i] := by
  rw [List.take_add_one, List.getElem?_eq_getElem h, List.flatMap_append]
  simp
theorem flat_len {α β : Type} (g : α → List β) (n : Nat) : ∀ l : List α, (∀ x ∈ l, (g x).length ≤ n) → (l.flatMap g).length ≤ l.length * n
  | [], _ => by simp
  | x :: r, h => by
    have ih := flat_len g n r fun y hy => h y (List.mem_cons_of_mem _ hy)
    have := h x (by simp)
    rw [List.flatMap_cons, List.length_append, List.length_cons, Nat.add_mul]
    omega

theorem mrg_eqT (l c : List ByteArray) : mrg (l ++ c) = insAll (insAll [] l) c :=
  strict_unique (strict_mrg _) (strict_insAll c (strict_insAll l List.Pairwise.nil)) fun x => by
    rw [mem_mrg, mem_insAll, mem_insAll, List.mem_append]; simp
theorem keys_eq (f : Ft) : keysF f = keysR f := by
  unfold keysF keysR
  rw [mrg_eqT]
theorem bk_eq (fs : List Ft) : bkR fs = bkF fs := by
  unfold bkR bkF
  simp only [keys_eq]
theorem keysF_len (f : Ft) : (keysF f).length ≤ 128 := by
  unfold keysF
  split
  · rename_i h
    have h1 := validF_len h
    have h2 := mrg_len (f.r ++ f.w)
    rw [List.length_append] at h2
    omega
  · simp
theorem bkF_len (fs : List Ft) : (bkF fs).length ≤ fs.length * 128 := flat_len _ _ _ fun f _ => by
  split
  · simp
  · exact keysF_len f

theorem strRow_app2 (a c : List ByteArray) : strRow a ++ strRow c = strRow (a ++ c) := by simp [strRow]

theorem l_bat (fs : List Ft) (b : Bool) (hf : fs.length ≤ 1048576) (hs : ∀ f ∈ fs, ShF f) (sv : List (Nat × DV)) (hsv : sv = []) (K : Ex → St → Prop) (l : List Ht) (d : Bool)
    (hx : K (.exit 0) ⟨[(0, .p (.slice d (htRow l))), (5, .ref 0 (bkF fs).length 0 (bkF fs).length)], [(0, .row false 1 (strRow (bkF fs)))], 1, [0]⟩) : ∀ (m i : Nat), i + m = fs.length → ∀ acc, acc = bkF (fs.take i) →
    W tb a11_l0 ⟨[(0, .p (.slice d (htRow l))), (5, .ref 0 acc.length 0 acc.length), (11, .p (.slice b (ftRow fs))), (12, .p (.int .i64 fs.length)), (13, .p (.int .i64 i))], [(0, .row false 1 (strRow acc))], 1, [0]⟩ (LK tb (.ghost (.free [7]) (.ghost .lower a11_l0)) K) := by
  intro m
  induction m with
  | zero =>
    rintro i hi acc rfl
    have h1 : ¬ (i : Int) < fs.length := by omega
    rw [List.take_of_length_le (by omega)]
    refine i_code (by unfold a11_l0; exact rfl) ?_
    repeat' (first | (simp (disch := omega) only [go_sem, seval, reduceCtorEq, h1]) | with_reducible exact Ev.mk | ((first | apply x_split | apply x_splitg) <;> intro hβ hb <;> (simp (disch := omega) only [go_sem, seval, reduceCtorEq, h1, hβ]) <;> clear hβ))
    exact hx
  | succ m ih =>
    rintro i hi acc hacc
    have h1 : (i : Int) < fs.length := by omega
    have h2 : i < fs.length := by omega
    have h4 : (0 : Int) ≤ i := by omega
    have h3 := ftRow_get fs i h2
    have st := flat_step (fun f => if f.all then [] else keysF f) fs i h2
    have st2 : bkF (fs.take (i + 1)) = acc ++ if fs[i].all then [] else keysF fs[i] := by rw [hacc]; exact st
    have hla : acc.length ≤ 134217728 := by
      have := bkF_len (fs.take i)
      rw [← hacc, List.length_take] at this
      omega
    have hkl := keysF_len fs[i]
    obtain ⟨b', q⟩ := ps_fkeys fs[i] (hs _ (List.getElem_mem h2))
    simp only [ftC] at h3 q
    have ihk := ih (i + 1) (by omega) _ st2.symm
    refine i_code (by unfold a11_l0; exact rfl) ?_
    cases ha : fs[i].all with
    | true =>
      rw [ha] at h3 ihk
      simp only [if_true, List.append_nil] at ihk
      repeat' (first | (simp (disch := omega) only [go_sem, seval, reduceCtorEq, h1, h3, h4]) | with_reducible exact Ev.mk | ((first | apply x_split | apply x_splitg) <;> intro hβ hb <;> (simp (disch := omega) only [go_sem, seval, reduceCtorEq, h1, h3, h4, hβ]) <;> clear hβ))
      refine i_lk (W_round ?_)
      (try simp (disch := omega) only [go_sem, seval, reduceCtorEq])
      exact ihk
    | false =>
      rw [ha] at h3 ihk q
      simp only [Bool.false_eq_true, if_false, List.length_append] at ihk
      repeat' (first | exact q | (simp (disch := omega) only [go_sem, seval, reduceCtorEq, h1, h3, h4, strRow_length, allSz_strRow, strRow_app2, maxB]) | with_reducible exact Ev.mk | apply x_call | ((first | apply x_split | apply x_splitg) <;> intro hβ hb <;> (simp (disch := omega) only [go_sem, seval, reduceCtorEq, h1, h3, h4, strRow_length, allSz_strRow, strRow_app2, maxB, hβ]) <;> clear hβ))
      refine i_lk (W_round ?_)
      (try simp (disch := omega) only [go_sem, seval, reduceCtorEq, strRow_length])
      exact ihk

def batF (l : List Ht) (fs : List Ft) : List Ht := if validH l then tchF (decF l) (bkF fs) else []

theorem ps_batch (l : List Ht) (fs : List Ft) (b d : Bool) (hl : l.length ≤ 9223372036854775807) (hf : fs.length ≤ 1048576) (hs : ∀ f ∈ fs, ShF f) :
    PS tb 11 [.slice b (htRow l), .slice d (ftRow fs)] (.slice (!validH l) (htRow (batF l fs))) := by
  refine PS_of (af := a11) rfl rfl ?_
  unfold a11
  dsimp only [List.map, ofPV, initEnv]
  have q := ps_hvalid l b hl
  cases c : validH l with
  | false =>
    rw [c] at q
    repeat' (first | exact q | (simp (disch := omega) only [go_sem, seval, reduceCtorEq]) | with_reducible exact Ev.mk | apply x_call | ((first | apply x_split | apply x_splitg) <;> intro hβ hb <;> (simp (disch := omega) only [go_sem, seval, reduceCtorEq, hβ]) <;> clear hβ))
    all_goals simp [pur, dep, batF, c, htRow]
  | true =>
    rw [c] at q
    have q2 := ps_decay l b hl
    rw [c] at q2
    have hb : batF l fs = tchF (decF l) (bkF fs) := by unfold batF; rw [c]; rfl
    have hd := (decF_one l).1
    have hbl := bkF_len fs
    have q3 := ps_touch (decF l) (bkF fs) false false (Nat.le_trans (validH_len hd) (by omega)) (by omega)
    rw [hd] at q3
    simp only [Bool.not_true] at q2 q3 ⊢
    repeat' (first | exact q | (simp (disch := omega) only [go_sem, seval, reduceCtorEq, ftRow_length]) | with_reducible exact Ev.mk | apply x_call | ((first | apply x_split | apply x_splitg) <;> intro hβ hb <;> (simp (disch := omega) only [go_sem, seval, reduceCtorEq, ftRow_length, hβ]) <;> clear hβ))
    refine W_round ?_
    (try simp (disch := omega) only [go_sem, seval, reduceCtorEq])
    refine l_bat fs d hf hs [] rfl _ l b ?_ fs.length 0 (by omega) [] rfl
    rw [hb]
    repeat' (first | exact q2 | exact q3 | (simp (disch := omega) only [go_sem, seval, reduceCtorEq, strRow_length, strRow_take, takeAll, strRow_drop, List.drop_zero]) | with_reducible exact Ev.mk | apply x_call | ((first | apply x_split | apply x_splitg) <;> intro hβ hb <;> (simp (disch := omega) only [go_sem, seval, reduceCtorEq, strRow_length, strRow_take, takeAll, strRow_drop, List.drop_zero, hβ]) <;> clear hβ))
    all_goals simp [pur, dep]

theorem l_rbat (fs : List Ft) (b : Bool) (hf : fs.length ≤ 1048576) (hs : ∀ f ∈ fs, ShF f) (K : Ex → St → Prop) (l : List Ht) (d : Bool)
    (hx : K (.exit 0) ⟨[(0, .p (.slice d (htRow l))), (5, .ref 0 (bkR fs).length 0 (bkR fs).length)], [(0, .row false 1 (strRow (bkR fs)))], 1, [0]⟩) : ∀ (m i : Nat), i + m = fs.length → ∀ acc, acc = bkR (fs.take i) →
    W tb a16_l0 ⟨[(0, .p (.slice d (htRow l))), (1, .p (.slice b (ftRow fs))), (5, .ref 0 acc.length 0 acc.length), (6, .p (.int .i64 i))], [(0, .row false 1 (strRow acc))], 1, [0]⟩ (LK tb (.ghost .lower a16_l0) K) := by
  intro m
  induction m with
  | zero =>
    rintro i hi acc rfl
    have h1 : ¬ (i : Int) < fs.length := by omega
    rw [List.take_of_length_le (by omega)]
    refine i_code (by unfold a16_l0; exact rfl) ?_
    repeat' (first | (simp (disch := omega) only [go_sem, seval, reduceCtorEq, h1, ftRow_length]) | with_reducible exact Ev.mk | ((first | apply x_split | apply x_splitg) <;> intro hβ hb <;> (simp (disch := omega) only [go_sem, seval, reduceCtorEq, h1, ftRow_length, hβ]) <;> clear hβ))
    exact hx
  | succ m ih =>
    rintro i hi acc hacc
    have h1 : (i : Int) < fs.length := by omega
    have h2 : i < fs.length := by omega
    have h4 : (0 : Int) ≤ i := by omega
    have h3 := ftRow_get fs i h2
    have st := flat_step (fun f => if f.all then [] else keysR f) fs i h2
    have st2 : bkR (fs.take (i + 1)) = acc ++ if fs[i].all then [] else keysR fs[i] := by rw [hacc]; exact st
    have hla : acc.length ≤ 134217728 := by
      have := bkF_len (fs.take i)
      rw [← bk_eq, ← hacc, List.length_take] at this
      omega
    have hkl := keysF_len fs[i]
    rw [keys_eq] at hkl
    obtain ⟨b', q⟩ := ps_rkeys fs[i] (hs _ (List.getElem_mem h2))
    have q1 := ps_rvalid fs[i] (hs _ (List.getElem_mem h2))
    simp only [ftC] at h3 q q1
    have ihk := ih (i + 1) (by omega) _ st2.symm
    refine i_code (by unfold a16_l0; exact rfl) ?_
    cases ha : fs[i].all with
    | true =>
      rw [ha] at h3 ihk
      simp only [if_true, List.append_nil] at ihk
      repeat' (first | (simp (disch := omega) only [go_sem, seval, reduceCtorEq, h1, h3, h4, ftRow_length]) | with_reducible exact Ev.mk | ((first | apply x_split | apply x_splitg) <;> intro hβ hb <;> (simp (disch := omega) only [go_sem, seval, reduceCtorEq, h1, h3, h4, ftRow_length, hβ]) <;> clear hβ))
      refine i_lk (W_round ?_)
      (try simp (disch := omega) only [go_sem, seval, reduceCtorEq])
      exact ihk
    | false =>
      rw [ha] at h3 ihk q q1
      simp only [Bool.false_eq_true, if_false, List.length_append] at ihk
      cases hv : validF fs[i] with
      | true =>
        rw [hv] at q1
        repeat' (first | exact q | exact q1 | (simp (disch := omega) only [go_sem, seval, reduceCtorEq, h1, h3, h4, ftRow_length, strRow_length, allSz_strRow, strRow_app2, maxB]) | with_reducible exact Ev.mk | apply x_call | ((first | apply x_split | apply x_splitg) <;> intro hβ hb <;> (simp (disch := omega) only [go_sem, seval, reduceCtorEq, h1, h3, h4, ftRow_length, strRow_length, allSz_strRow, strRow_app2, maxB, hβ]) <;> clear hβ))
        refine i_lk (W_round ?_)
        (try simp (disch := omega) only [go_sem, seval, reduceCtorEq, strRow_length])
        exact ihk
      | false =>
        rw [hv] at q1
        have hn : keysR fs[i] = [] := by unfold keysR; rw [hv]; rfl
        rw [hn, List.append_nil, List.length_nil, Nat.add_zero] at ihk
        repeat' (first | exact q | exact q1 | (simp (disch := omega) only [go_sem, seval, reduceCtorEq, h1, h3, h4, ftRow_length, strRow_length, allSz_strRow, strRow_app2, maxB]) | with_reducible exact Ev.mk | apply x_call | ((first | apply x_split | apply x_splitg) <;> intro hβ hb <;> (simp (disch := omega) only [go_sem, seval, reduceCtorEq, h1, h3, h4, ftRow_length, strRow_length, allSz_strRow, strRow_app2, maxB, hβ]) <;> clear hβ))
        refine i_lk (W_round ?_)
        (try simp (disch := omega) only [go_sem, seval, reduceCtorEq, strRow_length])
        exact ihk

theorem ps_rbatch (l : List Ht) (fs : List Ft) (b d : Bool) (hl : l.length ≤ 9223372036854775807) (hlz : ∀ i (h : i < l.length), l[i].1.size ≤ 9223372036854775807) (hf : fs.length ≤ 1048576) (hs : ∀ f ∈ fs, ShF f) :
    PS tb 16 [.slice b (htRow l), .slice d (ftRow fs)] (.slice (!validH l) (htRow (batF l fs))) := by
  refine PS_of (af := a16) rfl rfl ?_
  unfold a16
  dsimp only [List.map, ofPV, initEnv]
  have q := ps_rhvalid l b hl hlz
  cases c : validH l with
  | false =>
    rw [c] at q
    repeat' (first | exact q | (simp (disch := omega) only [go_sem, seval, reduceCtorEq]) | with_reducible exact Ev.mk | apply x_call | ((first | apply x_split | apply x_splitg) <;> intro hβ hb <;> (simp (disch := omega) only [go_sem, seval, reduceCtorEq, hβ]) <;> clear hβ))
    all_goals simp [pur, dep, batF, c, htRow]
  | true =>
    rw [c] at q
    have q2 := ps_rdecay l b hl hlz
    rw [c] at q2
    have hb : batF l fs = tchF (decF l) (bkR fs) := by unfold batF; rw [c, bk_eq]; rfl
    have hd := (decF_one l).1
    have hbl := bkF_len fs
    rw [← bk_eq] at hbl
    have hkz : ∀ k ∈ bkR fs, k.size ≤ 9223372036854775807 := fun k hk => by
      unfold bkR at hk
      obtain ⟨f, hf, hk⟩ := List.mem_flatMap.1 hk
      split at hk
      · cases hk
      · unfold keysR at hk
        split at hk
        · rw [mem_insAll, mem_insAll] at hk
          have hz := hs f hf
          rcases hk with (hk | hk) | hk
          · cases hk
          · have := hz.1.2 k hk; omega
          · have := hz.2.2 k hk; omega
        · cases hk
    have hdz : ∀ i (h : i < (decF l).length), (decF l)[i].1.size ≤ 9223372036854775807 := fun i h => by
      have := ((validH_iff _).1 hd).1 _ (List.getElem_mem h)
      have hk := this.1
      unfold vkey at hk
      simp only [Bool.and_eq_true, decide_eq_true_eq] at hk
      omega
    have q3 := ps_rtouch (decF l) (bkR fs) false false (Nat.le_trans (validH_len hd) (by omega)) hdz (by omega) hkz
    rw [hd] at q3
    simp only [Bool.not_true] at q2 q3 ⊢
    repeat' (first | exact q | (simp (disch := omega) only [go_sem, seval, reduceCtorEq, ftRow_length]) | with_reducible exact Ev.mk | apply x_call | ((first | apply x_split | apply x_splitg) <;> intro hβ hb <;> (simp (disch := omega) only [go_sem, seval, reduceCtorEq, ftRow_length, hβ]) <;> clear hβ))
    refine W_round ?_
    (try simp (disch := omega) only [go_sem, seval, reduceCtorEq])
    refine l_rbat fs d hf hs _ l b ?_ fs.length 0 (by omega) [] rfl
    rw [hb]
    repeat' (first | exact q2 | exact q3 | (simp (disch := omega) only [go_sem, seval, reduceCtorEq, strRow_length, strRow_take, takeAll, strRow_drop, List.drop_zero]) | with_reducible exact Ev.mk | apply x_call | ((first | apply x_split | apply x_splitg) <;> intro hβ hb <;> (simp (disch := omega) only [go_sem, seval, reduceCtorEq, strRow_length, strRow_take, takeAll, strRow_drop, List.drop_zero, hβ]) <;> clear hβ))
    all_goals simp [pur, dep]


/-! ## T6 -/

theorem sz_strs : ∀ (l : List ByteArray), szRows (strRow l) ≤ 1048576 → Sh l
  | [], _ => ⟨by simp, fun x hx => by cases hx⟩
  | s :: l, h => by
    have e : szRows (strRow (s :: l)) = s.size + 1 + szRows (strRow l) := by simp [strRow, szRows, szRow, szPV]
    have len : ∀ l : List ByteArray, l.length ≤ szRows (strRow l) := fun l => by
      induction l with
      | nil => simp
      | cons a l ih =>
        have e : szRows (strRow (a :: l)) = a.size + 1 + szRows (strRow l) := by simp [strRow, szRows, szRow, szPV]
        rw [e, List.length_cons]; omega
    have h2 := len (s :: l)
    have ih := sz_strs l (by omega)
    refine ⟨by omega, fun x hx => ?_⟩
    rcases List.mem_cons.1 hx with rfl | hx
    · omega
    · exact ih.2 x hx

theorem sz_foots : ∀ (fs : List Ft), szRows (ftRow fs) ≤ 1048576 → fs.length ≤ 1048576 ∧ ∀ f ∈ fs, ShF f
  | [], _ => ⟨by simp, fun x hx => by cases hx⟩
  | f :: l, h => by
    have e : ∀ (f : Ft) l, szRows (ftRow (f :: l)) = (1 + ((szRows (strRow f.r) + 1) + (szRows (strRow f.w) + 1))) + szRows (ftRow l) := fun f l => by simp [ftRow, ftC, szRows, szRow, szPV]
    have len : ∀ l : List Ft, l.length ≤ szRows (ftRow l) := fun l => by
      induction l with
      | nil => simp
      | cons a l ih =>
        rw [e, List.length_cons]; omega
    have h2 := len (f :: l)
    rw [e] at h
    have ih := sz_foots l (by omega)
    refine ⟨by rw [e] at h2; omega, fun x hx => ?_⟩
    rcases List.mem_cons.1 hx with rfl | hx
    · exact ⟨sz_strs _ (by omega), sz_strs _ (by omega)⟩
    · exact ih.2 x hx

theorem fit_strsT {y : PV} (h : Fit (.slice [.str]) y) : ∃ l : List ByteArray, y = .slice false (strRow l) := by
  obtain ⟨l, e, _, _⟩ := fit_rowsH (c := fun s => [PV.str s]) (P := fun _ => True) (fun u h => by
    obtain ⟨y0, u0, rfl, e0, h⟩ := h.cons
    have hn := h.nil
    subst hn
    cases e0 with
    | str s h => exact ⟨s, rfl, trivial⟩) h
  exact ⟨l, e⟩

theorem fit_footsT {y : PV} (h : Fit (.slice [.bool, .slice [.str], .slice [.str]]) y) : ∃ l : List Ft, y = .slice false (ftRow l) := by
  obtain ⟨l, e, _, _⟩ := fit_rowsH (c := ftC) (P := fun _ => True) (fun u h => by
    obtain ⟨y0, u0, rfl, e0, h⟩ := h.cons
    obtain ⟨y1, u1, rfl, e1, h⟩ := h.cons
    obtain ⟨y2, u2, rfl, e2, h⟩ := h.cons
    have hn := h.nil
    subst hn
    obtain ⟨r, rfl⟩ := fit_strsT e1
    obtain ⟨w, rfl⟩ := fit_strsT e2
    cases e0 with
    | bool s => exact ⟨⟨s, false, r, false, w⟩, rfl, trivial⟩) h
  exact ⟨l, e⟩

theorem tchF_len (l : List Ht) (ks : List ByteArray) : (tchF l ks).length ≤ 32 := validH_len (tchF_valid l ks)
theorem batF_len (l : List Ht) (fs : List Ft) : (batF l fs).length ≤ 32 := by
  unfold batF; split
  · exact tchF_len _ _
  · simp
theorem decF_len (l : List Ht) : (decF l).length ≤ 32 := validH_len (decF_one l).1

theorem walkHeatCounts {u v w : PV} (h : Fit (.slice [.str, .int .i64]) u) (h' : Fit (.slice [.str]) v) (h'' : Fit (.slice [.bool, .slice [.str], .slice [.str]]) w) (y0 : szPV u ≤ 1048576) (y1 : szPV v ≤ 1048576) (y2 : szPV w ≤ 1048576) :
    PS tb 5 [u, v, w] (.bool true) := by
  obtain ⟨l, rfl, hl, hsz⟩ := fit_heats h
  obtain ⟨ks, rfl⟩ := fit_strsT h'
  obtain ⟨fs, rfl⟩ := fit_footsT h''
  have hk := sz_strs ks (by simp only [szPV] at y1; omega)
  have hf := sz_foots fs (by simp only [szPV] at y2; omega)
  have q1 := ps_touch l ks false false hl (by have := hk.1; omega)
  have q2 := ps_rtouch l ks false false hl hsz (by have := hk.1; omega) (fun k hm => Nat.le_trans (hk.2 k hm) (by omega))
  have q3 := ps_decay l false hl
  have q4 := ps_rdecay l false hl hsz
  have q5 := ps_batch l fs false false hl hf.1 hf.2
  have q6 := ps_rbatch l fs false false hl hsz hf.1 hf.2
  have q7 := ps_hvalid l false hl
  have q8 := ps_rhvalid l false hl hsz
  have k1 := ps_hsame (tchF l ks) (!validH l) (!validH l) (Nat.le_trans (tchF_len _ _) (by omega))
  have k2 := ps_hsame (decF l) (!validH l) (!validH l) (Nat.le_trans (decF_len _) (by omega))
  have k3 := ps_hsame (batF l fs) (!validH l) (!validH l) (Nat.le_trans (batF_len _ _) (by omega))
  have n1 : (validH l == validH l) = true := by simp
  refine PS_of (af := a5) rfl rfl ?_
  unfold a5
  dsimp only [List.map, ofPV, initEnv]
  repeat' (first | exact q1 | exact q2 | exact q3 | exact q4 | exact q5 | exact q6 | exact q7 | exact q8 | exact k1 | exact k2 | exact k3 | exact ps_examples34 | (simp (disch := omega) only [go_sem, seval, reduceCtorEq, n1]) | with_reducible exact Ev.mk | apply x_call | ((first | apply x_split | apply x_splitg) <;> intro hβ hb <;> (simp (disch := omega) only [go_sem, seval, reduceCtorEq, n1, hβ]) <;> clear hβ))
  all_goals simp [pur, dep]

end Go.Dv.Try
