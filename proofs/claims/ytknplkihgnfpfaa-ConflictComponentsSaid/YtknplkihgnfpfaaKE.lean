/-
  Specifications: K18, K19.
-/
import Derived.Test.YtknplkihgnfpfaaKD
set_option linter.unusedVariables false
set_option linter.unusedSimpArgs false
set_option maxRecDepth 100000
set_option maxHeartbeats 8000000
namespace Go.Dv.Try
open Go Go.Dv

/-! ## K18 -/

/-! ### what the first one reckons -/

structure Lab (n : Nat) (fs : List Nat) : Prop where
  len : fs.length = n
  le : ∀ x, x < n → fs.getD x 0 ≤ x
  fix : ∀ x, x < n → fs.getD (fs.getD x 0) 0 = fs.getD x 0

theorem Lab.range (n : Nat) : Lab n (List.range n) := by
  have g : ∀ x, x < n → (List.range n).getD x 0 = x := fun x hx => by
    rw [List.getD_eq_getElem?_getD, List.getElem?_range hx]; rfl
  exact ⟨List.length_range, fun x hx => by rw [g x hx]; exact Nat.le_refl _, fun x hx => by rw [g x hx, g x hx]⟩

theorem Lab.step {n : Nat} {fs : List Nat} (h : Lab n fs) (e : Ed) (h1 : e.1 < n) (h2 : e.2.1 < n) : Lab n (cmpS fs e) := by
  have ga := h.fix e.1 h1
  have gb := h.fix e.2.1 h2
  have la := h.le e.1 h1
  have lb := h.le e.2.1 h2
  have get : ∀ x, x < n → (cmpS fs e).getD x 0 = rg (fs.getD e.1 0) (fs.getD e.2.1 0) (fs.getD x 0) := fun x hx => cmpS_get fs e x (by rw [h.len]; exact hx)
  generalize fs.getD e.1 0 = a at *
  generalize fs.getD e.2.1 0 = b at *
  have down : ∀ x, rg a b x ≤ x := fun x => by
    unfold rg
    split
    · omega
    · exact Nat.le_refl _
  refine ⟨by rw [cmpS_len, h.len], fun x hx => ?_, fun x hx => ?_⟩
  · rw [get x hx]
    exact Nat.le_trans (down _) (h.le x hx)
  · rw [get x hx]
    have hl := h.le x hx
    have hf := h.fix x hx
    have hd := down (fs.getD x 0)
    rw [get _ (by omega)]
    generalize fs.getD x 0 = c at *
    by_cases hc : c = a ∨ c = b
    · have e1 : rg a b c = min a b := by unfold rg; rw [if_pos hc]
      rw [e1]
      have e2 : fs.getD (min a b) 0 = min a b := by
        rcases Nat.le_total a b with h' | h'
        · rw [Nat.min_eq_left h']; exact ga
        · rw [Nat.min_eq_right h']; exact gb
      rw [e2]
      unfold rg
      rw [if_pos (by omega)]
    · have e1 : rg a b c = c := by unfold rg; rw [if_neg hc]
      rw [e1, hf, e1]

theorem Lab.fold {n : Nat} : ∀ (es : List Ed) (fs : List Nat), (∀ e ∈ es, e.1 < e.2.1 ∧ e.2.1 < n) → Lab n fs → Lab n (es.foldl cmpS fs)
  | [], fs, _, h => h
  | e :: r, fs, he, h => by
    have := he e (by simp)
    exact Lab.fold r _ (fun e' h' => he e' (List.mem_cons_of_mem _ h')) (h.step e (by omega) this.2)
theorem cmpF_lab (l : List Ft) : Lab l.length (cmpF l) := Lab.fold (edgesR l) _ (edgesR_lt l) (Lab.range _)

/-- A mark that is alike at both ends of each edge is alike at a number and at its least. -/
theorem mark_fold {n : Nat} (h : Nat → Bool) : ∀ (es : List Ed) (fs : List Nat), (∀ e ∈ es, e.1 < e.2.1 ∧ e.2.1 < n) → (∀ e ∈ es, h e.1 = h e.2.1) → fs.length = n → (∀ x, x < n → h (fs.getD x 0) = h x) → ∀ x, x < n → h ((es.foldl cmpS fs).getD x 0) = h x
  | [], fs, _, _, _, hx => hx
  | e :: r, fs, he, hh, hl, hx => by
    have h0 := he e (by simp)
    refine mark_fold h r (cmpS fs e) (fun e' h' => he e' (List.mem_cons_of_mem _ h')) (fun e' h' => hh e' (List.mem_cons_of_mem _ h')) (by rw [cmpS_len, hl]) fun x hxn => ?_
    rw [cmpS_get fs e x (by omega)]
    have ha := hx e.1 (by omega)
    have hb := hx e.2.1 h0.2
    have hab := hh e (by simp)
    have hc := hx x hxn
    generalize fs.getD e.1 0 = a at *
    generalize fs.getD e.2.1 0 = b at *
    generalize fs.getD x 0 = c at *
    unfold rg
    split
    · rename_i h'
      have e3 : h (min a b) = h a := by
        rcases Nat.le_total a b with h1 | h1
        · rw [Nat.min_eq_left h1]
        · rw [Nat.min_eq_right h1, hb, ha, hab]
      rw [e3, ← hc]
      rcases h' with rfl | rfl
      · rfl
      · rw [ha, hb, hab]
    · exact hc
theorem mark_cmpF (l : List Ft) (h : Nat → Bool) (hh : ∀ i j, i < j → j < l.length → conflB (l.getD i F0) (l.getD j F0) = true → h i = h j) : ∀ x, x < l.length → h ((cmpF l).getD x 0) = h x :=
  mark_fold h (edgesR l) (List.range l.length) (edgesR_lt l) (fun e he => hh e.1 e.2.1 (edgesR_lt l e he).1 (edgesR_lt l e he).2 (edges_confl he)) List.length_range fun x hx => by
    rw [List.getD_eq_getElem?_getD, List.getElem?_range hx]; rfl

/-! ### the rounds -/

def rel (l : List Ft) (i j : Nat) (v : List Nat) : List Nat := if i ≠ j ∧ conflB (l.getD i F0) (l.getD j F0) = true then v.set j (min (v.getD i 0) (v.getD j 0)) else v
def relJ (l : List Ft) (i : Nat) : Nat → List Nat → List Nat
  | 0, v => v
  | c + 1, v => rel l i c (relJ l i c v)
def relI (l : List Ft) : Nat → List Nat → List Nat
  | 0, v => v
  | c + 1, v => relJ l c l.length (relI l c v)
def rnd (l : List Ft) : Nat → List Nat
  | 0 => List.range l.length
  | r + 1 => relI l l.length (rnd l r)

theorem rel_len (l : List Ft) (i j : Nat) (v : List Nat) : (rel l i j v).length = v.length := by unfold rel; split <;> simp
theorem relJ_len (l : List Ft) (i : Nat) (v : List Nat) : ∀ c, (relJ l i c v).length = v.length
  | 0 => rfl
  | c + 1 => by unfold relJ; rw [rel_len, relJ_len l i v c]
theorem relI_len (l : List Ft) (v : List Nat) : ∀ c, (relI l c v).length = v.length
  | 0 => rfl
  | c + 1 => by unfold relI; rw [relJ_len, relI_len l v c]
theorem rnd_len (l : List Ft) : ∀ r, (rnd l r).length = l.length
  | 0 => List.length_range
  | r + 1 => by unfold rnd; rw [relI_len, rnd_len l r]

theorem getD_set (v : List Nat) (j x k : Nat) : (v.set j x).getD k 0 = if j = k ∧ j < v.length then x else v.getD k 0 := by
  rw [List.getD_eq_getElem?_getD, List.getD_eq_getElem?_getD, List.getElem?_set]
  by_cases h : j = k
  · subst h
    rw [if_pos rfl]
    by_cases hl : j < v.length
    · rw [if_pos hl, if_pos ⟨rfl, hl⟩]; rfl
    · rw [if_neg hl, if_neg (fun h => hl h.2), List.getElem?_eq_none (by omega)]
  · rw [if_neg h, if_neg (fun h' => h h'.1)]

theorem rel_le (l : List Ft) (i j : Nat) (v : List Nat) (k : Nat) : (rel l i j v).getD k 0 ≤ v.getD k 0 := by
  unfold rel
  split
  · rw [getD_set]
    split
    · rename_i h; rw [h.1]; exact Nat.min_le_right _ _
    · exact Nat.le_refl _
  · exact Nat.le_refl _
theorem relJ_le (l : List Ft) (i : Nat) (v : List Nat) (k : Nat) : ∀ c, (relJ l i c v).getD k 0 ≤ v.getD k 0
  | 0 => Nat.le_refl _
  | c + 1 => Nat.le_trans (rel_le _ _ _ _ _) (relJ_le l i v k c)
theorem relI_le (l : List Ft) (v : List Nat) (k : Nat) : ∀ c, (relI l c v).getD k 0 ≤ v.getD k 0
  | 0 => Nat.le_refl _
  | c + 1 => Nat.le_trans (relJ_le _ _ _ _ _) (relI_le l v k c)

theorem relJ_adj (l : List Ft) (i j : Nat) (v : List Nat) (hij : i ≠ j) (hc : conflB (l.getD i F0) (l.getD j F0) = true) (hj : j < v.length) : ∀ c, j < c → (relJ l i c v).getD j 0 ≤ v.getD i 0
  | 0, h => by omega
  | c + 1, h => by
    rcases Nat.lt_or_ge j c with h1 | h1
    · exact Nat.le_trans (rel_le _ _ _ _ _) (relJ_adj l i j v hij hc hj c h1)
    · have e : c = j := by omega
      subst e
      unfold relJ rel
      rw [if_pos ⟨hij, hc⟩, getD_set, if_pos ⟨rfl, by rw [relJ_len]; exact hj⟩]
      exact Nat.le_trans (Nat.min_le_left _ _) (relJ_le _ _ _ _ _)
theorem relI_adj (l : List Ft) (i j : Nat) (v : List Nat) (hij : i ≠ j) (hc : conflB (l.getD i F0) (l.getD j F0) = true) (hv : v.length = l.length) (hj : j < l.length) : ∀ c, i < c → (relI l c v).getD j 0 ≤ v.getD i 0
  | 0, h => by omega
  | c + 1, h => by
    rcases Nat.lt_or_ge i c with h1 | h1
    · exact Nat.le_trans (relJ_le _ _ _ _ _) (relI_adj l i j v hij hc hv hj c h1)
    · have e : c = i := by omega
      subst e
      exact Nat.le_trans (relJ_adj l c j (relI l c v) hij hc (by rw [relI_len]; omega) l.length hj) (relI_le l v c c)

/-- Each number stays within its component. -/
def Inv (l : List Ft) (v : List Nat) : Prop := v.length = l.length ∧ ∀ y, y < l.length → v.getD y 0 < l.length ∧ (cmpF l).getD (v.getD y 0) 0 = (cmpF l).getD y 0
theorem Inv.rel {l : List Ft} {i j : Nat} {v : List Nat} (h : Inv l v) (hi : i < l.length) (hj : j < l.length) : Inv l (rel l i j v) := by
  refine ⟨by rw [rel_len]; exact h.1, fun y hy => ?_⟩
  unfold Go.Dv.Try.rel
  split
  · rename_i hc
    rw [getD_set]
    split
    · rename_i hjy
      obtain ⟨rfl, _⟩ := hjy
      have h1 := h.2 i hi
      have h2 := h.2 j hj
      rcases Nat.le_total (v.getD i 0) (v.getD j 0) with h' | h'
      · rw [Nat.min_eq_left h']
        exact ⟨h1.1, h1.2.trans (cmpF_confl hi hj hc.2)⟩
      · rw [Nat.min_eq_right h']
        exact h2
    · exact h.2 y hy
  · exact h.2 y hy
theorem Inv.relJ {l : List Ft} {i : Nat} {v : List Nat} (h : Inv l v) (hi : i < l.length) : ∀ c, c ≤ l.length → Inv l (relJ l i c v)
  | 0, _ => h
  | c + 1, hc => (Inv.relJ h hi c (by omega)).rel hi (by omega)
theorem Inv.relI {l : List Ft} {v : List Nat} (h : Inv l v) : ∀ c, c ≤ l.length → Inv l (relI l c v)
  | 0, _ => h
  | c + 1, hc => (Inv.relI h c (by omega)).relJ (by omega) _ (Nat.le_refl _)
theorem rnd_inv (l : List Ft) : ∀ r, Inv l (rnd l r)
  | 0 => ⟨List.length_range, fun y hy => by
    have e : (List.range l.length).getD y 0 = y := by rw [List.getD_eq_getElem?_getD, List.getElem?_range hy]; rfl
    show (List.range l.length).getD y 0 < _ ∧ (cmpF l).getD ((List.range l.length).getD y 0) 0 = _
    rw [e]; exact ⟨hy, rfl⟩⟩
  | r + 1 => (rnd_inv l r).relI _ (Nat.le_refl _)
theorem rnd_ge (l : List Ft) (r y : Nat) (hy : y < l.length) : (cmpF l).getD y 0 ≤ (rnd l r).getD y 0 := by
  have h := (rnd_inv l r).2 y hy
  rw [← h.2]
  exact (cmpF_lab l).le _ h.1

/-! ### how many are done -/

def dn (l : List Ft) (r y : Nat) : Bool := decide ((rnd l r).getD y 0 = (cmpF l).getD y 0)
def cnt (p : Nat → Bool) : Nat → Nat
  | 0 => 0
  | n + 1 => cnt p n + if p n then 1 else 0
theorem cnt_le (p : Nat → Bool) : ∀ n, cnt p n ≤ n
  | 0 => Nat.le_refl _
  | n + 1 => by have := cnt_le p n; unfold cnt; split <;> omega
theorem cnt_all {p : Nat → Bool} : ∀ {n : Nat}, n ≤ cnt p n → ∀ y, y < n → p y = true
  | 0, _, y, h => by omega
  | n + 1, h, y, hy => by
    have hl := cnt_le p n
    unfold cnt at h
    split at h
    · rename_i hp
      rcases Nat.lt_or_ge y n with h1 | h1
      · exact cnt_all (n := n) (by omega) y h1
      · have : y = n := by omega
        subst this; exact hp
    · omega
theorem cnt_mono {p q : Nat → Bool} : ∀ {n : Nat}, (∀ y, y < n → p y = true → q y = true) → cnt p n ≤ cnt q n
  | 0, _ => Nat.le_refl _
  | n + 1, h => by
    have ih := cnt_mono (n := n) fun y hy => h y (by omega)
    have := h n (by omega)
    unfold cnt
    cases hp : p n with
    | true => rw [this hp]; simp only [if_true]; omega
    | false => simp only [Bool.false_eq_true, if_false]; omega
theorem cnt_lt {p q : Nat → Bool} : ∀ {n : Nat}, (∀ y, y < n → p y = true → q y = true) → (∃ y, y < n ∧ p y = false ∧ q y = true) → cnt p n < cnt q n
  | 0, _, ⟨y, hy, _⟩ => by omega
  | n + 1, h, ⟨y, hy, hp, hq⟩ => by
    rcases Nat.lt_or_ge y n with h1 | h1
    · have ih := cnt_lt (n := n) (fun y hy => h y (by omega)) ⟨y, h1, hp, hq⟩
      have := h n (by omega)
      unfold cnt
      cases hp : p n with
      | true => rw [this hp]; simp only [if_true]; omega
      | false => simp only [Bool.false_eq_true, if_false]; omega
    · have : y = n := by omega
      subst this
      have ih := cnt_mono (n := y) fun z hz => h z (by omega)
      unfold cnt
      rw [hp, hq]
      simp only [Bool.false_eq_true, if_false, if_true]; omega

theorem dn_keep (l : List Ft) (r y : Nat) (hy : y < l.length) (h : dn l r y = true) : dn l (r + 1) y = true := by
  unfold dn at *
  rw [decide_eq_true_eq] at *
  have h1 := rnd_ge l (r + 1) y hy
  have h2 : (rnd l (r + 1)).getD y 0 ≤ (rnd l r).getD y 0 := relI_le l (rnd l r) y l.length
  omega
theorem dn_adj (l : List Ft) (r i j : Nat) (hi : i < l.length) (hj : j < l.length) (hij : i ≠ j) (hc : conflB (l.getD i F0) (l.getD j F0) = true) (h : dn l r i = true) : dn l (r + 1) j = true := by
  unfold dn at *
  rw [decide_eq_true_eq] at *
  have h1 := rnd_ge l (r + 1) j hj
  have h2 : (rnd l (r + 1)).getD j 0 ≤ (rnd l r).getD i 0 := relI_adj l i j (rnd l r) hij hc (rnd_len l r) hj l.length hi
  have h3 := cmpF_confl hi hj hc
  omega
theorem dn_least (l : List Ft) (r y : Nat) (hy : y < l.length) : dn l r ((cmpF l).getD y 0) = true := by
  have hl := (cmpF_lab l).le y hy
  have hf := (cmpF_lab l).fix y hy
  have hlt : (cmpF l).getD y 0 < l.length := by omega
  unfold dn
  rw [decide_eq_true_eq]
  have h1 := rnd_ge l r _ hlt
  have h2 : ∀ r, (rnd l r).getD ((cmpF l).getD y 0) 0 ≤ (cmpF l).getD y 0 := by
    intro r
    induction r with
    | zero =>
      show (List.range l.length).getD _ 0 ≤ _
      rw [List.getD_eq_getElem?_getD, List.getElem?_range hlt]; exact Nat.le_refl _
    | succ r ih => exact Nat.le_trans (relI_le l (rnd l r) _ l.length) ih
  have := h2 r
  omega

theorem dn_grow (l : List Ft) (r : Nat) : (∀ y, y < l.length → dn l r y = true) ∨ cnt (dn l r) l.length < cnt (dn l (r + 1)) l.length := by
  by_cases hs : ∀ i j, i < j → j < l.length → conflB (l.getD i F0) (l.getD j F0) = true → dn l r i = dn l r j
  · left
    intro y hy
    rw [← mark_cmpF l (dn l r) hs y hy]
    exact dn_least l r y hy
  · right
    refine cnt_lt (fun y hy => dn_keep l r y hy) ?_
    have : ∃ i j, i < j ∧ j < l.length ∧ conflB (l.getD i F0) (l.getD j F0) = true ∧ dn l r i ≠ dn l r j := by
      apply Classical.byContradiction
      intro hn
      apply hs
      intro i j h1 h2 h3
      apply Classical.byContradiction
      intro h4
      exact hn ⟨i, j, h1, h2, h3, h4⟩
    obtain ⟨i, j, h1, h2, h3, h4⟩ := this
    cases hi : dn l r i with
    | true =>
      have hj : dn l r j = false := by
        cases hj : dn l r j with
        | false => rfl
        | true => rw [hi, hj] at h4; exact absurd rfl h4
      exact ⟨j, h2, hj, dn_adj l r i j (by omega) h2 (by omega) h3 hi⟩
    | false =>
      have hj : dn l r j = true := by
        cases hj : dn l r j with
        | true => rfl
        | false => rw [hi, hj] at h4; exact absurd rfl h4
      exact ⟨i, by omega, hi, dn_adj l r j i h2 (by omega) (by omega) (by rw [conflB_symm]; exact h3) hj⟩
theorem dn_count (l : List Ft) : ∀ r, r ≤ l.length → r ≤ cnt (dn l r) l.length
  | 0, _ => Nat.zero_le _
  | r + 1, h => by
    have ih := dn_count l r (by omega)
    rcases dn_grow l r with h1 | h1
    · have : cnt (dn l (r + 1)) l.length = l.length := by
        have h2 : ∀ n, n ≤ l.length → cnt (dn l (r + 1)) n = n := by
          intro n
          induction n with
          | zero => intro _; rfl
          | succ n ih =>
            intro hn
            unfold cnt
            rw [ih (by omega), dn_keep l r n (by omega) (h1 n (by omega))]; rfl
        exact h2 _ (Nat.le_refl _)
      omega
    · omega
theorem rnd_end (l : List Ft) : rnd l l.length = cmpF l := by
  apply List.ext_getElem
  · rw [rnd_len, cmpF_len]
  · intro i h1 h2
    have hi : i < l.length := by rw [rnd_len] at h1; exact h1
    have := cnt_all (dn_count l l.length (Nat.le_refl _)) i hi
    unfold dn at this
    rw [decide_eq_true_eq, List.getD_eq_getElem?_getD, List.getD_eq_getElem?_getD, List.getElem?_eq_getElem h1, List.getElem?_eq_getElem h2] at this
    exact this


/-! ## K19 -/

theorem l_rc5 (l : List Ft) (b : Bool) (hl : l.length ≤ 10) (K : Ex → St → Prop)
    (hx : K (.exit 0) ⟨[(0, .p (.slice b (ftRow l))), (3, .ref 0 l.length 0 l.length)], [(0, .row false 1 (intRow (List.range l.length)))], 1, [0]⟩) : ∀ (m i : Nat), i + m = l.length →
    W tb a44_l5 ⟨[(0, .p (.slice b (ftRow l))), (3, .ref 0 i 0 i), (4, .p (.int .i64 i))], [(0, .row false 1 (intRow (List.range i)))], 1, [0]⟩ (LK tb (.ghost .lower a44_l5) K) := by
  intro m
  induction m with
  | zero =>
    intro i hi
    have h1 : ¬ (i : Int) < l.length := by omega
    have e : i = l.length := by omega
    rw [e] at h1 ⊢
    refine i_code (by unfold a44_l5; exact rfl) ?_
    repeat' (first | (simp (maxSteps := 2000000) (disch := omega) only [go_sem, seval, reduceCtorEq, h1, ftRow_length]) | with_reducible exact Ev.mk | ((first | apply x_split | apply x_splitg) <;> intro hβ hb <;> (simp (maxSteps := 2000000) (disch := omega) only [go_sem, seval, reduceCtorEq, h1, ftRow_length, hβ]) <;> clear hβ))
    exact hx
  | succ m ih =>
    intro i hi
    have h1 : (i : Int) < l.length := by omega
    have ihk := ih (i + 1) (by omega)
    have sn := intRow_snoc (List.range i) i
    have hlr : (List.range i).length = i := List.length_range
    rw [List.range_succ] at ihk
    have m1 : (i + 1) * 8 ≤ 140737488355328 := by omega
    have m2 : i + 1 ≤ 140737488355328 := by omega
    refine i_code (by unfold a44_l5; exact rfl) ?_
    repeat' (first | (simp (maxSteps := 2000000) (disch := omega) only [go_sem, seval, reduceCtorEq, h1, sn, sz1, hlr, m1, m2, maxBytes, ftRow_length, intRow_length]) | with_reducible exact Ev.mk | ((first | apply x_split | apply x_splitg) <;> intro hβ hb <;> (simp (maxSteps := 2000000) (disch := omega) only [go_sem, seval, reduceCtorEq, h1, sn, sz1, hlr, m1, m2, maxBytes, ftRow_length, intRow_length, hβ]) <;> clear hβ))
    refine i_lk (W_round ?_)
    (try simp (maxSteps := 2000000) (disch := omega) only [go_sem, seval, reduceCtorEq])
    exact ihk

theorem l_rc2 (l : List Ft) (b : Bool) (hl : l.length ≤ 10) (hF : ∀ f ∈ l, Fo f) (rd i : Nat) (hi : i < l.length) (v : List Nat) (hv : v.length = l.length) (K : Ex → St → Prop)
    (hx : K (.exit 6) ⟨[(0, .p (.slice b (ftRow l))), (3, .ref 0 l.length 0 l.length), (5, .p (.int .i64 rd)), (6, .p (.int .i64 i))], [(0, .row false 1 (intRow (relJ l i l.length v)))], 1, [0]⟩) : ∀ (m j : Nat), j + m = l.length →
    W tb a44_l2 ⟨[(0, .p (.slice b (ftRow l))), (3, .ref 0 l.length 0 l.length), (5, .p (.int .i64 rd)), (6, .p (.int .i64 i)), (7, .p (.int .i64 j))], [(0, .row false 1 (intRow (relJ l i j v)))], 1, [0]⟩ (LK tb (.ghost .lower a44_l2) K) := by
  intro m
  induction m with
  | zero =>
    intro j hj
    have h1 : ¬ (j : Int) < l.length := by omega
    have e : j = l.length := by omega
    rw [e] at h1 ⊢
    refine i_code (by unfold a44_l2; exact rfl) ?_
    repeat' (first | (simp (maxSteps := 2000000) (disch := omega) only [go_sem, seval, reduceCtorEq, h1, ftRow_length]) | with_reducible exact Ev.mk | ((first | apply x_split | apply x_splitg) <;> intro hβ hb <;> (simp (maxSteps := 2000000) (disch := omega) only [go_sem, seval, reduceCtorEq, h1, ftRow_length, hβ]) <;> clear hβ))
    exact hx
  | succ m ih =>
    intro j hj
    have h1 : (j : Int) < l.length := by omega
    have h1' : (i : Int) < l.length := by omega
    have h2 : j < l.length := by omega
    have h4 : (0 : Int) ≤ j := by omega
    have h4' : (0 : Int) ≤ i := by omega
    have h3 := ftRow_get l i hi
    have h5 := ftRow_get l j h2
    have q := ps_rconfl l[i] l[j] (hF _ (List.getElem_mem hi)).1 (hF _ (List.getElem_mem h2)).1
    have ihk := ih (j + 1) (by omega)
    have hw : (relJ l i j v).length = l.length := by rw [relJ_len, hv]
    rw [show relJ l i (j + 1) v = rel l i j (relJ l i j v) from rfl] at ihk
    generalize relJ l i j v = w at ihk hw ⊢
    unfold rel at ihk
    rw [getF_get l i hi, getF_get l j h2] at ihk
    have g1 : (intRow w)[i]? = some [.int .i64 (w.getD i 0 : Nat)] := by
      rw [intRow_get w i (by omega), List.getD_eq_getElem?_getD, List.getElem?_eq_getElem (by omega)]; rfl
    have g2 : (intRow w)[j]? = some [.int .i64 (w.getD j 0 : Nat)] := by
      rw [intRow_get w j (by omega), List.getD_eq_getElem?_getD, List.getElem?_eq_getElem (by omega)]; rfl
    have g3 : ∀ x : Nat, (intRow w).set j [.int .i64 (x : Int)] = intRow (w.set j x) := fun x => by rw [intRow, intRow, List.map_set]
    generalize w.getD i 0 = a at ihk g1
    generalize w.getD j 0 = b' at ihk g2
    simp only [ftC] at h3 h5 q
    refine i_code (by unfold a44_l2; exact rfl) ?_
    by_cases c0 : i = j
    · have c0' : ((i : Int) != (j : Int)) = false := bne_eq_false_iff_eq.2 (by omega)
      rw [if_neg (fun h => h.1 c0)] at ihk
      repeat' (first | (simp (maxSteps := 2000000) (disch := omega) only [go_sem, seval, reduceCtorEq, h1, h1', h4, h4', h3, h5, c0', ftRow_length]) | with_reducible exact Ev.mk | ((first | apply x_split | apply x_splitg) <;> intro hβ hb <;> (simp (maxSteps := 2000000) (disch := omega) only [go_sem, seval, reduceCtorEq, h1, h1', h4, h4', h3, h5, c0', ftRow_length, hβ]) <;> clear hβ))
      refine i_lk (W_round ?_)
      (try simp (maxSteps := 2000000) (disch := omega) only [go_sem, seval, reduceCtorEq])
      exact ihk
    · have c0' : ((i : Int) != (j : Int)) = true := bne_iff_ne.2 (by omega)
      cases hc : conflB l[i] l[j] with
      | false =>
        rw [hc] at q ihk
        rw [if_neg (fun h => by cases h.2)] at ihk
        repeat' (first | exact q | (simp (maxSteps := 2000000) (disch := omega) only [go_sem, seval, reduceCtorEq, h1, h1', h4, h4', h3, h5, c0', ftRow_length]) | with_reducible exact Ev.mk | apply x_call | ((first | apply x_split | apply x_splitg) <;> intro hβ hb <;> (simp (maxSteps := 2000000) (disch := omega) only [go_sem, seval, reduceCtorEq, h1, h1', h4, h4', h3, h5, c0', ftRow_length, hβ]) <;> clear hβ))
        refine i_lk (W_round ?_)
        (try simp (maxSteps := 2000000) (disch := omega) only [go_sem, seval, reduceCtorEq])
        exact ihk
      | true =>
        rw [hc] at q ihk
        rw [if_pos ⟨c0, rfl⟩] at ihk
        by_cases cm : b' < a
        · have cm' : (b' : Int) < (a : Int) := by omega
          have em : min a b' = b' := by omega
          rw [em] at ihk
          repeat' (first | exact q | (simp (maxSteps := 2000000) (disch := omega) only [go_sem, seval, reduceCtorEq, h1, h1', h4, h4', h3, h5, c0', g1, g2, g3, hw, cm', ftRow_length, intRow_length]) | with_reducible exact Ev.mk | apply x_call | ((first | apply x_split | apply x_splitg) <;> intro hβ hb <;> (simp (maxSteps := 2000000) (disch := omega) only [go_sem, seval, reduceCtorEq, h1, h1', h4, h4', h3, h5, c0', g1, g2, g3, hw, cm', ftRow_length, intRow_length, hβ]) <;> clear hβ))
          refine i_lk (W_round ?_)
          (try simp (maxSteps := 2000000) (disch := omega) only [go_sem, seval, reduceCtorEq])
          exact ihk
        · have cm' : ¬ (b' : Int) < (a : Int) := by omega
          have em : min a b' = a := by omega
          rw [em] at ihk
          repeat' (first | exact q | (simp (maxSteps := 2000000) (disch := omega) only [go_sem, seval, reduceCtorEq, h1, h1', h4, h4', h3, h5, c0', g1, g2, g3, hw, cm', ftRow_length, intRow_length]) | with_reducible exact Ev.mk | apply x_call | ((first | apply x_split | apply x_splitg) <;> intro hβ hb <;> (simp (maxSteps := 2000000) (disch := omega) only [go_sem, seval, reduceCtorEq, h1, h1', h4, h4', h3, h5, c0', g1, g2, g3, hw, cm', ftRow_length, intRow_length, hβ]) <;> clear hβ))
          refine i_lk (W_round ?_)
          (try simp (maxSteps := 2000000) (disch := omega) only [go_sem, seval, reduceCtorEq])
          exact ihk

theorem l_rc3 (l : List Ft) (b : Bool) (hl : l.length ≤ 10) (hF : ∀ f ∈ l, Fo f) (rd : Nat) (v : List Nat) (hv : v.length = l.length) (K : Ex → St → Prop)
    (hx : K (.exit 4) ⟨[(0, .p (.slice b (ftRow l))), (3, .ref 0 l.length 0 l.length), (5, .p (.int .i64 rd))], [(0, .row false 1 (intRow (relI l l.length v)))], 1, [0]⟩) : ∀ (m i : Nat), i + m = l.length →
    W tb a44_l3 ⟨[(0, .p (.slice b (ftRow l))), (3, .ref 0 l.length 0 l.length), (5, .p (.int .i64 rd)), (6, .p (.int .i64 i))], [(0, .row false 1 (intRow (relI l i v)))], 1, [0]⟩ (LK tb (.ghost .lower a44_l3) K) := by
  intro m
  induction m with
  | zero =>
    intro i hi
    have h1 : ¬ (i : Int) < l.length := by omega
    have e : i = l.length := by omega
    rw [e] at h1 ⊢
    refine i_code (by unfold a44_l3; exact rfl) ?_
    repeat' (first | (simp (maxSteps := 2000000) (disch := omega) only [go_sem, seval, reduceCtorEq, h1, ftRow_length]) | with_reducible exact Ev.mk | ((first | apply x_split | apply x_splitg) <;> intro hβ hb <;> (simp (maxSteps := 2000000) (disch := omega) only [go_sem, seval, reduceCtorEq, h1, ftRow_length, hβ]) <;> clear hβ))
    exact hx
  | succ m ih =>
    intro i hi
    have h1 : (i : Int) < l.length := by omega
    have h2 : i < l.length := by omega
    have ihk := ih (i + 1) (by omega)
    have key := fun K hx => l_rc2 l b hl hF rd i h2 (relI l i v) (by rw [relI_len, hv]) K hx l.length 0 (by omega)
    refine i_code (by unfold a44_l3; exact rfl) ?_
    repeat' (first | (simp (maxSteps := 2000000) (disch := omega) only [go_sem, seval, reduceCtorEq, h1, ftRow_length]) | with_reducible exact Ev.mk | ((first | apply x_split | apply x_splitg) <;> intro hβ hb <;> (simp (maxSteps := 2000000) (disch := omega) only [go_sem, seval, reduceCtorEq, h1, ftRow_length, hβ]) <;> clear hβ))
    refine W_round ?_
    (try simp (maxSteps := 2000000) (disch := omega) only [go_sem, seval, reduceCtorEq])
    refine key _ ?_
    repeat' (first | (simp (maxSteps := 2000000) (disch := omega) only [go_sem, seval, reduceCtorEq]) | with_reducible exact Ev.mk | ((first | apply x_split | apply x_splitg) <;> intro hβ hb <;> (simp (maxSteps := 2000000) (disch := omega) only [go_sem, seval, reduceCtorEq, hβ]) <;> clear hβ))
    refine i_lk (W_round ?_)
    (try simp (maxSteps := 2000000) (disch := omega) only [go_sem, seval, reduceCtorEq])
    exact ihk

theorem l_rc4 (l : List Ft) (b : Bool) (hl : l.length ≤ 10) (hF : ∀ f ∈ l, Fo f) (K : Ex → St → Prop)
    (hx : K (.exit 2) ⟨[(0, .p (.slice b (ftRow l))), (3, .ref 0 l.length 0 l.length)], [(0, .row false 1 (intRow (rnd l l.length)))], 1, [0]⟩) : ∀ (m r : Nat), r + m = l.length →
    W tb a44_l4 ⟨[(0, .p (.slice b (ftRow l))), (3, .ref 0 l.length 0 l.length), (5, .p (.int .i64 r))], [(0, .row false 1 (intRow (rnd l r)))], 1, [0]⟩ (LK tb (.ghost .lower a44_l4) K) := by
  intro m
  induction m with
  | zero =>
    intro r hi
    have h1 : ¬ (r : Int) < l.length := by omega
    have e : r = l.length := by omega
    rw [e] at h1 ⊢
    refine i_code (by unfold a44_l4; exact rfl) ?_
    repeat' (first | (simp (maxSteps := 2000000) (disch := omega) only [go_sem, seval, reduceCtorEq, h1, ftRow_length]) | with_reducible exact Ev.mk | ((first | apply x_split | apply x_splitg) <;> intro hβ hb <;> (simp (maxSteps := 2000000) (disch := omega) only [go_sem, seval, reduceCtorEq, h1, ftRow_length, hβ]) <;> clear hβ))
    exact hx
  | succ m ih =>
    intro r hi
    have h1 : (r : Int) < l.length := by omega
    have ihk := ih (r + 1) (by omega)
    have key := fun K hx => l_rc3 l b hl hF r (rnd l r) (rnd_len l r) K hx l.length 0 (by omega)
    refine i_code (by unfold a44_l4; exact rfl) ?_
    repeat' (first | (simp (maxSteps := 2000000) (disch := omega) only [go_sem, seval, reduceCtorEq, h1, ftRow_length]) | with_reducible exact Ev.mk | ((first | apply x_split | apply x_splitg) <;> intro hβ hb <;> (simp (maxSteps := 2000000) (disch := omega) only [go_sem, seval, reduceCtorEq, h1, ftRow_length, hβ]) <;> clear hβ))
    refine W_round ?_
    (try simp (maxSteps := 2000000) (disch := omega) only [go_sem, seval, reduceCtorEq])
    refine key _ ?_
    repeat' (first | (simp (maxSteps := 2000000) (disch := omega) only [go_sem, seval, reduceCtorEq]) | with_reducible exact Ev.mk | ((first | apply x_split | apply x_splitg) <;> intro hβ hb <;> (simp (maxSteps := 2000000) (disch := omega) only [go_sem, seval, reduceCtorEq, hβ]) <;> clear hβ))
    refine i_lk (W_round ?_)
    (try simp (maxSteps := 2000000) (disch := omega) only [go_sem, seval, reduceCtorEq])
    exact ihk

/-! ### the classes -/

def compO (fs : List Nat) (n k : Nat) : List (List Nat) := ((List.range k).filter fun i => decide (fs.getD i 0 = i)).map (cls fs n)
theorem compO_succ (fs : List Nat) (n k : Nat) : compO fs n (k + 1) = compO fs n k ++ (if fs.getD k 0 = k then [cls fs n k] else []) := by
  unfold compO
  rw [List.range_succ, List.filter_append, List.map_append]
  congr 1
  simp only [List.filter_cons, List.filter_nil, decide_eq_true_eq]
  split <;> rfl
theorem compO_len (fs : List Nat) (n k : Nat) : (compO fs n k).length ≤ k := by
  unfold compO
  rw [List.length_map]
  exact Nat.le_trans (List.length_filter_le _ _) (by simp)
theorem compO_end (l : List Ft) : compO (cmpF l) l.length l.length = compR l := by
  unfold compO compR hd
  congr 1
  apply List.filter_congr
  intro x hx
  have hx := List.mem_range.1 hx
  rw [Bool.eq_iff_iff, decide_eq_true_eq]
  constructor
  · intro h
    have : x ∈ cls (cmpF l) l.length x := cls_mem.2 ⟨hx, h⟩
    cases he : (cls (cmpF l) l.length x).isEmpty with
    | false => rfl
    | true => rw [List.isEmpty_iff.1 he] at this; cases this
  · intro h
    have : cls (cmpF l) l.length x ≠ [] := by
      intro e; rw [e] at h; cases h
    obtain ⟨j, hj⟩ := List.exists_mem_of_ne_nil _ this
    obtain ⟨h1, h2⟩ := cls_mem.1 hj
    rw [← h2]
    exact (cmpF_lab l).fix j h1

theorem l_rc0 (l : List Ft) (b : Bool) (fs : List Nat) (hl : l.length ≤ 10) (hfs : fs.length = l.length) (i k nx : Nat) (hi : i < l.length) (hfi : fs.getD i 0 = i) (H : Heap) (h2 : 2 ≤ nx) (g0 : aget H 0 = some (.row false 1 (intRow fs))) (K : Ex → St → Prop)
    (hx : K (.exit 10) ⟨[(0, .p (.slice b (ftRow l))), (3, .ref 0 l.length 0 l.length), (8, .ref 1 k 0 k), (9, .p (.int .i64 i)), (10, .ref nx (cls fs l.length i).length 0 (cls fs l.length i).length)], (nx, .row false 1 (intRow (cls fs l.length i))) :: H, nx + 1, [0]⟩) : ∀ (m j : Nat), j + m = l.length →
    W tb a44_l0 ⟨[(0, .p (.slice b (ftRow l))), (3, .ref 0 l.length 0 l.length), (8, .ref 1 k 0 k), (9, .p (.int .i64 i)), (10, .ref nx (cls fs j i).length 0 (cls fs j i).length), (11, .p (.int .i64 j))], (nx, .row false 1 (intRow (cls fs j i))) :: H, nx + 1, [0]⟩ (LK tb a44_l0 K) := by
  have b0 : (nx == 0) = false := by simp; omega
  have hil : i < fs.length := by omega
  have g1 : (intRow fs)[i]? = some [.int .i64 (i : Int)] := by
    rw [intRow_get fs i hil]
    rw [List.getD_eq_getElem?_getD, List.getElem?_eq_getElem hil] at hfi
    have hfi : fs[i] = i := hfi
    rw [hfi]
  have p1 : (i : Int) < l.length := by omega
  have p2 : (0 : Int) ≤ i := by omega
  have p3 : ((i : Int) == (i : Int)) = true := by simp
  intro m
  induction m with
  | zero =>
    intro j hj
    have h1 : ¬ (j : Int) < l.length := by omega
    have e : j = l.length := by omega
    rw [e] at h1 ⊢
    refine i_code (by unfold a44_l0; exact rfl) ?_
    repeat' (first | (simp (maxSteps := 2000000) (disch := omega) only [go_sem, seval, reduceCtorEq, h1, ftRow_length]) | with_reducible exact Ev.mk | ((first | apply x_split | apply x_splitg) <;> intro hβ hb <;> (simp (maxSteps := 2000000) (disch := omega) only [go_sem, seval, reduceCtorEq, h1, ftRow_length, hβ]) <;> clear hβ))
    exact hx
  | succ m ih =>
    intro j hj
    have h1 : (j : Int) < l.length := by omega
    have hjl : j < fs.length := by omega
    have h4 : (0 : Int) ≤ j := by omega
    have ihk := ih (j + 1) (by omega)
    rw [cls_succ] at ihk
    have hlen := cls_len fs j i
    have g2 : (intRow fs)[j]? = some [.int .i64 (fs.getD j 0 : Nat)] := by
      rw [intRow_get fs j hjl, List.getD_eq_getElem?_getD, List.getElem?_eq_getElem hjl]; rfl
    generalize cls fs j i = B at ihk hlen ⊢
    refine i_code (by unfold a44_l0; exact rfl) ?_
    by_cases c : fs.getD j 0 = i
    · rw [if_pos c, List.length_append] at ihk
      simp only [List.length_cons, List.length_nil] at ihk
      have c' : (((fs.getD j 0 : Nat) : Int) == (i : Int)) = true := beq_iff_eq.2 (by omega)
      generalize fs.getD j 0 = z at c' g2
      have sn := intRow_snoc B j
      have m1 : (B.length + 1) * 8 ≤ 140737488355328 := by omega
      have m2 : B.length + 1 ≤ 140737488355328 := by omega
      repeat' (first | (simp (maxSteps := 2000000) (disch := omega) only [go_sem, seval, reduceCtorEq, h1, h4, b0, g0, g1, g2, p1, p2, p3, c', hfs, sn, sz1, m1, m2, maxBytes, ftRow_length, intRow_length]) | with_reducible exact Ev.mk | ((first | apply x_split | apply x_splitg) <;> intro hβ hb <;> (simp (maxSteps := 2000000) (disch := omega) only [go_sem, seval, reduceCtorEq, h1, h4, b0, g0, g1, g2, p1, p2, p3, c', hfs, sn, sz1, m1, m2, maxBytes, ftRow_length, intRow_length, hβ]) <;> clear hβ))
      refine i_lk (W_round ?_)
      (try simp (maxSteps := 2000000) (disch := omega) only [go_sem, seval, reduceCtorEq])
      exact ihk
    · rw [if_neg c, List.append_nil] at ihk
      have c' : (((fs.getD j 0 : Nat) : Int) == (i : Int)) = false := beq_eq_false_iff_ne.2 (by omega)
      generalize fs.getD j 0 = z at c' g2
      repeat' (first | (simp (maxSteps := 2000000) (disch := omega) only [go_sem, seval, reduceCtorEq, h1, h4, b0, g0, g1, g2, p1, p2, p3, c', hfs, sz1, maxBytes, ftRow_length, intRow_length]) | with_reducible exact Ev.mk | ((first | apply x_split | apply x_splitg) <;> intro hβ hb <;> (simp (maxSteps := 2000000) (disch := omega) only [go_sem, seval, reduceCtorEq, h1, h4, b0, g0, g1, g2, p1, p2, p3, c', hfs, sz1, maxBytes, ftRow_length, intRow_length, hβ]) <;> clear hβ))
      refine i_lk (W_round ?_)
      (try simp (maxSteps := 2000000) (disch := omega) only [go_sem, seval, reduceCtorEq])
      exact ihk

theorem l_rc1 (l : List Ft) (b : Bool) (fs : List Nat) (hl : l.length ≤ 10) (hfs : Lab l.length fs) (K : Ex → St → Prop)
    (hx : ∀ H nx, aget H 1 = some (.row false 1 (clRow (compO fs l.length l.length))) → K (.exit 8) ⟨[(8, .ref 1 (compO fs l.length l.length).length 0 (compO fs l.length l.length).length)], H, nx, [0]⟩) : ∀ (m i : Nat), i + m = l.length → ∀ H nx, 2 ≤ nx → aget H 0 = some (.row false 1 (intRow fs)) → aget H 1 = some (.row false 1 (clRow (compO fs l.length i))) →
    W tb a44_l1 ⟨[(0, .p (.slice b (ftRow l))), (3, .ref 0 l.length 0 l.length), (8, .ref 1 (compO fs l.length i).length 0 (compO fs l.length i).length), (9, .p (.int .i64 i))], H, nx, [0]⟩ (LK tb a44_l1 K) := by
  intro m
  induction m with
  | zero =>
    intro i hi H nx h2 g0 g1
    have h1 : ¬ (i : Int) < l.length := by omega
    have e : i = l.length := by omega
    rw [e] at h1 g1 ⊢
    refine i_code (by unfold a44_l1; exact rfl) ?_
    repeat' (first | (simp (maxSteps := 2000000) (disch := omega) only [go_sem, seval, reduceCtorEq, h1, ftRow_length]) | with_reducible exact Ev.mk | ((first | apply x_split | apply x_splitg) <;> intro hβ hb <;> (simp (maxSteps := 2000000) (disch := omega) only [go_sem, seval, reduceCtorEq, h1, ftRow_length, hβ]) <;> clear hβ))
    exact hx H nx g1
  | succ m ih =>
    intro i hi H nx h2 g0 g1
    have h1 : (i : Int) < l.length := by omega
    have hil : i < l.length := by omega
    have h4 : (0 : Int) ≤ i := by omega
    have b0 : (nx == 0) = false := by simp; omega
    have b1 : (nx == 1) = false := by simp; omega
    have hfl := hfs.len
    have ihk := ih (i + 1) (by omega)
    rw [compO_succ] at ihk
    have hlen := compO_len fs l.length i
    have g2 : (intRow fs)[i]? = some [.int .i64 (fs.getD i 0 : Nat)] := by
      rw [intRow_get fs i (by omega), List.getD_eq_getElem?_getD, List.getElem?_eq_getElem (by omega)]; rfl
    refine i_code (by unfold a44_l1; exact rfl) ?_
    by_cases c : fs.getD i 0 = i
    · rw [if_pos c] at ihk
      have hz : cls fs i i = [] := by
        unfold cls
        rw [List.filter_eq_nil_iff]
        intro x hx
        have := List.mem_range.1 hx
        have := hfs.le x (by omega)
        simp only [decide_eq_true_eq]; omega
      have hne : 0 < (cls fs l.length i).length := List.length_pos_of_mem (cls_mem.2 ⟨hil, c⟩)
      have key := fun K hx => l_rc0 l b fs hl hfl i (compO fs l.length i).length nx hil c H h2 g0 K hx (l.length - i) i (by omega)
      rw [hz, show intRow [] = [] from rfl, List.length_nil] at key
      repeat' (first | (simp (maxSteps := 2000000) (disch := omega) only [go_sem, seval, reduceCtorEq, h1, ftRow_length]) | with_reducible exact Ev.mk | ((first | apply x_split | apply x_splitg) <;> intro hβ hb <;> (simp (maxSteps := 2000000) (disch := omega) only [go_sem, seval, reduceCtorEq, h1, ftRow_length, hβ]) <;> clear hβ))
      refine W_round ?_
      (try simp (maxSteps := 2000000) (disch := omega) only [go_sem, seval, reduceCtorEq])
      refine key _ ?_
      have hcl := cls_len fs l.length i
      have sn := clRow_snoc (compO fs l.length i) (cls fs l.length i)
      generalize compO fs l.length i = C at ihk hlen g1 sn ⊢
      generalize cls fs l.length i = B at ihk hne hcl sn ⊢
      have p1 : (0 : Int) < B.length := by omega
      have m1 : (C.length + 1) * 24 ≤ 140737488355328 := by omega
      have m2 : C.length + 1 ≤ 140737488355328 := by omega
      have e1 : (intRow B).take B.length = intRow B := intRow_take B _ rfl
      have ihk := ihk ((nx, .row true 1 (intRow B)) :: hset H 1 (.row false 1 (clRow (C ++ [B])))) (nx + 1) (by omega) (by rw [aget_cons_ne (by omega), hs_ne (by omega)]; exact g0) (by rw [aget_cons_ne (by omega)]; exact hs_eq g1)
      rw [List.length_append] at ihk
      simp only [List.length_cons, List.length_nil] at ihk
      repeat' (first | (simp (maxSteps := 2000000) (disch := omega) only [go_sem, seval, reduceCtorEq, p1, b0, b1, g1, e1, sn, sz1, m1, m2, maxBytes, clRow_length, intRow_length]) | with_reducible exact Ev.mk | ((first | apply x_split | apply x_splitg) <;> intro hβ hb <;> (simp (maxSteps := 2000000) (disch := omega) only [go_sem, seval, reduceCtorEq, p1, b0, b1, g1, e1, sn, sz1, m1, m2, maxBytes, clRow_length, intRow_length, hβ]) <;> clear hβ))
      refine i_lk (W_round ?_)
      (try simp (maxSteps := 2000000) (disch := omega) only [go_sem, seval, reduceCtorEq])
      exact ihk
    · rw [if_neg c, List.append_nil] at ihk
      have c' : (((fs.getD i 0 : Nat) : Int) == (i : Int)) = false := beq_eq_false_iff_ne.2 (by omega)
      generalize fs.getD i 0 = z at c' g2
      repeat' (first | (simp (maxSteps := 2000000) (disch := omega) only [go_sem, seval, reduceCtorEq, h1, ftRow_length]) | with_reducible exact Ev.mk | ((first | apply x_split | apply x_splitg) <;> intro hβ hb <;> (simp (maxSteps := 2000000) (disch := omega) only [go_sem, seval, reduceCtorEq, h1, ftRow_length, hβ]) <;> clear hβ))
      refine W_round ?_
      refine i_code (by unfold a44_l0; exact rfl) ?_
      repeat' (first | (simp (maxSteps := 2000000) (disch := omega) only [go_sem, seval, reduceCtorEq, h1, h4, b0, b1, g0, g2, c', hfl, ftRow_length, intRow_length]) | with_reducible exact Ev.mk | ((first | apply x_split | apply x_splitg) <;> intro hβ hb <;> (simp (maxSteps := 2000000) (disch := omega) only [go_sem, seval, reduceCtorEq, h1, h4, b0, b1, g0, g2, c', hfl, ftRow_length, intRow_length, hβ]) <;> clear hβ))
      refine i_lk (W_round ?_)
      (try simp (maxSteps := 2000000) (disch := omega) only [go_sem, seval, reduceCtorEq])
      exact ihk ((nx, .row false 1 []) :: H) (nx + 1) (by omega) (by rw [aget_cons_ne (by omega)]; exact g0) (by rw [aget_cons_ne (by omega)]; exact g1)

theorem ps_rcomponents (l : List Ft) (b : Bool) (hl : l.length ≤ 10) (hF : ∀ f ∈ l, Fo f) : PS tb 44 [.slice b (ftRow l)] (.slice false (clRow (compR l))) := by
  refine PS_of (af := a44) rfl rfl ?_
  unfold a44
  dsimp only [List.map, ofPV, initEnv]
  repeat' (first | (simp (maxSteps := 2000000) (disch := omega) only [go_sem, seval, reduceCtorEq]) | with_reducible exact Ev.mk | ((first | apply x_split | apply x_splitg) <;> intro hβ hb <;> (simp (maxSteps := 2000000) (disch := omega) only [go_sem, seval, reduceCtorEq, hβ]) <;> clear hβ))
  refine W_round ?_
  (try simp (maxSteps := 2000000) (disch := omega) only [go_sem, seval, reduceCtorEq])
  have key5 := fun K hx => l_rc5 l b hl K hx l.length 0 (by omega)
  refine key5 _ ?_
  repeat' (first | (simp (maxSteps := 2000000) (disch := omega) only [go_sem, seval, reduceCtorEq]) | with_reducible exact Ev.mk | ((first | apply x_split | apply x_splitg) <;> intro hβ hb <;> (simp (maxSteps := 2000000) (disch := omega) only [go_sem, seval, reduceCtorEq, hβ]) <;> clear hβ))
  refine W_round ?_
  (try simp (maxSteps := 2000000) (disch := omega) only [go_sem, seval, reduceCtorEq])
  have key4 := fun K hx => l_rc4 l b hl hF K hx l.length 0 (by omega)
  rw [show rnd l 0 = List.range l.length from rfl, rnd_end] at key4
  refine key4 _ ?_
  repeat' (first | (simp (maxSteps := 2000000) (disch := omega) only [go_sem, seval, reduceCtorEq]) | with_reducible exact Ev.mk | ((first | apply x_split | apply x_splitg) <;> intro hβ hb <;> (simp (maxSteps := 2000000) (disch := omega) only [go_sem, seval, reduceCtorEq, hβ]) <;> clear hβ))
  refine W_round ?_
  (try simp (maxSteps := 2000000) (disch := omega) only [go_sem, seval, reduceCtorEq])
  have key1 := fun K hx => l_rc1 l b (cmpF l) hl (cmpF_lab l) K hx l.length 0 (by omega) [(1, .row false 1 []), (0, .row false 1 (intRow (cmpF l)))] 2 (Nat.le_refl _) rfl rfl
  rw [compO_end] at key1
  refine key1 _ ?_
  intro H nx g1
  have e1 := clRow_take (compR l)
  repeat' (first | (simp (maxSteps := 2000000) (disch := omega) only [go_sem, seval, reduceCtorEq, g1]) | with_reducible exact Ev.mk | ((first | apply x_split | apply x_splitg) <;> intro hβ hb <;> (simp (maxSteps := 2000000) (disch := omega) only [go_sem, seval, reduceCtorEq, g1, hβ]) <;> clear hβ))
  all_goals simp [pur, dep, g1, clRow_length, e1]

/-! ### the statement -/

theorem l_law11 (C : List (List Nat)) (hC : C.length ≤ 10) (hc : ∀ c ∈ C, c.length ≤ 10) (K : Ex → St → Prop) (hx : K (.exit 0) ⟨[], [], 0, [0]⟩) : ∀ (m i : Nat), i + m = C.length →
    W tb a11_l0 ⟨[(3, .p (.slice false (clRow C))), (4, .p (.slice false (clRow C))), (5, .p (.int .i64 i))], [], 0, [0]⟩ (LK tb (.ghost .lower a11_l0) K) := by
  intro m
  induction m with
  | zero =>
    intro i hi
    have h1 : ¬ (i : Int) < C.length := by omega
    refine i_code (by unfold a11_l0; exact rfl) ?_
    repeat' (first | (simp (maxSteps := 2000000) (disch := omega) only [go_sem, seval, reduceCtorEq, h1, clRow_length]) | with_reducible exact Ev.mk | ((first | apply x_split | apply x_splitg) <;> intro hβ hb <;> (simp (maxSteps := 2000000) (disch := omega) only [go_sem, seval, reduceCtorEq, h1, clRow_length, hβ]) <;> clear hβ))
    exact hx
  | succ m ih =>
    intro i hi
    have h1 : (i : Int) < C.length := by omega
    have h2 : i < C.length := by omega
    have h4 : (0 : Int) ≤ i := by omega
    have h3 := clRow_get C i h2
    have q := ps_same25 C[i] false false (by have := hc _ (List.getElem_mem h2); omega)
    refine i_code (by unfold a11_l0; exact rfl) ?_
    repeat' (first | exact q | (simp (maxSteps := 2000000) (disch := omega) only [go_sem, seval, reduceCtorEq, h1, h4, h3, clRow_length]) | with_reducible exact Ev.mk | apply x_call | ((first | apply x_split | apply x_splitg) <;> intro hβ hb <;> (simp (maxSteps := 2000000) (disch := omega) only [go_sem, seval, reduceCtorEq, h1, h4, h3, clRow_length, hβ]) <;> clear hβ))
    refine i_lk (W_round ?_)
    (try simp (maxSteps := 2000000) (disch := omega) only [go_sem, seval, reduceCtorEq])
    exact ih (i + 1) (by omega)

theorem walkConflictComponents {u : PV} (h : Fit (.slice [.bool, .slice [.str], .slice [.str]]) u) : PS tb 11 [u] (.bool true) := by
  obtain ⟨l, rfl, hl⟩ := fit_feet h
  have q := ps_few25 l false hl
  refine PS_of (af := a11) rfl rfl ?_
  unfold a11
  dsimp only [List.map, ofPV, initEnv]
  cases hf : fewL l with
  | false =>
    rw [hf] at q
    repeat' (first | exact q | exact ps_lives | (simp (maxSteps := 2000000) (disch := omega) only [go_sem, seval, reduceCtorEq]) | with_reducible exact Ev.mk | apply x_call | ((first | apply x_split | apply x_splitg) <;> intro hβ hb <;> (simp (maxSteps := 2000000) (disch := omega) only [go_sem, seval, reduceCtorEq, hβ]) <;> clear hβ))
  | true =>
    rw [hf] at q
    obtain ⟨h1, h2⟩ := fewL_ok hf
    have q1 := ps_components l false h1 h2
    have q2 := ps_rcomponents l false h1 h2
    have hcl := compR_len l
    have hce := compR_each l
    have n1 : (((compR l).length : Int) != ((compR l).length : Int)) = false := by simp
    repeat' (first | exact q | exact q1 | exact q2 | (simp (maxSteps := 2000000) (disch := omega) only [go_sem, seval, reduceCtorEq, n1, clRow_length]) | with_reducible exact Ev.mk | apply x_call | ((first | apply x_split | apply x_splitg) <;> intro hβ hb <;> (simp (maxSteps := 2000000) (disch := omega) only [go_sem, seval, reduceCtorEq, n1, clRow_length, hβ]) <;> clear hβ))
    refine W_round ?_
    (try simp (maxSteps := 2000000) (disch := omega) only [go_sem, seval, reduceCtorEq])
    refine l_law11 (compR l) (by omega) (fun c hc => by have := (hce c hc).1; omega) _ ?_ (compR l).length 0 (by omega)
    repeat' (first | exact ps_lives | (simp (maxSteps := 2000000) (disch := omega) only [go_sem, seval, reduceCtorEq]) | with_reducible exact Ev.mk | apply x_call | ((first | apply x_split | apply x_splitg) <;> intro hβ hb <;> (simp (maxSteps := 2000000) (disch := omega) only [go_sem, seval, reduceCtorEq, hβ]) <;> clear hβ))

end Go.Dv.Try
