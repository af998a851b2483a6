/-
  Specifications: K13, K14, K15, K16, K17.
-/
import Derived.Test.YtknplkihgnfpfaaKC
set_option linter.unusedVariables false
set_option linter.unusedSimpArgs false
set_option maxRecDepth 100000
set_option maxHeartbeats 8000000
namespace Go.Dv.Try
open Go Go.Dv

/-! ## K13 -/

/-! ### the least that is known to be connected -/

def rg (a b x : Nat) : Nat := if x = a ∨ x = b then min a b else x
def cmpS (fs : List Nat) (e : Ed) : List Nat := fs.map (rg (fs.getD e.1 0) (fs.getD e.2.1 0))
def cmpN (n : Nat) (es : List Ed) : List Nat := es.foldl cmpS (List.range n)
def cmpF (l : List Ft) : List Nat := cmpN l.length (edgesR l)
theorem cmpN_len (n : Nat) : ∀ (es : List Ed) , (cmpN n es).length = n := by
  intro es
  unfold cmpN
  have : ∀ (es : List Ed) (fs : List Nat), (es.foldl cmpS fs).length = fs.length := by
    intro es
    induction es with
    | nil => intro fs; rfl
    | cons e r ih => intro fs; rw [List.foldl_cons, ih]; simp [cmpS]
  rw [this, List.length_range]
theorem cmpN_succ (n : Nat) (es : List Ed) (i : Nat) (h : i < es.length) : cmpN n (es.take (i + 1)) = cmpS (cmpN n (es.take i)) es[i] := by
  rw [List.take_add_one, List.getElem?_eq_getElem h]
  unfold cmpN
  rw [List.foldl_append]; rfl

def fstA (n i : Nat) : List Nat := List.range i ++ List.replicate (n - i) 0
theorem fstA_len (n i : Nat) (h : i ≤ n) : (fstA n i).length = n := by simp [fstA]; omega
theorem fstA_get (n i : Nat) (h : i < n) : (intRow (fstA n i))[i]? = some [.int .i64 ((0 : Nat) : Int)] := by
  rw [intRow, List.getElem?_map, fstA, List.getElem?_append_right (by simp), List.length_range, Nat.sub_self, List.getElem?_replicate, if_pos (by omega)]; rfl
theorem fstA_set (n i : Nat) (h : i < n) : (intRow (fstA n i)).set i [.int .i64 (i : Int)] = intRow (fstA n (i + 1)) := by
  have : (fstA n i).set i i = fstA n (i + 1) := by
    unfold fstA
    have e : n - i = (n - (i + 1)) + 1 := by omega
    rw [e, List.replicate_succ, List.set_append_right _ _ (by simp), List.length_range, Nat.sub_self, List.set_cons_zero, List.range_succ, List.append_assoc]; rfl
  rw [← this, intRow, intRow, List.map_set]
theorem fstA_end (n : Nat) : fstA n n = List.range n := by simp [fstA]
theorem fstA_zero (n : Nat) : intRow (fstA n 0) = List.replicate n [.int .i64 0] := by simp [fstA, intRow]

theorem l_cmp4 (l : List Ft) (b : Bool) (hl : l.length ≤ 10) (K : Ex → St → Prop)
    (hx : K (.exit 0) ⟨[(0, .p (.slice b (ftRow l))), (3, .ref 0 l.length 0 l.length)], [(0, .row false 1 (intRow (List.range l.length)))], 1, [0]⟩) : ∀ (m i : Nat), i + m = l.length →
    W tb a43_l4 ⟨[(0, .p (.slice b (ftRow l))), (3, .ref 0 l.length 0 l.length), (23, .p (.int .i64 l.length)), (24, .p (.int .i64 i))], [(0, .row false 1 (intRow (fstA l.length i)))], 1, [0]⟩ (LK tb (.ghost .lower a43_l4) K) := by
  intro m
  induction m with
  | zero =>
    intro i hi
    have h1 : ¬ (i : Int) < l.length := by omega
    have e : i = l.length := by omega
    rw [e] at h1 ⊢
    rw [fstA_end]
    refine i_code (by unfold a43_l4; exact rfl) ?_
    repeat' (first | (simp (disch := omega) only [go_sem, seval, reduceCtorEq, h1]) | with_reducible exact Ev.mk | ((first | apply x_split | apply x_splitg) <;> intro hβ hb <;> (simp (disch := omega) only [go_sem, seval, reduceCtorEq, h1, hβ]) <;> clear hβ))
    exact hx
  | succ m ih =>
    intro i hi
    have h1 : (i : Int) < l.length := by omega
    have h2 : i < l.length := by omega
    have h4 : (0 : Int) ≤ i := by omega
    have g1 := fstA_len l.length i (by omega)
    have g2 := fstA_get l.length i h2
    have g3 := fstA_set l.length i h2
    have ihk := ih (i + 1) (by omega)
    refine i_code (by unfold a43_l4; exact rfl) ?_
    repeat' (first | (simp (disch := omega) only [go_sem, seval, reduceCtorEq, h1, h4, g1, g2, g3, intRow_length]) | with_reducible exact Ev.mk | ((first | apply x_split | apply x_splitg) <;> intro hβ hb <;> (simp (disch := omega) only [go_sem, seval, reduceCtorEq, h1, h4, g1, g2, g3, intRow_length, hβ]) <;> clear hβ))
    refine i_lk (W_round ?_)
    (try simp (disch := omega) only [go_sem, seval, reduceCtorEq])
    exact ihk

def repl (a b : Nat) (fs : List Nat) (k : Nat) : List Nat := (fs.take k).map (rg a b) ++ fs.drop k
theorem repl_len (a b : Nat) (fs : List Nat) (k : Nat) (h : k ≤ fs.length) : (repl a b fs k).length = fs.length := by simp [repl]; omega
theorem repl_get (a b : Nat) (fs : List Nat) (k : Nat) (h : k < fs.length) : (repl a b fs k)[k]? = some fs[k] := by
  rw [repl, List.getElem?_append_right (by simp; omega)]
  have e : min k fs.length = k := by omega
  simp [e, h]
theorem repl_getR (a b : Nat) (fs : List Nat) (k : Nat) (h : k < fs.length) : (intRow (repl a b fs k))[k]? = some [.int .i64 (fs[k] : Int)] := by
  rw [intRow, List.getElem?_map, repl_get a b fs k h]; rfl
theorem repl_set (a b : Nat) (fs : List Nat) (k : Nat) (h : k < fs.length) : (repl a b fs k).set k (rg a b fs[k]) = repl a b fs (k + 1) := by
  have hd : fs.drop k = fs[k] :: fs.drop (k + 1) := List.drop_eq_getElem_cons h
  have ht : fs.take (k + 1) = fs.take k ++ [fs[k]] := by rw [List.take_add_one, List.getElem?_eq_getElem h]; rfl
  have l1 : ((fs.take k).map (rg a b)).length = k := by simp; omega
  unfold repl
  rw [hd, ht, List.set_append_right _ _ (by omega), l1, Nat.sub_self]
  simp only [List.set_cons_zero, List.map_append, List.map_cons, List.map_nil, List.append_assoc, List.singleton_append]
theorem repl_setR (a b : Nat) (fs : List Nat) (k : Nat) (h : k < fs.length) : (intRow (repl a b fs k)).set k [.int .i64 (rg a b fs[k] : Int)] = intRow (repl a b fs (k + 1)) := by
  rw [← repl_set a b fs k h, intRow, intRow, List.map_set]
theorem repl_same (a b : Nat) (fs : List Nat) (k : Nat) (h : k < fs.length) (hr : rg a b fs[k] = fs[k]) : repl a b fs (k + 1) = repl a b fs k := by
  rw [← repl_set a b fs k h, hr]
  apply List.ext_getElem?
  intro j
  rw [List.getElem?_set]
  split
  · rename_i e; subst e
    rw [if_pos (by rw [repl_len a b fs k (by omega)]; exact h), repl_get a b fs k h]
  · rfl

theorem l_cmp2 (fs : List Nat) (hl : fs.length ≤ 10) (a b : Nat) (es : List Ed) (b2 : Bool) (i : Nat) (K : Ex → St → Prop)
    (hx : K (.exit 4) ⟨[(3, .ref 0 fs.length 0 fs.length), (33, .p (.slice b2 (edRow es))), (34, .p (.int .i64 es.length)), (35, .p (.int .i64 i))], [(0, .row false 1 (intRow (fs.map (rg a b))))], 1, [0]⟩) : ∀ (m k : Nat), k + m = fs.length →
    W tb a43_l2 ⟨[(3, .ref 0 fs.length 0 fs.length), (7, .p (.int .i64 a)), (8, .p (.int .i64 b)), (33, .p (.slice b2 (edRow es))), (34, .p (.int .i64 es.length)), (35, .p (.int .i64 i)), (49, .ref 0 fs.length 0 fs.length), (50, .p (.int .i64 fs.length)), (51, .p (.int .i64 k))], [(0, .row false 1 (intRow (repl a b fs k)))], 1, [0]⟩ (LK tb (.ghost (.free [6]) (.ghost .lower a43_l2)) K) := by
  intro m
  induction m with
  | zero =>
    intro k hk
    have h1 : ¬ (k : Int) < fs.length := by omega
    have e : repl a b fs k = fs.map (rg a b) := by
      have : k = fs.length := by omega
      subst this
      simp [repl]
    rw [e]
    refine i_code (by unfold a43_l2; exact rfl) ?_
    repeat' (first | (simp (disch := omega) only [go_sem, seval, reduceCtorEq, h1]) | with_reducible exact Ev.mk | ((first | apply x_split | apply x_splitg) <;> intro hβ hb <;> (simp (disch := omega) only [go_sem, seval, reduceCtorEq, h1, hβ]) <;> clear hβ))
    exact hx
  | succ m ih =>
    intro k hk
    have h1 : (k : Int) < fs.length := by omega
    have h2 : k < fs.length := by omega
    have h4 : (0 : Int) ≤ k := by omega
    have g1 := repl_len a b fs k (by omega)
    have g2 := repl_getR a b fs k h2
    have g3 := repl_setR a b fs k h2
    have ihk := ih (k + 1) (by omega)
    refine i_code (by unfold a43_l2; exact rfl) ?_
    by_cases ca : fs[k] = a ∨ fs[k] = b
    · have er : rg a b fs[k] = min a b := by unfold rg; rw [if_pos ca]
      rw [er] at g3
      by_cases cm : b < a
      · have cm' : (b : Int) < (a : Int) := by omega
        have em : min a b = b := by omega
        rw [em] at g3
        by_cases c1 : fs[k] = a
        · have c1' : (((fs[k] : Nat) : Int) == (a : Int)) = true := beq_iff_eq.2 (by omega)
          repeat' (first | (simp (disch := omega) only [go_sem, seval, reduceCtorEq, h1, h4, g1, g2, c1', cm', g3, intRow_length]) | with_reducible exact Ev.mk | ((first | apply x_split | apply x_splitg) <;> intro hβ hb <;> (simp (disch := omega) only [go_sem, seval, reduceCtorEq, h1, h4, g1, g2, c1', cm', g3, intRow_length, hβ]) <;> clear hβ))
          refine i_lk (W_round ?_)
          (try simp (disch := omega) only [go_sem, seval, reduceCtorEq])
          exact ihk
        · have c1' : (((fs[k] : Nat) : Int) == (a : Int)) = false := beq_eq_false_iff_ne.2 (by omega)
          have c2 : fs[k] = b := by omega
          have c2' : (((fs[k] : Nat) : Int) == (b : Int)) = true := beq_iff_eq.2 (by omega)
          repeat' (first | (simp (disch := omega) only [go_sem, seval, reduceCtorEq, h1, h4, g1, g2, c1', c2', cm', g3, intRow_length]) | with_reducible exact Ev.mk | ((first | apply x_split | apply x_splitg) <;> intro hβ hb <;> (simp (disch := omega) only [go_sem, seval, reduceCtorEq, h1, h4, g1, g2, c1', c2', cm', g3, intRow_length, hβ]) <;> clear hβ))
          refine i_lk (W_round ?_)
          (try simp (disch := omega) only [go_sem, seval, reduceCtorEq])
          exact ihk
      · have cm' : ¬ (b : Int) < (a : Int) := by omega
        have em : min a b = a := by omega
        rw [em] at g3
        by_cases c1 : fs[k] = a
        · have c1' : (((fs[k] : Nat) : Int) == (a : Int)) = true := beq_iff_eq.2 (by omega)
          repeat' (first | (simp (disch := omega) only [go_sem, seval, reduceCtorEq, h1, h4, g1, g2, c1', cm', g3, intRow_length]) | with_reducible exact Ev.mk | ((first | apply x_split | apply x_splitg) <;> intro hβ hb <;> (simp (disch := omega) only [go_sem, seval, reduceCtorEq, h1, h4, g1, g2, c1', cm', g3, intRow_length, hβ]) <;> clear hβ))
          refine i_lk (W_round ?_)
          (try simp (disch := omega) only [go_sem, seval, reduceCtorEq])
          exact ihk
        · have c1' : (((fs[k] : Nat) : Int) == (a : Int)) = false := beq_eq_false_iff_ne.2 (by omega)
          have c2 : fs[k] = b := by omega
          have c2' : (((fs[k] : Nat) : Int) == (b : Int)) = true := beq_iff_eq.2 (by omega)
          repeat' (first | (simp (disch := omega) only [go_sem, seval, reduceCtorEq, h1, h4, g1, g2, c1', c2', cm', g3, intRow_length]) | with_reducible exact Ev.mk | ((first | apply x_split | apply x_splitg) <;> intro hβ hb <;> (simp (disch := omega) only [go_sem, seval, reduceCtorEq, h1, h4, g1, g2, c1', c2', cm', g3, intRow_length, hβ]) <;> clear hβ))
          refine i_lk (W_round ?_)
          (try simp (disch := omega) only [go_sem, seval, reduceCtorEq])
          exact ihk
    · have er : rg a b fs[k] = fs[k] := by unfold rg; rw [if_neg ca]
      rw [repl_same a b fs k h2 er] at ihk
      have c1' : (((fs[k] : Nat) : Int) == (a : Int)) = false := by
        have : ¬ fs[k] = a := fun e => ca (.inl e)
        exact beq_eq_false_iff_ne.2 (by omega)
      have c2' : (((fs[k] : Nat) : Int) == (b : Int)) = false := by
        have : ¬ fs[k] = b := fun e => ca (.inr e)
        exact beq_eq_false_iff_ne.2 (by omega)
      repeat' (first | (simp (disch := omega) only [go_sem, seval, reduceCtorEq, h1, h4, g1, g2, c1', c2', intRow_length]) | with_reducible exact Ev.mk | ((first | apply x_split | apply x_splitg) <;> intro hβ hb <;> (simp (disch := omega) only [go_sem, seval, reduceCtorEq, h1, h4, g1, g2, c1', c2', intRow_length, hβ]) <;> clear hβ))
      refine i_lk (W_round ?_)
      (try simp (disch := omega) only [go_sem, seval, reduceCtorEq])
      exact ihk

theorem l_cmp3 (n : Nat) (hl : n ≤ 10) (es : List Ed) (hes : ∀ e ∈ es, e.1 < e.2.1 ∧ e.2.1 < n) (he : es.length ≤ 1000) (b2 : Bool) (K : Ex → St → Prop)
    (hx : K (.exit 2) ⟨[(3, .ref 0 n 0 n)], [(0, .row false 1 (intRow (cmpN n es)))], 1, [0]⟩) : ∀ (m i : Nat), i + m = es.length →
    W tb a43_l3 ⟨[(3, .ref 0 n 0 n), (33, .p (.slice b2 (edRow es))), (34, .p (.int .i64 es.length)), (35, .p (.int .i64 i))], [(0, .row false 1 (intRow (cmpN n (es.take i))))], 1, [0]⟩ (LK tb (.ghost .lower a43_l3) K) := by
  intro m
  induction m with
  | zero =>
    intro i hi
    have h1 : ¬ (i : Int) < es.length := by omega
    have e : i = es.length := by omega
    rw [e] at h1 ⊢
    rw [List.take_length]
    refine i_code (by unfold a43_l3; exact rfl) ?_
    repeat' (first | (simp (disch := omega) only [go_sem, seval, reduceCtorEq, h1]) | with_reducible exact Ev.mk | ((first | apply x_split | apply x_splitg) <;> intro hβ hb <;> (simp (disch := omega) only [go_sem, seval, reduceCtorEq, h1, hβ]) <;> clear hβ))
    exact hx
  | succ m ih =>
    intro i hi
    have h1 : (i : Int) < es.length := by omega
    have h2 : i < es.length := by omega
    have h4 : (0 : Int) ≤ i := by omega
    have h3 := edRow_get es i h2
    obtain ⟨e1, e2⟩ := hes _ (List.getElem_mem h2)
    have ihk := ih (i + 1) (by omega)
    rw [cmpN_succ n es i h2] at ihk
    have hlen := cmpN_len n (es.take i)
    generalize cmpN n (es.take i) = fs at ihk hlen ⊢
    unfold cmpS at ihk
    have p1 : es[i].1 < fs.length := by omega
    have p2 : es[i].2.1 < fs.length := by omega
    have g1 : (intRow fs)[es[i].1]? = some [.int .i64 (fs.getD es[i].1 0 : Nat)] := by
      rw [intRow_get fs _ p1, List.getD_eq_getElem?_getD, List.getElem?_eq_getElem p1]; rfl
    have g2 : (intRow fs)[es[i].2.1]? = some [.int .i64 (fs.getD es[i].2.1 0 : Nat)] := by
      rw [intRow_get fs _ p2, List.getD_eq_getElem?_getD, List.getElem?_eq_getElem p2]; rfl
    generalize fs.getD es[i].1 0 = a at ihk g1
    generalize fs.getD es[i].2.1 0 = b at ihk g2
    have g3 : ((es[i].1 : Nat) : Int) < n := by omega
    have g4 : ((es[i].2.1 : Nat) : Int) < n := by omega
    have g5 : (0 : Int) ≤ (es[i].1 : Nat) := by omega
    have g6 : (0 : Int) ≤ (es[i].2.1 : Nat) := by omega
    simp only [edC] at h3
    have key := fun K hx => l_cmp2 fs (by omega) a b es b2 i K hx fs.length 0 (by omega)
    have e0 : repl a b fs 0 = fs := by simp [repl]
    rw [e0, hlen] at key
    refine i_code (by unfold a43_l3; exact rfl) ?_
    repeat' (first | (simp (disch := omega) only [go_sem, seval, reduceCtorEq, h1, h4, h3, g1, g2, g3, g4, g5, g6, hlen, edRow_length, intRow_length]) | with_reducible exact Ev.mk | ((first | apply x_split | apply x_splitg) <;> intro hβ hb <;> (simp (disch := omega) only [go_sem, seval, reduceCtorEq, h1, h4, h3, g1, g2, g3, g4, g5, g6, hlen, edRow_length, intRow_length, hβ]) <;> clear hβ))
    refine W_round ?_
    (try simp (disch := omega) only [go_sem, seval, reduceCtorEq])
    refine key _ ?_
    repeat' (first | (simp (disch := omega) only [go_sem, seval, reduceCtorEq]) | with_reducible exact Ev.mk | ((first | apply x_split | apply x_splitg) <;> intro hβ hb <;> (simp (disch := omega) only [go_sem, seval, reduceCtorEq, hβ]) <;> clear hβ))
    refine i_lk (W_round ?_)
    (try simp (disch := omega) only [go_sem, seval, reduceCtorEq])
    exact ihk


/-! ## K14 -/

/-! ### maps -/

theorem mgetG_mset {α : Type} (kv : List (Int × α)) (k : Int) (v : α) (c : Int) : mget (mset kv k v) c = if k = c then some v else mget kv c := by
  induction kv with
  | nil => simp [mset, mget]
  | cons x r ih =>
    obtain ⟨j, u⟩ := x
    by_cases h : j = k
    · subst h
      simp only [mset, if_true, mget]
      split <;> rfl
    · simp only [mset, if_neg h, mget, ih]
      by_cases hj : j = c
      · subst hj
        rw [if_pos rfl, if_neg (fun e => h e.symm), if_pos rfl]
      · rw [if_neg hj, if_neg hj]
theorem mget_none {α : Type} {kv : List (Int × α)} {k : Int} (h : mget kv k = none) : k ∉ kv.map (·.1) := by
  induction kv with
  | nil => simp
  | cons x r ih =>
    obtain ⟨j, u⟩ := x
    unfold mget at h
    split at h
    · cases h
    · rename_i hj
      simp only [List.map_cons, List.mem_cons, not_or]
      exact ⟨fun e => hj e.symm, ih h⟩
theorem mset_new {α : Type} {kv : List (Int × α)} {k : Int} (v : α) (h : mget kv k = none) : mset kv k v = kv ++ [(k, v)] := by
  induction kv with
  | nil => rfl
  | cons x r ih =>
    obtain ⟨j, u⟩ := x
    unfold mget at h
    split at h
    · cases h
    · rename_i hj
      simp only [mset, if_neg hj, List.cons_append, ih h]
theorem mset_keys {α : Type} {kv : List (Int × α)} {k : Int} (v : α) {u : α} (h : mget kv k = some u) : (mset kv k v).map (·.1) = kv.map (·.1) := by
  induction kv with
  | nil => cases h
  | cons x r ih =>
    obtain ⟨j, w⟩ := x
    unfold mget at h
    by_cases hj : j = k
    · subst hj; simp [mset]
    · rw [if_neg hj] at h
      simp only [mset, if_neg hj, List.map_cons, ih h]
theorem mget_mem {α : Type} {kv : List (Int × α)} (hn : (kv.map (·.1)).Nodup) {k : Int} {v : α} (h : (k, v) ∈ kv) : mget kv k = some v := by
  induction kv with
  | nil => simp at h
  | cons x r ih =>
    obtain ⟨j, w⟩ := x
    rw [List.map_cons, List.nodup_cons] at hn
    unfold mget
    rcases List.mem_cons.1 h with e | h
    · cases e; rw [if_pos rfl]
    · have : ¬ j = k := by
        intro e; subst e
        exact hn.1 (List.mem_map.2 ⟨(j, v), h, rfl⟩)
      rw [if_neg this]; exact ih hn.2 h

/-! ### the classes -/

def cls (fs : List Nat) (i x : Nat) : List Nat := (List.range i).filter fun j => decide (fs.getD j 0 = x)
theorem cls_succ (fs : List Nat) (i x : Nat) : cls fs (i + 1) x = cls fs i x ++ (if fs.getD i 0 = x then [i] else []) := by
  unfold cls
  rw [List.range_succ, List.filter_append]
  congr 1
  simp only [List.filter_cons, List.filter_nil, decide_eq_true_eq]
theorem cls_len (fs : List Nat) (i x : Nat) : (cls fs i x).length ≤ i := Nat.le_trans (List.length_filter_le _ _) (by simp)

structure CI (fs : List Nat) (i : Nat) (H : Heap) (kv : List (Int × DV)) (nx : Nat) : Prop where
  mp : aget H 1 = some (.map false kv)
  row : aget H 0 = some (.row false 1 (intRow fs))
  no : ∀ x : Nat, cls fs i x = [] → mget kv (x : Int) = none
  ex : ∀ x : Nat, cls fs i x ≠ [] → ∃ id, mget kv (x : Int) = some (.ref id (cls fs i x).length 0 (cls fs i x).length) ∧ aget H id = some (.row false 1 (intRow (cls fs i x))) ∧ 2 ≤ id ∧ id < nx
  inj : ∀ (x y id c d : Nat), mget kv (x : Int) = some (.ref id c 0 c) → mget kv (y : Int) = some (.ref id d 0 d) → x = y
  keys : (kv.map (·.1)).Nodup
  nat : ∀ k : Int, k ∈ kv.map (·.1) → ∃ x : Nat, k = (x : Int) ∧ cls fs i x ≠ []
  len : kv.length ≤ i
  two : 2 ≤ nx

theorem aget_cons_ne {α : Type} {k i : Nat} {v : α} {r : List (Nat × α)} (h : k ≠ i) : aget ((k, v) :: r) i = aget r i := by
  rw [aget_cons, if_neg h]
theorem hs_eq {H : Heap} {p : Nat} {b c : Blk} (h : aget H p = some b) : aget (hset H p c) p = some c := by rw [Go.Dv.aget_hset, if_pos rfl, h]; rfl
theorem hs_ne {H : Heap} {p q : Nat} {c : Blk} (h : p ≠ q) : aget (hset H p c) q = aget H q := by rw [Go.Dv.aget_hset, if_neg h]

theorem CI.new {fs : List Nat} {i : Nat} {H : Heap} {kv : List (Int × DV)} {nx : Nat} (h : CI fs i H kv nx) {x : Nat} (hx : fs.getD i 0 = x) (h0 : cls fs i x = []) :
    CI fs (i + 1) (hset ((nx, .row false 1 (intRow [i])) :: H) 1 (.map false (mset kv (x : Int) (.ref nx 1 0 1)))) (mset kv (x : Int) (.ref nx 1 0 1)) (nx + 1) := by
  have h2 := h.two
  have hm := h.no x h0
  have e1 : aget ((nx, Blk.row false 1 (intRow [i])) :: H) 1 = some (.map false kv) := by rw [aget_cons_ne (by omega)]; exact h.mp
  have old : ∀ y : Nat, y ≠ x → cls fs (i + 1) y = cls fs i y := fun y hy => by
    rw [cls_succ, hx, if_neg (fun e => hy e.symm), List.append_nil]
  have new : cls fs (i + 1) x = [i] := by rw [cls_succ, hx, if_pos rfl, h0]; rfl
  have gne : ∀ y : Nat, y ≠ x → mget (mset kv (x : Int) (DV.ref nx 1 0 1)) (y : Int) = mget kv (y : Int) := fun y hy => by
    rw [mgetG_mset, if_neg (by omega)]
  have geq : mget (mset kv (x : Int) (DV.ref nx 1 0 1)) (x : Int) = some (.ref nx 1 0 1) := by rw [mgetG_mset, if_pos rfl]
  have fresh : ∀ y c : Nat, mget kv (y : Int) = some (.ref nx c 0 c) → False := fun y c hy => by
    by_cases hc : cls fs i y = []
    · rw [h.no y hc] at hy; cases hy
    · obtain ⟨id, a1, _, _, a4⟩ := h.ex y hc
      rw [a1] at hy
      cases hy
      omega
  refine ⟨hs_eq e1, ?_, fun y hy => ?_, fun y hy => ?_, fun y z id c d hy hz => ?_, ?_, fun k hk => ?_, ?_, by omega⟩
  · rw [hs_ne (by omega), aget_cons_ne (by omega)]; exact h.row
  · by_cases e : y = x
    · subst e; rw [new] at hy; cases hy
    · rw [gne y e, old y e] at *; exact h.no y hy
  · by_cases e : y = x
    · subst e
      rw [new]
      refine ⟨nx, geq, ?_, h2, by omega⟩
      rw [hs_ne (by omega), aget_cons, if_pos rfl]
    · rw [gne y e]
      rw [old y e] at hy ⊢
      obtain ⟨id, a1, a2, a3, a4⟩ := h.ex y hy
      exact ⟨id, a1, by rw [hs_ne (by omega), aget_cons_ne (by omega)]; exact a2, a3, by omega⟩
  · by_cases ey : y = x
    · by_cases ez : z = x
      · omega
      · subst ey
        rw [geq] at hy; cases hy
        rw [gne z ez] at hz
        exact (fresh z d hz).elim
    · rw [gne y ey] at hy
      by_cases ez : z = x
      · subst ez
        rw [geq] at hz; cases hz
        exact (fresh y c hy).elim
      · rw [gne z ez] at hz
        exact h.inj y z id c d hy hz
  · rw [mset_new _ hm, List.map_append, List.nodup_append]
    refine ⟨h.keys, by simp, fun a ha b hb => ?_⟩
    simp only [List.map_cons, List.map_nil, List.mem_singleton] at hb
    subst hb
    intro e; subst e
    exact mget_none hm ha
  · rw [mset_new _ hm, List.map_append, List.mem_append] at hk
    rcases hk with hk | hk
    · obtain ⟨y, rfl, hy⟩ := h.nat k hk
      refine ⟨y, rfl, ?_⟩
      rw [cls_succ]
      intro e
      exact hy (List.append_eq_nil_iff.1 e).1
    · simp only [List.map_cons, List.map_nil, List.mem_singleton] at hk
      exact ⟨x, hk, by rw [new]; simp⟩
  · rw [mset_new _ hm, List.length_append]
    have := h.len
    simp only [List.length_cons, List.length_nil]; omega

theorem CI.more {fs : List Nat} {i : Nat} {H : Heap} {kv : List (Int × DV)} {nx : Nat} (h : CI fs i H kv nx) {x id : Nat} (hx : fs.getD i 0 = x) (h0 : cls fs i x ≠ [])
    (g1 : mget kv (x : Int) = some (.ref id (cls fs i x).length 0 (cls fs i x).length)) (g2 : aget H id = some (.row false 1 (intRow (cls fs i x)))) (g3 : 2 ≤ id) (g4 : id < nx) :
    CI fs (i + 1) (hset (hset H id (.row false 1 (intRow (cls fs i x ++ [i])))) 1 (.map false (mset kv (x : Int) (.ref id ((cls fs i x).length + 1) 0 ((cls fs i x).length + 1))))) (mset kv (x : Int) (.ref id ((cls fs i x).length + 1) 0 ((cls fs i x).length + 1))) nx := by
  have h2 := h.two
  have e1 : aget (hset H id (.row false 1 (intRow (cls fs i x ++ [i])))) 1 = some (.map false kv) := by rw [hs_ne (by omega)]; exact h.mp
  have old : ∀ y : Nat, y ≠ x → cls fs (i + 1) y = cls fs i y := fun y hy => by
    rw [cls_succ, hx, if_neg (fun e => hy e.symm), List.append_nil]
  have new : cls fs (i + 1) x = cls fs i x ++ [i] := by rw [cls_succ, hx, if_pos rfl]
  have gne : ∀ (d : DV) (y : Nat), y ≠ x → mget (mset kv (x : Int) d) (y : Int) = mget kv (y : Int) := fun d y hy => by
    rw [mgetG_mset, if_neg (by omega)]
  have geq : ∀ d : DV, mget (mset kv (x : Int) d) (x : Int) = some d := fun d => by rw [mgetG_mset, if_pos rfl]
  refine ⟨hs_eq e1, ?_, fun y hy => ?_, fun y hy => ?_, fun y z id' c d hy hz => ?_, ?_, fun k hk => ?_, ?_, h2⟩
  · rw [hs_ne (by omega), hs_ne (by omega)]; exact h.row
  · by_cases e : y = x
    · subst e; rw [new] at hy; simp at hy
    · rw [gne _ y e]
      rw [old y e] at hy
      exact h.no y hy
  · by_cases e : y = x
    · subst e
      rw [new, geq, List.length_append]
      refine ⟨id, rfl, ?_, g3, g4⟩
      rw [hs_ne (by omega)]
      exact hs_eq g2
    · rw [gne _ y e]
      rw [old y e] at hy ⊢
      obtain ⟨id', a1, a2, a3, a4⟩ := h.ex y hy
      have hne : id ≠ id' := by
        intro e'; subst e'
        exact e (h.inj y x id _ _ a1 g1)
      exact ⟨id', a1, by rw [hs_ne (by omega), hs_ne hne]; exact a2, a3, a4⟩
  · by_cases ey : y = x
    · by_cases ez : z = x
      · omega
      · subst ey
        rw [geq] at hy; cases hy
        rw [gne _ z ez] at hz
        exact h.inj y z id _ _ g1 hz
    · rw [gne _ y ey] at hy
      by_cases ez : z = x
      · subst ez
        rw [geq] at hz; cases hz
        exact h.inj y z id _ _ hy g1
      · rw [gne _ z ez] at hz
        exact h.inj y z id' c d hy hz
  · rw [mset_keys _ g1]; exact h.keys
  · rw [mset_keys _ g1] at hk
    obtain ⟨y, rfl, hy⟩ := h.nat k hk
    refine ⟨y, rfl, ?_⟩
    rw [cls_succ]
    intro e
    exact hy (List.append_eq_nil_iff.1 e).1
  · have := congrArg List.length (mset_keys (DV.ref id ((cls fs i x).length + 1) 0 ((cls fs i x).length + 1)) g1)
    rw [List.length_map, List.length_map] at this
    have := h.len
    omega

theorem l_cmp1 (fs : List Nat) (hl : fs.length ≤ 10) (K : Ex → St → Prop)
    (hx : ∀ H kv nx, CI fs fs.length H kv nx → K (.exit 6) ⟨[(11, .ptr 1 0)], H, nx, [0]⟩) : ∀ (m i : Nat), i + m = fs.length → ∀ H kv nx, CI fs i H kv nx →
    W tb a43_l1 ⟨[(11, .ptr 1 0), (73, .ref 0 fs.length 0 fs.length), (74, .p (.int .i64 fs.length)), (75, .p (.int .i64 i))], H, nx, [0]⟩ (LK tb a43_l1 K) := by
  intro m
  induction m with
  | zero =>
    intro i hi H kv nx hc
    have h1 : ¬ (i : Int) < fs.length := by omega
    have e : i = fs.length := by omega
    subst e
    refine i_code (by unfold a43_l1; exact rfl) ?_
    repeat' (first | (simp (disch := omega) only [go_sem, seval, reduceCtorEq, h1]) | with_reducible exact Ev.mk | ((first | apply x_split | apply x_splitg) <;> intro hβ hb <;> (simp (disch := omega) only [go_sem, seval, reduceCtorEq, h1, hβ]) <;> clear hβ))
    exact hx H kv nx hc
  | succ m ih =>
    intro i hi H kv nx hc
    have h1 : (i : Int) < fs.length := by omega
    have h2 : i < fs.length := by omega
    have h4 : (0 : Int) ≤ i := by omega
    have h5 := hc.row
    have h6 := intRow_get fs i h2
    have h7 := hc.mp
    have hg : fs.getD i 0 = fs[i] := by rw [List.getD_eq_getElem?_getD, List.getElem?_eq_getElem h2]; rfl
    have h8 := hc.two
    refine i_code (by unfold a43_l1; exact rfl) ?_
    by_cases c0 : cls fs i fs[i] = []
    · have hm := hc.no _ c0
      have ihk := ih (i + 1) (by omega) _ _ _ (hc.new hg c0)
      have b1 : ((nx : Nat) == 1) = false := by simp; omega
      have e1 : intRow [i] = [[.int .i64 (i : Int)]] := rfl
      have g1 : aget ((nx, Blk.row false 1 (intRow [i])) :: H) 1 = some (.map false kv) := by rw [aget_cons_ne (by omega)]; exact hc.mp
      have e2 : ∀ (r b : Blk), hset ((nx, r) :: H) 1 b = (nx, r) :: hset H 1 b := fun r b => by
        show (if (nx == 1) = true then _ else _) = _
        rw [b1]; rfl
      rw [e1] at g1 ihk
      rw [e2] at ihk
      repeat' (first | (simp (disch := omega) only [go_sem, seval, reduceCtorEq, h1, h4, h5, h6, h7, hm, b1, g1, sz1, maxBytes, intRow_length]) | with_reducible exact Ev.mk | ((first | apply x_split | apply x_splitg) <;> intro hβ hb <;> (simp (disch := omega) only [go_sem, seval, reduceCtorEq, h1, h4, h5, h6, h7, hm, b1, g1, sz1, maxBytes, intRow_length, hβ]) <;> clear hβ))
      refine i_lk (W_round ?_)
      (try simp (disch := omega) only [go_sem, seval, reduceCtorEq])
      exact ihk
    · obtain ⟨id, g1, g2, g3, g4⟩ := hc.ex _ c0
      have ihk := ih (i + 1) (by omega) _ _ _ (hc.more hg c0 g1 g2 g3 g4)
      have hlen := cls_len fs i fs[i]
      have sn := intRow_snoc (cls fs i fs[i]) i
      have m1 : ((cls fs i fs[i]).length + 1) * 8 ≤ 140737488355328 := by omega
      have m2 : (cls fs i fs[i]).length + 1 ≤ 140737488355328 := by omega
      have g5 : aget (hset H id (.row false 1 (intRow (cls fs i fs[i] ++ [i])))) 1 = some (.map false kv) := by rw [hs_ne (by omega)]; exact hc.mp
      repeat' (first | (simp (disch := omega) only [go_sem, seval, reduceCtorEq, h1, h4, h5, h6, h7, g1, g2, g5, sn, m1, m2, sz1, maxBytes, intRow_length]) | with_reducible exact Ev.mk | ((first | apply x_split | apply x_splitg) <;> intro hβ hb <;> (simp (disch := omega) only [go_sem, seval, reduceCtorEq, h1, h4, h5, h6, h7, g1, g2, g5, sn, m1, m2, sz1, maxBytes, intRow_length, hβ]) <;> clear hβ))
      refine i_lk (W_round ?_)
      (try simp (disch := omega) only [go_sem, seval, reduceCtorEq])
      exact ihk


/-! ## K15 -/

theorem aget_frz_ne : ∀ {ids : List Nat} {H : Heap} {k : Nat}, k ∉ ids → aget (frz H ids) k = aget H k
  | [], H, k, _ => rfl
  | i :: r, H, k, h => by
    simp only [List.mem_cons, not_or] at h
    show aget (frz (frz1 H i) r) k = _
    rw [aget_frz_ne h.2, aget_frz1, if_neg (fun e => h.1 e.symm)]

theorem CI.ent {fs : List Nat} {n : Nat} {H : Heap} {kv : List (Int × DV)} {nx : Nat} (h : CI fs n H kv nx) : ∀ e ∈ kv, ∃ x : Nat, e.1 = (x : Int) ∧ ∃ id, e.2 = .ref id (cls fs n x).length 0 (cls fs n x).length ∧ aget H id = some (.row false 1 (intRow (cls fs n x))) ∧ 2 ≤ id ∧ id < nx := by
  rintro ⟨k, d⟩ he
  obtain ⟨x, hx, hc⟩ := h.nat k (List.mem_map.2 ⟨_, he, rfl⟩)
  obtain ⟨id, a1, a2, a3, a4⟩ := h.ex x hc
  have := mget_mem h.keys he
  rw [hx, a1] at this
  simp only [Option.some.injEq] at this
  exact ⟨x, hx, id, this.symm, a2, a3, a4⟩

def kvP (fs : List Nat) (n : Nat) (kv : List (Int × DV)) : List (Int × DV) := kv.map fun e => (e.1, DV.p (.slice false (intRow (cls fs n e.1.toNat))))
theorem kvP_get (fs : List Nat) (n : Nat) (x : Nat) : ∀ (kv : List (Int × DV)), (mget kv (x : Int)).isSome = true → mget (kvP fs n kv) (x : Int) = some (.p (.slice false (intRow (cls fs n x))))
  | [], h => by simp [mget] at h
  | (k, d) :: r, h => by
    show mget ((k, _) :: kvP fs n r) _ = _
    unfold mget at h ⊢
    by_cases e : k = (x : Int)
    · rw [if_pos e, e]; rfl
    · rw [if_neg e] at h ⊢
      exact kvP_get fs n x r h

theorem pur_ents {fs : List Nat} {n : Nat} {H : Heap} : ∀ {kv : List (Int × DV)}, (∀ e ∈ kv, ∃ x : Nat, e.1 = (x : Int) ∧ ∃ id, e.2 = .ref id (cls fs n x).length 0 (cls fs n x).length ∧ aget H id = some (.row false 1 (intRow (cls fs n x)))) → purEnts H kv = some (kvP fs n kv)
  | [], _ => rfl
  | (k, d) :: r, h => by
    obtain ⟨x, hx, id, hd, hg⟩ := h (k, d) (by simp)
    have ih := pur_ents (H := H) fun e he => h e (List.mem_cons_of_mem _ he)
    simp only at hx hd
    have hp : pur H dep d = some (.slice false (intRow (cls fs n x))) := by
      rw [hd]
      have e1 : (intRow (cls fs n x)).take (cls fs n x).length = intRow (cls fs n x) := intRow_take _ _ rfl
      simp [pur, dep, hg, intRow_length, e1]
    simp only [purEnts, hp, ih]
    rw [hx]; rfl

theorem tch_ents {H : Heap} {nx : Nat} : ∀ {kv : List (Int × DV)}, (∀ e ∈ kv, ∃ id c : Nat, e.2 = .ref id c 0 c ∧ 2 ≤ id ∧ id < nx) → ∀ j ∈ entsTch H kv, 2 ≤ j ∧ j < nx
  | [], _, j, hj => by simp [entsTch] at hj
  | (k, d) :: r, h, j, hj => by
    obtain ⟨id, c, hd, h1, h2⟩ := h (k, d) (by simp)
    simp only at hd
    simp only [entsTch, hd, List.mem_append] at hj
    rcases hj with hj | hj
    · have : j = id := by simpa [tch, dep] using hj
      omega
    · exact tch_ents (fun e he => h e (List.mem_cons_of_mem _ he)) j hj

/-- The heads of the classes. -/
def hd (fs : List Nat) (n : Nat) : List Nat := (List.range n).filter fun x => !(cls fs n x).isEmpty
theorem hd_len (fs : List Nat) (n : Nat) : (hd fs n).length ≤ n := Nat.le_trans (List.length_filter_le _ _) (by simp)
theorem hd_mem {fs : List Nat} {n x : Nat} : x ∈ hd fs n ↔ x < n ∧ cls fs n x ≠ [] := by simp [hd]

theorem CI.heads {fs : List Nat} {n : Nat} {H : Heap} {kv : List (Int × DV)} {nx : Nat} (h : CI fs n H kv nx) (hv : ∀ x, cls fs n x ≠ [] → x < n) {l : List Int} (hp : l.Perm (kv.map (·.1))) : sortInt l = nats (hd fs n) := by
  have hlt : (hd fs n).Pairwise (· < ·) := List.Pairwise.filter _ (List.pairwise_lt_range (n := n))
  refine sortInt_eq (hp.trans ?_) ?_
  · refine (List.perm_ext_iff_of_nodup h.keys ?_).2 fun k => ?_
    · unfold nats List.Nodup
      rw [List.pairwise_map]
      exact hlt.imp fun {a b} h => by omega
    · constructor
      · intro hk
        obtain ⟨x, rfl, hc⟩ := h.nat k hk
        exact List.mem_map.2 ⟨x, hd_mem.2 ⟨hv x hc, hc⟩, rfl⟩
      · intro hk
        obtain ⟨x, hx, rfl⟩ := List.mem_map.1 hk
        obtain ⟨id, a1, _⟩ := h.ex x (hd_mem.1 hx).2
        by_cases hm : (x : Int) ∈ kv.map (·.1)
        · exact hm
        · exfalso
          have : ∀ (kv : List (Int × DV)), (x : Int) ∉ kv.map (·.1) → mget kv (x : Int) = none := by
            intro kv
            induction kv with
            | nil => intro _; rfl
            | cons e r ih =>
              obtain ⟨j, u⟩ := e
              intro hn
              simp only [List.map_cons, List.mem_cons, not_or] at hn
              unfold mget
              rw [if_neg (fun e => hn.1 e.symm)]
              exact ih hn.2
          rw [this kv hm] at a1
          cases a1
  · unfold nats
    rw [List.pairwise_map]
    exact hlt.imp fun {a b} h => by omega

theorem cont_sort (H : Heap) (nx : Nat) (mk : List Nat) (l : List Int) (hl : l.length ≤ 1000) :
    dcode (cfs tb.A tb.X 1) 1 (.regionK false [(DOper.o 99 (DOp.move (DO.t 14)), []), (DOper.o 100 (DOp.call true 74 [DO.t 99]), [99, 100])]) (keysSt ⟨[(11, .ptr 1 0), (14, .ref nx 0 0 0)], (nx, .row false 1 []) :: H, nx + 1, mk⟩ 14 nx l) =
      some (.normal, ⟨[(11, .ptr 1 0), (14, .ref nx l.length 0 l.length)], (nx, .row false 1 (intCells (sortInt l))) :: H, nx + 1, mk⟩) := by
  have hA : tb.A 74 = none := rfl
  have hX : tb.X = outside := rfl
  have hm : l.length ≤ maxBytes := by simp only [maxBytes]; omega
  have b : (cfs tb.A tb.X 1).byref 74 [.ref nx l.length 0 l.length] ((nx, .row false 1 (intCells l)) :: H) (nx + 1) = some (.tuple [], (nx, .row false 1 (intCells (sortInt l))) :: H, nx + 1) := by
    simp only [cfs, hA, hX]
    simp [outside, CallF.or, clones, sortIntX, aget, intsOf_cells, hset, hm]
  have ks : keysSt ⟨[(11, .ptr 1 0), (14, .ref nx 0 0 0)], (nx, .row false 1 []) :: H, nx + 1, mk⟩ 14 nx l = ⟨[(11, .ptr 1 0), (14, .ref nx l.length 0 l.length)], (nx, .row false 1 (intCells l)) :: H, nx + 1, mk⟩ := by
    simp [keysSt, eset, hset, intCells]
  rw [ks]
  simp [dcode, dopsK, dopr, DOper.o, gd, dop, callD, St.ev, evs, aget, eset, eput, putSt, adels, adel, b]


/-! ## K16 -/

def clRow (l : List (List Nat)) : List (List PV) := l.map fun c => [.slice false (intRow c)]
theorem clRow_length (l : List (List Nat)) : (clRow l).length = l.length := by simp [clRow]
theorem clRow_get (l : List (List Nat)) (i : Nat) (h : i < l.length) : (clRow l)[i]? = some [.slice false (intRow l[i])] := by simp [clRow, h]
theorem clRow_snoc (l : List (List Nat)) (c : List Nat) : clRow l ++ [[.slice false (intRow c)]] = clRow (l ++ [c]) := by simp [clRow]
theorem clRow_take (l : List (List Nat)) : (clRow l).take l.length = clRow l := List.take_of_length_le (by simp [clRow])

theorem l_cmp0 (fs : List Nat) (n : Nat) (hn : n ≤ 10) (H : Heap) (nx : Nat) (h2 : 2 ≤ nx) (kv : List (Int × DV)) (g1 : aget H 1 = some (.map false kv)) (g2 : aget H nx = some (.row false 1 (intCells (nats (hd fs n)))))
    (g3 : ∀ x ∈ hd fs n, mget kv (x : Int) = some (.p (.slice false (intRow (cls fs n x))))) (K : Ex → St → Prop)
    (hx : K (.exit 10) ⟨[(16, .ref (nx + 1) (hd fs n).length 0 (hd fs n).length)], (nx + 1, .row false 1 (clRow ((hd fs n).map (cls fs n)))) :: H, nx + 2, [0]⟩) : ∀ (m k : Nat), k + m = (hd fs n).length →
    W tb a43_l0 ⟨[(11, .ptr 1 0), (16, .ref (nx + 1) k 0 k), (101, .ref nx (hd fs n).length 0 (hd fs n).length), (102, .p (.int .i64 (hd fs n).length)), (103, .p (.int .i64 k))], (nx + 1, .row false 1 (clRow (((hd fs n).take k).map (cls fs n)))) :: H, nx + 2, [0]⟩ (LK tb a43_l0 K) := by
  have b1 : (nx + 1 == nx) = false := by simp
  have b2 : (nx + 1 == 1) = false := by simp; omega
  intro m
  induction m with
  | zero =>
    intro k hk
    have h1 : ¬ (k : Int) < (hd fs n).length := by omega
    have e : k = (hd fs n).length := by omega
    rw [e] at h1 ⊢
    rw [List.take_length]
    refine i_code (by unfold a43_l0; exact rfl) ?_
    repeat' (first | (simp (disch := omega) only [go_sem, seval, reduceCtorEq, h1]) | with_reducible exact Ev.mk | ((first | apply x_split | apply x_splitg) <;> intro hβ hb <;> (simp (disch := omega) only [go_sem, seval, reduceCtorEq, h1, hβ]) <;> clear hβ))
    exact hx
  | succ m ih =>
    intro k hk
    have h1 : (k : Int) < (hd fs n).length := by omega
    have h5 : k < (hd fs n).length := by omega
    have h4 : (0 : Int) ≤ k := by omega
    have hlen := hd_len fs n
    have h6 : (intCells (nats (hd fs n)))[k]? = some [.int .i64 ((hd fs n)[k] : Int)] := by
      simp [intCells, nats, h5]
    have h7 := g3 _ (List.getElem_mem h5)
    have hl2 : (intCells (nats (hd fs n))).length = (hd fs n).length := by simp [intCells, nats]
    have ihk := ih (k + 1) (by omega)
    have etk : ((hd fs n).take (k + 1)).map (cls fs n) = ((hd fs n).take k).map (cls fs n) ++ [cls fs n (hd fs n)[k]] := by
      rw [List.take_add_one, List.getElem?_eq_getElem h5]
      simp only [Option.toList, List.map_append, List.map_cons, List.map_nil]
    rw [etk] at ihk
    have sn := clRow_snoc (((hd fs n).take k).map (cls fs n)) (cls fs n (hd fs n)[k])
    have hl3 : (clRow (((hd fs n).take k).map (cls fs n))).length = k := by
      rw [clRow_length, List.length_map, List.length_take]; omega
    generalize ((hd fs n).take k).map (cls fs n) = B at ihk sn hl3 ⊢
    have m1 : (k + 1) * 24 ≤ 140737488355328 := by omega
    have m2 : k + 1 ≤ 140737488355328 := by omega
    refine i_code (by unfold a43_l0; exact rfl) ?_
    repeat' (first | (simp (disch := omega) only [go_sem, seval, reduceCtorEq, h1, h4, b1, b2, g1, g2, h6, h7, hl2, hl3, sn, sz1, m1, m2, maxBytes]) | with_reducible exact Ev.mk | ((first | apply x_split | apply x_splitg) <;> intro hβ hb <;> (simp (disch := omega) only [go_sem, seval, reduceCtorEq, h1, h4, b1, b2, g1, g2, h6, h7, hl2, hl3, sn, sz1, m1, m2, maxBytes, hβ]) <;> clear hβ))
    refine i_lk (W_round ?_)
    (try simp (disch := omega) only [go_sem, seval, reduceCtorEq])
    exact ihk

def compR (l : List Ft) : List (List Nat) := (hd (cmpF l) l.length).map (cls (cmpF l) l.length)

theorem cmpS_lt {n : Nat} {fs : List Nat} {e : Ed} (h : ∀ x ∈ fs, x < n) (h1 : e.1 < fs.length) (h2 : e.2.1 < fs.length) : ∀ x ∈ cmpS fs e, x < n := by
  intro x hx
  obtain ⟨y, hy, rfl⟩ := List.mem_map.1 hx
  have a1 : fs.getD e.1 0 < n := by
    rw [List.getD_eq_getElem?_getD, List.getElem?_eq_getElem h1]; exact h _ (List.getElem_mem h1)
  have := h y hy
  unfold rg
  split
  · omega
  · exact this
theorem cmpN_lt (n : Nat) : ∀ (es : List Ed) (fs : List Nat), (∀ e ∈ es, e.1 < e.2.1 ∧ e.2.1 < n) → fs.length = n → (∀ x ∈ fs, x < n) → ∀ x ∈ es.foldl cmpS fs, x < n
  | [], fs, _, _, h => h
  | e :: r, fs, he, hl, h => by
    have := he e (by simp)
    exact cmpN_lt n r (cmpS fs e) (fun e' h' => he e' (List.mem_cons_of_mem _ h')) (by simp [cmpS, hl]) (cmpS_lt h (by omega) (by omega))
theorem cmpF_len (l : List Ft) : (cmpF l).length = l.length := cmpN_len _ _
theorem cmpF_lt (l : List Ft) : ∀ x, cls (cmpF l) l.length x ≠ [] → x < l.length := by
  intro x hx
  obtain ⟨j, hj⟩ := List.exists_mem_of_ne_nil _ hx
  unfold cls at hj
  obtain ⟨h1, h2⟩ := List.mem_filter.1 hj
  have hj' : j < (cmpF l).length := by rw [cmpF_len]; exact List.mem_range.1 h1
  simp only [decide_eq_true_eq] at h2
  rw [List.getD_eq_getElem?_getD, List.getElem?_eq_getElem hj'] at h2
  have := cmpN_lt l.length (edgesR l) (List.range l.length) (edgesR_lt l) (by simp) (fun x hx => List.mem_range.1 hx) _ (List.getElem_mem hj')
  have h3 : (cmpF l)[j] = x := h2
  rw [← h3]; exact this

theorem CI_zero (fs : List Nat) : CI fs 0 [(1, .map false []), (0, .row false 1 (intRow fs))] [] 2 :=
  ⟨rfl, rfl, fun _ _ => rfl, fun x h => absurd rfl h, fun x y id c d h => (by cases h), List.nodup_nil, fun k h => (by simp at h), Nat.le_refl _, Nat.le_refl _⟩

theorem ps_components (l : List Ft) (b : Bool) (hl : l.length ≤ 10) (hF : ∀ f ∈ l, Fo f) : PS tb 43 [.slice b (ftRow l)] (.slice false (clRow (compR l))) := by
  have q := ps_edges l b hl hF
  have he := edges_len l hl
  have m1 : l.length * 8 ≤ 140737488355328 := by omega
  have m2 : (l.length : Int) ≤ 140737488355328 := by omega
  have m3 : (0 : Int) ≤ l.length := by omega
  refine PS_of (af := a43) rfl rfl ?_
  unfold a43
  dsimp only [List.map, ofPV, initEnv]
  repeat' (first | exact q | (simp (disch := omega) only [go_sem, seval, reduceCtorEq, ftRow_length, m1, m2, m3, maxBytes, List.length_replicate]) | with_reducible exact Ev.mk | apply x_call | ((first | apply x_split | apply x_splitg) <;> intro hβ hb <;> (simp (disch := omega) only [go_sem, seval, reduceCtorEq, ftRow_length, m1, m2, m3, maxBytes, List.length_replicate, hβ]) <;> clear hβ))
  refine W_round ?_
  (try simp (disch := omega) only [go_sem, seval, reduceCtorEq])
  have key4 := fun K hx => l_cmp4 l b hl K hx l.length 0 (by omega)
  rw [fstA_zero] at key4
  refine key4 _ ?_
  repeat' (first | exact q | (simp (disch := omega) only [go_sem, seval, reduceCtorEq, edRow_length]) | with_reducible exact Ev.mk | apply x_call | ((first | apply x_split | apply x_splitg) <;> intro hβ hb <;> (simp (disch := omega) only [go_sem, seval, reduceCtorEq, edRow_length, hβ]) <;> clear hβ))
  refine W_round ?_
  (try simp (disch := omega) only [go_sem, seval, reduceCtorEq])
  have key3 := fun K hx => l_cmp3 l.length hl (edgesR l) (edgesR_lt l) (by omega) false K hx (edgesR l).length 0 (by omega)
  have e0 : cmpN l.length ((edgesR l).take 0) = List.range l.length := rfl
  rw [e0] at key3
  refine key3 _ ?_
  have hfl := cmpF_len l
  have e1 : cmpN l.length (edgesR l) = cmpF l := rfl
  rw [e1]
  repeat' (first | (simp (disch := omega) only [go_sem, seval, reduceCtorEq, intRow_length, hfl]) | with_reducible exact Ev.mk | ((first | apply x_split | apply x_splitg) <;> intro hβ hb <;> (simp (disch := omega) only [go_sem, seval, reduceCtorEq, intRow_length, hfl, hβ]) <;> clear hβ))
  refine W_round ?_
  (try simp (disch := omega) only [go_sem, seval, reduceCtorEq])
  have key1 := fun K hx => l_cmp1 (cmpF l) (by omega) K hx (cmpF l).length 0 (by omega) _ _ _ (CI_zero (cmpF l))
  rw [hfl] at key1
  refine key1 _ ?_
  intro H kv nx hc
  have h2 := hc.two
  have hv := cmpF_lt l
  have hkl := hc.len
  have hhl := hd_len (cmpF l) l.length
  repeat' (first | (simp (disch := omega) only [go_sem, seval, reduceCtorEq]) | with_reducible exact Ev.mk | ((first | apply x_split | apply x_splitg) <;> intro hβ hb <;> (simp (disch := omega) only [go_sem, seval, reduceCtorEq, hβ]) <;> clear hβ))
  refine W_keysT nx (kv.map (·.1)) ⟨[(11, .ptr 1 0), (14, .ref nx (hd (cmpF l) l.length).length 0 (hd (cmpF l) l.length).length)], (nx, .row false 1 (intCells (nats (hd (cmpF l) l.length)))) :: H, nx + 1, [0]⟩ 1 ?_ ?_ ?_
  · have b1 : ¬ nx = 1 := by omega
    have m4 : kv.length * 8 ≤ maxBytes := by simp only [maxBytes]; omega
    simp [keysOK, aget, b1, hc.mp, m4]
  · intro l0 hp
    have hs := hc.heads hv hp
    have hll : l0.length = (hd (cmpF l) l.length).length := by
      have := congrArg List.length hs
      simpa [sortInt, nats] using this
    have := cont_sort H nx [0] l0 (by omega)
    rw [hs, hll] at this
    exact this
  · obtain ⟨H2, hpm, g1, g2⟩ : ∃ H2, purMap 11 ⟨[(11, .ptr 1 0), (14, .ref nx (hd (cmpF l) l.length).length 0 (hd (cmpF l) l.length).length)], (nx, .row false 1 (intCells (nats (hd (cmpF l) l.length)))) :: H, nx + 1, [0]⟩ = some ⟨[(11, .ptr 1 0), (14, .ref nx (hd (cmpF l) l.length).length 0 (hd (cmpF l) l.length).length)], H2, nx + 1, [0]⟩ ∧ aget H2 1 = some (.map false (kvP (cmpF l) l.length kv)) ∧ aget H2 nx = some (.row false 1 (intCells (nats (hd (cmpF l) l.length)))) := by
      have a1 : aget ((nx, Blk.row false 1 (intCells (nats (hd (cmpF l) l.length)))) :: H) 1 = some (.map false kv) := by rw [aget_cons_ne (by omega)]; exact hc.mp
      have a2 : purEnts ((nx, Blk.row false 1 (intCells (nats (hd (cmpF l) l.length)))) :: H) kv = some (kvP (cmpF l) l.length kv) := pur_ents fun e he => by
        obtain ⟨x, h1, id, h3, h4, h5, h6⟩ := hc.ent e he
        exact ⟨x, h1, id, h3, by rw [aget_cons_ne (by omega)]; exact h4⟩
      have a3 := tch_ents (H := (nx, Blk.row false 1 (intCells (nats (hd (cmpF l) l.length)))) :: H) (nx := nx) (kv := kv) fun e he => by
        obtain ⟨x, h1, id, h3, h4, h5, h6⟩ := hc.ent e he
        exact ⟨id, _, h3, h5, h6⟩
      generalize hI : entsTch ((nx, Blk.row false 1 (intCells (nats (hd (cmpF l) l.length)))) :: H) kv = ids at a3
      have a4 : aget (frz ((nx, Blk.row false 1 (intCells (nats (hd (cmpF l) l.length)))) :: H) ids) 1 = some (.map false kv) := by
        rw [aget_frz_ne (fun h => by have := a3 _ h; omega)]; exact a1
      have a5 : aget (frz ((nx, Blk.row false 1 (intCells (nats (hd (cmpF l) l.length)))) :: H) ids) nx = some (.row false 1 (intCells (nats (hd (cmpF l) l.length)))) := by
        rw [aget_frz_ne (fun h => by have := a3 _ h; omega), aget_cons, if_pos rfl]
      refine ⟨_, ?_, hs_eq (c := .map false (kvP (cmpF l) l.length kv)) a4, ?_⟩
      · have e11 : aget ([(11, DV.ptr 1 0), (14, .ref nx (hd (cmpF l) l.length).length 0 (hd (cmpF l) l.length).length)] : Env) 11 = some (.ptr 1 0) := rfl
        unfold purMap
        simp only [e11, a1, a2, hI, a4]
      · rw [hs_ne (by omega)]; exact a5
    have g3 : ∀ x ∈ hd (cmpF l) l.length, mget (kvP (cmpF l) l.length kv) (x : Int) = some (.p (.slice false (intRow (cls (cmpF l) l.length x)))) := fun x hx => by
      obtain ⟨id, a1, _⟩ := hc.ex x (hd_mem.1 hx).2
      exact kvP_get _ _ x kv (by rw [a1]; rfl)
    have b1 : (nx + 1 == nx) = false := by simp
    have hl2 : (intCells (nats (hd (cmpF l) l.length))).length = (hd (cmpF l) l.length).length := by simp [intCells, nats]
    repeat' (first | (simp (disch := omega) only [go_sem, seval, reduceCtorEq, hpm, b1, g2, hl2]) | with_reducible exact Ev.mk | ((first | apply x_split | apply x_splitg) <;> intro hβ hb <;> (simp (disch := omega) only [go_sem, seval, reduceCtorEq, hpm, b1, g2, hl2, hβ]) <;> clear hβ))
    refine W_round ?_
    (try simp (disch := omega) only [go_sem, seval, reduceCtorEq])
    have key0 := fun K hx => l_cmp0 (cmpF l) l.length hl H2 nx h2 (kvP (cmpF l) l.length kv) g1 g2 g3 K hx (hd (cmpF l) l.length).length 0 (by omega)
    have e3 : clRow (((hd (cmpF l) l.length).take 0).map (cls (cmpF l) l.length)) = [] := rfl
    rw [e3] at key0
    refine key0 _ ?_
    have e4 : (clRow (compR l)).take (hd (cmpF l) l.length).length = clRow (compR l) := by
      have : (compR l).length = (hd (cmpF l) l.length).length := by simp [compR]
      rw [← this]; exact clRow_take _
    have e5 : (hd (cmpF l) l.length).map (cls (cmpF l) l.length) = compR l := rfl
    have e6 : (clRow (compR l)).length = (hd (cmpF l) l.length).length := by simp [clRow, compR]
    rw [e5]
    repeat' (first | (simp (disch := omega) only [go_sem, seval, reduceCtorEq, e6]) | with_reducible exact Ev.mk | ((first | apply x_split | apply x_splitg) <;> intro hβ hb <;> (simp (disch := omega) only [go_sem, seval, reduceCtorEq, e6, hβ]) <;> clear hβ))
    all_goals simp [pur, dep, e4, e6]


/-! ## K17 -/

/-! ### conflicts and classes -/

theorem meetB_symm (a b : List ByteArray) : meetB a b = meetB b a := by
  rw [Bool.eq_iff_iff]
  unfold meetB
  rw [List.any_eq_true, List.any_eq_true]
  constructor
  · rintro ⟨x, hx, h⟩; exact ⟨x, hasB_iff.1 h, hasB_iff.2 hx⟩
  · rintro ⟨x, hx, h⟩; exact ⟨x, hasB_iff.1 h, hasB_iff.2 hx⟩
theorem conflB_symm (f g : Ft) : conflB f g = conflB g f := by
  unfold conflB
  rw [meetB_symm f.w g.w, meetB_symm f.w g.r, meetB_symm f.r g.w]
  cases validF f <;> cases validF g <;> cases f.all <;> cases g.all <;> cases meetB g.w f.w <;> cases meetB g.r f.w <;> cases meetB g.w f.r <;> rfl

theorem edge_of {l : List Ft} {i j : Nat} (h : i < j) (hj : j < l.length) (hc : conflB (l.getD i F0) (l.getD j F0) = true) : ∃ k, ((i, j, k) : Ed) ∈ edgesR l := by
  have h0 := kk_empty (l.getD i F0) (l.getD j F0)
  rw [hc] at h0
  have h1 : filt (l.getD i F0) (l.getD j F0) 3 ≠ [] := by
    intro e; rw [e] at h0; cases h0
  obtain ⟨k, hk⟩ := List.exists_mem_of_ne_nil _ h1
  refine ⟨k, ?_⟩
  rw [← edges_same]
  unfold edI
  refine List.mem_flatMap.2 ⟨i, List.mem_range.2 (by omega), ?_⟩
  unfold edJ
  refine List.mem_flatMap.2 ⟨j - (i + 1), List.mem_range.2 (by omega), ?_⟩
  have e : i + 1 + (j - (i + 1)) = j := by omega
  rw [e]
  exact List.mem_map.2 ⟨k, hk, rfl⟩

theorem cmpS_len (fs : List Nat) (e : Ed) : (cmpS fs e).length = fs.length := by simp [cmpS]
theorem cmpS_get (fs : List Nat) (e : Ed) (k : Nat) (h : k < fs.length) : (cmpS fs e).getD k 0 = rg (fs.getD e.1 0) (fs.getD e.2.1 0) (fs.getD k 0) := by
  rw [List.getD_eq_getElem?_getD, List.getD_eq_getElem?_getD (l := fs) (i := k), cmpS, List.getElem?_map, List.getElem?_eq_getElem h]; rfl
theorem cmp_keep : ∀ (es : List Ed) (fs : List Nat) (i j : Nat), i < fs.length → j < fs.length → fs.getD i 0 = fs.getD j 0 → (es.foldl cmpS fs).getD i 0 = (es.foldl cmpS fs).getD j 0
  | [], fs, i, j, _, _, h => h
  | e :: r, fs, i, j, hi, hj, h => by
    rw [List.foldl_cons]
    exact cmp_keep r (cmpS fs e) i j (by rw [cmpS_len]; exact hi) (by rw [cmpS_len]; exact hj) (by rw [cmpS_get fs e i hi, cmpS_get fs e j hj, h])
theorem cmp_edge : ∀ (es : List Ed) (fs : List Nat) (e : Ed), e ∈ es → e.1 < fs.length → e.2.1 < fs.length → (es.foldl cmpS fs).getD e.1 0 = (es.foldl cmpS fs).getD e.2.1 0
  | [], fs, e, h, _, _ => by cases h
  | a :: r, fs, e, h, h1, h2 => by
    rw [List.foldl_cons]
    rcases List.mem_cons.1 h with rfl | h
    · refine cmp_keep r (cmpS fs e) e.1 e.2.1 (by rw [cmpS_len]; exact h1) (by rw [cmpS_len]; exact h2) ?_
      rw [cmpS_get fs e _ h1, cmpS_get fs e _ h2]
      unfold rg
      rw [if_pos (.inl rfl), if_pos (.inr rfl)]
    · exact cmp_edge r (cmpS fs a) e h (by rw [cmpS_len]; exact h1) (by rw [cmpS_len]; exact h2)

theorem cmpF_confl {l : List Ft} {i j : Nat} (hi : i < l.length) (hj : j < l.length) (hc : conflB (l.getD i F0) (l.getD j F0) = true) : (cmpF l).getD i 0 = (cmpF l).getD j 0 := by
  have key : ∀ i j, i < j → j < l.length → conflB (l.getD i F0) (l.getD j F0) = true → (cmpF l).getD i 0 = (cmpF l).getD j 0 := fun i j h hj hc => by
    obtain ⟨k, hk⟩ := edge_of h hj hc
    exact cmp_edge (edgesR l) (List.range l.length) _ hk (by rw [List.length_range]; show i < _; omega) (by rw [List.length_range]; exact hj)
  rcases Nat.lt_trichotomy i j with h | h | h
  · exact key i j h hj hc
  · rw [h]
  · exact (key j i h hi (by rw [conflB_symm]; exact hc)).symm

theorem cls_mem {fs : List Nat} {n x j : Nat} : j ∈ cls fs n x ↔ j < n ∧ fs.getD j 0 = x := by
  unfold cls
  rw [List.mem_filter, List.mem_range, decide_eq_true_eq]

def cat (fs : List Nat) (n c : Nat) : List Nat := (List.range c).flatMap (cls fs n)
theorem cat_succ (fs : List Nat) (n c : Nat) : cat fs n (c + 1) = cat fs n c ++ cls fs n c := by simp [cat, List.range_succ]
theorem cat_mem {fs : List Nat} {n c x : Nat} : x ∈ cat fs n c ↔ x < n ∧ fs.getD x 0 < c := by
  unfold cat
  rw [List.mem_flatMap]
  constructor
  · rintro ⟨k, hk, hx⟩
    have h1 := cls_mem.1 hx
    have h2 := List.mem_range.1 hk
    exact ⟨h1.1, by rw [h1.2]; exact h2⟩
  · rintro ⟨h1, h2⟩
    exact ⟨_, List.mem_range.2 h2, cls_mem.2 ⟨h1, rfl⟩⟩
theorem cat_nodup (fs : List Nat) (n : Nat) : ∀ c, (cat fs n c).Nodup
  | 0 => List.nodup_nil
  | c + 1 => by
    rw [cat_succ, List.nodup_append]
    refine ⟨cat_nodup fs n c, ?_, fun a ha b hb => ?_⟩
    · unfold cls
      exact List.Pairwise.filter _ List.nodup_range
    · have h1 := (cat_mem.1 ha).2
      have h2 := (cls_mem.1 hb).2
      rintro rfl
      omega
theorem flat_hd (fs : List Nat) (n : Nat) : ∀ (r : List Nat), ((r.filter fun x => !(cls fs n x).isEmpty).map (cls fs n)).flatten = r.flatMap (cls fs n)
  | [] => rfl
  | x :: r => by
    rw [List.flatMap_cons, ← flat_hd fs n r, List.filter_cons]
    cases h : (cls fs n x).isEmpty with
    | true =>
      have : cls fs n x = [] := List.isEmpty_iff.1 h
      simp [this]
    | false => simp
theorem compR_flat (l : List Ft) : (compR l).flatten = cat (cmpF l) l.length l.length := flat_hd _ _ _
theorem cmpF_val (l : List Ft) (j : Nat) (hj : j < l.length) : (cmpF l).getD j 0 < l.length :=
  cmpF_lt l _ (List.ne_nil_of_mem (cls_mem.2 ⟨hj, rfl⟩))
theorem compR_perm (l : List Ft) : permB (nats (compR l).flatten) l.length = true := by
  rw [compR_flat]
  have hp : (cat (cmpF l) l.length l.length).Perm (List.range l.length) := (List.perm_ext_iff_of_nodup (cat_nodup _ _ _) List.nodup_range).2 fun x => by
    rw [cat_mem, List.mem_range]
    exact ⟨fun h => h.1, fun h => ⟨h, cmpF_val l x h⟩⟩
  refine permB_of ⟨by rw [nats, List.length_map, hp.length_eq, List.length_range], fun x hx => ?_, ?_⟩
  · obtain ⟨y, hy, rfl⟩ := List.mem_map.1 hx
    have := (cat_mem.1 hy).1
    omega
  · unfold nats List.Nodup
    rw [List.pairwise_map]
    exact (cat_nodup _ _ _).imp fun {a b} h => by omega

theorem compR_len (l : List Ft) : (compR l).length ≤ l.length := by
  unfold compR; rw [List.length_map]; exact hd_len _ _
theorem compR_each (l : List Ft) : ∀ c ∈ compR l, c.length ≤ l.length ∧ ∀ x ∈ c, x < l.length := by
  intro c hc
  obtain ⟨h, _, rfl⟩ := List.mem_map.1 hc
  exact ⟨cls_len _ _ _, fun x hx => (cls_mem.1 hx).1⟩
theorem compR_no (l : List Ft) (a b : Nat) (ha : a < (compR l).length) (hb : b < a) : ∀ x ∈ (compR l)[a], ∀ y ∈ (compR l)[b]'(by omega), conflB (l.getD x F0) (l.getD y F0) = false := by
  intro x hx y hy
  have hla : a < (hd (cmpF l) l.length).length := by unfold compR at ha; rwa [List.length_map] at ha
  have ea : (compR l)[a] = cls (cmpF l) l.length (hd (cmpF l) l.length)[a] := by simp [compR]
  have eb : (compR l)[b]'(by omega) = cls (cmpF l) l.length ((hd (cmpF l) l.length)[b]'(by omega)) := by simp [compR]
  rw [ea] at hx
  rw [eb] at hy
  have h1 := cls_mem.1 hx
  have h2 := cls_mem.1 hy
  have hlt : (hd (cmpF l) l.length).Pairwise (· < ·) := List.Pairwise.filter _ (List.pairwise_lt_range (n := l.length))
  have h3 := List.pairwise_iff_getElem.1 hlt b a (by omega) hla hb
  cases hc : conflB (l.getD x F0) (l.getD y F0) with
  | false => rfl
  | true =>
    exfalso
    have := cmpF_confl h1.1 h2.1 hc
    rw [h1.2, h2.2] at this
    omega

/-! ### the walk -/

theorem allSz_intRow (l : List Nat) : allSz 1 (intRow l) = true := by simp [allSz, intRow]
theorem intRow_app (a b : List Nat) : intRow a ++ intRow b = intRow (a ++ b) := by simp [intRow]

theorem l_apt4 (l : List Ft) (C : List (List Nat)) (hC : C.length ≤ 10) (hc : ∀ c ∈ C, c.length ≤ 10) (K : Ex → St → Prop)
    (hx : K (.exit 0) ⟨[(0, .p (.slice false (ftRow l))), (3, .p (.slice false (clRow C))), (4, .ref 0 C.flatten.length 0 C.flatten.length)], [(0, .row false 1 (intRow C.flatten))], 1, [0]⟩) : ∀ (m i : Nat), i + m = C.length →
    W tb a14_l4 ⟨[(0, .p (.slice false (ftRow l))), (3, .p (.slice false (clRow C))), (4, .ref 0 (C.take i).flatten.length 0 (C.take i).flatten.length), (5, .p (.int .i64 i))], [(0, .row false 1 (intRow (C.take i).flatten))], 1, [0]⟩ (LK tb (.ghost .lower a14_l4) K) := by
  have bnd : ∀ (D : List (List Nat)), (∀ c ∈ D, c.length ≤ 10) → D.flatten.length ≤ 10 * D.length := by
    intro D
    induction D with
    | nil => intro _; simp
    | cons a r ih =>
      intro h
      have h1 := h a (by simp)
      have h2 := ih fun c hc => h c (List.mem_cons_of_mem _ hc)
      simp only [List.flatten_cons, List.length_append, List.length_cons]; omega
  intro m
  induction m with
  | zero =>
    intro i hi
    have h1 : ¬ (i : Int) < C.length := by omega
    have e : i = C.length := by omega
    rw [e] at h1 ⊢
    rw [List.take_length]
    refine i_code (by unfold a14_l4; exact rfl) ?_
    repeat' (first | (simp (maxSteps := 2000000) (disch := omega) only [go_sem, seval, reduceCtorEq, h1, clRow_length]) | with_reducible exact Ev.mk | ((first | apply x_split | apply x_splitg) <;> intro hβ hb <;> (simp (maxSteps := 2000000) (disch := omega) only [go_sem, seval, reduceCtorEq, h1, clRow_length, hβ]) <;> clear hβ))
    exact hx
  | succ m ih =>
    intro i hi
    have h1 : (i : Int) < C.length := by omega
    have h2 : i < C.length := by omega
    have h4 : (0 : Int) ≤ i := by omega
    have h3 := clRow_get C i h2
    have ihk := ih (i + 1) (by omega)
    have hcl := hc _ (List.getElem_mem h2)
    have hb := bnd (C.take i) (fun c h => hc c (List.mem_of_mem_take h))
    rw [List.length_take] at hb
    have etk : (C.take (i + 1)).flatten = (C.take i).flatten ++ C[i] := by
      rw [List.take_add_one, List.getElem?_eq_getElem h2]; simp only [Option.toList, List.flatten_append, List.flatten_cons, List.flatten_nil, List.append_nil]
    rw [etk, List.length_append] at ihk
    have sn := intRow_app (C.take i).flatten C[i]
    have sz := allSz_intRow C[i]
    generalize (C.take i).flatten = A at ihk hb sn ⊢
    have m1 : (A.length + C[i].length) * 8 ≤ 140737488355328 := by omega
    have m2 : A.length + C[i].length ≤ 140737488355328 := by omega
    refine i_code (by unfold a14_l4; exact rfl) ?_
    repeat' (first | (simp (maxSteps := 2000000) (disch := omega) only [go_sem, seval, reduceCtorEq, h1, h4, h3, sn, sz, m1, m2, maxBytes, clRow_length, intRow_length]) | with_reducible exact Ev.mk | ((first | apply x_split | apply x_splitg) <;> intro hβ hb <;> (simp (maxSteps := 2000000) (disch := omega) only [go_sem, seval, reduceCtorEq, h1, h4, h3, sn, sz, m1, m2, maxBytes, clRow_length, intRow_length, hβ]) <;> clear hβ))
    refine i_lk (W_round ?_)
    (try simp (maxSteps := 2000000) (disch := omega) only [go_sem, seval, reduceCtorEq])
    exact ihk

theorem l_apt0 (R : List (List PV)) (l : List Ft) (hn : l.length ≤ 10) (hF : ∀ f ∈ l, Fo f) (C : List (List Nat)) (a b i : Nat) (ha : a < C.length) (hb : b < C.length) (hi : i < C[a].length) (hxl : C[a][i] < l.length) (hl : C[b].length ≤ 10) (hy : ∀ y ∈ C[b], y < l.length)
    (hno : ∀ y ∈ C[b], conflB (l.getD C[a][i] F0) (l.getD y F0) = false) (K : Ex → St → Prop)
    (hx : K (.exit 8) ⟨[(0, .p (.slice false (ftRow l))), (3, .p (.slice false (clRow C))), (6, .p (.int .i64 a)), (7, .p (.int .i64 b)), (8, .p (.int .i64 i))], [(0, .row false 1 R)], 1, [0]⟩) : ∀ (m j : Nat), j + m = C[b].length →
    W tb a14_l0 ⟨[(0, .p (.slice false (ftRow l))), (3, .p (.slice false (clRow C))), (6, .p (.int .i64 a)), (7, .p (.int .i64 b)), (8, .p (.int .i64 i)), (9, .p (.int .i64 j))], [(0, .row false 1 R)], 1, [0]⟩ (LK tb (.ghost .lower a14_l0) K) := by
  have h3 := clRow_get C b hb
  have h5 := clRow_get C a ha
  have p1 : (a : Int) < C.length := by omega
  have p2 : (b : Int) < C.length := by omega
  have p3 : (0 : Int) ≤ a := by omega
  have p4 : (0 : Int) ≤ b := by omega
  have p5 : (i : Int) < C[a].length := by omega
  have p6 : (0 : Int) ≤ i := by omega
  have h6 := intRow_get C[a] i hi
  have h7 := ftRow_get l C[a][i] hxl
  have p7 : ((C[a][i] : Nat) : Int) < l.length := by omega
  have p8 : (0 : Int) ≤ (C[a][i] : Nat) := by omega
  intro m
  induction m with
  | zero =>
    intro j hj
    have h1 : ¬ (j : Int) < C[b].length := by omega
    refine i_code (by unfold a14_l0; exact rfl) ?_
    repeat' (first | (simp (maxSteps := 2000000) (disch := omega) only [go_sem, seval, reduceCtorEq, h1, h3, p2, p4, clRow_length, intRow_length]) | with_reducible exact Ev.mk | ((first | apply x_split | apply x_splitg) <;> intro hβ hb <;> (simp (maxSteps := 2000000) (disch := omega) only [go_sem, seval, reduceCtorEq, h1, h3, p2, p4, clRow_length, intRow_length, hβ]) <;> clear hβ))
    exact hx
  | succ m ih =>
    intro j hj
    have h1 : (j : Int) < C[b].length := by omega
    have h2 : j < C[b].length := by omega
    have h4 : (0 : Int) ≤ j := by omega
    have h8 := intRow_get C[b] j h2
    have hyl := hy _ (List.getElem_mem h2)
    have h9 := ftRow_get l C[b][j] hyl
    have p9 : ((C[b][j] : Nat) : Int) < l.length := by omega
    have p10 : (0 : Int) ≤ (C[b][j] : Nat) := by omega
    have q := ps_fconfl l[C[a][i]] l[C[b][j]] (hF _ (List.getElem_mem hxl)).1 (hF _ (List.getElem_mem hyl)).1
    have hq := hno _ (List.getElem_mem h2)
    rw [getF_get l _ hxl, getF_get l _ hyl] at hq
    rw [hq] at q
    have ihk := ih (j + 1) (by omega)
    simp only [ftC] at h7 h9 q
    refine i_code (by unfold a14_l0; exact rfl) ?_
    repeat' (first | exact q | (simp (maxSteps := 2000000) (disch := omega) only [go_sem, seval, reduceCtorEq, h1, h3, h4, h5, h6, h7, h8, h9, p1, p2, p3, p4, p5, p6, p7, p8, p9, p10, clRow_length, intRow_length, ftRow_length]) | with_reducible exact Ev.mk | apply x_call | ((first | apply x_split | apply x_splitg) <;> intro hβ hb <;> (simp (maxSteps := 2000000) (disch := omega) only [go_sem, seval, reduceCtorEq, h1, h3, h4, h5, h6, h7, h8, h9, p1, p2, p3, p4, p5, p6, p7, p8, p9, p10, clRow_length, intRow_length, ftRow_length, hβ]) <;> clear hβ))
    refine i_lk (W_round ?_)
    (try simp (maxSteps := 2000000) (disch := omega) only [go_sem, seval, reduceCtorEq])
    exact ihk

theorem l_apt1 (R : List (List PV)) (l : List Ft) (hn : l.length ≤ 10) (hF : ∀ f ∈ l, Fo f) (C : List (List Nat)) (hc : ∀ c ∈ C, c.length ≤ 10 ∧ ∀ x ∈ c, x < l.length) (a b : Nat) (ha : a < C.length) (hb : b < C.length)
    (hno : ∀ x ∈ C[a], ∀ y ∈ C[b], conflB (l.getD x F0) (l.getD y F0) = false) (K : Ex → St → Prop)
    (hx : K (.exit 6) ⟨[(0, .p (.slice false (ftRow l))), (3, .p (.slice false (clRow C))), (6, .p (.int .i64 a)), (7, .p (.int .i64 b))], [(0, .row false 1 R)], 1, [0]⟩) : ∀ (m i : Nat), i + m = C[a].length →
    W tb a14_l1 ⟨[(0, .p (.slice false (ftRow l))), (3, .p (.slice false (clRow C))), (6, .p (.int .i64 a)), (7, .p (.int .i64 b)), (8, .p (.int .i64 i))], [(0, .row false 1 R)], 1, [0]⟩ (LK tb (.ghost .lower a14_l1) K) := by
  have h3 := clRow_get C a ha
  have p1 : (a : Int) < C.length := by omega
  have p3 : (0 : Int) ≤ a := by omega
  have hca := hc _ (List.getElem_mem ha)
  have hcb := hc _ (List.getElem_mem hb)
  intro m
  induction m with
  | zero =>
    intro i hi
    have h1 : ¬ (i : Int) < C[a].length := by omega
    refine i_code (by unfold a14_l1; exact rfl) ?_
    repeat' (first | (simp (maxSteps := 2000000) (disch := omega) only [go_sem, seval, reduceCtorEq, h1, h3, p1, p3, clRow_length, intRow_length]) | with_reducible exact Ev.mk | ((first | apply x_split | apply x_splitg) <;> intro hβ hb <;> (simp (maxSteps := 2000000) (disch := omega) only [go_sem, seval, reduceCtorEq, h1, h3, p1, p3, clRow_length, intRow_length, hβ]) <;> clear hβ))
    exact hx
  | succ m ih =>
    intro i hi
    have h1 : (i : Int) < C[a].length := by omega
    have h2 : i < C[a].length := by omega
    have ihk := ih (i + 1) (by omega)
    refine i_code (by unfold a14_l1; exact rfl) ?_
    repeat' (first | (simp (maxSteps := 2000000) (disch := omega) only [go_sem, seval, reduceCtorEq, h1, h3, p1, p3, clRow_length, intRow_length]) | with_reducible exact Ev.mk | ((first | apply x_split | apply x_splitg) <;> intro hβ hb <;> (simp (maxSteps := 2000000) (disch := omega) only [go_sem, seval, reduceCtorEq, h1, h3, p1, p3, clRow_length, intRow_length, hβ]) <;> clear hβ))
    refine W_round ?_
    (try simp (maxSteps := 2000000) (disch := omega) only [go_sem, seval, reduceCtorEq])
    refine l_apt0 R l hn hF C a b i ha hb h2 (hca.2 _ (List.getElem_mem h2)) hcb.1 hcb.2 (hno _ (List.getElem_mem h2)) _ ?_ C[b].length 0 (by omega)
    repeat' (first | (simp (maxSteps := 2000000) (disch := omega) only [go_sem, seval, reduceCtorEq]) | with_reducible exact Ev.mk | ((first | apply x_split | apply x_splitg) <;> intro hβ hb <;> (simp (maxSteps := 2000000) (disch := omega) only [go_sem, seval, reduceCtorEq, hβ]) <;> clear hβ))
    refine i_lk (W_round ?_)
    (try simp (maxSteps := 2000000) (disch := omega) only [go_sem, seval, reduceCtorEq])
    exact ihk

theorem l_apt2 (R : List (List PV)) (l : List Ft) (hn : l.length ≤ 10) (hF : ∀ f ∈ l, Fo f) (C : List (List Nat)) (hC : C.length ≤ 10) (hc : ∀ c ∈ C, c.length ≤ 10 ∧ ∀ x ∈ c, x < l.length) (a : Nat) (ha : a < C.length)
    (hno : ∀ b (hb : b < a), ∀ x ∈ C[a], ∀ y ∈ C[b]'(by omega), conflB (l.getD x F0) (l.getD y F0) = false) (K : Ex → St → Prop)
    (hx : K (.exit 4) ⟨[(0, .p (.slice false (ftRow l))), (3, .p (.slice false (clRow C))), (6, .p (.int .i64 a))], [(0, .row false 1 R)], 1, [0]⟩) : ∀ (m b : Nat), b + m = a →
    W tb a14_l2 ⟨[(0, .p (.slice false (ftRow l))), (3, .p (.slice false (clRow C))), (6, .p (.int .i64 a)), (7, .p (.int .i64 b))], [(0, .row false 1 R)], 1, [0]⟩ (LK tb (.ghost .lower a14_l2) K) := by
  intro m
  induction m with
  | zero =>
    intro b hb
    have h1 : ¬ (b : Int) < (a : Int) := by omega
    refine i_code (by unfold a14_l2; exact rfl) ?_
    repeat' (first | (simp (maxSteps := 2000000) (disch := omega) only [go_sem, seval, reduceCtorEq, h1]) | with_reducible exact Ev.mk | ((first | apply x_split | apply x_splitg) <;> intro hβ hb <;> (simp (maxSteps := 2000000) (disch := omega) only [go_sem, seval, reduceCtorEq, h1, hβ]) <;> clear hβ))
    exact hx
  | succ m ih =>
    intro b hb
    have h1 : (b : Int) < (a : Int) := by omega
    have h2 : b < a := by omega
    have ihk := ih (b + 1) (by omega)
    refine i_code (by unfold a14_l2; exact rfl) ?_
    repeat' (first | (simp (maxSteps := 2000000) (disch := omega) only [go_sem, seval, reduceCtorEq, h1]) | with_reducible exact Ev.mk | ((first | apply x_split | apply x_splitg) <;> intro hβ hb <;> (simp (maxSteps := 2000000) (disch := omega) only [go_sem, seval, reduceCtorEq, h1, hβ]) <;> clear hβ))
    refine W_round ?_
    (try simp (maxSteps := 2000000) (disch := omega) only [go_sem, seval, reduceCtorEq])
    refine l_apt1 R l hn hF C hc a b ha (by omega) (hno b h2) _ ?_ C[a].length 0 (by omega)
    repeat' (first | (simp (maxSteps := 2000000) (disch := omega) only [go_sem, seval, reduceCtorEq]) | with_reducible exact Ev.mk | ((first | apply x_split | apply x_splitg) <;> intro hβ hb <;> (simp (maxSteps := 2000000) (disch := omega) only [go_sem, seval, reduceCtorEq, hβ]) <;> clear hβ))
    refine i_lk (W_round ?_)
    (try simp (maxSteps := 2000000) (disch := omega) only [go_sem, seval, reduceCtorEq])
    exact ihk

theorem l_apt3 (R : List (List PV)) (l : List Ft) (hn : l.length ≤ 10) (hF : ∀ f ∈ l, Fo f) (C : List (List Nat)) (hC : C.length ≤ 10) (hc : ∀ c ∈ C, c.length ≤ 10 ∧ ∀ x ∈ c, x < l.length)
    (hno : ∀ a b (ha : a < C.length) (hb : b < a), ∀ x ∈ C[a], ∀ y ∈ C[b]'(by omega), conflB (l.getD x F0) (l.getD y F0) = false) (K : Ex → St → Prop)
    (hx : K (.exit 2) ⟨[], [(0, .row false 1 R)], 1, [0]⟩) : ∀ (m a : Nat), a + m = C.length →
    W tb a14_l3 ⟨[(0, .p (.slice false (ftRow l))), (3, .p (.slice false (clRow C))), (6, .p (.int .i64 a))], [(0, .row false 1 R)], 1, [0]⟩ (LK tb (.ghost .lower a14_l3) K) := by
  intro m
  induction m with
  | zero =>
    intro a ha
    have h1 : ¬ (a : Int) < C.length := by omega
    refine i_code (by unfold a14_l3; exact rfl) ?_
    repeat' (first | (simp (maxSteps := 2000000) (disch := omega) only [go_sem, seval, reduceCtorEq, h1, clRow_length]) | with_reducible exact Ev.mk | ((first | apply x_split | apply x_splitg) <;> intro hβ hb <;> (simp (maxSteps := 2000000) (disch := omega) only [go_sem, seval, reduceCtorEq, h1, clRow_length, hβ]) <;> clear hβ))
    exact hx
  | succ m ih =>
    intro a ha
    have h1 : (a : Int) < C.length := by omega
    have h2 : a < C.length := by omega
    have ihk := ih (a + 1) (by omega)
    refine i_code (by unfold a14_l3; exact rfl) ?_
    repeat' (first | (simp (maxSteps := 2000000) (disch := omega) only [go_sem, seval, reduceCtorEq, h1, clRow_length]) | with_reducible exact Ev.mk | ((first | apply x_split | apply x_splitg) <;> intro hβ hb <;> (simp (maxSteps := 2000000) (disch := omega) only [go_sem, seval, reduceCtorEq, h1, clRow_length, hβ]) <;> clear hβ))
    refine W_round ?_
    (try simp (maxSteps := 2000000) (disch := omega) only [go_sem, seval, reduceCtorEq])
    refine l_apt2 R l hn hF C hC hc a h2 (fun b hb => hno a b h2 hb) _ ?_ a 0 (by omega)
    repeat' (first | (simp (maxSteps := 2000000) (disch := omega) only [go_sem, seval, reduceCtorEq]) | with_reducible exact Ev.mk | ((first | apply x_split | apply x_splitg) <;> intro hβ hb <;> (simp (maxSteps := 2000000) (disch := omega) only [go_sem, seval, reduceCtorEq, hβ]) <;> clear hβ))
    refine i_lk (W_round ?_)
    (try simp (maxSteps := 2000000) (disch := omega) only [go_sem, seval, reduceCtorEq])
    exact ihk

theorem walkConflictApart {u : PV} (h : Fit (.slice [.bool, .slice [.str], .slice [.str]]) u) : PS tb 14 [u] (.bool true) := by
  obtain ⟨l, rfl, hl⟩ := fit_feet h
  have q := ps_few25 l false hl
  refine PS_of (af := a14) rfl rfl ?_
  unfold a14
  dsimp only [List.map, ofPV, initEnv]
  cases hf : fewL l with
  | false =>
    rw [hf] at q
    repeat' (first | exact q | exact ps_lives | (simp (maxSteps := 2000000) (disch := omega) only [go_sem, seval, reduceCtorEq]) | with_reducible exact Ev.mk | apply x_call | ((first | apply x_split | apply x_splitg) <;> intro hβ hb <;> (simp (maxSteps := 2000000) (disch := omega) only [go_sem, seval, reduceCtorEq, hβ]) <;> clear hβ))
  | true =>
    rw [hf] at q
    obtain ⟨h1, h2⟩ := fewL_ok hf
    have q1 := ps_components l false h1 h2
    have hcl := compR_len l
    have hce := compR_each l
    have hno := compR_no l
    have hp := compR_perm l
    have hpl := (permB_get hp).1
    rw [nats, List.length_map] at hpl
    have q2 := ps_permutes (nats (compR l).flatten) l.length false (by rw [nats, List.length_map, hpl]; omega) (by omega)
    rw [hp, ← intRow_nats] at q2
    repeat' (first | exact q | exact q1 | (simp (maxSteps := 2000000) (disch := omega) only [go_sem, seval, reduceCtorEq]) | with_reducible exact Ev.mk | apply x_call | ((first | apply x_split | apply x_splitg) <;> intro hβ hb <;> (simp (maxSteps := 2000000) (disch := omega) only [go_sem, seval, reduceCtorEq, hβ]) <;> clear hβ))
    refine W_round ?_
    (try simp (maxSteps := 2000000) (disch := omega) only [go_sem, seval, reduceCtorEq])
    have key4 := fun K hx => l_apt4 l (compR l) (by omega) (fun c hc => by have := (hce c hc).1; omega) K hx (compR l).length 0 (by omega)
    rw [List.take_zero] at key4
    refine key4 _ ?_
    have e2 := intRow_take (compR l).flatten (compR l).flatten.length rfl
    have e3 := intRow_take (compR l).flatten l.length hpl
    repeat' (first | exact q2 | (simp (maxSteps := 2000000) (disch := omega) only [go_sem, seval, reduceCtorEq, intRow_length, e2, e3, hpl, ftRow_length]) | with_reducible exact Ev.mk | apply x_call | ((first | apply x_split | apply x_splitg) <;> intro hβ hb <;> (simp (maxSteps := 2000000) (disch := omega) only [go_sem, seval, reduceCtorEq, intRow_length, e2, e3, hpl, ftRow_length, hβ]) <;> clear hβ))
    refine W_round ?_
    (try simp (maxSteps := 2000000) (disch := omega) only [go_sem, seval, reduceCtorEq])
    refine l_apt3 _ l h1 h2 (compR l) (by omega) (fun c hc => by have := hce c hc; exact ⟨by omega, this.2⟩) hno _ ?_ (compR l).length 0 (by omega)
    repeat' (first | exact ps_lives | (simp (maxSteps := 2000000) (disch := omega) only [go_sem, seval, reduceCtorEq]) | with_reducible exact Ev.mk | apply x_call | ((first | apply x_split | apply x_splitg) <;> intro hβ hb <;> (simp (maxSteps := 2000000) (disch := omega) only [go_sem, seval, reduceCtorEq, hβ]) <;> clear hβ))

end Go.Dv.Try
