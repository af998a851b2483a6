/-
  Specifications: L7, L8, L9, L10, L11, L12.
-/
import Derived.Test.YtkpadkncediliaaLA
set_option linter.unusedVariables false
set_option linter.unusedSimpArgs false
set_option maxRecDepth 100000
set_option maxHeartbeats 4000000
namespace Go.Dv.Try
open Go Go.Dv

/-! ## L7 -/

theorem l_sindex (l : List ByteArray) (k : ByteArray) (b : Bool) (hl : l.length ≤ 1000) (K : Ex → St → Prop) (hx : (∀ j, j < l.length → (fun j => !decide (l.getD j E = k)) j = true) → K (.exit 0) ⟨[], [], 0, [0]⟩)
    (hr : ∀ i, i < l.length → (fun j => !decide (l.getD j E = k)) i = false → ∀ s', aget s'.env 4 = some (.p (.int .i64 i)) → K .ret s') : ∀ (m i : Nat), i + m = l.length → (∀ j, j < i → (fun j => !decide (l.getD j E = k)) j = true) →
    W tb a62_l0 ⟨[(0, .p (.slice b (strRow l))), (1, .p (.str k)), (7, .p (.int .i64 l.length)), (8, .p (.int .i64 i))], [], 0, [0]⟩ (LK tb (.ghost .lower a62_l0) K) := by
  intro m
  induction m with
  | zero =>
    intro i hi ht
    have h1 : ¬ (i : Int) < l.length := by omega
    refine i_code (by unfold a62_l0; exact rfl) ?_
    repeat' (first | (simp (disch := omega) only [go_sem, seval, reduceCtorEq, h1, strRow_length]) | with_reducible exact Ev.mk | ((first | apply x_split | apply x_splitg) <;> intro hβ hb <;> (simp (disch := omega) only [go_sem, seval, reduceCtorEq, h1, strRow_length, hβ]) <;> clear hβ))
    exact hx (fun j hj => ht j (by omega))
  | succ m ih =>
    intro i hi ht
    have h1 : (i : Int) < l.length := by omega
    have h2 : i < l.length := by omega
    have h4 : (0 : Int) ≤ i := by omega
    have h3 := strRow_get l i h2
    have hq : decide (l.getD i E = k) = decide (k = l[i]) := by rw [getD_get l i h2]; exact decide_eq_decide.2 eq_comm
    refine i_code (by unfold a62_l0; exact rfl) ?_
    repeat' (first | (simp (disch := omega) only [go_sem, seval, reduceCtorEq, h1, h4, strRow_length, h3]) | with_reducible exact Ev.mk | ((first | apply x_split | apply x_splitg) <;> intro hβ hb <;> (simp (disch := omega) only [go_sem, seval, reduceCtorEq, h1, h4, strRow_length, h3, hβ]) <;> clear hβ))
    all_goals first
      | (exfalso; omega)
      | exact hr i h2 (by (try dsimp only); rw [hq]; simp [hb]) _ rfl
      | (refine i_lk (W_round ?_)
         (try simp (disch := omega) only [go_sem, seval, reduceCtorEq, strRow_length])
         exact ih (i + 1) (by omega) (lt_step ht (by (try dsimp only); rw [hq]; simp [hb])))


theorem ps_sindex (l : List ByteArray) (k : ByteArray) (b : Bool) (hl : l.length ≤ 1000) : ∃ n : Int, PS tb 62 [.slice b (strRow l), .str k] (.int .i64 n) ∧ decide (0 ≤ n) = hasB l k := by
  have w : W tb a62.body { env := initEnv 0 ([PV.slice b (strRow l), PV.str k].map ofPV), heap := [], next := 0, marks := [0] } (Done a62.results fun v s => ∃ n : { n : Int // decide (0 ≤ n) = hasB l k }, pur s.heap dep v = some (.int .i64 n.1)) := by
    unfold a62
    dsimp only [List.map, ofPV, initEnv]
    (try simp (disch := omega) only [go_sem, seval, reduceCtorEq, strRow_length])
    refine W_round ?_
    (try simp (disch := omega) only [go_sem, seval, reduceCtorEq])
    refine l_sindex l k b hl _ ?_ ?_ l.length 0 (by omega) (fun j h => by omega)
    · intro ha
      (try simp (disch := omega) only [go_sem, seval, reduceCtorEq])
      have : k ∉ l := by
        intro hm
        obtain ⟨i, hi, rfl⟩ := List.mem_iff_getElem.1 hm
        have := ha i hi
        dsimp only at this
        rw [getD_get l i hi] at this
        simp at this
      exact ⟨⟨-1, by rw [hasB_no.2 this]; rfl⟩, rfl⟩
    · intro i hi hq s' hs'
      (try simp (disch := omega) only [go_sem, seval, reduceCtorEq, hs'])
      have : k ∈ l := by
        dsimp only at hq
        rw [getD_get l i hi] at hq
        simp at hq
        rw [← hq]; exact List.getElem_mem hi
      exact ⟨⟨i, by rw [hasB_iff.2 this]; simp⟩, rfl⟩
  obtain ⟨⟨n, hn⟩, h⟩ := PS_ex (T := tb) (f := 62) (af := a62) rfl rfl w
  exact ⟨n, h, hn⟩

theorem ps_scontains (l : List ByteArray) (k : ByteArray) (b : Bool) (hl : l.length ≤ 1000) : PS tb 37 [.slice b (strRow l), .str k] (.bool (hasB l k)) := by
  obtain ⟨n, hn, hd⟩ := ps_sindex l k b hl
  refine PS_of (af := a37) rfl rfl ?_
  unfold a37
  dsimp only [List.map, ofPV, initEnv]
  repeat' (first | exact hn | (simp (disch := omega) only [go_sem, seval, reduceCtorEq, hd]) | with_reducible exact Ev.mk | apply x_call | ((first | apply x_split | apply x_splitg) <;> intro hβ hb <;> (simp (disch := omega) only [go_sem, seval, reduceCtorEq, hd, hβ]) <;> clear hβ))


/-! ### the table under work -/

structure RI (H : Heap) (nx ga qa va : Nat) (g : List Rq) (qs : List Qd) (ids : List Nat) (B1 B2 : Blk) : Prop where
  T : TabQ H nx ga qa g qs ids
  A : AscD qs
  v : aget H va = some (.var false [.ref ga g.length 0 g.length, .ref qa qs.length 0 qs.length])
  n1 : va ∉ ids
  n2 : va ≠ ga
  n3 : va ≠ qa
  n4 : va < nx
  lo : 2 < ga ∧ 2 < qa ∧ 2 < va ∧ ∀ i ∈ ids, 2 < i
  b1 : aget H 1 = some B1
  b2 : aget H 2 = some B2

def Bd (n : Nat) (qs : List Qd) : Prop := qs.length ≤ n ∧ ∀ q ∈ qs, q.2.length ≤ n

theorem enq_mem {k : ByteArray} {r : Rq} : ∀ {qs : List Qd} {q : Qd}, q ∈ enq k r qs → q ∈ qs ∨ q = (k, [r]) ∨ ∃ p ∈ qs, p.1 = k ∧ q = (p.1, p.2 ++ [r])
  | [], q, h => .inr (.inl (by simpa [enq] using h))
  | p :: l, q, h => by
    unfold enq at h
    split at h
    · rcases List.mem_cons.1 h with e | e
      · exact .inl (by simp [e])
      · rcases enq_mem e with a | a | ⟨b, c, d⟩
        · exact .inl (by simp [a])
        · exact .inr (.inl a)
        · exact .inr (.inr ⟨b, by simp [c], d⟩)
    · split at h
      · rename_i hk
        rcases List.mem_cons.1 h with e | e
        · exact .inr (.inr ⟨p, by simp, hk, e⟩)
        · exact .inl (by simp [e])
      · rcases List.mem_cons.1 h with e | e
        · exact .inr (.inl e)
        · exact .inl e

theorem enq_len (k : ByteArray) (r : Rq) : ∀ qs : List Qd, (enq k r qs).length ≤ qs.length + 1
  | [] => by simp [enq]
  | p :: l => by
    have := enq_len k r l
    unfold enq
    split
    · simp; omega
    · split <;> simp

theorem Bd.enq {n : Nat} {qs : List Qd} (h : Bd n qs) (k : ByteArray) (r : Rq) : Bd (n + 1) (enq k r qs) := by
  refine ⟨by have := enq_len k r qs; have := h.1; omega, fun q hq => ?_⟩
  rcases enq_mem hq with a | a | ⟨b, c, d, e⟩
  · have := h.2 q a; omega
  · rw [a]; simp
  · have := h.2 b c
    rw [e]; simp; omega

theorem AscD.enq {qs : List Qd} (h : AscD qs) (k : ByteArray) (r : Rq) : AscD (enq k r qs) := by
  unfold AscD at h ⊢
  induction qs with
  | nil => simp [Go.Dv.Try.enq]
  | cons p l ih =>
    rw [List.pairwise_cons] at h
    unfold Go.Dv.Try.enq
    split
    · rename_i hk
      rw [List.pairwise_cons]
      refine ⟨fun q hq => ?_, ih h.2⟩
      rcases enq_mem hq with a | a | ⟨b, c, d, e⟩
      · exact h.1 q a
      · rw [a]; exact hk
      · rw [e]; exact h.1 b c
    · rename_i hk
      split
      · rw [List.pairwise_cons]
        exact ⟨fun q hq => h.1 q hq, h.2⟩
      · rename_i hk2
        have hlt : slt k p.1 = true := by
          cases c : slt k p.1 with
          | true => rfl
          | false => exact absurd (slt_tri (by simpa using hk) c) hk2
        rw [List.pairwise_cons]
        refine ⟨fun q hq => ?_, List.pairwise_cons.2 h⟩
        rcases List.mem_cons.1 hq with e | e
        · rw [e]; exact hlt
        · exact slt_trans hlt (h.1 q e)

theorem RI.add {H : Heap} {nx ga qa va : Nat} {g : List Rq} {qs : List Qd} {ids : List Nat} {B1 B2 : Blk} (h : RI H nx ga qa va g qs ids B1 B2) {n : Nat} (hb : Bd n qs) (hn : n ≤ 99000) (key : ByteArray) (x : Int) (w : Bool) :
    ∃ (ids' : List Nat) (H' : Heap) (nx' : Nat), BS tb 36 [.ptr va 0, .p (.str key), .agg [.p (.int .i64 x), .p (.bool w)]] H nx (.tuple []) H' nx' ∧ RI H' nx' ga qa va g (enq key (x, w) qs) ids' B1 B2 := by
  obtain ⟨ids', H', nx', a, b, c, d, e, f, i⟩ := bs_add key x w h.T h.A (by have := hb.1; omega) (fun q hq => by have := hb.2 q hq; omega) h.v h.n1 h.n2 h.n3 h.n4
  obtain ⟨l1, l2, l3, l4⟩ := h.lo
  have hltg := h.T.ltg
  refine ⟨ids', H', nx', a, b, h.A.enq _ _, c, d, h.n2, h.n3, by have := h.n4; omega, ⟨l1, l2, l3, fun j hj => ?_⟩, ?_, ?_⟩
  · rcases i j hj with e | e
    · exact l4 j e
    · omega
  · rw [f 1 (by omega) (by omega) (by omega) (fun e => by have := l4 1 e; omega)]; exact h.b1
  · rw [f 2 (by omega) (by omega) (by omega) (fun e => by have := l4 2 e; omega)]; exact h.b2

def enqs (ks : List ByteArray) (r : Rq) (qs : List Qd) : List Qd := ks.foldl (fun q k => enq k r q) qs

theorem l_reqw (l : List ByteArray) (bl : Bool) (hl : l.length ≤ 1000) (x : Int) (ga qa va : Nat) (g : List Rq) (B1 B2 : Blk) (F : List Qd) (K : Ex → St → Prop)
    (hx : ∀ (H : Heap) (nx : Nat) (ids : List Nat), RI H nx ga qa va g F ids B1 B2 → Bd (50000 + l.length) F → K (.exit 1) ⟨[(1, .p (.int .i64 x)), (5, .ptr 1 0), (6, .ptr 2 0), (8, .ptr va 0)], H, nx, [0]⟩) :
    ∀ (m i : Nat), i + m = l.length → ∀ (H : Heap) (nx : Nat) (ids : List Nat) (qs : List Qd), RI H nx ga qa va g qs ids B1 B2 → Bd (50000 + i) qs → enqs (l.drop i) (x, true) qs = F →
    W tb a14_l1 ⟨[(1, .p (.int .i64 x)), (5, .ptr 1 0), (6, .ptr 2 0), (8, .ptr va 0), (65, .p (.slice bl (strRow l))), (66, .p (.int .i64 l.length)), (67, .p (.int .i64 i))], H, nx, [0]⟩ (LK tb (.ghost (.free [3]) a14_l1) K) := by
  intro m
  induction m with
  | zero =>
    rintro i hi H nx ids qs hI hB hF
    have h1 : ¬ (i : Int) < l.length := by omega
    have e : i = l.length := by omega
    rw [List.drop_eq_nil_of_le (by omega)] at hF
    have hF2 : qs = F := hF
    subst hF2
    rw [e] at hB
    refine i_code (by unfold a14_l1; exact rfl) ?_
    repeat' (first | (simp (disch := omega) only [go_sem, seval, reduceCtorEq, h1]) | with_reducible exact Ev.mk | ((first | apply x_split | apply x_splitg) <;> intro hβ hb <;> (simp (disch := omega) only [go_sem, seval, reduceCtorEq, h1, hβ]) <;> clear hβ))
    exact hx H nx ids hI hB
  | succ m ih =>
    rintro i hi H nx ids qs hI hB hF
    have h1 : (i : Int) < l.length := by omega
    have h2 : i < l.length := by omega
    have h4 : (0 : Int) ≤ i := by omega
    have h3 := strRow_get l i h2
    obtain ⟨ids', H', nx', hc, hI'⟩ := hI.add hB (by omega) l[i] x true
    rw [List.drop_eq_getElem_cons h2] at hF
    refine i_code (by unfold a14_l1; exact rfl) ?_
    repeat' (first | exact hc | (simp (disch := omega) only [go_sem, seval, reduceCtorEq, h1, h3, h4]) | with_reducible exact Ev.mk | apply x_callr | ((first | apply x_split | apply x_splitg) <;> intro hβ hb <;> (simp (disch := omega) only [go_sem, seval, reduceCtorEq, h1, h3, h4, hβ]) <;> clear hβ))
    refine i_lk (W_round ?_)
    (try simp (disch := omega) only [go_sem, seval, reduceCtorEq])
    exact ih (i + 1) (by omega) H' nx' ids' _ hI' (hB.enq _ _) hF

def other (w : List ByteArray) (r : List ByteArray) : List ByteArray := r.filter fun k => !hasB w k

theorem l_reqr (l : List ByteArray) (bl : Bool) (hl : l.length ≤ 1000) (w : List ByteArray) (bw al : Bool) (hw : w.length ≤ 1000) (c1 : DV) (x : Int) (n0 : Nat) (hn : n0 ≤ 90000) (ga qa va : Nat) (g : List Rq) (fz : Bool) (B2 : Blk) (F : List Qd) (K : Ex → St → Prop)
    (hx : ∀ (H : Heap) (nx : Nat) (ids : List Nat), RI H nx ga qa va g F ids (.var fz [.p (.bool al), c1, .p (.slice bw (strRow w))]) B2 → K (.exit 3) ⟨[(6, .ptr 2 0), (8, .ptr va 0)], adel H 1, nx, [0]⟩) :
    ∀ (m i : Nat), i + m = l.length → ∀ (H : Heap) (nx : Nat) (ids : List Nat) (qs : List Qd), RI H nx ga qa va g qs ids (.var fz [.p (.bool al), c1, .p (.slice bw (strRow w))]) B2 → Bd (n0 + i) qs → enqs (other w (l.drop i)) (x, false) qs = F →
    W tb a14_l0 ⟨[(1, .p (.int .i64 x)), (5, .ptr 1 0), (6, .ptr 2 0), (8, .ptr va 0), (77, .p (.slice bl (strRow l))), (78, .p (.int .i64 l.length)), (79, .p (.int .i64 i))], H, nx, [0]⟩ (LK tb a14_l0 K) := by
  intro m
  induction m with
  | zero =>
    rintro i hi H nx ids qs hI hB hF
    have h1 : ¬ (i : Int) < l.length := by omega
    rw [List.drop_eq_nil_of_le (by omega)] at hF
    have hF2 : qs = F := hF
    subst hF2
    refine i_code (by unfold a14_l0; exact rfl) ?_
    repeat' (first | (simp (disch := omega) only [go_sem, seval, reduceCtorEq, h1, hI.b1]) | with_reducible exact Ev.mk | ((first | apply x_split | apply x_splitg) <;> intro hβ hb <;> (simp (disch := omega) only [go_sem, seval, reduceCtorEq, h1, hI.b1, hβ]) <;> clear hβ))
    exact hx H nx ids hI
  | succ m ih =>
    rintro i hi H nx ids qs hI hB hF
    have h1 : (i : Int) < l.length := by omega
    have h2 : i < l.length := by omega
    have h4 : (0 : Int) ≤ i := by omega
    have h3 := strRow_get l i h2
    have hb1 := hI.b1
    have hcon := ps_scontains w l[i] bw hw
    rw [List.drop_eq_getElem_cons h2] at hF
    refine i_code (by unfold a14_l0; exact rfl) ?_
    cases hh : hasB w l[i] with
    | true =>
      rw [hh] at hcon
      have hB' : Bd (n0 + (i + 1)) qs := ⟨by have := hB.1; omega, fun q hq => by have := hB.2 q hq; omega⟩
      repeat' (first | exact hcon | (simp (disch := omega) only [go_sem, seval, reduceCtorEq, h1, h3, h4, hb1]) | with_reducible exact Ev.mk | apply x_call | ((first | apply x_split | apply x_splitg) <;> intro hβ hb <;> (simp (disch := omega) only [go_sem, seval, reduceCtorEq, h1, h3, h4, hb1, hβ]) <;> clear hβ))
      refine i_lk (W_round ?_)
      (try simp (disch := omega) only [go_sem, seval, reduceCtorEq])
      exact ih (i + 1) (by omega) H nx ids _ hI hB' (by rw [← hF]; unfold other; rw [List.filter_cons_of_neg (by simp [hh])])
    | false =>
      rw [hh] at hcon
      obtain ⟨ids', H', nx', hc, hI'⟩ := hI.add hB (by omega) l[i] x false
      repeat' (first | exact hcon | exact hc | (simp (disch := omega) only [go_sem, seval, reduceCtorEq, h1, h3, h4, hb1]) | with_reducible exact Ev.mk | apply x_call | apply x_callr | ((first | apply x_split | apply x_splitg) <;> intro hβ hb <;> (simp (disch := omega) only [go_sem, seval, reduceCtorEq, h1, h3, h4, hb1, hβ]) <;> clear hβ))
      refine i_lk (W_round ?_)
      (try simp (disch := omega) only [go_sem, seval, reduceCtorEq])
      exact ih (i + 1) (by omega) H' nx' ids' _ hI' (hB.enq _ _) (by rw [← hF]; unfold other; rw [List.filter_cons_of_pos (by simp [hh])]; rfl)


/-! ## L8 -/

def lastR (g : List Rq) (x : Int) : Bool := decide (0 < g.length) && decide (x < (g.getD (g.length - 1) (0, false)).1)

/-- What Request answers. -/
def reqD (t : Td) (x : Int) (f : Ft) : Td × Int :=
  if !validD t || !validF f || decide (x < 0) then (([], []), 1)
  else if idxN t.1 x < t.1.length then (([], []), 8)
  else if lastR t.1 x then (([], []), 16)
  else ((t.1 ++ [(x, f.all)], enqs (other f.w f.r) (x, false) (enqs f.w (x, true) t.2)), 0)

theorem validD_asc {t : Td} (h : validD t = true) : AscD t.2 := by
  have h1 : ∀ i, i < t.2.length → okQ t.2 i = true := fun i hi => by
    unfold validD at h
    rw [Bool.and_eq_true] at h
    have := all_range.1 h.2 i hi
    rw [Bool.and_eq_true] at this
    exact this.1
  have h2 : ∀ (j i : Nat) (hj : i + 1 + j < t.2.length), slt (t.2[i]'(by omega)).1 t.2[i + 1 + j].1 = true := by
    intro j
    induction j with
    | zero =>
      intro i hj
      have := h1 (i + 1) hj
      unfold okQ at this
      simp only [Bool.and_eq_true, Bool.or_eq_true, decide_eq_true_eq] at this
      rcases this.1.1.2 with e | e
      · omega
      · rw [List.getD_eq_getElem?_getD, List.getD_eq_getElem?_getD, List.getElem?_eq_getElem (by omega), List.getElem?_eq_getElem (by omega)] at e
        exact e
    | succ j ih =>
      intro i hj
      have a := ih i (by omega)
      have := h1 (i + 1 + (j + 1)) hj
      unfold okQ at this
      simp only [Bool.and_eq_true, Bool.or_eq_true, decide_eq_true_eq] at this
      rcases this.1.1.2 with e | e
      · omega
      · have e0 : i + 1 + (j + 1) - 1 = i + 1 + j := by omega
        rw [e0, List.getD_eq_getElem?_getD, List.getD_eq_getElem?_getD, List.getElem?_eq_getElem (by omega), List.getElem?_eq_getElem (by omega)] at e
        exact slt_trans a e
  unfold AscD
  rw [List.pairwise_iff_getElem]
  intro i j hi hj hij
  obtain ⟨d, rfl⟩ : ∃ d, j = i + 1 + d := ⟨j - i - 1, by omega⟩
  exact h2 d i hj

def T0 : Tb := ⟨true, [], true, []⟩

/-- The table laid in our own memory, looked at from outside. -/
def Td.u (t : Td) : Tb := ⟨false, t.1, false, t.2.map Qd.u⟩
theorem Td.u_d (t : Td) : (Td.u t).d = t := by
  simp [Td.u, Tb.d, Function.comp_def, Qd.u, Qu.d]

theorem RI.start {H : Heap} {nx ga qa : Nat} {g : List Rq} {qs : List Qd} {ids : List Nat} {B1 B2 : Blk} (hT : TabQ H nx ga qa g qs ids) (hA : AscD qs) (lo : 2 < ga ∧ 2 < qa ∧ ∀ i ∈ ids, 2 < i) (y1 : aget H 1 = some B1) (y2 : aget H 2 = some B2) (r : Rq) :
    RI ((nx, .var false [.ref ga (g.length + 1) 0 (g.length + 1), .ref qa qs.length 0 qs.length]) :: adel (hset H ga (.row false 2 (rqRow g ++ [rqC r]))) 0) (nx + 1) ga qa nx (g ++ [r]) qs ids B1 B2 := by
  obtain ⟨l1, l2, l3⟩ := lo
  have hltg := hT.ltg
  have hltq := hT.ltq
  have k0 : ∀ k, k ≠ nx → k ≠ 0 → k ≠ ga → aget ((nx, .var false [.ref ga (g.length + 1) 0 (g.length + 1), .ref qa qs.length 0 qs.length]) :: adel (hset H ga (.row false 2 (rqRow g ++ [rqC r]))) 0) k = aget H k := fun k a b c => by
    rw [aget_cons, if_neg (Ne.symm a), aget_adel, if_neg (Ne.symm b), aget_hset, if_neg (Ne.symm c)]
  refine ⟨⟨?_, ?_, hT.len, ?_, hT.nd, hT.ng, hT.nq, hT.gq, by omega, by omega, fun i hi => by have := hT.lt i hi; omega, fun k hk => ?_⟩, hA, ?_, fun e => absurd (hT.lt _ e) (by omega), by omega, by omega, by omega, ⟨l1, l2, by omega, l3⟩, ?_, ?_⟩
  · rw [aget_cons, if_neg (by omega), aget_adel, if_neg (by omega), aget_hset, if_pos rfl, hT.gl]
    simp [rqRow]
  · rw [k0 qa (by omega) (by omega) (Ne.symm hT.gq)]; exact hT.ql
  · intro j i q a b
    have hi : i ∈ ids := List.mem_of_getElem? a
    have h1 := hT.lt i hi
    have h2 := l3 i hi
    rw [k0 i (by omega) (by omega) (fun e => hT.ng (by rw [← e]; exact hi))]
    exact hT.at_ j i q a b
  · rw [k0 k (by omega) (by omega) (by omega)]
    exact hT.free k (by omega)
  · rw [aget_cons, if_pos rfl]; simp
  · rw [k0 1 (by omega) (by omega) (by omega)]; exact y1
  · rw [k0 2 (by omega) (by omega) (by omega)]; exact y2

theorem ad_ne {H : Heap} {i k : Nat} {B : Blk} (h : i ≠ k) (hk : aget H k = some B) : aget (adel H i) k = some B := by
  rw [aget_adel, if_neg h]; exact hk

theorem pur_res {H : Heap} {nx ga qa : Nat} {g : List Rq} {qs : List Qd} {ids : List Nat} (hT : TabQ H nx ga qa g qs ids) (e : Int) :
    pur H 5 (.tuple [.agg [.ref ga g.length 0 g.length, .ref qa qs.length 0 qs.length], .p (.int .i64 e)]) = some (.tuple [.agg (tbC (Td.u (g, qs))), .int .i64 e]) := by
  have h1 := pur_row (d := 2) (n := g.length) hT.gl (rqRow_length g).symm
  have h2 := pur_tab hT rfl 0
  have a : pur H 4 (.agg [.ref ga g.length 0 g.length, .ref qa qs.length 0 qs.length]) = some (.agg (tbC (Td.u (g, qs)))) := by
    rw [pur]
    simp only [mapO, h1, h2]
    rfl
  have b : pur H 4 (.p (.int .i64 e)) = some (.int .i64 e) := rfl
  rw [pur]
  simp only [mapO, a, b]

theorem ps_request (t : Tb) (x : Int) (f : Ft) (hg : t.g.length ≤ 49000) (hl : t.qs.length ≤ 49000) (hq : ∀ q ∈ t.qs, q.reqs.length ≤ 49000) (hf : ShF f) :
    ∃ a : Tb, a.d = (reqD t.d x f).1 ∧ PS tb 14 [.agg (tbC t), .int .i64 x, .agg (ftC f)] (.tuple [.agg (tbC a), .int .i64 (reqD t.d x f).2]) := by
  have v1 := ps_valid t (by omega) (by omega) (fun q h => by have := hq q h; omega)
  have v2 := ps_fvalid f hf
  have v3 := ps_index t.g t.gf x (by omega)
  have w : W tb a14.body { env := initEnv 0 ([PV.agg (tbC t), PV.int .i64 x, PV.agg (ftC f)].map ofPV), heap := [], next := 0, marks := [0] }
      (Done a14.results fun v s => ∃ q : { a : Tb // a.d = (reqD t.d x f).1 }, pur s.heap dep v = some (.tuple [.agg (tbC q.1), .int .i64 (reqD t.d x f).2])) := by
    generalize hR : (fun (v : DV) (s : St) => ∃ q : { a : Tb // a.d = (reqD t.d x f).1 }, pur s.heap dep v = some (.tuple [.agg (tbC q.1), .int .i64 (reqD t.d x f).2])) = R
    have hR' : ∀ (v : DV) (s : St) (a : Tb), a.d = (reqD t.d x f).1 → pur s.heap dep v = some (.tuple [.agg (tbC a), .int .i64 (reqD t.d x f).2]) → R v s := fun v s a h1 h2 => by
      subst hR; exact ⟨⟨a, h1⟩, h2⟩
    clear hR
    unfold a14
    dsimp only [List.map, ofPV, initEnv, tbC, ftC] at v1 v2 v3 ⊢
    have td : t.d.1 = t.g := rfl
    have bad : ∀ (e : Int) (v : DV) (s : St), reqD t.d x f = (([], []), e) → pur s.heap dep v = some (.tuple [.agg (tbC T0), .int .i64 e]) → R v s := fun e v s h h2 => hR' v s T0 (by rw [h]; rfl) (by rw [h]; exact h2)
    cases c1 : validD t.d with
    | false =>
      rw [c1] at v1
      repeat' (first | exact v1 | (simp (disch := omega) only [go_sem, seval, reduceCtorEq, c1]) | with_reducible exact Ev.mk | apply x_call | ((first | apply x_split | apply x_splitg) <;> intro hβ hb <;> (simp (disch := omega) only [go_sem, seval, reduceCtorEq, c1, hβ]) <;> clear hβ))
      exact bad 1 _ _ (by simp [reqD, c1]) rfl
    | true =>
      rw [c1] at v1
      cases c2 : validF f with
      | false =>
        rw [c2] at v2
        repeat' (first | exact v1 | exact v2 | (simp (disch := omega) only [go_sem, seval, reduceCtorEq]) | with_reducible exact Ev.mk | apply x_call | ((first | apply x_split | apply x_splitg) <;> intro hβ hb <;> (simp (disch := omega) only [go_sem, seval, reduceCtorEq, hβ]) <;> clear hβ))
        exact bad 1 _ _ (by simp [reqD, c1, c2]) rfl
      | true =>
        rw [c2] at v2
        by_cases c3 : x < 0
        · repeat' (first | exact v1 | exact v2 | (simp (disch := omega) only [go_sem, seval, reduceCtorEq, c3]) | with_reducible exact Ev.mk | apply x_call | ((first | apply x_split | apply x_splitg) <;> intro hβ hb <;> (simp (disch := omega) only [go_sem, seval, reduceCtorEq, c3, hβ]) <;> clear hβ))
          exact bad 1 _ _ (by simp [reqD, c1, c2, c3]) rfl
        · by_cases c4 : idxN t.g x < t.g.length
          · rw [idxI_pos c4] at v3
            have k1 : (0 : Int) ≤ ((idxN t.g x : Nat) : Int) := by omega
            repeat' (first | exact v1 | exact v2 | exact v3 | (simp (disch := omega) only [go_sem, seval, reduceCtorEq, c3, k1]) | with_reducible exact Ev.mk | apply x_call | ((first | apply x_split | apply x_splitg) <;> intro hβ hb <;> (simp (disch := omega) only [go_sem, seval, reduceCtorEq, c3, k1, hβ]) <;> clear hβ))
            exact bad 8 _ _ (by simp [reqD, c1, c2, c3, td, c4]) rfl
          · rw [idxI_neg c4] at v3
            have tail : lastR t.g x = false → True := fun _ => trivial
            by_cases c5 : t.g.length = 0
            · have k1 : ¬ (0 : Int) < (t.g.length : Int) := by omega
              repeat' (first | exact v1 | exact v2 | exact v3 | (simp (disch := omega) only [go_sem, seval, reduceCtorEq, c3, k1, rqRow_length]) | with_reducible exact Ev.mk | apply x_call | ((first | apply x_split | apply x_splitg) <;> intro hβ hb <;> (simp (disch := omega) only [go_sem, seval, reduceCtorEq, c3, k1, rqRow_length, hβ]) <;> clear hβ))
              obtain ⟨ga, qa, ids, H, nx, hcl, hT, hfr, g1, g2, g3⟩ := bs_clone t (by omega) (by omega) (fun q h => by have := hq q h; omega) [(2, Blk.var false [DV.p (PV.slice true []), DV.p (PV.slice true [])]), (1, Blk.var false [DV.p (PV.bool f.all), DV.p (PV.slice f.br (strRow f.r)), DV.p (PV.slice f.bw (strRow f.w))]), (0, Blk.var false [DV.p (PV.slice t.gf (rqRow t.g)), DV.p (PV.slice t.qf (quRow t.qs))])] 3 (fun k hk => by
                rw [aget_cons, if_neg (by omega), aget_cons, if_neg (by omega), aget_cons, if_neg (by omega)]; rfl)
              have z0 : aget H 0 = some (Blk.var false [DV.p (PV.slice t.gf (rqRow t.g)), DV.p (PV.slice t.qf (quRow t.qs))]) := hfr 0 (by omega)
              have z1 : aget H 1 = some (Blk.var false [DV.p (PV.bool f.all), DV.p (PV.slice f.br (strRow f.r)), DV.p (PV.slice f.bw (strRow f.w))]) := hfr 1 (by omega)
              have z2 : aget H 2 = some (Blk.var false [DV.p (PV.slice true []), DV.p (PV.slice true [])]) := hfr 2 (by omega)
              have hltg := hT.ltg
              have hltq := hT.ltq
              have f0 := hT.free nx (Nat.le_refl _)
              have a0 := bne_of (show nx ≠ 0 by omega)
              have a1 := bne_of (show nx ≠ 1 by omega)
              have a2 := bne_of (show nx ≠ 2 by omega)
              have a3 := bne_of (show nx ≠ ga by omega)
              have a4 := bne_of (show nx ≠ qa by omega)
              have m1 : (t.g.length + 1) * 16 ≤ 140737488355328 := by omega
              have m2 : t.g.length + 1 ≤ 140737488355328 := by omega
              have hz : ∀ b, allSz 2 [[PV.int IntKind.i64 x, PV.bool b]] = true := fun b => rfl
              have y1 : ∀ X, aget (hset H ga X) 1 = some (Blk.var false [DV.p (PV.bool f.all), DV.p (PV.slice f.br (strRow f.r)), DV.p (PV.slice f.bw (strRow f.w))]) := fun X => by rw [aget_hset, if_neg (by omega), z1]
              have e1 := rqRow_one x f.all
              repeat' (first | exact hcl | (simp (disch := omega) only [go_sem, seval, reduceCtorEq, z0, z1, z2, f0, a0, a1, a2, a3, a4, hT.gl, m1, m2, maxBytes, hz, y1, rqRow_length, strRow_length, List.set_cons_succ, List.set_cons_zero, c3, k1]) | with_reducible exact Ev.mk | apply x_callr | ((first | apply x_split | apply x_splitg) <;> intro hβ hb <;> (simp (disch := omega) only [go_sem, seval, reduceCtorEq, z0, z1, z2, f0, a0, a1, a2, a3, a4, hT.gl, m1, m2, maxBytes, hz, y1, rqRow_length, strRow_length, List.set_cons_succ, List.set_cons_zero, c3, k1, hβ]) <;> clear hβ))
              refine W_round ?_
              (try simp (disch := omega) only [go_sem, seval, reduceCtorEq, a0])
              have hn : (nx == 0) = false := a0
              refine l_reqw f.w f.bw hf.2.1 x ga qa nx (t.g ++ [(x, f.all)]) _ _ (enqs f.w (x, true) t.d.2) _ ?_ f.w.length 0 (by omega) _ _ ids t.d.2 (by
                have h := RI.start hT (validD_asc c1) ⟨by omega, by omega, fun i hi => by have := g3 i hi; omega⟩ z1 z2 (x, f.all)
                have e : t.d.2.length = t.qs.length := by simp [Tb.d]
                rw [e] at h
                exact h) ⟨by simp [Tb.d]; omega, fun q hq' => by
                  simp only [Tb.d, List.mem_map] at hq'
                  obtain ⟨p, hp, rfl⟩ := hq'
                  have := hq p hp
                  simp [Qu.d]; omega⟩ rfl
              intro H nx2 ids hI hB
              have z1 := hI.b1
              repeat' (first | (simp (disch := omega) only [go_sem, seval, reduceCtorEq, z1, strRow_length]) | with_reducible exact Ev.mk | ((first | apply x_split | apply x_splitg) <;> intro hβ hb <;> (simp (disch := omega) only [go_sem, seval, reduceCtorEq, z1, strRow_length, hβ]) <;> clear hβ))
              refine W_round ?_
              (try simp (disch := omega) only [go_sem, seval, reduceCtorEq])
              refine l_reqr f.r f.br hf.1.1 f.w f.bw f.all hf.2.1 _ x (50000 + f.w.length) (by have := hf.2.1; omega) ga qa nx _ _ _ (enqs (other f.w f.r) (x, false) (enqs f.w (x, true) t.d.2)) _ ?_ f.r.length 0 (by omega) _ _ ids _ hI hB rfl
              intro H nx2 ids hI
              obtain ⟨lo1, lo2, lo3, lo4⟩ := hI.lo
              have w1 := ad_ne (show (1 : Nat) ≠ nx by omega) hI.v
              have w2 := ad_ne (show (1 : Nat) ≠ 2 by omega) hI.b2
              have w3 : ∀ X, aget (hset (adel H 1) 2 X) 2 = some X := fun X => by rw [aget_hset, if_pos rfl, w2]; rfl
              have c4' : ¬ idxN t.d.1 x < t.d.1.length := c4
              have hl0 : lastR t.d.1 x = false := by unfold lastR; rw [decide_eq_false (by show ¬ 0 < t.g.length; omega)]; rfl
              have hres : reqD t.d x f = ((t.g ++ [(x, f.all)], enqs (other f.w f.r) (x, false) (enqs f.w (x, true) t.d.2)), 0) := by
                unfold reqD
                rw [c1, c2, decide_eq_false c3, if_neg c4', hl0]
                rfl
              (try simp (disch := omega) only [go_sem, seval, reduceCtorEq, w1, w2, w3])
              have hT2 := hI.T.congr (H' := hset (adel H 1) 2 (Blk.var false [DV.ref ga (t.g ++ [(x, f.all)]).length 0 (t.g ++ [(x, f.all)]).length, DV.ref qa (enqs (other f.w f.r) (x, false) (enqs f.w (x, true) t.d.2)).length 0 (enqs (other f.w f.r) (x, false) (enqs f.w (x, true) t.d.2)).length])) (nx' := nx2) (fun k hk => by
                have h2 : 2 < k := by
                  rcases hk with e | e | e
                  · omega
                  · omega
                  · exact lo4 k e
                rw [aget_hset, if_neg (by omega), aget_adel, if_neg (by omega)]) (Nat.le_refl _) (fun k hk => by
                have := hI.n4
                rw [aget_hset, if_neg (by omega), aget_adel, if_neg (by omega)]; exact hI.T.free k hk)
              refine hR' _ _ (Td.u (t.g ++ [(x, f.all)], enqs (other f.w f.r) (x, false) (enqs f.w (x, true) t.d.2))) (by rw [hres]; exact Td.u_d _) ?_
              rw [hres]
              exact pur_res hT2 0
            · have k1 : (0 : Int) < (t.g.length : Int) := by omega
              have k2 : (0 : Int) ≤ (t.g.length : Int) - 1 := by omega
              have k3 : (t.g.length : Int) - 1 = ((t.g.length - 1 : Nat) : Int) := by omega
              have h5 := rqRow_get t.g (t.g.length - 1) (by omega)
              have hl5 : lastR t.g x = decide (x < (t.g[t.g.length - 1]'(by omega)).1) := by
                unfold lastR
                rw [getD_rq t.g (t.g.length - 1) (by omega), decide_eq_true (by omega : 0 < t.g.length), Bool.true_and]
              have k4 : (0 : Int) ≤ ((t.g.length - 1 : Nat) : Int) := by omega
              by_cases c6 : x < (t.g[t.g.length - 1]'(by omega)).1
              · repeat' (first | exact v1 | exact v2 | exact v3 | (simp (disch := omega) only [go_sem, seval, reduceCtorEq, c3, k1, k3, k4, h5, c6, rqRow_length]) | with_reducible exact Ev.mk | apply x_call | ((first | apply x_split | apply x_splitg) <;> intro hβ hb <;> (simp (disch := omega) only [go_sem, seval, reduceCtorEq, c3, k1, k3, k4, h5, c6, rqRow_length, hβ]) <;> clear hβ))
                exact bad 16 _ _ (by simp [reqD, c1, c2, c3, td, c4, hl5, c6]) rfl
              · repeat' (first | exact v1 | exact v2 | exact v3 | (simp (disch := omega) only [go_sem, seval, reduceCtorEq, c3, k1, k3, k4, h5, c6, rqRow_length]) | with_reducible exact Ev.mk | apply x_call | ((first | apply x_split | apply x_splitg) <;> intro hβ hb <;> (simp (disch := omega) only [go_sem, seval, reduceCtorEq, c3, k1, k3, k4, h5, c6, rqRow_length, hβ]) <;> clear hβ))
                obtain ⟨ga, qa, ids, H, nx, hcl, hT, hfr, g1, g2, g3⟩ := bs_clone t (by omega) (by omega) (fun q h => by have := hq q h; omega) [(2, Blk.var false [DV.p (PV.slice true []), DV.p (PV.slice true [])]), (1, Blk.var false [DV.p (PV.bool f.all), DV.p (PV.slice f.br (strRow f.r)), DV.p (PV.slice f.bw (strRow f.w))]), (0, Blk.var false [DV.p (PV.slice t.gf (rqRow t.g)), DV.p (PV.slice t.qf (quRow t.qs))])] 3 (fun k hk => by
                  rw [aget_cons, if_neg (by omega), aget_cons, if_neg (by omega), aget_cons, if_neg (by omega)]; rfl)
                have z0 : aget H 0 = some (Blk.var false [DV.p (PV.slice t.gf (rqRow t.g)), DV.p (PV.slice t.qf (quRow t.qs))]) := hfr 0 (by omega)
                have z1 : aget H 1 = some (Blk.var false [DV.p (PV.bool f.all), DV.p (PV.slice f.br (strRow f.r)), DV.p (PV.slice f.bw (strRow f.w))]) := hfr 1 (by omega)
                have z2 : aget H 2 = some (Blk.var false [DV.p (PV.slice true []), DV.p (PV.slice true [])]) := hfr 2 (by omega)
                have hltg := hT.ltg
                have hltq := hT.ltq
                have f0 := hT.free nx (Nat.le_refl _)
                have a0 := bne_of (show nx ≠ 0 by omega)
                have a1 := bne_of (show nx ≠ 1 by omega)
                have a2 := bne_of (show nx ≠ 2 by omega)
                have a3 := bne_of (show nx ≠ ga by omega)
                have a4 := bne_of (show nx ≠ qa by omega)
                have m1 : (t.g.length + 1) * 16 ≤ 140737488355328 := by omega
                have m2 : t.g.length + 1 ≤ 140737488355328 := by omega
                have hz : ∀ b, allSz 2 [[PV.int IntKind.i64 x, PV.bool b]] = true := fun b => rfl
                have y1 : ∀ X, aget (hset H ga X) 1 = some (Blk.var false [DV.p (PV.bool f.all), DV.p (PV.slice f.br (strRow f.r)), DV.p (PV.slice f.bw (strRow f.w))]) := fun X => by rw [aget_hset, if_neg (by omega), z1]
                have e1 := rqRow_one x f.all
                repeat' (first | exact hcl | (simp (disch := omega) only [go_sem, seval, reduceCtorEq, z0, z1, z2, f0, a0, a1, a2, a3, a4, hT.gl, m1, m2, maxBytes, hz, y1, rqRow_length, strRow_length, List.set_cons_succ, List.set_cons_zero, c3, k1, k3, k4, h5, c6]) | with_reducible exact Ev.mk | apply x_callr | ((first | apply x_split | apply x_splitg) <;> intro hβ hb <;> (simp (disch := omega) only [go_sem, seval, reduceCtorEq, z0, z1, z2, f0, a0, a1, a2, a3, a4, hT.gl, m1, m2, maxBytes, hz, y1, rqRow_length, strRow_length, List.set_cons_succ, List.set_cons_zero, c3, k1, k3, k4, h5, c6, hβ]) <;> clear hβ))
                refine W_round ?_
                (try simp (disch := omega) only [go_sem, seval, reduceCtorEq, a0])
                have hn : (nx == 0) = false := a0
                refine l_reqw f.w f.bw hf.2.1 x ga qa nx (t.g ++ [(x, f.all)]) _ _ (enqs f.w (x, true) t.d.2) _ ?_ f.w.length 0 (by omega) _ _ ids t.d.2 (by
                  have h := RI.start hT (validD_asc c1) ⟨by omega, by omega, fun i hi => by have := g3 i hi; omega⟩ z1 z2 (x, f.all)
                  have e : t.d.2.length = t.qs.length := by simp [Tb.d]
                  rw [e] at h
                  exact h) ⟨by simp [Tb.d]; omega, fun q hq' => by
                    simp only [Tb.d, List.mem_map] at hq'
                    obtain ⟨p, hp, rfl⟩ := hq'
                    have := hq p hp
                    simp [Qu.d]; omega⟩ rfl
                intro H nx2 ids hI hB
                have z1 := hI.b1
                repeat' (first | (simp (disch := omega) only [go_sem, seval, reduceCtorEq, z1, strRow_length]) | with_reducible exact Ev.mk | ((first | apply x_split | apply x_splitg) <;> intro hβ hb <;> (simp (disch := omega) only [go_sem, seval, reduceCtorEq, z1, strRow_length, hβ]) <;> clear hβ))
                refine W_round ?_
                (try simp (disch := omega) only [go_sem, seval, reduceCtorEq])
                refine l_reqr f.r f.br hf.1.1 f.w f.bw f.all hf.2.1 _ x (50000 + f.w.length) (by have := hf.2.1; omega) ga qa nx _ _ _ (enqs (other f.w f.r) (x, false) (enqs f.w (x, true) t.d.2)) _ ?_ f.r.length 0 (by omega) _ _ ids _ hI hB rfl
                intro H nx2 ids hI
                obtain ⟨lo1, lo2, lo3, lo4⟩ := hI.lo
                have w1 := ad_ne (show (1 : Nat) ≠ nx by omega) hI.v
                have w2 := ad_ne (show (1 : Nat) ≠ 2 by omega) hI.b2
                have w3 : ∀ X, aget (hset (adel H 1) 2 X) 2 = some X := fun X => by rw [aget_hset, if_pos rfl, w2]; rfl
                have c4' : ¬ idxN t.d.1 x < t.d.1.length := c4
                have hl0 : lastR t.d.1 x = false := by show lastR t.g x = false; rw [hl5, decide_eq_false c6]
                have hres : reqD t.d x f = ((t.g ++ [(x, f.all)], enqs (other f.w f.r) (x, false) (enqs f.w (x, true) t.d.2)), 0) := by
                  unfold reqD
                  rw [c1, c2, decide_eq_false c3, if_neg c4', hl0]
                  rfl
                (try simp (disch := omega) only [go_sem, seval, reduceCtorEq, w1, w2, w3])
                have hT2 := hI.T.congr (H' := hset (adel H 1) 2 (Blk.var false [DV.ref ga (t.g ++ [(x, f.all)]).length 0 (t.g ++ [(x, f.all)]).length, DV.ref qa (enqs (other f.w f.r) (x, false) (enqs f.w (x, true) t.d.2)).length 0 (enqs (other f.w f.r) (x, false) (enqs f.w (x, true) t.d.2)).length])) (nx' := nx2) (fun k hk => by
                  have h2 : 2 < k := by
                    rcases hk with e | e | e
                    · omega
                    · omega
                    · exact lo4 k e
                  rw [aget_hset, if_neg (by omega), aget_adel, if_neg (by omega)]) (Nat.le_refl _) (fun k hk => by
                  have := hI.n4
                  rw [aget_hset, if_neg (by omega), aget_adel, if_neg (by omega)]; exact hI.T.free k hk)
                refine hR' _ _ (Td.u (t.g ++ [(x, f.all)], enqs (other f.w f.r) (x, false) (enqs f.w (x, true) t.d.2))) (by rw [hres]; exact Td.u_d _) ?_
                rw [hres]
                exact pur_res hT2 0
  obtain ⟨⟨a, ha⟩, h⟩ := PS_ex (T := tb) (f := 14) (af := a14) rfl rfl w
  exact ⟨a, ha, h⟩


/-! ## L9 -/

theorem ps_wo1 (r : Rq) (x : Int) : PS tb 71 [.agg (rqC r), .vptr [.int .i64 x]] (.bool (r.1 == x)) := by
  refine PS_of (af := a71) rfl rfl ?_
  unfold a71
  dsimp only [List.map, ofPV, initEnv, rqC]
  repeat' (first | (simp (disch := omega) only [go_sem, seval, reduceCtorEq]) | with_reducible exact Ev.mk | ((first | apply x_split | apply x_splitg) <;> intro hβ hb <;> (simp (disch := omega) only [go_sem, seval, reduceCtorEq, hβ]) <;> clear hβ))
  all_goals simp [pur, dep]

theorem l_idxW (l : List Rq) (b : Bool) (x : Int) (hl : l.length ≤ 100000) (K : Ex → St → Prop)
    (hx : idxI l x = -1 → K (.exit 0) ⟨[], [], 0, [0]⟩)
    (hr : ∀ s', aget s'.env 4 = some (.p (.int .i64 (idxI l x))) → K .ret s') : ∀ (m i : Nat), i + m = l.length → (∀ (j : Nat) (hj : j < l.length), j < i → ¬ l[j].1 = x) →
    W tb a56_l0 ⟨[(0, .p (.slice b (rqRow l))), (1, .p (.func 71 [.vptr [.int .i64 x]])), (7, .p (.int .i64 l.length)), (8, .p (.int .i64 i))], [], 0, [0]⟩ (LK tb (.ghost .lower a56_l0) K) := by
  intro m
  induction m with
  | zero =>
    rintro i hi ht
    have h1 : ¬ (i : Int) < l.length := by omega
    refine i_code (by unfold a56_l0; exact rfl) ?_
    repeat' (first | (simp (disch := omega) only [go_sem, seval, reduceCtorEq, h1]) | with_reducible exact Ev.mk | ((first | apply x_split | apply x_splitg) <;> intro hβ hb <;> (simp (disch := omega) only [go_sem, seval, reduceCtorEq, h1, hβ]) <;> clear hβ))
    refine hx ?_
    have := idxN_none (l := l) (x := x) fun j hj => ht j hj (by omega)
    unfold idxI
    rw [if_neg (by omega)]
  | succ m ih =>
    rintro i hi ht
    have h1 : (i : Int) < l.length := by omega
    have h2 : i < l.length := by omega
    have h4 : (0 : Int) ≤ i := by omega
    have h3 := rqRow_get l i h2
    have q := ps_wo1 l[i] x
    simp only [rqC] at q
    refine i_code (by unfold a56_l0; exact rfl) ?_
    by_cases c : l[i].1 = x
    · have hc : (l[i].1 == x) = true := by simp [c]
      rw [hc] at q
      repeat' (first | exact q | (simp (disch := omega) only [go_sem, seval, reduceCtorEq, h1, h3, h4]) | with_reducible exact Ev.mk | apply x_call | ((first | apply x_split | apply x_splitg) <;> intro hβ hb <;> (simp (disch := omega) only [go_sem, seval, reduceCtorEq, h1, h3, h4, hβ]) <;> clear hβ))
      refine hr _ ?_
      have := idxN_here h2 ht c
      unfold idxI
      rw [this, if_pos h2]
      rfl
    · have hc : (l[i].1 == x) = false := by simp [c]
      rw [hc] at q
      repeat' (first | exact q | (simp (disch := omega) only [go_sem, seval, reduceCtorEq, h1, h3, h4]) | with_reducible exact Ev.mk | apply x_call | ((first | apply x_split | apply x_splitg) <;> intro hβ hb <;> (simp (disch := omega) only [go_sem, seval, reduceCtorEq, h1, h3, h4, hβ]) <;> clear hβ))
      refine i_lk (W_round ?_)
      (try simp (disch := omega) only [go_sem, seval, reduceCtorEq])
      refine ih (i + 1) (by omega) fun j hj hji => ?_
      rcases Nat.lt_or_ge j i with g | g
      · exact ht j hj g
      · have : j = i := by omega
        subst this; exact c

theorem ps_idxW (l : List Rq) (b : Bool) (x : Int) (hl : l.length ≤ 100000) : PS tb 56 [.slice b (rqRow l), .func 71 [.vptr [.int .i64 x]]] (.int .i64 (idxI l x)) := by
  refine PS_of (af := a56) rfl rfl ?_
  unfold a56
  dsimp only [List.map, ofPV, initEnv]
  repeat' (first | (simp (disch := omega) only [go_sem, seval, reduceCtorEq, rqRow_length]) | with_reducible exact Ev.mk | ((first | apply x_split | apply x_splitg) <;> intro hβ hb <;> (simp (disch := omega) only [go_sem, seval, reduceCtorEq, rqRow_length, hβ]) <;> clear hβ))
  refine W_round ?_
  (try simp (disch := omega) only [go_sem, seval, reduceCtorEq])
  refine l_idxW l b x hl _ ?_ ?_ l.length 0 (by omega) (fun j hj h => by omega)
  · intro e
    repeat' (first | (simp (disch := omega) only [go_sem, seval, reduceCtorEq]) | with_reducible exact Ev.mk | ((first | apply x_split | apply x_splitg) <;> intro hβ hb <;> (simp (disch := omega) only [go_sem, seval, reduceCtorEq, hβ]) <;> clear hβ))
    all_goals simp [pur, dep, e]
  · intro s' hs
    (try simp (disch := omega) only [go_sem, seval, reduceCtorEq, hs])
    try simp [pur, dep]


/-! ### slices.DeleteFunc, of a transaction's requests -/

def notX (x : Int) (r : Rq) : Bool := !(r.1 == x)
abbrev R0 : Rq := (0, false)

theorem rqRow_set (l : List Rq) (i : Nat) (r : Rq) : (rqRow l).set i [.int .i64 r.1, .bool r.2] = rqRow (l.set i r) := by simp [rqRow, List.map_set, rqC]
theorem rqRow_rep (n : Nat) : List.replicate n [PV.int .i64 0, PV.bool false] = rqRow (List.replicate n R0) := by simp [rqRow, rqC]

theorem adel_none {H : Heap} {n : Nat} (h : aget H n = none) : adel H n = H := by
  induction H with
  | nil => rfl
  | cons a r ih =>
    obtain ⟨k, v⟩ := a
    rw [aget_cons] at h
    split at h
    · cases h
    · rename_i c
      rw [adel, if_neg (by simpa using c), ih h]

theorem l_deleteW (l : List Rq) (x : Int) (hl : l.length ≤ 100000) (H0 : Heap) (id c : Nat) (fz : Bool) (hc : aget H0 c = some (.var fz [.p (.int .i64 x)])) (nx0 : Nat) (hid : id < nx0) (hcn : c < nx0) (hic : id ≠ c) (hfree : ∀ k, nx0 ≤ k → aget H0 k = none) (mk : Nat) (K : Ex → St → Prop)
    (hx : ∀ (cur : List Rq) (i nx : Nat), cur.length = l.length → i ≤ l.length → cur.take i = l.filter (notX x) → nx0 ≤ nx → K (.exit 0) ⟨[(0, .ref id l.length 0 l.length), (5, .p (.int .i64 i))], (id, .row false 2 (rqRow cur)) :: H0, nx, [mk]⟩) :
    ∀ (m j : Nat), j + m = l.length → ∀ (cur : List Rq) (i nx : Nat), nx0 ≤ nx → cur.length = l.length → i < j → cur.take i = (l.take j).filter (notX x) → (∀ y, j ≤ y → cur.getD y R0 = l.getD y R0) →
    W tb a70_l0 ⟨[(0, .ref id l.length 0 l.length), (1, .func 71 [.ptr c 0]), (5, .p (.int .i64 i)), (6, .p (.int .i64 j))], (id, .row false 2 (rqRow cur)) :: H0, nx, [mk]⟩ (LK tb (.ghost (.free [7]) a70_l0) K) := by
  intro m
  induction m with
  | zero =>
    intro j hj cur i nx hnx hcl hij hd hcur
    have h1 : ¬ (j : Int) < l.length := by omega
    rw [show l.take j = l from List.take_of_length_le (by omega)] at hd
    refine i_code (by unfold a70_l0; exact rfl) ?_
    (try simp (disch := omega) only [go_sem, seval, reduceCtorEq, h1, rqRow_length, hcl])
    exact hx cur i nx hcl (by omega) hd hnx
  | succ m ih =>
    intro j hj cur i nx hnx hcl hij hd hcur
    have h1 : j < l.length := by omega
    have h2 : (j : Int) < l.length := by omega
    have h4 : (0 : Int) ≤ j := by omega
    have g1 : (rqRow cur)[j]? = some [.int .i64 l[j].1, .bool l[j].2] := by
      rw [rqRow_get cur _ (by omega)]
      have := hcur j (Nat.le_refl _)
      rw [getD_rq cur j (by omega), getD_rq l j h1] at this
      rw [this]
    have g3 := rqRow_get cur i (by omega)
    have g4 : (i : Int) < (l.length : Int) := by omega
    have g5 : (0 : Int) ≤ i := by omega
    have f0 := hfree nx hnx
    have b1 := bne_of (show nx ≠ id by omega)
    have b2 := bne_of (show id ≠ nx by omega)
    have b3 := bne_of (show nx ≠ c by omega)
    have b4 := bne_of hic
    have hd0 := adel_none f0
    have hstep : (l.take (j + 1)).filter (notX x) = (l.take j).filter (notX x) ++ if notX x l[j] then [l[j]] else [] := by
      rw [List.take_add_one, List.filter_append, List.getElem?_eq_getElem h1]
      cases hc : notX x l[j] <;> simp [hc]
    have ho := ps_wo1 l[j] x
    simp only [rqC] at ho
    refine i_code (by unfold a70_l0; exact rfl) ?_
    cases hb : notX x l[j] with
    | true =>
      have he : (l[j].1 == x) = false := by simpa [notX] using hb
      rw [he] at ho
      rw [hb, if_pos rfl, ← hd] at hstep
      repeat' (first | exact ho | (simp (disch := omega) only [go_sem, seval, reduceCtorEq, h2, h4, g1, g3, g4, g5, hcl, rqRow_length, rqRow_set, hc, f0, b1, b2, b3, b4]) | with_reducible exact Ev.mk | apply x_call | ((first | apply x_split | apply x_splitg) <;> intro hβ hb <;> (simp (disch := omega) only [go_sem, seval, reduceCtorEq, h2, h4, g1, g3, g4, g5, hcl, rqRow_length, rqRow_set, hc, f0, b1, b2, b3, b4, hβ]) <;> clear hβ))
      refine i_lk (W_round ?_)
      (try simp (disch := omega) only [go_sem, seval, reduceCtorEq, b1, b2, hd0])
      refine ih (j + 1) (by omega) (cur.set i l[j]) (i + 1) (nx + 1) (by omega) (by simp [hcl]) (by omega) ?_ (fun y hy => ?_)
      · rw [hstep, List.take_add_one, List.getElem?_eq_getElem (by simp; omega), List.take_set_of_le (Nat.le_refl _)]
        simp
      · rw [← hcur y (by omega), List.getD_eq_getElem?_getD, List.getElem?_set_ne (by omega), List.getD_eq_getElem?_getD]
    | false =>
      have he : (l[j].1 == x) = true := by simpa [notX] using hb
      rw [he] at ho
      rw [hb, if_neg (by simp), List.append_nil] at hstep
      repeat' (first | exact ho | (simp (disch := omega) only [go_sem, seval, reduceCtorEq, h2, h4, g1, g3, g4, g5, hcl, rqRow_length, rqRow_set, hc, f0, b1, b2, b3, b4]) | with_reducible exact Ev.mk | apply x_call | ((first | apply x_split | apply x_splitg) <;> intro hβ hb <;> (simp (disch := omega) only [go_sem, seval, reduceCtorEq, h2, h4, g1, g3, g4, g5, hcl, rqRow_length, rqRow_set, hc, f0, b1, b2, b3, b4, hβ]) <;> clear hβ))
      refine i_lk (W_round ?_)
      (try simp (disch := omega) only [go_sem, seval, reduceCtorEq, b1, b2, hd0])
      exact ih (j + 1) (by omega) cur i (nx + 1) (by omega) hcl (by omega) (by rw [hstep, hd]) (fun y hy => hcur y (by omega))

theorem bs_deleteW (l : List Rq) (x : Int) (hl : l.length ≤ 100000) (H0 : Heap) (id c nx : Nat) (fz : Bool) (hc : aget H0 c = some (.var fz [.p (.int .i64 x)])) (hid : id < nx) (hcn : c < nx) (hic : id ≠ c) (hfree : ∀ k, nx ≤ k → aget H0 k = none) :
    ∃ (cur : List Rq) (k nx' : Nat), BS tb 70 [.ref id l.length 0 l.length, .func 71 [.ptr c 0]] ((id, .row false 2 (rqRow l)) :: H0) nx (.ref id l.length 0 k) ((id, .row false 2 (rqRow cur)) :: H0) nx' ∧ cur.length = l.length ∧ k ≤ l.length ∧ cur.take k = l.filter (notX x) := by
  have hi := ps_idxW l false x hl
  have b4 := bne_of hic
  have w : W tb a70.body { env := initEnv 0 [.ref id l.length 0 l.length, .func 71 [.ptr c 0]], heap := (id, .row false 2 (rqRow l)) :: H0, next := nx, marks := [nx] }
      (Done a70.results fun v s => ∃ q : List Rq × Nat × Nat, v = .ref id l.length 0 q.2.1 ∧ s.heap = (id, .row false 2 (rqRow q.1)) :: H0 ∧ s.next = q.2.2 ∧ (q.1.length = l.length ∧ q.2.1 ≤ l.length ∧ q.1.take q.2.1 = l.filter (notX x))) := by
    unfold a70
    dsimp only [initEnv]
    by_cases cc : idxN l x < l.length
    · rw [idxI_pos cc] at hi
      have h1 : (((idxN l x : Nat) : Int) == (-1 : Int)) = false := beq_eq_false_iff_ne.2 (by omega)
      have hno : notX x (l[idxN l x]) = false := by
        have : (fun r : Rq => r.1 == x) l[idxN l x] = true := List.findIdx_getElem (w := cc)
        simp only at this
        unfold notX
        rw [this]; rfl
      have hpre : (l.take (idxN l x)).filter (notX x) = l.take (idxN l x) := List.filter_eq_self.2 fun r hr => by
        obtain ⟨j, hj, rfl⟩ := List.mem_iff_getElem.1 hr
        simp only [List.length_take] at hj
        have := List.not_of_lt_findIdx (p := fun r : Rq => r.1 == x) (xs := l) (i := j) (by unfold idxN at hj; omega)
        rw [List.getElem_take]
        unfold notX
        simpa using this
      repeat' (first | exact hi | (simp (disch := omega) only [go_sem, seval, reduceCtorEq, rqRow_length, rqRow_take, takeAll, hc, b4, h1]) | with_reducible exact Ev.mk | apply x_call | ((first | apply x_split | apply x_splitg) <;> intro hβ hb <;> (simp (disch := omega) only [go_sem, seval, reduceCtorEq, rqRow_length, rqRow_take, takeAll, hc, b4, h1, hβ]) <;> clear hβ))
      refine W_round ?_
      (try simp (disch := omega) only [go_sem, seval, reduceCtorEq])
      refine l_deleteW l x hl H0 id c fz hc nx hid hcn hic hfree nx _ ?_ (l.length - (idxN l x + 1)) (idxN l x + 1) (by omega) l (idxN l x) nx (Nat.le_refl _) rfl (by omega) ?_ (fun _ _ => rfl)
      · intro cur k nx' hcl hk hd _
        have e1 : (0 : Int) ≤ k := by omega
        have e2 : (k : Int) ≤ l.length := by omega
        have e3 : k + (l.length - k) ≤ l.length := by omega
        have e4 : (cur.take k ++ List.replicate (l.length - k) R0 ++ cur.drop (k + (l.length - k))).length = l.length := by simp; omega
        (try simp (disch := omega) only [go_sem, seval, reduceCtorEq, e1, e2, e3, rqRow_length, hcl, rqRow_take, rqRow_drop, rqRow_rep, rqRow_append, List.length_replicate, e4])
        refine ⟨(cur.take k ++ List.replicate (l.length - k) R0 ++ cur.drop (k + (l.length - k)), k, nx'), rfl, rfl, rfl, e4, hk, ?_⟩
        simp only
        rw [List.append_assoc, List.take_append_of_le_length (by simp; omega), List.take_take, Nat.min_self, hd]
      · rw [List.take_add_one, List.filter_append, hpre, List.getElem?_eq_getElem cc]
        simp [hno]
    · rw [idxI_neg cc] at hi
      have hall : l.filter (notX x) = l := List.filter_eq_self.2 fun r hr => by
        have h0 : idxN l x = l.length := by
          have := List.findIdx_le_length (p := fun r : Rq => r.1 == x) (xs := l)
          unfold idxN at cc ⊢; omega
        have := List.findIdx_eq_length.1 h0 r hr
        unfold notX
        rw [this]; rfl
      repeat' (first | exact hi | (simp (disch := omega) only [go_sem, seval, reduceCtorEq, rqRow_length, rqRow_take, takeAll, hc, b4]) | with_reducible exact Ev.mk | apply x_call | ((first | apply x_split | apply x_splitg) <;> intro hβ hb <;> (simp (disch := omega) only [go_sem, seval, reduceCtorEq, rqRow_length, rqRow_take, takeAll, hc, b4, hβ]) <;> clear hβ))
      exact ⟨(l, l.length, nx), rfl, rfl, rfl, rfl, Nat.le_refl _, by rw [hall]; exact List.take_of_length_le (Nat.le_refl _)⟩
  obtain ⟨⟨cur, k, nx'⟩, h, h2⟩ := BS_ex (T := tb) (f := 70) (af := a70) (ι := List Rq × Nat × Nat) rfl rfl w
  exact ⟨cur, k, nx', h, h2⟩

theorem ps_without (l : List Rq) (b : Bool) (x : Int) (hl : l.length ≤ 100000) : PS tb 52 [.slice b (rqRow l), .int .i64 x] (.slice false (rqRow (l.filter (notX x)))) := by
  obtain ⟨cur, k, nx', hd, hcl, hk, ht⟩ := bs_deleteW l x hl [(0, .var false [.p (.int .i64 x)])] 1 0 2 false rfl (by omega) (by omega) (by omega) (fun k hk => by rw [aget_cons, if_neg (by omega)]; rfl)
  have hlf : (l.filter (notX x)).length = k := by rw [← ht, List.length_take]; omega
  refine PS_of (af := a52) rfl rfl ?_
  unfold a52
  dsimp only [List.map, ofPV, initEnv]
  repeat' (first | exact bs_copied l b hl _ _ rfl | exact hd | (simp (disch := omega) only [go_sem, seval, reduceCtorEq]) | with_reducible exact Ev.mk | apply x_callr | ((first | apply x_split | apply x_splitg) <;> intro hβ hb <;> (simp (disch := omega) only [go_sem, seval, reduceCtorEq, hβ]) <;> clear hβ))
  simp [pur, dep, aget, rqRow_length, hcl, hk, rqRow_take, ht]


/-! ## L10 -/

def relQ (x : Int) (qs : List Qd) : List Qd := (qs.map fun q => (q.1, q.2.filter (notX x))).filter fun q => decide (0 < q.2.length)
def relD (t : Td) (x : Int) : Td × Int :=
  if !validD t then (([], []), 1)
  else if idxN t.1 x < t.1.length then ((t.1.filter (notX x), relQ x t.2), 0)
  else (([], []), 9)

theorem relQ_snoc (x : Int) (l : List Qd) (q : Qd) : relQ x (l ++ [q]) = relQ x l ++ if 0 < (q.2.filter (notX x)).length then [(q.1, q.2.filter (notX x))] else [] := by
  unfold relQ
  rw [List.map_append, List.filter_append]
  congr 1
  by_cases c : 0 < (q.2.filter (notX x)).length
  · rw [if_pos c]; simp only [List.map_cons, List.map_nil]; rw [List.filter_cons_of_pos (by simp only; exact decide_eq_true c)]; rfl
  · rw [if_neg c]; simp only [List.map_cons, List.map_nil]; rw [List.filter_cons_of_neg (by simp only; rw [decide_eq_false c]; simp)]; rfl

def wq (x : Int) (q : Qu) : Qu := ⟨q.key, false, q.reqs.filter (notX x)⟩
theorem quRow_one (x : Int) (q : Qu) : [[PV.str q.key, PV.slice false (rqRow (q.reqs.filter (notX x)))]] = quRow [wq x q] := rfl

theorem l_rel1 (qs : List Qu) (qf : Bool) (x : Int) (hl : qs.length ≤ 100000) (hq : ∀ q ∈ qs, q.reqs.length ≤ 100000) (G : PV) (K : Ex → St → Prop)
    (hx : ∀ acc : List Qu, acc.map Qu.d = relQ x (qs.map Qu.d) → K (.exit 1) ⟨[(4, .ptr 1 0), (6, .ptr 2 0)], [(4, .row false 2 (quRow acc)), (2, .var false [.p G, .ref 4 acc.length 0 acc.length]), (1, .var false [.p (.slice true []), .p (.slice true [])])], 5, [0]⟩) :
    ∀ (m i : Nat), i + m = qs.length → ∀ acc : List Qu, acc.length ≤ i → acc.map Qu.d = relQ x ((qs.take i).map Qu.d) →
    W tb a26_l0 ⟨[(1, .p (.int .i64 x)), (4, .ptr 1 0), (6, .ptr 2 0), (28, .p (.slice qf (quRow qs))), (29, .p (.int .i64 qs.length)), (30, .p (.int .i64 i))], [(4, .row false 2 (quRow acc)), (2, .var false [.p G, .ref 4 acc.length 0 acc.length]), (1, .var false [.p (.slice true []), .p (.slice true [])])], 5, [0]⟩ (LK tb (.ghost (.free [2, 8]) (.ghost .lower a26_l0)) K) := by
  intro m
  induction m with
  | zero =>
    rintro i hi acc ha hd
    have h1 : ¬ (i : Int) < qs.length := by omega
    rw [List.take_of_length_le (by omega)] at hd
    refine i_code (by unfold a26_l0; exact rfl) ?_
    repeat' (first | (simp (disch := omega) only [go_sem, seval, reduceCtorEq, h1]) | with_reducible exact Ev.mk | ((first | apply x_split | apply x_splitg) <;> intro hβ hb <;> (simp (disch := omega) only [go_sem, seval, reduceCtorEq, h1, hβ]) <;> clear hβ))
    exact hx acc hd
  | succ m ih =>
    rintro i hi acc ha hd
    have h1 : (i : Int) < qs.length := by omega
    have h2 : i < qs.length := by omega
    have h4 : (0 : Int) ≤ i := by omega
    have h3 := quRow_get qs i h2
    have hrl := hq _ (List.getElem_mem h2)
    have hw := ps_without qs[i].reqs qs[i].fl x hrl
    have hs := relQ_snoc x ((qs.take i).map Qu.d) (qs[i].key, qs[i].reqs)
    rw [← map_take_succ qs i h2, ← hd] at hs
    have m1 : (acc.length + 1) * 40 ≤ 140737488355328 := by omega
    have m2 : acc.length + 1 ≤ 140737488355328 := by omega
    refine i_code (by unfold a26_l0; exact rfl) ?_
    by_cases c : 0 < (qs[i].reqs.filter (notX x)).length
    · have c' : (0 : Int) < ((qs[i].reqs.filter (notX x)).length : Int) := by omega
      have hz : allSz 2 (quRow [wq x qs[i]]) = true := allSz_quRow _
      rw [← quRow_one] at hz
      rw [if_pos c] at hs
      repeat' (first | exact hw | (simp (disch := omega) only [go_sem, seval, reduceCtorEq, h1, h3, h4, c', rqRow_length, quRow_length, m1, m2, maxBytes, hz, List.set_cons_succ, List.set_cons_zero]) | with_reducible exact Ev.mk | apply x_call | ((first | apply x_split | apply x_splitg) <;> intro hβ hb <;> (simp (disch := omega) only [go_sem, seval, reduceCtorEq, h1, h3, h4, c', rqRow_length, quRow_length, m1, m2, maxBytes, hz, List.set_cons_succ, List.set_cons_zero, hβ]) <;> clear hβ))
      refine i_lk (W_round ?_)
      (try simp (disch := omega) only [go_sem, seval, reduceCtorEq, quRow_one, quRow_append])
      have := ih (i + 1) (by omega) (acc ++ [wq x qs[i]]) (by simp; omega) (by rw [hs]; simp [wq, Qu.d])
      rw [List.length_append, List.length_singleton] at this
      exact this
    · have c' : ¬ (0 : Int) < ((qs[i].reqs.filter (notX x)).length : Int) := by omega
      rw [if_neg c, List.append_nil] at hs
      repeat' (first | exact hw | (simp (disch := omega) only [go_sem, seval, reduceCtorEq, h1, h3, h4, c', rqRow_length, quRow_length]) | with_reducible exact Ev.mk | apply x_call | ((first | apply x_split | apply x_splitg) <;> intro hβ hb <;> (simp (disch := omega) only [go_sem, seval, reduceCtorEq, h1, h3, h4, c', rqRow_length, quRow_length, hβ]) <;> clear hβ))
      refine i_lk (W_round ?_)
      (try simp (disch := omega) only [go_sem, seval, reduceCtorEq])
      exact ih (i + 1) (by omega) acc (by omega) hs.symm

theorem l_rel0 (qs : List Qu) (qf : Bool) (x : Int) (hl : qs.length ≤ 100000) (hq : ∀ q ∈ qs, q.reqs.length ≤ 100000) (G : PV) (K : Ex → St → Prop)
    (hx : ∀ acc : List Qu, acc.map Qu.d = relQ x (qs.map Qu.d) → K (.exit 1) ⟨[(4, .ptr 1 0), (6, .ptr 2 0)], [(4, .row false 2 (quRow acc)), (2, .var false [.p G, .ref 4 acc.length 0 acc.length]), (1, .var false [.p (.slice true []), .p (.slice true [])])], 5, [0]⟩)
    (hx0 : relQ x (qs.map Qu.d) = [] → K (.exit 1) ⟨[(4, .ptr 1 0), (6, .ptr 2 0)], [(2, .var false [.p G, .p (.slice true [])]), (1, .var false [.p (.slice true []), .p (.slice true [])])], 3, [0]⟩) :
    ∀ (m i : Nat), i + m = qs.length → relQ x ((qs.take i).map Qu.d) = [] →
    W tb a26_l0 ⟨[(1, .p (.int .i64 x)), (4, .ptr 1 0), (6, .ptr 2 0), (28, .p (.slice qf (quRow qs))), (29, .p (.int .i64 qs.length)), (30, .p (.int .i64 i))], [(2, .var false [.p G, .p (.slice true [])]), (1, .var false [.p (.slice true []), .p (.slice true [])])], 3, [0]⟩ (LK tb (.ghost (.free [2, 8]) (.ghost .lower a26_l0)) K) := by
  intro m
  induction m with
  | zero =>
    rintro i hi hd
    have h1 : ¬ (i : Int) < qs.length := by omega
    rw [List.take_of_length_le (by omega)] at hd
    refine i_code (by unfold a26_l0; exact rfl) ?_
    repeat' (first | (simp (disch := omega) only [go_sem, seval, reduceCtorEq, h1]) | with_reducible exact Ev.mk | ((first | apply x_split | apply x_splitg) <;> intro hβ hb <;> (simp (disch := omega) only [go_sem, seval, reduceCtorEq, h1, hβ]) <;> clear hβ))
    exact hx0 hd
  | succ m ih =>
    rintro i hi hd
    have h1 : (i : Int) < qs.length := by omega
    have h2 : i < qs.length := by omega
    have h4 : (0 : Int) ≤ i := by omega
    have h3 := quRow_get qs i h2
    have hrl := hq _ (List.getElem_mem h2)
    have hw := ps_without qs[i].reqs qs[i].fl x hrl
    have hs := relQ_snoc x ((qs.take i).map Qu.d) (qs[i].key, qs[i].reqs)
    rw [← map_take_succ qs i h2, hd] at hs
    refine i_code (by unfold a26_l0; exact rfl) ?_
    by_cases c : 0 < (qs[i].reqs.filter (notX x)).length
    · have c' : (0 : Int) < ((qs[i].reqs.filter (notX x)).length : Int) := by omega
      have hz : allSz 2 (quRow [wq x qs[i]]) = true := allSz_quRow _
      rw [← quRow_one] at hz
      rw [if_pos c] at hs
      repeat' (first | exact hw | (simp (disch := omega) only [go_sem, seval, reduceCtorEq, h1, h3, h4, c', rqRow_length, quRow_length, maxBytes, hz, List.set_cons_succ, List.set_cons_zero]) | with_reducible exact Ev.mk | apply x_call | ((first | apply x_split | apply x_splitg) <;> intro hβ hb <;> (simp (disch := omega) only [go_sem, seval, reduceCtorEq, h1, h3, h4, c', rqRow_length, quRow_length, maxBytes, hz, List.set_cons_succ, List.set_cons_zero, hβ]) <;> clear hβ))
      refine i_lk (W_round ?_)
      (try simp (disch := omega) only [go_sem, seval, reduceCtorEq, quRow_one, quRow_append])
      exact l_rel1 qs qf x hl hq G K hx m (i + 1) (by omega) [wq x qs[i]] (by simp) (by rw [hs]; simp [wq, Qu.d])
    · have c' : ¬ (0 : Int) < ((qs[i].reqs.filter (notX x)).length : Int) := by omega
      rw [if_neg c, List.append_nil] at hs
      repeat' (first | exact hw | (simp (disch := omega) only [go_sem, seval, reduceCtorEq, h1, h3, h4, c', rqRow_length, quRow_length]) | with_reducible exact Ev.mk | apply x_call | ((first | apply x_split | apply x_splitg) <;> intro hβ hb <;> (simp (disch := omega) only [go_sem, seval, reduceCtorEq, h1, h3, h4, c', rqRow_length, quRow_length, hβ]) <;> clear hβ))
      refine i_lk (W_round ?_)
      (try simp (disch := omega) only [go_sem, seval, reduceCtorEq])
      exact ih (i + 1) (by omega) hs

theorem ps_release (t : Tb) (x : Int) (hg : t.g.length ≤ 100000) (hl : t.qs.length ≤ 100000) (hq : ∀ q ∈ t.qs, q.reqs.length ≤ 100000) :
    ∃ a : Tb, a.d = (relD t.d x).1 ∧ PS tb 26 [.agg (tbC t), .int .i64 x] (.tuple [.agg (tbC a), .int .i64 (relD t.d x).2]) := by
  have v1 := ps_valid t hg hl hq
  have v3 := ps_index t.g t.gf x hg
  have v4 := ps_without t.g t.gf x hg
  have w : W tb a26.body { env := initEnv 0 ([PV.agg (tbC t), PV.int .i64 x].map ofPV), heap := [], next := 0, marks := [0] }
      (Done a26.results fun v s => ∃ q : { a : Tb // a.d = (relD t.d x).1 }, pur s.heap dep v = some (.tuple [.agg (tbC q.1), .int .i64 (relD t.d x).2])) := by
    generalize hR : (fun (v : DV) (s : St) => ∃ q : { a : Tb // a.d = (relD t.d x).1 }, pur s.heap dep v = some (.tuple [.agg (tbC q.1), .int .i64 (relD t.d x).2])) = R
    have hR' : ∀ (v : DV) (s : St) (a : Tb), a.d = (relD t.d x).1 → pur s.heap dep v = some (.tuple [.agg (tbC a), .int .i64 (relD t.d x).2]) → R v s := fun v s a h1 h2 => by
      subst hR; exact ⟨⟨a, h1⟩, h2⟩
    clear hR
    unfold a26
    dsimp only [List.map, ofPV, initEnv, tbC] at v1 v3 v4 ⊢
    have td : t.d.1 = t.g := rfl
    have bad : ∀ (e : Int) (v : DV) (s : St), relD t.d x = (([], []), e) → pur s.heap dep v = some (.tuple [.agg (tbC T0), .int .i64 e]) → R v s := fun e v s h h2 => hR' v s T0 (by rw [h]; rfl) (by rw [h]; exact h2)
    cases c1 : validD t.d with
    | false =>
      rw [c1] at v1
      repeat' (first | exact v1 | (simp (disch := omega) only [go_sem, seval, reduceCtorEq, c1]) | with_reducible exact Ev.mk | apply x_call | ((first | apply x_split | apply x_splitg) <;> intro hβ hb <;> (simp (disch := omega) only [go_sem, seval, reduceCtorEq, c1, hβ]) <;> clear hβ))
      exact bad 1 _ _ (by simp [relD, c1]) rfl
    | true =>
      rw [c1] at v1
      by_cases c4 : idxN t.g x < t.g.length
      · rw [idxI_pos c4] at v3
        have k1 : ¬ ((idxN t.g x : Nat) : Int) < 0 := by omega
        repeat' (first | exact v1 | exact v3 | exact v4 | (simp (disch := omega) only [go_sem, seval, reduceCtorEq, k1, quRow_length]) | with_reducible exact Ev.mk | apply x_call | ((first | apply x_split | apply x_splitg) <;> intro hβ hb <;> (simp (disch := omega) only [go_sem, seval, reduceCtorEq, k1, quRow_length, hβ]) <;> clear hβ))
        refine W_round ?_
        (try simp (disch := omega) only [go_sem, seval, reduceCtorEq])
        have hres : relD t.d x = ((t.g.filter (notX x), relQ x (t.qs.map Qu.d)), 0) := by
          unfold relD
          rw [c1, if_neg (by simp), if_pos (show idxN t.d.1 x < t.d.1.length from c4)]
          rfl
        refine l_rel0 t.qs t.qf x hl hq _ _ ?_ ?_ t.qs.length 0 (by omega) rfl
        · intro acc hacc
          (try simp (disch := omega) only [go_sem, seval, reduceCtorEq])
          refine hR' _ _ ⟨false, t.g.filter (notX x), false, acc⟩ (by rw [hres, ← hacc]; rfl) ?_
          rw [hres]
          simp [pur, dep, aget, mapO, tbC, quRow_length, List.take_of_length_le]
        · intro h0
          (try simp (disch := omega) only [go_sem, seval, reduceCtorEq])
          refine hR' _ _ ⟨false, t.g.filter (notX x), true, []⟩ (by rw [hres, h0]; rfl) ?_
          rw [hres]
          rfl
      · rw [idxI_neg c4] at v3
        repeat' (first | exact v1 | exact v3 | (simp (disch := omega) only [go_sem, seval, reduceCtorEq]) | with_reducible exact Ev.mk | apply x_call | ((first | apply x_split | apply x_splitg) <;> intro hβ hb <;> (simp (disch := omega) only [go_sem, seval, reduceCtorEq, hβ]) <;> clear hβ))
        exact bad 9 _ _ (by simp [relD, c1, td, c4]) rfl
  obtain ⟨⟨a, ha⟩, h⟩ := PS_ex (T := tb) (f := 26) (af := a26) rfl rfl w
  exact ⟨a, ha, h⟩


/-! ## L11 -/

theorem getD_int (l : List Int) (i : Nat) (h : i < l.length) : l.getD i (0 : Int) = l[i] := by simp [List.getD_eq_getElem?_getD, h]
theorem intCells_length (l : List Int) : (intCells l).length = l.length := by simp [intCells]
theorem intCells_get (l : List Int) (i : Nat) (h : i < l.length) : (intCells l)[i]? = some [.int .i64 l[i]] := by simp [intCells, h]
theorem intCells_take (l : List Int) (n : Nat) : (intCells l).take n = intCells (l.take n) := by simp [intCells, List.map_take]
theorem intCells_drop (l : List Int) (n : Nat) : (intCells l).drop n = intCells (l.drop n) := by simp [intCells, List.map_drop]
theorem intCells_app (a b : List Int) : intCells a ++ intCells b = intCells (a ++ b) := by simp [intCells]
theorem intCells_set (l : List Int) (i : Nat) (v : Int) : (intCells l).set i [.int .i64 v] = intCells (l.set i v) := by simp [intCells, List.map_set]
theorem intCells_rep (n : Nat) (v : Int) : List.replicate n [PV.int .i64 v] = intCells (List.replicate n v) := by simp [intCells]
theorem intCells_one (v : Int) : [[PV.int .i64 v]] = intCells [v] := rfl
theorem allSz_int (l : List Int) : allSz 1 (intCells l) = true := by simp [allSz, intCells]

/-- The first n of a list, without those that repeat the one before. -/
def ddI (l : List Int) : Nat → List Int
  | 0 => []
  | n + 1 => ddI l n ++ if n = 0 ∨ l.getD n (0 : Int) ≠ l.getD (n - 1) (0 : Int) then [l.getD n (0 : Int)] else []

theorem ddI_len (l : List Int) : ∀ n, (ddI l n).length ≤ n
  | 0 => Nat.le_refl _
  | n + 1 => by
    have := ddI_len l n
    unfold ddI
    split <;> simp <;> omega

theorem ddI_take (l : List Int) : ∀ n, n ≤ l.length → (∀ j, 0 < j → j < n → l.getD j (0 : Int) ≠ l.getD (j - 1) (0 : Int)) → ddI l n = l.take n
  | 0, _, _ => by simp [ddI]
  | n + 1, h, hj => by
    rw [ddI, ddI_take l n (by omega) fun j h0 h1 => hj j h0 (by omega), if_pos, List.take_add_one, List.getElem?_eq_getElem (by omega), getD_int l n (by omega)]
    · rfl
    · rcases Nat.eq_zero_or_pos n with h0 | h0
      · exact .inl h0
      · exact .inr (hj n h0 (by omega))

theorem mem_ddI {x : Int} (l : List Int) : ∀ n, n ≤ l.length → (x ∈ ddI l n ↔ x ∈ l.take n)
  | 0, _ => by simp [ddI]
  | n + 1, h => by
    have ih := mem_ddI (x := x) l n (by omega)
    rw [ddI, List.take_add_one, List.getElem?_eq_getElem (by omega), List.mem_append, List.mem_append, ih]
    simp only [Option.toList_some, List.mem_singleton]
    split
    · rw [List.mem_singleton, getD_int l n (by omega)]
    · rename_i hn
      simp only [not_or, Decidable.not_not, ne_eq] at hn
      rw [getD_int l n (by omega), getD_int l (n - 1) (by omega)] at hn
      constructor
      · rintro (h1 | h1)
        · exact .inl h1
        · cases h1
      · rintro (h1 | rfl)
        · exact .inl h1
        · left
          rw [hn.2]
          exact List.mem_iff_getElem.2 ⟨n - 1, by simp; omega, by rw [List.getElem_take]⟩

theorem l_cptI (l : List Int) (hl : l.length ≤ 100000000) (k0 : Nat) (hk0 : 1 ≤ k0) (hk1 : k0 < l.length) (K : Ex → St → Prop)
    (hx : ∀ (cur : List Int) (k : Nat), cur.length = l.length → k ≤ l.length → cur.take k = ddI l l.length → K (.exit 2) ⟨[(0, .ref 1 l.length 0 l.length), (3, .p (.int .i64 k))], [(1, .row false 1 (intCells cur))], 2, [2]⟩) :
    ∀ (m k2 : Nat), k2 + m = l.length - k0 → 1 ≤ k2 → ∀ (cur : List Int) (k : Nat), cur.length = l.length → k + 1 ≤ k0 + k2 → cur.take k = ddI l (k0 + k2) → (∀ j, k0 + k2 ≤ j + 1 → cur.getD j (0 : Int) = l.getD j (0 : Int)) →
    W tb a69_l0 ⟨[(0, .ref 1 l.length 0 l.length), (3, .p (.int .i64 k)), (4, .ref 1 l.length k0 (l.length - k0)), (5, .p (.int .i64 k2))], [(1, .row false 1 (intCells cur))], 2, [2]⟩ (LK tb a69_l0 K) := by
  intro m
  induction m with
  | zero =>
    intro k2 hi h1 cur k hcl hk hd hj
    have h2 : ¬ (k2 : Int) < ((l.length - k0 : Nat) : Int) := by omega
    have h3 : k0 + (l.length - k0) ≤ l.length := by omega
    refine i_code (by unfold a69_l0; exact rfl) ?_
    (try simp (disch := omega) only [go_sem, seval, reduceCtorEq, h2, h3, intCells_length, hcl])
    exact hx cur k hcl (by omega) (by rw [hd]; congr 1; omega)
  | succ m ih =>
    intro k2 hi h1 cur k hcl hk hd hj
    have h2 : (k2 : Int) < ((l.length - k0 : Nat) : Int) := by omega
    have h3 : k0 + (l.length - k0) ≤ l.length := by omega
    have h4 : (0 : Int) ≤ k2 := by omega
    have h5 : (k2 : Int) - 1 = ((k2 - 1 : Nat) : Int) := by omega
    have h6 : ((k2 - 1 : Nat) : Int) < ((l.length - k0 : Nat) : Int) := by omega
    have h7 : (0 : Int) ≤ ((k2 - 1 : Nat) : Int) := by omega
    have g0 : k0 + k2 < l.length := by omega
    have g1 : (intCells cur)[k0 + k2]? = some [.int .i64 (l.getD (k0 + k2) (0 : Int))] := by
      rw [← hj (k0 + k2) (by omega), intCells_get cur _ (by omega), getD_int cur _ (by omega)]
    have g2 : (intCells cur)[k0 + (k2 - 1)]? = some [.int .i64 (l.getD (k0 + k2 - 1) (0 : Int))] := by
      rw [← hj (k0 + k2 - 1) (by omega), intCells_get cur _ (by omega), getD_int cur _ (by omega)]
      congr 4; omega
    have g3 := intCells_get cur k (by omega)
    have g4 : (k : Int) < (l.length : Int) := by omega
    have g5 : (0 : Int) ≤ k := by omega
    have hdd : ddI l (k0 + k2 + 1) = ddI l (k0 + k2) ++ if k0 + k2 = 0 ∨ l.getD (k0 + k2) (0 : Int) ≠ l.getD (k0 + k2 - 1) (0 : Int) then [l.getD (k0 + k2) (0 : Int)] else [] := rfl
    refine i_code (by unfold a69_l0; exact rfl) ?_
    by_cases hc : l.getD (k0 + k2) (0 : Int) = l.getD (k0 + k2 - 1) (0 : Int)
    · have hc' : (l.getD (k0 + k2) (0 : Int) == l.getD (k0 + k2 - 1) (0 : Int)) = true := by simpa using hc
      rw [if_neg (fun h => h.elim (fun h => by omega) (fun h => h hc)), List.append_nil] at hdd
      (try simp (disch := omega) only [go_sem, seval, reduceCtorEq, h2, h3, h4, h5, h6, h7, g1, g2, hcl, intCells_length, hc', bne, Bool.not_true, Bool.not_false])
      refine i_lk (W_round ?_)
      exact ih (k2 + 1) (by omega) (by omega) cur k hcl (by omega) (by rw [hd, ← hdd]; rfl) (fun j h => hj j (by omega))
    · have hc' : (l.getD (k0 + k2) (0 : Int) == l.getD (k0 + k2 - 1) (0 : Int)) = false := by simpa using hc
      rw [if_pos (.inr hc)] at hdd
      (try simp (disch := omega) only [go_sem, seval, reduceCtorEq, h2, h3, h4, h5, h6, h7, g1, g2, g3, g4, g5, hcl, intCells_length, hc', bne, Bool.not_true, Bool.not_false, intCells_set])
      refine i_lk (W_round ?_)
      refine ih (k2 + 1) (by omega) (by omega) (cur.set k (l.getD (k0 + k2) (0 : Int))) (k + 1) (by simp [hcl]) (by omega) ?_ (fun j h => ?_)
      · rw [show k0 + (k2 + 1) = k0 + k2 + 1 from rfl, hdd, ← hd, List.take_add_one, List.getElem?_eq_getElem (by simp; omega), List.take_set_of_le (Nat.le_refl _)]
        simp
      · rw [← hj j (by omega), List.getD_eq_getElem?_getD, List.getElem?_set_ne (by omega), List.getD_eq_getElem?_getD]

theorem bs_compactI (l : List Int) (hl : l.length ≤ 100000000) : ∃ q : List Int × Nat, BS tb 69 [.ref 1 l.length 0 l.length] [(1, .row false 1 (intCells l))] 2 (.ref 1 l.length 0 q.2) [(1, .row false 1 (intCells q.1))] 2 ∧ q.1.length = l.length ∧ q.2 ≤ l.length ∧ q.1.take q.2 = ddI l l.length := by
  refine BS_ex (ι := List Int × Nat) (af := a69) rfl (r := fun q => .ref 1 l.length 0 q.2) (H' := fun q => [(1, .row false 1 (intCells q.1))]) (nx' := fun _ => 2) rfl ?_
  unfold a69
  dsimp only [initEnv]
  by_cases h0 : l.length < 2
  · have h1 : (l.length : Int) < 2 := by omega
    (try simp (disch := omega) only [go_sem, seval, reduceCtorEq, h1, intCells_length])
    have hd := (ddI_take l _ (Nat.le_refl _) fun j h1 h2 => by omega).symm
    exact ⟨(l, l.length), by simp [hd]⟩
  · have h1 : ¬ (l.length : Int) < 2 := by omega
    (try simp (disch := omega) only [go_sem, seval, reduceCtorEq, h1, intCells_length])
    refine W_round ?_
    have key : ∀ (K : Ex → St → Prop), ((∀ j, 0 < j → j < l.length → l.getD j (0 : Int) ≠ l.getD (j - 1) (0 : Int)) → K (.exit 0) ⟨[(0, .ref 1 l.length 0 l.length)], [(1, .row false 1 (intCells l))], 2, [2]⟩) →
        (∀ (cur : List Int) (k : Nat), cur.length = l.length → k ≤ l.length → cur.take k = ddI l l.length → K .ret ⟨[(2, .ref 1 l.length 0 k)], [(1, .row false 1 (intCells cur))], 2, [2]⟩) →
        ∀ (m k : Nat), k + m = l.length → 1 ≤ k → (∀ j, 0 < j → j < k → l.getD j (0 : Int) ≠ l.getD (j - 1) (0 : Int)) →
        W tb a69_l1 ⟨[(0, .ref 1 l.length 0 l.length), (3, .p (.int .i64 k))], [(1, .row false 1 (intCells l))], 2, [2]⟩ (LK tb a69_l1 K) := by
      intro K hx hr m
      induction m with
      | zero =>
        intro k hi hk hj
        have h2 : ¬ (k : Int) < l.length := by omega
        refine i_code (by unfold a69_l1; exact rfl) ?_
        (try simp (disch := omega) only [go_sem, seval, reduceCtorEq, h2, intCells_length])
        exact hx (fun j h h' => hj j h (by omega))
      | succ m ih =>
        intro k hi hk hj
        have h2 : (k : Int) < l.length := by omega
        have h4 : (0 : Int) ≤ k := by omega
        have h5 : (k : Int) - 1 = ((k - 1 : Nat) : Int) := by omega
        have h6 : ((k - 1 : Nat) : Int) < l.length := by omega
        have h7 : (0 : Int) ≤ ((k - 1 : Nat) : Int) := by omega
        have g1 : (intCells l)[k]? = some [.int .i64 (l.getD k (0 : Int))] := by rw [intCells_get l _ (by omega), getD_int l _ (by omega)]
        have g2 : (intCells l)[k - 1]? = some [.int .i64 (l.getD (k - 1) (0 : Int))] := by rw [intCells_get l _ (by omega), getD_int l _ (by omega)]
        refine i_code (by unfold a69_l1; exact rfl) ?_
        by_cases hc : l.getD k (0 : Int) = l.getD (k - 1) (0 : Int)
        · have hc' : (l.getD k (0 : Int) == l.getD (k - 1) (0 : Int)) = true := by simpa using hc
          have g3 : (k : Int) ≤ l.length := by omega
          (try simp (disch := omega) only [go_sem, seval, reduceCtorEq, h2, h4, h5, h6, h7, g1, g2, g3, intCells_length, hc', bne, Bool.not_true, Bool.not_false])
          refine W_round ?_
          have hd0 := ddI_take l k (by omega) hj
          have hdd : ddI l (k + 1) = ddI l k ++ if k = 0 ∨ l.getD k (0 : Int) ≠ l.getD (k - 1) (0 : Int) then [l.getD k (0 : Int)] else [] := rfl
          rw [if_neg (fun h => h.elim (fun h => by omega) (fun h => h hc)), List.append_nil] at hdd
          refine l_cptI l hl k hk (by omega) _ ?_ (l.length - k - 1) 1 (by omega) (Nat.le_refl _) l k rfl (Nat.le_refl _) (by rw [hdd, hd0]) (fun _ _ => rfl)
          intro cur k' hcl hk' hd
          have e1 : (0 : Int) ≤ k' := by omega
          have e2 : (k' : Int) ≤ l.length := by omega
          have e3 : k' + (l.length - k') ≤ l.length := by omega
          have e4 : (cur.take k' ++ List.replicate (l.length - k') (0 : Int) ++ cur.drop (k' + (l.length - k'))).length = l.length := by simp; omega
          (try simp (disch := omega) only [go_sem, seval, reduceCtorEq, e1, e2, e3, intCells_length, hcl, intCells_take, intCells_drop, intCells_rep, intCells_app, List.length_replicate, e4])
          refine hr _ k' e4 hk' ?_
          rw [List.append_assoc, List.take_append_of_le_length (by simp; omega), List.take_take, Nat.min_self, hd]
        · have hc' : (l.getD k (0 : Int) == l.getD (k - 1) (0 : Int)) = false := by simpa using hc
          (try simp (disch := omega) only [go_sem, seval, reduceCtorEq, h2, h4, h5, h6, h7, g1, g2, intCells_length, hc', bne, Bool.not_true, Bool.not_false])
          refine i_lk (W_round ?_)
          exact ih (k + 1) (by omega) (by omega) (fun j h h' => by
            rcases Nat.lt_or_ge j k with h3 | h3
            · exact hj j h h3
            · have : j = k := by omega
              subst this; exact hc)
    refine key _ ?_ ?_ (l.length - 1) 1 (by omega) (Nat.le_refl _) (fun j h h' => by omega)
    · intro hj
      (try simp (disch := omega) only [go_sem, seval, reduceCtorEq])
      have hd := (ddI_take l _ (Nat.le_refl _) hj).symm
      exact ⟨(l, l.length), by simp [hd]⟩
    · intro cur k hcl hk hd
      (try simp (disch := omega) only [go_sem, seval, reduceCtorEq])
      exact ⟨(cur, k), by simp [hcl, hk, hd]⟩


/-! ### Sort -/

theorem length_sortInt (l : List Int) : (sortInt l).length = l.length := by simp [sortInt]
theorem mem_sortInt {x : Int} {l : List Int} : x ∈ sortInt l ↔ x ∈ l := by unfold sortInt; exact (List.mergeSort_perm _ _).mem_iff
theorem sortInt_le (l : List Int) : (sortInt l).Pairwise (· ≤ ·) := by
  have := List.pairwise_mergeSort (le := fun x y : Int => decide (x ≤ y)) (fun a b c h1 h2 => by simp at h1 h2 ⊢; omega) (fun a b => by simp; omega) l
  unfold sortInt
  exact this.imp fun h => by simpa using h

theorem bs_sortI (l : List Int) (hl : l.length ≤ 100000000) (H : Heap) (id nx : Nat) (hH : aget H id = some (.row false 1 (intCells l))) : BS tb 68 [.ref id l.length 0 l.length] H nx (.tuple []) (hset H id (.row false 1 (intCells (sortInt l)))) nx := by
  refine ⟨0, ?_⟩
  have hA : tb.A 68 = none := rfl
  have hX : tb.X = outside := rfl
  have h1 : l.length ≤ maxBytes := by simp only [maxBytes]; omega
  simp only [cfs, hA, hX]
  simp [outside, CallF.or, clones, cmpStrX, insX, insX, sortStrX, growX, sortIntX, hH, intsOf_cells, h1]

def StrictI (l : List Int) : Prop := l.Pairwise (· < ·)

theorem strict_ddI {l : List Int} (h : l.Pairwise (· ≤ ·)) : ∀ n, n ≤ l.length → StrictI (ddI l n)
  | 0, _ => List.Pairwise.nil
  | n + 1, hn => by
    have ih := strict_ddI h n (by omega)
    rw [ddI]
    split
    · rename_i hc
      unfold StrictI at ih ⊢
      rw [List.pairwise_append]
      refine ⟨ih, List.pairwise_singleton _ _, fun x hx y hy => ?_⟩
      rw [List.mem_singleton, getD_int l n (by omega)] at hy
      rw [hy]
      rw [mem_ddI l n (by omega)] at hx
      obtain ⟨i, hi, rfl⟩ := List.mem_iff_getElem.1 hx
      simp only [List.length_take] at hi
      rw [List.getElem_take]
      rcases hc with rfl | hc
      · omega
      · rw [getD_int l n (by omega), getD_int l (n - 1) (by omega)] at hc
        have h1 := List.pairwise_iff_getElem.1 h
        have h2 := h1 (n - 1) n (by omega) (by omega) (by omega)
        have h3 : l[n - 1] < l[n] := by omega
        rcases Nat.lt_or_ge i (n - 1) with h5 | h5
        · have := h1 i (n - 1) (by omega) (by omega) h5; omega
        · have : i = n - 1 := by omega
          subst this; exact h3
    · rw [List.append_nil]; exact ih

theorem strictI_unique : ∀ {l l' : List Int}, StrictI l → StrictI l' → (∀ x, x ∈ l ↔ x ∈ l') → l = l'
  | [], [], _, _, _ => rfl
  | [], b :: _, _, _, h => absurd ((h b).2 (by simp)) (by simp)
  | a :: _, [], _, _, h => absurd ((h a).1 (by simp)) (by simp)
  | a :: l, b :: l', h1, h2, h => by
    unfold StrictI at h1 h2
    rw [List.pairwise_cons] at h1 h2
    have e : a = b := by
      rcases List.mem_cons.1 ((h a).1 (by simp)) with e | e
      · exact e
      · rcases List.mem_cons.1 ((h b).2 (by simp)) with e' | e'
        · exact e'.symm
        · have := h1.1 b e'; have := h2.1 a e; omega
    subst e
    congr 1
    refine strictI_unique h1.2 h2.2 fun x => ⟨fun hx => ?_, fun hx => ?_⟩
    · rcases List.mem_cons.1 ((h x).1 (by simp [hx])) with e | e
      · have := h1.1 x hx; omega
      · exact e
    · rcases List.mem_cons.1 ((h x).2 (by simp [hx])) with e | e
      · have := h2.1 x hx; omega
      · exact e

/-! ### before -/

def befF (l : List Rq) (at_ : Nat) (r : Rq) : Bool := r.2 || (l.getD at_ R0).2
/-- For whom a transaction of a queue waits there. -/
def beforeL (l : List Rq) (x : Int) : List Int := if idxN l x < l.length then ((l.take (idxN l x)).filter (befF l (idxN l x))).map (·.1) else []

theorem hset_same {H : Heap} {id : Nat} {b : Blk} (h : aget H id = some b) : hset H id b = H := by
  induction H with
  | nil => rfl
  | cons a r ih =>
    obtain ⟨k, v⟩ := a
    rw [aget_cons] at h
    unfold hset
    split at h
    · rename_i c
      cases h
      simp [c]
    · rename_i c
      simp [c, ih h]

theorem l_before (l : List Rq) (b : Bool) (hl : l.length ≤ 100000) (at_ : Nat) (hat : at_ < l.length) (id : Nat) (H0 : Heap) (hid : ∃ B, aget H0 id = some B) (acc0 : List Int) (h0 : acc0.length ≤ 1000000000) (nx mk : Nat) (K : Ex → St → Prop)
    (hx : ∀ acc : List Int, acc = acc0 ++ ((l.take at_).filter (befF l at_)).map (·.1) → K (.exit 0) ⟨[(0, .ref id acc.length 0 acc.length)], hset H0 id (.row false 1 (intCells acc)), nx, [mk]⟩) :
    ∀ (m i : Nat), i + m = at_ → ∀ acc : List Int, acc = acc0 ++ ((l.take i).filter (befF l at_)).map (·.1) →
    W tb a67_l0 ⟨[(0, .ref id acc.length 0 acc.length), (1, .p (.slice b (rqRow l))), (7, .p (.int .i64 at_)), (13, .p (.int .i64 at_)), (14, .p (.int .i64 i))], hset H0 id (.row false 1 (intCells acc)), nx, [mk]⟩ (LK tb a67_l0 K) := by
  have hg : ∀ X, aget (hset H0 id X) id = some X := fun X => by
    obtain ⟨B, hB⟩ := hid
    rw [aget_hset, if_pos rfl, hB]; rfl
  intro m
  induction m with
  | zero =>
    rintro i hi acc hacc
    have h1 : ¬ (i : Int) < at_ := by omega
    have e : i = at_ := by omega
    subst e
    refine i_code (by unfold a67_l0; exact rfl) ?_
    repeat' (first | (simp (disch := omega) only [go_sem, seval, reduceCtorEq, h1]) | with_reducible exact Ev.mk | ((first | apply x_split | apply x_splitg) <;> intro hβ hb <;> (simp (disch := omega) only [go_sem, seval, reduceCtorEq, h1, hβ]) <;> clear hβ))
    exact hx acc hacc
  | succ m ih =>
    rintro i hi acc hacc
    have h1 : (i : Int) < at_ := by omega
    have h2 : i < l.length := by omega
    have h4 : (0 : Int) ≤ i := by omega
    have h4' : (0 : Int) ≤ at_ := by omega
    have h5 : (i : Int) < l.length := by omega
    have h6 : (at_ : Int) < l.length := by omega
    have h3 := rqRow_get l i h2
    have h3' := rqRow_get l at_ hat
    have hlen : acc.length ≤ 1000000000 + 100000 := by
      rw [hacc, List.length_append, List.length_map]
      have := List.length_filter_le (befF l at_) (l.take i)
      rw [List.length_take] at this
      omega
    have m1 : (acc.length + 1) * 8 ≤ 140737488355328 := by omega
    have m2 : acc.length + 1 ≤ 140737488355328 := by omega
    have hz : ∀ v, allSz 1 [[PV.int .i64 v]] = true := fun v => rfl
    have hbf : befF l at_ l[i] = (l[i].2 || l[at_].2) := by unfold befF; rw [getD_rq l at_ hat]
    have hstep : (l.take (i + 1)).filter (befF l at_) = (l.take i).filter (befF l at_) ++ if befF l at_ l[i] then [l[i]] else [] := by
      rw [List.take_add_one, List.filter_append, List.getElem?_eq_getElem h2]
      cases hc : befF l at_ l[i] <;> simp [hc]
    have yes : befF l at_ l[i] = true → W tb a67_l0 ⟨[(0, .ref id (acc.length + 1) 0 (acc.length + 1)), (1, .p (.slice b (rqRow l))), (7, .p (.int .i64 at_)), (13, .p (.int .i64 at_)), (14, .p (.int .i64 ((i + 1 : Nat) : Int)))], hset H0 id (.row false 1 (intCells (acc ++ [l[i].1]))), nx, [mk]⟩ (LK tb a67_l0 K) := fun hb => by
      have := ih (i + 1) (by omega) (acc ++ [l[i].1]) (by rw [hstep, hb, hacc]; simp)
      rw [List.length_append, List.length_singleton] at this
      exact this
    have no : befF l at_ l[i] = false → _ := fun hb => ih (i + 1) (by omega) acc (by rw [hstep, hb, hacc]; simp)
    refine i_code (by unfold a67_l0; exact rfl) ?_
    cases w1 : l[i].2 with
    | true =>
      rw [w1] at h3 hbf
      repeat' (first | (simp (disch := omega) only [go_sem, seval, reduceCtorEq, h1, h3, h4, h5, hg, m1, m2, maxBytes, hz, rqRow_length, intCells_length, hset_hset]) | with_reducible exact Ev.mk | ((first | apply x_split | apply x_splitg) <;> intro hβ hb <;> (simp (disch := omega) only [go_sem, seval, reduceCtorEq, h1, h3, h4, h5, hg, m1, m2, maxBytes, hz, rqRow_length, intCells_length, hset_hset, hβ]) <;> clear hβ))
      refine i_lk (W_round ?_)
      (try simp (disch := omega) only [go_sem, seval, reduceCtorEq, intCells_one, intCells_app])
      exact yes (by rw [hbf]; rfl)
    | false =>
      cases w2 : l[at_].2 with
      | true =>
        rw [w1] at h3 hbf
        rw [w2] at h3' hbf
        repeat' (first | (simp (disch := omega) only [go_sem, seval, reduceCtorEq, h1, h3, h3', h4, h4', h5, h6, hg, m1, m2, maxBytes, hz, rqRow_length, intCells_length, hset_hset]) | with_reducible exact Ev.mk | ((first | apply x_split | apply x_splitg) <;> intro hβ hb <;> (simp (disch := omega) only [go_sem, seval, reduceCtorEq, h1, h3, h3', h4, h4', h5, h6, hg, m1, m2, maxBytes, hz, rqRow_length, intCells_length, hset_hset, hβ]) <;> clear hβ))
        refine i_lk (W_round ?_)
        (try simp (disch := omega) only [go_sem, seval, reduceCtorEq, intCells_one, intCells_app])
        exact yes (by rw [hbf]; rfl)
      | false =>
        rw [w1] at h3 hbf
        rw [w2] at h3' hbf
        repeat' (first | (simp (disch := omega) only [go_sem, seval, reduceCtorEq, h1, h3, h3', h4, h4', h5, h6, rqRow_length]) | with_reducible exact Ev.mk | ((first | apply x_split | apply x_splitg) <;> intro hβ hb <;> (simp (disch := omega) only [go_sem, seval, reduceCtorEq, h1, h3, h3', h4, h4', h5, h6, rqRow_length, hβ]) <;> clear hβ))
        refine i_lk (W_round ?_)
        (try simp (disch := omega) only [go_sem, seval, reduceCtorEq])
        exact no (by rw [hbf]; rfl)

theorem l_before0 (l : List Rq) (b : Bool) (hl : l.length ≤ 100000) (at_ : Nat) (hat : at_ < l.length) (id : Nat) (H : Heap) (acc : List Int) (ha : acc.length ≤ 1000000000) (hH : aget H id = some (.row false 1 (intCells acc))) (nx mk : Nat) (K : Ex → St → Prop)
    (hx : ∀ acc2 : List Int, acc2 = acc ++ ((l.take at_).filter (befF l at_)).map (·.1) → K (.exit 0) ⟨[(0, .ref id acc2.length 0 acc2.length)], hset H id (.row false 1 (intCells acc2)), nx, [mk]⟩) :
    W tb a67_l0 ⟨[(0, .ref id acc.length 0 acc.length), (1, .p (.slice b (rqRow l))), (7, .p (.int .i64 at_)), (13, .p (.int .i64 at_)), (14, .p (.int .i64 0))], H, nx, [mk]⟩ (LK tb a67_l0 K) := by
  have hw := l_before l b hl at_ hat id H ⟨_, hH⟩ acc ha nx mk K hx at_ 0 (by omega) acc (by simp)
  rw [hset_same hH] at hw
  exact hw

theorem bs_before (l : List Rq) (b : Bool) (hl : l.length ≤ 100000) (x : Int) (H : Heap) (id nx : Nat) (acc : List Int) (ha : acc.length ≤ 1000000000) (hH : aget H id = some (.row false 1 (intCells acc))) :
    BS tb 67 [.ref id acc.length 0 acc.length, .p (.slice b (rqRow l)), .p (.int .i64 x)] H nx (.ref id (acc ++ beforeL l x).length 0 (acc ++ beforeL l x).length) (hset H id (.row false 1 (intCells (acc ++ beforeL l x)))) nx := by
  have v3 := ps_index l b x hl
  refine BS_of (af := a67) rfl rfl ?_
  unfold a67
  dsimp only [initEnv]
  by_cases c : idxN l x < l.length
  · rw [idxI_pos c] at v3
    have hb : beforeL l x = ((l.take (idxN l x)).filter (befF l (idxN l x))).map (·.1) := by unfold beforeL; rw [if_pos c]
    have k1 : ¬ ((idxN l x : Nat) : Int) < 0 := by omega
    have k2 : (if (0 : Int) < (idxN l x : Nat) then ((idxN l x : Nat) : Int) else 0) = (idxN l x : Nat) := by split <;> omega
    repeat' (first | exact v3 | (simp (disch := omega) only [go_sem, seval, reduceCtorEq, hH, k1, k2]) | with_reducible exact Ev.mk | apply x_call | ((first | apply x_split | apply x_splitg) <;> intro hβ hb <;> (simp (disch := omega) only [go_sem, seval, reduceCtorEq, hH, k1, k2, hβ]) <;> clear hβ))
    refine W_round ?_
    (try simp (disch := omega) only [go_sem, seval, reduceCtorEq])
    refine l_before0 l b hl (idxN l x) c id H acc ha hH nx nx _ ?_
    intro acc2 h2
    (try simp (disch := omega) only [go_sem, seval, reduceCtorEq])
    rw [hb, ← h2]
    exact ⟨rfl, rfl⟩
  · rw [idxI_neg c] at v3
    have hb : beforeL l x = [] := by unfold beforeL; rw [if_neg c]
    repeat' (first | exact v3 | (simp (disch := omega) only [go_sem, seval, reduceCtorEq, hH]) | with_reducible exact Ev.mk | apply x_call | ((first | apply x_split | apply x_splitg) <;> intro hβ hb <;> (simp (disch := omega) only [go_sem, seval, reduceCtorEq, hH, hβ]) <;> clear hβ))
    refine W_round ?_
    refine i_code (by unfold a67_l0; exact rfl) ?_
    repeat' (first | (simp (disch := omega) only [go_sem, seval, reduceCtorEq]) | with_reducible exact Ev.mk | ((first | apply x_split | apply x_splitg) <;> intro hβ hb <;> (simp (disch := omega) only [go_sem, seval, reduceCtorEq, hβ]) <;> clear hβ))
    rw [hb, List.append_nil, hset_same hH]
    exact ⟨rfl, rfl⟩

theorem bs_before0 (l : List Rq) (b : Bool) (hl : l.length ≤ 100000) (x : Int) (H : Heap) (nx : Nat) (hf : aget H nx = none) :
    BS tb 67 [.p (.slice true []), .p (.slice b (rqRow l)), .p (.int .i64 x)] H nx (.ref nx (beforeL l x).length 0 (beforeL l x).length) ((nx, .row false 1 (intCells (beforeL l x))) :: H) (nx + 1) := by
  have hH : aget ((nx, Blk.row false 1 []) :: H) nx = some (.row false 1 (intCells [])) := by rw [aget_cons, if_pos rfl]; rfl
  have v3 := ps_index l b x hl
  refine BS_of (af := a67) rfl rfl ?_
  unfold a67
  dsimp only [initEnv]
  by_cases c : idxN l x < l.length
  · rw [idxI_pos c] at v3
    have hb : beforeL l x = ((l.take (idxN l x)).filter (befF l (idxN l x))).map (·.1) := by unfold beforeL; rw [if_pos c]
    have k1 : ¬ ((idxN l x : Nat) : Int) < 0 := by omega
    have k2 : (if (0 : Int) < (idxN l x : Nat) then ((idxN l x : Nat) : Int) else 0) = (idxN l x : Nat) := by split <;> omega
    repeat' (first | exact v3 | (simp (disch := omega) only [go_sem, seval, reduceCtorEq, hf, k1, k2]) | with_reducible exact Ev.mk | apply x_call | ((first | apply x_split | apply x_splitg) <;> intro hβ hb <;> (simp (disch := omega) only [go_sem, seval, reduceCtorEq, hf, k1, k2, hβ]) <;> clear hβ))
    refine W_round ?_
    (try simp (disch := omega) only [go_sem, seval, reduceCtorEq])
    refine l_before0 l b hl (idxN l x) c nx _ [] (by simp) hH (nx + 1) nx _ ?_
    intro acc2 h2
    (try simp (disch := omega) only [go_sem, seval, reduceCtorEq])
    rw [List.nil_append] at h2
    rw [hb, ← h2]
    exact ⟨rfl, rfl⟩
  · rw [idxI_neg c] at v3
    have hb : beforeL l x = [] := by unfold beforeL; rw [if_neg c]
    repeat' (first | exact v3 | (simp (disch := omega) only [go_sem, seval, reduceCtorEq, hf]) | with_reducible exact Ev.mk | apply x_call | ((first | apply x_split | apply x_splitg) <;> intro hβ hb <;> (simp (disch := omega) only [go_sem, seval, reduceCtorEq, hf, hβ]) <;> clear hβ))
    refine W_round ?_
    refine i_code (by unfold a67_l0; exact rfl) ?_
    repeat' (first | (simp (disch := omega) only [go_sem, seval, reduceCtorEq]) | with_reducible exact Ev.mk | ((first | apply x_split | apply x_splitg) <;> intro hβ hb <;> (simp (disch := omega) only [go_sem, seval, reduceCtorEq, hβ]) <;> clear hβ))
    rw [hb]
    exact ⟨rfl, rfl⟩



/-! ## L12 -/

/-- All for whom a transaction waits, as they come. -/
def allW (t : Td) (x : Int) : List Int := beforeL t.1 x ++ t.2.flatMap fun q => beforeL q.2 x
def waitsL (t : Td) (x : Int) : List Int := ddI (sortInt (allW t x)) (allW t x).length

theorem mem_waitsL {t : Td} {x y : Int} : y ∈ waitsL t x ↔ y ∈ allW t x := by
  unfold waitsL
  rw [mem_ddI _ _ (by rw [length_sortInt]; exact Nat.le_refl _), List.take_of_length_le (by rw [length_sortInt]; exact Nat.le_refl _)]
  exact mem_sortInt
theorem strict_waitsL (t : Td) (x : Int) : StrictI (waitsL t x) := strict_ddI (sortInt_le _) _ (by rw [length_sortInt]; exact Nat.le_refl _)

theorem beforeL_len (l : List Rq) (x : Int) : (beforeL l x).length ≤ l.length := by
  unfold beforeL
  split
  · rw [List.length_map]
    have := List.length_filter_le (befF l (idxN l x)) (l.take (idxN l x))
    rw [List.length_take] at this
    omega
  · simp

theorem l_waits (qs : List Qu) (qf : Bool) (x : Int) (hl : qs.length ≤ 100000) (hq : ∀ q ∈ qs, q.reqs.length ≤ 1000) (acc0 : List Int) (h0 : acc0.length ≤ 100000) (K : Ex → St → Prop)
    (hx : ∀ acc : List Int, acc = acc0 ++ (qs.map Qu.d).flatMap (fun q => beforeL q.2 x) → acc.length ≤ 100000 + 1000 * qs.length → K (.exit 0) ⟨[(5, .ref 1 acc.length 0 acc.length)], [(1, .row false 1 (intCells acc))], 2, [0]⟩) :
    ∀ (m i : Nat), i + m = qs.length → ∀ acc : List Int, acc = acc0 ++ ((qs.take i).map Qu.d).flatMap (fun q => beforeL q.2 x) → acc.length ≤ 100000 + 1000 * i →
    W tb a49_l0 ⟨[(1, .p (.int .i64 x)), (5, .ref 1 acc.length 0 acc.length), (13, .p (.slice qf (quRow qs))), (14, .p (.int .i64 qs.length)), (15, .p (.int .i64 i))], [(1, .row false 1 (intCells acc))], 2, [0]⟩ (LK tb (.ghost (.free [2, 7]) (.ghost .lower a49_l0)) K) := by
  intro m
  induction m with
  | zero =>
    rintro i hi acc hd ha
    have h1 : ¬ (i : Int) < qs.length := by omega
    have e : i = qs.length := by omega
    subst e
    rw [List.take_of_length_le (Nat.le_refl _)] at hd
    refine i_code (by unfold a49_l0; exact rfl) ?_
    repeat' (first | (simp (disch := omega) only [go_sem, seval, reduceCtorEq, h1]) | with_reducible exact Ev.mk | ((first | apply x_split | apply x_splitg) <;> intro hβ hb <;> (simp (disch := omega) only [go_sem, seval, reduceCtorEq, h1, hβ]) <;> clear hβ))
    exact hx acc hd ha
  | succ m ih =>
    rintro i hi acc hd ha
    have h1 : (i : Int) < qs.length := by omega
    have h2 : i < qs.length := by omega
    have h4 : (0 : Int) ≤ i := by omega
    have h3 := quRow_get qs i h2
    have hrl := hq _ (List.getElem_mem h2)
    have hbl := beforeL_len qs[i].reqs x
    have hb := bs_before qs[i].reqs qs[i].fl (by omega) x [(2, .var false [.p (.str qs[i].key), .p (.slice qs[i].fl (rqRow qs[i].reqs))]), (1, .row false 1 (intCells acc))] 1 3 acc (by omega) rfl
    refine i_code (by unfold a49_l0; exact rfl) ?_
    repeat' (first | exact hb | (simp (disch := omega) only [go_sem, seval, reduceCtorEq, h1, h3, h4]) | with_reducible exact Ev.mk | apply x_callr | ((first | apply x_split | apply x_splitg) <;> intro hβ hb <;> (simp (disch := omega) only [go_sem, seval, reduceCtorEq, h1, h3, h4, hβ]) <;> clear hβ))
    refine i_lk (W_round ?_)
    (try simp (disch := omega) only [go_sem, seval, reduceCtorEq])
    exact ih (i + 1) (by omega) _ (by rw [map_take_succ qs i h2, List.flatMap_append, hd]; simp) (by rw [List.length_append]; omega)

theorem ps_waits (t : Tb) (x : Int) (hg : t.g.length ≤ 1000) (hl : t.qs.length ≤ 90000) (hq : ∀ q ∈ t.qs, q.reqs.length ≤ 1000) : ∃ b, PS tb 49 [.agg (tbC t), .int .i64 x] (.slice b (intCells (waitsL t.d x))) := by
  have w : W tb a49.body { env := initEnv 0 ([PV.agg (tbC t), PV.int .i64 x].map ofPV), heap := [], next := 0, marks := [0] }
      (Done a49.results fun v s => ∃ b : Bool, pur s.heap dep v = some (.slice b (intCells (waitsL t.d x)))) := by
    have hb := bs_before0 t.g t.gf (by omega) x [(0, .var false [.p (.slice t.gf (rqRow t.g)), .p (.slice t.qf (quRow t.qs))])] 1 rfl
    have hbl := beforeL_len t.g x
    unfold a49
    dsimp only [List.map, ofPV, initEnv, tbC]
    repeat' (first | exact hb | (simp (disch := omega) only [go_sem, seval, reduceCtorEq, quRow_length]) | with_reducible exact Ev.mk | apply x_callr | ((first | apply x_split | apply x_splitg) <;> intro hβ hb <;> (simp (disch := omega) only [go_sem, seval, reduceCtorEq, quRow_length, hβ]) <;> clear hβ))
    refine W_round ?_
    (try simp (disch := omega) only [go_sem, seval, reduceCtorEq])
    refine l_waits t.qs t.qf x (by omega) hq (beforeL t.g x) (by omega) _ ?_ t.qs.length 0 (by omega) _ (by simp) (by omega)
    intro acc hacc hal
    have e : acc = allW t.d x := hacc
    have hs := bs_sortI acc (by omega) [(1, .row false 1 (intCells acc))] 1 2 rfl
    obtain ⟨⟨cur, k⟩, hc, hc1, hc2, hc3⟩ := bs_compactI (sortInt acc) (by rw [length_sortInt]; omega)
    rw [length_sortInt] at hc hc1 hc2 hc3
    repeat' (first | exact hs | exact hc | (simp (disch := omega) only [go_sem, seval, reduceCtorEq]) | with_reducible exact Ev.mk | apply x_callr | ((first | apply x_split | apply x_splitg) <;> intro hβ hb <;> (simp (disch := omega) only [go_sem, seval, reduceCtorEq, hβ]) <;> clear hβ))
    refine ⟨false, ?_⟩
    have : waitsL t.d x = cur.take k := by rw [hc3, e]; rfl
    rw [this]
    simp [pur, dep, aget, intCells_length, intCells_take, hc1, hc2]
  obtain ⟨b, h⟩ := PS_ex (T := tb) (f := 49) (af := a49) rfl rfl w
  exact ⟨b, h⟩

/-- Small enough. -/
structure Sm (t : Tb) : Prop where
  g : t.g.length ≤ 1000
  q : t.qs.length ≤ 40000
  r : ∀ q ∈ t.qs, q.reqs.length ≤ 1000

def waitsV (t : Td) (x : Int) : List Int := if validD t then waitsL t x else []

theorem ps_Waits (t : Tb) (x : Int) (h : Sm t) : ∃ b, PS tb 24 [.agg (tbC t), .int .i64 x] (.slice b (intCells (waitsV t.d x))) := by
  have v1 := ps_valid t (by have := h.g; omega) (by have := h.q; omega) (fun q hq => by have := h.r q hq; omega)
  obtain ⟨b, v2⟩ := ps_waits t x h.g (by have := h.q; omega) h.r
  cases c : validD t.d with
  | false =>
    refine ⟨true, ?_⟩
    rw [c] at v1
    have e : waitsV t.d x = [] := by unfold waitsV; rw [c]; rfl
    rw [e]
    refine PS_of (af := a24) rfl rfl ?_
    unfold a24
    dsimp only [List.map, ofPV, initEnv, tbC] at v1 ⊢
    repeat' (first | exact v1 | (simp (disch := omega) only [go_sem, seval, reduceCtorEq]) | with_reducible exact Ev.mk | apply x_call | ((first | apply x_split | apply x_splitg) <;> intro hβ hb <;> (simp (disch := omega) only [go_sem, seval, reduceCtorEq, hβ]) <;> clear hβ))
    all_goals rfl
  | true =>
    refine ⟨b, ?_⟩
    rw [c] at v1
    have e : waitsV t.d x = waitsL t.d x := by unfold waitsV; rw [c]; rfl
    rw [e]
    refine PS_of (af := a24) rfl rfl ?_
    unfold a24
    dsimp only [List.map, ofPV, initEnv, tbC] at v1 v2 ⊢
    repeat' (first | exact v1 | exact v2 | (simp (disch := omega) only [go_sem, seval, reduceCtorEq]) | with_reducible exact Ev.mk | apply x_call | ((first | apply x_split | apply x_splitg) <;> intro hβ hb <;> (simp (disch := omega) only [go_sem, seval, reduceCtorEq, hβ]) <;> clear hβ))
    all_goals rfl

def grantedD (t : Td) (x : Int) : Bool := validD t && decide (idxN t.1 x < t.1.length) && decide ((waitsL t x).length = 0)

theorem ps_granted (t : Tb) (x : Int) (h : Sm t) : PS tb 19 [.agg (tbC t), .int .i64 x] (.bool (grantedD t.d x)) := by
  have v1 := ps_valid t (by have := h.g; omega) (by have := h.q; omega) (fun q hq => by have := h.r q hq; omega)
  obtain ⟨b, v2⟩ := ps_waits t x h.g (by have := h.q; omega) h.r
  have v3 := ps_index t.g t.gf x (by have := h.g; omega)
  have td : t.d.1 = t.g := rfl
  refine PS_of (af := a19) rfl rfl ?_
  unfold a19
  dsimp only [List.map, ofPV, initEnv, tbC] at v1 v2 v3 ⊢
  unfold grantedD
  rw [td]
  cases c : validD t.d with
  | false =>
    rw [c] at v1
    repeat' (first | exact v1 | (simp (disch := omega) only [go_sem, seval, reduceCtorEq]) | with_reducible exact Ev.mk | apply x_call | ((first | apply x_split | apply x_splitg) <;> intro hβ hb <;> (simp (disch := omega) only [go_sem, seval, reduceCtorEq, hβ]) <;> clear hβ))
    all_goals rfl
  | true =>
    rw [c] at v1
    by_cases c4 : idxN t.g x < t.g.length
    · rw [idxI_pos c4] at v3
      have k1 : (0 : Int) ≤ ((idxN t.g x : Nat) : Int) := by omega
      rw [decide_eq_true c4]
      have hw : decide ((waitsL t.d x).length = 0) = (((waitsL t.d x).length : Int) == 0) := by
        by_cases e : (waitsL t.d x).length = 0
        · simp [e]
        · rw [decide_eq_false e]; symm; rw [beq_eq_false_iff_ne]; omega
      rw [hw]
      repeat' (first | exact v1 | exact v2 | exact v3 | (simp (disch := omega) only [go_sem, seval, reduceCtorEq, k1, intCells_length]) | with_reducible exact Ev.mk | apply x_call | ((first | apply x_split | apply x_splitg) <;> intro hβ hb <;> (simp (disch := omega) only [go_sem, seval, reduceCtorEq, k1, intCells_length, hβ]) <;> clear hβ))
      all_goals simp [pur, dep]
    · rw [idxI_neg c4] at v3
      rw [decide_eq_false c4]
      repeat' (first | exact v1 | exact v3 | (simp (disch := omega) only [go_sem, seval, reduceCtorEq]) | with_reducible exact Ev.mk | apply x_call | ((first | apply x_split | apply x_splitg) <;> intro hβ hb <;> (simp (disch := omega) only [go_sem, seval, reduceCtorEq, hβ]) <;> clear hβ))
      all_goals rfl

def readyD (t : Td) : List Int := if validD t then (t.1.map (·.1)).filter fun x => decide ((waitsL t x).length = 0) else []

theorem l_ready (t : Tb) (h : Sm t) (K : Ex → St → Prop)
    (hx : ∀ acc : List Int, acc = (t.g.map (·.1)).filter (fun x => decide ((waitsL t.d x).length = 0)) → K (.exit 0) ⟨[(3, .ref 1 acc.length 0 acc.length)], [(1, .row false 1 (intCells acc))], 2, [0]⟩) :
    ∀ (m i : Nat), i + m = t.g.length → ∀ acc : List Int, acc = ((t.g.take i).map (·.1)).filter (fun x => decide ((waitsL t.d x).length = 0)) →
    W tb a22_l0 ⟨[(1, .ptr 0 0), (3, .ref 1 acc.length 0 acc.length), (10, .p (.slice t.gf (rqRow t.g))), (11, .p (.int .i64 t.g.length)), (12, .p (.int .i64 i))], [(1, .row false 1 (intCells acc)), (0, .var false [.p (.slice t.gf (rqRow t.g)), .p (.slice t.qf (quRow t.qs))])], 2, [0]⟩ (LK tb (.ghost (.free [5]) (.ghost .lower a22_l0)) K) := by
  intro m
  induction m with
  | zero =>
    rintro i hi acc hd
    have h1 : ¬ (i : Int) < t.g.length := by omega
    rw [List.take_of_length_le (by omega)] at hd
    refine i_code (by unfold a22_l0; exact rfl) ?_
    repeat' (first | (simp (disch := omega) only [go_sem, seval, reduceCtorEq, h1]) | with_reducible exact Ev.mk | ((first | apply x_split | apply x_splitg) <;> intro hβ hb <;> (simp (disch := omega) only [go_sem, seval, reduceCtorEq, h1, hβ]) <;> clear hβ))
    exact hx acc hd
  | succ m ih =>
    rintro i hi acc hd
    have h1 : (i : Int) < t.g.length := by omega
    have h2 : i < t.g.length := by omega
    have h4 : (0 : Int) ≤ i := by omega
    have h3 := rqRow_get t.g i h2
    obtain ⟨b, v2⟩ := ps_waits t t.g[i].1 h.g (by have := h.q; omega) h.r
    dsimp only [tbC] at v2
    have hgl := h.g
    have hal : acc.length ≤ 1000 := by
      rw [hd]
      have := List.length_filter_le (fun x => decide ((waitsL t.d x).length = 0)) ((t.g.take i).map (·.1))
      rw [List.length_map, List.length_take] at this
      omega
    have m1 : (acc.length + 1) * 8 ≤ 140737488355328 := by omega
    have m2 : acc.length + 1 ≤ 140737488355328 := by omega
    have hz : ∀ v, allSz 1 [[PV.int .i64 v]] = true := fun v => rfl
    have hstep : ((t.g.take (i + 1)).map (·.1)).filter (fun x => decide ((waitsL t.d x).length = 0)) = acc ++ if (waitsL t.d t.g[i].1).length = 0 then [t.g[i].1] else [] := by
      rw [List.take_add_one, List.map_append, List.filter_append, hd, List.getElem?_eq_getElem h2]
      by_cases e : (waitsL t.d t.g[i].1).length = 0
      · have e2 : waitsL t.d t.g[i].1 = [] := List.length_eq_zero_iff.1 e
        simp [e2]
      · have e2 : ¬ waitsL t.d t.g[i].1 = [] := fun h => e (by rw [h]; rfl)
        simp [e2]
    refine i_code (by unfold a22_l0; exact rfl) ?_
    by_cases e : (waitsL t.d t.g[i].1).length = 0
    · have e' : (((waitsL t.d t.g[i].1).length : Int) == 0) = true := by simp [e]
      rw [if_pos e] at hstep
      repeat' (first | exact v2 | (simp (disch := omega) only [go_sem, seval, reduceCtorEq, h1, h3, h4, e', m1, m2, maxBytes, hz, rqRow_length, intCells_length]) | with_reducible exact Ev.mk | apply x_call | ((first | apply x_split | apply x_splitg) <;> intro hβ hb <;> (simp (disch := omega) only [go_sem, seval, reduceCtorEq, h1, h3, h4, e', m1, m2, maxBytes, hz, rqRow_length, intCells_length, hβ]) <;> clear hβ))
      refine i_lk (W_round ?_)
      (try simp (disch := omega) only [go_sem, seval, reduceCtorEq, intCells_one, intCells_app])
      have := ih (i + 1) (by omega) (acc ++ [t.g[i].1]) hstep.symm
      rw [List.length_append, List.length_singleton] at this
      exact this
    · have e' : (((waitsL t.d t.g[i].1).length : Int) == 0) = false := by rw [beq_eq_false_iff_ne]; omega
      rw [if_neg e, List.append_nil] at hstep
      repeat' (first | exact v2 | (simp (disch := omega) only [go_sem, seval, reduceCtorEq, h1, h3, h4, e', rqRow_length, intCells_length]) | with_reducible exact Ev.mk | apply x_call | ((first | apply x_split | apply x_splitg) <;> intro hβ hb <;> (simp (disch := omega) only [go_sem, seval, reduceCtorEq, h1, h3, h4, e', rqRow_length, intCells_length, hβ]) <;> clear hβ))
      refine i_lk (W_round ?_)
      (try simp (disch := omega) only [go_sem, seval, reduceCtorEq])
      exact ih (i + 1) (by omega) acc hstep.symm

theorem ps_ready (t : Tb) (h : Sm t) : ∃ b, PS tb 22 [.agg (tbC t)] (.slice b (intCells (readyD t.d))) := by
  have v1 := ps_valid t (by have := h.g; omega) (by have := h.q; omega) (fun q hq => by have := h.r q hq; omega)
  cases c : validD t.d with
  | false =>
    refine ⟨true, ?_⟩
    rw [c] at v1
    have e : readyD t.d = [] := by unfold readyD; rw [c]; rfl
    rw [e]
    refine PS_of (af := a22) rfl rfl ?_
    unfold a22
    dsimp only [List.map, ofPV, initEnv, tbC] at v1 ⊢
    repeat' (first | exact v1 | (simp (disch := omega) only [go_sem, seval, reduceCtorEq]) | with_reducible exact Ev.mk | apply x_call | ((first | apply x_split | apply x_splitg) <;> intro hβ hb <;> (simp (disch := omega) only [go_sem, seval, reduceCtorEq, hβ]) <;> clear hβ))
    all_goals rfl
  | true =>
    refine ⟨false, ?_⟩
    rw [c] at v1
    have e : readyD t.d = (t.g.map (·.1)).filter (fun x => decide ((waitsL t.d x).length = 0)) := by unfold readyD; rw [c]; rfl
    refine PS_of (af := a22) rfl rfl ?_
    unfold a22
    dsimp only [List.map, ofPV, initEnv, tbC] at v1 ⊢
    repeat' (first | exact v1 | (simp (disch := omega) only [go_sem, seval, reduceCtorEq, rqRow_length]) | with_reducible exact Ev.mk | apply x_call | ((first | apply x_split | apply x_splitg) <;> intro hβ hb <;> (simp (disch := omega) only [go_sem, seval, reduceCtorEq, rqRow_length, hβ]) <;> clear hβ))
    refine W_round ?_
    (try simp (disch := omega) only [go_sem, seval, reduceCtorEq])
    refine l_ready t h _ ?_ t.g.length 0 (by omega) [] rfl
    intro acc hacc
    rw [← e] at hacc
    repeat' (first | (simp (disch := omega) only [go_sem, seval, reduceCtorEq]) | with_reducible exact Ev.mk | ((first | apply x_split | apply x_splitg) <;> intro hβ hb <;> (simp (disch := omega) only [go_sem, seval, reduceCtorEq, hβ]) <;> clear hβ))
    all_goals simp [pur, dep, aget, hacc, intCells_length, intCells_take]

end Go.Dv.Try
