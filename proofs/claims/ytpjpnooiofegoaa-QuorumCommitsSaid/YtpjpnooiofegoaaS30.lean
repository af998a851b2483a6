/-
  Specifications of the functions of this claim, parts 30, 31.
-/
import Derived.Test.YtpjpnooiofegoaaTab
import Derived.Test.YtpjpnooiofegoaaStep
import Derived.Test.YtpjpnooiofegoaaS1
import Derived.Test.YtpjpnooiofegoaaS7
import Derived.Test.YtpjpnooiofegoaaS16
import Derived.Test.YtpjpnooiofegoaaS24
set_option linter.unusedVariables false
set_option linter.unusedSimpArgs false
set_option maxRecDepth 100000
set_option maxHeartbeats 16000000
namespace Go.Dv.Try
open Go Go.Dv

/-- Messages without items. -/
def rowsT (l : List X) : List (List PV) := l.map fun y => xC y true

theorem rowsT_length (l : List X) : (rowsT l).length = l.length := by simp [rowsT]

theorem rowsT_sz (l : List X) : allSz 9 (rowsT l) = true := by simp [allSz, rowsT, xC]

theorem rowsT_append (a b : List X) : rowsT a ++ rowsT b = rowsT (a ++ b) := by simp [rowsT]

theorem rowsT_sing (a b c d e f g : Int) (o : Bool) : [[PV.int .i64 a, .int .i64 b, .int .i64 c, .int .i64 d, .int .i64 e, .int .i64 f, .int .i64 g, .bool o, .slice true []]] = rowsT [⟨a, b, c, d, e, f, g, o, []⟩] := rfl

theorem rowsT_take (a : List X) (n : Nat) : (rowsT a).take n = rowsT (a.take n) := by simp [rowsT, List.map_take]

theorem asksN_length (m : M) (k : Nat) : (asksN m k).length ≤ k := by
  induction k with
  | zero => simp [asksN]
  | succ k ih => simp only [asksN]; split <;> (try simp only [List.length_append, List.length_cons, List.length_nil]) <;> omega

theorem free_lists {m : M} (h : okM m = true) (hr : ¬ m.role = 3) : m.next = [] ∧ m.mtch = [] := by
  obtain ⟨_, hh⟩ := (okM_iff m).1 h
  rcases hh with ⟨_, _, a, b⟩ | ⟨_, _, _, _, a, b⟩ | ⟨r, _⟩
  · exact ⟨a, b⟩
  · exact ⟨a, b⟩
  · exact absurd r hr

theorem bs83 (m : M) (f : Fl) (H : Heap) (nx : Nat) (hf : ∀ j, nx ≤ j → aget H j = none) (h1 : m.log.length ≤ 100000) (h2 : m.votes.length ≤ 100000) (h3 : m.next.length ≤ 100000) (h4 : m.mtch.length ≤ 100000) :
    BS tb 77 [.agg ((mC m f).map .p)] H nx (.agg (rC m nx)) ((nx + 5, .row false 1 (intsPV m.mtch)) :: (nx + 4, .row false 1 (intsPV m.next)) :: (nx + 3, .row false 1 (intsPV m.votes)) :: (nx + 2, .row false 2 (itemsPV m.log)) ::
      (nx + 1, .var false (rC m nx)) :: (nx, .var false (rC m nx)) :: H) (nx + 6) := by
  have e0 := freshB hf
  have e1 := freshA hf 1
  have q1 : (nx == nx + 1) = false := beqC 0 nx
  have q2 : (nx + 1 == nx) = false := beqB 0 nx
  have q3 : (nx + 2 == nx) = false := beqB 1 nx
  have q4 : (nx + 3 == nx) = false := beqB 2 nx
  have q5 : (nx + 4 == nx) = false := beqB 3 nx
  have q6 : (nx + 5 == nx) = false := beqB 4 nx
  refine BS_of (af := a77) rfl rfl ?_
  unfold a77
  dsimp only [List.map, ofPV, initEnv]
  repeat' (first | exact bs97 _ _ _ _ h1 | exact bs129 _ _ _ _ (by assumption) | (simp (disch := omega) only [go_sem, seval, reduceCtorEq, mC, e0, e1, beqA, q1, q2, q3, q4, q5, q6, Nat.add_assoc]) | with_reducible exact Ev.mk | apply x_callr | ((first | apply x_split | apply x_splitg) <;> intro hβ hb <;> (simp (disch := omega) only [go_sem, seval, reduceCtorEq, mC, e0, e1, beqA, q1, q2, q3, q4, q5, q6, Nat.add_assoc, hβ]) <;> clear hβ))
  simp [rC]

theorem aget_hset {H : Heap} {p : Nat} {b c : Blk} (h : aget H p = some b) : aget (hset H p c) p = some c := by
  induction H with
  | nil => simp [aget] at h
  | cons x r ih =>
    obtain ⟨k, v⟩ := x
    cases e : (k == p) with
    | true => simp [hset, e, aget]
    | false => simp only [aget, e, Bool.false_eq_true, if_false] at h; simp only [hset, e, aget, Bool.false_eq_true, if_false]; exact ih h

theorem hset_hset (H : Heap) (p : Nat) (b c : Blk) : hset (hset H p b) p c = hset H p c := by
  induction H with
  | nil => rfl
  | cons x r ih =>
    obtain ⟨k, v⟩ := x
    cases e : (k == p) with
    | true => simp [hset, e]
    | false => simp only [hset, e, Bool.false_eq_true, if_false, ih]

/-- A member's cells whose lists may lie anywhere. -/
def dC (m : M) (l v n k : DV) : List DV := [.p (.int .i64 m.id), .p (.int .i64 m.members), .p (.int .i64 m.term), .p (.int .i64 m.vote), l, .p (.int .i64 m.role), .p (.int .i64 m.commit), v, n, k]

theorem bs89 (m : M) (a b : Nat) (v n k : DV) (t : Int) (H : Heap) (nx p : Nat) (hp : aget H p = some (.var false (dC m (.ref a b 0 b) v n k))) :
    BS tb 93 [.ptr p 0, .p (.int .i64 t)] H nx (.tuple []) (hset H p (.var false (dC (followM m t) (.ref a b 0 b) (.p (.slice true [])) (.p (.slice true [])) (.p (.slice true []))))) nx := by
  unfold dC at hp
  refine BS_of (af := a93) rfl rfl ?_
  unfold a93
  dsimp only [List.map, ofPV, initEnv]
  repeat' (first | (simp (disch := omega) only [go_sem, seval, reduceCtorEq, hp]) | with_reducible exact Ev.mk | ((first | apply x_split | apply x_splitg) <;> intro hβ hb <;> (simp (disch := omega) only [go_sem, seval, reduceCtorEq, hp, hβ]) <;> clear hβ))
  simp [dC, followM]

theorem aget_hset_ne {H : Heap} {p q : Nat} {c : Blk} (h : p ≠ q) : aget (hset H p c) q = aget H q := by
  induction H with
  | nil => rfl
  | cons x r ih =>
    obtain ⟨k, v⟩ := x
    cases e : (k == p) with
    | true =>
      have : k = p := by simpa using e
      have e2 : (k == q) = false := by simpa [this] using h
      simp only [hset, e, if_true, aget, e2, Bool.false_eq_true, if_false]
    | false => simp only [hset, e, aget, Bool.false_eq_true, if_false, ih]

def fillN (x : Int) (n i : Nat) : List Int := List.replicate i x ++ List.replicate (n - i) 0

theorem fillN_len (x : Int) (n i : Nat) (h : i ≤ n) : (fillN x n i).length = n := by simp [fillN]; omega

theorem fillN_set (x : Int) (n i : Nat) (h : i < n) : (fillN x n i).set i x = fillN x n (i + 1) := by
  refine List.ext_getElem (by simp [fillN]; omega) ?_
  intro j h1 h2
  simp only [fillN, List.getElem_set, List.getElem_append, List.getElem_replicate, List.length_replicate]
  split <;> split <;> (try split) <;> first | rfl | omega

theorem fillN_zero (x : Int) (n : Nat) : fillN x n 0 = List.replicate n 0 := by simp [fillN]

theorem fillN_all (x : Int) (n : Nat) : fillN x n n = List.replicate n x := by simp [fillN]

theorem zeros (n : Nat) : List.replicate n [PV.int .i64 0] = intsPV (List.replicate n 0) := by simp [intsPV, intPV]

theorem intsPV_at (l : List Int) (i : Nat) (h : i < l.length) : (intsPV l)[i]? = some (intPV l[i]) := intsPV_get l i h

theorem l84 (m : M) (a : Nat) (z : List Int) (H : Heap) (nx p : Nat) (hz : z.length = m.members.toNat) (hp : aget H p = some (.var false (dC m (.ref a m.log.length 0 m.log.length) (.p (.slice true [])) (.ref nx m.members.toNat 0 m.members.toNat) (.ref (nx + 1) m.members.toNat 0 m.members.toNat))))
    (ha : aget H a = some (.row false 2 (itemsPV m.log))) (n6 : (nx == a) = false) (n7 : (nx + 1 == a) = false) (hl : m.log.length ≤ 100000) (n1 : (nx == p) = false) (n2 : (nx + 1 == p) = false) (hm : m.members ≤ 10000) (h0 : 0 ≤ m.members) (K : Ex → St → Prop)
    (hx : K (.exit 0) ⟨[(0, .ptr p 0)], (nx + 1, .row false 1 (intsPV z)) :: (nx, .row false 1 (intsPV (List.replicate m.members.toNat (m.log.length : Int)))) :: H, nx + 2, [nx]⟩) : ∀ (n i : Nat), i + n = m.members.toNat →
    W tb a78_l0 ⟨[(0, .ptr p 0), (49, .p (.int .i64 m.members.toNat)), (50, .p (.int .i64 i))], (nx + 1, .row false 1 (intsPV z)) :: (nx, .row false 1 (intsPV (fillN (m.log.length : Int) m.members.toNat i))) :: H, nx + 2, [nx]⟩ (LK tb a78_l0 K) := by
  unfold dC at hp
  have n3 : (nx + 1 == nx) = false := beqB 0 nx
  intro n
  induction n with
  | zero =>
    intro i hi
    have h1 : ¬ (i : Int) < (m.members.toNat : Int) := by omega
    have e : i = m.members.toNat := by omega
    subst e
    rw [fillN_all]
    refine i_code (by unfold a78_l0; exact rfl) ?_
    repeat' (first | (simp (disch := omega) only [go_sem, seval, reduceCtorEq, h1]) | with_reducible exact Ev.mk | ((first | apply x_split | apply x_splitg) <;> intro hβ hb <;> (simp (disch := omega) only [go_sem, seval, reduceCtorEq, h1, hβ]) <;> clear hβ))
    exact hx
  | succ n ih =>
    intro i hi
    have h1 : (i : Int) < (m.members.toNat : Int) := by omega
    have h2 : i < m.members.toNat := by omega
    have h3 := fillN_len (m.log.length : Int) m.members.toNat i (by omega)
    have h4 : (0 : Int) ≤ i := by omega
    have h5 := intsPV_at (fillN (m.log.length : Int) m.members.toNat i) i (by omega)
    have h6 := fillN_set (m.log.length : Int) m.members.toNat i h2
    refine i_code (by unfold a78_l0; exact rfl) ?_
    repeat' (first | (simp (disch := omega) only [go_sem, seval, reduceCtorEq, hp, ha, n1, n2, n3, n6, n7, h1, h3, h4, h5, h6, intPV, itemsPV_length, intsPV_length, intsPV_set]) | with_reducible exact Ev.mk | ((first | apply x_split | apply x_splitg) <;> intro hβ hb <;> (simp (disch := omega) only [go_sem, seval, reduceCtorEq, hp, ha, n1, n2, n3, n6, n7, h1, h3, h4, h5, h6, intPV, itemsPV_length, intsPV_length, intsPV_set, hβ]) <;> clear hβ))
    refine i_lk (W_round ?_)
    exact ih (i + 1) (by omega)

theorem bs84a (m : M) (a : Nat) (q : Bool) (n k : DV) (H : Heap) (nx p : Nat) (hp : aget H p = some (.var false (dC m (.ref a m.log.length 0 m.log.length) (.p (.slice q (intsPV m.votes))) n k))) (ha : aget H a = some (.row false 2 (itemsPV m.log))) (hf : ∀ j, nx ≤ j → aget H j = none) (hm : m.members ≤ 10000) (h0 : 1 ≤ m.id) (h1 : m.id ≤ m.members) (hl : m.log.length ≤ 100000) (hw : maj m.members ≤ (m.votes.length : Int)) :
    BS tb 78 [.ptr p 0] H nx (.tuple []) ((nx + 1, .row false 1 (intsPV (leadM m).mtch)) :: (nx, .row false 1 (intsPV (leadM m).next)) :: hset H p (.var false (dC (leadM m) (.ref a m.log.length 0 m.log.length) (.p (.slice true [])) (.ref nx m.members.toNat 0 m.members.toNat) (.ref (nx + 1) m.members.toNat 0 m.members.toNat)))) (nx + 2) := by
  unfold dC at hp
  have e1 := fun b => aget_hset (c := b) hp
  have e2 := hset_hset H p
  have hv : ¬ (m.votes.length : Int) < maj m.members := by omega
  have g0 := freshB hf
  have g1 := freshA hf 1
  have hpn : p ≠ nx := by intro e; subst e; rw [g0] at hp; cases hp
  have hpn1 : p ≠ nx + 1 := by intro e; subst e; rw [g1] at hp; cases hp
  have n1 : (nx == p) = false := by simpa using fun e => hpn e.symm
  have n2 : (nx + 1 == p) = false := by simpa using fun e => hpn1 e.symm
  have n3 : (nx + 1 == nx) = false := beqB 0 nx
  have n4 := fun c => aget_hset_ne (H := H) (c := c) hpn
  have n5 := fun c => aget_hset_ne (H := H) (c := c) hpn1
  have m0 : (0 : Int) ≤ m.members := by omega
  have m1 : (m.members.toNat * 8 ≤ maxBytes) = True := by simp [maxBytes]; omega
  have m2 : (0 : Int) ≤ m.id - 1 := by omega
  have m3 : m.id - 1 < (m.members.toNat : Int) := by omega
  have hlt : (m.id - 1).toNat < m.members.toNat := by omega
  have m4 : (intsPV (List.replicate m.members.toNat 0))[(m.id - 1).toNat]? = some [.int .i64 0] := by
    rw [intsPV_get _ _ (by simpa using hlt)]
    simp [intPV]
  have m5 : (m.members ≤ 140737488355328) = True := by simp; omega
  have hpa : p ≠ a := by intro e; subst e; rw [ha] at hp; cases hp
  have hxa : a ≠ nx := by intro e; subst e; rw [g0] at ha; cases ha
  have hxa1 : a ≠ nx + 1 := by intro e; subst e; rw [g1] at ha; cases ha
  have n6 : (nx == a) = false := by simpa using fun e => hxa e.symm
  have n7 : (nx + 1 == a) = false := by simpa using fun e => hxa1 e.symm
  have n8 := fun c => (aget_hset_ne (H := H) (c := c) hpa).trans ha
  refine BS_of (af := a78) rfl rfl ?_
  unfold a78
  dsimp only [List.map, ofPV, initEnv]
  repeat' (first | exact ps25 m.members (by omega) | (simp (disch := omega) only [go_sem, seval, reduceCtorEq, hp, e1, e2, hv, n1, n2, n3, n4, n5, n6, n7, n8, g0, g1, m0, m1, m5, zeros, List.length_replicate, Nat.add_assoc, intsPV_length]) | with_reducible exact Ev.mk | apply x_call | ((first | apply x_split | apply x_splitg) <;> intro hβ hb <;> (simp (disch := omega) only [go_sem, seval, reduceCtorEq, hp, e1, e2, hv, n1, n2, n3, n4, n5, n6, n7, n8, g0, g1, m0, m1, m5, zeros, List.length_replicate, Nat.add_assoc, intsPV_length, hβ]) <;> clear hβ))
  refine W_round ?_
  rw [← fillN_zero (m.log.length : Int)]
  refine l84 { m with role := 3 } a _ _ nx p ?_ (e1 _) (n8 _) n6 n7 hl n1 n2 hm m0 _ ?_ m.members.toNat 0 (Nat.zero_add _)
  · simp [fillN]
  · (try simp (disch := omega) only [go_sem, seval, reduceCtorEq, dC, e1, n1, n2, n3, n6, n7, n8, m2, m3, m4, fillN_zero, intPV, List.length_replicate, itemsPV_length, intsPV_length, intsPV_set])
    simp [leadM, dC]

theorem bs84b (m : M) (a : Nat) (q : Bool) (n k : DV) (H : Heap) (nx p : Nat) (hp : aget H p = some (.var false (dC m (.ref a m.log.length 0 m.log.length) (.p (.slice q (intsPV m.votes))) n k))) (hm : m.members ≤ 10000) (hw : ¬ maj m.members ≤ (m.votes.length : Int)) :
    BS tb 78 [.ptr p 0] H nx (.tuple []) H nx := by
  unfold dC at hp
  have hv : (m.votes.length : Int) < maj m.members := by omega
  refine BS_of (af := a78) rfl rfl ?_
  unfold a78
  dsimp only [List.map, ofPV, initEnv]
  repeat' (first | exact ps25 m.members (by omega) | (simp (disch := omega) only [go_sem, seval, reduceCtorEq, hp, hv, intsPV_length]) | with_reducible exact Ev.mk | apply x_call | ((first | apply x_split | apply x_splitg) <;> intro hβ hb <;> (simp (disch := omega) only [go_sem, seval, reduceCtorEq, hp, hv, intsPV_length, hβ]) <;> clear hβ))
  all_goals simp

end Go.Dv.Try
