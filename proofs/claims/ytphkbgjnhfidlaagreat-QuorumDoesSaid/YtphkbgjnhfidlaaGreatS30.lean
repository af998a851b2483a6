/-
  Specifications of the functions of this claim, parts 30, 31.
-/
import Derived.Test.YtphkbgjnhfidlaaGreatTab
import Derived.Test.YtphkbgjnhfidlaaGreatStep
import Derived.Test.YtphkbgjnhfidlaaGreatS1
import Derived.Test.YtphkbgjnhfidlaaGreatS7
import Derived.Test.YtphkbgjnhfidlaaGreatS8
import Derived.Test.YtphkbgjnhfidlaaGreatS12
import Derived.Test.YtphkbgjnhfidlaaGreatS16
import Derived.Test.YtphkbgjnhfidlaaGreatS24
set_option linter.unusedVariables false
set_option linter.unusedSimpArgs false
set_option maxRecDepth 100000
set_option maxHeartbeats 16000000
namespace Go.Dv.Tryz
open Go Go.Dv

def rowsT (l : List X) : List (List PV) := l.map fun y => xC y true

theorem rowsT_length (l : List X) : (rowsT l).length = l.length := by simp [rowsT]

theorem rowsT_sz (l : List X) : allSz 9 (rowsT l) = true := by simp [allSz, rowsT, xC]

theorem rowsT_append (a b : List X) : rowsT a ++ rowsT b = rowsT (a ++ b) := by simp [rowsT]

theorem rowsT_sing (a b c d e f g : Int) (o : Bool) : [[PV.int .i64 a, .int .i64 b, .int .i64 c, .int .i64 d, .int .i64 e, .int .i64 f, .int .i64 g, .bool o, .slice true []]] = rowsT [⟨a, b, c, d, e, f, g, o, []⟩] := rfl

theorem rowsT_take (a : List X) (n : Nat) : (rowsT a).take n = rowsT (a.take n) := by simp [rowsT, List.map_take]

theorem asksN_length (m : M) (k : Nat) : (asksN m k).length ≤ k := by
  induction k with
  | zero => simp [asksN]
  | succ k ih => simp only [asksN]; split <;> (try simp only [List.length_append, List.length_cons, List.length_nil]) <;> omega

theorem cand_eq {m : M} (hn : m.next = []) (hm : m.mtch = []) : candM m = ⟨m.id, m.members, m.term + 1, m.id, m.log, 2, m.commit, [m.id], [], []⟩ := by
  unfold candM
  rw [hn, hm]

theorem free_lists {m : M} (h : okM m = true) (hr : ¬ m.role = 3) : m.next = [] ∧ m.mtch = [] := by
  obtain ⟨_, hh⟩ := (okM_iff m).1 h
  rcases hh with ⟨_, _, a, b⟩ | ⟨_, _, _, _, a, b⟩ | ⟨r, _⟩
  · exact ⟨a, b⟩
  · exact ⟨a, b⟩
  · exact absurd r hr

theorem l33 (m c : M) (f g : Fl) (hme : m.members ≤ 100) (hl : m.log.length ≤ 100000) (h1 : c.id = m.id) (h2 : c.log = m.log) (h3 : c.members = m.members) (K : Ex → St → Prop)
    (hx : K (.exit 0) ⟨[(2, .ptr 1 0), (4, .ptr 2 0), (5, .ref 3 (asks c).length 0 (asks c).length)], [(3, .row false 9 (rowsT (asks c))), (2, .var false ((mC c g).map .p)), (1, .var false (zC.map .p))], 4, [0]⟩) :
    ∀ (n k : Nat), k + n = m.members.toNat →
    W tb a42_l0 ⟨[(1, .ptr 0 0), (2, .ptr 1 0), (4, .ptr 2 0), (5, .ref 3 (asksN c k).length 0 (asksN c k).length), (6, .p (.int .i64 (k + 1 : Nat)))], [(3, .row false 9 (rowsT (asksN c k))), (2, .var false ((mC c g).map .p)), (1, .var false (zC.map .p)), (0, .var false ((mC m f).map .p))], 4, [0]⟩ (LK tb (.ghost .lower a42_l0) K) := by
  intro n
  induction n with
  | zero =>
    intro k hk
    have h1 : ¬ ((k + 1 : Nat) : Int) ≤ m.members := by omega
    refine i_code (by unfold a42_l0; exact rfl) ?_
    repeat' (first | (simp (disch := omega) only [go_sem, seval, reduceCtorEq, h1, mC, zC]) | with_reducible exact Ev.mk | ((first | apply x_split | apply x_splitg) <;> intro hβ hb <;> (try simp only [hβ]) <;> clear hβ))
    have e : k = c.members.toNat := by omega
    subst e
    exact hx
  | succ n ih =>
    intro k hk
    have g1 : ((k + 1 : Nat) : Int) ≤ m.members := by omega
    have bl := asksN_length c k
    have := ih (k + 1) (by omega)
    refine i_code (by unfold a42_l0; exact rfl) ?_
    by_cases e : ((k + 1 : Nat) : Int) = m.id
    · have e1 : (((k + 1 : Nat) : Int) != m.id) = false := by simpa using e
      rw [asksN, if_pos (by rw [h1]; exact e)] at this
      repeat' (first | (simp (disch := omega) only [go_sem, seval, reduceCtorEq, g1, e1, mC, zC]) | with_reducible exact Ev.mk | ((first | apply x_split | apply x_splitg) <;> intro hβ hb <;> (try simp only [hβ]) <;> clear hβ))
      refine i_lk (W_round ?_)
      (try simp (disch := omega) only [go_sem, seval, reduceCtorEq, mC, zC])
      exact this
    · have e1 : (((k + 1 : Nat) : Int) != m.id) = true := by simpa using e
      rw [asksN, if_neg (by rw [h1]; exact e)] at this
      simp only [askX, h1, h2, List.length_append, List.length_cons, List.length_nil, Nat.zero_add] at this
      repeat' (first | exact ps82 m.log _ hl | (simp (disch := omega) only [go_sem, seval, reduceCtorEq, g1, e1, mC, zC, itemsPV_length, rowsT_sing, rowsT_sz, rowsT_append, rowsT_length, List.take_length, List.length_append, maxB]) | with_reducible exact Ev.mk | apply x_call | ((first | apply x_split | apply x_splitg) <;> intro hβ hb <;> (try simp only [hβ]) <;> clear hβ))
      refine i_lk (W_round ?_)
      (try simp (disch := omega) only [go_sem, seval, reduceCtorEq, mC, zC])
      exact this

theorem ps33 (m : M) (f : Fl) (hm : MFew m) : ∃ g b, PS tb 42 [.agg (mC m f)] (.tuple [.agg (mC (timeoutR m).1 g), .slice b (rowsT (timeoutR m).2)]) := by
  have := hm.few1; have := hm.few2; have := hm.few3; have := hm.few4
  by_cases ho : okM m = true
  · by_cases hr : m.role = 3
    · have hR : timeoutR m = (m, []) := if_neg fun h => h.2.1 hr
      have hr2 : (m.role == 3) = true := by simpa using hr
      refine ⟨f, true, ?_⟩
      rw [hR]
      refine PS_of (af := a42) rfl rfl ?_
      unfold a42
      dsimp only [List.map, ofPV, initEnv]
      repeat' (first | exact ps29 m f hm.toMIn | (simp (disch := omega) only [go_sem, seval, reduceCtorEq, mC, ho, hr2]) | with_reducible exact Ev.mk | apply x_call | ((first | apply x_split | apply x_splitg) <;> intro hβ hb <;> (try simp only [hβ]) <;> clear hβ))
      all_goals rfl
    · have hr2 : (m.role == 3) = false := by simpa using hr
      by_cases ht : m.term = 1099511627776
      · have hR : timeoutR m = (m, []) := if_neg fun h => h.2.2 ht
        have ht2 : (m.term == 1099511627776) = true := by simpa using ht
        refine ⟨f, true, ?_⟩
        rw [hR]
        refine PS_of (af := a42) rfl rfl ?_
        unfold a42
        dsimp only [List.map, ofPV, initEnv]
        repeat' (first | exact ps29 m f hm.toMIn | (simp (disch := omega) only [go_sem, seval, reduceCtorEq, mC, ho, hr2, ht2]) | with_reducible exact Ev.mk | apply x_call | ((first | apply x_split | apply x_splitg) <;> intro hβ hb <;> (try simp only [hβ]) <;> clear hβ))
        all_goals rfl
      · have hR : timeoutR m = (wonM (candM m), asks (candM m)) := if_pos ⟨ho, hr, ht⟩
        have ht2 : (m.term == 1099511627776) = false := by simpa using ht
        obtain ⟨hh, _⟩ := (okM_iff m).1 ho
        have := hh.te1; have := hh.te2; have := hh.me2; have := hh.id1; have := hh.me1
        obtain ⟨hn, hq⟩ := free_lists ho hr
        have hcand := cand_eq hn hq
        rw [hcand] at hR
        obtain ⟨g, q1⟩ := ps86 ⟨m.id, m.members, m.term + 1, m.id, m.log, 2, m.commit, [m.id], [], []⟩ ⟨f.a, true, true, true⟩ hh.id1 (by show m.members ≤ 10000; omega) (by show m.log.length ≤ 9223372036854775807; omega) (by show (1 : Nat) ≤ 9223372036854775807; omega) hh.me1
        have al := asksN_length ⟨m.id, m.members, m.term + 1, m.id, m.log, 2, m.commit, [m.id], [], []⟩ m.members.toNat
        have loop := l33 m ⟨m.id, m.members, m.term + 1, m.id, m.log, 2, m.commit, [m.id], [], []⟩ f ⟨f.a, true, true, true⟩ (by omega) (by omega) rfl rfl rfl
        refine ⟨g, false, ?_⟩
        rw [hR]
        generalize wonM _ = w at q1 ⊢
        refine PS_of (af := a42) rfl rfl ?_
        unfold a42
        dsimp only [List.map, ofPV, initEnv]
        repeat' (first | exact ps29 m f hm.toMIn | exact ps85 m f _ | (simp (disch := omega) only [go_sem, seval, reduceCtorEq, mC, ho, hr2, ht2]) | with_reducible exact Ev.mk | apply x_call | ((first | apply x_split | apply x_splitg) <;> intro hβ hb <;> (try simp only [hβ]) <;> clear hβ))
        refine W_round ?_
        (try simp (disch := omega) only [go_sem, seval, reduceCtorEq, mC, zC])
        refine loop _ ?_ m.members.toNat 0 (by omega)
        generalize asks _ = o
        repeat' (first | exact q1 | (simp (disch := omega) only [go_sem, seval, reduceCtorEq, mC, zC, rowsT_length, List.take_length, rowsT_take]) | with_reducible exact Ev.mk | apply x_call | ((first | apply x_split | apply x_splitg) <;> intro hβ hb <;> (try simp only [hβ]) <;> clear hβ))
        all_goals ((try simp (disch := omega) only [go_sem, seval, reduceCtorEq, mC, rowsT_length, rowsT_take, List.take_length]) <;> rfl)
  · have hR : timeoutR m = (m, []) := if_neg fun h => ho h.1
    have ho2 : okM m = false := by simpa using ho
    refine ⟨f, true, ?_⟩
    rw [hR]
    refine PS_of (af := a42) rfl rfl ?_
    unfold a42
    dsimp only [List.map, ofPV, initEnv]
    repeat' (first | exact ps29 m f hm.toMIn | (simp (disch := omega) only [go_sem, seval, reduceCtorEq, mC, ho2]) | with_reducible exact Ev.mk | apply x_call | ((first | apply x_split | apply x_splitg) <;> intro hβ hb <;> (try simp only [hβ]) <;> clear hβ))
    all_goals rfl

theorem bs83 (m : M) (f : Fl) (H : Heap) (nx : Nat) (hf : ∀ j, nx ≤ j → aget H j = none) (h1 : m.log.length ≤ 100000) (h2 : m.votes.length ≤ 100000) (h3 : m.next.length ≤ 100000) (h4 : m.mtch.length ≤ 100000) :
    BS tb 73 [.agg ((mC m f).map .p)] H nx (.agg (rC m nx)) ((nx + 5, .row false 1 (intsPV m.mtch)) :: (nx + 4, .row false 1 (intsPV m.next)) :: (nx + 3, .row false 1 (intsPV m.votes)) :: (nx + 2, .row false 2 (itemsPV m.log)) ::
      (nx + 1, .var false (rC m nx)) :: (nx, .var false (rC m nx)) :: H) (nx + 6) := by
  have e0 := freshB hf
  have e1 := freshA hf 1
  have q1 : (nx == nx + 1) = false := beqC 0 nx
  have q2 : (nx + 1 == nx) = false := beqB 0 nx
  have q3 : (nx + 2 == nx) = false := beqB 1 nx
  have q4 : (nx + 3 == nx) = false := beqB 2 nx
  have q5 : (nx + 4 == nx) = false := beqB 3 nx
  have q6 : (nx + 5 == nx) = false := beqB 4 nx
  refine BS_of (af := a73) rfl rfl ?_
  unfold a73
  dsimp only [List.map, ofPV, initEnv]
  repeat' (first | exact bs97 _ _ _ _ h1 | exact bs129 _ _ _ _ (by assumption) | (simp (disch := omega) only [go_sem, seval, reduceCtorEq, mC, e0, e1, beqA, q1, q2, q3, q4, q5, q6, Nat.add_assoc]) | with_reducible exact Ev.mk | apply x_callr | ((first | apply x_split | apply x_splitg) <;> intro hβ hb <;> (try simp only [hβ]) <;> clear hβ))
  simp [rC]

theorem aget_hset {H : Heap} {p : Nat} {b c : Blk} (h : aget H p = some b) : aget (hset H p c) p = some c := by
  induction H with
  | nil => simp [aget] at h
  | cons x r ih =>
    obtain ⟨k, v⟩ := x
    cases e : (k == p) with
    | true => simp [hset, e, aget]
    | false => simp only [aget, e, Bool.false_eq_true, if_false] at h; simp only [hset, e, aget, Bool.false_eq_true, if_false]; exact ih h

theorem hset_hset (H : Heap) (p : Nat) (b c : Blk) : hset (hset H p b) p c = hset H p c := by
  induction H with
  | nil => rfl
  | cons x r ih =>
    obtain ⟨k, v⟩ := x
    cases e : (k == p) with
    | true => simp [hset, e]
    | false => simp only [hset, e, Bool.false_eq_true, if_false, ih]

def dC (m : M) (l v n k : DV) : List DV := [.p (.int .i64 m.id), .p (.int .i64 m.members), .p (.int .i64 m.term), .p (.int .i64 m.vote), l, .p (.int .i64 m.role), .p (.int .i64 m.commit), v, n, k]

theorem bs89 (m : M) (a b : Nat) (v n k : DV) (t : Int) (H : Heap) (nx p : Nat) (hp : aget H p = some (.var false (dC m (.ref a b 0 b) v n k))) :
    BS tb 113 [.ptr p 0, .p (.int .i64 t)] H nx (.tuple []) (hset H p (.var false (dC (followM m t) (.ref a b 0 b) (.p (.slice true [])) (.p (.slice true [])) (.p (.slice true []))))) nx := by
  unfold dC at hp
  refine BS_of (af := a113) rfl rfl ?_
  unfold a113
  dsimp only [List.map, ofPV, initEnv]
  repeat' (first | (simp (disch := omega) only [go_sem, seval, reduceCtorEq, hp]) | with_reducible exact Ev.mk | ((first | apply x_split | apply x_splitg) <;> intro hβ hb <;> (try simp only [hβ]) <;> clear hβ))
  simp [dC, followM]

theorem aget_hset_ne {H : Heap} {p q : Nat} {c : Blk} (h : p ≠ q) : aget (hset H p c) q = aget H q := by
  induction H with
  | nil => rfl
  | cons x r ih =>
    obtain ⟨k, v⟩ := x
    cases e : (k == p) with
    | true =>
      have : k = p := by simpa using e
      have e2 : (k == q) = false := by simpa [this] using h
      simp only [hset, e, if_true, aget, e2, Bool.false_eq_true, if_false]
    | false => simp only [hset, e, aget, Bool.false_eq_true, if_false, ih]

def fillN (x : Int) (n i : Nat) : List Int := List.replicate i x ++ List.replicate (n - i) 0

theorem fillN_len (x : Int) (n i : Nat) (h : i ≤ n) : (fillN x n i).length = n := by simp [fillN]; omega

theorem fillN_set (x : Int) (n i : Nat) (h : i < n) : (fillN x n i).set i x = fillN x n (i + 1) := by
  refine List.ext_getElem (by simp [fillN]; omega) ?_
  intro j h1 h2
  simp only [fillN, List.getElem_set, List.getElem_append, List.getElem_replicate, List.length_replicate]
  split <;> split <;> (try split) <;> first | rfl | omega

theorem fillN_zero (x : Int) (n : Nat) : fillN x n 0 = List.replicate n 0 := by simp [fillN]

theorem fillN_all (x : Int) (n : Nat) : fillN x n n = List.replicate n x := by simp [fillN]

theorem zeros (n : Nat) : List.replicate n [PV.int .i64 0] = intsPV (List.replicate n 0) := by simp [intsPV, intPV]

theorem intsPV_at (l : List Int) (i : Nat) (h : i < l.length) : (intsPV l)[i]? = some (intPV l[i]) := intsPV_get l i h

theorem l84 (m : M) (a : Nat) (z : List Int) (H : Heap) (nx p : Nat) (hz : z.length = m.members.toNat) (hp : aget H p = some (.var false (dC m (.ref a m.log.length 0 m.log.length) (.p (.slice true [])) (.ref nx m.members.toNat 0 m.members.toNat) (.ref (nx + 1) m.members.toNat 0 m.members.toNat))))
    (ha : aget H a = some (.row false 2 (itemsPV m.log))) (n6 : (nx == a) = false) (n7 : (nx + 1 == a) = false) (hl : m.log.length ≤ 100000) (n1 : (nx == p) = false) (n2 : (nx + 1 == p) = false) (hm : m.members ≤ 10000) (h0 : 0 ≤ m.members) (K : Ex → St → Prop)
    (hx : K (.exit 0) ⟨[(0, .ptr p 0)], (nx + 1, .row false 1 (intsPV z)) :: (nx, .row false 1 (intsPV (List.replicate m.members.toNat (m.log.length : Int)))) :: H, nx + 2, [nx]⟩) : ∀ (n i : Nat), i + n = m.members.toNat →
    W tb a74_l0 ⟨[(0, .ptr p 0), (49, .p (.int .i64 m.members.toNat)), (50, .p (.int .i64 i))], (nx + 1, .row false 1 (intsPV z)) :: (nx, .row false 1 (intsPV (fillN (m.log.length : Int) m.members.toNat i))) :: H, nx + 2, [nx]⟩ (LK tb a74_l0 K) := by
  unfold dC at hp
  have n3 : (nx + 1 == nx) = false := beqB 0 nx
  intro n
  induction n with
  | zero =>
    intro i hi
    have h1 : ¬ (i : Int) < (m.members.toNat : Int) := by omega
    have e : i = m.members.toNat := by omega
    subst e
    rw [fillN_all]
    refine i_code (by unfold a74_l0; exact rfl) ?_
    repeat' (first | (simp (disch := omega) only [go_sem, seval, reduceCtorEq, h1]) | with_reducible exact Ev.mk | ((first | apply x_split | apply x_splitg) <;> intro hβ hb <;> (try simp only [hβ]) <;> clear hβ))
    exact hx
  | succ n ih =>
    intro i hi
    have h1 : (i : Int) < (m.members.toNat : Int) := by omega
    have h2 : i < m.members.toNat := by omega
    have h3 := fillN_len (m.log.length : Int) m.members.toNat i (by omega)
    have h4 : (0 : Int) ≤ i := by omega
    have h5 := intsPV_at (fillN (m.log.length : Int) m.members.toNat i) i (by omega)
    have h6 := fillN_set (m.log.length : Int) m.members.toNat i h2
    refine i_code (by unfold a74_l0; exact rfl) ?_
    repeat' (first | (simp (disch := omega) only [go_sem, seval, reduceCtorEq, hp, ha, n1, n2, n3, n6, n7, h1, h3, h4, h5, h6, intPV, itemsPV_length, intsPV_length, intsPV_set]) | with_reducible exact Ev.mk | ((first | apply x_split | apply x_splitg) <;> intro hβ hb <;> (try simp only [hβ]) <;> clear hβ))
    refine i_lk (W_round ?_)
    exact ih (i + 1) (by omega)

theorem bs84a (m : M) (a : Nat) (q : Bool) (n k : DV) (H : Heap) (nx p : Nat) (hp : aget H p = some (.var false (dC m (.ref a m.log.length 0 m.log.length) (.p (.slice q (intsPV m.votes))) n k))) (ha : aget H a = some (.row false 2 (itemsPV m.log))) (hf : ∀ j, nx ≤ j → aget H j = none) (hm : m.members ≤ 10000) (h0 : 1 ≤ m.id) (h1 : m.id ≤ m.members) (hl : m.log.length ≤ 100000) (hw : maj m.members ≤ (m.votes.length : Int)) :
    BS tb 74 [.ptr p 0] H nx (.tuple []) ((nx + 1, .row false 1 (intsPV (leadM m).mtch)) :: (nx, .row false 1 (intsPV (leadM m).next)) :: hset H p (.var false (dC (leadM m) (.ref a m.log.length 0 m.log.length) (.p (.slice true [])) (.ref nx m.members.toNat 0 m.members.toNat) (.ref (nx + 1) m.members.toNat 0 m.members.toNat)))) (nx + 2) := by
  unfold dC at hp
  have e1 := fun b => aget_hset (c := b) hp
  have e2 := hset_hset H p
  have hv : ¬ (m.votes.length : Int) < maj m.members := by omega
  have g0 := freshB hf
  have g1 := freshA hf 1
  have hpn : p ≠ nx := by intro e; subst e; rw [g0] at hp; cases hp
  have hpn1 : p ≠ nx + 1 := by intro e; subst e; rw [g1] at hp; cases hp
  have n1 : (nx == p) = false := by simpa using fun e => hpn e.symm
  have n2 : (nx + 1 == p) = false := by simpa using fun e => hpn1 e.symm
  have n3 : (nx + 1 == nx) = false := beqB 0 nx
  have n4 := fun c => aget_hset_ne (H := H) (c := c) hpn
  have n5 := fun c => aget_hset_ne (H := H) (c := c) hpn1
  have m0 : (0 : Int) ≤ m.members := by omega
  have m1 : (m.members.toNat * 8 ≤ maxBytes) = True := by simp [maxBytes]; omega
  have m2 : (0 : Int) ≤ m.id - 1 := by omega
  have m3 : m.id - 1 < (m.members.toNat : Int) := by omega
  have hlt : (m.id - 1).toNat < m.members.toNat := by omega
  have m4 : (intsPV (List.replicate m.members.toNat 0))[(m.id - 1).toNat]? = some [.int .i64 0] := by
    rw [intsPV_get _ _ (by simpa using hlt)]
    simp [intPV]
  have m5 : (m.members ≤ 140737488355328) = True := by simp; omega
  have hpa : p ≠ a := by intro e; subst e; rw [ha] at hp; cases hp
  have hxa : a ≠ nx := by intro e; subst e; rw [g0] at ha; cases ha
  have hxa1 : a ≠ nx + 1 := by intro e; subst e; rw [g1] at ha; cases ha
  have n6 : (nx == a) = false := by simpa using fun e => hxa e.symm
  have n7 : (nx + 1 == a) = false := by simpa using fun e => hxa1 e.symm
  have n8 := fun c => (aget_hset_ne (H := H) (c := c) hpa).trans ha
  refine BS_of (af := a74) rfl rfl ?_
  unfold a74
  dsimp only [List.map, ofPV, initEnv]
  repeat' (first | exact ps25 m.members (by omega) | (simp (disch := omega) only [go_sem, seval, reduceCtorEq, hp, e1, e2, hv, n1, n2, n3, n4, n5, n6, n7, n8, g0, g1, m0, m1, m5, zeros, List.length_replicate, Nat.add_assoc, intsPV_length]) | with_reducible exact Ev.mk | apply x_call | ((first | apply x_split | apply x_splitg) <;> intro hβ hb <;> (try simp only [hβ]) <;> clear hβ))
  refine W_round ?_
  rw [← fillN_zero (m.log.length : Int)]
  refine l84 { m with role := 3 } a _ _ nx p ?_ (e1 _) (n8 _) n6 n7 hl n1 n2 hm m0 _ ?_ m.members.toNat 0 (Nat.zero_add _)
  · simp [fillN]
  · (try simp (disch := omega) only [go_sem, seval, reduceCtorEq, dC, e1, n1, n2, n3, n6, n7, n8, m2, m3, m4, fillN_zero, intPV, List.length_replicate, itemsPV_length, intsPV_length, intsPV_set])
    simp [leadM, dC]

theorem bs84b (m : M) (a : Nat) (q : Bool) (n k : DV) (H : Heap) (nx p : Nat) (hp : aget H p = some (.var false (dC m (.ref a m.log.length 0 m.log.length) (.p (.slice q (intsPV m.votes))) n k))) (hm : m.members ≤ 10000) (hw : ¬ maj m.members ≤ (m.votes.length : Int)) :
    BS tb 74 [.ptr p 0] H nx (.tuple []) H nx := by
  unfold dC at hp
  have hv : (m.votes.length : Int) < maj m.members := by omega
  refine BS_of (af := a74) rfl rfl ?_
  unfold a74
  dsimp only [List.map, ofPV, initEnv]
  repeat' (first | exact ps25 m.members (by omega) | (simp (disch := omega) only [go_sem, seval, reduceCtorEq, hp, hv, intsPV_length]) | with_reducible exact Ev.mk | apply x_call | ((first | apply x_split | apply x_splitg) <;> intro hβ hb <;> (try simp only [hβ]) <;> clear hβ))
  all_goals simp

end Go.Dv.Tryz
