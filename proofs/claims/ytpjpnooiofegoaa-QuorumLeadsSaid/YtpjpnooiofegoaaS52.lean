/-
  Specifications of the functions of this claim, parts 52, 56, 21, 57, 20, 58, 21, 59, 22.
-/
import Derived.Test.YtpjpnooiofegoaaTab
import Derived.Test.YtpjpnooiofegoaaStep
import Derived.Test.YtpjpnooiofegoaaS1
import Derived.Test.YtpjpnooiofegoaaS7
import Derived.Test.YtpjpnooiofegoaaS12
import Derived.Test.YtpjpnooiofegoaaS16
import Derived.Test.YtpjpnooiofegoaaS17
import Derived.Test.YtpjpnooiofegoaaS18
import Derived.Test.YtpjpnooiofegoaaS20
import Derived.Test.YtpjpnooiofegoaaS24
import Derived.Test.YtpjpnooiofegoaaS29
import Derived.Test.YtpjpnooiofegoaaS42
import Derived.Test.YtpjpnooiofegoaaS46
import Derived.Test.YtpjpnooiofegoaaS49
set_option linter.unusedVariables false
set_option linter.unusedSimpArgs false
set_option maxRecDepth 100000
set_option maxHeartbeats 16000000
namespace Go.Dv.Try
open Go Go.Dv

/-- Numbers in order, within bounds: how many there can be. -/
theorem asc_len : ∀ (l : List Int) (a b : Int), l.Pairwise (· < ·) → (∀ x ∈ l, a ≤ x ∧ x ≤ b) → (l.length : Int) ≤ max (b - a + 1) 0
  | [], a, b, _, _ => by simp; omega
  | x :: r, a, b, hp, hb => by
    obtain ⟨h1, h2⟩ := List.pairwise_cons.1 hp
    have hx := hb x (by simp)
    have := asc_len r (x + 1) b h2 fun y hy => by have := h1 y hy; have := hb y (by simp [hy]); omega
    simp only [List.length_cons]
    omega

/-- Two lists in order without a common number: both fit side by side. -/
theorem asc_two : ∀ (n : Nat) (l k : List Int) (a b : Int), l.length + k.length = n → l.Pairwise (· < ·) → k.Pairwise (· < ·) → (∀ x ∈ l, a ≤ x ∧ x ≤ b) → (∀ x ∈ k, a ≤ x ∧ x ≤ b) → (∀ x ∈ l, x ∉ k) → ((l.length + k.length : Nat) : Int) ≤ max (b - a + 1) 0
  | 0, l, k, a, b, hn, _, _, _, _, _ => by omega
  | n + 1, [], k, a, b, _, _, hk, _, kb, _ => by simpa using asc_len k a b hk kb
  | n + 1, x :: r, [], a, b, _, hl, _, lb, _, _ => by simpa using asc_len (x :: r) a b hl lb
  | n + 1, x :: r, y :: s, a, b, hn, hl, hk, lb, kb, hd => by
    obtain ⟨l1, l2⟩ := List.pairwise_cons.1 hl
    obtain ⟨k1, k2⟩ := List.pairwise_cons.1 hk
    have hx := lb x (by simp); have hy := kb y (by simp)
    have ne : x ≠ y := fun e => hd x (by simp) (by simp [e])
    rcases Int.lt_or_lt_of_ne ne with h | h
    · have := asc_two n r (y :: s) (x + 1) b (by simp at hn ⊢; omega) l2 hk (fun z hz => by have := l1 z hz; have := lb z (by simp [hz]); omega)
        (fun z hz => by
          rcases List.mem_cons.1 hz with e | e
          · subst e; omega
          · have := k1 z e; have := kb z (by simp [e]); omega) (fun z hz => hd z (by simp [hz]))
      simp only [List.length_cons] at this ⊢
      omega
    · have := asc_two n (x :: r) s (y + 1) b (by simp at hn ⊢; omega) hl k2 (fun z hz => by
          rcases List.mem_cons.1 hz with e | e
          · subst e; omega
          · have := l1 z e; have := lb z (by simp [e]); omega)
        (fun z hz => by have := k1 z hz; have := kb z (by simp [hz]); omega) (fun z hz hs => hd z hz (by simp [hs]))
      simp only [List.length_cons] at this ⊢
      omega

/-- Two majorities have a member in common. -/
theorem maj_meet {n : Int} {l k : List Int} (hn : 1 ≤ n) (hl : l.Pairwise (· < ·)) (hk : k.Pairwise (· < ·)) (lb : ∀ x ∈ l, 1 ≤ x ∧ x ≤ n) (kb : ∀ x ∈ k, 1 ≤ x ∧ x ≤ n) (h1 : maj n ≤ (l.length : Int)) (h2 : maj n ≤ (k.length : Int)) : ∃ x, x ∈ l ∧ x ∈ k := by
  rcases Classical.em (∃ x, x ∈ l ∧ x ∈ k) with h | h
  · exact h
  · exfalso
    have := asc_two _ l k 1 n rfl hl hk lb kb (fun x hx hy => h ⟨x, hx, hy⟩)
    have hm : maj n = n / 2 + 1 := by unfold maj; split <;> omega
    rw [hm] at h1 h2
    omega

/-- A vote: who, in which term, for whom. -/
abbrev Ev := Int × Int × Int

theorem votes_bounds {m : M} (h : okVotes m = true) : m.votes.Pairwise (· < ·) ∧ ∀ x ∈ m.votes, 1 ≤ x ∧ x ≤ m.members := by
  simp only [okVotes, Bool.and_eq_true] at h
  exact vOK_all.1 h.1.1

abbrev It := Int × ByteArray

/-- Every item of a log stands in the log of its term's leader, with all before it. -/
def Good (LL : Int → List It) (Ld : Int → Option Int) (l : List It) : Prop := ∀ (k : Nat) (x : It), l[k]? = some x → (∃ c, Ld x.1 = some c) ∧ k < (LL x.1).length ∧ l.take (k + 1) = (LL x.1).take (k + 1)

theorem Good.take {LL Ld} {l : List It} (h : Good LL Ld l) (j : Nat) : Good LL Ld (l.take j) := by
  intro k x hx
  rw [List.getElem?_take] at hx
  split at hx
  · rename_i hk
    obtain ⟨a, b, c⟩ := h k x hx
    refine ⟨a, b, ?_⟩
    rw [List.take_take, Nat.min_eq_left (by omega), c]
  · cases hx

/-- Two good logs with an item of one number and term are equal up to it. -/
theorem good_match {LL Ld} {a b : List It} (ha : Good LL Ld a) (hb : Good LL Ld b) {k : Nat} {x y : It} (hx : a[k]? = some x) (hy : b[k]? = some y) (e : x.1 = y.1) : a.take (k + 1) = b.take (k + 1) := by
  rw [(ha k x hx).2.2, (hb k y hy).2.2, e]

theorem good_mono {LL LL' : Int → List It} {Ld Ld' : Int → Option Int} (ext : ∀ t c, Ld t = some c → Ld' t = some c ∧ LL t = (LL' t).take (LL t).length ∧ (LL t).length ≤ (LL' t).length) {l : List It} (h : Good LL Ld l) : Good LL' Ld' l := by
  intro k x hx
  obtain ⟨⟨c, hc⟩, b, e⟩ := h k x hx
  obtain ⟨e1, e2, e3⟩ := ext _ _ hc
  refine ⟨⟨c, e1⟩, by omega, ?_⟩
  rw [e, e2, List.take_take, Nat.min_eq_left (by omega)]

/-- An append's message is a piece of its term's leader's log. -/
def Piece (LL : Int → List It) (Ld : Int → Option Int) (y : X) : Prop :=
  (∃ c, Ld y.term = some c) ∧ y.index ≤ (LL y.term).length ∧ y.logTerm = termN (LL y.term) y.index ∧ y.items = ((LL y.term).drop y.index.toNat).take y.items.length

theorem termN_take {l : List It} {n : Int} {j : Nat} (h0 : 0 ≤ n) (h : n ≤ j) : termN (l.take j) n = termN l n := by
  unfold termN
  split
  · rfl
  · unfold itTerm
    rw [List.getD_eq_getElem?_getD, List.getD_eq_getElem?_getD, List.getElem?_take]
    rw [if_pos (by omega)]

theorem piece_mono {LL LL' : Int → List It} {Ld Ld' : Int → Option Int} (ext : ∀ t c, Ld t = some c → Ld' t = some c ∧ LL t = (LL' t).take (LL t).length ∧ (LL t).length ≤ (LL' t).length) {y : X} (h0 : 0 ≤ y.index) (h : Piece LL Ld y) : Piece LL' Ld' y := by
  obtain ⟨⟨c, hc⟩, a, b, d⟩ := h
  obtain ⟨e1, e2, e3⟩ := ext _ _ hc
  refine ⟨⟨c, e1⟩, by omega, ?_, ?_⟩
  · rw [b, e2]
    exact termN_take h0 (by omega)
  · have hl : y.items.length ≤ (LL y.term).length - y.index.toNat := by
      have := congrArg List.length d
      rw [List.length_take, List.length_drop] at this
      omega
    conv => lhs; rw [d, e2]
    rw [List.drop_take, List.take_take, Nat.min_eq_left (by omega)]

/-- What is so of a group at any time. -/
structure Raft (n : Nat) (g : List M) (S : List X) (E : List Ev) (LL : Int → List It) (Ld : Int → Option Int) : Prop where
  n1 : 1 ≤ n
  len : g.length = n
  ok : ∀ (i : Nat) m, g[i]? = some m → okM m = true ∧ m.id = (i + 1 : Nat) ∧ m.members = (n : Nat)
  msgs : ∀ y ∈ S, okX y n = true
  reps : ∀ y ∈ S, y.kind = 2 → y.ok = true → (y.frm, y.term, y.to) ∈ E
  fn : ∀ v t c d, (v, t, c) ∈ E → (v, t, d) ∈ E → c = d
  cur : ∀ v t c, (v, t, c) ∈ E → ∃ (i : Nat) (m : M), g[i]? = some m ∧ v = (i + 1 : Nat) ∧ t ≤ m.term ∧ (t = m.term → m.vote = c) ∧ c ≠ 0
  cand : ∀ (i : Nat) m, g[i]? = some m → m.role = 2 → (∀ v ∈ m.votes, (v, m.term, m.id) ∈ E) ∧ Ld m.term ≠ some m.id
  led : ∀ (i : Nat) m, g[i]? = some m → m.role = 3 → Ld m.term = some m.id ∧ m.log = LL m.term
  ldr : ∀ t c, Ld t = some c → (∃ V : List Int, V.Pairwise (· < ·) ∧ maj n ≤ (V.length : Int) ∧ ∀ v ∈ V, 1 ≤ v ∧ v ≤ n ∧ (v, t, c) ∈ E) ∧ ∃ (i : Nat) (m : M), g[i]? = some m ∧ c = (i + 1 : Nat) ∧ t ≤ m.term
  good : ∀ (i : Nat) m, g[i]? = some m → Good LL Ld m.log
  goodL : ∀ t c, Ld t = some c → Good LL Ld (LL t)
  app : ∀ y ∈ S, y.kind = 3 → Piece LL Ld y

/-- What a step of a member may be, seen from the group. -/
structure Step (n : Nat) (E : List Ev) (LL : Int → List It) (Ld : Int → Option Int) (m a : M) (O : List X) (E' : List Ev) (LL' : Int → List It) (Ld' : Int → Option Int) : Prop where
  ok : okM a = true
  id : a.id = m.id
  mem : a.members = m.members
  term : m.term ≤ a.term
  vote : a.term = m.term → m.vote ≠ 0 → a.vote = m.vote
  msgs : ∀ y ∈ O, okX y n = true
  reps : ∀ y ∈ O, y.kind = 2 → y.ok = true → (y.frm, y.term, y.to) ∈ E ++ E'
  ev : ∀ v t c, (v, t, c) ∈ E' → v = m.id ∧ t = a.term ∧ c = a.vote ∧ c ≠ 0
  cand : a.role = 2 → (∀ v ∈ a.votes, (v, a.term, a.id) ∈ E ++ E') ∧ Ld' a.term ≠ some a.id
  led : a.role = 3 → Ld' a.term = some a.id ∧ a.log = LL' a.term
  ext : ∀ t c, Ld t = some c → Ld' t = some c ∧ LL t = (LL' t).take (LL t).length ∧ (LL t).length ≤ (LL' t).length
  new : ∀ t c, Ld' t = some c → Ld t = some c ∨ (t = a.term ∧ c = a.id ∧ a.role = 3 ∧ ∃ V : List Int, V.Pairwise (· < ·) ∧ maj n ≤ (V.length : Int) ∧ ∀ v ∈ V, 1 ≤ v ∧ v ≤ n ∧ (v, t, c) ∈ E ++ E')
  chg : ∀ t, LL' t = LL t ∨ (t = a.term ∧ Ld' t = some a.id ∧ Good LL' Ld' (LL' t))
  good : Good LL' Ld' a.log
  app : ∀ y ∈ O, y.kind = 3 → Piece LL' Ld' y

theorem Raft.step {n : Nat} {g : List M} {S : List X} {E : List Ev} {LL : Int → List It} {Ld : Int → Option Int} (h : Raft n g S E LL Ld) {i : Nat} {m a : M} (hi : g[i]? = some m) {O : List X} {E' : List Ev} {LL' : Int → List It} {Ld' : Int → Option Int}
    (k : Step n E LL Ld m a O E' LL' Ld') : Raft n (g.set i a) (S ++ O) (E ++ E') LL' Ld' := by
  obtain ⟨hi1, hm⟩ := List.getElem?_eq_some_iff.1 hi
  obtain ⟨o1, o2, o3⟩ := h.ok i m hi
  have self : (g.set i a)[i]? = some a := by rw [List.getElem?_set]; simp [hi1]
  have get : ∀ j b, (g.set i a)[j]? = some b → (j = i ∧ b = a) ∨ (j ≠ i ∧ g[j]? = some b) := by
    intro j b hb
    by_cases e : j = i
    · subst e
      rw [self] at hb
      exact .inl ⟨rfl, (Option.some.inj hb).symm⟩
    · rw [List.getElem?_set_ne (fun x => e x.symm)] at hb
      exact .inr ⟨e, hb⟩
  refine ⟨h.n1, by rw [List.length_set]; exact h.len, ?_, ?_, ?_, ?_, ?_, ?_, ?_, ?_, ?_, ?_, ?_⟩
  · intro j b hb
    rcases get j b hb with ⟨e, rfl⟩ | ⟨e, hb⟩
    · subst e
      exact ⟨k.ok, by rw [k.id, o2], by rw [k.mem, o3]⟩
    · exact h.ok j b hb
  · intro y hy
    rcases List.mem_append.1 hy with hy | hy
    · exact h.msgs y hy
    · exact k.msgs y hy
  · intro y hy h1 h2
    rcases List.mem_append.1 hy with hy | hy
    · exact List.mem_append.2 (.inl (h.reps y hy h1 h2))
    · exact k.reps y hy h1 h2
  · intro v t c d h1 h2
    have old : ∀ c d, (v, t, c) ∈ E → (v, t, d) ∈ E' → c = d := by
      intro c d h1 h2
      obtain ⟨e1, e2, e3, e4⟩ := k.ev _ _ _ h2
      obtain ⟨j, b, f1, f2, f3, f4, f5⟩ := h.cur _ _ _ h1
      have ej : j = i := by rw [e1, o2] at f2; omega
      subst ej
      rw [hi] at f1
      obtain rfl := Option.some.inj f1
      have h3 := k.term
      have e6 : t = m.term := by omega
      have e7 := f4 e6
      have := k.vote (by omega) (by omega)
      omega
    rcases List.mem_append.1 h1 with h1 | h1 <;> rcases List.mem_append.1 h2 with h2 | h2
    · exact h.fn _ _ _ _ h1 h2
    · exact old c d h1 h2
    · exact (old d c h2 h1).symm
    · exact (k.ev _ _ _ h1).2.2.1.trans (k.ev _ _ _ h2).2.2.1.symm
  · intro v t c hv
    rcases List.mem_append.1 hv with hv | hv
    · obtain ⟨j, b, e1, e2, e3, e4, e5⟩ := h.cur v t c hv
      by_cases ej : j = i
      · subst ej
        rw [hi] at e1
        obtain rfl := Option.some.inj e1
        refine ⟨j, a, self, e2, Int.le_trans e3 k.term, fun e => ?_, e5⟩
        have h1 := k.term
        have e6 : t = m.term := by omega
        have e7 := e4 e6
        rw [k.vote (by omega) (by omega), e7]
      · exact ⟨j, b, by rw [List.getElem?_set_ne (fun x => ej x.symm)]; exact e1, e2, e3, e4, e5⟩
    · obtain ⟨e1, e2, e3, e4⟩ := k.ev v t c hv
      exact ⟨i, a, self, by rw [e1, o2], by omega, fun _ => e3.symm, e4⟩
  · intro j b hb hrole
    rcases get j b hb with ⟨e, rfl⟩ | ⟨e, hb⟩
    · exact k.cand hrole
    · obtain ⟨c1, c2⟩ := h.cand j b hb hrole
      refine ⟨fun v hv => List.mem_append.2 (.inl (c1 v hv)), fun hl => ?_⟩
      rcases k.new _ _ hl with e1 | ⟨_, e2, _, _⟩
      · exact c2 e1
      · have b2 := (h.ok j b hb).2.1
        rw [k.id, o2] at e2
        omega
  · intro j b hb hrole
    rcases get j b hb with ⟨e, rfl⟩ | ⟨e, hb⟩
    · exact k.led hrole
    · obtain ⟨c1, c2⟩ := h.led j b hb hrole
      refine ⟨(k.ext _ _ c1).1, ?_⟩
      rcases k.chg b.term with e1 | ⟨e1, e2, _⟩
      · rw [e1]; exact c2
      · have e3 := (k.ext _ _ c1).1
        rw [e3] at e2
        have e4 := Option.some.inj e2
        have b2 := (h.ok j b hb).2.1
        rw [k.id, o2] at e4
        omega
  · intro t c hc
    have old : ∀ (hc : Ld t = some c), (∃ V : List Int, V.Pairwise (· < ·) ∧ maj n ≤ (V.length : Int) ∧ ∀ v ∈ V, 1 ≤ v ∧ v ≤ n ∧ (v, t, c) ∈ E ++ E') ∧ ∃ (j : Nat) (b : M), (g.set i a)[j]? = some b ∧ c = (j + 1 : Nat) ∧ t ≤ b.term := by
      intro hc
      obtain ⟨⟨V, v1, v2, v3⟩, j, b, b1, b2, b3⟩ := h.ldr t c hc
      refine ⟨⟨V, v1, v2, fun v hv => ⟨(v3 v hv).1, (v3 v hv).2.1, List.mem_append.2 (.inl (v3 v hv).2.2)⟩⟩, ?_⟩
      by_cases ej : j = i
      · subst ej
        rw [hi] at b1
        obtain rfl := Option.some.inj b1
        exact ⟨j, a, self, b2, Int.le_trans b3 k.term⟩
      · exact ⟨j, b, by rw [List.getElem?_set_ne (fun x => ej x.symm)]; exact b1, b2, b3⟩
    rcases k.new t c hc with e | ⟨e1, e2, _, V⟩
    · exact old e
    · exact ⟨V, i, a, self, by rw [e2, k.id, o2], by omega⟩
  · intro j b hb
    rcases get j b hb with ⟨e, rfl⟩ | ⟨e, hb⟩
    · exact k.good
    · exact good_mono k.ext (h.good j b hb)
  · intro t c hc
    rcases k.chg t with e | ⟨e1, e2, e3⟩
    · rw [e]
      rcases k.new t c hc with e1 | ⟨e1, e2, e3, V, v1, v2, v3⟩
      · exact good_mono k.ext (h.goodL t c e1)
      · rw [← e, e1, ← (k.led e3).2]
        exact k.good
    · exact e3
  · intro y hy hk
    rcases List.mem_append.1 hy with hy | hy
    · exact piece_mono k.ext (okX_facts (h.msgs y hy)).2.2.2.2.2.2.2.2.2.1 (h.app y hy hk)
    · exact k.app y hy hk

theorem sameIt_refl (x : Int × ByteArray) : sameIt x x = true := by simp [sameIt]

theorem sameN_spec (log : List (Int × ByteArray)) : ∀ (l : List (Int × ByteArray)) (k j : Nat) (z : Int × ByteArray), j < sameN log k l → l[j]? = some z → ∃ y, log[k + j]? = some y ∧ sameIt y z = true
  | [], k, j, z, h, _ => by simp [sameN] at h
  | x :: r, k, j, z, h, hz => by
    simp only [sameN] at h
    split at h
    · rename_i y hy
      split at h
      · rename_i hs
        cases j with
        | zero => simp at hz; subst hz; exact ⟨y, hy, hs⟩
        | succ j =>
          simp at hz
          obtain ⟨y', e1, e2⟩ := sameN_spec log r (k + 1) j z (by omega) hz
          exact ⟨y', by rw [← e1]; congr 1; omega, e2⟩
      · omega
    · omega

section

variable {n : Nat} {g : List M} {S : List X} {E : List Ev} {LL : Int → List It} {Ld : Int → Option Int}

theorem ext_refl : ∀ t c, Ld t = some c → Ld t = some c ∧ LL t = (LL t).take (LL t).length ∧ (LL t).length ≤ (LL t).length :=
  fun t c h => ⟨h, (List.take_length).symm, Nat.le_refl _⟩

/-- A step that leaves the log, and wins nothing. -/
theorem Step.same (h : Raft n g S E LL Ld) {i : Nat} {m a : M} (hi : g[i]? = some m) (kp : Keeps m a) {O : List X} {E' : List Ev} (msgs : ∀ y ∈ O, okX y n = true) (reps : ∀ y ∈ O, y.kind = 2 → y.ok = true → (y.frm, y.term, y.to) ∈ E ++ E')
    (ev : ∀ v t c, (v, t, c) ∈ E' → v = m.id ∧ t = a.term ∧ c = a.vote ∧ c ≠ 0) (cand : a.role = 2 → (∀ v ∈ a.votes, (v, a.term, a.id) ∈ E ++ E') ∧ Ld a.term ≠ some a.id) (led : a.role = 3 → m.role = 3 ∧ a.term = m.term) (app : ∀ y ∈ O, y.kind = 3 → Piece LL Ld y) :
    Step n E LL Ld m a O E' LL Ld := by
  refine ⟨kp.ok, kp.id, kp.mem, kp.term, kp.vote, msgs, reps, ev, cand, ?_, ext_refl, fun t c hc => .inl hc, fun t => .inl rfl, by rw [kp.log]; exact h.good i m hi, app⟩
  intro hr
  obtain ⟨e1, e2⟩ := led hr
  obtain ⟨l1, l2⟩ := h.led i m hi e1
  exact ⟨by rw [e2, kp.id]; exact l1, by rw [kp.log, e2]; exact l2⟩

def upd {α : Type} (f : Int → α) (t : Int) (v : α) : Int → α := fun s => if s = t then v else f s

theorem upd_self {α : Type} (f : Int → α) (t : Int) (v : α) : upd f t v t = v := if_pos rfl

theorem upd_ne {α : Type} {f : Int → α} {t s : Int} {v : α} (h : s ≠ t) : upd f t v s = f s := if_neg h

/-- A step that wins an election: the leader's log is as it is. -/
theorem Step.win (h : Raft n g S E LL Ld) {i : Nat} {m a : M} (hi : g[i]? = some m) (kp : Keeps m a) {O : List X} {E' : List Ev} (msgs : ∀ y ∈ O, okX y n = true) (reps : ∀ y ∈ O, y.kind = 2 → y.ok = true → (y.frm, y.term, y.to) ∈ E ++ E')
    (ev : ∀ v t c, (v, t, c) ∈ E' → v = m.id ∧ t = a.term ∧ c = a.vote ∧ c ≠ 0) (hr : a.role = 3) (hn : Ld a.term = none) (V : ∃ V : List Int, V.Pairwise (· < ·) ∧ maj n ≤ (V.length : Int) ∧ ∀ v ∈ V, 1 ≤ v ∧ v ≤ n ∧ (v, a.term, a.id) ∈ E ++ E') (app : ∀ y ∈ O, y.kind ≠ 3) :
    Step n E LL Ld m a O E' (upd LL a.term a.log) (upd Ld a.term (some a.id)) := by
  have ext : ∀ t c, Ld t = some c → upd Ld a.term (some a.id) t = some c ∧ LL t = (upd LL a.term a.log t).take (LL t).length ∧ (LL t).length ≤ (upd LL a.term a.log t).length := by
    intro t c hc
    have ne : t ≠ a.term := fun e => by rw [e, hn] at hc; cases hc
    rw [upd_ne ne, upd_ne ne]
    exact ⟨hc, (List.take_length).symm, Nat.le_refl _⟩
  have gd : Good (upd LL a.term a.log) (upd Ld a.term (some a.id)) a.log := by
    rw [kp.log]
    have := good_mono ext (h.good i m hi)
    rw [← kp.log] at this ⊢
    exact this
  refine ⟨kp.ok, kp.id, kp.mem, kp.term, kp.vote, msgs, reps, ev, fun e => by omega, fun _ => ⟨upd_self _ _ _, (upd_self _ _ _).symm⟩, ext, ?_, ?_, gd, fun y hy e => absurd e (app y hy)⟩
  · intro t c hc
    by_cases e : t = a.term
    · subst e
      rw [upd_self] at hc
      have := Option.some.inj hc
      subst this
      exact .inr ⟨rfl, rfl, hr, V⟩
    · rw [upd_ne e] at hc
      exact .inl hc
  · intro t
    by_cases e : t = a.term
    · subst e
      right
      rw [upd_self, upd_self]
      exact ⟨rfl, rfl, gd⟩
    · left
      exact upd_ne e

/-- Nobody leads a term in which another majority is found. -/
theorem Raft.free (h : Raft n g S E LL Ld) {t d : Int} (V : ∃ V : List Int, V.Pairwise (· < ·) ∧ maj n ≤ (V.length : Int) ∧ ∀ v ∈ V, 1 ≤ v ∧ v ≤ n ∧ (v, t, d) ∈ E) (hd : Ld t ≠ some d) : Ld t = none := by
  cases hc : Ld t with
  | none => rfl
  | some c =>
    exfalso
    obtain ⟨V, v1, v2, v3⟩ := V
    obtain ⟨⟨U, u1, u2, u3⟩, _⟩ := h.ldr t c hc
    have := h.n1
    obtain ⟨x, hx, hy⟩ := maj_meet (n := n) (by omega) v1 u1 (fun x hx => ⟨(v3 x hx).1, (v3 x hx).2.1⟩) (fun x hx => ⟨(u3 x hx).1, (u3 x hx).2.1⟩) v2 u2
    have := h.fn _ _ _ _ (v3 x hx).2.2 (u3 x hy).2.2
    subst this
    exact hd hc

/-- A leader's term is its own. -/
theorem Raft.ahead (h : Raft n g S E LL Ld) {i : Nat} {m : M} (hi : g[i]? = some m) {t : Int} (ht : m.term < t) : Ld t ≠ some m.id := by
  intro hc
  obtain ⟨_, j, b, e1, e2, e3⟩ := h.ldr _ _ hc
  have := (h.ok i m hi).2.1
  have ej : j = i := by omega
  subst ej
  rw [hi] at e1
  obtain rfl := Option.some.inj e1
  omega

/-- An append: the log becomes a beginning of the leader's log, or stays. -/
theorem appended_good (h : Raft n g S E LL Ld) {i : Nat} {m : M} (hi : g[i]? = some m) {b : M} (hb : b.log = m.log) {x : X} (hx : Piece LL Ld x) (i0 : 0 ≤ x.index) (hm : missX b x = false) :
    Good LL Ld (logX b x) := by
  have gm := h.good i m hi
  obtain ⟨⟨c, hc⟩, p1, p2, p3⟩ := hx
  have gR := h.goodL _ _ hc
  simp only [missX, hb, Bool.or_eq_false_iff, Bool.and_eq_false_iff, decide_eq_false_iff_not] at hm
  obtain ⟨m1, m2⟩ := hm
  -- up to the index the logs are one
  have pre : m.log.take x.index.toNat = (LL x.term).take x.index.toNat := by
    by_cases z : x.index = 0
    · rw [z]; simp
    · have ht : termN m.log x.index = x.logTerm := by
        rcases m2 with e | e
        · exact absurd z (by simpa using e)
        · exact Decidable.not_not.1 e
      have k1 : (x.index - 1).toNat < m.log.length := by omega
      have k2 : (x.index - 1).toNat < (LL x.term).length := by omega
      have e1 : termN m.log x.index = m.log[(x.index - 1).toNat].1 := by rw [termN, if_neg z, itTerm_eq _ _ k1]
      have e2 : termN (LL x.term) x.index = (LL x.term)[(x.index - 1).toNat].1 := by rw [termN, if_neg z, itTerm_eq _ _ k2]
      have := good_match gm gR (List.getElem?_eq_getElem k1) (List.getElem?_eq_getElem k2) (by rw [← e1, ← e2, ht, p2])
      have e : (x.index - 1).toNat + 1 = x.index.toNat := by omega
      rw [e] at this
      exact this
  unfold logX
  split
  · rename_i hs
    have sp := sameN_spec m.log x.items x.index.toNat
    have s1 := sameN_le m.log x.items x.index.toNat
    have s2 := sameN_log m.log x.items x.index.toNat (by omega)
    have es : sameX b x = sameN m.log x.index.toNat x.items := by unfold sameX; rw [hb]
    rw [es] at hs ⊢
    rw [hb]
    generalize hw : sameN m.log x.index.toNat x.items = w at *
    have hlen : x.items.length ≤ (LL x.term).length - x.index.toNat := by
      have := congrArg List.length p3
      rw [List.length_take, List.length_drop] at this
      omega
    -- the first w items are the leader's
    have pre2 : m.log.take (x.index.toNat + w) = (LL x.term).take (x.index.toNat + w) := by
      refine List.ext_getElem? fun j => ?_
      rw [List.getElem?_take, List.getElem?_take]
      split
      · rename_i hj
        rcases Nat.lt_or_ge j x.index.toNat with hl | hl
        · have := congrArg (fun l => l[j]?) pre
          simp only [List.getElem?_take, if_pos hl] at this
          exact this
        · have hz : j - x.index.toNat < x.items.length := by omega
          obtain ⟨y, y1, y2⟩ := sp (j - x.index.toNat) x.items[j - x.index.toNat] (by omega) (List.getElem?_eq_getElem hz)
          have ej : x.index.toNat + (j - x.index.toNat) = j := by omega
          rw [ej] at y1
          rw [y1]
          have z1 : x.items[j - x.index.toNat]? = (LL x.term)[j]? := by
            have := congrArg (fun l => l[j - x.index.toNat]?) p3
            simp only [List.getElem?_take, if_pos hz, List.getElem?_drop, ej] at this
            exact this
          rw [← z1, List.getElem?_eq_getElem hz]
          simp only [sameIt, Bool.and_eq_true, beq_iff_eq] at y2
          refine congrArg some (Prod.ext y2.1 ?_)
          have e2 := y2.2
          rw [ByteArray.toList_eq, ByteArray.toList_eq] at e2
          exact ByteArray.ext (Array.toList_inj.1 e2)
      · rfl
    have all : m.log.take (x.index.toNat + w) ++ x.items.drop w = (LL x.term).take (x.index.toNat + x.items.length) := by
      rw [pre2]
      conv => lhs; rw [p3]
      rw [List.drop_take, List.drop_drop]
      refine List.ext_getElem? fun j => ?_
      rw [List.getElem?_append]
      have hl : ((LL x.term).take (x.index.toNat + w)).length = x.index.toNat + w := by simp; omega
      rw [hl, List.getElem?_take]
      split
      · rename_i hj
        rw [List.getElem?_take, if_pos (by omega)]
      · rename_i hj
        rw [List.getElem?_take, List.getElem?_drop]
        have e : x.index.toNat + w + (j - (x.index.toNat + w)) = j := by omega
        rw [e]
        by_cases ha : j - (x.index.toNat + w) < x.items.length - w
        · first
            | rw [if_pos ha, if_pos (by omega)]
            | rw [if_pos ha, List.getElem?_take, if_pos (by omega)]
        · first
            | rw [if_neg ha, if_neg (by omega)]
            | rw [if_neg ha, List.getElem?_take, if_neg (by omega)]
    rw [all]
    exact gR.take _
  · rw [hb]
    exact gm

end

abbrev Ack := Int × Int × Nat

/-- The leader of term s began without the first k items of the leader's log of term t. -/
def Lacks (LL : Int → List It) (Ld : Int → Option Int) (CL : Int → Int → List It) (t : Int) (k : Nat) (s : Int) : Prop := ∃ c, Ld s = some c ∧ (CL c s).take k ≠ (LL t).take k

/-- What is so at any time: of terms, logs, votes, leaders' logs, acknowledgements, voters' logs, candidates' logs. -/
structure AInv (n : Nat) (τ : Int → Int) (L : Int → List It) (E : List Ev) (LL : Int → List It) (Ld : Int → Option Int) (A : List Ack) (VL CL : Int → Int → List It) : Prop where
  n1 : 1 ≤ n
  a1 : ∀ v t K, (v, t, K) ∈ A → (∃ c, Ld t = some c) ∧ K ≤ (LL t).length ∧ t ≤ τ v
  a2 : ∀ v t K, (v, t, K) ∈ A → ∀ k, k ≤ K → (L v).take k = (LL t).take k ∨ ∃ s, t < s ∧ s ≤ τ v ∧ Lacks LL Ld CL t k s
  a3 : ∀ v t K u c, (v, t, K) ∈ A → (v, u, c) ∈ E → t < u → ∀ k, k ≤ K → (VL v u).take k = (LL t).take k ∨ ∃ s, t < s ∧ s ≤ u ∧ Lacks LL Ld CL t k s
  a4 : ∀ u c, Ld u = some c → ∃ V : List Int, V.Pairwise (· < ·) ∧ maj n ≤ (V.length : Int) ∧ ∀ v ∈ V, 1 ≤ v ∧ v ≤ n ∧ (v, u, c) ∈ E ∧ ∀ t K, (v, t, K) ∈ A → t < u → ∀ k, k ≤ K → (VL v u).take k = (LL t).take k ∨ ∃ s, t < s ∧ s < u ∧ Lacks LL Ld CL t k s
  e1 : ∀ v t c, (v, t, c) ∈ E → t ≤ τ v ∧ upL (VL v t) (CL c t).length (termN (CL c t) (CL c t).length) = true ∧ Good LL Ld (VL v t)
  l1 : ∀ t c, Ld t = some c → 1 ≤ t ∧ CL c t = (LL t).take (CL c t).length ∧ (∀ x ∈ CL c t, x.1 < t) ∧ (∀ x ∈ LL t, x.1 ≤ t) ∧ Good LL Ld (LL t)
  m1 : ∀ v, (∀ x ∈ L v, x.1 ≤ τ v) ∧ Good LL Ld (L v)

/-- A majority has acknowledged the first k items of term t's leader, of which the last is of that term. -/
structure Com (n : Nat) (LL : Int → List It) (Ld : Int → Option Int) (A : List Ack) (t : Int) (k : Nat) : Prop where
  ld : ∃ c, Ld t = some c
  k1 : 1 ≤ k
  kl : k ≤ (LL t).length
  last : ∀ x, (LL t)[k - 1]? = some x → x.1 = t
  maj : ∃ V : List Int, V.Pairwise (· < ·) ∧ maj n ≤ (V.length : Int) ∧ ∀ v ∈ V, 1 ≤ v ∧ v ≤ n ∧ ∃ K, k ≤ K ∧ (v, t, K) ∈ A

theorem take_take_le {α : Type} (l : List α) {k j : Nat} (h : k ≤ j) : (l.take j).take k = l.take k := by rw [List.take_take, Nat.min_eq_left h]

theorem termN_last (l : List It) (h : 1 ≤ l.length) : ∃ x, l[l.length - 1]? = some x ∧ termN l l.length = x.1 := by
  have h1 : l.length - 1 < l.length := by omega
  refine ⟨l[l.length - 1], List.getElem?_eq_getElem h1, ?_⟩
  unfold termN
  rw [if_neg (by omega)]
  have e : ((l.length : Int) - 1).toNat = l.length - 1 := by omega
  rw [e, itTerm_eq _ _ h1]

theorem good_last {LL : Int → List It} {Ld : Int → Option Int} {l : List It} (h : Good LL Ld l) (hl : 1 ≤ l.length) : (∃ c, Ld (termN l l.length) = some c) ∧ l = (LL (termN l l.length)).take l.length := by
  obtain ⟨x, hx, e⟩ := termN_last l hl
  obtain ⟨a, b, c⟩ := h _ x hx
  rw [e]
  refine ⟨a, ?_⟩
  have : l.length - 1 + 1 = l.length := by omega
  rw [this, List.take_length] at c
  exact c

section

variable {n : Nat} {τ : Int → Int} {L : Int → List It} {E : List Ev} {LL : Int → List It} {Ld : Int → Option Int} {A : List Ack} {VL CL : Int → Int → List It}

/-- LEADERS ARE COMPLETE: a later leader has, and began with, what was acknowledged by a majority. -/
theorem AInv.complete (h : AInv n τ L E LL Ld A VL CL) {t : Int} {k : Nat} (hc : Com n LL Ld A t k) : ∀ (m : Nat) (u c : Int), t < u → u ≤ t + m → Ld u = some c → (CL c u).take k = (LL t).take k ∧ (LL u).take k = (LL t).take k := by
  intro m
  induction m with
  | zero => intro u c h1 h2; omega
  | succ m ih =>
    intro u c h1 h2 hu
    obtain ⟨V, v1, v2, v3⟩ := hc.maj
    obtain ⟨U, u1, u2, u3⟩ := h.a4 u c hu
    have n1 := h.n1
    obtain ⟨v, hv, hv'⟩ := maj_meet (n := n) (by omega) v1 u1 (fun x hx => ⟨(v3 x hx).1, (v3 x hx).2.1⟩) (fun x hx => ⟨(u3 x hx).1, (u3 x hx).2.1⟩) v2 u2
    obtain ⟨_, _, K, hK, hA⟩ := v3 v hv
    obtain ⟨_, _, hE, hq⟩ := u3 v hv'
    obtain ⟨l1, l2, l3, l4, l5⟩ := h.l1 u c hu
    obtain ⟨cl, hl⟩ := hc.ld
    obtain ⟨m1, m2, m3, m4, m5⟩ := h.l1 t cl hl
    have qlen : ((LL t).take k).length = k := by rw [List.length_take]; have := hc.kl; omega
    have hP : (VL v u).take k = (LL t).take k := by
      rcases hq t K hA h1 k hK with e | ⟨s, s1, s2, c', hs, hne⟩
      · exact e
      · exact absurd (ih s c' s1 (by omega) hs).1 hne
    obtain ⟨_, up, gv⟩ := h.e1 v u c hE
    have kl : k ≤ (VL v u).length := by
      have := congrArg List.length hP
      rw [qlen, List.length_take] at this
      omega
    have k1 := hc.k1
    obtain ⟨gl1, gl2⟩ := good_last gv (by omega)
    have gC : Good LL Ld (CL c u) := by rw [l2]; exact l5.take _
    -- the voter's last term is at least t
    have tl : t ≤ termN (VL v u) (VL v u).length := by
      obtain ⟨d, hd⟩ := gl1
      obtain ⟨_, _, _, w4, _⟩ := h.l1 _ d hd
      have hk : k - 1 < (LL t).length := by have := hc.kl; omega
      have e0 := hc.last _ (List.getElem?_eq_getElem hk)
      have e1 : (VL v u)[k - 1]? = some (LL t)[k - 1] := by
        have := congrArg (fun l => l[k - 1]?) hP
        simp only [List.getElem?_take] at this
        rw [if_pos (by omega), if_pos (by omega), List.getElem?_eq_getElem hk] at this
        exact this
      have e2 : (LL t)[k - 1] ∈ LL (termN (VL v u) (VL v u).length) := by
        rw [gl2] at e1
        exact List.mem_of_mem_take (List.mem_of_getElem? e1)
      have := w4 _ e2
      omega
    have cne : 1 ≤ (CL c u).length := by
      rcases Nat.eq_zero_or_pos (CL c u).length with e | e
      · exfalso
        have ez : CL c u = [] := List.eq_nil_of_length_eq_zero e
        rw [ez] at up
        have e0 : termN [] (([] : List It).length : Int) = 0 := rfl
        rw [e0] at up
        simp only [upL, Bool.or_eq_true, Bool.and_eq_true, decide_eq_true_eq] at up
        omega
      · exact e
    obtain ⟨gc1, gc2⟩ := good_last gC cne
    have fin : (CL c u).take k = (LL t).take k := by
      simp only [upL, Bool.or_eq_true, Bool.and_eq_true, decide_eq_true_eq] at up
      rcases up with up | ⟨up1, up2⟩
      · -- a greater last term: of a leader between
        obtain ⟨x, hx, ex⟩ := termN_last (CL c u) cne
        have tu : termN (CL c u) (CL c u).length < u := by rw [ex]; exact l3 x (List.mem_of_getElem? hx)
        obtain ⟨d, hd⟩ := gc1
        have q := (ih _ d (by omega) (by omega) hd).2
        rw [gc2, take_take_le _ ?_]
        · exact q
        · -- the candidate's log has at least k items
          refine Decidable.byContradiction fun hlt => ?_
          have hlt : (CL c u).length < k := by omega
          have e1 : (LL t)[(CL c u).length - 1]? = some x := by
            have := congrArg (fun l => l[(CL c u).length - 1]?) q
            simp only [List.getElem?_take] at this
            rw [if_pos (by omega), if_pos (by omega)] at this
            rw [← this]
            rw [gc2] at hx
            rw [List.length_take, List.getElem?_take] at hx
            have hle : (CL c u).length ≤ (LL (termN (CL c u) (CL c u).length)).length := by
              have := congrArg List.length gc2
              rw [List.length_take] at this
              omega
            rw [Nat.min_eq_left hle, if_pos (by omega)] at hx
            exact hx
          have := m4 x (List.mem_of_getElem? e1)
          omega
      · -- the same last term: one log begins the other
        rw [← hP, gc2, take_take_le _ (by omega)]
        conv => rhs; rw [gl2]
        rw [take_take_le _ kl, up1]
    refine ⟨fin, ?_⟩
    have kc : k ≤ (CL c u).length := by
      have := congrArg List.length fin
      rw [qlen, List.length_take] at this
      omega
    rw [← fin]
    conv => rhs; rw [l2]
    rw [take_take_le _ kc]

theorem AInv.later (h : AInv n τ L E LL Ld A VL CL) {t : Int} {k : Nat} (hc : Com n LL Ld A t k) {u c : Int} (h1 : t < u) (hu : Ld u = some c) : (LL u).take k = (LL t).take k :=
  (h.complete hc (u - t).toNat u c h1 (by omega) hu).2

/-- The first c items of a log are committed, by a term of at most u. -/
def Cmt (n : Nat) (LL : Int → List It) (Ld : Int → Option Int) (A : List Ack) (l : List It) (c : Nat) (u : Int) : Prop := c = 0 ∨ ∃ t k, Com n LL Ld A t k ∧ c ≤ k ∧ t ≤ u ∧ l.take c = (LL t).take c

/-- COMMITTED ITEMS AGREE. -/
theorem AInv.agree (h : AInv n τ L E LL Ld A VL CL) {l m : List It} {c d : Nat} {u w : Int} (hl : Cmt n LL Ld A l c u) (hm : Cmt n LL Ld A m d w) : l.take (min c d) = m.take (min c d) := by
  rcases hl with rfl | ⟨t, k, h1, h2, h3, h4⟩
  · simp
  · rcases hm with rfl | ⟨s, j, g1, g2, g3, g4⟩
    · simp
    · have e1 : l.take (min c d) = (LL t).take (min c d) := by
        have := congrArg (List.take (min c d)) h4
        rwa [take_take_le _ (Nat.min_le_left c d), take_take_le _ (Nat.min_le_left c d)] at this
      have e2 : m.take (min c d) = (LL s).take (min c d) := by
        have := congrArg (List.take (min c d)) g4
        rwa [take_take_le _ (Nat.min_le_right c d), take_take_le _ (Nat.min_le_right c d)] at this
      rw [e1, e2]
      rcases Int.lt_trichotomy t s with e | e | e
      · obtain ⟨c', hc'⟩ := g1.ld
        have := congrArg (List.take (min c d)) (h.later h1 e hc')
        rw [take_take_le _ (by omega), take_take_le _ (by omega)] at this
        exact this.symm
      · rw [e]
      · obtain ⟨c', hc'⟩ := h1.ld
        have := congrArg (List.take (min c d)) (h.later g1 e hc')
        rw [take_take_le _ (by omega), take_take_le _ (by omega)] at this
        exact this

/-- Terms grow. -/
theorem AInv.bump (h : AInv n τ L E LL Ld A VL CL) {τ' : Int → Int} (ht : ∀ v, τ v ≤ τ' v) : AInv n τ' L E LL Ld A VL CL := by
  refine ⟨h.n1, fun v t K hA => ?_, fun v t K hA k hk => ?_, h.a3, h.a4, fun v t c hE => ?_, h.l1, fun v => ⟨fun x hx => ?_, (h.m1 v).2⟩⟩
  · obtain ⟨p, q, r⟩ := h.a1 v t K hA
    exact ⟨p, q, Int.le_trans r (ht v)⟩
  · rcases h.a2 v t K hA k hk with e | ⟨s, s1, s2, s3⟩
    · exact .inl e
    · exact .inr ⟨s, s1, Int.le_trans s2 (ht v), s3⟩
  · obtain ⟨p, q, r⟩ := h.e1 v t c hE
    exact ⟨Int.le_trans p (ht v), q, r⟩
  · exact Int.le_trans ((h.m1 v).1 x hx) (ht v)

/-- Votes that are known. -/
theorem AInv.known (h : AInv n τ L E LL Ld A VL CL) {E' : List Ev} (he : ∀ x ∈ E', x ∈ E) : AInv n τ L (E ++ E') LL Ld A VL CL := by
  have sub : ∀ x, x ∈ E ++ E' → x ∈ E := fun x hx => by rcases List.mem_append.1 hx with e | e; exact e; exact he x e
  refine ⟨h.n1, h.a1, h.a2, fun v t K u c hA hE => h.a3 v t K u c hA (sub _ hE), fun u c hu => ?_, fun v t c hE => h.e1 v t c (sub _ hE), h.l1, h.m1⟩
  obtain ⟨V, v1, v2, v3⟩ := h.a4 u c hu
  exact ⟨V, v1, v2, fun v hv => ⟨(v3 v hv).1, (v3 v hv).2.1, List.mem_append.2 (.inl (v3 v hv).2.2.1), (v3 v hv).2.2.2⟩⟩

def upd2 (f : Int → Int → List It) (v t : Int) (l : List It) : Int → Int → List It := fun a b => if a = v ∧ b = t then l else f a b

theorem upd2_self (f : Int → Int → List It) (v t : Int) (l : List It) : upd2 f v t l v t = l := if_pos ⟨rfl, rfl⟩

theorem upd2_ne {f : Int → Int → List It} {v t a b : Int} {l : List It} (h : ¬ (a = v ∧ b = t)) : upd2 f v t l a b = f a b := if_neg h

/-- A candidacy: nobody has voted for it yet. -/
theorem AInv.cand (h : AInv n τ L E LL Ld A VL CL) {c t : Int} (l : List It) (hv : ∀ v, (v, t, c) ∉ E) (hl : Ld t ≠ some c) : AInv n τ L E LL Ld A VL (upd2 CL c t l) := by
  have lk : ∀ {a : Int} {k : Nat} {s : Int}, Lacks LL Ld CL a k s → Lacks LL Ld (upd2 CL c t l) a k s := by
    rintro a k s ⟨d, hd, hne⟩
    refine ⟨d, hd, ?_⟩
    rw [upd2_ne]
    · exact hne
    · rintro ⟨rfl, rfl⟩; exact hl hd
  refine ⟨h.n1, h.a1, fun v t K hA k hk => ?_, fun v t K u c hA hE hu k hk => ?_, fun u d hu => ?_, fun v s d hE => ?_, fun s d hd => ?_, h.m1⟩
  · rcases h.a2 v t K hA k hk with e | ⟨s, s1, s2, s3⟩
    · exact .inl e
    · exact .inr ⟨s, s1, s2, lk s3⟩
  · rcases h.a3 v t K u c hA hE hu k hk with e | ⟨s, s1, s2, s3⟩
    · exact .inl e
    · exact .inr ⟨s, s1, s2, lk s3⟩
  · obtain ⟨V, v1, v2, v3⟩ := h.a4 u d hu
    refine ⟨V, v1, v2, fun v hv => ⟨(v3 v hv).1, (v3 v hv).2.1, (v3 v hv).2.2.1, fun t K hA ht k hk => ?_⟩⟩
    rcases (v3 v hv).2.2.2 t K hA ht k hk with e | ⟨s, s1, s2, s3⟩
    · exact .inl e
    · exact .inr ⟨s, s1, s2, lk s3⟩
  · rw [upd2_ne]
    · exact h.e1 v s d hE
    · rintro ⟨rfl, rfl⟩; exact hv v hE
  · rw [upd2_ne]
    · exact h.l1 s d hd
    · rintro ⟨rfl, rfl⟩; exact hl hd

/-- A vote for a candidate whose log is up to date. -/
theorem AInv.vote (h : AInv n τ L E LL Ld A VL CL) {v c : Int} (fresh : ∀ d, (v, τ v, d) ∉ E) (up : upL (L v) (CL c (τ v)).length (termN (CL c (τ v)) (CL c (τ v)).length) = true) :
    AInv n τ L (E ++ [(v, τ v, c)]) LL Ld A (upd2 VL v (τ v) (L v)) CL := by
  have old : ∀ {a b d : Int}, (a, b, d) ∈ E → upd2 VL v (τ v) (L v) a b = VL a b := by
    intro a b d hE
    rw [upd2_ne]
    rintro ⟨rfl, rfl⟩
    exact fresh d hE
  refine ⟨h.n1, h.a1, h.a2, fun w t K u d hA hE hu k hk => ?_, fun u d hu => ?_, fun w t d hE => ?_, h.l1, h.m1⟩
  · rcases List.mem_append.1 hE with e | e
    · rw [old e]; exact h.a3 w t K u d hA e hu k hk
    · simp only [List.mem_singleton, Prod.mk.injEq] at e
      obtain ⟨rfl, rfl, rfl⟩ := e
      rw [upd2_self]
      exact h.a2 w t K hA k hk
  · obtain ⟨V, v1, v2, v3⟩ := h.a4 u d hu
    refine ⟨V, v1, v2, fun w hw => ⟨(v3 w hw).1, (v3 w hw).2.1, List.mem_append.2 (.inl (v3 w hw).2.2.1), ?_⟩⟩
    rw [old (v3 w hw).2.2.1]
    exact (v3 w hw).2.2.2
  · rcases List.mem_append.1 hE with e | e
    · rw [old e]; exact h.e1 w t d e
    · simp only [List.mem_singleton, Prod.mk.injEq] at e
      obtain ⟨rfl, rfl, rfl⟩ := e
      rw [upd2_self]
      exact ⟨Int.le_refl _, up, (h.m1 w).2⟩

theorem ext_win {t : Int} (hn : Ld t = none) (c : Int) (l : List It) : ∀ s d, Ld s = some d → upd Ld t (some c) s = some d ∧ LL s = (upd LL t l s).take (LL s).length ∧ (LL s).length ≤ (upd LL t l s).length := by
  intro s d hd
  have ne : s ≠ t := fun e => by rw [e, hn] at hd; cases hd
  rw [upd_ne ne, upd_ne ne]
  exact ⟨hd, (List.take_length).symm, Nat.le_refl _⟩

/-- An election is won. -/
theorem AInv.lead (h : AInv n τ L E LL Ld A VL CL) {t c : Int} (hn : Ld t = none) (ht : 1 ≤ t) (hg : Good LL Ld (CL c t)) (hlt : ∀ x ∈ CL c t, x.1 < t) (V : ∃ V : List Int, V.Pairwise (· < ·) ∧ maj n ≤ (V.length : Int) ∧ ∀ v ∈ V, 1 ≤ v ∧ v ≤ n ∧ (v, t, c) ∈ E) :
    AInv n τ L E (upd LL t (CL c t)) (upd Ld t (some c)) A VL CL := by
  have ext := ext_win (LL := LL) hn c (CL c t)
  have nt : ∀ {v s : Int} {K : Nat}, (v, s, K) ∈ A → s ≠ t := by
    rintro v s K hA rfl
    obtain ⟨⟨d, hd⟩, _⟩ := h.a1 v s K hA
    rw [hn] at hd; cases hd
  have lk : ∀ {a : Int} {k : Nat} {s : Int}, a ≠ t → Lacks LL Ld CL a k s → Lacks (upd LL t (CL c t)) (upd Ld t (some c)) CL a k s := by
    rintro a k s ha ⟨d, hd, hne⟩
    refine ⟨d, (ext s d hd).1, ?_⟩
    rw [upd_ne ha]; exact hne
  refine ⟨h.n1, fun v s K hA => ?_, fun v s K hA k hk => ?_, fun v s K u d hA hE hu k hk => ?_, fun u d hu => ?_, fun v s d hE => ?_, fun s d hd => ?_, fun v => ⟨(h.m1 v).1, good_mono ext (h.m1 v).2⟩⟩
  · obtain ⟨⟨d, hd⟩, q, r⟩ := h.a1 v s K hA
    rw [upd_ne (nt hA), upd_ne (nt hA)]
    exact ⟨⟨d, hd⟩, q, r⟩
  · rw [upd_ne (nt hA)]
    rcases h.a2 v s K hA k hk with e | ⟨w, s1, s2, s3⟩
    · exact .inl e
    · exact .inr ⟨w, s1, s2, lk (nt hA) s3⟩
  · rw [upd_ne (nt hA)]
    rcases h.a3 v s K u d hA hE hu k hk with e | ⟨w, s1, s2, s3⟩
    · exact .inl e
    · exact .inr ⟨w, s1, s2, lk (nt hA) s3⟩
  · by_cases e : u = t
    · subst e
      rw [upd_self] at hu
      obtain rfl := Option.some.inj hu
      obtain ⟨V, v1, v2, v3⟩ := V
      refine ⟨V, v1, v2, fun v hv => ⟨(v3 v hv).1, (v3 v hv).2.1, (v3 v hv).2.2, fun s K hA hs k hk => ?_⟩⟩
      rw [upd_ne (nt hA)]
      rcases h.a3 v s K u _ hA (v3 v hv).2.2 hs k hk with e | ⟨w, s1, s2, s3⟩
      · exact .inl e
      · refine .inr ⟨w, s1, ?_, lk (nt hA) s3⟩
        have : w ≠ u := by
          rintro rfl
          obtain ⟨d, hd, _⟩ := s3
          rw [hn] at hd; cases hd
        omega
    · rw [upd_ne e] at hu
      obtain ⟨V, v1, v2, v3⟩ := h.a4 u d hu
      refine ⟨V, v1, v2, fun v hv => ⟨(v3 v hv).1, (v3 v hv).2.1, (v3 v hv).2.2.1, fun s K hA hs k hk => ?_⟩⟩
      rw [upd_ne (nt hA)]
      rcases (v3 v hv).2.2.2 s K hA hs k hk with e | ⟨w, s1, s2, s3⟩
      · exact .inl e
      · exact .inr ⟨w, s1, s2, lk (nt hA) s3⟩
  · obtain ⟨p, q, r⟩ := h.e1 v s d hE
    exact ⟨p, q, good_mono ext r⟩
  · by_cases e : s = t
    · subst e
      rw [upd_self] at hd
      obtain rfl := Option.some.inj hd
      rw [upd_self]
      exact ⟨ht, (List.take_length).symm, hlt, fun x hx => Int.le_of_lt (hlt x hx), good_mono ext hg⟩
    · rw [upd_ne e] at hd ⊢
      obtain ⟨b1, b2, b3, b4, b5⟩ := h.l1 s d hd
      exact ⟨b1, b2, b3, b4, good_mono ext b5⟩

theorem ext_prop {t c : Int} (ht : Ld t = some c) (x : It) : ∀ s d, Ld s = some d → Ld s = some d ∧ LL s = (upd LL t (LL t ++ [x]) s).take (LL s).length ∧ (LL s).length ≤ (upd LL t (LL t ++ [x]) s).length := by
  intro s d hd
  refine ⟨hd, ?_⟩
  by_cases e : s = t
  · subst e
    rw [upd_self]
    exact ⟨by simp, by simp⟩
  · rw [upd_ne e]
    exact ⟨(List.take_length).symm, Nat.le_refl _⟩

/-- A leader's log grows. -/
theorem AInv.prop (h : AInv n τ L E LL Ld A VL CL) {c t : Int} (d : ByteArray) (ht : Ld t = some c) (hτ : τ c = t) (hL : L c = LL t) :
    AInv n τ (upd L c (LL t ++ [(t, d)])) E (upd LL t (LL t ++ [(t, d)])) Ld A VL CL := by
  have ext := ext_prop (LL := LL) ht (t, d)
  have tk : ∀ {s e : Int} {k : Nat}, Ld s = some e → k ≤ (LL s).length → (upd LL t (LL t ++ [(t, d)]) s).take k = (LL s).take k := by
    intro s e k hs hk
    have := congrArg (List.take k) (ext s e hs).2.1
    rw [take_take_le _ hk] at this
    exact this.symm
  have lk : ∀ {a e : Int} {k : Nat} {s : Int}, Ld a = some e → k ≤ (LL a).length → Lacks LL Ld CL a k s → Lacks (upd LL t (LL t ++ [(t, d)])) Ld CL a k s := by
    rintro a e k s ha hk ⟨d', hd, hne⟩
    refine ⟨d', hd, ?_⟩
    rw [tk ha hk]; exact hne
  have gLL : Good (upd LL t (LL t ++ [(t, d)])) Ld (LL t ++ [(t, d)]) := by
    intro k x hx
    have gm := good_mono ext (h.l1 t c ht).2.2.2.2
    rcases Nat.lt_or_ge k (LL t).length with hk | hk
    · rw [List.getElem?_append_left hk] at hx
      obtain ⟨a, b, e⟩ := gm k x hx
      exact ⟨a, b, by rw [List.take_append_of_le_length (by omega)]; exact e⟩
    · rw [List.getElem?_append_right hk] at hx
      have : k - (LL t).length = 0 := by
        rcases Nat.eq_zero_or_pos (k - (LL t).length) with e | e
        · exact e
        · rw [List.getElem?_eq_none (by simp; omega)] at hx; cases hx
      rw [this] at hx
      simp only [List.getElem?_cons_zero, Option.some.injEq] at hx
      subst hx
      refine ⟨⟨_, ht⟩, ?_, ?_⟩
      · rw [upd_self]; simp; omega
      · rw [upd_self]
  refine ⟨h.n1, fun v s K hA => ?_, fun v s K hA k hk => ?_, fun v s K u e hA hE hu k hk => ?_, fun u e hu => ?_, fun v s e hE => ?_, fun s e hs => ?_, fun v => ?_⟩
  · obtain ⟨⟨e, he⟩, q, r⟩ := h.a1 v s K hA
    exact ⟨⟨e, he⟩, Nat.le_trans q (ext s e he).2.2, r⟩
  · obtain ⟨⟨e, he⟩, q, r⟩ := h.a1 v s K hA
    rw [tk he (Nat.le_trans hk q)]
    rcases h.a2 v s K hA k hk with e1 | ⟨w, s1, s2, s3⟩
    · left
      by_cases ev : v = c
      · subst ev
        rw [upd_self, ← hL, List.take_append_of_le_length]
        · exact e1
        · have := congrArg List.length e1
          rw [List.length_take, List.length_take] at this
          omega
      · rw [upd_ne ev]; exact e1
    · exact .inr ⟨w, s1, s2, lk he (Nat.le_trans hk q) s3⟩
  · obtain ⟨⟨e', he⟩, q, r⟩ := h.a1 v s K hA
    rw [tk he (Nat.le_trans hk q)]
    rcases h.a3 v s K u e hA hE hu k hk with e1 | ⟨w, s1, s2, s3⟩
    · exact .inl e1
    · exact .inr ⟨w, s1, s2, lk he (Nat.le_trans hk q) s3⟩
  · obtain ⟨V, v1, v2, v3⟩ := h.a4 u e hu
    refine ⟨V, v1, v2, fun v hv => ⟨(v3 v hv).1, (v3 v hv).2.1, (v3 v hv).2.2.1, fun s K hA hs k hk => ?_⟩⟩
    obtain ⟨⟨e', he⟩, q, r⟩ := h.a1 v s K hA
    rw [tk he (Nat.le_trans hk q)]
    rcases (v3 v hv).2.2.2 s K hA hs k hk with e1 | ⟨w, s1, s2, s3⟩
    · exact .inl e1
    · exact .inr ⟨w, s1, s2, lk he (Nat.le_trans hk q) s3⟩
  · obtain ⟨p, q, r⟩ := h.e1 v s e hE
    exact ⟨p, q, good_mono ext r⟩
  · obtain ⟨b1, b2, b3, b4, b5⟩ := h.l1 s e hs
    by_cases es : s = t
    · subst es
      rw [upd_self]
      refine ⟨b1, ?_, b3, fun x hx => ?_, gLL⟩
      · rw [List.take_append_of_le_length]
        · exact b2
        · have := congrArg List.length b2
          rw [List.length_take] at this
          omega
      · rcases List.mem_append.1 hx with e1 | e1
        · exact b4 x e1
        · simp only [List.mem_singleton] at e1; subst e1; exact Int.le_refl _
    · rw [upd_ne es]
      exact ⟨b1, b2, b3, b4, good_mono ext b5⟩
  · by_cases ev : v = c
    · subst ev
      rw [upd_self]
      refine ⟨fun x hx => ?_, gLL⟩
      rcases List.mem_append.1 hx with e1 | e1
      · have := (h.l1 t v ht).2.2.2.1 x e1
        omega
      · simp only [List.mem_singleton] at e1; subst e1; rw [hτ]; exact Int.le_refl _
    · rw [upd_ne ev]
      exact ⟨(h.m1 v).1, good_mono ext (h.m1 v).2⟩

/-- A log takes over the leader's. -/
theorem AInv.app (h : AInv n τ L E LL Ld A VL CL) {v c : Int} {l : List It} (hc : Ld (τ v) = some c) (hk : ∀ k, k ≤ (LL (τ v)).length → (L v).take k = (LL (τ v)).take k → l.take k = (LL (τ v)).take k) (hg : Good LL Ld l) (hx : ∀ x ∈ l, x.1 ≤ τ v) :
    AInv n τ (upd L v l) E LL Ld A VL CL := by
  refine ⟨h.n1, h.a1, fun w t K hA k hkK => ?_, h.a3, h.a4, h.e1, h.l1, fun w => ?_⟩
  · by_cases ew : w = v
    · subst ew
      rw [upd_self]
      obtain ⟨⟨e, he⟩, q, r⟩ := h.a1 w t K hA
      rcases h.a2 w t K hA k hkK with e1 | e1
      · rcases Int.lt_or_eq_of_le r with hlt | heq
        · by_cases hC : (CL c (τ w)).take k = (LL t).take k
          · left
            have b2 := (h.l1 (τ w) c hc).2.1
            have kc : k ≤ (CL c (τ w)).length := by
              have := congrArg List.length hC
              rw [List.length_take, List.length_take] at this
              omega
            have cl : (CL c (τ w)).length ≤ (LL (τ w)).length := by
              have := congrArg List.length b2
              rw [List.length_take] at this
              omega
            have e2 : (LL (τ w)).take k = (LL t).take k := by
              rw [← hC]
              conv => rhs; rw [b2]
              rw [take_take_le _ kc]
            rw [hk k (by omega) (by rw [e1, e2]), e2]
          · exact .inr ⟨τ w, hlt, Int.le_refl _, c, hc, hC⟩
        · left
          subst heq
          exact hk k (by omega) e1
      · exact .inr e1
    · rw [upd_ne ew]; exact h.a2 w t K hA k hkK
  · by_cases ew : w = v
    · subst ew
      rw [upd_self]
      exact ⟨hx, hg⟩
    · rw [upd_ne ew]; exact h.m1 w

/-- An acknowledgement. -/
theorem AInv.ack (h : AInv n τ L E LL Ld A VL CL) {v c : Int} {K : Nat} (hc : Ld (τ v) = some c) (hK : K ≤ (LL (τ v)).length) (hl : (L v).take K = (LL (τ v)).take K) : AInv n τ L E LL Ld (A ++ [(v, τ v, K)]) VL CL := by
  have new : ∀ {w t : Int} {J : Nat}, (w, t, J) ∈ A ++ [(v, τ v, K)] → (w, t, J) ∈ A ∨ (w = v ∧ t = τ v ∧ J = K) := by
    intro w t J hA
    rcases List.mem_append.1 hA with e | e
    · exact .inl e
    · simp only [List.mem_singleton, Prod.mk.injEq] at e; exact .inr e
  refine ⟨h.n1, fun w t J hA => ?_, fun w t J hA k hk => ?_, fun w t J u d hA hE hu k hk => ?_, fun u d hu => ?_, h.e1, h.l1, h.m1⟩
  · rcases new hA with e | ⟨rfl, rfl, rfl⟩
    · exact h.a1 w t J e
    · exact ⟨⟨c, hc⟩, hK, Int.le_refl _⟩
  · rcases new hA with e | ⟨rfl, rfl, rfl⟩
    · exact h.a2 w t J e k hk
    · left
      have := congrArg (List.take k) hl
      rwa [take_take_le _ hk, take_take_le _ hk] at this
  · rcases new hA with e | ⟨rfl, rfl, rfl⟩
    · exact h.a3 w t J u d e hE hu k hk
    · have := (h.e1 w u d hE).1
      omega
  · obtain ⟨V, v1, v2, v3⟩ := h.a4 u d hu
    refine ⟨V, v1, v2, fun w hw => ⟨(v3 w hw).1, (v3 w hw).2.1, (v3 w hw).2.2.1, fun t J hA ht k hk => ?_⟩⟩
    rcases new hA with e | ⟨rfl, rfl, rfl⟩
    · exact (v3 w hw).2.2.2 t J e ht k hk
    · have := (h.e1 w u d (v3 w hw).2.2.1).1
      omega

end

section

variable {n : Nat} {g : List M} {S : List X} {E : List Ev} {LL : Int → List It} {Ld : Int → Option Int}

/-- What votes a step brings, and what becomes of the leaders' logs. -/
structure Shp (n : Nat) (S : List X) (E : List Ev) (LL : Int → List It) (Ld : Int → Option Int) (m a : M) (O : List X) (E' : List Ev) (LL' : Int → List It) (Ld' : Int → Option Int) : Prop where
  cand : a.role = 2 → (m.role = 2 ∧ a.term = m.term ∧ a.log = m.log) ∨ E' = [(m.id, m.term + 1, m.id)]
  wins : m.role ≠ 3 → a.role = 3 → (m.role = 2 ∧ a.term = m.term) ∨ E' = [(m.id, m.term + 1, m.id)]
  asks : ∀ y ∈ O, y.kind = 1 → E' = [(m.id, m.term + 1, m.id)]
  votes : E' = [] ∨ (E' = [(m.id, m.term + 1, m.id)] ∧ a.term = m.term + 1 ∧ a.log = m.log) ∨ ∃ x, x ∈ S ∧ x.kind = 1 ∧ E' = [(m.id, x.term, x.frm)] ∧ a.term = x.term ∧ a.log = m.log ∧ upL m.log x.index x.logTerm = true
  logs : (LL' = LL ∧ Ld' = Ld ∧ (a.role = 3 → m.role = 3 ∧ a.term = m.term ∧ a.log = m.log)) ∨
    (Ld a.term = none ∧ LL' = upd LL a.term a.log ∧ Ld' = upd Ld a.term (some a.id) ∧ a.role = 3 ∧ a.log = m.log ∧ m.role ≠ 3 ∧ a = leadM { a with role := 2, votes := a.votes, next := [], mtch := [] } ∧ ∃ V : List Int, V.Pairwise (· < ·) ∧ maj n ≤ (V.length : Int) ∧ ∀ v ∈ V, 1 ≤ v ∧ v ≤ n ∧ (v, a.term, a.id) ∈ E ++ E') ∨
    (Ld' = Ld ∧ m.role = 3 ∧ a.role = 3 ∧ a.term = m.term ∧ ∃ d, a.log = m.log ++ [(m.term, d)] ∧ LL' = upd LL m.term (m.log ++ [(m.term, d)]))

/-- After some step. -/
def After (n : Nat) (S : List X) (E : List Ev) (LL : Int → List It) (Ld : Int → Option Int) (m a : M) (O : List X) : Prop := ∃ E' LL' Ld', Step n E LL Ld m a O E' LL' Ld' ∧ Shp n S E LL Ld m a O E' LL' Ld'

theorem Raft.quiet (h : Raft n g S E LL Ld) {i : Nat} {m a : M} (hi : g[i]? = some m) (kp : Keeps m a) (hc : a.role = 2 ∨ a.role = 3 → a.role = m.role ∧ a.term = m.term ∧ a.votes = m.votes) : After n S E LL Ld m a [] := by
  refine ⟨_, _, _, Step.same h hi kp (O := []) (E' := []) (by simp) (by simp) (by simp) ?_ ?_ (by simp), fun hr => .inl ⟨by have := (hc (.inl hr)).1; omega, (hc (.inl hr)).2.1, kp.log⟩, fun h1 h2 => by have := (hc (.inr h2)).1; omega, by simp, .inl rfl, .inl ⟨rfl, rfl, fun hr => ⟨by have := (hc (.inr hr)).1; omega, (hc (.inr hr)).2.1, kp.log⟩⟩⟩
  · intro hr
    obtain ⟨e1, e2, e3⟩ := hc (.inl hr)
    obtain ⟨c1, c2⟩ := h.cand i m hi (by omega)
    rw [e2, e3, kp.id, List.append_nil]
    exact ⟨c1, c2⟩
  · intro hr
    obtain ⟨e1, e2, e3⟩ := hc (.inr hr)
    exact ⟨by omega, e2⟩

theorem Raft.timeout (h : Raft n g S E LL Ld) {i : Nat} {m : M} (hi : g[i]? = some m) : After n S E LL Ld m (timeoutR m).1 (timeoutR m).2 := by
  obtain ⟨ho, hid, hme⟩ := h.ok i m hi
  obtain ⟨hh, hro⟩ := (okM_iff m).1 ho
  have kt := keeps_timeout ho
  have mo := timeout_ok ho
  unfold timeoutR at kt mo ⊢
  split
  · rename_i hc
    rw [if_pos hc] at kt mo
    simp only at kt mo ⊢
    have t1 : (wonM (candM m)).term = m.term + 1 := (won_fields _).1
    have v1 : (wonM (candM m)).vote = m.id := (won_fields _).2.1
    have i1 : (wonM (candM m)).id = m.id := (won_fields _).2.2.1
    have hid1 := hh.id1; have hid2 := hh.id2
    have far : Ld (m.term + 1) ≠ some m.id := h.ahead hi (by omega)
    have ms : ∀ y ∈ asks (candM m), okX y n = true := fun y hy => by have := (mo y hy).1; rw [hme] at this; exact this
    have mr : ∀ y ∈ asks (candM m), y.kind = 2 → y.ok = true → (y.frm, y.term, y.to) ∈ E ++ [(m.id, m.term + 1, m.id)] := fun y hy e => by have := (mo y hy).2.2.2; omega
    have ev : ∀ v t c, (v, t, c) ∈ [(m.id, m.term + 1, m.id)] → v = m.id ∧ t = (wonM (candM m)).term ∧ c = (wonM (candM m)).vote ∧ c ≠ 0 := by
      intro v t c hv
      simp only [List.mem_singleton, Prod.mk.injEq] at hv
      obtain ⟨rfl, rfl, rfl⟩ := hv
      exact ⟨rfl, t1.symm, v1.symm, by omega⟩
    by_cases hw : maj m.members ≤ ((1 : Nat) : Int)
    · have hwon : wonM (candM m) = leadM (candM m) := if_pos hw
      have free : Ld (wonM (candM m)).term = none := by
        rw [t1]
        cases hl : Ld (m.term + 1) with
        | none => rfl
        | some c =>
          exfalso
          -- one member alone: whoever leads is this one
          obtain ⟨⟨V, v1', v2, v3⟩, _⟩ := h.ldr _ _ hl
          have n1 := h.n1
          have hm1 : maj n = (n : Int) / 2 + 1 := by unfold maj; split <;> omega
          rw [hme, hm1] at hw
          have : n = 1 := by omega
          subst this
          cases V with
          | nil => rw [hm1] at v2; simp at v2
          | cons v r =>
            obtain ⟨a1, a2, a3⟩ := v3 v (by simp)
            obtain ⟨j, b, b1, b2, b3, b4, b5⟩ := h.cur _ _ _ a3
            have : j = i := by omega
            subst this
            rw [hi] at b1
            obtain rfl := Option.some.inj b1
            omega
      have VV : ∃ V : List Int, V.Pairwise (· < ·) ∧ maj n ≤ (V.length : Int) ∧ ∀ v ∈ V, 1 ≤ v ∧ v ≤ n ∧ (v, (wonM (candM m)).term, (wonM (candM m)).id) ∈ E ++ [(m.id, m.term + 1, m.id)] := by
        refine ⟨[m.id], by simp, ?_, ?_⟩
        · rw [hme] at hw; exact hw
        · intro v hv
          simp only [List.mem_singleton] at hv
          subst hv
          rw [t1, i1]
          exact ⟨by omega, by omega, List.mem_append.2 (.inr (by simp))⟩
      refine ⟨_, _, _, Step.win h hi kt ms mr ev (by rw [hwon]; rfl) free VV ?_, fun _ => .inr rfl, fun _ _ => .inr rfl, fun _ _ _ => rfl, .inr (.inl ⟨rfl, t1, kt.log⟩), .inr (.inl ⟨free, rfl, rfl, by rw [hwon]; rfl, kt.log, hc.2.1, by rw [hwon]; rfl, VV⟩)⟩
      · intro y hy e
        have := (mo y hy).2.2.2
        omega
    · have hwon : wonM (candM m) = candM m := if_neg hw
      refine ⟨_, _, _, Step.same h hi kt ms mr ev ?_ ?_ ?_, fun _ => .inr rfl, fun _ _ => .inr rfl, fun _ _ _ => rfl, .inr (.inl ⟨rfl, t1, kt.log⟩), .inl ⟨rfl, rfl, fun hr => absurd (hwon ▸ hr) (by show ¬ (2 : Int) = 3; decide)⟩⟩
      · intro hr
        rw [hwon]
        refine ⟨?_, far⟩
        intro v hv
        simp only [candM, List.mem_singleton] at hv
        subst hv
        exact List.mem_append.2 (.inr (by simp [candM]))
      · intro hr
        rw [hwon] at hr
        exact absurd hr (by show ¬ (2 : Int) = 3; decide)
      · intro y hy e
        have := (mo y hy).2.2.2
        omega
  · exact h.quiet hi (Keeps.refl ho) fun _ => ⟨rfl, rfl, rfl⟩

theorem Raft.restart (h : Raft n g S E LL Ld) {i : Nat} {m : M} (hi : g[i]? = some m) : After n S E LL Ld m (restartR m) [] := by
  obtain ⟨ho, hid, hme⟩ := h.ok i m hi
  refine h.quiet hi (keeps_restart ho) fun hr => ?_
  unfold restartR at hr
  rw [if_pos ho] at hr
  exact absurd hr (by show ¬ ((1 : Int) = 2 ∨ (1 : Int) = 3); decide)

theorem Raft.count (h : Raft n g S E LL Ld) {i : Nat} {m : M} (hi : g[i]? = some m) {x : X} (hx : x ∈ S) : After n S E LL Ld m (countR m x) [] := by
  obtain ⟨ho, hid, hme⟩ := h.ok i m hi
  obtain ⟨hh, hro⟩ := (okM_iff m).1 ho
  have kc := keeps_count (x := x) ho
  have n1 := h.n1
  unfold countR at kc ⊢
  split
  · rename_i hc
    rw [if_pos hc] at kc
    obtain ⟨c1, c2, c3, c4⟩ := concerns_ok hc
    have f := okX_facts c2
    split
    · rename_i ht
      rw [if_pos ht] at kc
      exact h.quiet hi kc fun hr => absurd hr (by show ¬ ((1 : Int) = 2 ∨ (1 : Int) = 3); decide)
    · rename_i ht
      rw [if_neg ht] at kc
      split
      · exact h.quiet hi (Keeps.refl ho) fun _ => ⟨rfl, rfl, rfl⟩
      · rename_i hn
        rw [if_neg hn] at kc
        have r2 : m.role = 2 := Decidable.not_not.1 fun e => hn (.inr (.inl e))
        have xo : x.ok = true := by
          cases e : x.ok
          · exact absurd (.inr (.inr (.inl e))) hn
          · rfl
        have xt : x.term = m.term := by
          have : ¬ x.term < m.term := fun e => hn (.inl e)
          omega
        have hov : okVotes m = true := by
          rcases hro with ⟨r, _⟩ | ⟨_, _, _, b, _⟩ | ⟨r, _⟩
          · omega
          · exact b
          · omega
        obtain ⟨up, bd⟩ := votes_bounds hov
        obtain ⟨cv, cl⟩ := h.cand i m hi r2
        have hin : ∀ v ∈ insGo x.frm m.votes false, 1 ≤ v ∧ v ≤ (n : Int) ∧ (v, m.term, m.id) ∈ E := by
          intro v hvv
          rcases insGo_sub _ _ _ v hvv with e | e
          · subst e
            have := h.reps x hx c4 xo
            rw [xt, c3] at this
            exact ⟨by omega, by omega, this⟩
          · have := bd v e
            exact ⟨by omega, by omega, cv v e⟩
        have wt : (wonM { m with votes := insGo x.frm m.votes false }).term = m.term := (won_fields _).1
        have wi : (wonM { m with votes := insGo x.frm m.votes false }).id = m.id := (won_fields _).2.2.1
        by_cases hw : maj m.members ≤ ((insGo x.frm m.votes false).length : Int)
        · have hwon : wonM { m with votes := insGo x.frm m.votes false } = leadM { m with votes := insGo x.frm m.votes false } := if_pos hw
          have hwn : maj n ≤ ((insGo x.frm m.votes false).length : Int) := by rw [hme] at hw; exact hw
          have VV : ∃ V : List Int, V.Pairwise (· < ·) ∧ maj n ≤ (V.length : Int) ∧ ∀ v ∈ V, 1 ≤ v ∧ v ≤ n ∧ (v, (wonM { m with votes := insGo x.frm m.votes false }).term, (wonM { m with votes := insGo x.frm m.votes false }).id) ∈ E ++ [] := by
            refine ⟨_, insGo_up _ _ up, hwn, ?_⟩
            rw [wt, wi, List.append_nil]
            exact hin
          have free : Ld (wonM { m with votes := insGo x.frm m.votes false }).term = none := by
            rw [wt]
            exact h.free ⟨_, insGo_up _ _ up, hwn, hin⟩ cl
          exact ⟨_, _, _, Step.win h hi kc (O := []) (E' := []) (by simp) (by simp) (by simp) (by rw [hwon]; rfl) free VV (by simp), fun hr => absurd (hwon ▸ hr) (by show ¬ (3 : Int) = 2; decide), fun _ _ => .inl ⟨r2, wt⟩, by simp, .inl rfl, .inr (.inl ⟨free, rfl, rfl, by rw [hwon]; rfl, kc.log, by omega, by rw [hwon]; rfl, VV⟩)⟩
        · have hwon : wonM { m with votes := insGo x.frm m.votes false } = { m with votes := insGo x.frm m.votes false } := if_neg hw
          refine ⟨_, _, _, Step.same h hi kc (O := []) (E' := []) (by simp) (by simp) (by simp) ?_ ?_ (by simp), fun hr => .inl ⟨r2, wt, kc.log⟩, fun _ hr => .inl ⟨r2, wt⟩, by simp, .inl rfl, .inl ⟨rfl, rfl, fun hr => by rw [hwon] at hr; have hr : m.role = 3 := hr; omega⟩⟩
          · intro hr
            rw [hwon, List.append_nil]
            exact ⟨fun v hv => (hin v hv).2.2, cl⟩
          · intro hr
            rw [hwon] at hr
            have hr : m.role = 3 := hr
            omega
  · exact h.quiet hi (Keeps.refl ho) fun _ => ⟨rfl, rfl, rfl⟩

end

/-- The member of a number. -/
def gm (g : List M) (v : Int) : M := if 1 ≤ v then g.getD (v - 1).toNat zeroM else zeroM

theorem gm_get {g : List M} {i : Nat} {m : M} (h : g[i]? = some m) : gm g ((i + 1 : Nat) : Int) = m := by
  unfold gm
  rw [if_pos (by omega)]
  have e : (((i + 1 : Nat) : Int) - 1).toNat = i := by omega
  rw [e, List.getD_eq_getElem?_getD, h]; rfl

theorem gm_set {g : List M} {i : Nat} (h : i < g.length) (a : M) (v : Int) : gm (g.set i a) v = if v = ((i + 1 : Nat) : Int) then a else gm g v := by
  unfold gm
  by_cases h1 : 1 ≤ v
  · rw [if_pos h1, if_pos h1, List.getD_eq_getElem?_getD, List.getD_eq_getElem?_getD, List.getElem?_set]
    by_cases e : v = ((i + 1 : Nat) : Int)
    · rw [if_pos e, if_pos (by omega), if_pos h]; rfl
    · rw [if_neg e, if_neg (by omega)]
  · rw [if_neg h1, if_neg h1, if_neg (by omega)]

theorem log_set {g : List M} {i : Nat} (h : i < g.length) (a : M) : (fun v => (gm (g.set i a) v).log) = upd (fun v => (gm g v).log) ((i + 1 : Nat) : Int) a.log := by
  funext v
  rw [gm_set h]
  unfold upd
  split <;> rfl

theorem term_set {g : List M} {i : Nat} (h : i < g.length) (a : M) : (fun v => (gm (g.set i a) v).term) = upd (fun v => (gm g v).term) ((i + 1 : Nat) : Int) a.term := by
  funext v
  rw [gm_set h]
  unfold upd
  split <;> rfl

theorem upd_same {α : Type} (f : Int → α) (v : Int) (x : α) (h : f v = x) : upd f v x = f := by
  funext w
  unfold upd
  split
  · rename_i e; rw [e, h]
  · rfl

/-- What is so of a group at any time, acknowledgements and commits among it. -/
structure Raft2 (n : Nat) (g : List M) (S : List X) (E : List Ev) (LL : Int → List It) (Ld : Int → Option Int) (A : List Ack) (VL CL : Int → Int → List It) : Prop where
  base : Raft n g S E LL Ld
  abs : AInv n (fun v => (gm g v).term) (fun v => (gm g v).log) E LL Ld A VL CL
  cl : ∀ (i : Nat) m, g[i]? = some m → m.role = 2 → m.log = CL m.id m.term ∧ ∀ x ∈ m.log, x.1 < m.term
  ask : ∀ y ∈ S, y.kind = 1 → (∃ (i : Nat) (m : M), g[i]? = some m ∧ m.id = y.frm ∧ y.term ≤ m.term) ∧ y.index = ((CL y.frm y.term).length : Int) ∧ y.logTerm = termN (CL y.frm y.term) (CL y.frm y.term).length
  evc : ∀ v t c, (v, t, c) ∈ E → ∃ (i : Nat) (m : M), g[i]? = some m ∧ m.id = c ∧ t ≤ m.term
  ack : ∀ y ∈ S, y.kind = 4 → y.ok = true → (y.frm, y.term, y.index.toNat) ∈ A
  mt : ∀ (i : Nat) m, g[i]? = some m → m.role = 3 → ∀ j, j < m.mtch.length → 0 < m.mtch.getD j 0 → ∃ K : Nat, m.mtch.getD j 0 ≤ K ∧ (((j + 1 : Nat) : Int), m.term, K) ∈ A
  cm : ∀ (i : Nat) m, g[i]? = some m → Cmt n LL Ld A m.log m.commit.toNat m.term
  ca : ∀ y ∈ S, y.kind = 3 → Cmt n LL Ld A (LL y.term) y.commit.toNat y.term

theorem com_mono {n : Nat} {LL LL' : Int → List It} {Ld Ld' : Int → Option Int} {A B : List Ack} (ext : ∀ t c, Ld t = some c → Ld' t = some c ∧ LL t = (LL' t).take (LL t).length ∧ (LL t).length ≤ (LL' t).length) {t : Int} {k : Nat} (h : Com n LL Ld A t k) :
    Com n LL' Ld' (A ++ B) t k ∧ ∀ c, c ≤ k → (LL' t).take c = (LL t).take c := by
  obtain ⟨d, hd⟩ := h.ld
  obtain ⟨e1, e2, e3⟩ := ext t d hd
  have tk : ∀ c, c ≤ k → (LL' t).take c = (LL t).take c := by
    intro c hc
    have := congrArg (List.take c) e2
    rw [take_take_le _ (by have := h.kl; omega)] at this
    exact this.symm
  refine ⟨⟨⟨d, e1⟩, h.k1, by have := h.kl; omega, fun x hx => h.last x ?_, ?_⟩, tk⟩
  · have k1 := h.k1
    have := congrArg (fun l => l[k - 1]?) (tk k (Nat.le_refl k))
    simp only [List.getElem?_take] at this
    rw [if_pos (by omega), if_pos (by omega)] at this
    rw [← this]; exact hx
  · obtain ⟨V, v1, v2, v3⟩ := h.maj
    refine ⟨V, v1, v2, fun v hv => ⟨(v3 v hv).1, (v3 v hv).2.1, ?_⟩⟩
    obtain ⟨K, k1, k2⟩ := (v3 v hv).2.2
    exact ⟨K, k1, List.mem_append.2 (.inl k2)⟩

theorem cmt_mono {n : Nat} {LL LL' : Int → List It} {Ld Ld' : Int → Option Int} {A B : List Ack} (ext : ∀ t c, Ld t = some c → Ld' t = some c ∧ LL t = (LL' t).take (LL t).length ∧ (LL t).length ≤ (LL' t).length) {l l' : List It} {c : Nat} {u w : Int} (hw : u ≤ w) (hl : l'.take c = l.take c) (h : Cmt n LL Ld A l c u) : Cmt n LL' Ld' (A ++ B) l' c w := by
  rcases h with e | ⟨t, k, h1, h2, h3, h4⟩
  · exact .inl e
  · obtain ⟨g1, g2⟩ := com_mono (B := B) ext h1
    exact .inr ⟨t, k, g1, h2, by omega, by rw [hl, h4, g2 c h2]⟩

theorem cmt_len {n : Nat} {LL : Int → List It} {Ld : Int → Option Int} {A : List Ack} {l : List It} {c : Nat} {u : Int} (h : Cmt n LL Ld A l c u) : c ≤ l.length := by
  rcases h with e | ⟨t, k, h1, h2, h3, h4⟩
  · omega
  · have := congrArg List.length h4
    rw [List.length_take, List.length_take] at this
    have := h1.kl
    omega

section

variable {n : Nat} {g : List M} {S : List X} {E : List Ev} {LL : Int → List It} {Ld : Int → Option Int} {A : List Ack} {VL CL : Int → Int → List It}

theorem Raft2.step (h : Raft2 n g S E LL Ld A VL CL) {i : Nat} {m a : M} (hi : g[i]? = some m) {O : List X} {E' : List Ev} {LL' : Int → List It} {Ld' : Int → Option Int} (s : Step n E LL Ld m a O E' LL' Ld') {B : List Ack} {VL' CL' : Int → Int → List It}
    (abs : AInv n (upd (fun v => (gm g v).term) m.id a.term) (upd (fun v => (gm g v).log) m.id a.log) (E ++ E') LL' Ld' (A ++ B) VL' CL')
    (clS : ∀ c t, (c = m.id → t ≤ m.term) → CL' c t = CL c t)
    (cl' : a.role = 2 → a.log = CL' a.id a.term ∧ ∀ x ∈ a.log, x.1 < a.term)
    (ask' : ∀ y ∈ O, y.kind = 1 → y.frm = m.id ∧ y.term ≤ a.term ∧ y.index = ((CL' y.frm y.term).length : Int) ∧ y.logTerm = termN (CL' y.frm y.term) (CL' y.frm y.term).length)
    (ev' : ∀ v t c, (v, t, c) ∈ E' → (c = m.id ∧ t ≤ a.term) ∨ ∃ (j : Nat) (b : M), g[j]? = some b ∧ b.id = c ∧ t ≤ b.term)
    (ack' : ∀ y ∈ O, y.kind = 4 → y.ok = true → (y.frm, y.term, y.index.toNat) ∈ A ++ B)
    (mt' : a.role = 3 → ∀ j, j < a.mtch.length → 0 < a.mtch.getD j 0 → ∃ K : Nat, a.mtch.getD j 0 ≤ K ∧ (((j + 1 : Nat) : Int), a.term, K) ∈ A ++ B)
    (cm' : Cmt n LL' Ld' (A ++ B) a.log a.commit.toNat a.term)
    (ca' : ∀ y ∈ O, y.kind = 3 → Cmt n LL' Ld' (A ++ B) (LL' y.term) y.commit.toNat y.term) :
    Raft2 n (g.set i a) (S ++ O) (E ++ E') LL' Ld' (A ++ B) VL' CL' := by
  obtain ⟨hi1, hm⟩ := List.getElem?_eq_some_iff.1 hi
  obtain ⟨o1, o2, o3⟩ := h.base.ok i m hi
  have self : (g.set i a)[i]? = some a := by rw [List.getElem?_set]; simp [hi1]
  have get : ∀ j b, (g.set i a)[j]? = some b → (j = i ∧ b = a) ∨ (j ≠ i ∧ g[j]? = some b) := by
    intro j b hb
    by_cases e : j = i
    · subst e
      rw [self] at hb
      exact .inl ⟨rfl, (Option.some.inj hb).symm⟩
    · rw [List.getElem?_set_ne (fun x => e x.symm)] at hb
      exact .inr ⟨e, hb⟩
  have fwd : ∀ {c t : Int}, (∃ (j : Nat) (b : M), g[j]? = some b ∧ b.id = c ∧ t ≤ b.term) → ∃ (j : Nat) (b : M), (g.set i a)[j]? = some b ∧ b.id = c ∧ t ≤ b.term := by
    rintro c t ⟨j, b, b1, b2, b3⟩
    by_cases e : j = i
    · subst e
      rw [hi] at b1
      obtain rfl := Option.some.inj b1
      exact ⟨j, a, self, by rw [s.id]; exact b2, Int.le_trans b3 s.term⟩
    · exact ⟨j, b, by rw [List.getElem?_set_ne (fun x => e x.symm)]; exact b1, b2, b3⟩
  have mid : ∀ {j : Nat} {b : M}, g[j]? = some b → b.id = m.id → j = i := by
    intro j b hb e
    have := (h.base.ok j b hb).2.1
    omega
  refine ⟨h.base.step hi s, ?_, ?_, ?_, ?_, ?_, ?_, ?_, ?_⟩
  · rw [log_set hi1, term_set hi1, ← o2]; exact abs
  · intro j b hb hr
    rcases get j b hb with ⟨rfl, rfl⟩ | ⟨e, hb⟩
    · exact cl' hr
    · have q := h.cl j b hb hr
      rw [clS _ _ (fun e1 => absurd (mid hb e1) e)]
      exact q
  · intro y hy hk
    rcases List.mem_append.1 hy with hy | hy
    · obtain ⟨q1, q2, q3⟩ := h.ask y hy hk
      have : CL' y.frm y.term = CL y.frm y.term := clS _ _ (fun e1 => by
        obtain ⟨j, b, b1, b2, b3⟩ := q1
        have := mid b1 (by rw [b2, e1])
        subst this
        rw [hi] at b1
        obtain rfl := Option.some.inj b1
        exact b3)
      rw [this]
      exact ⟨fwd q1, q2, q3⟩
    · obtain ⟨q1, q2, q3, q4⟩ := ask' y hy hk
      exact ⟨⟨i, a, self, by rw [s.id, q1], q2⟩, q3, q4⟩
  · intro v t c hv
    rcases List.mem_append.1 hv with hv | hv
    · exact fwd (h.evc v t c hv)
    · rcases ev' v t c hv with ⟨e1, e2⟩ | e
      · exact ⟨i, a, self, by rw [s.id, e1], e2⟩
      · exact fwd e
  · intro y hy h1 h2
    rcases List.mem_append.1 hy with hy | hy
    · exact List.mem_append.2 (.inl (h.ack y hy h1 h2))
    · exact ack' y hy h1 h2
  · intro j b hb hr
    rcases get j b hb with ⟨rfl, rfl⟩ | ⟨e, hb⟩
    · exact mt' hr
    · intro w hw hp
      obtain ⟨K, k1, k2⟩ := h.mt j b hb hr w hw hp
      exact ⟨K, k1, List.mem_append.2 (.inl k2)⟩
  · intro j b hb
    rcases get j b hb with ⟨rfl, rfl⟩ | ⟨e, hb⟩
    · exact cm'
    · exact cmt_mono s.ext (Int.le_refl _) rfl (h.cm j b hb)
  · intro y hy hk
    rcases List.mem_append.1 hy with hy | hy
    · have q := h.ca y hy hk
      obtain ⟨⟨c, hc⟩, _⟩ := h.base.app y hy hk
      obtain ⟨e1, e2, e3⟩ := s.ext _ _ hc
      refine cmt_mono s.ext (Int.le_refl _) ?_ q
      have := congrArg (List.take y.commit.toNat) e2
      rw [take_take_le _ (cmt_len q)] at this
      exact this.symm
    · exact ca' y hy hk

theorem gm_at (h : Raft2 n g S E LL Ld A VL CL) {i : Nat} {m : M} (hi : g[i]? = some m) : gm g m.id = m := by
  rw [(h.base.ok i m hi).2.1]
  exact gm_get hi

theorem upL_self (l : List It) : upL l l.length (termN l l.length) = true := by simp [upL]

/-- A step that leaves the log as it is. -/
theorem Raft2.calm (h : Raft2 n g S E LL Ld A VL CL) {i : Nat} {m a : M} (hi : g[i]? = some m) {O : List X} {E' : List Ev} {LL' : Int → List It} {Ld' : Int → Option Int} (s : Step n E LL Ld m a O E' LL' Ld') (p : Shp n S E LL Ld m a O E' LL' Ld') (hlog : a.log = m.log)
    (asks : ∀ y ∈ O, y.kind = 1 → y.frm = m.id ∧ y.term = m.term + 1 ∧ y.index = m.log.length ∧ y.logTerm = termN m.log m.log.length)
    (acks : ∀ y ∈ O, y.kind = 4 → y.ok = false)
    (mts : m.role = 3 → a.role = 3 → ∀ j, j < a.mtch.length → 0 < a.mtch.getD j 0 → ∃ K : Nat, a.mtch.getD j 0 ≤ K ∧ (((j + 1 : Nat) : Int), a.term, K) ∈ A)
    (cms : Cmt n LL Ld A a.log a.commit.toNat a.term)
    (cas : ∀ y ∈ O, y.kind = 3 → Cmt n LL Ld A (LL y.term) y.commit.toNat y.term ∧ ∃ c, Ld y.term = some c) :
    ∃ B VL' CL', Raft2 n (g.set i a) (S ++ O) (E ++ E') LL' Ld' (A ++ B) VL' CL' := by
  obtain ⟨o1, o2, o3⟩ := h.base.ok i m hi
  have gmi := gm_at h hi
  have hlen : 1 ≤ m.id := by rw [o2]; omega
  -- terms grow, the log stays
  have t0 : ∀ v, (fun v => (gm g v).term) v ≤ upd (fun v => (gm g v).term) m.id a.term v := by
    intro v
    unfold upd
    split
    · rename_i e; subst e; show (gm g m.id).term ≤ a.term; rw [gmi]; exact s.term
    · exact Int.le_refl _
  have eL : upd (fun v => (gm g v).log) m.id a.log = fun v => (gm g v).log := upd_same _ _ _ (by show (gm g m.id).log = a.log; rw [gmi, hlog])
  have A0 := h.abs.bump t0
  rw [← eL] at A0
  have lv : upd (fun v => (gm g v).log) m.id a.log m.id = a.log := upd_self _ _ _
  have tv : upd (fun v => (gm g v).term) m.id a.term m.id = a.term := upd_self _ _ _
  have m1 := (h.abs.m1 m.id).1
  simp only [gmi] at m1
  -- the votes
  have votes : ∃ VL' CL', AInv n (upd (fun v => (gm g v).term) m.id a.term) (upd (fun v => (gm g v).log) m.id a.log) (E ++ E') LL Ld A VL' CL' ∧ (∀ c t, (c = m.id → t ≤ m.term) → CL' c t = CL c t) ∧ (E' = [(m.id, m.term + 1, m.id)] → CL' m.id (m.term + 1) = m.log ∧ a.term = m.term + 1) := by
    by_cases hself : E' = [(m.id, m.term + 1, m.id)] ∧ a.term = m.term + 1
    · obtain ⟨he, hat⟩ := hself
      have fresh : ∀ d, (m.id, m.term + 1, d) ∉ E := by
        intro d hd
        obtain ⟨j, b, b1, b2, b3, _⟩ := h.base.cur _ _ _ hd
        have : j = i := by omega
        subst this
        rw [hi] at b1
        obtain rfl := Option.some.inj b1
        omega
      have nov : ∀ v, (v, m.term + 1, m.id) ∉ E := by
        intro v hv
        obtain ⟨j, b, b1, b2, b3⟩ := h.evc _ _ _ hv
        have := (h.base.ok j b b1).2.1
        have : j = i := by omega
        subst this
        rw [hi] at b1
        obtain rfl := Option.some.inj b1
        omega
      have A1 := A0.cand (c := m.id) (t := m.term + 1) m.log nov (h.base.ahead hi (by omega))
      have A2 := A1.vote (v := m.id) (c := m.id) (by rw [tv, hat]; exact fresh) (by rw [lv, tv, hat, upd2_self, hlog]; exact upL_self _)
      rw [tv, hat] at A2
      rw [he]
      rw [← hat] at A2 ⊢
      refine ⟨_, _, A2, fun c t hct => ?_, fun _ => ⟨by rw [hat]; exact upd2_self _ _ _ _, rfl⟩⟩
      rw [upd2_ne]
      rintro ⟨e1, e2⟩
      have := hct e1
      omega
    · rcases p.votes with e | ⟨e1, e2, _⟩ | ⟨x, x1, x2, x3, x4, x5, x6⟩
      · refine ⟨VL, CL, by rw [e, List.append_nil]; exact A0, fun _ _ _ => rfl, fun q => by rw [e] at q; cases q⟩
      · exact absurd ⟨e1, e2⟩ hself
      · have hCL : E' = [(m.id, m.term + 1, m.id)] → CL m.id (m.term + 1) = m.log ∧ a.term = m.term + 1 := by
          intro q
          exfalso
          rw [x3] at q
          simp only [List.cons.injEq, Prod.mk.injEq, and_true] at q
          exact hself ⟨by rw [x3, q.2.1, q.2.2], by rw [x4, q.2.1]⟩
        obtain ⟨q1, q2, q3⟩ := h.ask x x1 x2
        by_cases hin : (m.id, x.term, x.frm) ∈ E
        · refine ⟨VL, CL, A0.known (by rw [x3]; intro z hz; simp only [List.mem_singleton] at hz; subst hz; exact hin), fun _ _ _ => rfl, hCL⟩
        · have hfn := (h.base.step hi s).fn
          have A1 := A0.vote (v := m.id) (c := x.frm) (fun d hd => by
            rw [tv, x4] at hd
            have := hfn m.id x.term d x.frm (List.mem_append.2 (.inl hd)) (List.mem_append.2 (.inr (by rw [x3]; simp)))
            subst this
            exact hin hd) (by rw [lv, tv, x4, hlog, ← q3, ← q2]; exact x6)
          rw [tv, x4] at A1
          rw [x3]
          rw [x4]
          exact ⟨_, _, A1, fun _ _ _ => rfl, fun q => by have := hCL (by rw [x3]; exact q); rw [x4] at this; exact this⟩
  obtain ⟨VL', CL', A1, clS, clN⟩ := votes
  have cl' : a.role = 2 → a.log = CL' a.id a.term ∧ ∀ x ∈ a.log, x.1 < a.term := by
    intro hr
    rw [s.id]
    rcases p.cand hr with ⟨r2, e1, e2⟩ | e
    · obtain ⟨q1, q2⟩ := h.cl i m hi r2
      rw [e2, e1, clS _ _ (fun _ => Int.le_refl _)]
      exact ⟨q1, q2⟩
    · obtain ⟨q1, q2⟩ := clN e
      rw [q2, q1, hlog]
      exact ⟨rfl, fun x hx => by have := m1 x hx; omega⟩
  have ask' : ∀ y ∈ O, y.kind = 1 → y.frm = m.id ∧ y.term ≤ a.term ∧ y.index = ((CL' y.frm y.term).length : Int) ∧ y.logTerm = termN (CL' y.frm y.term) (CL' y.frm y.term).length := by
    intro y hy hk
    obtain ⟨q1, q2⟩ := clN (p.asks y hy hk)
    obtain ⟨a1, a2, a3, a4⟩ := asks y hy hk
    rw [a1, a2, q1]
    exact ⟨rfl, by omega, a3, a4⟩
  have ev' : ∀ v t c, (v, t, c) ∈ E' → (c = m.id ∧ t ≤ a.term) ∨ ∃ (j : Nat) (b : M), g[j]? = some b ∧ b.id = c ∧ t ≤ b.term := by
    intro v t c hv
    rcases p.votes with e | ⟨e1, e2, _⟩ | ⟨x, x1, x2, x3, x4, x5, x6⟩
    · rw [e] at hv; simp at hv
    · rw [e1] at hv
      simp only [List.mem_singleton, Prod.mk.injEq] at hv
      exact .inl ⟨hv.2.2, by omega⟩
    · rw [x3] at hv
      simp only [List.mem_singleton, Prod.mk.injEq] at hv
      obtain ⟨rfl, rfl, rfl⟩ := hv
      exact .inr (h.ask x x1 x2).1
  rcases p.logs with ⟨rfl, rfl, q⟩ | ⟨w1, w2, w3, w4, w5, w6, w7, w8⟩ | ⟨_, _, _, _, d, hd, _⟩
  · -- nobody wins
    refine ⟨[], VL', CL', h.step hi s (B := []) (by rw [List.append_nil]; exact A1) clS cl' ask' ev' (fun y hy h1 h2 => by rw [acks y hy h1] at h2; cases h2) (fun hr j hj hp => ?_) ?_ (fun y hy hk => ?_)⟩
    · rw [List.append_nil]; exact mts (q hr).1 hr j hj hp
    · rw [List.append_nil]; exact cms
    · rw [List.append_nil]; exact (cas y hy hk).1
  · -- an election is won
    have cC : CL' a.id a.term = a.log ∧ (∀ x ∈ a.log, x.1 < a.term) ∧ 1 ≤ a.term := by
      rw [s.id]
      have ha := ((okM_iff a).1 s.ok).2
      have t1 : 1 ≤ a.term := by
        rcases ha with ⟨r, _⟩ | ⟨r, _⟩ | ⟨_, t, _⟩
        · omega
        · omega
        · exact t
      rcases p.wins w6 w4 with ⟨r2, e1⟩ | e
      · obtain ⟨q1, q2⟩ := h.cl i m hi r2
        rw [e1, clS _ _ (fun _ => Int.le_refl _), hlog]
        exact ⟨q1.symm, q2, by omega⟩
      · obtain ⟨q1, q2⟩ := clN e
        rw [q2, q1, hlog]
        exact ⟨rfl, fun x hx => by have := m1 x hx; omega, by omega⟩
    obtain ⟨c1, c2, c3⟩ := cC
    have gA : Good LL Ld a.log := by rw [hlog]; exact h.base.good i m hi
    have A2 := A1.lead (t := a.term) (c := a.id) w1 c3 (by rw [c1]; exact gA) (by rw [c1]; exact c2) w8
    rw [c1, ← w2, ← w3] at A2
    have A3 := A2.ack (v := m.id) (c := a.id) (K := a.log.length) (by rw [tv, w3]; exact upd_self _ _ _) (by rw [tv, w2, upd_self]; exact Nat.le_refl _) (by rw [tv, lv, w2, upd_self])
    rw [tv] at A3
    have ext := s.ext
    refine ⟨[(m.id, a.term, a.log.length)], VL', CL', h.step hi s A3 clS cl' ask' ev' (fun y hy h1 h2 => by rw [acks y hy h1] at h2; cases h2) (fun hr j hj hp => ?_) ?_ (fun y hy hk => ?_)⟩
    · -- what the new leader takes for stored: its own log alone
      rw [w7] at hj hp ⊢
      simp only [leadM] at hj hp ⊢
      rw [List.getD_eq_getElem?_getD, List.getElem?_set] at hp ⊢
      have hj' : j < a.members.toNat := by rw [List.length_set, List.length_replicate] at hj; exact hj
      by_cases e : (a.id - 1).toNat = j
      · rw [if_pos e, if_pos (by rw [List.length_replicate]; omega)] at hp ⊢
        refine ⟨a.log.length, by simp, List.mem_append.2 (.inr ?_)⟩
        have e2 : ((j + 1 : Nat) : Int) = m.id := by rw [s.id] at e; omega
        rw [e2]; simp
      · exfalso
        rw [if_neg e, List.getElem?_replicate] at hp
        split at hp <;> simp at hp
    · exact cmt_mono ext (Int.le_refl _) rfl cms
    · obtain ⟨q, c, hc⟩ := cas y hy hk
      obtain ⟨e1, e2, e3⟩ := ext _ _ hc
      refine cmt_mono ext (Int.le_refl _) ?_ q
      have := congrArg (List.take y.commit.toNat) e2
      rw [take_take_le _ (cmt_len q)] at this
      exact this.symm
  · exfalso
    rw [hlog] at hd
    have := congrArg List.length hd
    simp at this

end

section

variable {n : Nat} {g : List M} {S : List X} {E : List Ev} {LL : Int → List It} {Ld : Int → Option Int}

theorem Raft.vote (h : Raft n g S E LL Ld) {i : Nat} {m : M} (hi : g[i]? = some m) {x : X} (hx : x ∈ S) : After n S E LL Ld m (voteR m x).1 (voteR m x).2.toList := by
  obtain ⟨ho, hid, hme⟩ := h.ok i m hi
  have kv := keeps_vote (x := x) ho
  cases hv : (voteR m x).2 with
  | none =>
    have em : (voteR m x).1 = m := by
      unfold voteR at hv ⊢
      split at hv
      · cases hv
      · rename_i hc; rw [if_neg hc]
    rw [em]
    exact h.quiet hi (Keeps.refl ho) fun _ => ⟨rfl, rfl, rfl⟩
  | some y =>
    obtain ⟨hc, e1, e2⟩ := vote_some hv
    obtain ⟨c1, c2, c3, c4⟩ := concerns_ok hc
    have f := okX_facts c2
    have yo := vote_reply_ok hv
    simp only [Option.toList]
    rw [e1] at kv ⊢
    have ro : (castM (newer m x) x).role = 2 ∨ (castM (newer m x) x).role = 3 → (castM (newer m x) x).role = m.role ∧ (castM (newer m x) x).term = m.term ∧ (castM (newer m x) x).votes = m.votes := by
      unfold castM newer
      split <;> split <;> intro hr <;> first
        | exact ⟨rfl, rfl, rfl⟩
        | exact absurd hr (by show ¬ ((1 : Int) = 2 ∨ (1 : Int) = 3); decide)
    have yk : y.kind = 2 := by rw [e2]; rfl
    have shv : (if grants (newer m x) x = true then [(m.id, (castM (newer m x) x).term, x.frm)] else []) = [] ∨ ((if grants (newer m x) x = true then [(m.id, (castM (newer m x) x).term, x.frm)] else []) = [(m.id, m.term + 1, m.id)] ∧ (castM (newer m x) x).term = m.term + 1 ∧ (castM (newer m x) x).log = m.log) ∨ ∃ z, z ∈ S ∧ z.kind = 1 ∧ (if grants (newer m x) x = true then [(m.id, (castM (newer m x) x).term, x.frm)] else []) = [(m.id, z.term, z.frm)] ∧ (castM (newer m x) x).term = z.term ∧ (castM (newer m x) x).log = m.log ∧ upL m.log z.index z.logTerm = true := by
      by_cases hg : grants (newer m x) x = true
      · right; right
        have g := hg
        simp only [grants, Bool.and_eq_true, decide_eq_true_eq] at g
        have et : (castM (newer m x) x).term = x.term := by unfold castM; rw [if_pos hg]; exact g.1.1.symm
        have el : (newer m x).log = m.log := by unfold newer; split <;> rfl
        refine ⟨x, hx, c4, by rw [if_pos hg, et], et, kv.log, ?_⟩
        have := g.2
        rw [upTo_eq, el] at this
        exact this
      · left; rw [if_neg hg]
    refine ⟨_, _, _, Step.same h hi kv (O := [y]) (E' := if grants (newer m x) x = true then [(m.id, (castM (newer m x) x).term, x.frm)] else []) ?_ ?_ ?_ ?_ ?_ ?_, fun hr => .inl ⟨by have := (ro (.inl hr)).1; omega, (ro (.inl hr)).2.1, kv.log⟩, fun _ h2 => by have := (ro (.inr h2)).1; omega, fun z hz e => by simp only [List.mem_singleton] at hz; subst hz; omega, shv, .inl ⟨rfl, rfl, fun hr => ⟨by have := (ro (.inr hr)).1; omega, (ro (.inr hr)).2.1, kv.log⟩⟩⟩
    · intro z hz
      simp only [List.mem_singleton] at hz
      subst hz
      have := yo.1
      rw [hme] at this
      exact this
    · intro z hz _ hok
      simp only [List.mem_singleton] at hz
      subst hz
      rw [e2] at hok ⊢
      have hok : grants (newer m x) x = true := hok
      rw [if_pos hok]
      refine List.mem_append.2 (.inr ?_)
      show ((castM (newer m x) x).id, (castM (newer m x) x).term, x.frm) ∈ _
      rw [kv.id]
      simp
    · intro v t c hvv
      split at hvv
      · rename_i hg
        simp only [List.mem_singleton, Prod.mk.injEq] at hvv
        obtain ⟨rfl, rfl, rfl⟩ := hvv
        refine ⟨rfl, rfl, ?_, by omega⟩
        unfold castM
        rw [if_pos hg]
      · simp at hvv
    · intro hr
      obtain ⟨a1, a2, a3⟩ := ro (.inl hr)
      obtain ⟨d1, d2⟩ := h.cand i m hi (by omega)
      rw [a2, a3, kv.id]
      exact ⟨fun v hv => List.mem_append.2 (.inl (d1 v hv)), d2⟩
    · intro hr
      obtain ⟨a1, a2, a3⟩ := ro (.inr hr)
      exact ⟨by omega, a2⟩
    · intro z hz e
      simp only [List.mem_singleton] at hz
      subst hz
      omega

theorem app_shape (m : M) (x : X) : ((appR m x).1 = m ∨ ((appR m x).1.role = 1 ∧ (appR m x).1.vote = (app1 m x).vote ∧ (appR m x).1.term = (app1 m x).term ∧ concernsX m x 3 = true)) := by
  unfold appR
  split
  · exact .inl rfl
  · rename_i hc
    have hc : concernsX m x 3 = true := by simpa using hc
    split
    · exact .inl rfl
    · split
      · rename_i hr
        left
        unfold app1 at hr ⊢
        split
        · rename_i hu
          rw [if_pos hu] at hr
          exact absurd hr (by show ¬ (1 : Int) = 3; decide)
        · rfl
      · right
        unfold app3
        split
        · exact ⟨rfl, rfl, rfl, hc⟩
        · split <;> exact ⟨rfl, rfl, rfl, hc⟩

theorem Raft.appendS (h : Raft n g S E LL Ld) {i : Nat} {m : M} (hi : g[i]? = some m) {x : X} (hx : x ∈ S) : Step n E LL Ld m (appR m x).1 (appR m x).2.toList [] LL Ld := by
  obtain ⟨ho, hid, hme⟩ := h.ok i m hi
  have gg := goes_app (x := x) ho
  have rep : ∀ y ∈ (appR m x).2.toList, okX y n = true ∧ y.kind = 4 := by
    intro y hy
    have hy : (appR m x).2 = some y := by simpa using hy
    have := (app_reply_ok hy).1
    rw [hme] at this
    obtain ⟨m', t, j, o, rfl⟩ := appR_reply hy
    exact ⟨this, rfl⟩
  have vt : (appR m x).1.term = m.term → m.vote ≠ 0 → (appR m x).1.vote = m.vote := by
    intro e _
    rcases app_shape m x with e1 | ⟨r, v, t, c⟩
    · rw [e1]
    · rw [v]
      rw [t] at e
      unfold app1 at e ⊢
      split
      · rename_i hu
        rw [if_pos hu] at e
        have e : x.term = m.term := e
        omega
      · rfl
  have gd : Good LL Ld (appR m x).1.log := by
    have gm := h.good i m hi
    unfold appR
    split
    · exact gm
    · rename_i hc
      have hc : concernsX m x 3 = true := by simpa using hc
      obtain ⟨c1, c2, c3, c4⟩ := concerns_ok hc
      have f := okX_facts c2
      have pc := h.app x hx c4
      obtain ⟨e1, e2, e3, e4⟩ := app2_eqs m x
      split
      · exact gm
      · split
        · have : (app1 m x).log = m.log := by unfold app1; split <;> rfl
          rw [this]; exact gm
        · unfold app3
          split
          · rw [e1]; exact gm
          · rename_i hm
            split
            · rw [e1]; exact gm
            · exact appended_good h hi e1 pc f.2.2.2.2.2.2.2.2.2.1 (by simpa using hm)
  refine ⟨gg.ok, gg.id, gg.mem, gg.term, vt, fun y hy => (rep y hy).1, fun y hy e => by have := (rep y hy).2; omega, by simp, ?_, ?_, ext_refl, fun t c hc => .inl hc, fun t => .inl rfl, gd, fun y hy e => by have := (rep y hy).2; omega⟩
  · intro hr
    rcases app_shape m x with e1 | ⟨r, _⟩
    · rw [e1] at hr ⊢
      rw [List.append_nil]
      exact h.cand i m hi hr
    · omega
  · intro hr
    rcases app_shape m x with e1 | ⟨r, _⟩
    · rw [e1] at hr ⊢
      exact h.led i m hi hr
    · omega

theorem app_kind {m : M} {x y : X} (hy : y ∈ (appR m x).2.toList) : y.kind = 4 := by
  have hy : (appR m x).2 = some y := by simpa using hy
  obtain ⟨m', t, j, o, rfl⟩ := appR_reply hy
  rfl

theorem Raft.append (h : Raft n g S E LL Ld) {i : Nat} {m : M} (hi : g[i]? = some m) {x : X} (hx : x ∈ S) : After n S E LL Ld m (appR m x).1 (appR m x).2.toList := by
  refine ⟨[], LL, Ld, h.appendS hi hx, fun hr => ?_, fun h1 hr => ?_, fun y hy e => by have := app_kind hy; omega, .inl rfl, .inl ⟨rfl, rfl, fun hr => ?_⟩⟩
  · rcases app_shape m x with e1 | ⟨r, _⟩
    · rw [e1] at hr ⊢
      exact .inl ⟨hr, rfl, rfl⟩
    · omega
  · rcases app_shape m x with e1 | ⟨r, _⟩
    · rw [e1] at hr; exact absurd hr h1
    · omega
  · rcases app_shape m x with e1 | ⟨r, _⟩
    · rw [e1] at hr ⊢
      exact ⟨hr, rfl, rfl⟩
    · omega

theorem ack_shape (m : M) (x : X) : (ackT m x).log = m.log ∧ ((ackT m x).role = 1 ∧ m.term < (ackT m x).term ∨ (ackT m x).role = m.role ∧ (ackT m x).term = m.term ∧ (ackT m x).votes = m.votes ∧ (ackT m x).vote = m.vote) := by
  obtain ⟨a1, a2, a3, a4, a5, a6⟩ : (ackN m x).log = m.log ∧ (ackN m x).role = m.role ∧ (ackN m x).term = m.term ∧ (ackN m x).votes = m.votes ∧ (ackN m x).vote = m.vote ∧ True := by
    unfold ackN; split <;> exact ⟨rfl, rfl, rfl, rfl, rfl, trivial⟩
  unfold ackT
  split
  · split
    · rename_i hu
      exact ⟨rfl, .inl ⟨rfl, hu⟩⟩
    · split
      · exact ⟨rfl, .inr ⟨rfl, rfl, rfl, rfl⟩⟩
      · exact ⟨a1, .inr ⟨a2, a3, a4, a5⟩⟩
  · exact ⟨rfl, .inr ⟨rfl, rfl, rfl, rfl⟩⟩

theorem Raft.ack (h : Raft n g S E LL Ld) {i : Nat} {m : M} (hi : g[i]? = some m) (x : X) : After n S E LL Ld m (ackT m x) [] := by
  obtain ⟨ho, hid, hme⟩ := h.ok i m hi
  have gg := goes_ack (x := x) ho
  obtain ⟨sl, sh⟩ := ack_shape m x
  refine h.quiet hi ⟨gg.ok, gg.id, gg.mem, sl, gg.term, ?_⟩ ?_
  · intro e _
    rcases sh with ⟨_, b⟩ | ⟨_, _, _, b⟩
    · omega
    · exact b
  · intro hr
    rcases sh with ⟨a, _⟩ | ⟨a, b, c, _⟩
    · omega
    · exact ⟨a, b, c⟩

theorem Raft.propose (h : Raft n g S E LL Ld) {i : Nat} {m : M} (hi : g[i]? = some m) {d : ByteArray} (he : errP m d = 0) : After n S E LL Ld m (proposed m d) [] := by
  obtain ⟨ho, hid, hme⟩ := h.ok i m hi
  obtain ⟨gg, gl⟩ := goes_propose he
  have r3 : m.role = 3 := by
    unfold errP at he
    split at he
    · omega
    · split at he
      · omega
      · rename_i hr; exact Decidable.not_not.1 hr
  obtain ⟨l1, l2⟩ := h.led i m hi r3
  have pl : (proposed m d).log = m.log ++ [(m.term, d)] := rfl
  have ext : ∀ t c, Ld t = some c → Ld t = some c ∧ LL t = (upd LL m.term (m.log ++ [(m.term, d)]) t).take (LL t).length ∧ (LL t).length ≤ (upd LL m.term (m.log ++ [(m.term, d)]) t).length := by
    intro t c hc
    refine ⟨hc, ?_⟩
    by_cases e : t = m.term
    · subst e
      rw [upd_self, ← l2]
      exact ⟨by simp, by simp⟩
    · rw [upd_ne e]
      exact ⟨(List.take_length).symm, Nat.le_refl _⟩
  have gd : Good (upd LL m.term (m.log ++ [(m.term, d)])) Ld (m.log ++ [(m.term, d)]) := by
    intro k x hx
    have gm := good_mono ext (h.good i m hi)
    rcases Nat.lt_or_ge k m.log.length with hk | hk
    · rw [List.getElem?_append_left hk] at hx
      obtain ⟨a, b, c⟩ := gm k x hx
      exact ⟨a, b, by rw [List.take_append_of_le_length (by omega)]; exact c⟩
    · rw [List.getElem?_append_right hk] at hx
      have : k - m.log.length = 0 := by
        rcases Nat.eq_zero_or_pos (k - m.log.length) with e | e
        · exact e
        · rw [List.getElem?_eq_none (by simp; omega)] at hx; cases hx
      rw [this] at hx
      simp only [List.getElem?_cons_zero, Option.some.injEq] at hx
      subst hx
      refine ⟨⟨_, l1⟩, ?_, ?_⟩
      · rw [upd_self]; simp; omega
      · rw [upd_self]
  refine ⟨[], upd LL m.term (m.log ++ [(m.term, d)]), Ld, ⟨gg.ok, gg.id, gg.mem, gg.term, fun _ _ => rfl, by simp, by simp, by simp, fun hr => ?_, fun _ => ⟨l1, ?_⟩, ext, fun t c hc => .inl hc, ?_, ?_, by simp⟩, fun hr => by have hr : m.role = 2 := hr; omega, fun h1 _ => absurd r3 h1, by simp, .inl rfl, .inr (.inr ⟨rfl, r3, r3, rfl, d, pl, rfl⟩)⟩
  · have hr : m.role = 2 := hr
    omega
  · rw [pl]; exact (upd_self _ _ _).symm
  · intro t
    by_cases e : t = m.term
    · subst e
      right
      refine ⟨rfl, l1, ?_⟩
      rw [upd_self]
      exact gd
    · left; exact upd_ne e
  · rw [pl]; exact gd

/-- A leader's messages: pieces of its log. -/
theorem beats_piece (h : Raft n g S E LL Ld) {i : Nat} {m : M} (hi : g[i]? = some m) (hr : m.role = 3) : ∀ k : Nat, (k : Int) ≤ m.members → ∀ y ∈ beats m k, Piece LL Ld y
  | 0, _, y, hy => by simp [beats] at hy
  | k + 1, hk, y, hy => by
    obtain ⟨ho, hid, hme⟩ := h.ok i m hi
    obtain ⟨l1, l2⟩ := h.led i m hi hr
    obtain ⟨f1, f2, f3, f4, f5, f6, f7⟩ := lead_facts ho hr
    obtain ⟨b1, b2⟩ := prog_at ho hr k (by omega)
    simp only [beats] at hy
    split at hy
    · exact beats_piece h hi hr k (by omega) y hy
    · rcases List.mem_append.1 hy with hh | hh
      · exact beats_piece h hi hr k (by omega) y hh
      · simp only [List.mem_singleton] at hh
        subst hh
        refine ⟨⟨_, l1⟩, ?_, ?_, ?_⟩
        · show m.next.getD k 0 ≤ ((LL m.term).length : Int)
          rw [← l2]; exact b2
        · show termN m.log _ = termN (LL m.term) _
          rw [← l2]; rfl
        · show m.log.drop _ = ((LL m.term).drop _).take _
          rw [← l2]
          exact (List.take_length).symm

theorem Raft.beat (h : Raft n g S E LL Ld) {i : Nat} {m : M} (hi : g[i]? = some m) : After n S E LL Ld m m (beatsOf m) := by
  obtain ⟨ho, hid, hme⟩ := h.ok i m hi
  have me1 := ((okM_iff m).1 ho).1.me1
  unfold beatsOf
  split
  · rename_i hc
    have bo := beats_ok ho hc.2 m.members.toNat (by omega)
    have bp := beats_piece h hi hc.2 m.members.toNat (by omega)
    have bk : ∀ k : Nat, ∀ y ∈ beats m k, y.kind = 3 := by
      intro k
      induction k with
      | zero => simp [beats]
      | succ k ih =>
        intro y hy
        simp only [beats] at hy
        split at hy
        · exact ih y hy
        · rcases List.mem_append.1 hy with hh | hh
          · exact ih y hh
          · simp only [List.mem_singleton] at hh
            subst hh; rfl
    refine ⟨_, _, _, Step.same h hi (Keeps.refl ho) (O := beats m m.members.toNat) (E' := []) ?_ ?_ (by simp) ?_ (fun hr => ⟨hr, rfl⟩) (fun y hy _ => bp y hy), fun hr => .inl ⟨hr, rfl, rfl⟩, fun h1 h2 => absurd h2 h1, fun y hy e => by have := bk _ y hy; omega, .inl rfl, .inl ⟨rfl, rfl, fun hr => ⟨hr, rfl, rfl⟩⟩⟩
    · intro y hy
      have := (bo y hy).1
      rw [hme] at this
      exact this
    · intro y hy e
      have := bk _ y hy
      omega
    · intro hr
      rw [List.append_nil]
      exact h.cand i m hi hr
  · exact h.quiet hi (Keeps.refl ho) fun _ => ⟨rfl, rfl, rfl⟩

/-- Whatever a member receives. -/
theorem Raft.receive (h : Raft n g S E LL Ld) {i : Nat} {m : M} (hi : g[i]? = some m) {x : X} (hx : x ∈ S) : After n S E LL Ld m (receiveR m x).1 (receiveR m x).2.toList := by
  obtain ⟨ho, hid, hme⟩ := h.ok i m hi
  unfold receiveR
  split
  · exact h.vote hi hx
  · split
    · exact h.count hi hx
    · split
      · exact h.append hi hx
      · split
        · exact h.ack hi x
        · exact h.quiet hi (Keeps.refl ho) fun _ => ⟨rfl, rfl, rfl⟩

/-- Logs of a group that have an item of one number and term are equal up to it. -/
theorem Raft.agree (h : Raft n g S E LL Ld) {i j : Nat} {a b : M} (hi : g[i]? = some a) (hj : g[j]? = some b) {k : Nat} {x y : It} (hx : a.log[k]? = some x) (hy : b.log[k]? = some y) (e : x.1 = y.1) : a.log.take (k + 1) = b.log.take (k + 1) :=
  good_match (h.good i a hi) (h.good j b hj) hx hy e

end

section

variable {n : Nat} {g : List M} {S : List X} {E : List Ev} {LL : Int → List It} {Ld : Int → Option Int} {A : List Ack} {VL CL : Int → Int → List It}

/-- After some step, with what is acknowledged. -/
def After2 (n : Nat) (g : List M) (S : List X) (E : List Ev) (LL : Int → List It) (Ld : Int → Option Int) (A : List Ack) (i : Nat) (a : M) (O : List X) : Prop :=
  ∃ E' LL' Ld' B VL' CL', Raft2 n (g.set i a) (S ++ O) (E ++ E') LL' Ld' (A ++ B) VL' CL' ∧ ∀ t c, Ld t = some c → Ld' t = some c ∧ LL t = (LL' t).take (LL t).length ∧ (LL t).length ≤ (LL' t).length

theorem cmt_same {l l' : List It} {c : Nat} {u w : Int} (hw : u ≤ w) (hl : l'.take c = l.take c) (h : Cmt n LL Ld A l c u) : Cmt n LL Ld A l' c w := by
  have := cmt_mono (B := []) (ext_refl (LL := LL) (Ld := Ld)) hw hl h
  rwa [List.append_nil] at this

theorem cmt_le {l : List It} {c d : Nat} {u : Int} (hd : d ≤ c) (h : Cmt n LL Ld A l c u) : Cmt n LL Ld A l d u := by
  rcases h with e | ⟨t, k, h1, h2, h3, h4⟩
  · exact .inl (by omega)
  · refine .inr ⟨t, k, h1, by omega, h3, ?_⟩
    have := congrArg (List.take d) h4
    rwa [take_take_le _ hd, take_take_le _ hd] at this

theorem Raft2.calmA (h : Raft2 n g S E LL Ld A VL CL) {i : Nat} {m a : M} (hi : g[i]? = some m) {O : List X} (k : After n S E LL Ld m a O) (hlog : a.log = m.log)
    (asks : ∀ y ∈ O, y.kind = 1 → y.frm = m.id ∧ y.term = m.term + 1 ∧ y.index = m.log.length ∧ y.logTerm = termN m.log m.log.length)
    (acks : ∀ y ∈ O, y.kind = 4 → y.ok = false)
    (mts : m.role = 3 → a.role = 3 → ∀ j, j < a.mtch.length → 0 < a.mtch.getD j 0 → ∃ K : Nat, a.mtch.getD j 0 ≤ K ∧ (((j + 1 : Nat) : Int), a.term, K) ∈ A)
    (cms : Cmt n LL Ld A a.log a.commit.toNat a.term)
    (cas : ∀ y ∈ O, y.kind = 3 → Cmt n LL Ld A (LL y.term) y.commit.toNat y.term ∧ ∃ c, Ld y.term = some c) : After2 n g S E LL Ld A i a O := by
  obtain ⟨E', LL', Ld', s, p⟩ := k
  obtain ⟨B, VL', CL', r⟩ := h.calm hi s p hlog asks acks mts cms cas
  exact ⟨_, _, _, _, _, _, r, s.ext⟩

/-- A step that keeps log and commit. -/
theorem Raft2.still (h : Raft2 n g S E LL Ld A VL CL) {i : Nat} {m a : M} (hi : g[i]? = some m) {O : List X} (k : After n S E LL Ld m a O) (hlog : a.log = m.log) (hc : a.commit = m.commit ∨ a.commit = 0) (ht : m.term ≤ a.term)
    (hm : a.role = 3 → m.role = 3 → a.mtch = m.mtch ∧ a.term = m.term)
    (asks : ∀ y ∈ O, y.kind = 1 → y.frm = m.id ∧ y.term = m.term + 1 ∧ y.index = m.log.length ∧ y.logTerm = termN m.log m.log.length)
    (acks : ∀ y ∈ O, y.kind = 4 → y.ok = false)
    (cas : ∀ y ∈ O, y.kind = 3 → Cmt n LL Ld A (LL y.term) y.commit.toNat y.term ∧ ∃ c, Ld y.term = some c) : After2 n g S E LL Ld A i a O := by
  refine h.calmA hi k hlog asks acks (fun hr ha j hj hp => ?_) ?_ cas
  · obtain ⟨e1, e2⟩ := hm ha hr
    rw [e1] at hj hp ⊢
    rw [e2]
    exact h.mt i m hi hr j hj hp
  · rcases hc with e | e
    · rw [e, hlog]
      exact cmt_same ht rfl (h.cm i m hi)
    · rw [e]; exact .inl rfl

theorem asksN_kind (m : M) : ∀ (k : Nat), ∀ y ∈ asksN m k, ∃ t, y = askX m t := by
  intro k
  induction k with
  | zero => simp [asksN]
  | succ k ih =>
    intro y hy
    simp only [asksN] at hy
    split at hy
    · exact ih y hy
    · rcases List.mem_append.1 hy with e | e
      · exact ih y e
      · simp only [List.mem_singleton] at e; exact ⟨_, e⟩

theorem Raft2.timeout (h : Raft2 n g S E LL Ld A VL CL) {i : Nat} {m : M} (hi : g[i]? = some m) : After2 n g S E LL Ld A i (timeoutR m).1 (timeoutR m).2 := by
  obtain ⟨ho, hid, hme⟩ := h.base.ok i m hi
  have k := keeps_timeout ho
  have key : ∀ y ∈ (timeoutR m).2, ∃ t, y = askX (candM m) t := by
    intro y hy
    unfold timeoutR at hy
    split at hy
    · exact asksN_kind _ _ y hy
    · simp at hy
  refine h.still hi (h.base.timeout hi) k.log (.inl ?_) k.term (fun ha hr => ?_) (fun y hy _ => ?_) (fun y hy e => ?_) (fun y hy e => ?_)
  · unfold timeoutR; split
    · show (wonM (candM m)).commit = m.commit
      rw [won_commit]; rfl
    · rfl
  · unfold timeoutR; rw [if_neg (by rintro ⟨_, q, _⟩; exact q hr)]; exact ⟨rfl, rfl⟩
  · obtain ⟨t, rfl⟩ := key y hy; exact ⟨rfl, rfl, rfl, rfl⟩
  · obtain ⟨t, rfl⟩ := key y hy; have e : (1 : Int) = 4 := e; omega
  · obtain ⟨t, rfl⟩ := key y hy; have e : (1 : Int) = 3 := e; omega

theorem Raft2.restart (h : Raft2 n g S E LL Ld A VL CL) {i : Nat} {m : M} (hi : g[i]? = some m) : After2 n g S E LL Ld A i (restartR m) [] := by
  obtain ⟨ho, hid, hme⟩ := h.base.ok i m hi
  have k := keeps_restart ho
  refine h.still hi (h.base.restart hi) k.log (.inr ?_) k.term (fun ha hr => ?_) (by simp) (by simp) (by simp)
  · unfold restartR; rw [if_pos ho]
  · unfold restartR at ha; rw [if_pos ho] at ha; have ha : (1 : Int) = 3 := ha; omega

theorem Raft2.count (h : Raft2 n g S E LL Ld A VL CL) {i : Nat} {m : M} (hi : g[i]? = some m) {x : X} (hx : x ∈ S) : After2 n g S E LL Ld A i (countR m x) [] := by
  obtain ⟨ho, hid, hme⟩ := h.base.ok i m hi
  have k := keeps_count (x := x) ho
  refine h.still hi (h.base.count hi hx) k.log (.inl (count_commit m x)) k.term (fun ha hr => ?_) (by simp) (by simp) (by simp)
  unfold countR at ha ⊢
  split
  · rename_i c
    rw [if_pos c] at ha
    split
    · rename_i c1; rw [if_pos c1] at ha; have ha : (1 : Int) = 3 := ha; omega
    · rw [if_pos (.inr (.inl (by omega)))]; exact ⟨rfl, rfl⟩
  · exact ⟨rfl, rfl⟩

theorem Raft2.vote (h : Raft2 n g S E LL Ld A VL CL) {i : Nat} {m : M} (hi : g[i]? = some m) {x : X} (hx : x ∈ S) : After2 n g S E LL Ld A i (voteR m x).1 (voteR m x).2.toList := by
  obtain ⟨ho, hid, hme⟩ := h.base.ok i m hi
  have k := keeps_vote (x := x) ho
  have key : ∀ y ∈ (voteR m x).2.toList, y.kind = 2 := by
    intro y hy
    have hy : (voteR m x).2 = some y := by simpa using hy
    obtain ⟨_, _, e2⟩ := vote_some hy
    rw [e2]; rfl
  refine h.still hi (h.base.vote hi hx) k.log (.inl (vote_commit m x)) k.term (fun ha hr => ?_) (fun y hy e => by have := key y hy; omega) (fun y hy e => by have := key y hy; omega) (fun y hy e => by have := key y hy; omega)
  unfold voteR at ha ⊢
  split
  · rename_i c
    rw [if_pos c] at ha
    unfold castM newer at ha ⊢
    split <;> split <;> first
      | exact ⟨rfl, rfl⟩
      | (rename_i c1 c2; simp only [if_pos c1, if_pos c2, if_neg c1, if_neg c2] at ha; have ha : (1 : Int) = 3 := ha; omega)
      | skip
    all_goals (simp_all [followM])
  · exact ⟨rfl, rfl⟩

theorem Raft2.beat (h : Raft2 n g S E LL Ld A VL CL) {i : Nat} {m : M} (hi : g[i]? = some m) : After2 n g S E LL Ld A i m (beatsOf m) := by
  obtain ⟨ho, hid, hme⟩ := h.base.ok i m hi
  have bk : ∀ k : Nat, ∀ y ∈ _root_.Go.Dv.Try.beats m k, ∃ j, y = _root_.Go.Dv.Try.beat m j := by
    intro k
    induction k with
    | zero => simp [beats]
    | succ k ih =>
      intro y hy
      simp only [beats] at hy
      split at hy
      · exact ih y hy
      · rcases List.mem_append.1 hy with e | e
        · exact ih y e
        · simp only [List.mem_singleton] at e; exact ⟨_, e⟩
  have key : ∀ y ∈ beatsOf m, m.role = 3 ∧ ∃ j, y = _root_.Go.Dv.Try.beat m j := by
    intro y hy
    unfold beatsOf at hy
    split at hy
    · rename_i c; exact ⟨c.2, bk _ y hy⟩
    · simp at hy
  refine h.still hi (h.base.beat hi) rfl (.inl rfl) (Int.le_refl _) (fun _ _ => ⟨rfl, rfl⟩) (fun y hy e => ?_) (fun y hy e => ?_) (fun y hy e => ?_)
  · obtain ⟨_, j, rfl⟩ := key y hy; have e : (3 : Int) = 1 := e; omega
  · obtain ⟨_, j, rfl⟩ := key y hy; have e : (3 : Int) = 4 := e; omega
  · obtain ⟨r3, j, rfl⟩ := key y hy
    obtain ⟨l1, l2⟩ := h.base.led i m hi r3
    have q := h.cm i m hi
    rw [l2] at q
    exact ⟨q, _, l1⟩

theorem cnt_ids (l : List Int) (k : Int) : ∀ i, i ≤ l.length → ∃ V : List Int, V.Pairwise (· < ·) ∧ V.length = cnt (l.take i) k ∧ ∀ v ∈ V, 1 ≤ v ∧ v ≤ i ∧ k ≤ l.getD (v - 1).toNat 0 := by
  intro i
  induction i with
  | zero => intro _; exact ⟨[], by simp, by simp [cnt], by simp⟩
  | succ i ih =>
    intro hi
    obtain ⟨V, v1, v2, v3⟩ := ih (by omega)
    have hs := cnt_step l k i (by omega)
    by_cases hk : k ≤ l[i]
    · rw [if_pos hk] at hs
      refine ⟨V ++ [((i + 1 : Nat) : Int)], ?_, by simp [hs, v2], fun v hv => ?_⟩
      · rw [List.pairwise_append]
        refine ⟨v1, by simp, fun a ha b hb => ?_⟩
        simp only [List.mem_singleton] at hb
        subst hb
        have := (v3 a ha).2.1
        omega
      · rcases List.mem_append.1 hv with e | e
        · obtain ⟨a, b, c⟩ := v3 v e
          exact ⟨a, by omega, c⟩
        · simp only [List.mem_singleton] at e
          subst e
          have e2 : (((i + 1 : Nat) : Int) - 1).toNat = i := by omega
          rw [e2, List.getD_eq_getElem?_getD, List.getElem?_eq_getElem (by omega)]
          exact ⟨by omega, by omega, hk⟩
    · rw [if_neg hk] at hs
      refine ⟨V, v1, by rw [v2, hs]; rfl, fun v hv => ?_⟩
      obtain ⟨a, b, c⟩ := v3 v hv
      exact ⟨a, by omega, c⟩

theorem comm_is (m : M) : ∀ k : Nat, comm m k = m.commit ∨ ∃ j : Nat, j < k ∧ comm m k = ((j + 1 : Nat) : Int) ∧ itTerm m.log j = m.term ∧ maj m.members ≤ cnt m.mtch ((j + 1 : Nat) : Int) := by
  intro k
  induction k with
  | zero => exact .inl rfl
  | succ k ih =>
    rw [comm]
    split
    · rename_i c; exact .inr ⟨k, by omega, rfl, c.2.1, c.2.2⟩
    · rcases ih with e | ⟨j, j1, j2⟩
      · exact .inl e
      · exact .inr ⟨j, by omega, j2⟩

/-- What the commit rule commits is committed. -/
theorem cmt_rule {LL : Int → List It} {Ld : Int → Option Int} {A : List Ack} {b : M} (n0 : b.members = (n : Nat)) (hlen : (b.mtch.length : Int) = b.members) (hl : b.log = LL b.term) {c : Int} (hc : Ld b.term = some c) (hold : Cmt n LL Ld A b.log b.commit.toNat b.term)
    (hm : ∀ j, j < b.mtch.length → 0 < b.mtch.getD j 0 → ∃ K : Nat, b.mtch.getD j 0 ≤ K ∧ (((j + 1 : Nat) : Int), b.term, K) ∈ A) : Cmt n LL Ld A b.log (commOf b).toNat b.term := by
  rcases comm_is b b.log.length with e | ⟨j, j1, j2, j3, j4⟩
  · unfold commOf; rw [e]; exact hold
  · unfold commOf
    rw [j2]
    have e0 : (((j + 1 : Nat) : Int)).toNat = j + 1 := by omega
    rw [e0]
    refine .inr ⟨b.term, j + 1, ⟨⟨c, hc⟩, by omega, by rw [← hl]; omega, fun x hx => ?_, ?_⟩, Nat.le_refl _, Int.le_refl _, by rw [hl]⟩
    · have e1 : j + 1 - 1 = j := by omega
      rw [e1, ← hl] at hx
      obtain ⟨h1, h2⟩ := List.getElem?_eq_some_iff.1 hx
      rw [itTerm_eq _ _ h1, h2] at j3
      exact j3
    · obtain ⟨V, v1, v2, v3⟩ := cnt_ids b.mtch ((j + 1 : Nat) : Int) b.mtch.length (Nat.le_refl _)
      rw [List.take_length] at v2
      refine ⟨V, v1, by rw [v2, ← n0]; exact j4, fun v hv => ?_⟩
      obtain ⟨a1, a2, a3⟩ := v3 v hv
      have hj : (v - 1).toNat < b.mtch.length := by omega
      obtain ⟨K, k1, k2⟩ := hm _ hj (by omega)
      have ev : (((v - 1).toNat + 1 : Nat) : Int) = v := by omega
      rw [ev] at k2
      exact ⟨a1, by omega, K, by omega, k2⟩

theorem getD_set2 (l : List Int) (i j : Nat) (v : Int) (h : i < l.length) : (l.set i v).getD j 0 = if i = j then v else l.getD j 0 := getD_set l i j v h

theorem Raft2.acked (h : Raft2 n g S E LL Ld A VL CL) {i : Nat} {m : M} (hi : g[i]? = some m) {x : X} (hx : x ∈ S) : After2 n g S E LL Ld A i (ackT m x) [] := by
  obtain ⟨ho, hid, hme⟩ := h.base.ok i m hi
  have gg := goes_ack (x := x) ho
  obtain ⟨sl, sh⟩ := ack_shape m x
  have aft := h.base.ack hi x
  have quiet : ackT m x = m ∨ ackT m x = followM m x.term → After2 n g S E LL Ld A i (ackT m x) [] := by
    intro q
    refine h.still hi aft sl ?_ gg.term (fun ha hr => ?_) (by simp) (by simp) (by simp)
    · rcases q with e | e
      · rw [e]; exact .inl rfl
      · rw [e]; exact .inl rfl
    · rcases q with e | e
      · rw [e]; exact ⟨rfl, rfl⟩
      · rw [e] at ha; have ha : (1 : Int) = 3 := ha; omega
  by_cases c1 : concernsX m x 4 = true
  · by_cases c2 : m.term < x.term
    · exact quiet (.inr (by unfold ackT; rw [if_pos c1, if_pos c2]))
    · by_cases c3 : x.term < m.term ∨ m.role ≠ 3 ∨ (x.ok = true ∧ (m.log.length : Int) < x.index)
      · exact quiet (.inl (by unfold ackT; rw [if_pos c1, if_neg c2, if_pos c3]))
      · have ea : ackT m x = { ackN m x with commit := commOf (ackN m x) } := by unfold ackT; rw [if_pos c1, if_neg c2, if_neg c3]
        obtain ⟨k1, k2, k3, k4⟩ := concerns_ok c1
        have fx := okX_facts k2
        have r3 : m.role = 3 := Decidable.not_not.1 fun e => c3 (.inr (.inl e))
        have xt : x.term = m.term := by
          have : ¬ x.term < m.term := fun e => c3 (.inl e)
          omega
        obtain ⟨l1, l2⟩ := h.base.led i m hi r3
        obtain ⟨f1, f2, f3, f4, f5, f6, f7⟩ := lead_facts ho r3
        obtain ⟨b1, b2, b3, b4, b5, b6, b7⟩ : (ackN m x).log = m.log ∧ (ackN m x).role = m.role ∧ (ackN m x).term = m.term ∧ (ackN m x).members = m.members ∧ (ackN m x).commit = m.commit ∧ (ackN m x).mtch.length = m.mtch.length ∧ True := by
          unfold ackN; split <;> simp
        have mts : ∀ j, j < (ackN m x).mtch.length → 0 < (ackN m x).mtch.getD j 0 → ∃ K : Nat, (ackN m x).mtch.getD j 0 ≤ K ∧ (((j + 1 : Nat) : Int), m.term, K) ∈ A := by
          intro j hj hp
          rw [b6] at hj
          unfold ackN at hp ⊢
          split at hp
          · rename_i ok
            simp only [ok, if_true] at hp ⊢
            have hfi : (x.frm - 1).toNat < m.mtch.length := by omega
            rw [getD_set2 _ _ _ _ hfi] at hp ⊢
            split at hp
            · rename_i e
              rw [if_pos e]
              subst e
              have e2 : (((x.frm - 1).toNat + 1 : Nat) : Int) = x.frm := by omega
              unfold mx at hp ⊢
              split
              · rename_i c4
                have := h.ack x hx k4 ok
                rw [xt] at this
                rw [e2]
                exact ⟨x.index.toNat, by omega, this⟩
              · rename_i c4
                rw [if_neg c4] at hp
                exact h.mt i m hi r3 _ hfi hp
            · rename_i e
              rw [if_neg e]
              exact h.mt i m hi r3 j hj hp
          · rename_i ok
            simp only [ok, if_false] at hp ⊢
            exact h.mt i m hi r3 j hj hp
        refine h.calmA hi aft sl (by simp) (by simp) (fun _ _ => ?_) ?_ (by simp)
        · rw [ea]
          show ∀ j, j < (ackN m x).mtch.length → 0 < (ackN m x).mtch.getD j 0 → ∃ K : Nat, (ackN m x).mtch.getD j 0 ≤ K ∧ (((j + 1 : Nat) : Int), (ackN m x).term, K) ∈ A
          rw [b3]; exact mts
        · rw [ea]
          refine cmt_rule (b := ackN m x) (by rw [b4, hme]) (by rw [b6, b4]; omega) (by rw [b1, b3]; exact l2) (by rw [b3]; exact l1) (by rw [b1, b3, b5]; exact h.cm i m hi) (by rw [b3]; exact mts)
  · exact quiet (.inl (by unfold ackT; rw [if_neg c1]))

theorem Raft2.propose (h : Raft2 n g S E LL Ld A VL CL) {i : Nat} {m : M} (hi : g[i]? = some m) {d : ByteArray} (he : errP m d = 0) : After2 n g S E LL Ld A i (proposed m d) [] := by
  obtain ⟨ho, hid, hme⟩ := h.base.ok i m hi
  obtain ⟨gg, gl⟩ := goes_propose he
  have r3 : m.role = 3 := by
    unfold errP at he
    split at he
    · omega
    · split at he
      · omega
      · rename_i hr; exact Decidable.not_not.1 hr
  obtain ⟨l1, l2⟩ := h.base.led i m hi r3
  obtain ⟨f1, f2, f3, f4, f5, f6, f7⟩ := lead_facts ho r3
  have pl : (proposed m d).log = m.log ++ [(m.term, d)] := rfl
  obtain ⟨E', LL', Ld', s, p⟩ := h.base.propose hi he
  have nlog : (proposed m d).log ≠ m.log := fun e => by rw [pl] at e; have := congrArg List.length e; simp at this
  have hE : E' = [] := by
    rcases p.votes with e | ⟨_, _, e⟩ | ⟨_, _, _, _, _, e, _⟩
    · exact e
    · exact absurd e nlog
    · exact absurd e nlog
  subst hE
  rcases p.logs with ⟨_, _, q⟩ | ⟨_, _, _, _, _, q, _⟩ | ⟨q1, q2, q3, q4, d', q5, q6⟩
  · exact absurd (q r3).2.2 nlog
  · exact absurd r3 q
  · have hd : d' = d := by
      rw [pl] at q5
      have := List.append_cancel_left q5
      simp only [List.cons.injEq, Prod.mk.injEq, and_true, true_and] at this
      exact this.symm
    subst hd
    have gmi := gm_at h hi
    have A1 := h.abs.prop (c := m.id) (t := m.term) d' l1 (by show (gm g m.id).term = m.term; rw [gmi]) (by show (gm g m.id).log = LL m.term; rw [gmi, l2])
    have tv : (gm g m.id).term = m.term := by rw [gmi]
    have A2 := A1.ack (v := m.id) (c := m.id) (K := m.log.length + 1) (by show Ld (gm g m.id).term = some m.id; rw [tv]; exact l1) (by show m.log.length + 1 ≤ _; rw [tv, upd_self, ← l2]; simp) (by rw [upd_self]; show List.take _ (LL m.term ++ _) = _; rw [tv, upd_self])
    have A3 := A2
    rw [tv] at A3
    have eτ : upd (fun v => (gm g v).term) m.id (proposed m d').term = fun v => (gm g v).term := upd_same _ _ _ tv
    subst q1
    have hB : AInv n (upd (fun v => (gm g v).term) m.id (proposed m d').term) (upd (fun v => (gm g v).log) m.id (proposed m d').log) (E ++ []) LL' Ld' (A ++ [(m.id, m.term, m.log.length + 1)]) VL CL := by
      rw [eτ, pl, q6, List.append_nil]
      rw [← l2] at A3
      exact A3
    have mts : ∀ j, j < (withItem m d').mtch.length → 0 < (withItem m d').mtch.getD j 0 → ∃ K : Nat, (withItem m d').mtch.getD j 0 ≤ K ∧ (((j + 1 : Nat) : Int), m.term, K) ∈ A ++ [(m.id, m.term, m.log.length + 1)] := by
      intro j hj hp
      have hj : j < (m.mtch.set (m.id - 1).toNat (m.log.length + 1 : Nat)).length := hj
      rw [List.length_set] at hj
      have hfi : (m.id - 1).toNat < m.mtch.length := by omega
      simp only [withItem] at hp ⊢
      rw [getD_set2 _ _ _ _ hfi] at hp ⊢
      split
      · rename_i e
        refine ⟨m.log.length + 1, by omega, List.mem_append.2 (.inr ?_)⟩
        have e2 : ((j + 1 : Nat) : Int) = m.id := by omega
        rw [e2]; simp
      · rename_i e
        rw [if_neg e] at hp
        obtain ⟨K, k1, k2⟩ := h.mt i m hi r3 j hj hp
        exact ⟨K, k1, List.mem_append.2 (.inl k2)⟩
    refine ⟨_, _, _, _, _, _, h.step hi s hB (fun _ _ _ => rfl) (fun hr => ?_) (by simp) (by simp) (by simp) (fun _ => mts) ?_ (by simp), s.ext⟩
    · have hr : m.role = 2 := hr
      omega
    · refine cmt_rule (b := withItem m d') hme (by show (((m.mtch.set _ _).length : Nat) : Int) = m.members; rw [List.length_set]; omega) (by show m.log ++ [(m.term, d')] = LL' m.term; rw [q6, upd_self]) (c := m.id) l1 ?_ mts
      show Cmt n LL' Ld' _ (m.log ++ [(m.term, d')]) m.commit.toNat m.term
      refine cmt_mono s.ext (Int.le_refl _) ?_ (h.cm i m hi)
      rw [List.take_append_of_le_length (by omega)]

end

end Go.Dv.Try
