/-
  Specifications of the functions of this claim, parts 52, 53, 54.
-/
import Derived.Test.YtjnigloanggmmaaTab
import Derived.Test.YtjnigloanggmmaaStep
import Derived.Test.YtjnigloanggmmaaS1
import Derived.Test.YtjnigloanggmmaaS7
import Derived.Test.YtjnigloanggmmaaS8
import Derived.Test.YtjnigloanggmmaaS16
import Derived.Test.YtjnigloanggmmaaS24
import Derived.Test.YtjnigloanggmmaaS30
import Derived.Test.YtjnigloanggmmaaS36
import Derived.Test.YtjnigloanggmmaaS46
import Derived.Test.YtjnigloanggmmaaS49
set_option linter.unusedVariables false
set_option linter.unusedSimpArgs false
set_option maxRecDepth 100000
set_option maxHeartbeats 16000000
namespace Go.Dv.Try
open Go Go.Dv

/-- Numbers in order, within bounds: how many there can be. -/
theorem asc_len : ∀ (l : List Int) (a b : Int), l.Pairwise (· < ·) → (∀ x ∈ l, a ≤ x ∧ x ≤ b) → (l.length : Int) ≤ max (b - a + 1) 0
  | [], a, b, _, _ => by simp; omega
  | x :: r, a, b, hp, hb => by
    obtain ⟨h1, h2⟩ := List.pairwise_cons.1 hp
    have hx := hb x (by simp)
    have := asc_len r (x + 1) b h2 fun y hy => by have := h1 y hy; have := hb y (by simp [hy]); omega
    simp only [List.length_cons]
    omega

/-- Two lists in order without a common number: both fit side by side. -/
theorem asc_two : ∀ (n : Nat) (l k : List Int) (a b : Int), l.length + k.length = n → l.Pairwise (· < ·) → k.Pairwise (· < ·) → (∀ x ∈ l, a ≤ x ∧ x ≤ b) → (∀ x ∈ k, a ≤ x ∧ x ≤ b) → (∀ x ∈ l, x ∉ k) → ((l.length + k.length : Nat) : Int) ≤ max (b - a + 1) 0
  | 0, l, k, a, b, hn, _, _, _, _, _ => by omega
  | n + 1, [], k, a, b, _, _, hk, _, kb, _ => by simpa using asc_len k a b hk kb
  | n + 1, x :: r, [], a, b, _, hl, _, lb, _, _ => by simpa using asc_len (x :: r) a b hl lb
  | n + 1, x :: r, y :: s, a, b, hn, hl, hk, lb, kb, hd => by
    obtain ⟨l1, l2⟩ := List.pairwise_cons.1 hl
    obtain ⟨k1, k2⟩ := List.pairwise_cons.1 hk
    have hx := lb x (by simp); have hy := kb y (by simp)
    have ne : x ≠ y := fun e => hd x (by simp) (by simp [e])
    rcases Int.lt_or_lt_of_ne ne with h | h
    · have := asc_two n r (y :: s) (x + 1) b (by simp at hn ⊢; omega) l2 hk (fun z hz => by have := l1 z hz; have := lb z (by simp [hz]); omega)
        (fun z hz => by
          rcases List.mem_cons.1 hz with e | e
          · subst e; omega
          · have := k1 z e; have := kb z (by simp [e]); omega) (fun z hz => hd z (by simp [hz]))
      simp only [List.length_cons] at this ⊢
      omega
    · have := asc_two n (x :: r) s (y + 1) b (by simp at hn ⊢; omega) hl k2 (fun z hz => by
          rcases List.mem_cons.1 hz with e | e
          · subst e; omega
          · have := l1 z e; have := lb z (by simp [e]); omega)
        (fun z hz => by have := k1 z hz; have := kb z (by simp [hz]); omega) (fun z hz hs => hd z hz (by simp [hs]))
      simp only [List.length_cons] at this ⊢
      omega

/-- Two majorities have a member in common. -/
theorem maj_meet {n : Int} {l k : List Int} (hn : 1 ≤ n) (hl : l.Pairwise (· < ·)) (hk : k.Pairwise (· < ·)) (lb : ∀ x ∈ l, 1 ≤ x ∧ x ≤ n) (kb : ∀ x ∈ k, 1 ≤ x ∧ x ≤ n) (h1 : maj n ≤ (l.length : Int)) (h2 : maj n ≤ (k.length : Int)) : ∃ x, x ∈ l ∧ x ∈ k := by
  rcases Classical.em (∃ x, x ∈ l ∧ x ∈ k) with h | h
  · exact h
  · exfalso
    have := asc_two _ l k 1 n rfl hl hk lb kb (fun x hx hy => h ⟨x, hx, hy⟩)
    have hm : maj n = n / 2 + 1 := by unfold maj; split <;> omega
    rw [hm] at h1 h2
    omega

/-- A vote: who, in which term, for whom. -/
abbrev Ev := Int × Int × Int

/-- What is so of a group at any time: its members, the messages sent, the votes given, the leaders seen. -/
structure Safe (n : Nat) (g : List M) (S : List X) (E : List Ev) (L : List (Int × Int)) : Prop where
  n1 : 1 ≤ n
  len : g.length = n
  ok : ∀ (i : Nat) m, g[i]? = some m → okM m = true ∧ m.id = (i + 1 : Nat) ∧ m.members = (n : Nat) ∧ m.log = []
  msgs : ∀ y ∈ S, okX y n = true
  reps : ∀ y ∈ S, y.kind = 2 → y.ok = true → (y.frm, y.term, y.to) ∈ E
  fn : ∀ v t c d, (v, t, c) ∈ E → (v, t, d) ∈ E → c = d
  cur : ∀ v t c, (v, t, c) ∈ E → ∃ (i : Nat) (m : M), g[i]? = some m ∧ v = (i + 1 : Nat) ∧ t ≤ m.term ∧ (t = m.term → m.vote = c) ∧ c ≠ 0
  cand : ∀ (i : Nat) m, g[i]? = some m → m.role = 2 → ∀ v ∈ m.votes, (v, m.term, m.id) ∈ E
  led : ∀ (i : Nat) m, g[i]? = some m → m.role = 3 → ∃ V : List Int, V.Pairwise (· < ·) ∧ maj n ≤ (V.length : Int) ∧ ∀ v ∈ V, 1 ≤ v ∧ v ≤ n ∧ (v, m.term, m.id) ∈ E
  lead : ∀ t c, (t, c) ∈ L → ∃ V : List Int, V.Pairwise (· < ·) ∧ maj n ≤ (V.length : Int) ∧ ∀ v ∈ V, 1 ≤ v ∧ v ≤ n ∧ (v, t, c) ∈ E

theorem Safe.one {n : Nat} {g : List M} {S : List X} {E : List Ev} {L : List (Int × Int)} (h : Safe n g S E L) : ∀ a ∈ L, ∀ b ∈ L, a.1 = b.1 → a.2 = b.2 := by
  rintro ⟨t, c⟩ ha ⟨u, d⟩ hb e
  simp only at e
  subst e
  obtain ⟨V, v1, v2, v3⟩ := h.lead _ _ ha
  obtain ⟨U, u1, u2, u3⟩ := h.lead _ _ hb
  have := h.n1
  obtain ⟨x, hx, hy⟩ := maj_meet (n := n) (by omega) v1 u1 (fun x hx => ⟨(v3 x hx).1, (v3 x hx).2.1⟩) (fun x hx => ⟨(u3 x hx).1, (u3 x hx).2.1⟩) v2 u2
  exact h.fn _ _ _ _ (v3 x hx).2.2 (u3 x hy).2.2

/-- A member's step that keeps what was, adds votes E' and messages O. -/
theorem Safe.step {n : Nat} {g : List M} {S : List X} {E : List Ev} {L : List (Int × Int)} (h : Safe n g S E L) {i : Nat} {m a : M} (hi : g[i]? = some m) (k : Keeps m a) (O : List X) (E' : List Ev) (ho : ∀ y ∈ O, okX y n = true)
    (hr : ∀ y ∈ O, y.kind = 2 → y.ok = true → (y.frm, y.term, y.to) ∈ E ++ E') (he : ∀ v t c, (v, t, c) ∈ E' → v = m.id ∧ t = a.term ∧ c = a.vote ∧ c ≠ 0) (hc : a.role = 2 → ∀ v ∈ a.votes, (v, a.term, a.id) ∈ E ++ E')
    (hl : a.role = 3 → ∃ V : List Int, V.Pairwise (· < ·) ∧ maj n ≤ (V.length : Int) ∧ ∀ v ∈ V, 1 ≤ v ∧ v ≤ n ∧ (v, a.term, a.id) ∈ E ++ E') :
    Safe n (g.set i a) (S ++ O) (E ++ E') (L ++ if a.role = 3 then [(a.term, a.id)] else []) := by
  obtain ⟨hi1, hm⟩ := List.getElem?_eq_some_iff.1 hi
  obtain ⟨o1, o2, o3, o4⟩ := h.ok i m hi
  have get : ∀ j b, (g.set i a)[j]? = some b → (j = i ∧ b = a) ∨ (j ≠ i ∧ g[j]? = some b) := by
    intro j b hb
    rw [List.getElem?_set] at hb
    split at hb
    · rename_i e
      subst e
      first | (rw [if_pos hi1] at hb; exact .inl ⟨rfl, (Option.some.inj hb).symm⟩) | exact .inl ⟨rfl, (Option.some.inj hb).symm⟩
    · rename_i e
      exact .inr ⟨fun x => e x.symm, hb⟩
  have cur' : ∀ v t c, (v, t, c) ∈ E ++ E' → ∃ (j : Nat) (b : M), (g.set i a)[j]? = some b ∧ v = (j + 1 : Nat) ∧ t ≤ b.term ∧ (t = b.term → b.vote = c) ∧ c ≠ 0 := by
    intro v t c hv
    rcases List.mem_append.1 hv with hv | hv
    · obtain ⟨j, b, e1, e2, e3, e4, e5⟩ := h.cur v t c hv
      by_cases ej : j = i
      · subst ej
        rw [hi] at e1
        obtain rfl := Option.some.inj e1
        refine ⟨j, a, by rw [List.getElem?_set, if_pos rfl, if_pos hi1], e2, Int.le_trans e3 k.term, fun e => ?_, e5⟩
        have h1 := k.term
        have e6 : t = m.term := by omega
        have e7 := e4 e6
        rw [k.vote (by omega) (by omega), e7]
      · exact ⟨j, b, by rw [List.getElem?_set_ne (fun x => ej x.symm)]; exact e1, e2, e3, e4, e5⟩
    · obtain ⟨e1, e2, e3, e4⟩ := he v t c hv
      exact ⟨i, a, by rw [List.getElem?_set, if_pos rfl, if_pos hi1], by rw [e1, o2], by omega, fun _ => e3.symm, e4⟩
  refine ⟨h.n1, by rw [List.length_set]; exact h.len, ?_, ?_, ?_, ?_, cur', ?_, ?_, ?_⟩
  · intro j b hb
    rcases get j b hb with ⟨e, rfl⟩ | ⟨e, hb⟩
    · subst e
      exact ⟨k.ok, by rw [k.id, o2], by rw [k.mem, o3], by rw [k.log, o4]⟩
    · exact h.ok j b hb
  · intro y hy
    rcases List.mem_append.1 hy with hy | hy
    · exact h.msgs y hy
    · exact ho y hy
  · intro y hy h1 h2
    rcases List.mem_append.1 hy with hy | hy
    · exact List.mem_append.2 (.inl (h.reps y hy h1 h2))
    · exact hr y hy h1 h2
  · intro v t c d h1 h2
    have old : ∀ c d, (v, t, c) ∈ E → (v, t, d) ∈ E' → c = d := by
      intro c d h1 h2
      obtain ⟨e1, e2, e3, e4⟩ := he _ _ _ h2
      obtain ⟨j, b, f1, f2, f3, f4, f5⟩ := h.cur _ _ _ h1
      have ej : j = i := by rw [e1, o2] at f2; omega
      subst ej
      rw [hi] at f1
      obtain rfl := Option.some.inj f1
      have h3 := k.term
      have e6 : t = m.term := by omega
      have e7 := f4 e6
      have := k.vote (by omega) (by omega)
      omega
    rcases List.mem_append.1 h1 with h1 | h1 <;> rcases List.mem_append.1 h2 with h2 | h2
    · exact h.fn _ _ _ _ h1 h2
    · exact old c d h1 h2
    · exact (old d c h2 h1).symm
    · exact (he _ _ _ h1).2.2.1.trans (he _ _ _ h2).2.2.1.symm
  · intro j b hb hrole v hv
    rcases get j b hb with ⟨e, rfl⟩ | ⟨e, hb⟩
    · exact hc hrole v hv
    · exact List.mem_append.2 (.inl (h.cand j b hb hrole v hv))
  · intro j b hb hrole
    rcases get j b hb with ⟨e, rfl⟩ | ⟨e, hb⟩
    · exact hl hrole
    · obtain ⟨V, v1, v2, v3⟩ := h.led j b hb hrole
      exact ⟨V, v1, v2, fun v hv => ⟨(v3 v hv).1, (v3 v hv).2.1, List.mem_append.2 (.inl (v3 v hv).2.2)⟩⟩
  · intro t c htc
    rcases List.mem_append.1 htc with htc | htc
    · obtain ⟨V, v1, v2, v3⟩ := h.lead t c htc
      exact ⟨V, v1, v2, fun v hv => ⟨(v3 v hv).1, (v3 v hv).2.1, List.mem_append.2 (.inl (v3 v hv).2.2)⟩⟩
    · split at htc
      · rename_i hrole
        simp only [List.mem_singleton, Prod.mk.injEq] at htc
        obtain ⟨rfl, rfl⟩ := htc
        exact hl hrole
      · simp at htc

/-- A member that does nothing, or only becomes a follower of a newer term or restarts. -/
theorem Safe.quiet {n : Nat} {g : List M} {S : List X} {E : List Ev} {L : List (Int × Int)} (h : Safe n g S E L) {i : Nat} {m a : M} (hi : g[i]? = some m) (k : Keeps m a) (hc : a.role = 2 ∨ a.role = 3 → a.role = m.role ∧ a.term = m.term ∧ a.votes = m.votes ∧ a.id = m.id) :
    Safe n (g.set i a) (S ++ []) (E ++ []) (L ++ if a.role = 3 then [(a.term, a.id)] else []) := by
  refine h.step hi k [] [] (by simp) (by simp) (by simp) ?_ ?_
  · intro hr v hv
    obtain ⟨e1, e2, e3, e4⟩ := hc (.inl hr)
    rw [e2, e4, List.append_nil]
    exact h.cand i m hi (by rw [← e1]; exact hr) v (by rw [← e3]; exact hv)
  · intro hr
    obtain ⟨e1, e2, e3, e4⟩ := hc (.inr hr)
    rw [e2, e4, List.append_nil]
    exact h.led i m hi (by rw [← e1]; exact hr)

theorem votes_bounds {m : M} (h : okVotes m = true) : m.votes.Pairwise (· < ·) ∧ ∀ x ∈ m.votes, 1 ≤ x ∧ x ≤ m.members := by
  simp only [okVotes, Bool.and_eq_true] at h
  exact vOK_all.1 h.1.1

theorem Safe.acts {n : Nat} {g : List M} {S : List X} {E : List Ev} {L : List (Int × Int)} (h : Safe n g S E L) {i : Nat} {m : M} (hi : g[i]? = some m) (k : Int) (x : X) (hx : k = 0 ∨ k = 1 ∨ x ∈ S) :
    ∃ E', Safe n (g.set i (doR m k x).1) (S ++ (doR m k x).2) E' (L ++ if (doR m k x).1.role = 3 then [((doR m k x).1.term, (doR m k x).1.id)] else []) := by
  obtain ⟨ho, hid, hme, hlg⟩ := h.ok i m hi
  obtain ⟨hh, hro⟩ := (okM_iff m).1 ho
  have n1 := h.n1
  unfold doR
  split
  · have kt := keeps_timeout ho
    have mo := timeout_ok ho
    unfold timeoutR at kt mo ⊢
    split
    · rename_i hc
      rw [if_pos hc] at kt mo
      simp only at kt mo ⊢
      have t1 : (wonM (candM m)).term = m.term + 1 := (won_fields _).1
      have v1 : (wonM (candM m)).vote = m.id := (won_fields _).2.1
      have i1 : (wonM (candM m)).id = m.id := (won_fields _).2.2.1
      refine ⟨_, h.step hi kt _ [(m.id, m.term + 1, m.id)] ?_ ?_ ?_ ?_ ?_⟩
      · intro y hy
        have := (mo y hy).1
        rw [hme] at this
        exact this
      · intro y hy e
        have := (mo y hy).2.2.2
        omega
      · intro v t c hv
        simp only [List.mem_singleton, Prod.mk.injEq] at hv
        obtain ⟨rfl, rfl, rfl⟩ := hv
        have := hh.id1
        exact ⟨rfl, t1.symm, v1.symm, by omega⟩
      · intro hr v hv
        unfold wonM at hr hv
        split at hr
        · exact absurd hr (by show ¬ (3 : Int) = 2; decide)
        · rename_i hw
          rw [if_neg hw] at hv
          simp only [candM, List.mem_singleton] at hv
          subst hv
          rw [t1, i1]
          exact List.mem_append.2 (.inr (by simp))
      · intro hr
        unfold wonM at hr
        split at hr
        · rename_i hw
          refine ⟨[m.id], by simp, ?_, ?_⟩
          · have hw : maj m.members ≤ ((1 : Nat) : Int) := hw
            rw [hme] at hw
            exact hw
          · intro v hv
            simp only [List.mem_singleton] at hv
            subst hv
            rw [t1, i1]
            have := hh.id1; have := hh.id2
            exact ⟨by omega, by omega, List.mem_append.2 (.inr (by simp))⟩
        · exact absurd hr (by show ¬ (2 : Int) = 3; decide)
    · exact ⟨_, h.quiet hi (Keeps.refl ho) fun _ => ⟨rfl, rfl, rfl, rfl⟩⟩
  · split
    · refine ⟨_, h.quiet hi (keeps_restart ho) fun hr => ?_⟩
      unfold restartR at hr
      rw [if_pos ho] at hr
      rcases hr with hr | hr
      · exact absurd hr (by show ¬ (1 : Int) = 2; decide)
      · exact absurd hr (by show ¬ (1 : Int) = 3; decide)
    · rename_i k0 k1
      have hxS : x ∈ S := by
        rcases hx with e | e | e
        · exact absurd e k0
        · exact absurd e k1
        · exact e
      cases hv : (voteR m x).2 with
      | some y =>
        obtain ⟨hc, e1, e2⟩ := vote_some hv
        obtain ⟨c1, c2, c3, c4⟩ := concerns_ok hc
        have f := okX_facts c2
        have kv := keeps_vote (x := x) ho
        have yo := vote_reply_ok hv
        simp only [count_other (m := (voteR m x).1) (x := x) (by omega), Option.toList]
        rw [e1] at kv ⊢
        have ro : (castM (newer m x) x).role = 2 ∨ (castM (newer m x) x).role = 3 → (castM (newer m x) x).role = m.role ∧ (castM (newer m x) x).term = m.term ∧ (castM (newer m x) x).votes = m.votes ∧ (castM (newer m x) x).id = m.id := by
          unfold castM newer
          split <;> split <;> intro hr <;> first
            | exact ⟨rfl, rfl, rfl, rfl⟩
            | exact absurd hr (by show ¬ ((1 : Int) = 2 ∨ (1 : Int) = 3); decide)
        refine ⟨_, h.step hi kv [y] (if grants (newer m x) x = true then [(m.id, (castM (newer m x) x).term, x.frm)] else []) ?_ ?_ ?_ ?_ ?_⟩
        · intro z hz
          simp only [List.mem_singleton] at hz
          subst hz
          have := yo.1
          rw [hme] at this
          exact this
        · intro z hz _ hok
          simp only [List.mem_singleton] at hz
          subst hz
          rw [e2] at hok ⊢
          have hok : grants (newer m x) x = true := hok
          rw [if_pos hok]
          refine List.mem_append.2 (.inr ?_)
          show ((castM (newer m x) x).id, (castM (newer m x) x).term, x.frm) ∈ _
          rw [kv.id]
          simp
        · intro v t c hvv
          split at hvv
          · rename_i hg
            simp only [List.mem_singleton, Prod.mk.injEq] at hvv
            obtain ⟨rfl, rfl, rfl⟩ := hvv
            refine ⟨rfl, rfl, ?_, by omega⟩
            unfold castM
            rw [if_pos hg]
          · simp at hvv
        · intro hr v hvv
          obtain ⟨a1, a2, a3, a4⟩ := ro (.inl hr)
          rw [a2, a4]
          exact List.mem_append.2 (.inl (h.cand i m hi (by rw [← a1]; exact hr) v (by rw [← a3]; exact hvv)))
        · intro hr
          obtain ⟨a1, a2, a3, a4⟩ := ro (.inr hr)
          rw [a2, a4]
          obtain ⟨V, v1, v2, v3⟩ := h.led i m hi (by rw [← a1]; exact hr)
          exact ⟨V, v1, v2, fun v hv => ⟨(v3 v hv).1, (v3 v hv).2.1, List.mem_append.2 (.inl (v3 v hv).2.2)⟩⟩
      | none =>
        have em : (voteR m x).1 = m := by
          unfold voteR at hv ⊢
          split at hv
          · cases hv
          · rename_i hc; rw [if_neg hc]
        simp only [em, Option.toList]
        have kc := keeps_count (x := x) ho
        unfold countR at kc ⊢
        split
        · rename_i hc
          rw [if_pos hc] at kc
          obtain ⟨c1, c2, c3, c4⟩ := concerns_ok hc
          have f := okX_facts c2
          split
          · rename_i ht
            rw [if_pos ht] at kc
            exact ⟨_, h.quiet hi kc fun hr => absurd hr (by show ¬ ((1 : Int) = 2 ∨ (1 : Int) = 3); decide)⟩
          · rename_i ht
            rw [if_neg ht] at kc
            split
            · exact ⟨_, h.quiet hi (Keeps.refl ho) fun _ => ⟨rfl, rfl, rfl, rfl⟩⟩
            · rename_i hn
              rw [if_neg hn] at kc
              have r2 : m.role = 2 := Decidable.not_not.1 fun e => hn (.inr (.inl e))
              have xo : x.ok = true := by
                cases e : x.ok
                · exact absurd (.inr (.inr (.inl e))) hn
                · rfl
              have xt : x.term = m.term := by
                have : ¬ x.term < m.term := fun e => hn (.inl e)
                omega
              have hov : okVotes m = true := by
                rcases hro with ⟨r, _⟩ | ⟨_, _, _, b, _⟩ | ⟨r, _⟩
                · omega
                · exact b
                · omega
              obtain ⟨up, bd⟩ := votes_bounds hov
              have hin : ∀ v ∈ insGo x.frm m.votes false, 1 ≤ v ∧ v ≤ (n : Int) ∧ (v, m.term, m.id) ∈ E := by
                intro v hvv
                rcases insGo_sub _ _ _ v hvv with e | e
                · subst e
                  have := h.reps x hxS c4 xo
                  rw [xt, c3] at this
                  exact ⟨by omega, by omega, this⟩
                · have := bd v e
                  exact ⟨by omega, by omega, h.cand i m hi r2 v e⟩
              have wt : (wonM { m with votes := insGo x.frm m.votes false }).term = m.term := (won_fields _).1
              have wi : (wonM { m with votes := insGo x.frm m.votes false }).id = m.id := (won_fields _).2.2.1
              refine ⟨_, h.step hi kc [] [] (by simp) (by simp) (by simp) ?_ ?_⟩
              · intro hr v hvv
                rw [wt, wi, List.append_nil]
                unfold wonM at hr hvv
                split at hr
                · exact absurd hr (by show ¬ (3 : Int) = 2; decide)
                · rename_i hw
                  rw [if_neg hw] at hvv
                  exact (hin v hvv).2.2
              · intro hr
                rw [wt, wi, List.append_nil]
                unfold wonM at hr
                split at hr
                · rename_i hw
                  have hw : maj m.members ≤ ((insGo x.frm m.votes false).length : Int) := hw
                  rw [hme] at hw
                  exact ⟨_, insGo_up _ _ up, hw, hin⟩
                · have hr : m.role = 3 := hr
                  omega
        · exact ⟨_, h.quiet hi (Keeps.refl ho) fun _ => ⟨rfl, rfl, rfl, rfl⟩⟩

theorem Safe.new (n : Nat) (h1 : 1 ≤ n) (h7 : n ≤ 7) : Safe n ((List.range n).map fun i => (⟨(i + 1 : Nat), n, 0, 0, [], 1, 0, [], [], []⟩ : M)) [] [] [] := by
  have get : ∀ (i : Nat) m, ((List.range n).map fun i => (⟨(i + 1 : Nat), n, 0, 0, [], 1, 0, [], [], []⟩ : M))[i]? = some m → i < n ∧ m = ⟨(i + 1 : Nat), n, 0, 0, [], 1, 0, [], [], []⟩ := by
    intro i m h
    rw [List.getElem?_map] at h
    rcases Nat.lt_or_ge i n with g | g
    · rw [List.getElem?_range g] at h
      exact ⟨g, (Option.some.inj h).symm⟩
    · rw [List.getElem?_eq_none (by simpa using g)] at h
      cases h
  refine ⟨h1, by simp, ?_, by simp, by simp, by simp, by simp, ?_, ?_, by simp⟩
  · intro i m h
    obtain ⟨g, rfl⟩ := get i m h
    refine ⟨?_, rfl, rfl, rfl⟩
    rw [okM_iff]
    exact ⟨⟨by show (1 : Int) ≤ n; omega, by show (n : Int) ≤ 7; omega, by show (1 : Int) ≤ (i + 1 : Nat); omega, by show ((i + 1 : Nat) : Int) ≤ n; omega, by show (0 : Int) ≤ 0; omega, by show (0 : Int) ≤ _; omega, by show (0 : Int) ≤ 0; omega, by show (0 : Int) ≤ n; omega, rfl, by show (0 : Int) ≤ 0; omega, by show (0 : Int) ≤ 0; omega⟩, .inl ⟨rfl, rfl, rfl, rfl⟩⟩
  · intro i m h r
    obtain ⟨g, rfl⟩ := get i m h
    exact absurd r (by show ¬ (1 : Int) = 2; decide)
  · intro i m h r
    obtain ⟨g, rfl⟩ := get i m h
    exact absurd r (by show ¬ (1 : Int) = 3; decide)

def grpPV (l : List (M × Fl)) : List (List PV) := l.map fun t => mC t.1 t.2

theorem grpPV_length (l : List (M × Fl)) : (grpPV l).length = l.length := by simp [grpPV]

theorem grpPV_sz (l : List (M × Fl)) : allSz 10 (grpPV l) = true := by simp [allSz, grpPV, mC]

theorem grpPV_append (a b : List (M × Fl)) : grpPV a ++ grpPV b = grpPV (a ++ b) := by simp [grpPV]

theorem grpPV_get (l : List (M × Fl)) (i : Nat) (h : i < l.length) : (grpPV l)[i]? = some (mC l[i].1 l[i].2) := by simp [grpPV, h]

theorem grpPV_set (l : List (M × Fl)) (i : Nat) (m : M) (f : Fl) : (grpPV l).set i [.int .i64 m.id, .int .i64 m.members, .int .i64 m.term, .int .i64 m.vote, .slice f.a (itemsPV m.log), .int .i64 m.role, .int .i64 m.commit, .slice f.b (intsPV m.votes), .slice f.c (intsPV m.next), .slice f.d (intsPV m.mtch)] = grpPV (l.set i (m, f)) := by
  simp [grpPV, List.map_set, mC]

theorem l8a (R0 R1 : Blk) (h0 : ∃ l, R0 = .row false 10 (grpPV l)) (h1' : ∃ l, R1 = .row false 9 (rowsT l)) (G : List (Int × Int)) (hl : G.length ≤ 100000) (ho : One G) (i : Nat) (hi : i < G.length) (K : Ex → St → Prop)
    (hx : K (.exit 7) ⟨[(10, .ref 2 G.length 0 G.length), (16, .p (.int .i64 i))], [(2, .row false 2 (grPV G)), (1, R1), (0, R0)], 3, [0]⟩) : ∀ (n k : Nat), k + n = i →
    W tb a8_l0 ⟨[(10, .ref 2 G.length 0 G.length), (16, .p (.int .i64 i)), (17, .p (.int .i64 k))], [(2, .row false 2 (grPV G)), (1, R1), (0, R0)], 3, [0]⟩ (LK tb (.ghost .lower a8_l0) K) := by
  obtain ⟨u0, rfl⟩ := h0
  obtain ⟨u1, rfl⟩ := h1'
  intro n
  induction n with
  | zero =>
    intro k hk
    have h1 : ¬ (k : Int) < (i : Int) := by omega
    refine i_code (by unfold a8_l0; exact rfl) ?_
    repeat' (first | (simp (maxSteps := 2000000) (disch := omega) only [go_sem, seval, reduceCtorEq, h1]) | ((first | apply x_split_cond | apply x_split_guard); all_goals (intro hb; (try simp only [Bool.not_eq_true', Bool.not_eq_false'] at hb); (simp (maxSteps := 2000000) (disch := omega) only [go_sem, seval, reduceCtorEq, h1, hb]); (try simp only [decide_eq_true_eq, decide_eq_false_iff_not, beq_iff_eq, beq_eq_false_iff_ne, ne_eq, bne_iff_ne, bne_eq_false_iff_eq, Decidable.not_not] at hb))))
    exact hx
  | succ n ih =>
    intro k hk
    have h1 : (k : Int) < (i : Int) := by omega
    have h2 : k < G.length := by omega
    have h3 := grPV_get G k h2
    have h4 := grPV_get G i hi
    have h5 : (0 : Int) ≤ k := by omega
    have h6 : (0 : Int) ≤ i := by omega
    have h7 : (k : Int) < (G.length : Int) := by omega
    have h8 : (i : Int) < (G.length : Int) := by omega
    refine i_code (by unfold a8_l0; exact rfl) ?_
    by_cases e : G[i].1 = G[k].1
    · have e1 : (G[i].1 == G[k].1) = true := by simpa using e
      have e2 : (G[i].2 != G[k].2) = false := by simpa using ho _ (List.getElem_mem hi) _ (List.getElem_mem h2) e
      repeat' (first | (simp (maxSteps := 2000000) (disch := omega) only [go_sem, seval, reduceCtorEq, h1, hi, h2, h3, h4, h5, h6, h7, h8, e1, e2, grPV_length]) | ((first | apply x_split_cond | apply x_split_guard); all_goals (intro hb; (try simp only [Bool.not_eq_true', Bool.not_eq_false'] at hb); (simp (maxSteps := 2000000) (disch := omega) only [go_sem, seval, reduceCtorEq, h1, hi, h2, h3, h4, h5, h6, h7, h8, e1, e2, grPV_length, hb]); (try simp only [decide_eq_true_eq, decide_eq_false_iff_not, beq_iff_eq, beq_eq_false_iff_ne, ne_eq, bne_iff_ne, bne_eq_false_iff_eq, Decidable.not_not] at hb))))
      refine i_lk (W_round ?_)
      (try simp (maxSteps := 2000000) (disch := omega) only [go_sem, seval, reduceCtorEq])
      exact ih (k + 1) (by omega)
    · have e1 : (G[i].1 == G[k].1) = false := by simpa using e
      repeat' (first | (simp (maxSteps := 2000000) (disch := omega) only [go_sem, seval, reduceCtorEq, h1, hi, h2, h3, h4, h5, h6, h7, h8, e1, grPV_length]) | ((first | apply x_split_cond | apply x_split_guard); all_goals (intro hb; (try simp only [Bool.not_eq_true', Bool.not_eq_false'] at hb); (simp (maxSteps := 2000000) (disch := omega) only [go_sem, seval, reduceCtorEq, h1, hi, h2, h3, h4, h5, h6, h7, h8, e1, grPV_length, hb]); (try simp only [decide_eq_true_eq, decide_eq_false_iff_not, beq_iff_eq, beq_eq_false_iff_ne, ne_eq, bne_iff_ne, bne_eq_false_iff_eq, Decidable.not_not] at hb))))
      refine i_lk (W_round ?_)
      (try simp (maxSteps := 2000000) (disch := omega) only [go_sem, seval, reduceCtorEq])
      exact ih (k + 1) (by omega)

theorem l8b (R0 R1 : Blk) (h0 : ∃ l, R0 = .row false 10 (grpPV l)) (h1' : ∃ l, R1 = .row false 9 (rowsT l)) (G : List (Int × Int)) (hl : G.length ≤ 100000) (ho : One G) (K : Ex → St → Prop) (hx : ∀ s, s.env = [] → K (.exit 5) s) : ∀ (n i : Nat), i + n = G.length →
    W tb a8_l1 ⟨[(10, .ref 2 G.length 0 G.length), (16, .p (.int .i64 i))], [(2, .row false 2 (grPV G)), (1, R1), (0, R0)], 3, [0]⟩ (LK tb (.ghost .lower a8_l1) K) := by
  have k0 := h0
  have k1 := h1'
  obtain ⟨u0, rfl⟩ := h0
  obtain ⟨u1, rfl⟩ := h1'
  intro n
  induction n with
  | zero =>
    intro i hi
    have h1 : ¬ (i : Int) < (G.length : Int) := by omega
    refine i_code (by unfold a8_l1; exact rfl) ?_
    repeat' (first | (simp (maxSteps := 2000000) (disch := omega) only [go_sem, seval, reduceCtorEq, h1, grPV_length]) | ((first | apply x_split_cond | apply x_split_guard); all_goals (intro hb; (try simp only [Bool.not_eq_true', Bool.not_eq_false'] at hb); (simp (maxSteps := 2000000) (disch := omega) only [go_sem, seval, reduceCtorEq, h1, grPV_length, hb]); (try simp only [decide_eq_true_eq, decide_eq_false_iff_not, beq_iff_eq, beq_eq_false_iff_ne, ne_eq, bne_iff_ne, bne_eq_false_iff_eq, Decidable.not_not] at hb))))
    exact hx _ rfl
  | succ n ih =>
    intro i hi
    have h1 : (i : Int) < (G.length : Int) := by omega
    refine i_code (by unfold a8_l1; exact rfl) ?_
    repeat' (first | (simp (maxSteps := 2000000) (disch := omega) only [go_sem, seval, reduceCtorEq, h1, grPV_length]) | ((first | apply x_split_cond | apply x_split_guard); all_goals (intro hb; (try simp only [Bool.not_eq_true', Bool.not_eq_false'] at hb); (simp (maxSteps := 2000000) (disch := omega) only [go_sem, seval, reduceCtorEq, h1, grPV_length, hb]); (try simp only [decide_eq_true_eq, decide_eq_false_iff_not, beq_iff_eq, beq_eq_false_iff_ne, ne_eq, bne_iff_ne, bne_eq_false_iff_eq, Decidable.not_not] at hb))))
    refine W_round ?_
    (try simp (maxSteps := 2000000) (disch := omega) only [go_sem, seval, reduceCtorEq])
    refine l8a _ _ k0 k1 G hl ho i (by omega) _ ?_ i 0 (Nat.zero_add _)
    (try simp (maxSteps := 2000000) (disch := omega) only [go_sem, seval, reduceCtorEq])
    refine i_lk (W_round ?_)
    (try simp (maxSteps := 2000000) (disch := omega) only [go_sem, seval, reduceCtorEq])
    exact ih (i + 1) (by omega)

def newsG (n k : Nat) : List (M × Fl) := (List.range k).map fun i => ((⟨(i + 1 : Nat), n, 0, 0, [], 1, 0, [], [], []⟩ : M), ⟨true, true, true, true⟩)

theorem newsG_len (n k : Nat) : (newsG n k).length = k := by simp [newsG]

theorem newsG_succ (n k : Nat) : newsG n (k + 1) = newsG n k ++ [((⟨(k + 1 : Nat), n, 0, 0, [], 1, 0, [], [], []⟩ : M), ⟨true, true, true, true⟩)] := by simp [newsG, List.range_succ]

theorem l8c (n : Nat) (h1 : 1 ≤ n) (h7 : n ≤ 7) (ev : PV) (K : Ex → St → Prop)
    (hx : K (.exit 0) ⟨[(0, .p (.int .i64 n)), (1, .p ev), (5, .ref 0 n 0 n)], [(0, .row false 10 (grpPV (newsG n n)))], 1, [0]⟩) : ∀ (j k : Nat), k + j = n →
    W tb a8_l3 ⟨[(0, .p (.int .i64 n)), (1, .p ev), (5, .ref 0 k 0 k), (6, .p (.int .i64 (k + 1 : Nat)))], [(0, .row false 10 (grpPV (newsG n k)))], 1, [0]⟩ (LK tb (.ghost (.free [7]) (.ghost .lower a8_l3)) K) := by
  intro j
  induction j with
  | zero =>
    intro k hk
    have e : k = n := by omega
    subst e
    have g1 : ¬ ((k + 1 : Nat) : Int) ≤ (k : Int) := by omega
    refine i_code (by unfold a8_l3; exact rfl) ?_
    repeat' (first | (simp (maxSteps := 2000000) (disch := omega) only [go_sem, seval, reduceCtorEq, g1]) | ((first | apply x_split_cond | apply x_split_guard); all_goals (intro hb; (try simp only [Bool.not_eq_true', Bool.not_eq_false'] at hb); (simp (maxSteps := 2000000) (disch := omega) only [go_sem, seval, reduceCtorEq, g1, hb]); (try simp only [decide_eq_true_eq, decide_eq_false_iff_not, beq_iff_eq, beq_eq_false_iff_ne, ne_eq, bne_iff_ne, bne_eq_false_iff_eq, Decidable.not_not] at hb))))
    exact hx
  | succ j ih =>
    intro k hk
    have g1 : ((k + 1 : Nat) : Int) ≤ (n : Int) := by omega
    have nb : ¬ badNew (k + 1 : Nat) n := by unfold badNew; omega
    have q := ps23 (k + 1 : Nat) n
    rw [show newM (k + 1 : Nat) n = ⟨(k + 1 : Nat), n, 0, 0, [], 1, 0, [], [], []⟩ from if_neg nb, show newE (k + 1 : Nat) n = 0 from if_neg nb] at q
    have sing : [[PV.int .i64 ((k + 1 : Nat) : Int), .int .i64 (n : Int), .int .i64 0, .int .i64 0, .slice true [], .int .i64 1, .int .i64 0, .slice true [], .slice true [], .slice true []]] = grpPV [((⟨(k + 1 : Nat), n, 0, 0, [], 1, 0, [], [], []⟩ : M), (⟨true, true, true, true⟩ : Fl))] := rfl
    have nl := newsG_len n k
    have ih := ih (k + 1) (by omega)
    rw [newsG_succ] at ih
    refine i_code (by unfold a8_l3; exact rfl) ?_
    repeat' (first | (simp (maxSteps := 2000000) (disch := omega) only [go_sem, seval, reduceCtorEq, g1, mC, itemsPV_nil, intsPV_nil, sing, grpPV_sz, grpPV_append, grpPV_length, nl, List.length_append, List.take_length, maxB]) | (apply x_pure; iterate 5 (first | exact q | ((try simp (maxSteps := 2000000) (disch := omega) only [go_sem, seval, reduceCtorEq, g1, mC, itemsPV_nil, intsPV_nil, sing, grpPV_sz, grpPV_append, grpPV_length, nl, List.length_append, List.take_length, maxB]) <;> with_reducible exact rfl))) | ((first | apply x_split_cond | apply x_split_guard); all_goals (intro hb; (try simp only [Bool.not_eq_true', Bool.not_eq_false'] at hb); (simp (maxSteps := 2000000) (disch := omega) only [go_sem, seval, reduceCtorEq, g1, mC, itemsPV_nil, intsPV_nil, sing, grpPV_sz, grpPV_append, grpPV_length, nl, List.length_append, List.take_length, maxB, hb]); (try simp only [decide_eq_true_eq, decide_eq_false_iff_not, beq_iff_eq, beq_eq_false_iff_ne, ne_eq, bne_iff_ne, bne_eq_false_iff_eq, Decidable.not_not] at hb))))
    refine i_lk (W_round ?_)
    (try simp (maxSteps := 2000000) (disch := omega) only [go_sem, seval, reduceCtorEq])
    exact ih

theorem fit_ints2 {y : PV} (h : Fit (.slice [.int .i64]) y) : ∃ l, y = .slice false (intsPV l) ∧ ∀ e ∈ l, e ≤ 9223372036854775807 := by
  cases h with
  | slice l xs h hl hr =>
    have : ∀ xs : List (List PV), (∀ x ∈ xs, ∃ n, x = intPV n ∧ n ≤ 9223372036854775807) → ∃ l, xs = intsPV l ∧ ∀ e ∈ l, e ≤ 9223372036854775807 := by
      intro xs
      induction xs with
      | nil => intro _; exact ⟨[], rfl, by simp⟩
      | cons x xs ih =>
        intro hx
        obtain ⟨n, hn, hb⟩ := hx x (by simp)
        obtain ⟨l, hl, hlb⟩ := ih fun y hy => hx y (by simp [hy])
        refine ⟨n :: l, by rw [hn, hl]; rfl, ?_⟩
        intro e he
        rcases List.mem_cons.1 he with h | h
        · subst h; exact hb
        · exact hlb e h
    obtain ⟨l, e, hb⟩ := this xs fun x hx => by
      have h1 := hl x hx
      obtain ⟨i, hi⟩ := List.mem_iff_getElem?.1 hx
      cases x with
      | nil => simp at h1
      | cons a r =>
        have h2 : r = [] := by simpa using h1
        subst h2
        obtain ⟨n, rfl, _, hb⟩ := fit_int (hr i _ 0 _ _ hi rfl rfl)
        exact ⟨n, rfl, hb⟩
    exact ⟨l, by rw [e], hb⟩

/-- The state of the events' loop. -/
def stE (n : Nat) (b : Bool) (ev : List Int) (g : List (M × Fl)) (S : List X) (L : List (Int × Int)) (i : Nat) : St :=
  ⟨[(0, .p (.int .i64 n)), (1, .p (.slice b (intsPV ev))), (5, .ref 0 g.length 0 g.length), (9, .ref 1 S.length 0 S.length), (10, .ref 2 L.length 0 L.length), (11, .p (.int .i64 i))], [(2, .row false 2 (grPV L)), (1, .row false 9 (rowsT S)), (0, .row false 10 (grpPV g))], 3, [0]⟩

theorem l8d (n : Nat) (n1 : 1 ≤ n) (n7 : n ≤ 7) (b : Bool) (ev : List Int) (hev : ev.length ≤ 30) (hin : ∀ e ∈ ev, e ≤ 9223372036854775807) (K : Ex → St → Prop)
    (hx : ∀ g S L, One L → L.length ≤ 100000 → K (.exit 2) ⟨[(10, .ref 2 L.length 0 L.length)], [(2, .row false 2 (grPV L)), (1, .row false 9 (rowsT S)), (0, .row false 10 (grpPV g))], 3, [0]⟩) :
    ∀ (j i : Nat) (g : List (M × Fl)) (S : List X) (E : List Ev) (L : List (Int × Int)), i + j = ev.length → Safe n (g.map Prod.fst) S E L → S.length ≤ 100 * i → L.length ≤ i →
    W tb a8_l2 (stE n b ev g S L i) (LK tb (.ghost (.free [13, 14]) (.ghost .lower a8_l2)) K) := by
  intro j
  induction j with
  | zero =>
    intro i g S E L hi hs hS hL
    have h1 : ¬ (i : Int) < (ev.length : Int) := by omega
    refine i_code (by unfold a8_l2; exact rfl) ?_
    repeat' (first | (simp (maxSteps := 2000000) (disch := omega) only [go_sem, seval, reduceCtorEq, h1, stE, intsPV_length]) | ((first | apply x_split_cond | apply x_split_guard); all_goals (intro hb; (try simp only [Bool.not_eq_true', Bool.not_eq_false'] at hb); (simp (maxSteps := 2000000) (disch := omega) only [go_sem, seval, reduceCtorEq, h1, stE, intsPV_length, hb]); (try simp only [decide_eq_true_eq, decide_eq_false_iff_not, beq_iff_eq, beq_eq_false_iff_ne, ne_eq, bne_iff_ne, bne_eq_false_iff_eq, Decidable.not_not] at hb))))
    exact hx g S L hs.one (by omega)
  | succ j ih =>
    intro i g S E L hi hs hS hL
    have h1 : (i : Int) < (ev.length : Int) := by omega
    have h2 : i < ev.length := by omega
    have h3 := intsPV_get ev i h2
    have h4 : (0 : Int) ≤ i := by omega
    have hm := hin _ (List.getElem_mem h2)
    generalize ev[i] = e at h3 hm
    have gl : g.length = n := by have := hs.len; simpa using this
    -- what an action of member 'at' by act (k, x) does
    have act : ∀ (at_ : Nat) (k : Int) (x : X), at_ < n → (k = 0 ∨ k = 1 ∨ x ∈ S) → x.items.length ≤ 300 → ∃ (m : M) (f : Fl) (a : M) (out : List X) (p : Fl) (q : Bool) (E' : List Ev), (grpPV g)[at_]? = some (mC m f) ∧ PS tb 38 [.agg (mC m f), .agg (actC k x true)] (.tuple [.agg (mC a p), .slice q (rowsT out)]) ∧
        Safe n ((g.set at_ (a, p)).map Prod.fst) (S ++ out) E' (L ++ if a.role = 3 then [(a.term, a.id)] else []) ∧ out.length ≤ 100 := by
      intro at_ k x ha hk hxi
      have hg : at_ < g.length := by omega
      have hi' : (g.map Prod.fst)[at_]? = some g[at_].1 := by simp [hg]
      obtain ⟨o1, o2, o3, o4⟩ := hs.ok _ _ hi'
      obtain ⟨p, q, hp⟩ := ps38 g[at_].1 g[at_].2 k x true o1 (by rw [o4]; simp) hxi
      obtain ⟨E', hE⟩ := hs.acts hi' k x hk
      refine ⟨g[at_].1, g[at_].2, (doR g[at_].1 k x).1, (doR g[at_].1 k x).2, p, q, E', grpPV_get g at_ hg, hp, ?_, do_len o1⟩
      rw [List.map_set]
      exact hE
    refine i_code (by unfold a8_l2; exact rfl) ?_
    unfold stE
    by_cases c1 : e < 0
    · repeat' (first | (simp (maxSteps := 2000000) (disch := omega) only [go_sem, seval, reduceCtorEq, h1, h3, h4, c1, intPV, intsPV_length]) | ((first | apply x_split_cond | apply x_split_guard); all_goals (intro hb; (try simp only [Bool.not_eq_true', Bool.not_eq_false'] at hb); (simp (maxSteps := 2000000) (disch := omega) only [go_sem, seval, reduceCtorEq, h1, h3, h4, c1, intPV, intsPV_length, hb]); (try simp only [decide_eq_true_eq, decide_eq_false_iff_not, beq_iff_eq, beq_eq_false_iff_ne, ne_eq, bne_iff_ne, bne_eq_false_iff_eq, Decidable.not_not] at hb))))
      refine i_lk (W_round ?_)
      (try simp (maxSteps := 2000000) (disch := omega) only [go_sem, seval, reduceCtorEq])
      exact ih (i + 1) g S E L (by omega) hs (by omega) (by omega)
    · have d0 : (0 : Int) ≤ e := by omega
      by_cases c3 : e < (n : Int)
      · have d1 : ¬ (2 * (n : Int)) ≤ e := by omega
        have d2 : ¬ (n : Int) ≤ e := by omega
        obtain ⟨m, f, a, out, p, q, E', hget, hp, hS2, hol⟩ := act e.toNat 0 zeroX (by omega) (.inl rfl) (by simp [zeroX])
        by_cases hr3 : a.role = 3
        · have r3 : (a.role == 3) = true := by simpa using hr3
          rw [if_pos hr3] at hS2
          have nx := ih (i + 1) _ _ _ _ (by omega) hS2 (by simp; omega) (by simp; omega)
          simp only [stE, List.length_append, List.length_set, List.length_cons, List.length_nil, Nat.zero_add, gl] at nx
          repeat' (first | (simp (maxSteps := 2000000) (disch := omega) only [go_sem, seval, reduceCtorEq, h1, h3, h4, c1, c3, d0, d1, d2, hget, gl, mC, actC, xC, intPV, itemsPV_nil, intsPV_length, grpPV_length, rowsT_length, rowsT_sz, rowsT_append, rowsT_take, grpPV_set, grPV_length, grPV_sing, grPV_sz, grPV_append, List.take_length, List.length_append, List.length_set, maxB, r3]) | (apply x_pure; iterate 5 (first | exact hp | ((try simp (maxSteps := 2000000) (disch := omega) only [go_sem, seval, reduceCtorEq, h1, h3, h4, c1, c3, d0, d1, d2, hget, gl, mC, actC, xC, intPV, itemsPV_nil, intsPV_length, grpPV_length, rowsT_length, rowsT_sz, rowsT_append, rowsT_take, grpPV_set, grPV_length, grPV_sing, grPV_sz, grPV_append, List.take_length, List.length_append, List.length_set, maxB, r3]) <;> with_reducible exact rfl))) | ((first | apply x_split_cond | apply x_split_guard); all_goals (intro hb; (try simp only [Bool.not_eq_true', Bool.not_eq_false'] at hb); (simp (maxSteps := 2000000) (disch := omega) only [go_sem, seval, reduceCtorEq, h1, h3, h4, c1, c3, d0, d1, d2, hget, gl, mC, actC, xC, intPV, itemsPV_nil, intsPV_length, grpPV_length, rowsT_length, rowsT_sz, rowsT_append, rowsT_take, grpPV_set, grPV_length, grPV_sing, grPV_sz, grPV_append, List.take_length, List.length_append, List.length_set, maxB, r3, hb]); (try simp only [decide_eq_true_eq, decide_eq_false_iff_not, beq_iff_eq, beq_eq_false_iff_ne, ne_eq, bne_iff_ne, bne_eq_false_iff_eq, Decidable.not_not] at hb))))
          refine i_lk (W_round ?_)
          (try simp (maxSteps := 2000000) (disch := omega) only [go_sem, seval, reduceCtorEq, mC])
          exact nx
        · have r3 : (a.role == 3) = false := by simpa using hr3
          rw [if_neg hr3, List.append_nil] at hS2
          have nx := ih (i + 1) _ _ _ _ (by omega) hS2 (by simp; omega) (by omega)
          simp only [stE, List.length_append, List.length_set, gl] at nx
          repeat' (first | (simp (maxSteps := 2000000) (disch := omega) only [go_sem, seval, reduceCtorEq, h1, h3, h4, c1, c3, d0, d1, d2, hget, gl, mC, actC, xC, intPV, itemsPV_nil, intsPV_length, grpPV_length, rowsT_length, rowsT_sz, rowsT_append, rowsT_take, grpPV_set, grPV_length, grPV_sing, grPV_sz, grPV_append, List.take_length, List.length_append, List.length_set, maxB, r3]) | (apply x_pure; iterate 5 (first | exact hp | ((try simp (maxSteps := 2000000) (disch := omega) only [go_sem, seval, reduceCtorEq, h1, h3, h4, c1, c3, d0, d1, d2, hget, gl, mC, actC, xC, intPV, itemsPV_nil, intsPV_length, grpPV_length, rowsT_length, rowsT_sz, rowsT_append, rowsT_take, grpPV_set, grPV_length, grPV_sing, grPV_sz, grPV_append, List.take_length, List.length_append, List.length_set, maxB, r3]) <;> with_reducible exact rfl))) | ((first | apply x_split_cond | apply x_split_guard); all_goals (intro hb; (try simp only [Bool.not_eq_true', Bool.not_eq_false'] at hb); (simp (maxSteps := 2000000) (disch := omega) only [go_sem, seval, reduceCtorEq, h1, h3, h4, c1, c3, d0, d1, d2, hget, gl, mC, actC, xC, intPV, itemsPV_nil, intsPV_length, grpPV_length, rowsT_length, rowsT_sz, rowsT_append, rowsT_take, grpPV_set, grPV_length, grPV_sing, grPV_sz, grPV_append, List.take_length, List.length_append, List.length_set, maxB, r3, hb]); (try simp only [decide_eq_true_eq, decide_eq_false_iff_not, beq_iff_eq, beq_eq_false_iff_ne, ne_eq, bne_iff_ne, bne_eq_false_iff_eq, Decidable.not_not] at hb))))
          refine i_lk (W_round ?_)
          (try simp (maxSteps := 2000000) (disch := omega) only [go_sem, seval, reduceCtorEq, mC])
          exact nx
      · by_cases c4 : e < 2 * (n : Int)
        · have d1 : ¬ (2 * (n : Int)) ≤ e := by omega
          have d2 : ¬ (n : Int) ≤ e - n := by omega
          have d3 : ¬ e - (n : Int) < 0 := by omega
          have d4 : (0 : Int) ≤ e - n := by omega
          have d5 : e - (n : Int) < n := by omega
          obtain ⟨m, f, a, out, p, q, E', hget, hp, hS2, hol⟩ := act (e - n).toNat 1 zeroX (by omega) (.inr (.inl rfl)) (by simp [zeroX])
          by_cases hr3 : a.role = 3
          · have r3 : (a.role == 3) = true := by simpa using hr3
            rw [if_pos hr3] at hS2
            have nx := ih (i + 1) _ _ _ _ (by omega) hS2 (by simp; omega) (by simp; omega)
            simp only [stE, List.length_append, List.length_set, List.length_cons, List.length_nil, Nat.zero_add, gl] at nx
            repeat' (first | (simp (maxSteps := 2000000) (disch := omega) only [go_sem, seval, reduceCtorEq, h1, h3, h4, c1, c3, c4, d0, d1, d2, d3, d4, d5, hget, gl, mC, actC, xC, intPV, itemsPV_nil, intsPV_length, grpPV_length, rowsT_length, rowsT_sz, rowsT_append, rowsT_take, grpPV_set, grPV_length, grPV_sing, grPV_sz, grPV_append, List.take_length, List.length_append, List.length_set, maxB, r3]) | (apply x_pure; iterate 5 (first | exact hp | ((try simp (maxSteps := 2000000) (disch := omega) only [go_sem, seval, reduceCtorEq, h1, h3, h4, c1, c3, c4, d0, d1, d2, d3, d4, d5, hget, gl, mC, actC, xC, intPV, itemsPV_nil, intsPV_length, grpPV_length, rowsT_length, rowsT_sz, rowsT_append, rowsT_take, grpPV_set, grPV_length, grPV_sing, grPV_sz, grPV_append, List.take_length, List.length_append, List.length_set, maxB, r3]) <;> with_reducible exact rfl))) | ((first | apply x_split_cond | apply x_split_guard); all_goals (intro hb; (try simp only [Bool.not_eq_true', Bool.not_eq_false'] at hb); (simp (maxSteps := 2000000) (disch := omega) only [go_sem, seval, reduceCtorEq, h1, h3, h4, c1, c3, c4, d0, d1, d2, d3, d4, d5, hget, gl, mC, actC, xC, intPV, itemsPV_nil, intsPV_length, grpPV_length, rowsT_length, rowsT_sz, rowsT_append, rowsT_take, grpPV_set, grPV_length, grPV_sing, grPV_sz, grPV_append, List.take_length, List.length_append, List.length_set, maxB, r3, hb]); (try simp only [decide_eq_true_eq, decide_eq_false_iff_not, beq_iff_eq, beq_eq_false_iff_ne, ne_eq, bne_iff_ne, bne_eq_false_iff_eq, Decidable.not_not] at hb))))
            refine i_lk (W_round ?_)
            (try simp (maxSteps := 2000000) (disch := omega) only [go_sem, seval, reduceCtorEq, mC])
            exact nx
          · have r3 : (a.role == 3) = false := by simpa using hr3
            rw [if_neg hr3, List.append_nil] at hS2
            have nx := ih (i + 1) _ _ _ _ (by omega) hS2 (by simp; omega) (by omega)
            simp only [stE, List.length_append, List.length_set, gl] at nx
            repeat' (first | (simp (maxSteps := 2000000) (disch := omega) only [go_sem, seval, reduceCtorEq, h1, h3, h4, c1, c3, c4, d0, d1, d2, d3, d4, d5, hget, gl, mC, actC, xC, intPV, itemsPV_nil, intsPV_length, grpPV_length, rowsT_length, rowsT_sz, rowsT_append, rowsT_take, grpPV_set, grPV_length, grPV_sing, grPV_sz, grPV_append, List.take_length, List.length_append, List.length_set, maxB, r3]) | (apply x_pure; iterate 5 (first | exact hp | ((try simp (maxSteps := 2000000) (disch := omega) only [go_sem, seval, reduceCtorEq, h1, h3, h4, c1, c3, c4, d0, d1, d2, d3, d4, d5, hget, gl, mC, actC, xC, intPV, itemsPV_nil, intsPV_length, grpPV_length, rowsT_length, rowsT_sz, rowsT_append, rowsT_take, grpPV_set, grPV_length, grPV_sing, grPV_sz, grPV_append, List.take_length, List.length_append, List.length_set, maxB, r3]) <;> with_reducible exact rfl))) | ((first | apply x_split_cond | apply x_split_guard); all_goals (intro hb; (try simp only [Bool.not_eq_true', Bool.not_eq_false'] at hb); (simp (maxSteps := 2000000) (disch := omega) only [go_sem, seval, reduceCtorEq, h1, h3, h4, c1, c3, c4, d0, d1, d2, d3, d4, d5, hget, gl, mC, actC, xC, intPV, itemsPV_nil, intsPV_length, grpPV_length, rowsT_length, rowsT_sz, rowsT_append, rowsT_take, grpPV_set, grPV_length, grPV_sing, grPV_sz, grPV_append, List.take_length, List.length_append, List.length_set, maxB, r3, hb]); (try simp only [decide_eq_true_eq, decide_eq_false_iff_not, beq_iff_eq, beq_eq_false_iff_ne, ne_eq, bne_iff_ne, bne_eq_false_iff_eq, Decidable.not_not] at hb))))
            refine i_lk (W_round ?_)
            (try simp (maxSteps := 2000000) (disch := omega) only [go_sem, seval, reduceCtorEq, mC])
            exact nx
        · have d1 : (2 * (n : Int)) ≤ e := by omega
          by_cases c5 : S = []
          · subst c5
            repeat' (first | (simp (maxSteps := 2000000) (disch := omega) only [go_sem, seval, reduceCtorEq, h1, h3, h4, c1, d1, intPV, intsPV_length, rowsT_length, List.length_nil]) | ((first | apply x_split_cond | apply x_split_guard); all_goals (intro hb; (try simp only [Bool.not_eq_true', Bool.not_eq_false'] at hb); (simp (maxSteps := 2000000) (disch := omega) only [go_sem, seval, reduceCtorEq, h1, h3, h4, c1, d1, intPV, intsPV_length, rowsT_length, List.length_nil, hb]); (try simp only [decide_eq_true_eq, decide_eq_false_iff_not, beq_iff_eq, beq_eq_false_iff_ne, ne_eq, bne_iff_ne, bne_eq_false_iff_eq, Decidable.not_not] at hb))))
            refine i_lk (W_round ?_)
            (try simp (maxSteps := 2000000) (disch := omega) only [go_sem, seval, reduceCtorEq])
            have nx := ih (i + 1) g [] E L (by omega) hs (by simp) (by omega)
            simp only [stE, List.length_nil, gl] at nx ⊢
            exact nx
          · have sl : 0 < S.length := List.length_pos_iff.2 c5
            have s0 : ((S.length : Int) == 0) = false := by simp; omega
            have s1 : ¬ (S.length : Int) = 0 := by omega
            have ix0 : (0 : Int) ≤ (e - 2 * (n : Int)).tmod S.length := Int.tmod_nonneg _ (by omega)
            have ix1 : (e - 2 * (n : Int)).tmod S.length < S.length := Int.tmod_lt_of_pos _ (by omega)
            obtain ⟨x, hx, hxm⟩ : ∃ x, (rowsT S)[((e - 2 * (n : Int)).tmod S.length).toNat]? = some (xC x true) ∧ x ∈ S := ⟨S[((e - 2 * (n : Int)).tmod S.length).toNat]'(by omega), rowsT_get S _ (by omega), List.getElem_mem _⟩
            have hxo := hs.msgs _ hxm
            have fx := okX_facts hxo
            have xl : x.items.length ≤ 300 := by
              have := ((okLog_iff _).1 fx.2.2.2.2.2.2.2.2.2.2.2.2.2.2.2).1
              omega
            have d2 : ¬ (n : Int) ≤ x.to - 1 := by omega
            have d3 : ¬ x.to - 1 < 0 := by omega
            have d4 : (0 : Int) ≤ x.to - 1 := by omega
            have d5 : x.to - 1 < (n : Int) := by omega
            obtain ⟨m, f, a, out, p, q, E', hget, hp, hS2, hol⟩ := act (x.to - 1).toNat 2 x (by omega) (.inr (.inr hxm)) xl
            by_cases hr3 : a.role = 3
            · have r3 : (a.role == 3) = true := by simpa using hr3
              rw [if_pos hr3] at hS2
              have nx := ih (i + 1) _ _ _ _ (by omega) hS2 (by simp; omega) (by simp; omega)
              simp only [stE, List.length_append, List.length_set, List.length_cons, List.length_nil, Nat.zero_add, gl] at nx
              repeat' (first | (simp (maxSteps := 2000000) (disch := omega) only [go_sem, seval, reduceCtorEq, h1, h3, h4, c1, c3, c4, d0, d1, d2, d3, d4, d5, s0, s1, ix0, ix1, hx, hget, gl, mC, actC, xC, intPV, itemsPV_nil, intsPV_length, grpPV_length, rowsT_length, rowsT_sz, rowsT_append, rowsT_take, grpPV_set, grPV_length, grPV_sing, grPV_sz, grPV_append, List.take_length, List.length_append, List.length_set, maxB, r3]) | (apply x_pure; iterate 5 (first | exact hp | ((try simp (maxSteps := 2000000) (disch := omega) only [go_sem, seval, reduceCtorEq, h1, h3, h4, c1, c3, c4, d0, d1, d2, d3, d4, d5, s0, s1, ix0, ix1, hx, hget, gl, mC, actC, xC, intPV, itemsPV_nil, intsPV_length, grpPV_length, rowsT_length, rowsT_sz, rowsT_append, rowsT_take, grpPV_set, grPV_length, grPV_sing, grPV_sz, grPV_append, List.take_length, List.length_append, List.length_set, maxB, r3]) <;> with_reducible exact rfl))) | ((first | apply x_split_cond | apply x_split_guard); all_goals (intro hb; (try simp only [Bool.not_eq_true', Bool.not_eq_false'] at hb); (simp (maxSteps := 2000000) (disch := omega) only [go_sem, seval, reduceCtorEq, h1, h3, h4, c1, c3, c4, d0, d1, d2, d3, d4, d5, s0, s1, ix0, ix1, hx, hget, gl, mC, actC, xC, intPV, itemsPV_nil, intsPV_length, grpPV_length, rowsT_length, rowsT_sz, rowsT_append, rowsT_take, grpPV_set, grPV_length, grPV_sing, grPV_sz, grPV_append, List.take_length, List.length_append, List.length_set, maxB, r3, hb]); (try simp only [decide_eq_true_eq, decide_eq_false_iff_not, beq_iff_eq, beq_eq_false_iff_ne, ne_eq, bne_iff_ne, bne_eq_false_iff_eq, Decidable.not_not] at hb))))
              refine i_lk (W_round ?_)
              (try simp (maxSteps := 2000000) (disch := omega) only [go_sem, seval, reduceCtorEq, mC])
              exact nx
            · have r3 : (a.role == 3) = false := by simpa using hr3
              rw [if_neg hr3, List.append_nil] at hS2
              have nx := ih (i + 1) _ _ _ _ (by omega) hS2 (by simp; omega) (by omega)
              simp only [stE, List.length_append, List.length_set, gl] at nx
              repeat' (first | (simp (maxSteps := 2000000) (disch := omega) only [go_sem, seval, reduceCtorEq, h1, h3, h4, c1, c3, c4, d0, d1, d2, d3, d4, d5, s0, s1, ix0, ix1, hx, hget, gl, mC, actC, xC, intPV, itemsPV_nil, intsPV_length, grpPV_length, rowsT_length, rowsT_sz, rowsT_append, rowsT_take, grpPV_set, grPV_length, grPV_sing, grPV_sz, grPV_append, List.take_length, List.length_append, List.length_set, maxB, r3]) | (apply x_pure; iterate 5 (first | exact hp | ((try simp (maxSteps := 2000000) (disch := omega) only [go_sem, seval, reduceCtorEq, h1, h3, h4, c1, c3, c4, d0, d1, d2, d3, d4, d5, s0, s1, ix0, ix1, hx, hget, gl, mC, actC, xC, intPV, itemsPV_nil, intsPV_length, grpPV_length, rowsT_length, rowsT_sz, rowsT_append, rowsT_take, grpPV_set, grPV_length, grPV_sing, grPV_sz, grPV_append, List.take_length, List.length_append, List.length_set, maxB, r3]) <;> with_reducible exact rfl))) | ((first | apply x_split_cond | apply x_split_guard); all_goals (intro hb; (try simp only [Bool.not_eq_true', Bool.not_eq_false'] at hb); (simp (maxSteps := 2000000) (disch := omega) only [go_sem, seval, reduceCtorEq, h1, h3, h4, c1, c3, c4, d0, d1, d2, d3, d4, d5, s0, s1, ix0, ix1, hx, hget, gl, mC, actC, xC, intPV, itemsPV_nil, intsPV_length, grpPV_length, rowsT_length, rowsT_sz, rowsT_append, rowsT_take, grpPV_set, grPV_length, grPV_sing, grPV_sz, grPV_append, List.take_length, List.length_append, List.length_set, maxB, r3, hb]); (try simp only [decide_eq_true_eq, decide_eq_false_iff_not, beq_iff_eq, beq_eq_false_iff_ne, ne_eq, bne_iff_ne, bne_eq_false_iff_eq, Decidable.not_not] at hb))))
              refine i_lk (W_round ?_)
              (try simp (maxSteps := 2000000) (disch := omega) only [go_sem, seval, reduceCtorEq, mC])
              exact nx

theorem walkElectionSafe {u v : PV} (h : Fit (.int .i64) u) (h' : Fit (.slice [.int .i64]) v) : PS tb 8 [u, v] (.bool true) := by
  obtain ⟨n, rfl, n1, n2⟩ := fit_int h
  obtain ⟨ev, hv, hb⟩ := fit_ints2 h'
  subst hv
  refine PS_of (af := a8) rfl rfl ?_
  unfold a8
  dsimp only [List.map, ofPV, initEnv]
  by_cases c1 : n < 1
  · repeat' (first | (simp (maxSteps := 2000000) (disch := omega) only [go_sem, seval, reduceCtorEq, c1]) | (apply x_pure; iterate 5 (first | exact ps22 | ((try simp (maxSteps := 2000000) (disch := omega) only [go_sem, seval, reduceCtorEq, c1]) <;> with_reducible exact rfl))) | ((first | apply x_split_cond | apply x_split_guard); all_goals (intro hb; (try simp only [Bool.not_eq_true', Bool.not_eq_false'] at hb); (simp (maxSteps := 2000000) (disch := omega) only [go_sem, seval, reduceCtorEq, c1, hb]); (try simp only [decide_eq_true_eq, decide_eq_false_iff_not, beq_iff_eq, beq_eq_false_iff_ne, ne_eq, bne_iff_ne, bne_eq_false_iff_eq, Decidable.not_not] at hb))))
    all_goals rfl
  · by_cases c2 : 7 < n
    · repeat' (first | (simp (maxSteps := 2000000) (disch := omega) only [go_sem, seval, reduceCtorEq, c1, c2]) | (apply x_pure; iterate 5 (first | exact ps22 | ((try simp (maxSteps := 2000000) (disch := omega) only [go_sem, seval, reduceCtorEq, c1, c2]) <;> with_reducible exact rfl))) | ((first | apply x_split_cond | apply x_split_guard); all_goals (intro hb; (try simp only [Bool.not_eq_true', Bool.not_eq_false'] at hb); (simp (maxSteps := 2000000) (disch := omega) only [go_sem, seval, reduceCtorEq, c1, c2, hb]); (try simp only [decide_eq_true_eq, decide_eq_false_iff_not, beq_iff_eq, beq_eq_false_iff_ne, ne_eq, bne_iff_ne, bne_eq_false_iff_eq, Decidable.not_not] at hb))))
      all_goals rfl
    · by_cases c3 : 30 < (ev.length : Int)
      · repeat' (first | (simp (maxSteps := 2000000) (disch := omega) only [go_sem, seval, reduceCtorEq, c1, c2, c3, intsPV_length]) | (apply x_pure; iterate 5 (first | exact ps22 | ((try simp (maxSteps := 2000000) (disch := omega) only [go_sem, seval, reduceCtorEq, c1, c2, c3, intsPV_length]) <;> with_reducible exact rfl))) | ((first | apply x_split_cond | apply x_split_guard); all_goals (intro hb; (try simp only [Bool.not_eq_true', Bool.not_eq_false'] at hb); (simp (maxSteps := 2000000) (disch := omega) only [go_sem, seval, reduceCtorEq, c1, c2, c3, intsPV_length, hb]); (try simp only [decide_eq_true_eq, decide_eq_false_iff_not, beq_iff_eq, beq_eq_false_iff_ne, ne_eq, bne_iff_ne, bne_eq_false_iff_eq, Decidable.not_not] at hb))))
        all_goals rfl
      · obtain ⟨k, rfl⟩ := Int.eq_ofNat_of_zero_le (show 0 ≤ n by omega)
        repeat' (first | (simp (maxSteps := 2000000) (disch := omega) only [go_sem, seval, reduceCtorEq, c1, c2, c3, intsPV_length]) | ((first | apply x_split_cond | apply x_split_guard); all_goals (intro hb; (try simp only [Bool.not_eq_true', Bool.not_eq_false'] at hb); (simp (maxSteps := 2000000) (disch := omega) only [go_sem, seval, reduceCtorEq, c1, c2, c3, intsPV_length, hb]); (try simp only [decide_eq_true_eq, decide_eq_false_iff_not, beq_iff_eq, beq_eq_false_iff_ne, ne_eq, bne_iff_ne, bne_eq_false_iff_eq, Decidable.not_not] at hb))))
        refine W_round ?_
        (try simp (maxSteps := 2000000) (disch := omega) only [go_sem, seval, reduceCtorEq])
        refine l8c k (by omega) (by omega) _ _ ?_ k 0 (Nat.zero_add _)
        (try simp (maxSteps := 2000000) (disch := omega) only [go_sem, seval, reduceCtorEq])
        refine W_round ?_
        (try simp (maxSteps := 2000000) (disch := omega) only [go_sem, seval, reduceCtorEq])
        have gn := newsG_len k k
        have st := l8d k (by omega) (by omega) false ev (by omega) hb
        unfold stE at st
        have := Safe.new k (by omega) (by omega)
        have nw : (newsG k k).map Prod.fst = (List.range k).map fun i => (⟨(i + 1 : Nat), k, 0, 0, [], 1, 0, [], [], []⟩ : M) := by simp [newsG]
        rw [← nw] at this
        have st := fun K hx => st K hx ev.length 0 _ [] [] [] (Nat.zero_add _) this (by simp) (by simp)
        rw [gn] at st
        refine st _ ?_
        intro g S L hL hl
        (try simp (maxSteps := 2000000) (disch := omega) only [go_sem, seval, reduceCtorEq])
        refine W_round ?_
        (try simp (maxSteps := 2000000) (disch := omega) only [go_sem, seval, reduceCtorEq])
        refine l8b _ _ ⟨g, rfl⟩ ⟨S, rfl⟩ L hl hL _ ?_ L.length 0 (Nat.zero_add _)
        intro s hs
        obtain ⟨env, H, nx, mk⟩ := s
        simp only at hs
        subst hs
        repeat' (first | (simp (maxSteps := 2000000) (disch := omega) only [go_sem, seval, reduceCtorEq]) | (apply x_pure; iterate 5 (first | exact ps22 | ((try simp (maxSteps := 2000000) (disch := omega) only [go_sem, seval, reduceCtorEq]) <;> with_reducible exact rfl))) | ((first | apply x_split_cond | apply x_split_guard); all_goals (intro hb; (try simp only [Bool.not_eq_true', Bool.not_eq_false'] at hb); (simp (maxSteps := 2000000) (disch := omega) only [go_sem, seval, reduceCtorEq, hb]); (try simp only [decide_eq_true_eq, decide_eq_false_iff_not, beq_iff_eq, beq_eq_false_iff_ne, ne_eq, bne_iff_ne, bne_eq_false_iff_eq, Decidable.not_not] at hb))))
        all_goals rfl

end Go.Dv.Try
