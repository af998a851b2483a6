/-
  Specifications of the functions of this claim, parts 46, 47, 48.
-/
import Derived.Test.YtjnigloanggmmaaTab
import Derived.Test.YtjnigloanggmmaaStep
import Derived.Test.YtjnigloanggmmaaS1
import Derived.Test.YtjnigloanggmmaaS7
import Derived.Test.YtjnigloanggmmaaS8
import Derived.Test.YtjnigloanggmmaaS15
import Derived.Test.YtjnigloanggmmaaS16
import Derived.Test.YtjnigloanggmmaaS17
import Derived.Test.YtjnigloanggmmaaS18
import Derived.Test.YtjnigloanggmmaaS20
import Derived.Test.YtjnigloanggmmaaS24
import Derived.Test.YtjnigloanggmmaaS29
import Derived.Test.YtjnigloanggmmaaS30
import Derived.Test.YtjnigloanggmmaaS42
set_option linter.unusedVariables false
set_option linter.unusedSimpArgs false
set_option maxRecDepth 100000
set_option maxHeartbeats 16000000
namespace Go.Dv.Try
open Go Go.Dv

theorem okLog_iff (l : List (Int × ByteArray)) : okLog l = true ↔ l.length ≤ 256 ∧ ∀ y ∈ l, okItem y = true := by
  simp only [okLog, Bool.and_eq_true, decide_eq_true_eq, List.all_eq_true]

/-- A step of a valid member: what it gives is valid, and nothing committed is lost. -/
structure Goes (m a : M) : Prop where
  ok : okM a = true
  id : a.id = m.id
  mem : a.members = m.members
  com : m.commit ≤ a.commit
  term : m.term ≤ a.term
  pre : a.log.take m.commit.toNat = m.log.take m.commit.toNat

theorem Goes.refl {m : M} (h : okM m = true) : Goes m m := ⟨h, rfl, rfl, Int.le_refl _, Int.le_refl _, rfl⟩

theorem keeps_Goes {m a : M} (h : Keeps m a) (c : a.commit = m.commit) : Goes m a := ⟨h.ok, h.id, h.mem, by omega, h.term, by rw [h.log]⟩

theorem won_commit (m : M) : (wonM m).commit = m.commit := by unfold wonM; split <;> rfl

theorem vote_commit (m : M) (x : X) : (voteR m x).1.commit = m.commit := by
  unfold voteR castM newer
  split <;> (try split) <;> (try split) <;> rfl

theorem count_commit (m : M) (x : X) : (countR m x).commit = m.commit := by
  unfold countR
  split
  · split
    · rfl
    · split
      · rfl
      · rw [won_commit]
  · rfl

theorem goes_follow {m : M} {t : Int} (h : okM m = true) (h1 : m.term < t) (h2 : t ≤ 1099511627776) : Goes m (followM m t) := by
  obtain ⟨hh, _⟩ := (okM_iff m).1 h
  have := hh.te1
  exact ⟨okM_follow hh (by omega) h2, rfl, rfl, Int.le_refl _, by show m.term ≤ t; omega, rfl⟩

theorem goes_base {m : M} (h : okM m = true) (hr : ¬ m.role = 3) : Goes m { m with role := 1, votes := [] } := by
  obtain ⟨hh, _⟩ := (okM_iff m).1 h
  obtain ⟨h1, h2⟩ := free_lists h hr
  refine ⟨?_, rfl, rfl, Int.le_refl _, Int.le_refl _, rfl⟩
  rw [okM_iff]
  exact ⟨⟨hh.me1, hh.me2, hh.id1, hh.id2, hh.te1, hh.te2, hh.vo1, hh.vo2, hh.lg, hh.co1, hh.co2⟩, .inl ⟨rfl, rfl, h1, h2⟩⟩

theorem Goes.trans {m a b : M} (h : Goes m a) (k : Goes a b) : Goes m b := by
  refine ⟨k.ok, k.id.trans h.id, k.mem.trans h.mem, Int.le_trans h.com k.com, Int.le_trans h.term k.term, ?_⟩
  have h1 := congrArg (List.take m.commit.toNat) k.pre
  have h2 := h.com
  rw [List.take_take, List.take_take, Nat.min_eq_left (by omega)] at h1
  rw [h1, h.pre]

theorem goes_app2 {m : M} {x : X} (hc : concernsX m x 3 = true) (hr : ¬ (app1 m x).role = 3) : Goes m (app2 m x) := by
  obtain ⟨h1, h2, h3, h4⟩ := concerns_ok hc
  have hx := okX_facts h2
  unfold app2 app1 at *
  split
  · rename_i ht
    have g := goes_follow h1 ht hx.2.2.2.2.2.2.2.2.1
    exact g.trans (goes_base g.ok (by show ¬ (1 : Int) = 3; decide))
  · rename_i ht
    rw [if_neg ht] at hr
    exact goes_base h1 hr

theorem app2_eqs (m : M) (x : X) : (app2 m x).log = m.log ∧ (app2 m x).commit = m.commit ∧ (app2 m x).role = 1 ∧ (app2 m x).votes = [] := by
  unfold app2 app1
  split <;> exact ⟨rfl, rfl, rfl, rfl⟩

theorem goes_app4 {m : M} {x : X} (h : okM m = true) (hr : m.role = 1) (hx : okX x m.members = true) (hm : missX m x = false) (hf : fullX m x = false) : Goes m (app4 m x) := by
  obtain ⟨hh, hl⟩ := (okM_iff m).1 h
  have f := okX_facts hx
  simp only [missX, Bool.or_eq_false_iff, decide_eq_false_iff_not] at hm
  simp only [fullX, Bool.or_eq_false_iff, Bool.and_eq_false_iff, decide_eq_false_iff_not] at hf
  have s1 := sameN_le m.log x.items x.index.toNat
  have s2 := sameN_log m.log x.items x.index.toNat (by omega)
  have es : sameX m x = sameN m.log x.index.toNat x.items := rfl
  rw [← es] at s1 s2
  have c1 := hh.co1; have c2 := hh.co2
  obtain ⟨lg1, lg2⟩ := (okLog_iff _).1 hh.lg
  obtain ⟨it1, it2⟩ := (okLog_iff _).1 f.2.2.2.2.2.2.2.2.2.2.2.2.2.2.2
  have k : okLog (logX m x) = true ∧ mx m.commit (mn x.commit (x.index + (x.items.length : Int))) ≤ (logX m x).length ∧ (logX m x).take m.commit.toNat = m.log.take m.commit.toNat := by
    unfold logX
    split
    · rename_i hs
      have hw : ¬ x.index + (sameX m x : Int) < m.commit := by
        rcases hf.2 with h | h
        · exact absurd hs h
        · exact h
      have l1 : (m.log.take (x.index.toNat + sameX m x)).length = x.index.toNat + sameX m x := by simp; omega
      refine ⟨?_, ?_, ?_⟩
      · rw [okLog_iff]
        refine ⟨by simp; omega, ?_⟩
        intro y hy
        rcases List.mem_append.1 hy with h | h
        · exact lg2 y (List.mem_of_mem_take h)
        · exact it2 y (List.mem_of_mem_drop h)
      · rw [List.length_append, l1, List.length_drop]
        unfold mx mn
        split <;> split at * <;> omega
      · rw [List.take_append_of_le_length (by omega), List.take_take, Nat.min_eq_left (by omega)]
    · rename_i hs
      refine ⟨hh.lg, ?_, rfl⟩
      unfold mx mn
      split <;> split at * <;> omega
  obtain ⟨k1, k2, k3⟩ := k
  have c3 : m.commit ≤ mx m.commit (mn x.commit (x.index + (x.items.length : Int))) := by unfold mx; split <;> omega
  refine ⟨?_, rfl, rfl, c3, Int.le_refl _, k3⟩
  rw [okM_iff]
  refine ⟨⟨hh.me1, hh.me2, hh.id1, hh.id2, hh.te1, hh.te2, hh.vo1, hh.vo2, k1, by show 0 ≤ mx _ _; omega, k2⟩, ?_⟩
  rcases hl with ⟨a, b, c, d⟩ | ⟨a, _⟩ | ⟨a, _⟩
  · exact .inl ⟨hr, b, c, d⟩
  · omega
  · omega

theorem goes_app {m : M} {x : X} (h : okM m = true) : Goes m (appR m x).1 := by
  unfold appR
  split
  · exact .refl h
  · rename_i hc
    have hc : concernsX m x 3 = true := by simpa using hc
    split
    · exact .refl h
    · rename_i ht
      split
      · rename_i hr
        have e : app1 m x = m := by
          unfold app1 at hr ⊢
          split
          · rename_i hu
            rw [if_pos hu] at hr
            exact absurd hr (by show ¬ (1 : Int) = 3; decide)
          · rfl
        rw [e]
        exact .refl h
      · rename_i hr
        have g := goes_app2 hc hr
        obtain ⟨e1, e2, e3, e4⟩ := app2_eqs m x
        obtain ⟨h1, h2, h3, h4⟩ := concerns_ok hc
        unfold app3
        split
        · exact g
        · rename_i hm
          split
          · exact g
          · rename_i hf
            exact g.trans (goes_app4 g.ok e3 (by rw [g.mem]; exact h2) (by simpa using hm) (by simpa using hf))

theorem comm_ge (m : M) : ∀ n : Nat, (n : Int) ≤ m.log.length → m.commit ≤ comm m n ∧ (m.commit ≤ m.log.length → comm m n ≤ m.log.length)
  | 0, _ => by simp [comm]
  | n + 1, h => by
    have ih := comm_ge m n (by omega)
    rw [comm]
    split
    · rename_i hc
      refine ⟨?_, fun _ => h⟩
      omega
    · exact ih

theorem commOf_ge (m : M) : m.commit ≤ commOf m ∧ (m.commit ≤ m.log.length → commOf m ≤ m.log.length) := comm_ge m _ (Int.le_refl _)

theorem getD_set (l : List Int) (i j : Nat) (v : Int) (h : i < l.length) : (l.set i v).getD j 0 = if i = j then v else l.getD j 0 := by
  simp only [List.getD_eq_getElem?_getD, List.getElem?_set]
  split <;> first | rfl | (rw [if_pos h]; rfl)

theorem okProg_iff (m : M) : okProg m = true ↔ (m.next.length : Int) = m.members ∧ (m.mtch.length : Int) = m.members ∧ (∀ i, i < m.next.length → 0 ≤ m.mtch.getD i 0 ∧ m.mtch.getD i 0 ≤ m.next.getD i 0 ∧ m.next.getD i 0 ≤ m.log.length) ∧
    m.next.getD (m.id - 1).toNat 0 = m.log.length ∧ m.mtch.getD (m.id - 1).toNat 0 = m.log.length := by
  simp only [okProg, pOK, Bool.and_eq_true, decide_eq_true_eq, List.all_eq_true, List.mem_range]
  constructor
  · rintro ⟨⟨⟨⟨a, b⟩, c⟩, d⟩, e⟩
    exact ⟨a, b, fun i hi => ⟨(c i hi).1.1, (c i hi).1.2, (c i hi).2⟩, d, e⟩
  · rintro ⟨a, b, c, d, e⟩
    exact ⟨⟨⟨⟨a, b⟩, fun i hi => ⟨⟨(c i hi).1, (c i hi).2.1⟩, (c i hi).2.2⟩⟩, d⟩, e⟩

theorem goes_ack {m : M} {x : X} (h : okM m = true) : Goes m (ackT m x) := by
  unfold ackT
  split
  · rename_i hc
    obtain ⟨h1, h2, h3, h4⟩ := concerns_ok hc
    have f := okX_facts h2
    obtain ⟨hh, hl⟩ := (okM_iff m).1 h
    split
    · rename_i ht
      exact goes_follow h ht f.2.2.2.2.2.2.2.2.1
    · split
      · exact .refl h
      · rename_i hn
        have r3 : m.role = 3 := Decidable.not_not.1 fun e => hn (.inr (.inl e))
        rcases hl with ⟨a, _⟩ | ⟨a, _⟩ | ⟨_, b1, b2, b3, b4⟩
        · omega
        · omega
        · obtain ⟨p1, p2, p3, p4, p5⟩ := (okProg_iff m).1 b4
          have hid := hh.id1; have hid2 := hh.id2; have hme := hh.me2
          have i1 : (x.frm - 1).toNat < m.next.length := by omega
          have i2 : (x.frm - 1).toNat < m.mtch.length := by omega
          have ne : ¬ (x.frm - 1).toNat = (m.id - 1).toNat := by omega
          have pf := p3 _ i1
          have hN : okProg (ackN m x) = true ∧ (ackN m x).log = m.log ∧ (ackN m x).commit = m.commit ∧ (ackN m x).id = m.id ∧ (ackN m x).members = m.members ∧ (ackN m x).term = m.term ∧ (ackN m x).vote = m.vote ∧ (ackN m x).role = m.role ∧ (ackN m x).votes = m.votes := by
            unfold ackN
            split
            · rename_i hok
              have hix : ¬ (m.log.length : Int) < x.index := fun e => hn (.inr (.inr ⟨hok, e⟩))
              refine ⟨?_, rfl, rfl, rfl, rfl, rfl, rfl, rfl, rfl⟩
              rw [okProg_iff]
              simp only [List.length_set, getD_set _ _ _ _ i1, getD_set _ _ _ _ i2, if_neg ne]
              refine ⟨p1, p2, fun i hi => ?_, p4, p5⟩
              have := p3 i hi
              split
              · unfold mx; split <;> omega
              · exact this
            · refine ⟨?_, rfl, rfl, rfl, rfl, rfl, rfl, rfl, rfl⟩
              rw [okProg_iff]
              simp only [List.length_set, getD_set _ _ _ _ i1, if_neg ne]
              refine ⟨p1, p2, fun i hi => ?_, p4, p5⟩
              have := p3 i hi
              split
              · rename_i e
                subst e
                unfold mx mn
                split <;> split at * <;> omega
              · exact this
          obtain ⟨n1, n2, n3, n4, n5, n6, n7, n8, n9⟩ := hN
          obtain ⟨g1, g2⟩ := commOf_ge (ackN m x)
          rw [n3] at g1 g2
          rw [n2] at g2
          have c2 := hh.co2; have c1 := hh.co1
          refine ⟨?_, n4, n5, g1, by show m.term ≤ (ackN m x).term; omega, by show (ackN m x).log.take _ = _; rw [n2]⟩
          rw [okM_iff]
          refine ⟨⟨by show 1 ≤ (ackN m x).members; rw [n5]; exact hh.me1, by show (ackN m x).members ≤ 7; rw [n5]; exact hh.me2, by show 1 ≤ (ackN m x).id; rw [n4]; exact hh.id1, by show (ackN m x).id ≤ (ackN m x).members; rw [n4, n5]; exact hh.id2,
            by show 0 ≤ (ackN m x).term; rw [n6]; exact hh.te1, by show (ackN m x).term ≤ _; rw [n6]; exact hh.te2, by show 0 ≤ (ackN m x).vote; rw [n7]; exact hh.vo1, by show (ackN m x).vote ≤ (ackN m x).members; rw [n7, n5]; exact hh.vo2, by show okLog (ackN m x).log = true; rw [n2]; exact hh.lg,
            by show 0 ≤ commOf _; omega, by show commOf _ ≤ (((ackN m x).log.length : Nat) : Int); rw [n2]; exact g2 c2⟩, .inr (.inr ⟨by show (ackN m x).role = 3; rw [n8]; exact r3, by show 1 ≤ (ackN m x).term; rw [n6]; exact b1, by show (ackN m x).vote = (ackN m x).id; rw [n7, n4]; exact b2, by show (ackN m x).votes = []; rw [n9]; exact b3, n1⟩)⟩
  · exact .refl h

theorem goes_propose {m : M} {d : ByteArray} (he : errP m d = 0) : Goes m (proposed m d) ∧ (proposed m d).log.length = m.log.length + 1 := by
  unfold errP at he
  split at he
  · omega
  · rename_i h
    have h : okM m = true := by simpa using h
    split at he
    · omega
    · rename_i hr
      have hr : m.role = 3 := Decidable.not_not.1 hr
      split at he
      · omega
      · rename_i hd
        split at he
        · omega
        · rename_i hl
          obtain ⟨hh, hr'⟩ := (okM_iff m).1 h
          rcases hr' with ⟨a, _⟩ | ⟨a, _⟩ | ⟨_, b1, b2, b3, b4⟩
          · omega
          · omega
          · obtain ⟨p1, p2, p3, p4, p5⟩ := (okProg_iff m).1 b4
            have hid := hh.id1; have hid2 := hh.id2; have hme := hh.me2; have hte := hh.te2
            have i1 : (m.id - 1).toNat < m.next.length := by omega
            have i2 : (m.id - 1).toNat < m.mtch.length := by omega
            have c1 := hh.co1; have c2 := hh.co2
            obtain ⟨lg1, lg2⟩ := (okLog_iff _).1 hh.lg
            have w1 : (withItem m d).log = m.log ++ [(m.term, d)] := rfl
            have w2 : (withItem m d).log.length = m.log.length + 1 := by simp [withItem]
            have w3 : (withItem m d).commit = m.commit := rfl
            obtain ⟨g1, g2⟩ := commOf_ge (withItem m d)
            rw [w3] at g1 g2
            rw [w2] at g2
            have lgN : okLog (m.log ++ [(m.term, d)]) = true := by
              rw [okLog_iff]
              refine ⟨by simp; omega, ?_⟩
              intro y hy
              rcases List.mem_append.1 hy with h | h
              · exact lg2 y h
              · simp at h; subst h; exact okItem_yes (by show ¬ m.term < 1; omega) (by show ¬ 1099511627776 < m.term; omega) hd
            have pN : okProg (withItem m d) = true := by
              rw [okProg_iff, w2]
              simp only [withItem, List.length_set, getD_set _ _ _ _ i1, getD_set _ _ _ _ i2, if_true]
              refine ⟨p1, p2, fun i hi => ?_, trivial, trivial⟩
              have := p3 i hi
              split <;> omega
            refine ⟨⟨?_, rfl, rfl, g1, Int.le_refl _, ?_⟩, w2⟩
            · rw [okM_iff]
              exact ⟨⟨hh.me1, hh.me2, hh.id1, hh.id2, hh.te1, hh.te2, hh.vo1, hh.vo2, lgN, by show 0 ≤ commOf _; omega, by show commOf _ ≤ (((withItem m d).log.length : Nat) : Int); rw [w2]; exact g2 (by omega)⟩, .inr (.inr ⟨hr, b1, b2, b3, pN⟩)⟩
            · show (m.log ++ [(m.term, d)]).take m.commit.toNat = _
              rw [List.take_append_of_le_length (by omega)]

theorem okX_mk {x : X} {mem : Int} (h1 : 1 ≤ mem) (h2 : mem ≤ 7) (h3 : 1 ≤ x.frm) (h4 : x.frm ≤ mem) (h5 : 1 ≤ x.to) (h6 : x.to ≤ mem) (h7 : x.frm ≠ x.to) (h8 : 1 ≤ x.term) (h9 : x.term ≤ 1099511627776) (h10 : 0 ≤ x.index) (h11 : x.index ≤ 1099511627776)
    (h12 : 0 ≤ x.logTerm) (h13 : x.logTerm ≤ 1099511627776) (h14 : 0 ≤ x.commit) (h15 : x.commit ≤ 1099511627776) (h16 : okLog x.items = true) (h17 : 1 ≤ x.kind) (h18 : x.kind ≤ 4) (h19 : plainX x = true) : okX x mem = true := by
  simp [okX, within, *]

theorem okLog_nil : okLog [] = true := rfl

theorem vote_reply_ok {m : M} {x y : X} (h : (voteR m x).2 = some y) : okX y m.members = true ∧ y.frm = m.id := by
  unfold voteR at h
  split at h
  · rename_i hc
    simp only [Option.some.injEq] at h
    subst h
    obtain ⟨h1, h2, h3, h4⟩ := concerns_ok hc
    have f := okX_facts h2
    have hh := ((okM_iff m).1 h1).1
    have hk := (keeps_newer hc).trans (keeps_cast (keeps_newer hc).ok (by rw [(keeps_newer hc).mem]; exact h2) (by rw [(keeps_newer hc).id]; exact h3))
    obtain ⟨hn, _⟩ := (okM_iff _).1 hk.ok
    have t1 : 1 ≤ (castM (newer m x) x).term := by
      unfold castM newer
      split <;> split <;> first | (show 1 ≤ x.term; omega) | (show 1 ≤ m.term; omega)
    have i1 := hh.id1; have i2 := hh.id2; have i3 := hh.me1; have i4 := hh.me2
    have e := hk.id
    refine ⟨okX_mk (by omega) (by omega) (by show 1 ≤ (castM (newer m x) x).id; omega) (by show (castM (newer m x) x).id ≤ m.members; omega) (by show 1 ≤ x.frm; omega) (by show x.frm ≤ m.members; omega) (by show (castM (newer m x) x).id ≠ x.frm; omega) t1 hn.te2
      (by show (0 : Int) ≤ 0; omega) (by show (0 : Int) ≤ _; omega) (by show (0 : Int) ≤ 0; omega) (by show (0 : Int) ≤ _; omega) (by show (0 : Int) ≤ 0; omega) (by show (0 : Int) ≤ _; omega) okLog_nil (by show (1 : Int) ≤ 2; omega) (by show (2 : Int) ≤ 4; omega) rfl, e⟩
  · cases h

theorem reply_ok {m a : M} {x : X} {i : Int} {o : Bool} (hc : concernsX m x 3 = true) (ha : Goes m a) (ht : 1 ≤ a.term) (h0 : 0 ≤ i) (h1 : i ≤ 1000) : okX (replyX a x.frm i o) m.members = true ∧ (replyX a x.frm i o).frm = m.id := by
  obtain ⟨k1, k2, k3, k4⟩ := concerns_ok hc
  have f := okX_facts k2
  have hh := ((okM_iff m).1 k1).1
  have hn := ((okM_iff a).1 ha.ok).1
  have i1 := hh.id1; have i2 := hh.id2; have i3 := hh.me1; have i4 := hh.me2
  have e := ha.id
  exact ⟨okX_mk (by omega) (by omega) (by show 1 ≤ a.id; omega) (by show a.id ≤ m.members; omega) (by show 1 ≤ x.frm; omega) (by show x.frm ≤ m.members; omega) (by show a.id ≠ x.frm; omega) ht hn.te2
      h0 (by show i ≤ _; omega) (by show (0 : Int) ≤ 0; omega) (by show (0 : Int) ≤ _; omega) (by show (0 : Int) ≤ 0; omega) (by show (0 : Int) ≤ _; omega) okLog_nil (by show (1 : Int) ≤ 4; omega) (by show (4 : Int) ≤ 4; omega) rfl, e⟩

theorem app_reply_ok {m : M} {x y : X} (h : (appR m x).2 = some y) : okX y m.members = true ∧ y.frm = m.id := by
  have gg := goes_app (m := m) (x := x)
  unfold appR at h gg
  split at h
  · cases h
  · rename_i hc
    rw [if_neg hc] at gg
    have hc : concernsX m x 3 = true := by simpa using hc
    obtain ⟨k1, k2, k3, k4⟩ := concerns_ok hc
    have f := okX_facts k2
    have hh := ((okM_iff m).1 k1).1
    have lg := ((okLog_iff _).1 hh.lg).1
    have it := ((okLog_iff _).1 f.2.2.2.2.2.2.2.2.2.2.2.2.2.2.2).1
    split at h
    · rename_i ht
      simp only [Option.some.injEq] at h
      subst h
      exact reply_ok hc (Goes.refl k1) (by omega) (by omega) (by omega)
    · rename_i ht
      rw [if_neg ht] at gg
      split at h
      · cases h
      · rename_i hr
        rw [if_neg hr] at gg
        have g2 := goes_app2 hc hr
        obtain ⟨e1, e2, e3, e4⟩ := app2_eqs m x
        have t2 : 1 ≤ (app2 m x).term := by
          unfold app2 app1
          split
          · show 1 ≤ x.term; omega
          · show 1 ≤ m.term; omega
        unfold app3 at h gg
        split at h
        · rename_i hm
          simp only [Option.some.injEq] at h
          subst h
          simp only [missX, e1, Bool.or_eq_true, Bool.and_eq_true, decide_eq_true_eq] at hm
          refine reply_ok hc g2 t2 ?_ ?_
          · rw [e1]; unfold mn; split <;> omega
          · rw [e1]; unfold mn; split <;> omega
        · rename_i hm
          rw [if_neg hm] at gg
          split at h
          · cases h
          · rename_i hf
            rw [if_neg hf] at gg
            have hfe : ¬ 256 < x.index + (x.items.length : Int) := fun e => hf (by simp [fullX, e])
            simp only [Option.some.injEq] at h
            subst h
            exact reply_ok hc (gg k1) t2 (by omega) (by omega)

theorem receive_ok {m : M} {x y : X} (h : (receiveR m x).2 = some y) : okX y m.members = true ∧ y.frm = m.id := by
  unfold receiveR at h
  split at h
  · exact vote_reply_ok h
  · split at h
    · cases h
    · split at h
      · exact app_reply_ok h
      · split at h <;> cases h

theorem receive_goes {m : M} {x : X} (h : okM m = true) : Goes m (receiveR m x).1 := by
  unfold receiveR
  split
  · exact keeps_Goes (keeps_vote h) (vote_commit m x)
  · split
    · exact keeps_Goes (keeps_count h) (count_commit m x)
    · split
      · exact goes_app h
      · split
        · exact goes_ack h
        · exact .refl h

theorem termN_ok {l : List (Int × ByteArray)} (h : okLog l = true) {n : Int} (h0 : 0 ≤ n) (h1 : n ≤ l.length) : 0 ≤ termN l n ∧ termN l n ≤ 1099511627776 := by
  unfold termN
  split
  · omega
  · have hk : (n - 1).toNat < l.length := by omega
    rw [itTerm_eq _ _ hk]
    have := ((okLog_iff l).1 h).2 _ (List.getElem_mem hk)
    simp only [okItem, Bool.and_eq_true, decide_eq_true_eq] at this
    omega

theorem beats_ok {m : M} (ho : okM m = true) (hr : m.role = 3) : ∀ k : Nat, (k : Int) ≤ m.members → ∀ y ∈ beats m k, okX y m.members = true ∧ y.frm = m.id
  | 0, _, y, hy => by simp [beats] at hy
  | k + 1, hk, y, hy => by
    obtain ⟨hh, hr'⟩ := (okM_iff m).1 ho
    have i1 := hh.id1; have i2 := hh.id2; have i3 := hh.me1; have i4 := hh.me2; have c1 := hh.co1; have c2 := hh.co2
    have t1 : 1 ≤ m.term := by
      rcases hr' with ⟨a, _⟩ | ⟨a, _⟩ | ⟨_, b, _⟩
      · omega
      · omega
      · exact b
    obtain ⟨f1, f2, f3, f4, f5, f6, f7⟩ := lead_facts ho hr
    obtain ⟨b1, b2⟩ := prog_at ho hr k (by omega)
    obtain ⟨lg1, lg2⟩ := (okLog_iff _).1 hh.lg
    obtain ⟨u1, u2⟩ := termN_ok hh.lg b1 b2
    simp only [beats] at hy
    split at hy
    · exact beats_ok ho hr k (by omega) y hy
    · rename_i ne
      rcases List.mem_append.1 hy with h | h
      · exact beats_ok ho hr k (by omega) y h
      · simp only [List.mem_singleton] at h
        subst h
        refine ⟨okX_mk i3 i4 i1 i2 (by show 1 ≤ ((k + 1 : Nat) : Int); omega) hk (by show m.id ≠ ((k + 1 : Nat) : Int); omega) t1 hh.te2 b1 (by show m.next.getD k 0 ≤ _; omega) u1 u2 c1 (by show m.commit ≤ _; omega) ?_ (by show (1 : Int) ≤ 3; omega) (by show (3 : Int) ≤ 4; omega) rfl, rfl⟩
        show okLog (m.log.drop (m.next.getD k 0).toNat) = true
        rw [okLog_iff]
        exact ⟨by simp; omega, fun z hz => lg2 z (List.mem_of_mem_drop hz)⟩

theorem com_begins {m a : M} (ho : okM m = true) (h : Goes m a) : (comL a).take (comL m).length = comL m := by
  have hh := ((okM_iff m).1 ho).1
  have ha := ((okM_iff a).1 h.ok).1
  have c1 := hh.co1; have c2 := hh.co2; have a1 := ha.co1; have a2 := ha.co2; have c3 := h.com
  have n1 : comN m = m.commit.toNat := by unfold comN; omega
  have n2 : comN a = a.commit.toNat := by unfold comN; omega
  have l1 : (comL m).length = m.commit.toNat := by unfold comL; rw [dataL_len, n1]; simp; omega
  rw [l1]
  unfold comL dataL
  rw [n1, n2, ← List.map_take, List.take_take, Nat.min_eq_left (by omega), h.pre]

theorem ps59 (a b : List ByteArray) (p q : Bool) (hl : a.length ≤ 100000) (h : a.take b.length = b) : PS tb 59 [.slice p (strsPV a), .slice q (strsPV b)] (.bool true) := by
  have hb : b.length ≤ a.length := by
    have := congrArg List.length h
    rw [List.length_take] at this
    omega
  have h1 : (b.length : Int) ≤ (a.length : Int) := by omega
  have h2 : (0 : Int) ≤ (b.length : Int) := by omega
  have q1 := ps56 b p q (by omega)
  refine PS_of (af := a59) rfl rfl ?_
  unfold a59
  dsimp only [List.map, ofPV, initEnv]
  repeat' (first | (simp (maxSteps := 2000000) (disch := omega) only [go_sem, seval, reduceCtorEq, strsPV_length, strsPV_sz, strsPV_take, h1, h2, h]) | (apply x_pure; iterate 5 (first | exact q1 | exact ps56 b _ _ (by omega) | ((try simp (maxSteps := 2000000) (disch := omega) only [go_sem, seval, reduceCtorEq, strsPV_length, strsPV_sz, strsPV_take, h1, h2, h]) <;> with_reducible exact rfl))) | ((first | apply x_split_cond | apply x_split_guard); all_goals (intro hb; (try simp only [Bool.not_eq_true', Bool.not_eq_false'] at hb); (simp (maxSteps := 2000000) (disch := omega) only [go_sem, seval, reduceCtorEq, strsPV_length, strsPV_sz, strsPV_take, h1, h2, h, hb]); (try simp only [decide_eq_true_eq, decide_eq_false_iff_not, beq_iff_eq, beq_eq_false_iff_ne, ne_eq, bne_iff_ne, bne_eq_false_iff_eq, Decidable.not_not] at hb))))
  all_goals first | rfl | ((simp (maxSteps := 2000000) (disch := omega) only [go_sem, seval, reduceCtorEq]) <;> rfl)

def rowsF (l : List (X × Bool)) : List (List PV) := l.map fun t => xC t.1 t.2

theorem rowsF_length (l : List (X × Bool)) : (rowsF l).length = l.length := by simp [rowsF]

theorem l14 (m : M) (f : Fl) (l : List (X × Bool)) (r : Nat) (hr : r = 4) (hl : l.length ≤ 100000) (ho : ∀ t ∈ l, okX t.1 m.members = true ∧ t.1.frm = m.id) (K : Ex → St → Prop) (hx : ∀ s, s.env = [] → K (.exit 0) s) : ∀ (n i : Nat), i + n = l.length →
    W tb a14_l0 ⟨[(2, .ptr 0 0), (10, .ref r l.length 0 l.length), (11, .p (.int .i64 i))], [(r, .row false 9 (rowsF l)), (0, .var false ((mC m f).map .p))], r + 1, [0]⟩ (LK tb (.ghost (.free [3, 5, 7]) (.ghost .lower a14_l0)) K) := by
  subst hr
  intro n
  induction n with
  | zero =>
    intro i hi
    have h1 : ¬ (i : Int) < l.length := by omega
    refine i_code (by unfold a14_l0; exact rfl) ?_
    repeat' (first | (simp (maxSteps := 2000000) (disch := omega) only [go_sem, seval, reduceCtorEq, h1, mC, rowsF_length]) | ((first | apply x_split_cond | apply x_split_guard); all_goals (intro hb; (try simp only [Bool.not_eq_true', Bool.not_eq_false'] at hb); (simp (maxSteps := 2000000) (disch := omega) only [go_sem, seval, reduceCtorEq, h1, mC, rowsF_length, hb]); (try simp only [decide_eq_true_eq, decide_eq_false_iff_not, beq_iff_eq, beq_eq_false_iff_ne, ne_eq, bne_iff_ne, bne_eq_false_iff_eq, Decidable.not_not] at hb))))
    exact hx _ rfl
  | succ n ih =>
    intro i hi
    have h1 : (i : Int) < l.length := by omega
    have h2 : i < l.length := by omega
    have h3 : (rowsF l)[i]? = some (xC l[i].1 l[i].2) := by simp [rowsF, h2]
    have h4 : (0 : Int) ≤ i := by omega
    obtain ⟨o1, o2⟩ := ho _ (List.getElem_mem h2)
    have o3 : (l[i].1.frm != m.id) = false := by simp [o2]
    have o4 : l[i].1.items.length ≤ 140737488355328 := by
      have := ((okLog_iff _).1 (okX_facts o1).2.2.2.2.2.2.2.2.2.2.2.2.2.2.2).1
      omega
    have sp := ps40 l[i].1 l[i].2 m.members o4
    rw [o1] at sp
    refine i_code (by unfold a14_l0; exact rfl) ?_
    repeat' (first | (simp (maxSteps := 2000000) (disch := omega) only [go_sem, seval, reduceCtorEq, h1, h2, h3, h4, o3, xC, mC, rowsF_length]) | (apply x_pure; iterate 5 (first | exact sp | ((try simp (maxSteps := 2000000) (disch := omega) only [go_sem, seval, reduceCtorEq, h1, h2, h3, h4, o3, xC, mC, rowsF_length]) <;> with_reducible exact rfl))) | ((first | apply x_split_cond | apply x_split_guard); all_goals (intro hb; (try simp only [Bool.not_eq_true', Bool.not_eq_false'] at hb); (simp (maxSteps := 2000000) (disch := omega) only [go_sem, seval, reduceCtorEq, h1, h2, h3, h4, o3, xC, mC, rowsF_length, hb]); (try simp only [decide_eq_true_eq, decide_eq_false_iff_not, beq_iff_eq, beq_eq_false_iff_ne, ne_eq, bne_iff_ne, bne_eq_false_iff_eq, Decidable.not_not] at hb))))
    refine i_lk (W_round ?_)
    (try simp (maxSteps := 2000000) (disch := omega) only [go_sem, seval, reduceCtorEq, mC])
    exact ih (i + 1) (by omega)

theorem rowsT_one (y : X) : [[PV.int .i64 y.kind, .int .i64 y.frm, .int .i64 y.to, .int .i64 y.term, .int .i64 y.index, .int .i64 y.logTerm, .int .i64 y.commit, .bool y.ok, .slice true (itemsPV y.items)]] = rowsT [y] := rfl

theorem valid_MIn {a : M} (h : okM a = true) : MIn a := by
  obtain ⟨hh, _⟩ := (okM_iff a).1 h
  obtain ⟨v, n, k⟩ := r_lists_of h
  have lg := ((okLog_iff _).1 hh.lg).1
  have := hh.id1; have := hh.id2; have := hh.me1; have := hh.me2
  exact ⟨by omega, by omega, by omega, by omega, by omega, by omega, by omega, by omega⟩

theorem ps29ok {a : M} (g : Fl) (h : okM a = true) : PS tb 29 [.agg (mC a g)] (.bool true) := by
  have := ps29 a g (valid_MIn h)
  rw [h] at this
  exact this

theorem log_of {a : M} (h : okM a = true) : a.log.length ≤ 256 := ((okLog_iff _).1 ((okM_iff a).1 h).1.lg).1

theorem com_len {a : M} (h : okM a = true) : (comL a).length ≤ 100000 := by
  have := log_of h
  have := comN_le a
  unfold comL; rw [dataL_len]; simp; omega

theorem walkReplicateStays {u v : List PV} (h : Fits [.int .i64, .int .i64, .int .i64, .int .i64, .slice [.int .i64, .str], .int .i64, .int .i64, .slice [.int .i64], .slice [.int .i64], .slice [.int .i64]] u)
    (h' : Fits [.int .i64, .int .i64, .int .i64, .int .i64, .int .i64, .int .i64, .int .i64, .bool, .slice [.int .i64, .str]] v) : PS tb 14 [.agg u, .agg v] (.bool true) := by
  obtain ⟨m, f, rfl, hr⟩ := fit_member h
  obtain ⟨x, rfl⟩ := r_fit_msg h'
  refine PS_of (af := a14) rfl rfl ?_
  unfold a14
  dsimp only [List.map, ofPV, initEnv]
  cases hf : few m x with
  | false =>
    repeat' (first | (simp (maxSteps := 2000000) (disch := omega) only [go_sem, seval, reduceCtorEq, mC, xC, hf]) | (apply x_pure; iterate 5 (first | exact ps45 m f x false | exact ps46 | ((try simp (maxSteps := 2000000) (disch := omega) only [go_sem, seval, reduceCtorEq, mC, xC, hf]) <;> with_reducible exact rfl))) | ((first | apply x_split_cond | apply x_split_guard); all_goals (intro hb; (try simp only [Bool.not_eq_true', Bool.not_eq_false'] at hb); (simp (maxSteps := 2000000) (disch := omega) only [go_sem, seval, reduceCtorEq, mC, xC, hf, hb]); (try simp only [decide_eq_true_eq, decide_eq_false_iff_not, beq_iff_eq, beq_eq_false_iff_ne, ne_eq, bne_iff_ne, bne_eq_false_iff_eq, Decidable.not_not] at hb))))
    all_goals rfl
  | true =>
    have hm := few_MFew hr hf
    have hi := few_items hf
    cases ho : okM m with
    | false =>
      repeat' (first | (simp (maxSteps := 2000000) (disch := omega) only [go_sem, seval, reduceCtorEq, mC, xC, hf, ho]) | (apply x_pure; iterate 5 (first | exact ps45 m f x false | exact ps46 | exact ps29 m f hm.toMIn | ((try simp (maxSteps := 2000000) (disch := omega) only [go_sem, seval, reduceCtorEq, mC, xC, hf, ho]) <;> with_reducible exact rfl))) | ((first | apply x_split_cond | apply x_split_guard); all_goals (intro hb; (try simp only [Bool.not_eq_true', Bool.not_eq_false'] at hb); (simp (maxSteps := 2000000) (disch := omega) only [go_sem, seval, reduceCtorEq, mC, xC, hf, ho, hb]); (try simp only [decide_eq_true_eq, decide_eq_false_iff_not, beq_iff_eq, beq_eq_false_iff_ne, ne_eq, bne_iff_ne, bne_eq_false_iff_eq, Decidable.not_not] at hb))))
      all_goals rfl
    | true =>
      have gg := receive_goes (x := x) ho
      obtain ⟨g1, q1⟩ := ps54 m f x false hm hi
      obtain ⟨g2, q2⟩ := ps47 m f ⟨#[120]⟩ hm
      obtain ⟨b3, q3⟩ := ps50 m f hm
      have s0 := ps29ok f ho
      have s1 := ps29ok g1 gg.ok
      have s2 := ps57 m f (by have := log_of ho; omega)
      have s3 := ps57 (receiveR m x).1 g1 (by have := log_of gg.ok; omega)
      have s4 := ps59 (comL (receiveR m x).1) (comL m) false false (com_len gg.ok) (com_begins ho gg)
      have c1 : ¬ (receiveR m x).1.commit < m.commit := by have := gg.com; omega
      have c2 : ¬ (receiveR m x).1.term < m.term := by have := gg.term; omega
      have ok1 : ∀ t ∈ ((receiveR m x).2.toList.map fun y => (y, true)) ++ (beatsOf m).map (fun y => (y, false)), okX t.1 m.members = true ∧ t.1.frm = m.id := by
        intro t ht
        rcases List.mem_append.1 ht with h | h
        · obtain ⟨y, hy, rfl⟩ := List.mem_map.1 h
          exact receive_ok (by simpa using hy)
        · obtain ⟨y, hy, rfl⟩ := List.mem_map.1 h
          unfold beatsOf at hy
          split at hy
          · rename_i hc
            exact beats_ok ho hc.2 m.members.toNat (by have := ((okM_iff m).1 ho).1.me1; omega) y hy
          · simp at hy
      have bl : (beatsOf m).length ≤ 7 := by
        have := ((okM_iff m).1 ho).1.me2
        unfold beatsOf
        split
        · have := beats_length m m.members.toNat; omega
        · simp
      have fin : ∀ (L : List (X × Bool)) (R : List (List PV)) (n : Nat) (K : Ex → St → Prop), R = rowsF L → n = L.length → L.length ≤ 100000 → (∀ t ∈ L, okX t.1 m.members = true ∧ t.1.frm = m.id) → (∀ s, s.env = [] → K (.exit 0) s) →
          W tb a14_l0 ⟨[(2, .ptr 0 0), (10, .ref 4 n 0 n), (11, .p (.int .i64 0))], [(4, .row false 9 R), (0, .var false ((mC m f).map .p))], 5, [0]⟩ (LK tb (.ghost (.free [3, 5, 7]) (.ghost .lower a14_l0)) K) := by
        intro L R n K hR hn hl hL hK
        subst hR; subst hn
        exact l14 m f L 4 rfl hl hL K hK L.length 0 (Nat.zero_add _)
      generalize beatsOf m = bt at q3 ok1 bl
      have hsz : ∀ (y : X) (q : Bool), allSz 9 [xC y q] = true := fun y q => by simp [allSz, xC]
      by_cases he : errP m ⟨#[120]⟩ = 0
      · obtain ⟨gp, lp⟩ := goes_propose he
        have e1 : resP m ⟨#[120]⟩ = proposed m ⟨#[120]⟩ := if_pos he
        rw [he, e1] at q2
        have s5 := ps29ok g2 gp.ok
        have s6 := ps57 (proposed m ⟨#[120]⟩) g2 (by have := log_of gp.ok; omega)
        have s7 := ps59 (comL (proposed m ⟨#[120]⟩)) (comL m) false false (com_len gp.ok) (com_begins ho gp)
        have c3 : (((proposed m ⟨#[120]⟩).log.length : Int) != ((m.log.length + 1 : Nat) : Int)) = false := by rw [lp]; simp
        have lm := log_of ho
        clear gp lp e1 he gg
        generalize proposed m ⟨#[120]⟩ = b at *
        generalize receiveR m x = r at *
        obtain ⟨a, o⟩ := r
        simp only at *
        cases o with
        | none =>
          simp only [optR, Option.toList, List.map_nil, List.nil_append] at q1 ok1
          cases bt with
          | nil =>
            simp only [msgsPV, List.map_nil] at q3
            repeat' (first | (simp (maxSteps := 2000000) (disch := omega) only [go_sem, seval, reduceCtorEq, mC, xC, hf, ho, c1, c2, c3, itemsPV_length]) | (apply x_pure; iterate 5 (first | exact ps45 m f x false | exact ps46 | exact s0 | exact s1 | exact s2 | exact s3 | exact s4 | exact s5 | exact s6 | exact s7 | exact q1 | exact q2 | exact q3 | ((try simp (maxSteps := 2000000) (disch := omega) only [go_sem, seval, reduceCtorEq, mC, xC, hf, ho, c1, c2, c3, itemsPV_length]) <;> with_reducible exact rfl))) | ((first | apply x_split_cond | apply x_split_guard); all_goals (intro hb; (try simp only [Bool.not_eq_true', Bool.not_eq_false'] at hb); (simp (maxSteps := 2000000) (disch := omega) only [go_sem, seval, reduceCtorEq, mC, xC, hf, ho, c1, c2, c3, itemsPV_length, hb]); (try simp only [decide_eq_true_eq, decide_eq_false_iff_not, beq_iff_eq, beq_eq_false_iff_ne, ne_eq, bne_iff_ne, bne_eq_false_iff_eq, Decidable.not_not] at hb))))
            refine W_round ?_
            (try simp (maxSteps := 2000000) (disch := omega) only [go_sem, seval, reduceCtorEq, mC])
            refine fin [] _ _ _ ?_ ?_ ?_ (by simp) ?_
            · rfl
            · rfl
            · simp
            · intro s hs
              obtain ⟨env, H, nx, mk⟩ := s
              simp only at hs
              subst hs
              repeat' (first | (simp (maxSteps := 2000000) (disch := omega) only [go_sem, seval, reduceCtorEq]) | (apply x_pure; iterate 5 (first | exact ps46 | ((try simp (maxSteps := 2000000) (disch := omega) only [go_sem, seval, reduceCtorEq]) <;> with_reducible exact rfl))) | ((first | apply x_split_cond | apply x_split_guard); all_goals (intro hb; (try simp only [Bool.not_eq_true', Bool.not_eq_false'] at hb); (simp (maxSteps := 2000000) (disch := omega) only [go_sem, seval, reduceCtorEq, hb]); (try simp only [decide_eq_true_eq, decide_eq_false_iff_not, beq_iff_eq, beq_eq_false_iff_ne, ne_eq, bne_iff_ne, bne_eq_false_iff_eq, Decidable.not_not] at hb))))
              all_goals rfl
          | cons z t =>
            have hne : (msgsPV (z :: t)).isEmpty = false := rfl
            have hz := msgsPV_sz (z :: t)
            have hzl := msgsPV_length (z :: t)
            have hzn : t.length + 1 ≤ 7 := by simpa using bl
            generalize hzt : msgsPV (z :: t) = zt at *
            repeat' (first | (simp (maxSteps := 2000000) (disch := omega) only [go_sem, seval, reduceCtorEq, mC, xC, hf, ho, c1, c2, c3, itemsPV_length, hne, hz, hzl, maxB]) | (apply x_pure; iterate 5 (first | exact ps45 m f x false | exact ps46 | exact s0 | exact s1 | exact s2 | exact s3 | exact s4 | exact s5 | exact s6 | exact s7 | exact q1 | exact q2 | exact q3 | ((try simp (maxSteps := 2000000) (disch := omega) only [go_sem, seval, reduceCtorEq, mC, xC, hf, ho, c1, c2, c3, itemsPV_length, hne, hz, hzl, maxB]) <;> with_reducible exact rfl))) | ((first | apply x_split_cond | apply x_split_guard); all_goals (intro hb; (try simp only [Bool.not_eq_true', Bool.not_eq_false'] at hb); (simp (maxSteps := 2000000) (disch := omega) only [go_sem, seval, reduceCtorEq, mC, xC, hf, ho, c1, c2, c3, itemsPV_length, hne, hz, hzl, maxB, hb]); (try simp only [decide_eq_true_eq, decide_eq_false_iff_not, beq_iff_eq, beq_eq_false_iff_ne, ne_eq, bne_iff_ne, bne_eq_false_iff_eq, Decidable.not_not] at hb))))
            refine W_round ?_
            (try simp (maxSteps := 2000000) (disch := omega) only [go_sem, seval, reduceCtorEq, mC])
            refine fin ((z :: t).map fun y => (y, false)) _ _ _ ?_ ?_ ?_ ok1 ?_
            · rw [← hzt]; simp [rowsF, msgsPV, msgPV]
            · simp
            · simp; omega
            · intro s hs
              obtain ⟨env, H, nx, mk⟩ := s
              simp only at hs
              subst hs
              repeat' (first | (simp (maxSteps := 2000000) (disch := omega) only [go_sem, seval, reduceCtorEq]) | (apply x_pure; iterate 5 (first | exact ps46 | ((try simp (maxSteps := 2000000) (disch := omega) only [go_sem, seval, reduceCtorEq]) <;> with_reducible exact rfl))) | ((first | apply x_split_cond | apply x_split_guard); all_goals (intro hb; (try simp only [Bool.not_eq_true', Bool.not_eq_false'] at hb); (simp (maxSteps := 2000000) (disch := omega) only [go_sem, seval, reduceCtorEq, hb]); (try simp only [decide_eq_true_eq, decide_eq_false_iff_not, beq_iff_eq, beq_eq_false_iff_ne, ne_eq, bne_iff_ne, bne_eq_false_iff_eq, Decidable.not_not] at hb))))
              all_goals rfl
        | some y =>
          simp only [optR, Option.toList, List.map_cons, List.map_nil] at q1 ok1
          have hz := msgsPV_sz bt
          have hzl := msgsPV_length bt
          have h1 := rowsT_one y
          repeat' (first | (simp (maxSteps := 2000000) (disch := omega) only [go_sem, seval, reduceCtorEq, mC, xC, hf, ho, c1, c2, c3, itemsPV_length, hz, hzl, h1, rowsT_sz, rowsT_length, List.length_cons, List.length_nil, List.length_append, maxB]) | (apply x_pure; iterate 5 (first | exact ps45 m f x false | exact ps46 | exact s0 | exact s1 | exact s2 | exact s3 | exact s4 | exact s5 | exact s6 | exact s7 | exact q1 | exact q2 | exact q3 | ((try simp (maxSteps := 2000000) (disch := omega) only [go_sem, seval, reduceCtorEq, mC, xC, hf, ho, c1, c2, c3, itemsPV_length, hz, hzl, h1, rowsT_sz, rowsT_length, List.length_cons, List.length_nil, List.length_append, maxB]) <;> with_reducible exact rfl))) | ((first | apply x_split_cond | apply x_split_guard); all_goals (intro hb; (try simp only [Bool.not_eq_true', Bool.not_eq_false'] at hb); (simp (maxSteps := 2000000) (disch := omega) only [go_sem, seval, reduceCtorEq, mC, xC, hf, ho, c1, c2, c3, itemsPV_length, hz, hzl, h1, rowsT_sz, rowsT_length, List.length_cons, List.length_nil, List.length_append, maxB, hb]); (try simp only [decide_eq_true_eq, decide_eq_false_iff_not, beq_iff_eq, beq_eq_false_iff_ne, ne_eq, bne_iff_ne, bne_eq_false_iff_eq, Decidable.not_not] at hb))))
          refine W_round ?_
          (try simp (maxSteps := 2000000) (disch := omega) only [go_sem, seval, reduceCtorEq, mC])
          refine fin ((y, true) :: bt.map fun y => (y, false)) _ _ _ ?_ ?_ ?_ ok1 ?_
          · simp [rowsF, msgsPV, msgPV, rowsT]
          · simp only [List.length_cons, List.length_map]; omega
          · simp; omega
          · intro s hs
            obtain ⟨env, H, nx, mk⟩ := s
            simp only at hs
            subst hs
            repeat' (first | (simp (maxSteps := 2000000) (disch := omega) only [go_sem, seval, reduceCtorEq]) | (apply x_pure; iterate 5 (first | exact ps46 | ((try simp (maxSteps := 2000000) (disch := omega) only [go_sem, seval, reduceCtorEq]) <;> with_reducible exact rfl))) | ((first | apply x_split_cond | apply x_split_guard); all_goals (intro hb; (try simp only [Bool.not_eq_true', Bool.not_eq_false'] at hb); (simp (maxSteps := 2000000) (disch := omega) only [go_sem, seval, reduceCtorEq, hb]); (try simp only [decide_eq_true_eq, decide_eq_false_iff_not, beq_iff_eq, beq_eq_false_iff_ne, ne_eq, bne_iff_ne, bne_eq_false_iff_eq, Decidable.not_not] at hb))))
            all_goals rfl
      · have e1 : resP m ⟨#[120]⟩ = zeroM := if_neg he
        have c3 : (errP m ⟨#[120]⟩ == 0) = false := by simpa using he
        rw [e1] at q2
        have lm := log_of ho
        clear gg
        generalize errP m ⟨#[120]⟩ = e at *
        generalize receiveR m x = r at *
        obtain ⟨a, o⟩ := r
        simp only at *
        have s5 : True := trivial
        have s6 : True := trivial
        have s7 : True := trivial
        cases o with
        | none =>
          simp only [optR, Option.toList, List.map_nil, List.nil_append] at q1 ok1
          cases bt with
          | nil =>
            simp only [msgsPV, List.map_nil] at q3
            repeat' (first | (simp (maxSteps := 2000000) (disch := omega) only [go_sem, seval, reduceCtorEq, mC, xC, hf, ho, c1, c2, c3, itemsPV_length]) | (apply x_pure; iterate 5 (first | exact ps45 m f x false | exact ps46 | exact s0 | exact s1 | exact s2 | exact s3 | exact s4 | exact q1 | exact q2 | exact q3 | ((try simp (maxSteps := 2000000) (disch := omega) only [go_sem, seval, reduceCtorEq, mC, xC, hf, ho, c1, c2, c3, itemsPV_length]) <;> with_reducible exact rfl))) | ((first | apply x_split_cond | apply x_split_guard); all_goals (intro hb; (try simp only [Bool.not_eq_true', Bool.not_eq_false'] at hb); (simp (maxSteps := 2000000) (disch := omega) only [go_sem, seval, reduceCtorEq, mC, xC, hf, ho, c1, c2, c3, itemsPV_length, hb]); (try simp only [decide_eq_true_eq, decide_eq_false_iff_not, beq_iff_eq, beq_eq_false_iff_ne, ne_eq, bne_iff_ne, bne_eq_false_iff_eq, Decidable.not_not] at hb))))
            refine W_round ?_
            (try simp (maxSteps := 2000000) (disch := omega) only [go_sem, seval, reduceCtorEq, mC])
            refine fin [] _ _ _ ?_ ?_ ?_ (by simp) ?_
            · rfl
            · rfl
            · simp
            · intro s hs
              obtain ⟨env, H, nx, mk⟩ := s
              simp only at hs
              subst hs
              repeat' (first | (simp (maxSteps := 2000000) (disch := omega) only [go_sem, seval, reduceCtorEq]) | (apply x_pure; iterate 5 (first | exact ps46 | ((try simp (maxSteps := 2000000) (disch := omega) only [go_sem, seval, reduceCtorEq]) <;> with_reducible exact rfl))) | ((first | apply x_split_cond | apply x_split_guard); all_goals (intro hb; (try simp only [Bool.not_eq_true', Bool.not_eq_false'] at hb); (simp (maxSteps := 2000000) (disch := omega) only [go_sem, seval, reduceCtorEq, hb]); (try simp only [decide_eq_true_eq, decide_eq_false_iff_not, beq_iff_eq, beq_eq_false_iff_ne, ne_eq, bne_iff_ne, bne_eq_false_iff_eq, Decidable.not_not] at hb))))
              all_goals rfl
          | cons z t =>
            have hne : (msgsPV (z :: t)).isEmpty = false := rfl
            have hz := msgsPV_sz (z :: t)
            have hzl := msgsPV_length (z :: t)
            have hzn : t.length + 1 ≤ 7 := by simpa using bl
            generalize hzt : msgsPV (z :: t) = zt at *
            repeat' (first | (simp (maxSteps := 2000000) (disch := omega) only [go_sem, seval, reduceCtorEq, mC, xC, hf, ho, c1, c2, c3, itemsPV_length, hne, hz, hzl, maxB]) | (apply x_pure; iterate 5 (first | exact ps45 m f x false | exact ps46 | exact s0 | exact s1 | exact s2 | exact s3 | exact s4 | exact q1 | exact q2 | exact q3 | ((try simp (maxSteps := 2000000) (disch := omega) only [go_sem, seval, reduceCtorEq, mC, xC, hf, ho, c1, c2, c3, itemsPV_length, hne, hz, hzl, maxB]) <;> with_reducible exact rfl))) | ((first | apply x_split_cond | apply x_split_guard); all_goals (intro hb; (try simp only [Bool.not_eq_true', Bool.not_eq_false'] at hb); (simp (maxSteps := 2000000) (disch := omega) only [go_sem, seval, reduceCtorEq, mC, xC, hf, ho, c1, c2, c3, itemsPV_length, hne, hz, hzl, maxB, hb]); (try simp only [decide_eq_true_eq, decide_eq_false_iff_not, beq_iff_eq, beq_eq_false_iff_ne, ne_eq, bne_iff_ne, bne_eq_false_iff_eq, Decidable.not_not] at hb))))
            refine W_round ?_
            (try simp (maxSteps := 2000000) (disch := omega) only [go_sem, seval, reduceCtorEq, mC])
            refine fin ((z :: t).map fun y => (y, false)) _ _ _ ?_ ?_ ?_ ok1 ?_
            · rw [← hzt]; simp [rowsF, msgsPV, msgPV]
            · simp
            · simp; omega
            · intro s hs
              obtain ⟨env, H, nx, mk⟩ := s
              simp only at hs
              subst hs
              repeat' (first | (simp (maxSteps := 2000000) (disch := omega) only [go_sem, seval, reduceCtorEq]) | (apply x_pure; iterate 5 (first | exact ps46 | ((try simp (maxSteps := 2000000) (disch := omega) only [go_sem, seval, reduceCtorEq]) <;> with_reducible exact rfl))) | ((first | apply x_split_cond | apply x_split_guard); all_goals (intro hb; (try simp only [Bool.not_eq_true', Bool.not_eq_false'] at hb); (simp (maxSteps := 2000000) (disch := omega) only [go_sem, seval, reduceCtorEq, hb]); (try simp only [decide_eq_true_eq, decide_eq_false_iff_not, beq_iff_eq, beq_eq_false_iff_ne, ne_eq, bne_iff_ne, bne_eq_false_iff_eq, Decidable.not_not] at hb))))
              all_goals rfl
        | some y =>
          simp only [optR, Option.toList, List.map_cons, List.map_nil] at q1 ok1
          have hz := msgsPV_sz bt
          have hzl := msgsPV_length bt
          have h1 := rowsT_one y
          repeat' (first | (simp (maxSteps := 2000000) (disch := omega) only [go_sem, seval, reduceCtorEq, mC, xC, hf, ho, c1, c2, c3, itemsPV_length, hz, hzl, h1, rowsT_sz, rowsT_length, List.length_cons, List.length_nil, List.length_append, maxB]) | (apply x_pure; iterate 5 (first | exact ps45 m f x false | exact ps46 | exact s0 | exact s1 | exact s2 | exact s3 | exact s4 | exact q1 | exact q2 | exact q3 | ((try simp (maxSteps := 2000000) (disch := omega) only [go_sem, seval, reduceCtorEq, mC, xC, hf, ho, c1, c2, c3, itemsPV_length, hz, hzl, h1, rowsT_sz, rowsT_length, List.length_cons, List.length_nil, List.length_append, maxB]) <;> with_reducible exact rfl))) | ((first | apply x_split_cond | apply x_split_guard); all_goals (intro hb; (try simp only [Bool.not_eq_true', Bool.not_eq_false'] at hb); (simp (maxSteps := 2000000) (disch := omega) only [go_sem, seval, reduceCtorEq, mC, xC, hf, ho, c1, c2, c3, itemsPV_length, hz, hzl, h1, rowsT_sz, rowsT_length, List.length_cons, List.length_nil, List.length_append, maxB, hb]); (try simp only [decide_eq_true_eq, decide_eq_false_iff_not, beq_iff_eq, beq_eq_false_iff_ne, ne_eq, bne_iff_ne, bne_eq_false_iff_eq, Decidable.not_not] at hb))))
          refine W_round ?_
          (try simp (maxSteps := 2000000) (disch := omega) only [go_sem, seval, reduceCtorEq, mC])
          refine fin ((y, true) :: bt.map fun y => (y, false)) _ _ _ ?_ ?_ ?_ ok1 ?_
          · simp [rowsF, msgsPV, msgPV, rowsT]
          · simp only [List.length_cons, List.length_map]; omega
          · simp; omega
          · intro s hs
            obtain ⟨env, H, nx, mk⟩ := s
            simp only at hs
            subst hs
            repeat' (first | (simp (maxSteps := 2000000) (disch := omega) only [go_sem, seval, reduceCtorEq]) | (apply x_pure; iterate 5 (first | exact ps46 | ((try simp (maxSteps := 2000000) (disch := omega) only [go_sem, seval, reduceCtorEq]) <;> with_reducible exact rfl))) | ((first | apply x_split_cond | apply x_split_guard); all_goals (intro hb; (try simp only [Bool.not_eq_true', Bool.not_eq_false'] at hb); (simp (maxSteps := 2000000) (disch := omega) only [go_sem, seval, reduceCtorEq, hb]); (try simp only [decide_eq_true_eq, decide_eq_false_iff_not, beq_iff_eq, beq_eq_false_iff_ne, ne_eq, bne_iff_ne, bne_eq_false_iff_eq, Decidable.not_not] at hb))))
            all_goals rfl

end Go.Dv.Try
