/-
  Specifications of the functions of this claim, parts 46, 48, 50, 3, 4, 47, 5.
-/
import Derived.Test.YtphkbgjnhfidlaaGreatTab
import Derived.Test.YtphkbgjnhfidlaaGreatStep
import Derived.Test.YtphkbgjnhfidlaaGreatS1
import Derived.Test.YtphkbgjnhfidlaaGreatS7
import Derived.Test.YtphkbgjnhfidlaaGreatS8
import Derived.Test.YtphkbgjnhfidlaaGreatS12
import Derived.Test.YtphkbgjnhfidlaaGreatS16
import Derived.Test.YtphkbgjnhfidlaaGreatS17
import Derived.Test.YtphkbgjnhfidlaaGreatS18
import Derived.Test.YtphkbgjnhfidlaaGreatS24
import Derived.Test.YtphkbgjnhfidlaaGreatS29
import Derived.Test.YtphkbgjnhfidlaaGreatS30
import Derived.Test.YtphkbgjnhfidlaaGreatS32
import Derived.Test.YtphkbgjnhfidlaaGreatS33
import Derived.Test.YtphkbgjnhfidlaaGreatS42
set_option linter.unusedVariables false
set_option linter.unusedSimpArgs false
set_option maxRecDepth 100000
set_option maxHeartbeats 16000000
namespace Go.Dv.Tryz
open Go Go.Dv

theorem okLog_iff (l : List (Int × ByteArray)) : okLog l = true ↔ l.length ≤ 256 ∧ ∀ y ∈ l, okItem y = true := by
  simp only [okLog, Bool.and_eq_true, decide_eq_true_eq, List.all_eq_true]

structure Goes (m a : M) : Prop where
  ok : okM a = true
  id : a.id = m.id
  mem : a.members = m.members
  com : m.commit ≤ a.commit
  term : m.term ≤ a.term
  pre : a.log.take m.commit.toNat = m.log.take m.commit.toNat

theorem Goes.refl {m : M} (h : okM m = true) : Goes m m := ⟨h, rfl, rfl, Int.le_refl _, Int.le_refl _, rfl⟩

theorem keeps_Goes {m a : M} (h : Keeps m a) (c : a.commit = m.commit) : Goes m a := ⟨h.ok, h.id, h.mem, by omega, h.term, by rw [h.log]⟩

theorem won_commit (m : M) : (wonM m).commit = m.commit := by unfold wonM; split <;> rfl

theorem vote_commit (m : M) (x : X) : (voteR m x).1.commit = m.commit := by
  unfold voteR castM newer
  split <;> (try split) <;> (try split) <;> rfl

theorem count_commit (m : M) (x : X) : (countR m x).commit = m.commit := by
  unfold countR
  split
  · split
    · rfl
    · split
      · rfl
      · rw [won_commit]
  · rfl

theorem goes_follow {m : M} {t : Int} (h : okM m = true) (h1 : m.term < t) (h2 : t ≤ 1099511627776) : Goes m (followM m t) := by
  obtain ⟨hh, _⟩ := (okM_iff m).1 h
  have := hh.te1
  exact ⟨okM_follow hh (by omega) h2, rfl, rfl, Int.le_refl _, by show m.term ≤ t; omega, rfl⟩

theorem goes_base {m : M} (h : okM m = true) (hr : ¬ m.role = 3) : Goes m { m with role := 1, votes := [] } := by
  obtain ⟨hh, _⟩ := (okM_iff m).1 h
  obtain ⟨h1, h2⟩ := free_lists h hr
  refine ⟨?_, rfl, rfl, Int.le_refl _, Int.le_refl _, rfl⟩
  rw [okM_iff]
  exact ⟨⟨hh.me1, hh.me2, hh.id1, hh.id2, hh.te1, hh.te2, hh.vo1, hh.vo2, hh.lg, hh.co1, hh.co2⟩, .inl ⟨rfl, rfl, h1, h2⟩⟩

theorem Goes.trans {m a b : M} (h : Goes m a) (k : Goes a b) : Goes m b := by
  refine ⟨k.ok, k.id.trans h.id, k.mem.trans h.mem, Int.le_trans h.com k.com, Int.le_trans h.term k.term, ?_⟩
  have h1 := congrArg (List.take m.commit.toNat) k.pre
  have h2 := h.com
  rw [List.take_take, List.take_take, Nat.min_eq_left (by omega)] at h1
  rw [h1, h.pre]

theorem goes_app2 {m : M} {x : X} (hc : concernsX m x 3 = true) (hr : ¬ (app1 m x).role = 3) : Goes m (app2 m x) := by
  obtain ⟨h1, h2, h3, h4⟩ := concerns_ok hc
  have hx := okX_facts h2
  unfold app2 app1 at *
  split
  · rename_i ht
    have g := goes_follow h1 ht hx.2.2.2.2.2.2.2.2.1
    exact g.trans (goes_base g.ok (by show ¬ (1 : Int) = 3; decide))
  · rename_i ht
    rw [if_neg ht] at hr
    exact goes_base h1 hr

theorem app2_eqs (m : M) (x : X) : (app2 m x).log = m.log ∧ (app2 m x).commit = m.commit ∧ (app2 m x).role = 1 ∧ (app2 m x).votes = [] := by
  unfold app2 app1
  split <;> exact ⟨rfl, rfl, rfl, rfl⟩

theorem goes_app4 {m : M} {x : X} (h : okM m = true) (hr : m.role = 1) (hx : okX x m.members = true) (hm : missX m x = false) (hf : fullX m x = false) : Goes m (app4 m x) := by
  obtain ⟨hh, hl⟩ := (okM_iff m).1 h
  have f := okX_facts hx
  simp only [missX, Bool.or_eq_false_iff, decide_eq_false_iff_not] at hm
  simp only [fullX, Bool.or_eq_false_iff, Bool.and_eq_false_iff, decide_eq_false_iff_not] at hf
  have s1 := sameN_le m.log x.items x.index.toNat
  have s2 := sameN_log m.log x.items x.index.toNat (by omega)
  have es : sameX m x = sameN m.log x.index.toNat x.items := rfl
  rw [← es] at s1 s2
  have c1 := hh.co1; have c2 := hh.co2
  obtain ⟨lg1, lg2⟩ := (okLog_iff _).1 hh.lg
  obtain ⟨it1, it2⟩ := (okLog_iff _).1 f.2.2.2.2.2.2.2.2.2.2.2.2.2.2.2
  have k : okLog (logX m x) = true ∧ mx m.commit (mn x.commit (x.index + (x.items.length : Int))) ≤ (logX m x).length ∧ (logX m x).take m.commit.toNat = m.log.take m.commit.toNat := by
    unfold logX
    split
    · rename_i hs
      have hw : ¬ x.index + (sameX m x : Int) < m.commit := by
        rcases hf.2 with h | h
        · exact absurd hs h
        · exact h
      have l1 : (m.log.take (x.index.toNat + sameX m x)).length = x.index.toNat + sameX m x := by simp; omega
      refine ⟨?_, ?_, ?_⟩
      · rw [okLog_iff]
        refine ⟨by simp; omega, ?_⟩
        intro y hy
        rcases List.mem_append.1 hy with h | h
        · exact lg2 y (List.mem_of_mem_take h)
        · exact it2 y (List.mem_of_mem_drop h)
      · rw [List.length_append, l1, List.length_drop]
        unfold mx mn
        split <;> split at * <;> omega
      · rw [List.take_append_of_le_length (by omega), List.take_take, Nat.min_eq_left (by omega)]
    · rename_i hs
      refine ⟨hh.lg, ?_, rfl⟩
      unfold mx mn
      split <;> split at * <;> omega
  obtain ⟨k1, k2, k3⟩ := k
  have c3 : m.commit ≤ mx m.commit (mn x.commit (x.index + (x.items.length : Int))) := by unfold mx; split <;> omega
  refine ⟨?_, rfl, rfl, c3, Int.le_refl _, k3⟩
  rw [okM_iff]
  refine ⟨⟨hh.me1, hh.me2, hh.id1, hh.id2, hh.te1, hh.te2, hh.vo1, hh.vo2, k1, by show 0 ≤ mx _ _; omega, k2⟩, ?_⟩
  rcases hl with ⟨a, b, c, d⟩ | ⟨a, _⟩ | ⟨a, _⟩
  · exact .inl ⟨hr, b, c, d⟩
  · omega
  · omega

theorem goes_app {m : M} {x : X} (h : okM m = true) : Goes m (appR m x).1 := by
  unfold appR
  split
  · exact .refl h
  · rename_i hc
    have hc : concernsX m x 3 = true := by simpa using hc
    split
    · exact .refl h
    · rename_i ht
      split
      · rename_i hr
        have e : app1 m x = m := by
          unfold app1 at hr ⊢
          split
          · rename_i hu
            rw [if_pos hu] at hr
            exact absurd hr (by show ¬ (1 : Int) = 3; decide)
          · rfl
        rw [e]
        exact .refl h
      · rename_i hr
        have g := goes_app2 hc hr
        obtain ⟨e1, e2, e3, e4⟩ := app2_eqs m x
        obtain ⟨h1, h2, h3, h4⟩ := concerns_ok hc
        unfold app3
        split
        · exact g
        · rename_i hm
          split
          · exact g
          · rename_i hf
            exact g.trans (goes_app4 g.ok e3 (by rw [g.mem]; exact h2) (by simpa using hm) (by simpa using hf))

theorem comm_ge (m : M) : ∀ n : Nat, (n : Int) ≤ m.log.length → m.commit ≤ comm m n ∧ (m.commit ≤ m.log.length → comm m n ≤ m.log.length)
  | 0, _ => by simp [comm]
  | n + 1, h => by
    have ih := comm_ge m n (by omega)
    rw [comm]
    split
    · rename_i hc
      refine ⟨?_, fun _ => h⟩
      omega
    · exact ih

theorem commOf_ge (m : M) : m.commit ≤ commOf m ∧ (m.commit ≤ m.log.length → commOf m ≤ m.log.length) := comm_ge m _ (Int.le_refl _)

theorem getD_set (l : List Int) (i j : Nat) (v : Int) (h : i < l.length) : (l.set i v).getD j 0 = if i = j then v else l.getD j 0 := by
  simp only [List.getD_eq_getElem?_getD, List.getElem?_set]
  split <;> first | rfl | (rw [if_pos h]; rfl)

theorem okProg_iff (m : M) : okProg m = true ↔ (m.next.length : Int) = m.members ∧ (m.mtch.length : Int) = m.members ∧ (∀ i, i < m.next.length → 0 ≤ m.mtch.getD i 0 ∧ m.mtch.getD i 0 ≤ m.next.getD i 0 ∧ m.next.getD i 0 ≤ m.log.length) ∧
    m.next.getD (m.id - 1).toNat 0 = m.log.length ∧ m.mtch.getD (m.id - 1).toNat 0 = m.log.length := by
  simp only [okProg, pOK, Bool.and_eq_true, decide_eq_true_eq, List.all_eq_true, List.mem_range]
  constructor
  · rintro ⟨⟨⟨⟨a, b⟩, c⟩, d⟩, e⟩
    exact ⟨a, b, fun i hi => ⟨(c i hi).1.1, (c i hi).1.2, (c i hi).2⟩, d, e⟩
  · rintro ⟨a, b, c, d, e⟩
    exact ⟨⟨⟨⟨a, b⟩, fun i hi => ⟨⟨(c i hi).1, (c i hi).2.1⟩, (c i hi).2.2⟩⟩, d⟩, e⟩

theorem goes_ack {m : M} {x : X} (h : okM m = true) : Goes m (ackT m x) := by
  unfold ackT
  split
  · rename_i hc
    obtain ⟨h1, h2, h3, h4⟩ := concerns_ok hc
    have f := okX_facts h2
    obtain ⟨hh, hl⟩ := (okM_iff m).1 h
    split
    · rename_i ht
      exact goes_follow h ht f.2.2.2.2.2.2.2.2.1
    · split
      · exact .refl h
      · rename_i hn
        have r3 : m.role = 3 := Decidable.not_not.1 fun e => hn (.inr (.inl e))
        rcases hl with ⟨a, _⟩ | ⟨a, _⟩ | ⟨_, b1, b2, b3, b4⟩
        · omega
        · omega
        · obtain ⟨p1, p2, p3, p4, p5⟩ := (okProg_iff m).1 b4
          have hid := hh.id1; have hid2 := hh.id2; have hme := hh.me2
          have i1 : (x.frm - 1).toNat < m.next.length := by omega
          have i2 : (x.frm - 1).toNat < m.mtch.length := by omega
          have ne : ¬ (x.frm - 1).toNat = (m.id - 1).toNat := by omega
          have pf := p3 _ i1
          have hN : okProg (ackN m x) = true ∧ (ackN m x).log = m.log ∧ (ackN m x).commit = m.commit ∧ (ackN m x).id = m.id ∧ (ackN m x).members = m.members ∧ (ackN m x).term = m.term ∧ (ackN m x).vote = m.vote ∧ (ackN m x).role = m.role ∧ (ackN m x).votes = m.votes := by
            unfold ackN
            split
            · rename_i hok
              have hix : ¬ (m.log.length : Int) < x.index := fun e => hn (.inr (.inr ⟨hok, e⟩))
              refine ⟨?_, rfl, rfl, rfl, rfl, rfl, rfl, rfl, rfl⟩
              rw [okProg_iff]
              simp only [List.length_set, getD_set _ _ _ _ i1, getD_set _ _ _ _ i2, if_neg ne]
              refine ⟨p1, p2, fun i hi => ?_, p4, p5⟩
              have := p3 i hi
              split
              · unfold mx; split <;> omega
              · exact this
            · refine ⟨?_, rfl, rfl, rfl, rfl, rfl, rfl, rfl, rfl⟩
              rw [okProg_iff]
              simp only [List.length_set, getD_set _ _ _ _ i1, if_neg ne]
              refine ⟨p1, p2, fun i hi => ?_, p4, p5⟩
              have := p3 i hi
              split
              · rename_i e
                subst e
                unfold mx mn
                split <;> split at * <;> omega
              · exact this
          obtain ⟨n1, n2, n3, n4, n5, n6, n7, n8, n9⟩ := hN
          obtain ⟨g1, g2⟩ := commOf_ge (ackN m x)
          rw [n3] at g1 g2
          rw [n2] at g2
          have c2 := hh.co2; have c1 := hh.co1
          refine ⟨?_, n4, n5, g1, by show m.term ≤ (ackN m x).term; omega, by show (ackN m x).log.take _ = _; rw [n2]⟩
          rw [okM_iff]
          refine ⟨⟨by show 1 ≤ (ackN m x).members; rw [n5]; exact hh.me1, by show (ackN m x).members ≤ 7; rw [n5]; exact hh.me2, by show 1 ≤ (ackN m x).id; rw [n4]; exact hh.id1, by show (ackN m x).id ≤ (ackN m x).members; rw [n4, n5]; exact hh.id2,
            by show 0 ≤ (ackN m x).term; rw [n6]; exact hh.te1, by show (ackN m x).term ≤ _; rw [n6]; exact hh.te2, by show 0 ≤ (ackN m x).vote; rw [n7]; exact hh.vo1, by show (ackN m x).vote ≤ (ackN m x).members; rw [n7, n5]; exact hh.vo2, by show okLog (ackN m x).log = true; rw [n2]; exact hh.lg,
            by show 0 ≤ commOf _; omega, by show commOf _ ≤ (((ackN m x).log.length : Nat) : Int); rw [n2]; exact g2 c2⟩, .inr (.inr ⟨by show (ackN m x).role = 3; rw [n8]; exact r3, by show 1 ≤ (ackN m x).term; rw [n6]; exact b1, by show (ackN m x).vote = (ackN m x).id; rw [n7, n4]; exact b2, by show (ackN m x).votes = []; rw [n9]; exact b3, n1⟩)⟩
  · exact .refl h

theorem goes_propose {m : M} {d : ByteArray} (he : errP m d = 0) : Goes m (proposed m d) ∧ (proposed m d).log.length = m.log.length + 1 := by
  unfold errP at he
  split at he
  · omega
  · rename_i h
    have h : okM m = true := by simpa using h
    split at he
    · omega
    · rename_i hr
      have hr : m.role = 3 := Decidable.not_not.1 hr
      split at he
      · omega
      · rename_i hd
        split at he
        · omega
        · rename_i hl
          obtain ⟨hh, hr'⟩ := (okM_iff m).1 h
          rcases hr' with ⟨a, _⟩ | ⟨a, _⟩ | ⟨_, b1, b2, b3, b4⟩
          · omega
          · omega
          · obtain ⟨p1, p2, p3, p4, p5⟩ := (okProg_iff m).1 b4
            have hid := hh.id1; have hid2 := hh.id2; have hme := hh.me2; have hte := hh.te2
            have i1 : (m.id - 1).toNat < m.next.length := by omega
            have i2 : (m.id - 1).toNat < m.mtch.length := by omega
            have c1 := hh.co1; have c2 := hh.co2
            obtain ⟨lg1, lg2⟩ := (okLog_iff _).1 hh.lg
            have w1 : (withItem m d).log = m.log ++ [(m.term, d)] := rfl
            have w2 : (withItem m d).log.length = m.log.length + 1 := by simp [withItem]
            have w3 : (withItem m d).commit = m.commit := rfl
            obtain ⟨g1, g2⟩ := commOf_ge (withItem m d)
            rw [w3] at g1 g2
            rw [w2] at g2
            have lgN : okLog (m.log ++ [(m.term, d)]) = true := by
              rw [okLog_iff]
              refine ⟨by simp; omega, ?_⟩
              intro y hy
              rcases List.mem_append.1 hy with h | h
              · exact lg2 y h
              · simp at h; subst h; exact okItem_yes (by show ¬ m.term < 1; omega) (by show ¬ 1099511627776 < m.term; omega) hd
            have pN : okProg (withItem m d) = true := by
              rw [okProg_iff, w2]
              simp only [withItem, List.length_set, getD_set _ _ _ _ i1, getD_set _ _ _ _ i2, if_true]
              refine ⟨p1, p2, fun i hi => ?_, trivial, trivial⟩
              have := p3 i hi
              split <;> omega
            refine ⟨⟨?_, rfl, rfl, g1, Int.le_refl _, ?_⟩, w2⟩
            · rw [okM_iff]
              exact ⟨⟨hh.me1, hh.me2, hh.id1, hh.id2, hh.te1, hh.te2, hh.vo1, hh.vo2, lgN, by show 0 ≤ commOf _; omega, by show commOf _ ≤ (((withItem m d).log.length : Nat) : Int); rw [w2]; exact g2 (by omega)⟩, .inr (.inr ⟨hr, b1, b2, b3, pN⟩)⟩
            · show (m.log ++ [(m.term, d)]).take m.commit.toNat = _
              rw [List.take_append_of_le_length (by omega)]

theorem valid_MIn {a : M} (h : okM a = true) : MIn a := by
  obtain ⟨hh, _⟩ := (okM_iff a).1 h
  obtain ⟨v, n, k⟩ := r_lists_of h
  have lg := ((okLog_iff _).1 hh.lg).1
  have := hh.id1; have := hh.id2; have := hh.me1; have := hh.me2
  exact ⟨by omega, by omega, by omega, by omega, by omega, by omega, by omega, by omega⟩

theorem log_of {a : M} (h : okM a = true) : a.log.length ≤ 256 := ((okLog_iff _).1 ((okM_iff a).1 h).1.lg).1

def One (G : List (Int × Int)) : Prop := ∀ g ∈ G, ∀ h ∈ G, g.1 = h.1 → g.2 = h.2

theorem okM_few {a : M} (h : okM a = true) : MFew a := by
  obtain ⟨v, n, k⟩ := r_lists_of h
  have := log_of h
  exact ⟨valid_MIn h, by omega, v, n, k⟩

def flg (b : Bool) (l : List X) : List (X × Bool) := l.map fun y => (y, b)

theorem flg_fst (b : Bool) (l : List X) : (flg b l).map (·.1) = l := by simp [flg, Function.comp_def]

theorem flg_length (b : Bool) (l : List X) : (flg b l).length = l.length := by simp [flg]

theorem rowsT_net (l : List X) : rowsT l = netPV (flg true l) := by simp [rowsT, netPV, flg, Function.comp_def]

theorem msgs_net (l : List X) : msgsPV l = netPV (flg false l) := by simp [msgsPV, msgPV, netPV, flg, Function.comp_def]

theorem optR_net (o : Option X) : optR true o = netPV (flg true o.toList) := by cases o <;> rfl

theorem bs_receive (m : M) (x : X) (hm : MFew m) (hi : x.items.length ≤ 300) (p : Nat) (fz : Bool) (H1 : Heap) (k : Nat) (hp : aget H1 p = some (.var fz ((xC x false).map .p))) (h3 : ∀ j, k ≤ j → aget H1 j = none) :
    ∃ g, BS tb 66 [.agg ((mC m ffff).map .p), .ptr p 0] H1 k (.tuple [.agg ((mC (receiveR m x).1 g).map .p), .p (.slice true (netPV (flg true (receiveR m x).2.toList)))])
      ((k + 1, .var false ((mC (receiveR m x).1 g).map .p)) :: (k, .var false ((mC m ffff).map .p)) :: H1) (k + 2) := by
  have e0 : aget H1 k = none := h3 k (by omega)
  have e1 : aget H1 (k + 1) = none := h3 _ (by omega)
  have n0 : (k == p) = false := by
    rw [beq_eq_false_iff_ne]
    intro e
    rw [e, hp] at e0
    cases e0
  have n1 : (k + 1 == p) = false := by
    rw [beq_eq_false_iff_ne]
    intro e
    rw [e, hp] at e1
    cases e1
  obtain ⟨g, hr⟩ := ps54 m ffff x false hm hi
  refine ⟨g, ?_⟩
  rw [optR_net] at hr
  refine BS_of (af := a66) rfl rfl ?_
  unfold a66
  dsimp only [initEnv]
  simp only [xC, List.map] at hp
  repeat' (first | exact hr | (simp (disch := omega) only [go_sem, seval, reduceCtorEq, mC, xC, e0, e1, n0, n1, hp, beqA, beqB, beqC]) | with_reducible exact Ev.mk | apply x_call | ((first | apply x_split | apply x_splitg) <;> intro hβ hb <;> (try simp only [hβ]) <;> clear hβ))
  all_goals rfl

theorem chg_receive (m : M) (x : X) (hm : MFew m) (hi : x.items.length ≤ 300) (p : Nat) (fz : Bool) (H : Heap) (nx : Nat) (hpn : p < nx) (hp : aget H p = some (.var fz ((xC x false).map .p))) :
    Chg 66 [.ptr p 0] m ffff H nx (receiveR m x).1 (flg true (receiveR m x).2.toList) H := by
  intro H1 k h1 h2 h3
  obtain ⟨g, hb⟩ := bs_receive m x hm hi p fz H1 k (by rw [h1 p hpn]; exact hp) h3
  refine ⟨_, _, g, true, hb, by omega, ?_, ?_, ?_⟩
  · intro j h4 h5
    simp only [aget]
    rw [if_neg (by simp; omega), if_neg (by simp; omega)]
  · intro j h4
    simp only [aget]
    rw [if_neg (by simp; omega), if_neg (by simp; omega)]
    exact h1 j h4
  · intro j h4
    simp only [aget]
    rw [if_neg (by simp; omega), if_neg (by simp; omega)]
    exact h3 j (by omega)

structure Evt where
  kind : Int
  node : Int
  at_ : Int
  data : ByteArray

def evC (e : Evt) : List PV := [.int .i64 e.kind, .int .i64 e.node, .int .i64 e.at_, .str e.data]

def nodeR (m : M) (e : Evt) : M × List X × Int :=
  if e.kind = 1 then ((timeoutR m).1, (timeoutR m).2, 0) else if e.kind = 2 then (m, beatsOf m, 0) else if e.kind = 3 then (if errP m e.data = 0 then proposed m e.data else m, [], errP m e.data) else (restartR m, [], 0)

theorem nodeR_few {m : M} {e : Evt} (ho : okM m = true) : MFew (nodeR m e).1 := by
  unfold nodeR
  split
  · exact okM_few (keeps_timeout ho).ok
  · split
    · exact okM_few ho
    · split
      · split
        · rename_i h; exact okM_few (goes_propose h).1.ok
        · exact okM_few ho
      · exact okM_few (keeps_restart ho).ok

def NodeB (m : M) (e : Evt) (pe pc k : Nat) (H1 : Heap) (b : Bool) (H1' : Heap) : Prop :=
  ∃ (g' : Fl) (c : Bool) (q1 : List (Nat × Blk)) (k' : Nat), BS tb 36 [.agg ((mC m ffff).map .p), .ptr pe 0, .ptr pc 0] H1 k (.tuple [.agg ((mC (nodeR m e).1 g').map .p), .p (.slice c (netPV (flg b (nodeR m e).2.1)))]) (q1 ++ H1') k' ∧
    k ≤ k' ∧ (∀ x ∈ q1, k ≤ x.1 ∧ x.1 < k')

theorem aget_pre : ∀ (q : List (Nat × Blk)) (H : Heap) (k k' j : Nat), (∀ x ∈ q, k ≤ x.1 ∧ x.1 < k') → (j < k ∨ k' ≤ j) → aget (q ++ H) j = aget H j
  | [], H, _, _, _, _, _ => rfl
  | (i, v) :: r, H, k, k', j, h, hj => by
    rw [List.cons_append]
    simp only [aget]
    have := h (i, v) (by simp)
    rw [if_neg (by simp; omega)]
    exact aget_pre r H k k' j (fun x hx => h x (by simp [hx])) hj

theorem node1 (m : M) (kind node at_ : Int) (data : ByteArray) (ho : okM m = true) (pe pc k : Nat) (f1 : Bool) (H1 : Heap) (hpe : pe < k) (hpc : pc < k) (hne : pc ≠ pe) (he : aget H1 pe = some (.var f1 [.p (.int .i64 kind), .p (.int .i64 node), .p (.int .i64 at_), .p (.str data)])) (hc : aget H1 pc = some (.var false [.p (.int .i64 0)])) (h3 : ∀ j, k ≤ j → aget H1 j = none) (hk : kind = 1) : NodeB m ⟨kind, node, at_, data⟩ pe pc k H1 true H1 := by
  subst hk
  have e0 : aget H1 k = none := h3 k (by omega)
  have e1 : aget H1 (k + 1) = none := h3 _ (by omega)
  have n0 : (k == pe) = false := by simp; omega
  have n1 : (k + 1 == pe) = false := by simp; omega
  obtain ⟨g, b, hr⟩ := ps32 m ffff (okM_few ho)
  rw [rowsT_net] at hr
  refine ⟨g, b, [(k + 1, .var false ((mC (timeoutR m).1 g).map .p)), (k, .var false ((mC m ffff).map .p))], k + 2, ?_, by omega, by simp⟩
  refine BS_of (af := a36) rfl rfl ?_
  unfold a36
  dsimp only [initEnv]
  repeat' (first | exact hr | (simp (disch := omega) only [go_sem, seval, reduceCtorEq, mC, e0, e1, n0, n1, he, beqA, beqB, beqC]) | with_reducible exact Ev.mk | apply x_call | ((first | apply x_split | apply x_splitg) <;> intro hβ hb <;> (try simp only [hβ]) <;> clear hβ))
  all_goals rfl

theorem node2 (m : M) (kind node at_ : Int) (data : ByteArray) (ho : okM m = true) (pe pc k : Nat) (f1 : Bool) (H1 : Heap) (hpe : pe < k) (hpc : pc < k) (hne : pc ≠ pe) (he : aget H1 pe = some (.var f1 [.p (.int .i64 kind), .p (.int .i64 node), .p (.int .i64 at_), .p (.str data)])) (hc : aget H1 pc = some (.var false [.p (.int .i64 0)])) (h3 : ∀ j, k ≤ j → aget H1 j = none) (hk : kind = 2) : NodeB m ⟨kind, node, at_, data⟩ pe pc k H1 false H1 := by
  subst hk
  have e0 : aget H1 k = none := h3 k (by omega)
  have e1 : aget H1 (k + 1) = none := h3 _ (by omega)
  have n0 : (k == pe) = false := by simp; omega
  have n1 : (k + 1 == pe) = false := by simp; omega
  obtain ⟨b, hr⟩ := ps50 m ffff (okM_few ho)
  rw [msgs_net] at hr
  refine ⟨ffff, b, [(k + 1, .var false ((mC m ffff).map .p)), (k, .var false ((mC m ffff).map .p))], k + 2, ?_, by omega, by simp⟩
  refine BS_of (af := a36) rfl rfl ?_
  unfold a36
  dsimp only [initEnv]
  repeat' (first | exact hr | (simp (disch := omega) only [go_sem, seval, reduceCtorEq, mC, e0, e1, n0, n1, he, beqA, beqB, beqC]) | with_reducible exact Ev.mk | apply x_call | ((first | apply x_split | apply x_splitg) <;> intro hβ hb <;> (try simp only [hβ]) <;> clear hβ))
  all_goals rfl

theorem node7 (m : M) (kind node at_ : Int) (data : ByteArray) (ho : okM m = true) (pe pc k : Nat) (f1 : Bool) (H1 : Heap) (hpe : pe < k) (hpc : pc < k) (hne : pc ≠ pe) (he : aget H1 pe = some (.var f1 [.p (.int .i64 kind), .p (.int .i64 node), .p (.int .i64 at_), .p (.str data)])) (hc : aget H1 pc = some (.var false [.p (.int .i64 0)])) (h3 : ∀ j, k ≤ j → aget H1 j = none) (hk1 : ¬ kind = 1) (hk2 : ¬ kind = 2) (hk3 : ¬ kind = 3) : NodeB m ⟨kind, node, at_, data⟩ pe pc k H1 true H1 := by
  have e0 : aget H1 k = none := h3 k (by omega)
  have e1 : aget H1 (k + 1) = none := h3 _ (by omega)
  have n0 : (k == pe) = false := by simp; omega
  have n1 : (k + 1 == pe) = false := by simp; omega
  have t1 : (kind == 1) = false := by simpa using hk1
  have t2 : (kind == 2) = false := by simpa using hk2
  have t3 : (kind == 3) = false := by simpa using hk3
  obtain ⟨g, hr⟩ := ps43 m ffff (okM_few ho)
  have en : nodeR m ⟨kind, node, at_, data⟩ = (restartR m, [], 0) := by simp only [nodeR, if_neg hk1, if_neg hk2, if_neg hk3]
  unfold NodeB
  rw [en]
  refine ⟨g, true, [(k + 1, .var false ((mC (restartR m) g).map .p)), (k, .var false ((mC m ffff).map .p))], k + 2, ?_, by omega, by simp⟩
  refine BS_of (af := a36) rfl rfl ?_
  unfold a36
  dsimp only [initEnv]
  repeat' (first | exact hr | (simp (disch := omega) only [go_sem, seval, reduceCtorEq, mC, e0, e1, n0, n1, he, t1, t2, t3, beqA, beqB, beqC]) | with_reducible exact Ev.mk | apply x_call | ((first | apply x_split | apply x_splitg) <;> intro hβ hb <;> (try simp only [hβ]) <;> clear hβ))
  all_goals rfl

theorem node3 (m : M) (kind node at_ : Int) (data : ByteArray) (ho : okM m = true) (pe pc k : Nat) (f1 : Bool) (H1 : Heap) (hpe : pe < k) (hpc : pc < k) (hne : pc ≠ pe) (he : aget H1 pe = some (.var f1 [.p (.int .i64 kind), .p (.int .i64 node), .p (.int .i64 at_), .p (.str data)])) (hc : aget H1 pc = some (.var false [.p (.int .i64 0)])) (h3 : ∀ j, k ≤ j → aget H1 j = none) (hk : kind = 3) : NodeB m ⟨kind, node, at_, data⟩ pe pc k H1 true (hset H1 pc (.var false [.p (.int .i64 (errP m data))])) := by
  subst hk
  have e0 : aget H1 k = none := h3 k (by omega)
  have e1 : aget H1 (k + 1) = none := h3 _ (by omega)
  have e2 : aget H1 (k + 2) = none := h3 _ (by omega)
  have n0 : (k == pe) = false := by simp; omega
  have n1 : (k + 1 == pe) = false := by simp; omega
  have n2 : (k == pc) = false := by simp; omega
  have n3 : (k + 1 == pc) = false := by simp; omega
  have n4 : (k + 2 == pc) = false := by simp; omega
  obtain ⟨g, hr⟩ := ps47 m ffff data (okM_few ho)
  by_cases hz : errP m data = 0
  · have t1 : (errP m data != 0) = false := by simp [hz]
    have en : nodeR m ⟨3, node, at_, data⟩ = (proposed m data, [], errP m data) := by simp [nodeR, hz]
    have er : resP m data = proposed m data := if_pos hz
    rw [er] at hr
    unfold NodeB
    rw [en]
    refine ⟨g, true, [(k + 2, .var false ((mC (proposed m data) g).map .p)), (k + 1, .var false ((mC (proposed m data) g).map .p)), (k, .var false ((mC m ffff).map .p))], k + 3, ?_, by omega, by simp⟩
    refine BS_of (af := a36) rfl rfl ?_
    unfold a36
    dsimp only [initEnv]
    repeat' (first | exact hr | (simp (disch := omega) only [go_sem, seval, reduceCtorEq, mC, e0, e1, e2, n0, n1, n2, n3, n4, he, hc, t1, beqA, beqB, beqC, Nat.add_assoc]) | with_reducible exact Ev.mk | apply x_call | ((first | apply x_split | apply x_splitg) <;> intro hβ hb <;> (try simp only [hβ]) <;> clear hβ))
    all_goals rfl
  · have t1 : (errP m data != 0) = true := by simpa using hz
    have en : nodeR m ⟨3, node, at_, data⟩ = (m, [], errP m data) := by simp [nodeR, hz]
    have er : resP m data = zeroM := if_neg hz
    rw [er] at hr
    unfold NodeB
    rw [en]
    refine ⟨ffff, true, [(k + 2, .var false ((mC zeroM g).map .p)), (k + 1, .var false ((mC m ffff).map .p)), (k, .var false ((mC m ffff).map .p))], k + 3, ?_, by omega, by simp⟩
    refine BS_of (af := a36) rfl rfl ?_
    unfold a36
    dsimp only [initEnv]
    repeat' (first | exact hr | (simp (disch := omega) only [go_sem, seval, reduceCtorEq, mC, e0, e1, e2, n0, n1, n2, n3, n4, he, hc, t1, beqA, beqB, beqC, Nat.add_assoc]) | with_reducible exact Ev.mk | apply x_call | ((first | apply x_split | apply x_splitg) <;> intro hβ hb <;> (try simp only [hβ]) <;> clear hβ))
    all_goals rfl

theorem chg_node (m : M) (e : Evt) (ho : okM m = true) (pe pc : Nat) (f1 : Bool) (H : Heap) (nx : Nat) (h1 : pe < nx) (h2 : pc < nx) (hne : pc ≠ pe) (he : aget H pe = some (.var f1 [.p (.int .i64 e.kind), .p (.int .i64 e.node), .p (.int .i64 e.at_), .p (.str e.data)])) (hc : aget H pc = some (.var false [.p (.int .i64 0)])) :
    ∃ b H', Chg 36 [.ptr pe 0, .ptr pc 0] m ffff H nx (nodeR m e).1 (flg b (nodeR m e).2.1) H' ∧ aget H' pc = some (.var false [.p (.int .i64 (nodeR m e).2.2)]) ∧ ∀ j, j ≠ pc → aget H' j = aget H j := by
  obtain ⟨kind, node, at_, data⟩ := e
  have key : ∀ (b : Bool), (∀ (H1 : Heap) (k : Nat), (∀ j, j < nx → aget H1 j = aget H j) → nx ≤ k → (∀ j, k ≤ j → aget H1 j = none) → NodeB m ⟨kind, node, at_, data⟩ pe pc k H1 b H1) → (nodeR m ⟨kind, node, at_, data⟩).2.2 = 0 →
      ∃ b H', Chg 36 [.ptr pe 0, .ptr pc 0] m ffff H nx (nodeR m ⟨kind, node, at_, data⟩).1 (flg b (nodeR m ⟨kind, node, at_, data⟩).2.1) H' ∧ aget H' pc = some (.var false [.p (.int .i64 (nodeR m ⟨kind, node, at_, data⟩).2.2)]) ∧ ∀ j, j ≠ pc → aget H' j = aget H j := by
    intro b hb hz
    refine ⟨b, H, ?_, by rw [hz]; exact hc, fun _ _ => rfl⟩
    intro H1 k a1 a2 a3
    obtain ⟨g', c, q1, k', hB, hk, hq⟩ := hb H1 k a1 a2 a3
    refine ⟨_, k', g', c, hB, hk, ?_, ?_, ?_⟩
    · intro j j1 j2
      exact aget_pre q1 H1 k k' j hq (.inl j2)
    · intro j j1
      rw [aget_pre q1 H1 k k' j hq (.inl (by omega))]
      exact a1 j j1
    · intro j j1
      rw [aget_pre q1 H1 k k' j hq (.inr j1)]
      exact a3 j (by omega)
  by_cases k1 : kind = 1
  · refine key true (fun H1 k a1 a2 a3 => node1 m kind node at_ data ho pe pc k f1 H1 (by omega) (by omega) hne (by rw [a1 _ h1]; exact he) (by rw [a1 _ h2]; exact hc) a3 k1) ?_
    simp [nodeR, k1]
  · by_cases k2 : kind = 2
    · refine key false (fun H1 k a1 a2 a3 => node2 m kind node at_ data ho pe pc k f1 H1 (by omega) (by omega) hne (by rw [a1 _ h1]; exact he) (by rw [a1 _ h2]; exact hc) a3 k2) ?_
      simp [nodeR, k2]
    · by_cases k3 : kind = 3
      · have ez : (nodeR m ⟨kind, node, at_, data⟩).2.2 = errP m data := by simp [nodeR, k3]
        refine ⟨true, hset H pc (.var false [.p (.int .i64 (errP m data))]), ?_, by rw [_root_.Go.Dv.aget_hset, if_pos rfl, hc, ez]; rfl, fun j hj => by rw [_root_.Go.Dv.aget_hset, if_neg (fun e => hj e.symm)]⟩
        intro H1 k a1 a2 a3
        obtain ⟨g', c, q1, k', hB, hk, hq⟩ := node3 m kind node at_ data ho pe pc k f1 H1 (by omega) (by omega) hne (by rw [a1 _ h1]; exact he) (by rw [a1 _ h2]; exact hc) a3 k3
        refine ⟨_, k', g', c, hB, hk, ?_, ?_, ?_⟩
        · intro j j1 j2
          rw [aget_pre q1 _ k k' j hq (.inl j2), _root_.Go.Dv.aget_hset, if_neg (by omega)]
        · intro j j1
          rw [aget_pre q1 _ k k' j hq (.inl (by omega)), _root_.Go.Dv.aget_hset, _root_.Go.Dv.aget_hset, a1 j j1]
        · intro j j1
          rw [aget_pre q1 _ k k' j hq (.inr j1), _root_.Go.Dv.aget_hset, if_neg (by omega)]
          exact a3 j (by omega)
      · refine key true (fun H1 k a1 a2 a3 => node7 m kind node at_ data ho pe pc k f1 H1 (by omega) (by omega) hne (by rw [a1 _ h1]; exact he) (by rw [a1 _ h2]; exact hc) a3 k1 k2 k3) ?_
        simp [nodeR, k1, k2, k3]

def okAtC (ms : List M) (i : Nat) : Bool := decide ((ms.getD i zeroM).id = ((i + 1 : Nat) : Int)) && decide ((ms.getD i zeroM).members = ms.length) && okM (ms.getD i zeroM)

def okC (ms : List M) (net : List X) : Bool := decide (1 ≤ ms.length) && decide (ms.length ≤ 7) && decide (net.length ≤ 256) && (List.range ms.length).all (okAtC ms) && net.all (fun x => okX x ms.length)

def fsts (l : List (M × Fl)) : List M := l.map (·.1)

def fstx (l : List (X × Bool)) : List X := l.map (·.1)

theorem fsts_length (l : List (M × Fl)) : (fsts l).length = l.length := by simp [fsts]

theorem fstx_length (l : List (X × Bool)) : (fstx l).length = l.length := by simp [fstx]

theorem fsts_getD (l : List (M × Fl)) (i : Nat) (h : i < l.length) : (fsts l).getD i zeroM = l[i].1 := by simp [fsts, List.getD_eq_getElem?_getD, h]

theorem lt_step' {q : Nat → Bool} {i : Nat} (h : ∀ j, j < i → q j = true) (hi : q i = true) : ∀ j, j < i + 1 → q j = true := by
  intro j hj
  rcases Nat.lt_or_ge j i with h1 | h1
  · exact h j h1
  · have : j = i := by omega
    rw [this]; exact hi

theorem l_qv1 (l : List (M × Fl)) (a : Bool) (net : List (X × Bool)) (b : Bool) (hl : l.length ≤ 7) (hm : ∀ t ∈ l, MIn t.1) (K : Ex → St → Prop)
    (hx : (∀ j, j < l.length → okAtC (fsts l) j = true) → K (.exit 0) ⟨[(1, .ptr 0 0), (3, .p (.int .i64 l.length))], [(0, .var false [.p (.slice a (memPV l)), .p (.slice b (netPV net))])], 1, [0]⟩)
    (hr : ∀ i, i < l.length → okAtC (fsts l) i = false → ∀ s', aget s'.env 2 = some (.p (.bool false)) → K .ret s') : ∀ (m i : Nat), i + m = l.length → (∀ j, j < i → okAtC (fsts l) j = true) →
    W tb a6_l1 ⟨[(1, .ptr 0 0), (3, .p (.int .i64 l.length)), (24, .p (.slice a (memPV l))), (25, .p (.int .i64 l.length)), (26, .p (.int .i64 i))], [(0, .var false [.p (.slice a (memPV l)), .p (.slice b (netPV net))])], 1, [0]⟩ (LK tb (.ghost (.free [5]) (.ghost .lower a6_l1)) K) := by
  intro m
  induction m with
  | zero =>
    intro i hi ht
    have h1 : ¬ (i : Int) < l.length := by omega
    refine i_code (by unfold a6_l1; exact rfl) ?_
    repeat' (first | (simp (disch := omega) only [go_sem, seval, reduceCtorEq, h1]) | with_reducible exact Ev.mk | ((first | apply x_split | apply x_splitg) <;> intro hβ hb <;> (try simp only [hβ]) <;> clear hβ))
    exact hx (fun j hj => ht j (by omega))
  | succ m ih =>
    intro i hi ht
    have h1 : (i : Int) < l.length := by omega
    have h2 : i < l.length := by omega
    have h4 : (0 : Int) ≤ i := by omega
    have h3 := memPV_get l i h2
    have hmi := hm l[i] (List.getElem_mem h2)
    have hq : okAtC (fsts l) i = (decide (l[i].1.id = ((i + 1 : Nat) : Int)) && decide (l[i].1.members = l.length) && okM l[i].1) := by rw [okAtC, fsts_getD l i h2, fsts_length]
    have g := ps28 l[i].1 l[i].2 hmi
    refine i_code (by unfold a6_l1; exact rfl) ?_
    repeat' (first | exact g | (simp (disch := omega) only [go_sem, seval, reduceCtorEq, h1, h3, h4, mC]) | with_reducible exact Ev.mk | apply x_call | ((first | apply x_split | apply x_splitg) <;> intro hβ hb <;> (try simp only [hβ]) <;> clear hβ))
    all_goals first
      | exact hr i h2 (by rw [hq]; simp_all) _ rfl
      | (refine i_lk (W_round ?_)
         (try simp (disch := omega) only [go_sem, seval, reduceCtorEq])
         exact ih (i + 1) (by omega) (lt_step' ht (by rw [hq]; simp_all)))

theorem l_qv0 (l : List (M × Fl)) (a : Bool) (net : List (X × Bool)) (b : Bool) (hl : l.length ≤ 7) (hn : net.length ≤ 256) (K : Ex → St → Prop)
    (hx : (∀ j, j < net.length → (fun j => okX (getX net j) l.length) j = true) → K (.exit 2) ⟨[], [], 0, [0]⟩)
    (hr : ∀ i, i < net.length → (fun j => okX (getX net j) l.length) i = false → ∀ s', aget s'.env 2 = some (.p (.bool false)) → K .ret s') : ∀ (m i : Nat), i + m = net.length → (∀ j, j < i → (fun j => okX (getX net j) l.length) j = true) →
    W tb a6_l0 ⟨[(3, .p (.int .i64 l.length)), (49, .p (.slice b (netPV net))), (50, .p (.int .i64 net.length)), (51, .p (.int .i64 i))], [], 0, [0]⟩ (LK tb (.ghost (.free [1, 7]) (.ghost .lower a6_l0)) K) := by
  intro m
  induction m with
  | zero =>
    intro i hi ht
    have h1 : ¬ (i : Int) < net.length := by omega
    refine i_code (by unfold a6_l0; exact rfl) ?_
    repeat' (first | (simp (disch := omega) only [go_sem, seval, reduceCtorEq, h1]) | with_reducible exact Ev.mk | ((first | apply x_split | apply x_splitg) <;> intro hβ hb <;> (try simp only [hβ]) <;> clear hβ))
    exact hx (fun j hj => ht j (by omega))
  | succ m ih =>
    intro i hi ht
    have h1 : (i : Int) < net.length := by omega
    have h2 : i < net.length := by omega
    have h4 : (0 : Int) ≤ i := by omega
    have h3 := netPV_get net i h2
    have hq := getX_get net i h2
    have g := ps131 net[i].1 net[i].2 l.length
    refine i_code (by unfold a6_l0; exact rfl) ?_
    repeat' (first | exact g | (simp (disch := omega) only [go_sem, seval, reduceCtorEq, h1, h3, h4, xC]) | with_reducible exact Ev.mk | apply x_call | ((first | apply x_split | apply x_splitg) <;> intro hβ hb <;> (try simp only [hβ]) <;> clear hβ))
    all_goals first
      | exact hr i h2 (by simp only [hq]; simp_all) _ rfl
      | (refine i_lk (W_round ?_)
         (try simp (disch := omega) only [go_sem, seval, reduceCtorEq])
         exact ih (i + 1) (by omega) (lt_step' ht (by simp only [hq]; simp_all)))

theorem all_net (net : List (X × Bool)) (p : X → Bool) : (∀ j, j < net.length → p (getX net j) = true) ↔ (fstx net).all p = true := by
  rw [List.all_eq_true]
  constructor
  · intro h x hx
    obtain ⟨t, ht, rfl⟩ := List.mem_map.1 hx
    obtain ⟨j, hj, rfl⟩ := List.getElem_of_mem ht
    rw [← getX_get net j hj]
    exact h j hj
  · intro h j hj
    rw [getX_get net j hj]
    exact h _ (List.mem_map.2 ⟨_, List.getElem_mem hj, rfl⟩)

theorem ps_qvalid (l : List (M × Fl)) (a : Bool) (net : List (X × Bool)) (b : Bool) (hl : l.length ≤ 9223372036854775807) (hn : net.length ≤ 9223372036854775807) (hm : ∀ t ∈ l, MIn t.1) :
    PS tb 6 [.agg [.slice a (memPV l), .slice b (netPV net)]] (.bool (okC (fsts l) (fstx net))) := by
  refine PS_of (af := a6) rfl rfl ?_
  unfold a6
  dsimp only [List.map, ofPV, initEnv]
  have e1 := fsts_length l
  have e2 := fstx_length net
  by_cases c1 : (l.length : Int) < 1
  · have : okC (fsts l) (fstx net) = false := by simp [okC]; omega
    rw [this]
    repeat' (first | (simp (disch := omega) only [go_sem, seval, reduceCtorEq, memPV_length, netPV_length, c1]) | with_reducible exact Ev.mk | ((first | apply x_split | apply x_splitg) <;> intro hβ hb <;> (try simp only [hβ]) <;> clear hβ))
  · by_cases c2 : (7 : Int) < l.length
    · have : okC (fsts l) (fstx net) = false := by simp [okC]; omega
      rw [this]
      repeat' (first | (simp (disch := omega) only [go_sem, seval, reduceCtorEq, memPV_length, netPV_length, c1, c2]) | with_reducible exact Ev.mk | ((first | apply x_split | apply x_splitg) <;> intro hβ hb <;> (try simp only [hβ]) <;> clear hβ))
    · by_cases c3 : (256 : Int) < net.length
      · have : okC (fsts l) (fstx net) = false := by simp [okC]; omega
        rw [this]
        repeat' (first | (simp (disch := omega) only [go_sem, seval, reduceCtorEq, memPV_length, netPV_length, c1, c2, c3]) | with_reducible exact Ev.mk | ((first | apply x_split | apply x_splitg) <;> intro hβ hb <;> (try simp only [hβ]) <;> clear hβ))
      · repeat' (first | (simp (disch := omega) only [go_sem, seval, reduceCtorEq, memPV_length, netPV_length, c1, c2, c3]) | with_reducible exact Ev.mk | ((first | apply x_split | apply x_splitg) <;> intro hβ hb <;> (try simp only [hβ]) <;> clear hβ))
        refine W_round ?_
        (try simp (disch := omega) only [go_sem, seval, reduceCtorEq])
        refine l_qv1 l a net b (by omega) hm _ ?_ ?_ l.length 0 (by omega) (fun j hj => by omega)
        · intro h1
          (try simp (disch := omega) only [go_sem, seval, reduceCtorEq, netPV_length])
          refine W_round ?_
          (try simp (disch := omega) only [go_sem, seval, reduceCtorEq])
          refine l_qv0 l a net b (by omega) (by omega) _ ?_ ?_ net.length 0 (by omega) (fun j hj => by omega)
          · intro h2
            have : okC (fsts l) (fstx net) = true := by
              have h3 : (List.range (fsts l).length).all (okAtC (fsts l)) = true := by rw [List.all_eq_true]; intro j hj; rw [e1] at hj; exact h1 j (List.mem_range.1 hj)
              have h4 : (fstx net).all (fun x => okX x (fsts l).length) = true := by rw [← all_net, e1]; exact h2
              unfold okC
              rw [h3, h4]
              simp only [e1, e2, Bool.and_true, Bool.and_eq_true, decide_eq_true_eq]
              omega
            rw [this]
            repeat' (first | (simp (disch := omega) only [go_sem, seval, reduceCtorEq]) | with_reducible exact Ev.mk | ((first | apply x_split | apply x_splitg) <;> intro hβ hb <;> (try simp only [hβ]) <;> clear hβ))
          · intro i hi h2 s' hs
            have : okC (fsts l) (fstx net) = false := by
              have h4 : (fstx net).all (fun x => okX x (fsts l).length) = false := by
                cases h : (fstx net).all (fun x => okX x (fsts l).length) with
                | false => rfl
                | true =>
                  have h5 := (all_net net _).2 h i hi
                  simp only [e1] at h5
                  have h6 : okX (getX net i) l.length = false := h2
                  rw [h5] at h6; cases h6
              simp only [okC, h4, Bool.and_false]
            rw [this]
            (try simp (disch := omega) only [go_sem, seval, reduceCtorEq, hs])
        · intro i hi h2 s' hs
          have : okC (fsts l) (fstx net) = false := by
            have h3 : (List.range (fsts l).length).all (okAtC (fsts l)) = false := by
              cases h : (List.range (fsts l).length).all (okAtC (fsts l)) with
              | false => rfl
              | true =>
                have := List.all_eq_true.1 h i (List.mem_range.2 (by rw [e1]; exact hi))
                rw [this] at h2; cases h2
            simp only [okC, h3, Bool.and_false, Bool.false_and]
          rw [this]
          (try simp (disch := omega) only [go_sem, seval, reduceCtorEq, hs])

theorem okX_mk {x : X} {mem : Int} (h1 : 1 ≤ mem) (h2 : mem ≤ 7) (h3 : 1 ≤ x.frm) (h4 : x.frm ≤ mem) (h5 : 1 ≤ x.to) (h6 : x.to ≤ mem) (h7 : x.frm ≠ x.to) (h8 : 1 ≤ x.term) (h9 : x.term ≤ 1099511627776) (h10 : 0 ≤ x.index) (h11 : x.index ≤ 1099511627776)
    (h12 : 0 ≤ x.logTerm) (h13 : x.logTerm ≤ 1099511627776) (h14 : 0 ≤ x.commit) (h15 : x.commit ≤ 1099511627776) (h16 : okLog x.items = true) (h17 : 1 ≤ x.kind) (h18 : x.kind ≤ 4) (h19 : plainX x = true) : okX x mem = true := by
  simp [okX, within, *]

theorem okLog_nil : okLog [] = true := rfl

theorem vote_reply_ok {m : M} {x y : X} (h : (voteR m x).2 = some y) : okX y m.members = true ∧ y.frm = m.id := by
  unfold voteR at h
  split at h
  · rename_i hc
    simp only [Option.some.injEq] at h
    subst h
    obtain ⟨h1, h2, h3, h4⟩ := concerns_ok hc
    have f := okX_facts h2
    have hh := ((okM_iff m).1 h1).1
    have hk := (keeps_newer hc).trans (keeps_cast (keeps_newer hc).ok (by rw [(keeps_newer hc).mem]; exact h2) (by rw [(keeps_newer hc).id]; exact h3))
    obtain ⟨hn, _⟩ := (okM_iff _).1 hk.ok
    have t1 : 1 ≤ (castM (newer m x) x).term := by
      unfold castM newer
      split <;> split <;> first | (show 1 ≤ x.term; omega) | (show 1 ≤ m.term; omega)
    have i1 := hh.id1; have i2 := hh.id2; have i3 := hh.me1; have i4 := hh.me2
    have e := hk.id
    refine ⟨okX_mk (by omega) (by omega) (by show 1 ≤ (castM (newer m x) x).id; omega) (by show (castM (newer m x) x).id ≤ m.members; omega) (by show 1 ≤ x.frm; omega) (by show x.frm ≤ m.members; omega) (by show (castM (newer m x) x).id ≠ x.frm; omega) t1 hn.te2
      (by show (0 : Int) ≤ 0; omega) (by show (0 : Int) ≤ _; omega) (by show (0 : Int) ≤ 0; omega) (by show (0 : Int) ≤ _; omega) (by show (0 : Int) ≤ 0; omega) (by show (0 : Int) ≤ _; omega) okLog_nil (by show (1 : Int) ≤ 2; omega) (by show (2 : Int) ≤ 4; omega) rfl, e⟩
  · cases h

theorem reply_ok {m a : M} {x : X} {i : Int} {o : Bool} (hc : concernsX m x 3 = true) (ha : Goes m a) (ht : 1 ≤ a.term) (h0 : 0 ≤ i) (h1 : i ≤ 1000) : okX (replyX a x.frm i o) m.members = true ∧ (replyX a x.frm i o).frm = m.id := by
  obtain ⟨k1, k2, k3, k4⟩ := concerns_ok hc
  have f := okX_facts k2
  have hh := ((okM_iff m).1 k1).1
  have hn := ((okM_iff a).1 ha.ok).1
  have i1 := hh.id1; have i2 := hh.id2; have i3 := hh.me1; have i4 := hh.me2
  have e := ha.id
  exact ⟨okX_mk (by omega) (by omega) (by show 1 ≤ a.id; omega) (by show a.id ≤ m.members; omega) (by show 1 ≤ x.frm; omega) (by show x.frm ≤ m.members; omega) (by show a.id ≠ x.frm; omega) ht hn.te2
      h0 (by show i ≤ _; omega) (by show (0 : Int) ≤ 0; omega) (by show (0 : Int) ≤ _; omega) (by show (0 : Int) ≤ 0; omega) (by show (0 : Int) ≤ _; omega) okLog_nil (by show (1 : Int) ≤ 4; omega) (by show (4 : Int) ≤ 4; omega) rfl, e⟩

theorem app_reply_ok {m : M} {x y : X} (h : (appR m x).2 = some y) : okX y m.members = true ∧ y.frm = m.id := by
  have gg := goes_app (m := m) (x := x)
  unfold appR at h gg
  split at h
  · cases h
  · rename_i hc
    rw [if_neg hc] at gg
    have hc : concernsX m x 3 = true := by simpa using hc
    obtain ⟨k1, k2, k3, k4⟩ := concerns_ok hc
    have f := okX_facts k2
    have hh := ((okM_iff m).1 k1).1
    have lg := ((okLog_iff _).1 hh.lg).1
    have it := ((okLog_iff _).1 f.2.2.2.2.2.2.2.2.2.2.2.2.2.2.2).1
    split at h
    · rename_i ht
      simp only [Option.some.injEq] at h
      subst h
      exact reply_ok hc (Goes.refl k1) (by omega) (by omega) (by omega)
    · rename_i ht
      rw [if_neg ht] at gg
      split at h
      · cases h
      · rename_i hr
        rw [if_neg hr] at gg
        have g2 := goes_app2 hc hr
        obtain ⟨e1, e2, e3, e4⟩ := app2_eqs m x
        have t2 : 1 ≤ (app2 m x).term := by
          unfold app2 app1
          split
          · show 1 ≤ x.term; omega
          · show 1 ≤ m.term; omega
        unfold app3 at h gg
        split at h
        · rename_i hm
          simp only [Option.some.injEq] at h
          subst h
          simp only [missX, e1, Bool.or_eq_true, Bool.and_eq_true, decide_eq_true_eq] at hm
          refine reply_ok hc g2 t2 ?_ ?_
          · rw [e1]; unfold mn; split <;> omega
          · rw [e1]; unfold mn; split <;> omega
        · rename_i hm
          rw [if_neg hm] at gg
          split at h
          · cases h
          · rename_i hf
            rw [if_neg hf] at gg
            have hfe : ¬ 256 < x.index + (x.items.length : Int) := fun e => hf (by simp [fullX, e])
            simp only [Option.some.injEq] at h
            subst h
            exact reply_ok hc (gg k1) t2 (by omega) (by omega)

theorem receive_ok {m : M} {x y : X} (h : (receiveR m x).2 = some y) : okX y m.members = true ∧ y.frm = m.id := by
  unfold receiveR at h
  split at h
  · exact vote_reply_ok h
  · split at h
    · cases h
    · split at h
      · exact app_reply_ok h
      · split at h <;> cases h

theorem receive_goes {m : M} {x : X} (h : okM m = true) : Goes m (receiveR m x).1 := by
  unfold receiveR
  split
  · exact keeps_Goes (keeps_vote h) (vote_commit m x)
  · split
    · exact keeps_Goes (keeps_count h) (count_commit m x)
    · split
      · exact goes_app h
      · split
        · exact goes_ack h
        · exact .refl h

theorem termN_ok {l : List (Int × ByteArray)} (h : okLog l = true) {n : Int} (h0 : 0 ≤ n) (h1 : n ≤ l.length) : 0 ≤ termN l n ∧ termN l n ≤ 1099511627776 := by
  unfold termN
  split
  · omega
  · have hk : (n - 1).toNat < l.length := by omega
    rw [itTerm_eq _ _ hk]
    have := ((okLog_iff l).1 h).2 _ (List.getElem_mem hk)
    simp only [okItem, Bool.and_eq_true, decide_eq_true_eq] at this
    omega

theorem beats_ok {m : M} (ho : okM m = true) (hr : m.role = 3) : ∀ k : Nat, (k : Int) ≤ m.members → ∀ y ∈ beats m k, okX y m.members = true ∧ y.frm = m.id
  | 0, _, y, hy => by simp [beats] at hy
  | k + 1, hk, y, hy => by
    obtain ⟨hh, hr'⟩ := (okM_iff m).1 ho
    have i1 := hh.id1; have i2 := hh.id2; have i3 := hh.me1; have i4 := hh.me2; have c1 := hh.co1; have c2 := hh.co2
    have t1 : 1 ≤ m.term := by
      rcases hr' with ⟨a, _⟩ | ⟨a, _⟩ | ⟨_, b, _⟩
      · omega
      · omega
      · exact b
    obtain ⟨f1, f2, f3, f4, f5, f6, f7⟩ := lead_facts ho hr
    obtain ⟨b1, b2⟩ := prog_at ho hr k (by omega)
    obtain ⟨lg1, lg2⟩ := (okLog_iff _).1 hh.lg
    obtain ⟨u1, u2⟩ := termN_ok hh.lg b1 b2
    simp only [beats] at hy
    split at hy
    · exact beats_ok ho hr k (by omega) y hy
    · rename_i ne
      rcases List.mem_append.1 hy with h | h
      · exact beats_ok ho hr k (by omega) y h
      · simp only [List.mem_singleton] at h
        subst h
        refine ⟨okX_mk i3 i4 i1 i2 (by show 1 ≤ ((k + 1 : Nat) : Int); omega) hk (by show m.id ≠ ((k + 1 : Nat) : Int); omega) t1 hh.te2 b1 (by show m.next.getD k 0 ≤ _; omega) u1 u2 c1 (by show m.commit ≤ _; omega) ?_ (by show (1 : Int) ≤ 3; omega) (by show (3 : Int) ≤ 4; omega) rfl, rfl⟩
        show okLog (m.log.drop (m.next.getD k 0).toNat) = true
        rw [okLog_iff]
        exact ⟨by simp; omega, fun z hz => lg2 z (List.mem_of_mem_drop hz)⟩

theorem okC_facts {ms : List M} {net : List X} (h : okC ms net = true) : 1 ≤ ms.length ∧ ms.length ≤ 7 ∧ net.length ≤ 256 ∧ (∀ (i : Nat) (m : M), ms[i]? = some m → m.id = ((i + 1 : Nat) : Int) ∧ m.members = ms.length ∧ okM m = true) ∧ ∀ x ∈ net, okX x ms.length = true := by
  simp only [okC, Bool.and_eq_true, decide_eq_true_eq, List.all_eq_true, List.mem_range] at h
  obtain ⟨⟨⟨⟨h1, h2⟩, h3⟩, h4⟩, h5⟩ := h
  refine ⟨h1, h2, h3, fun i m hm => ?_, h5⟩
  obtain ⟨hi, he⟩ := List.getElem?_eq_some_iff.1 hm
  have := h4 i hi
  simp only [okAtC, Bool.and_eq_true, decide_eq_true_eq, List.getD_eq_getElem?_getD, hm, Option.getD_some] at this
  exact ⟨this.1.1, this.1.2, this.2⟩

theorem fsts_get (l : List (M × Fl)) (i : Nat) (h : i < l.length) : (fsts l)[i]? = some l[i].1 := by rw [fsts, List.getElem?_map, List.getElem?_eq_getElem h]; rfl

theorem smallM_of {l : List (M × Fl)} {net : List X} (h : okC (fsts l) net = true) : SmallM l := by
  obtain ⟨h1, h2, h3, h4, h5⟩ := okC_facts h
  rw [fsts_length] at h1 h2
  refine ⟨by omega, fun t ht => ?_⟩
  obtain ⟨j, hj, rfl⟩ := List.getElem_of_mem ht
  exact okM_few (h4 j l[j].1 (fsts_get l _ hj)).2.2

theorem okX_items {x : X} {n : Int} (h : okX x n = true) : x.items.length ≤ 256 := by
  simp only [okX, within, okLog, Bool.and_eq_true, decide_eq_true_eq] at h
  omega

theorem small_of {ms : List M} {net : List (X × Bool)} (h : okC ms (fstx net) = true) : Small net := by
  obtain ⟨h1, h2, h3, h4, h5⟩ := okC_facts h
  rw [fstx_length] at h3
  refine ⟨by omega, fun t ht => ?_⟩
  have := okX_items (h5 t.1 (List.mem_map.2 ⟨t, ht, rfl⟩))
  omega

theorem small_clr {l : List (X × Bool)} (h : Small l) : Small (clr l) := by
  refine ⟨by rw [clr_length]; exact h.1, fun t ht => ?_⟩
  obtain ⟨u, hu, rfl⟩ := List.mem_map.1 ht
  exact h.2 u hu

def delX (l : List X) (k : Nat) : List X := l.take k ++ l.drop (k + 1)

theorem fstx_del (l : List (X × Bool)) (k : Nat) : fstx (del l k) = delX (fstx l) k := by simp [fstx, del, delX, List.map_take, List.map_drop]

theorem fstx_clr (l : List (X × Bool)) : fstx (clr l) = fstx l := by simp [fstx, clr, Function.comp_def]

theorem fstx_append (l q : List (X × Bool)) : fstx (l ++ q) = fstx l ++ fstx q := by simp [fstx]

theorem fstx_flg (b : Bool) (l : List X) : fstx (flg b l) = l := flg_fst b l

theorem fstx_cut (l : List (X × Bool)) : fstx (cut l) = (fstx l).take 256 := by
  unfold cut
  split
  · simp [fstx, List.map_take]
  · rw [List.take_length, List.take_of_length_le]; rw [fstx_length]; omega

theorem fsts_set (l : List (M × Fl)) (i : Nat) (m : M) (f : Fl) : fsts ((own l).set i (m, f)) = (fsts l).set i m := by simp [fsts, own, List.map_set, Function.comp_def]

theorem getX_fst (l : List (X × Bool)) (k : Nat) : getX l k = (fstx l).getD k zeroXF := by
  simp only [getX, fstx, List.getD_eq_getElem?_getD, List.getElem?_map]
  cases l[k]? <;> rfl

def sendR (net q : List X) : List X := (net ++ q).take 256

def transitR (ms : List M) (net : List X) (e : Evt) : (List M × List X) × Int :=
  if e.at_ < 0 ∨ (net.length : Int) ≤ e.at_ then (([], []), 9)
  else if e.kind = 4 then ((ms.set ((net.getD e.at_.toNat zeroXF).to - 1).toNat (receiveR (ms.getD ((net.getD e.at_.toNat zeroXF).to - 1).toNat zeroM) (net.getD e.at_.toNat zeroXF)).1, sendR (delX net e.at_.toNat) (receiveR (ms.getD ((net.getD e.at_.toNat zeroXF).to - 1).toNat zeroM) (net.getD e.at_.toNat zeroXF)).2.toList), 0)
  else if e.kind = 5 then ((ms, sendR (delX net e.at_.toNat) []), 0)
  else if 256 ≤ net.length then (([], []), 17)
  else ((ms, sendR (net ++ [net.getD e.at_.toNat zeroXF]) []), 0)

def CluP (r : (List M × List X) × Int) (p : PV) : Prop := ∃ (l : List (M × Fl)) (a : Bool) (net : List (X × Bool)) (b : Bool), p = .tuple [.agg [.slice a (memPV l), .slice b (netPV net)], .int .i64 r.2] ∧ fsts l = r.1.1 ∧ fstx net = r.1.2

theorem CluP.zero (c : Int) : CluP (([], []), c) (.tuple [.agg [.slice true [], .slice true []], .int .i64 c]) := ⟨[], true, [], true, rfl, rfl, rfl⟩

theorem set_self (l : List (M × Fl)) (h : 0 < l.length) : fsts ((own l).set 0 (l[0].1, ffff)) = fsts l := by
  rw [fsts_set]
  refine List.ext_getElem? fun j => ?_
  rw [List.getElem?_set]
  split
  · rename_i e
    subst e
    rw [fsts_length, if_pos h, fsts_get l 0 h]
  · rfl

section

variable (l : List (M × Fl)) (a : Bool) (net : List (X × Bool)) (b : Bool) (kind node at_ : Int) (data : ByteArray) (hv : okC (fsts l) (fstx net) = true)

include hv

def trH : Heap := [(2, .var false [.p (.slice true []), .p (.slice true [])]), (1, .var false [.p (.int .i64 kind), .p (.int .i64 node), .p (.int .i64 at_), .p (.str data)]), (0, .var false [.p (.slice a (memPV l)), .p (.slice b (netPV net))])]

theorem ps_tr4 (hk : kind = 4) (h0 : 0 ≤ at_) (h1 : at_ < net.length) : ∃ p, PS tb 34 [.agg [.slice a (memPV l), .slice b (netPV net)], .agg (evC ⟨kind, node, at_, data⟩)] p ∧ CluP (transitR (fsts l) (fstx net) ⟨kind, node, at_, data⟩) p := by
  subst hk
  obtain ⟨k, rfl⟩ := Int.eq_ofNat_of_zero_le h0
  have hkn : k < net.length := by omega
  obtain ⟨v1, v2, v3, v4, v5⟩ := okC_facts hv
  have v1' := v1; have v2' := v2
  rw [fsts_length] at v1' v2'
  have sm := smallM_of hv
  have sn := small_of hv
  have eg := getX_fst net k
  have mx : getX net k ∈ fstx net := by rw [getX_get net k hkn]; exact List.mem_map.2 ⟨_, List.getElem_mem hkn, rfl⟩
  have hox := v5 _ mx
  have fx := okX_facts hox
  have ix := okX_items hox
  generalize hX : getX net k = x at *
  have hio : (x.to - 1).toNat < l.length := by rw [fsts_length] at fx; omega
  have eto : (((x.to - 1).toNat : Nat) : Int) + 1 = x.to := by omega
  have hm := v4 (x.to - 1).toNat l[(x.to - 1).toNat].1 (fsts_get l _ hio)
  have hfew := okM_few hm.2.2
  have hgoes := receive_goes (x := x) hm.2.2
  have er : transitR (fsts l) (fstx net) ⟨4, node, k, data⟩ = (((fsts l).set (x.to - 1).toNat (receiveR l[(x.to - 1).toNat].1 x).1, sendR (delX (fstx net) k) (receiveR l[(x.to - 1).toNat].1 x).2.toList), 0) := by
    have c : ¬ ((k : Int) < 0 ∨ ((fstx net).length : Int) ≤ k) := by rw [fstx_length]; omega
    simp only [transitR, if_neg c, Int.toNat_natCast, ← eg, fsts_getD l _ hio, if_true]
  rw [er]
  obtain ⟨r, H3, k3, hb, ⟨d, hr⟩, g1, g2, g3, g4⟩ := bs_change l sm a (clr (del net k)) (flg true (receiveR l[(x.to - 1).toNat].1 x).2.toList) (small_clr (small_del sn k)) (by
      refine ⟨by cases (receiveR l[(x.to - 1).toNat].1 x).2 <;> simp [flg], fun t ht => ?_⟩
      obtain ⟨y, hy, rfl⟩ := List.mem_map.1 ht
      have h9 := okX_items (receive_ok (by simpa using hy)).1
      show y.items.length ≤ 100000
      omega) false (x.to - 1).toNat hio 66 [.ptr 3 0] ((3, .var false ((xC x false).map .p)) :: trH l a net b 4 node k data) ((3, .var false ((xC x false).map .p)) :: trH l a net b 4 node k data) 4 (fresh_of rfl)
      (receiveR l[(x.to - 1).toNat].1 x).1 (okM_few hgoes.ok) (chg_receive _ x hfew (by omega) 3 false _ 4 (by omega) rfl)
  rw [eto] at hb
  subst hr
  have hd := ps_deliver net sn b k hkn
  rw [hX] at hd
  have q2 : aget H3 2 = some (.var false [.p (.slice true []), .p (.slice true [])]) := g2 2 (by omega)
  refine PS_any (af := a34) rfl rfl ?_
  unfold a34
  dsimp only [List.map, ofPV, initEnv, evC]
  have e9 : ((own l).set (x.to - 1).toNat ((receiveR l[(x.to - 1).toNat].1 x).1, ffff)).take l.length = (own l).set (x.to - 1).toNat ((receiveR l[(x.to - 1).toNat].1 x).1, ffff) := List.take_of_length_le (by rw [List.length_set, own_length]; omega)
  repeat' (first | exact hd | exact hb | (simp (disch := omega) only [go_sem, seval, reduceCtorEq, xC, q2, g1, memPV_length, memPV_take, List.length_set, own_length, _root_.Go.Dv.aget_hset, if_true, if_false, e9]) | with_reducible exact Ev.mk | apply x_call | apply x_callr | ((first | apply x_split | apply x_splitg) <;> intro hβ hb <;> (try simp only [hβ]) <;> clear hβ))
  refine ⟨_, rfl, _, _, _, _, rfl, fsts_set _ _ _ _, ?_⟩
  rw [fstx_cut, fstx_clr, fstx_append, fstx_clr, fstx_del, fstx_flg]
  rfl

theorem ps_tr5 (hk : kind = 5) (h0 : 0 ≤ at_) (h1 : at_ < net.length) : ∃ p, PS tb 34 [.agg [.slice a (memPV l), .slice b (netPV net)], .agg (evC ⟨kind, node, at_, data⟩)] p ∧ CluP (transitR (fsts l) (fstx net) ⟨kind, node, at_, data⟩) p := by
  subst hk
  obtain ⟨k, rfl⟩ := Int.eq_ofNat_of_zero_le h0
  have hkn : k < net.length := by omega
  obtain ⟨v1, v2, v3, v4, v5⟩ := okC_facts hv
  have v1' := v1; have v2' := v2
  rw [fsts_length] at v1' v2'
  have sm := smallM_of hv
  have sn := small_of hv
  have hio : 0 < l.length := by omega
  have hm := v4 0 l[0].1 (fsts_get l _ hio)
  have er : transitR (fsts l) (fstx net) ⟨5, node, k, data⟩ = ((fsts l, sendR (delX (fstx net) k) []), 0) := by
    have c : ¬ ((k : Int) < 0 ∨ ((fstx net).length : Int) ≤ k) := by rw [fstx_length]; omega
    simp only [transitR, if_neg c, Int.toNat_natCast]
    rfl
  rw [er]
  obtain ⟨r, H3, k3, hb, ⟨d, hr⟩, g1, g2, g3, g4⟩ := bs_change l sm a (clr (del net k)) [] (small_clr (small_del sn k)) ⟨by simp, by simp⟩ false 0 hio 69 [] (trH l a net b 5 node k data) (trH l a net b 5 node k data) 3 (fresh_of rfl)
      l[0].1 (okM_few hm.2.2) (chg_same _ _ _)
  have eto : (((0 : Nat) : Int) + 1) = 1 := rfl
  rw [eto] at hb
  subst hr
  have hd := ps_drop net sn b k hkn
  have q2 : aget H3 2 = some (.var false [.p (.slice true []), .p (.slice true [])]) := g2 2 (by omega)
  have e9 : ((own l).set 0 (l[0].1, ffff)).take l.length = (own l).set 0 (l[0].1, ffff) := List.take_of_length_le (by rw [List.length_set, own_length]; omega)
  refine PS_any (af := a34) rfl rfl ?_
  unfold a34
  dsimp only [List.map, ofPV, initEnv, evC]
  repeat' (first | exact hd | exact hb | (simp (disch := omega) only [go_sem, seval, reduceCtorEq, q2, g1, memPV_length, memPV_take, List.length_set, own_length, _root_.Go.Dv.aget_hset, if_true, if_false, e9]) | with_reducible exact Ev.mk | apply x_call | apply x_callr | ((first | apply x_split | apply x_splitg) <;> intro hβ hb <;> (try simp only [hβ]) <;> clear hβ))
  refine ⟨_, rfl, _, _, _, _, rfl, set_self l hio, ?_⟩
  rw [fstx_cut, fstx_clr, fstx_clr, fstx_del]
  simp [sendR]

theorem ps_tr6 (hk : kind = 6) (h0 : 0 ≤ at_) (h1 : at_ < net.length) (hf : net.length < 256) : ∃ p, PS tb 34 [.agg [.slice a (memPV l), .slice b (netPV net)], .agg (evC ⟨kind, node, at_, data⟩)] p ∧ CluP (transitR (fsts l) (fstx net) ⟨kind, node, at_, data⟩) p := by
  subst hk
  obtain ⟨k, rfl⟩ := Int.eq_ofNat_of_zero_le h0
  have hkn : k < net.length := by omega
  obtain ⟨v1, v2, v3, v4, v5⟩ := okC_facts hv
  have v1' := v1; have v2' := v2
  rw [fsts_length] at v1' v2'
  have sm := smallM_of hv
  have sn := small_of hv
  have hio : 0 < l.length := by omega
  have hm := v4 0 l[0].1 (fsts_get l _ hio)
  have mx : getX net k ∈ fstx net := by rw [getX_get net k hkn]; exact List.mem_map.2 ⟨_, List.getElem_mem hkn, rfl⟩
  have ix := okX_items (v5 _ mx)
  have er : transitR (fsts l) (fstx net) ⟨6, node, k, data⟩ = ((fsts l, sendR (fstx net ++ [getX net k]) []), 0) := by
    have c : ¬ ((k : Int) < 0 ∨ ((fstx net).length : Int) ≤ k) := by rw [fstx_length]; omega
    have c2 : ¬ 256 ≤ (fstx net).length := by rw [fstx_length]; omega
    simp only [transitR, if_neg c, if_neg c2, Int.toNat_natCast, ← getX_fst]
    rfl
  rw [er]
  have sn2 : Small (clr (net ++ [(getX net k, false)])) := small_clr ⟨by have := sn.1; simp; omega, fun t ht => by
    rcases List.mem_append.1 ht with h | h
    · exact sn.2 t h
    · simp only [List.mem_singleton] at h; subst h; show (getX net k).items.length ≤ 100000; omega⟩
  obtain ⟨r, H3, k3, hb, ⟨d, hr⟩, g1, g2, g3, g4⟩ := bs_change l sm a (clr (net ++ [(getX net k, false)])) [] sn2 ⟨by simp, by simp⟩ false 0 hio 69 [] (trH l a net b 6 node k data) (trH l a net b 6 node k data) 3 (fresh_of rfl)
      l[0].1 (okM_few hm.2.2) (chg_same _ _ _)
  have eto : (((0 : Nat) : Int) + 1) = 1 := rfl
  rw [eto] at hb
  subst hr
  have hd := ps_dup net sn b k hkn hf
  have q2 : aget H3 2 = some (.var false [.p (.slice true []), .p (.slice true [])]) := g2 2 (by omega)
  have e9 : ((own l).set 0 (l[0].1, ffff)).take l.length = (own l).set 0 (l[0].1, ffff) := List.take_of_length_le (by rw [List.length_set, own_length]; omega)
  refine PS_any (af := a34) rfl rfl ?_
  unfold a34
  dsimp only [List.map, ofPV, initEnv, evC]
  repeat' (first | exact hd | exact hb | (simp (disch := omega) only [go_sem, seval, reduceCtorEq, q2, g1, memPV_length, memPV_take, List.length_set, own_length, _root_.Go.Dv.aget_hset, if_true, if_false, e9]) | with_reducible exact Ev.mk | apply x_call | apply x_callr | ((first | apply x_split | apply x_splitg) <;> intro hβ hb <;> (try simp only [hβ]) <;> clear hβ))
  refine ⟨_, rfl, _, _, _, _, rfl, set_self l hio, ?_⟩
  rw [fstx_cut, fstx_clr, fstx_clr, fstx_append]
  simp [sendR, fstx]

theorem ps_trF (hk : kind = 6) (h0 : 0 ≤ at_) (h1 : at_ < net.length) (hf : 256 ≤ net.length) : ∃ p, PS tb 34 [.agg [.slice a (memPV l), .slice b (netPV net)], .agg (evC ⟨kind, node, at_, data⟩)] p ∧ CluP (transitR (fsts l) (fstx net) ⟨kind, node, at_, data⟩) p := by
  subst hk
  obtain ⟨k, rfl⟩ := Int.eq_ofNat_of_zero_le h0
  have hkn : k < net.length := by omega
  have er : transitR (fsts l) (fstx net) ⟨6, node, k, data⟩ = (([], []), 17) := by
    have c : ¬ ((k : Int) < 0 ∨ ((fstx net).length : Int) ≤ k) := by rw [fstx_length]; omega
    have c2 : 256 ≤ (fstx net).length := by rw [fstx_length]; omega
    simp only [transitR, if_neg c, if_pos c2]
    rfl
  rw [er]
  have hd := ps_dupF net (small_of hv).1 b k hkn hf
  refine PS_any (af := a34) rfl rfl ?_
  unfold a34
  dsimp only [List.map, ofPV, initEnv, evC]
  repeat' (first | exact hd | (simp (disch := omega) only [go_sem, seval, reduceCtorEq]) | with_reducible exact Ev.mk | apply x_call | ((first | apply x_split | apply x_splitg) <;> intro hβ hb <;> (try simp only [hβ]) <;> clear hβ))
  exact ⟨_, rfl, CluP.zero 17⟩

theorem ps_trN (hk : kind = 4 ∨ kind = 5 ∨ kind = 6) (h0 : at_ < 0 ∨ (net.length : Int) ≤ at_) : ∃ p, PS tb 34 [.agg [.slice a (memPV l), .slice b (netPV net)], .agg (evC ⟨kind, node, at_, data⟩)] p ∧ CluP (transitR (fsts l) (fstx net) ⟨kind, node, at_, data⟩) p := by
  have er : transitR (fsts l) (fstx net) ⟨kind, node, at_, data⟩ = (([], []), 9) := by
    have c : (at_ < 0 ∨ ((fstx net).length : Int) ≤ at_) := by rw [fstx_length]; exact h0
    simp only [transitR, if_pos c]
  rw [er]
  have sl := (small_of hv).1
  have d1 := ps_deliverN net sl b at_ h0
  have d2 := ps_dropN net sl b at_ h0
  have d3 := ps_dupN net sl b at_ h0
  refine PS_any (af := a34) rfl rfl ?_
  unfold a34
  dsimp only [List.map, ofPV, initEnv, evC]
  rcases hk with rfl | rfl | rfl
  · repeat' (first | exact d1 | (simp (disch := omega) only [go_sem, seval, reduceCtorEq, xC, zeroXF]) | with_reducible exact Ev.mk | apply x_call | ((first | apply x_split | apply x_splitg) <;> intro hβ hb <;> (try simp only [hβ]) <;> clear hβ))
    exact ⟨_, rfl, CluP.zero 9⟩
  · repeat' (first | exact d2 | (simp (disch := omega) only [go_sem, seval, reduceCtorEq]) | with_reducible exact Ev.mk | apply x_call | ((first | apply x_split | apply x_splitg) <;> intro hβ hb <;> (try simp only [hβ]) <;> clear hβ))
    exact ⟨_, rfl, CluP.zero 9⟩
  · repeat' (first | exact d3 | (simp (disch := omega) only [go_sem, seval, reduceCtorEq]) | with_reducible exact Ev.mk | apply x_call | ((first | apply x_split | apply x_splitg) <;> intro hβ hb <;> (try simp only [hβ]) <;> clear hβ))
    exact ⟨_, rfl, CluP.zero 9⟩

theorem ps_transit (hk : kind = 4 ∨ kind = 5 ∨ kind = 6) : ∃ p, PS tb 34 [.agg [.slice a (memPV l), .slice b (netPV net)], .agg (evC ⟨kind, node, at_, data⟩)] p ∧ CluP (transitR (fsts l) (fstx net) ⟨kind, node, at_, data⟩) p := by
  by_cases h0 : at_ < 0 ∨ (net.length : Int) ≤ at_
  · exact ps_trN l a net b kind node at_ data hv hk h0
  · rcases hk with h | h | h
    · exact ps_tr4 l a net b kind node at_ data hv h (by omega) (by omega)
    · exact ps_tr5 l a net b kind node at_ data hv h (by omega) (by omega)
    · by_cases hf : net.length < 256
      · exact ps_tr6 l a net b kind node at_ data hv h (by omega) (by omega) hf
      · exact ps_trF l a net b kind node at_ data hv h (by omega) (by omega) (by omega)

end

end Go.Dv.Tryz
