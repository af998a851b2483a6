/-
  Specifications of the functions of this claim, parts 23, 43, 10, 24, 12, 13, 14, 15.
-/
import Derived.Test.YtpjpnooiofegoaaTab
import Derived.Test.YtpjpnooiofegoaaStep
import Derived.Test.YtpjpnooiofegoaaS1
import Derived.Test.YtpjpnooiofegoaaS7
import Derived.Test.YtpjpnooiofegoaaS12
import Derived.Test.YtpjpnooiofegoaaS16
import Derived.Test.YtpjpnooiofegoaaS17
import Derived.Test.YtpjpnooiofegoaaS18
import Derived.Test.YtpjpnooiofegoaaS24
import Derived.Test.YtpjpnooiofegoaaS32
import Derived.Test.YtpjpnooiofegoaaS33
import Derived.Test.YtpjpnooiofegoaaS37
import Derived.Test.YtpjpnooiofegoaaS42
import Derived.Test.YtpjpnooiofegoaaS46
import Derived.Test.YtpjpnooiofegoaaS49
import Derived.Test.YtpjpnooiofegoaaS52
set_option linter.unusedVariables false
set_option linter.unusedSimpArgs false
set_option maxRecDepth 100000
set_option maxHeartbeats 16000000
namespace Go.Dv.Try
open Go Go.Dv

/-- Where the count of equal items stops, the items differ or the log ends. -/
theorem sameN_stop (log : List It) : ∀ (l : List It) (k : Nat), ∀ y z, log[k + sameN log k l]? = some y → l[sameN log k l]? = some z → sameIt y z = false := by
  intro l
  induction l with
  | nil => intro k y z _ hz; simp at hz
  | cons a r ih =>
    intro k y z hy hz
    unfold sameN at hy hz
    cases hl : log[k]? with
    | none =>
      rw [hl] at hy hz
      simp only [Nat.add_zero] at hy
      rw [hl] at hy; cases hy
    | some b =>
      rw [hl] at hy hz
      simp only at hy hz
      cases hs : sameIt b a with
      | false =>
        rw [hs] at hy hz
        simp only [Bool.false_eq_true, if_false, Nat.add_zero, List.getElem?_cons_zero] at hy hz
        rw [hl] at hy
        cases hy; cases hz
        exact hs
      | true =>
        rw [hs] at hy hz
        simp only [if_true, List.getElem?_cons_succ] at hy hz
        refine ih (k + 1) y z ?_ hz
        rw [← hy]
        congr 1
        omega

theorem sameIt_eq {y z : It} (h : sameIt y z = true) : y = z := by
  simp only [sameIt, Bool.and_eq_true, beq_iff_eq] at h
  refine Prod.ext h.1 ?_
  have e2 := h.2
  rw [ByteArray.toList_eq, ByteArray.toList_eq] at e2
  exact ByteArray.ext (Array.toList_inj.1 e2)

section

variable {n : Nat} {g : List M} {S : List X} {E : List Ev} {LL : Int → List It} {Ld : Int → Option Int} {A : List Ack} {VL CL : Int → Int → List It}

/-- What an append makes of a log: the leader's first items, or it stays and has them. -/
theorem logX_eq (h : Raft n g S E LL Ld) {i : Nat} {m : M} (hi : g[i]? = some m) {b : M} (hb : b.log = m.log) {x : X} (hx : Piece LL Ld x) (i0 : 0 ≤ x.index) (hm : missX b x = false) :
    x.index.toNat + x.items.length ≤ (LL x.term).length ∧ (logX b x).take (x.index.toNat + x.items.length) = (LL x.term).take (x.index.toNat + x.items.length) ∧
    (logX b x = m.log ∨ (logX b x = (LL x.term).take (x.index.toNat + x.items.length) ∧ ∀ k, x.index.toNat + x.items.length < k → k ≤ (LL x.term).length → m.log.take k ≠ (LL x.term).take k)) := by
  have gm := h.good i m hi
  obtain ⟨⟨c, hc⟩, p1, p2, p3⟩ := hx
  have gR := h.goodL _ _ hc
  simp only [missX, hb, Bool.or_eq_false_iff, Bool.and_eq_false_iff, decide_eq_false_iff_not] at hm
  obtain ⟨m1, m2⟩ := hm
  have hlen : x.items.length ≤ (LL x.term).length - x.index.toNat := by
    have := congrArg List.length p3
    rw [List.length_take, List.length_drop] at this
    omega
  have hlen2 : x.index.toNat + x.items.length ≤ (LL x.term).length := by omega
  have pre : m.log.take x.index.toNat = (LL x.term).take x.index.toNat := by
    by_cases z : x.index = 0
    · rw [z]; simp
    · have ht : termN m.log x.index = x.logTerm := by
        rcases m2 with e | e
        · exact absurd z (by simpa using e)
        · exact Decidable.not_not.1 e
      have k1 : (x.index - 1).toNat < m.log.length := by omega
      have k2 : (x.index - 1).toNat < (LL x.term).length := by omega
      have e1 : termN m.log x.index = m.log[(x.index - 1).toNat].1 := by rw [termN, if_neg z, itTerm_eq _ _ k1]
      have e2 : termN (LL x.term) x.index = (LL x.term)[(x.index - 1).toNat].1 := by rw [termN, if_neg z, itTerm_eq _ _ k2]
      have := good_match gm gR (List.getElem?_eq_getElem k1) (List.getElem?_eq_getElem k2) (by rw [← e1, ← e2, ht, p2])
      have e : (x.index - 1).toNat + 1 = x.index.toNat := by omega
      rw [e] at this
      exact this
  have sp := sameN_spec m.log x.items x.index.toNat
  have st := sameN_stop m.log x.items x.index.toNat
  have s1 := sameN_le m.log x.items x.index.toNat
  have s2 := sameN_log m.log x.items x.index.toNat (by omega)
  have es : sameX b x = sameN m.log x.index.toNat x.items := by unfold sameX; rw [hb]
  have item : ∀ j, j < x.items.length → x.items[j]? = (LL x.term)[x.index.toNat + j]? := by
    intro j hj
    have := congrArg (fun l => l[j]?) p3
    simp only [List.getElem?_take, if_pos hj, List.getElem?_drop] at this
    exact this
  -- the first items are the leader's
  have pre2 : m.log.take (x.index.toNat + sameN m.log x.index.toNat x.items) = (LL x.term).take (x.index.toNat + sameN m.log x.index.toNat x.items) := by
    refine List.ext_getElem? fun j => ?_
    rw [List.getElem?_take, List.getElem?_take]
    split
    · rename_i hj
      rcases Nat.lt_or_ge j x.index.toNat with hl | hl
      · have := congrArg (fun l => l[j]?) pre
        simp only [List.getElem?_take, if_pos hl] at this
        exact this
      · have hz : j - x.index.toNat < x.items.length := by omega
        obtain ⟨y, y1, y2⟩ := sp (j - x.index.toNat) x.items[j - x.index.toNat] (by omega) (List.getElem?_eq_getElem hz)
        have ej : x.index.toNat + (j - x.index.toNat) = j := by omega
        rw [ej] at y1
        have z1 := item _ hz
        rw [ej] at z1
        rw [y1, ← z1, List.getElem?_eq_getElem hz, sameIt_eq y2]
    · rfl
  unfold logX
  rw [es, hb]
  split
  · rename_i hs
    generalize hw : sameN m.log x.index.toNat x.items = w at *
    have all : m.log.take (x.index.toNat + w) ++ x.items.drop w = (LL x.term).take (x.index.toNat + x.items.length) := by
      rw [pre2]
      refine List.ext_getElem? fun j => ?_
      rw [List.getElem?_append]
      have hl : ((LL x.term).take (x.index.toNat + w)).length = x.index.toNat + w := by simp; omega
      rw [hl, List.getElem?_take]
      by_cases hj : j < x.index.toNat + w
      · rw [if_pos hj, if_pos hj, List.getElem?_take, if_pos (by omega)]
      · rw [if_neg hj, List.getElem?_drop, List.getElem?_take]
        have e : w + (j - (x.index.toNat + w)) = j - x.index.toNat := by omega
        rw [e]
        by_cases h2 : j < x.index.toNat + x.items.length
        · rw [if_pos h2, item _ (by omega)]
          congr 1; omega
        · rw [if_neg h2, List.getElem?_eq_none (by omega)]
    rw [all]
    refine ⟨hlen2, by rw [take_take_le _ (Nat.le_refl _)], .inr ⟨rfl, fun k hk hkl hP => ?_⟩⟩
    -- equal further on, yet the count stopped
    have hz : w < x.items.length := by omega
    have z1 := item w hz
    have y1 : m.log[x.index.toNat + w]? = (LL x.term)[x.index.toNat + w]? := by
      have := congrArg (fun l => l[x.index.toNat + w]?) hP
      simp only [List.getElem?_take] at this
      rw [if_pos (by omega), if_pos (by omega)] at this
      exact this
    rw [← z1, List.getElem?_eq_getElem hz] at y1
    have := st _ _ y1 (List.getElem?_eq_getElem hz)
    rw [sameIt_refl] at this
    cases this
  · rename_i hs
    have ew : sameN m.log x.index.toNat x.items = x.items.length := by omega
    rw [ew] at pre2
    exact ⟨hlen2, pre2, .inl rfl⟩

theorem Raft2.append (h : Raft2 n g S E LL Ld A VL CL) {i : Nat} {m : M} (hi : g[i]? = some m) {x : X} (hx : x ∈ S) : After2 n g S E LL Ld A i (appR m x).1 (appR m x).2.toList := by
  obtain ⟨ho, hid, hme⟩ := h.base.ok i m hi
  have gg := goes_app (x := x) ho
  have aft := h.base.append hi hx
  have dull : (appR m x).1.log = m.log → (appR m x).1.commit = m.commit → ((appR m x).1 = m ∨ (appR m x).1.role = 1) → (∀ y ∈ (appR m x).2.toList, y.ok = false) → After2 n g S E LL Ld A i (appR m x).1 (appR m x).2.toList := by
    intro e1 e2 e3 e4
    refine h.still hi aft e1 (.inl e2) gg.term (fun ha hr => ?_) (fun y hy e => by have := app_kind hy; omega) (fun y hy _ => e4 y hy) (fun y hy e => by have := app_kind hy; omega)
    rcases e3 with e | e
    · rw [e]; exact ⟨rfl, rfl⟩
    · omega
  by_cases c1 : concernsX m x 3 = false
  · have e : appR m x = (m, none) := if_pos c1
    rw [e] at dull ⊢
    exact dull rfl rfl (.inl rfl) (by simp)
  · by_cases c2 : x.term < m.term
    · have e : appR m x = (m, some (replyX m x.frm 0 false)) := by unfold appR; rw [if_neg c1, if_pos c2]
      rw [e] at dull ⊢
      exact dull rfl rfl (.inl rfl) (by simp [replyX])
    · by_cases c3 : (app1 m x).role = 3
      · have e0 : app1 m x = m := by
          unfold app1 at c3 ⊢
          split
          · rename_i hu; rw [if_pos hu] at c3; have c3 : (1 : Int) = 3 := c3; omega
          · rfl
        have e : appR m x = (m, none) := by unfold appR; rw [if_neg c1, if_neg c2, if_pos c3, e0]
        rw [e] at dull ⊢
        exact dull rfl rfl (.inl rfl) (by simp)
      · have e : appR m x = app3 (app2 m x) x := by unfold appR; rw [if_neg c1, if_neg c2, if_neg c3]
        obtain ⟨a1, a2, a3, a4⟩ := app2_eqs m x
        by_cases c4 : missX (app2 m x) x = true
        · have e' : appR m x = (app2 m x, some (replyX (app2 m x) x.frm (mn (app2 m x).log.length (x.index - 1)) false)) := by rw [e]; unfold app3; rw [if_pos c4]
          rw [e'] at dull ⊢
          exact dull a1 a2 (.inr a3) (by simp [replyX])
        · by_cases c5 : fullX (app2 m x) x = true
          · have e' : appR m x = (app2 m x, none) := by rw [e]; unfold app3; rw [if_neg c4, if_pos c5]
            rw [e'] at dull ⊢
            exact dull a1 a2 (.inr a3) (by simp)
          · have e' : appR m x = (app4 (app2 m x) x, some (replyX (app4 (app2 m x) x) x.frm (x.index + (x.items.length : Int)) true)) := by rw [e]; unfold app3; rw [if_neg c4, if_neg c5]
            have hc1 : concernsX m x 3 = true := by simpa using c1
            obtain ⟨k1, k2, k3, k4⟩ := concerns_ok hc1
            have fx := okX_facts k2
            have i0 : 0 ≤ x.index := fx.2.2.2.2.2.2.2.2.2.1
            have pc := h.base.app x hx k4
            have hT : (appR m x).1.term = x.term := by
              rw [e']
              show (app1 m x).term = x.term
              unfold app1
              split
              · rfl
              · omega
            have hrole : (appR m x).1.role = 1 := by rw [e']; exact a3
            have hL : (appR m x).1.log = logX (app2 m x) x := by rw [e']; rfl
            obtain ⟨g1, g2, g3⟩ := logX_eq h.base hi a1 pc i0 (by simpa using c4)
            rw [← hL] at g2 g3
            have s := h.base.appendS hi hx
            have hpre := gg.pre
            have hterm := gg.term
            have hmid : (appR m x).1.id = m.id := gg.id
            have hcom : (appR m x).1.commit = mx m.commit (mn x.commit (x.index + (x.items.length : Int))) := by rw [e']; show mx (app2 m x).commit _ = _; rw [a2]
            have hrep : (appR m x).2.toList = [replyX (appR m x).1 x.frm (x.index + (x.items.length : Int)) true] := by rw [e']; rfl
            obtain ⟨⟨c, hc⟩, _⟩ := pc
            generalize (appR m x).2.toList = O at *
            generalize (appR m x).1 = a at *
            have gmi := gm_at h hi
            have t0 : ∀ v, (fun v => (gm g v).term) v ≤ upd (fun v => (gm g v).term) m.id a.term v := by
              intro v
              unfold upd
              split
              · rename_i e; subst e; show (gm g m.id).term ≤ a.term; rw [gmi]; exact hterm
              · exact Int.le_refl _
            have A0 := h.abs.bump t0
            have tv : upd (fun v => (gm g v).term) m.id a.term m.id = a.term := upd_self _ _ _
            have lv : (fun v => (gm g v).log) m.id = m.log := congrArg M.log gmi
            have m1 := (h.abs.m1 m.id).1
            simp only [gmi] at m1
            have b4 := (h.abs.l1 _ _ hc).2.2.2.1
            have A1 := A0.app (v := m.id) (c := c) (l := a.log) (by rw [tv, hT]; exact hc) (by
              rw [tv, hT]
              intro k hk hP
              have hP : (gm g m.id).log.take k = (LL x.term).take k := hP
              rw [gmi] at hP
              rcases g3 with q | ⟨q1, q2⟩
              · rw [q]; exact hP
              · by_cases hkN : x.index.toNat + x.items.length < k
                · exact absurd hP (q2 k hkN hk)
                · rw [q1, take_take_le _ (by omega)]) s.good (by
              rw [tv]
              intro z hz
              rcases g3 with q | ⟨q1, q2⟩
              · rw [q] at hz; have := m1 z hz; omega
              · rw [q1] at hz; have := b4 z (List.mem_of_mem_take hz); omega)
            have A2 := A1.ack (v := m.id) (c := c) (K := x.index.toNat + x.items.length) (by rw [tv, hT]; exact hc) (by rw [tv, hT]; exact g1) (by rw [tv, hT, upd_self]; exact g2)
            rw [tv, hT] at A2
            have ei : (x.index + (x.items.length : Int)).toNat = x.index.toNat + x.items.length := by omega
            refine ⟨[], LL, Ld, [(m.id, x.term, x.index.toNat + x.items.length)], VL, CL, h.step hi s (by rw [List.append_nil, hT]; exact A2) (fun _ _ _ => rfl) (fun hr => by omega) (fun y hy e => ?_) (by simp) (fun y hy _ _ => ?_) (fun hr => by omega) ?_ (fun y hy e => ?_), s.ext⟩
            · rw [hrep] at hy; simp only [List.mem_singleton] at hy; subst hy; have e : (4 : Int) = 1 := e; omega
            · rw [hrep] at hy; simp only [List.mem_singleton] at hy; subst hy
              refine List.mem_append.2 (.inr ?_)
              show (a.id, a.term, (x.index + (x.items.length : Int)).toNat) ∈ _
              rw [hmid, hT, ei]; simp
            · rw [hcom]
              unfold mx
              split
              · rename_i hlt
                have q := h.ca x hx k4
                refine cmt_mono s.ext (by omega) ?_ (cmt_le (d := (mn x.commit (x.index + (x.items.length : Int))).toNat) (by unfold mn; split <;> omega) q)
                have := congrArg (List.take (mn x.commit (x.index + (x.items.length : Int))).toNat) g2
                rw [take_take_le _ (by unfold mn; split <;> omega), take_take_le _ (by unfold mn; split <;> omega)] at this
                exact this
              · exact cmt_mono s.ext hterm hpre (h.cm i m hi)
            · rw [hrep] at hy; simp only [List.mem_singleton] at hy; subst hy; have e : (4 : Int) = 3 := e; omega

/-- Whatever a member receives. -/
theorem Raft2.receive (h : Raft2 n g S E LL Ld A VL CL) {i : Nat} {m : M} (hi : g[i]? = some m) {x : X} (hx : x ∈ S) : After2 n g S E LL Ld A i (receiveR m x).1 (receiveR m x).2.toList := by
  obtain ⟨ho, hid, hme⟩ := h.base.ok i m hi
  unfold receiveR
  split
  · exact h.vote hi hx
  · split
    · exact h.count hi hx
    · split
      · exact h.append hi hx
      · split
        · exact h.acked hi hx
        · exact h.still hi (h.base.quiet hi (Keeps.refl ho) fun _ => ⟨rfl, rfl, rfl⟩) rfl (.inl rfl) (Int.le_refl _) (fun _ _ => ⟨rfl, rfl⟩) (by simp) (by simp) (by simp)

end

def strPV (s : ByteArray) : List PV := [.str s]

def strsPV (l : List ByteArray) : List (List PV) := l.map strPV

theorem strsPV_length (l : List ByteArray) : (strsPV l).length = l.length := by simp [strsPV]

theorem strsPV_sz (l : List ByteArray) : allSz 1 (strsPV l) = true := by simp [allSz, strsPV, strPV]

theorem strsPV_append (a b : List ByteArray) : strsPV a ++ strsPV b = strsPV (a ++ b) := by simp [strsPV]

theorem strsPV_take (a : List ByteArray) (n : Nat) : (strsPV a).take n = strsPV (a.take n) := by simp [strsPV, List.map_take]

theorem strsPV_sing (s : ByteArray) : [[PV.str s]] = strsPV [s] := rfl

def dataL (l : List (Int × ByteArray)) : List ByteArray := l.map (·.2)

theorem dataL_len (l : List (Int × ByteArray)) : (dataL l).length = l.length := by simp [dataL]

theorem dataL_step (l : List (Int × ByteArray)) (i : Nat) (h : i < l.length) : dataL (l.take (i + 1)) = dataL (l.take i) ++ [l[i].2] := by
  unfold dataL
  rw [List.take_add_one, List.map_append, List.getElem?_eq_getElem h]
  rfl

/-- How many items are committed. -/
def comN (m : M) : Nat := (max (min m.commit m.log.length) 0).toNat

def comL (m : M) : List ByteArray := dataL (m.log.take (comN m))

theorem comN_le (m : M) : comN m ≤ m.log.length := by unfold comN; omega

theorem l57 (l : List (Int × ByteArray)) (b : Bool) (hl : l.length ≤ 100000) (K : Ex → St → Prop)
    (hx : K (.exit 0) ⟨[(3, .ref 1 (dataL l).length 0 (dataL l).length)], [(1, .row false 1 (strsPV (dataL l)))], 2, [0]⟩) : ∀ (n i : Nat), i + n = l.length →
    W tb a32_l0 ⟨[(3, .ref 1 (dataL (l.take i)).length 0 (dataL (l.take i)).length), (15, .p (.slice b (itemsPV l))), (16, .p (.int .i64 l.length)), (17, .p (.int .i64 i))], [(1, .row false 1 (strsPV (dataL (l.take i))))], 2, [0]⟩ (LK tb (.ghost (.free [1, 5]) (.ghost .lower a32_l0)) K) := by
  intro n
  induction n with
  | zero =>
    intro i hi
    have h1 : ¬ (i : Int) < l.length := by omega
    rw [List.take_of_length_le (by omega)]
    refine i_code (by unfold a32_l0; exact rfl) ?_
    repeat' (first | (simp (maxSteps := 2000000) (disch := omega) only [go_sem, seval, reduceCtorEq, h1, itemsPV_length]) | with_reducible exact Ev.mk | ((first | apply x_split | apply x_splitg) <;> intro hβ hb <;> (simp (maxSteps := 2000000) (disch := omega) only [go_sem, seval, reduceCtorEq, h1, itemsPV_length, hβ]) <;> clear hβ))
    exact hx
  | succ n ih =>
    intro i hi
    have h1 : (i : Int) < l.length := by omega
    have h2 : i < l.length := by omega
    have h3 := itemsPV_get l i h2
    have h4 : (0 : Int) ≤ i := by omega
    have h5 : (l.take i).length ≤ 100000 := by simp; omega
    have h6 := dataL_len (l.take i)
    have ih := ih (i + 1) (by omega)
    rw [dataL_step l i h2] at ih
    simp only [List.length_append, List.length_cons, List.length_nil, Nat.zero_add] at ih
    refine i_code (by unfold a32_l0; exact rfl) ?_
    repeat' (first | (simp (maxSteps := 2000000) (disch := omega) only [go_sem, seval, reduceCtorEq, h1, h3, h4, itemPV, itemsPV_length, strsPV_sing, strsPV_sz, strsPV_append, strsPV_length, List.take_length, List.length_append, maxB, h6]) | with_reducible exact Ev.mk | ((first | apply x_split | apply x_splitg) <;> intro hβ hb <;> (simp (maxSteps := 2000000) (disch := omega) only [go_sem, seval, reduceCtorEq, h1, h3, h4, itemPV, itemsPV_length, strsPV_sing, strsPV_sz, strsPV_append, strsPV_length, List.take_length, List.length_append, maxB, h6, hβ]) <;> clear hβ))
    refine i_lk (W_round ?_)
    (try simp (maxSteps := 2000000) (disch := omega) only [go_sem, seval, reduceCtorEq])
    rw [h6] at ih
    exact ih

theorem ps57 (m : M) (f : Fl) (hl0 : m.log.length ≤ 10000) : PS tb 32 [.agg (mC m f)] (.slice false (strsPV (comL m))) := by
  have c0 := comN_le m
  have hk : (max (min m.commit m.log.length) 0) = (comN m : Int) := by unfold comN; omega
  have e1 : (if (if (m.log.length : Int) < m.commit then (m.log.length : Int) else m.commit) < 0 then (0 : Int) else (if (m.log.length : Int) < m.commit then (m.log.length : Int) else m.commit)) = (comN m : Int) := by
    rw [← hk]; split <;> split <;> omega
  have c1 : (comN m : Int) ≤ m.log.length := by omega
  have c2 : (0 : Int) ≤ (comN m : Int) := by omega
  have c3 : (m.log.take (comN m)).length = comN m := by simp; omega
  have c4 : (dataL (m.log.take (comN m))).length = comN m := by rw [dataL_len, c3]
  have c5 : (dataL (m.log.take (comN m))).take (comN m) = dataL (m.log.take (comN m)) := List.take_of_length_le (by omega)
  have loop := fun b => l57 (m.log.take (comN m)) b (by omega)
  rw [c3] at loop
  refine PS_of (af := a32) rfl rfl ?_
  unfold a32
  dsimp only [List.map, ofPV, initEnv]
  unfold comL
  repeat' (first | (simp (maxSteps := 2000000) (disch := omega) only [go_sem, seval, reduceCtorEq, mC, e1, c1, c2, itemsPV_length, itemsPV_sz, itemsPV_take, c3]) | with_reducible exact Ev.mk | ((first | apply x_split | apply x_splitg) <;> intro hβ hb <;> (simp (maxSteps := 2000000) (disch := omega) only [go_sem, seval, reduceCtorEq, mC, e1, c1, c2, itemsPV_length, itemsPV_sz, itemsPV_take, c3, hβ]) <;> clear hβ))
  refine W_round ?_
  (try simp (maxSteps := 2000000) (disch := omega) only [go_sem, seval, reduceCtorEq, mC])
  refine loop _ _ ?_ (comN m) 0 (Nat.zero_add _)
  (try simp (maxSteps := 2000000) (disch := omega) only [go_sem, seval, reduceCtorEq, c4])
  all_goals first | rfl | ((try simp (maxSteps := 2000000) (disch := omega) only [go_sem, seval, reduceCtorEq, c4, c5, strsPV_length, strsPV_take]) <;> rfl)

theorem strsPV_getQ (l : List ByteArray) (i : Nat) (h : i < l.length) : (strsPV l)[i]? = some [.str l[i]] := by simp [strsPV, strPV, h]

theorem strNeQ (a : ByteArray) : bytesCmp .neq a a = some (.bool false) := by simp [bytesCmp]

def comsOf (l : List (M × Fl)) : List (List ByteArray) := l.map fun t => comL t.1

theorem comsOf_step (l : List (M × Fl)) (i : Nat) (h : i < l.length) : comsOf (l.take i) ++ [comL l[i].1] = comsOf (l.take (i + 1)) := by
  rw [List.take_add_one, List.getElem?_eq_getElem h]
  simp only [comsOf, List.map_append, List.map_cons, List.map_nil, Option.toList]

theorem comL_le {m : M} (h : m.log.length ≤ 256) : (comL m).length ≤ 100000 := by
  have := comN_le m
  unfold comL; rw [dataL_len]; simp; omega

theorem good_nilQ {LL : Int → List It} {Ld : Int → Option Int} : Good LL Ld [] := by
  intro k x hx
  simp at hx

theorem newMs_ok (n : Nat) (h1 : 1 ≤ n) (h7 : n ≤ 7) {i : Nat} {m : M} (h : (newMs n)[i]? = some m) : okM m = true ∧ m.id = ((i + 1 : Nat) : Int) ∧ m.members = (n : Nat) := by
  obtain ⟨a, b, c, d, _⟩ := okC_facts (okC_new n h1 h7)
  have := d i m h
  rw [newMs_length] at this
  exact ⟨this.2.2, this.1, this.2.1⟩

theorem newMs_gm (n : Nat) (v : Int) : (gm (newMs n) v).log = [] ∧ (gm (newMs n) v).commit = 0 := by
  unfold gm
  split
  · rw [List.getD_eq_getElem?_getD]
    cases h : (newMs n)[(v - 1).toNat]? with
    | none => exact ⟨rfl, rfl⟩
    | some m =>
      obtain ⟨_, rfl⟩ := newMs_get _ _ _ h
      exact ⟨rfl, rfl⟩
  · exact ⟨rfl, rfl⟩

theorem Raft2.init (n : Nat) (h1 : 1 ≤ n) (h7 : n ≤ 7) : Raft2 n (newMs n) [] [] (fun _ => []) (fun _ => none) [] (fun _ _ => []) (fun _ _ => []) := by
  have role : ∀ (i : Nat) m, (newMs n)[i]? = some m → m.role = 1 ∧ m.log = [] ∧ m.commit = 0 := by
    intro i m h
    obtain ⟨_, rfl⟩ := newMs_get _ _ _ h
    exact ⟨rfl, rfl, rfl⟩
  refine ⟨⟨h1, newMs_length n, fun i m h => newMs_ok n h1 h7 h, by simp, by simp, by simp, by simp, fun i m h hr => ?_, fun i m h hr => ?_, fun t c h => (by cases h), fun i m h => ?_, fun t c h => (by cases h), by simp⟩,
    ⟨h1, by simp, by simp, by simp, fun u c h => (by cases h), by simp, fun t c h => (by cases h), fun v => ?_⟩, fun i m h hr => ?_, by simp, by simp, by simp, fun i m h hr => ?_, fun i m h => ?_, by simp⟩
  · have := (role i m h).1; omega
  · have := (role i m h).1; omega
  · rw [(role i m h).2.1]; exact good_nilQ
  · rw [(newMs_gm n v).1]; exact ⟨by simp, good_nilQ⟩
  · have := (role i m h).1; omega
  · have := (role i m h).1; omega
  · rw [(role i m h).2.2]; exact .inl rfl

/-- What is so of a group and the messages in transit. -/
def RInv (n : Nat) (c : List M × List X) (LL : Int → List It) (Ld : Int → Option Int) (A : List Ack) : Prop := ∃ S E VL CL, Raft2 n c.1 S E LL Ld A VL CL ∧ ∀ x ∈ c.2, x ∈ S

theorem RInv.of {n : Nat} {c c' : List M × List X} {S : List X} {E : List Ev} {LL : Int → List It} {Ld : Int → Option Int} {A : List Ack} {i : Nat} {a : M} {O : List X} (k : After2 n c.1 S E LL Ld A i a O) (h1 : c'.1 = c.1.set i a) (h2 : ∀ x ∈ c'.2, x ∈ S ∨ x ∈ O) :
    ∃ LL' Ld' A', RInv n c' LL' Ld' A' ∧ ∀ l k u, Cmt n LL Ld A l k u → Cmt n LL' Ld' A' l k u := by
  obtain ⟨E', LL', Ld', B, VL', CL', r, ext⟩ := k
  refine ⟨LL', Ld', A ++ B, ⟨_, _, _, _, h1 ▸ r, fun x hx => List.mem_append.2 (h2 x hx)⟩, fun l k u hc => cmt_mono ext (Int.le_refl _) rfl hc⟩

theorem RInv.still {n : Nat} {c c' : List M × List X} {S : List X} {E : List Ev} {LL : Int → List It} {Ld : Int → Option Int} {A : List Ack} {VL CL : Int → Int → List It} (r : Raft2 n c.1 S E LL Ld A VL CL) (h1 : c'.1 = c.1) (h2 : ∀ x ∈ c'.2, x ∈ S) :
    ∃ LL' Ld' A', RInv n c' LL' Ld' A' ∧ ∀ l k u, Cmt n LL Ld A l k u → Cmt n LL' Ld' A' l k u :=
  ⟨LL, Ld, A, ⟨S, E, VL, CL, h1 ▸ r, h2⟩, fun _ _ _ h => h⟩

theorem mem_sendR {net q : List X} {x : X} (h : x ∈ sendR net q) : x ∈ net ∨ x ∈ q := List.mem_append.1 (List.mem_of_mem_take h)

theorem mem_delX {net : List X} {k : Nat} {x : X} (h : x ∈ delX net k) : x ∈ net := by
  rcases List.mem_append.1 h with e | e
  · exact List.mem_of_mem_take e
  · exact List.mem_of_mem_drop e

theorem RInv.step {n : Nat} {c : List M × List X} {LL : Int → List It} {Ld : Int → Option Int} {A : List Ack} (h : RInv n c LL Ld A) (e : Evt) :
    ∃ LL' Ld' A', RInv n (stepR c e) LL' Ld' A' ∧ ∀ l k u, Cmt n LL Ld A l k u → Cmt n LL' Ld' A' l k u := by
  obtain ⟨S, E, VL, CL, r, hn⟩ := h
  unfold stepR
  split
  · rename_i hz
    unfold evR at hz ⊢
    split
    · rename_i h1; rw [if_pos h1] at hz; cases hz
    · rename_i h1
      rw [if_neg h1] at hz
      have hv : okC c.1 c.2 = true := by
        cases q : okC c.1 c.2
        · exact absurd (.inl q) h1
        · rfl
      obtain ⟨v1, v2, v3, v4, v5⟩ := okC_facts hv
      split
      · rename_i h2
        rw [if_pos h2] at hz
        unfold transitR at hz ⊢
        split
        · rename_i h3; rw [if_pos h3] at hz; cases hz
        · rename_i h3
          rw [if_neg h3] at hz
          have hk : e.at_.toNat < c.2.length := by omega
          have hX : c.2.getD e.at_.toNat zeroXF ∈ c.2 := by rw [List.getD_eq_getElem?_getD, List.getElem?_eq_getElem hk]; exact List.getElem_mem hk
          have fx := okX_facts (v5 _ hX)
          split
          · have hio : ((c.2.getD e.at_.toNat zeroXF).to - 1).toNat < c.1.length := by omega
            have hget : c.1.getD ((c.2.getD e.at_.toNat zeroXF).to - 1).toNat zeroM = c.1[((c.2.getD e.at_.toNat zeroXF).to - 1).toNat] := by rw [List.getD_eq_getElem?_getD, List.getElem?_eq_getElem hio]; rfl
            have k := r.receive (List.getElem?_eq_getElem hio) (hn _ hX)
            rw [hget]
            refine RInv.of k rfl (fun x hx => ?_)
            rcases mem_sendR hx with q | q
            · exact .inl (hn x (mem_delX q))
            · exact .inr q
          · split
            · refine RInv.still r rfl (fun x hx => ?_)
              rcases mem_sendR hx with q | q
              · exact hn x (mem_delX q)
              · simp at q
            · split
              · rename_i h4 h5 h6
                rw [if_neg h4, if_neg h5, if_pos h6] at hz; cases hz
              · refine RInv.still r rfl (fun x hx => ?_)
                rcases mem_sendR hx with q | q
                · rcases List.mem_append.1 q with q | q
                  · exact hn x q
                  · simp only [List.mem_singleton] at q; subst q; exact hn _ hX
                · simp at q
      · rename_i h2
        rw [if_neg h2] at hz
        split
        · rename_i h3; rw [if_pos h3] at hz; cases hz
        · rename_i h3
          rw [if_neg h3] at hz
          split
          · rename_i h4
            have hio : (e.node - 1).toNat < c.1.length := by omega
            have hget : c.1.getD (e.node - 1).toNat zeroM = c.1[(e.node - 1).toNat] := by rw [List.getD_eq_getElem?_getD, List.getElem?_eq_getElem hio]; rfl
            have hi := List.getElem?_eq_getElem hio
            rw [hget] at h4 ⊢
            have fin : ∀ {a : M} {O : List X}, After2 n c.1 S E LL Ld A (e.node - 1).toNat a O → ∃ LL' Ld' A', RInv n (c.1.set (e.node - 1).toNat a, sendR c.2 O) LL' Ld' A' ∧ ∀ l k u, Cmt n LL Ld A l k u → Cmt n LL' Ld' A' l k u := by
              intro a O k
              refine RInv.of k rfl (fun x hx => ?_)
              rcases mem_sendR hx with q | q
              · exact .inl (hn x q)
              · exact .inr q
            unfold nodeR at h4 ⊢
            split
            · exact fin (r.timeout hi)
            · rename_i k1
              rw [if_neg k1] at h4
              split
              · exact fin (r.beat hi)
              · rename_i k2
                rw [if_neg k2] at h4
                split
                · rename_i k3
                  rw [if_pos k3] at h4
                  have h4 : errP c.1[(e.node - 1).toNat] e.data = 0 := h4
                  rw [if_pos h4]
                  exact fin (r.propose hi h4)
                · exact fin (r.restart hi)
          · rename_i h4; rw [if_neg h4] at hz; exact absurd hz h4
  · exact ⟨LL, Ld, A, ⟨S, E, VL, CL, r, hn⟩, fun _ _ _ h => h⟩

theorem RInv.run {n : Nat} : ∀ (l : List Evt) {c : List M × List X} {LL : Int → List It} {Ld : Int → Option Int} {A : List Ack}, RInv n c LL Ld A →
    ∃ LL' Ld' A', RInv n (runR c l) LL' Ld' A' ∧ ∀ l k u, Cmt n LL Ld A l k u → Cmt n LL' Ld' A' l k u
  | [], c, LL, Ld, A, h => ⟨LL, Ld, A, h, fun _ _ _ h => h⟩
  | e :: r, c, LL, Ld, A, h => by
    obtain ⟨LL1, Ld1, A1, h1, k1⟩ := h.step e
    obtain ⟨LL2, Ld2, A2, h2, k2⟩ := RInv.run r h1
    exact ⟨LL2, Ld2, A2, h2, fun l k u hc => k2 l k u (k1 l k u hc)⟩

theorem RInv.new (n : Nat) (h1 : 1 ≤ n) (h7 : n ≤ 7) : RInv n (newMs n, []) (fun _ => []) (fun _ => none) [] := ⟨_, _, _, _, Raft2.init n h1 h7, by simp⟩

theorem comN_ok {m : M} (h : okM m = true) : comN m = m.commit.toNat ∧ m.commit.toNat ≤ m.log.length := by
  have hh := ((okM_iff m).1 h).1
  have := hh.co1; have := hh.co2
  unfold comN
  omega

theorem comL_len {m : M} (h : okM m = true) : (comL m).length = m.commit.toNat := by
  obtain ⟨a, b⟩ := comN_ok h
  unfold comL
  rw [dataL_len, List.length_take, a]
  omega

theorem comL_take {m : M} (h : okM m = true) {k : Nat} (hk : k ≤ m.commit.toNat) : (comL m).take k = dataL (m.log.take k) := by
  obtain ⟨a, b⟩ := comN_ok h
  unfold comL dataL
  rw [a, ← List.map_take, take_take_le _ hk]

/-- One leader in a term; a leader of the greatest term has what any member has committed. -/
theorem runs_lead (n : Nat) (h1 : 1 ≤ n) (h7 : n ≤ 7) (l : List Evt) : (∀ (i : Nat) (m : M) (j : Nat) (p : M), (runR (newMs n, []) l).1[i]? = some m → (runR (newMs n, []) l).1[j]? = some p → m.role = 3 → p.role = 3 → m.term = p.term → i = j) ∧
    ∀ m p : M, m ∈ (runR (newMs n, []) l).1 → p ∈ (runR (newMs n, []) l).1 → m.role = 3 → p.term ≤ m.term → (comL p).length ≤ m.log.length ∧ comL p = dataL (m.log.take (comL p).length) := by
  obtain ⟨LL, Ld, A, ⟨S, E, VL, CL, R, _⟩, _⟩ := RInv.run l (RInv.new n h1 h7)
  refine ⟨fun i m j p hi hj hm hp ht => ?_, fun m p hm hp hr ht => ?_⟩
  · have a := (R.base.led i m hi hm).1
    have b := (R.base.led j p hj hp).1
    rw [ht, b] at a
    have := Option.some.inj a
    have c := (R.base.ok i m hi).2.1
    have d := (R.base.ok j p hj).2.1
    omega
  · obtain ⟨i, hi, rfl⟩ := List.getElem_of_mem hm
    obtain ⟨j, hj, rfl⟩ := List.getElem_of_mem hp
    have gi := List.getElem?_eq_getElem hi
    have gj := List.getElem?_eq_getElem hj
    generalize (runR (newMs n, []) l).1[i] = m at *
    generalize (runR (newMs n, []) l).1[j] = p at *
    obtain ⟨l1, l2⟩ := R.base.led i m gi hr
    have okp := (R.base.ok j p gj).1
    have q : m.log.take p.commit.toNat = p.log.take p.commit.toNat := by
      rcases R.cm j p gj with e | ⟨t, k, c1, c2, c3, c4⟩
      · rw [e]; simp
      · rw [c4, l2]
        rcases Int.lt_or_eq_of_le (Int.le_trans c3 ht) with e | e
        · have := congrArg (List.take p.commit.toNat) (R.abs.later c1 e l1)
          rw [take_take_le _ c2, take_take_le _ c2] at this
          exact this
        · rw [e]
    have le := (comN_ok okp).2
    have ll : p.commit.toNat ≤ m.log.length := by
      have := congrArg List.length q
      rw [List.length_take, List.length_take] at this
      omega
    rw [comL_len okp]
    refine ⟨ll, ?_⟩
    rw [q]
    have := comL_take okp (Nat.le_refl _)
    rw [← this, ← comL_len okp, List.take_length]

theorem ps_cloneS (l : List ByteArray) (b : Bool) (h : l.length ≤ 100000) : PS tb 46 [.slice b (strsPV l)] (.slice false (strsPV l)) := by
  refine PS_out (show tab 46 = none from rfl) ?_
  show outside.pure 46 _ = _
  simp [outside, clones, cloneOf, strsPV_sz, strsPV_length, maxBytes]
  omega

/-- The longer of two lists, the first one if they are equally long. -/
def longer (b x : List ByteArray) : List ByteArray := if b.length < x.length then x else b

def bestOf (l : List (M × Fl)) : List ByteArray := (comsOf l).foldl longer []

theorem bestOf_step (l : List (M × Fl)) (i : Nat) (h : i < l.length) : bestOf (l.take (i + 1)) = longer (bestOf (l.take i)) (comL l[i].1) := by
  unfold bestOf
  rw [← comsOf_step l i h, List.foldl_append]
  rfl

theorem best_mem : ∀ (L : List (List ByteArray)) (b : List ByteArray), L.foldl longer b = b ∨ L.foldl longer b ∈ L
  | [], b => .inl rfl
  | x :: r, b => by
    rw [List.foldl_cons]
    rcases best_mem r (longer b x) with e | e
    · rw [e]
      unfold longer
      split
      · exact .inr (by simp)
      · exact .inl rfl
    · exact .inr (List.mem_cons_of_mem _ e)

theorem bestOf_le {l : List (M × Fl)} (h : ∀ t ∈ l, t.1.log.length ≤ 256) : (bestOf l).length ≤ 100000 := by
  rcases best_mem (comsOf l) [] with e | e
  · unfold bestOf; rw [e]; simp
  · obtain ⟨t, ht, he⟩ := List.mem_map.1 e
    unfold bestOf; rw [← he]
    exact comL_le (h t ht)

theorem l_qcom (l : List (M × Fl)) (a : Bool) (h7 : l.length ≤ 7) (h256 : ∀ t ∈ l, t.1.log.length ≤ 256) (K : Ex → St → Prop) (hx : ∀ w, K (.exit 0) ⟨[(3, .p (.slice w (strsPV (bestOf l))))], [], 0, [0]⟩) : ∀ (m i : Nat), i + m = l.length → ∀ w,
    W tb a22_l0 ⟨[(3, .p (.slice w (strsPV (bestOf (l.take i))))), (8, .p (.slice a (memPV l))), (9, .p (.int .i64 l.length)), (10, .p (.int .i64 i))], [], 0, [0]⟩ (LK tb (.ghost (.free [1, 5]) (.ghost .lower a22_l0)) K) := by
  intro m
  induction m with
  | zero =>
    intro i hi w
    have h1 : ¬ (i : Int) < l.length := by omega
    have e : i = l.length := by omega
    subst e
    rw [List.take_length]
    refine i_code (by unfold a22_l0; exact rfl) ?_
    repeat' (first | (simp (disch := omega) only [go_sem, seval, reduceCtorEq, h1]) | with_reducible exact Ev.mk | ((first | apply x_split | apply x_splitg) <;> intro hβ hb <;> (simp (disch := omega) only [go_sem, seval, reduceCtorEq, h1, hβ]) <;> clear hβ))
    exact hx w
  | succ m ih =>
    intro i hi w
    have h1 : (i : Int) < l.length := by omega
    have h2 : i < l.length := by omega
    have h4 : (0 : Int) ≤ i := by omega
    have h3 := memPV_get l i h2
    have hm := List.getElem_mem h2
    have q1 := ps57 l[i].1 l[i].2 (by have := h256 _ hm; omega)
    have e := bestOf_step l i h2
    refine i_code (by unfold a22_l0; exact rfl) ?_
    by_cases hb : (bestOf (l.take i)).length < (comL l[i].1).length
    · have h5 : ((bestOf (l.take i)).length : Int) < (comL l[i].1).length := by omega
      have e2 : bestOf (l.take (i + 1)) = comL l[i].1 := by rw [e]; exact if_pos hb
      repeat' (first | exact q1 | (simp (disch := omega) only [go_sem, seval, reduceCtorEq, h1, h3, h4, mC, strsPV_length, h5]) | with_reducible exact Ev.mk | apply x_call | ((first | apply x_split | apply x_splitg) <;> intro hβ hb <;> (simp (disch := omega) only [go_sem, seval, reduceCtorEq, h1, h3, h4, mC, strsPV_length, h5, hβ]) <;> clear hβ))
      refine i_lk (W_round ?_)
      (try simp (disch := omega) only [go_sem, seval, reduceCtorEq])
      have := ih (i + 1) (by omega) false
      rw [e2] at this
      exact this
    · have h5 : ¬ ((bestOf (l.take i)).length : Int) < (comL l[i].1).length := by omega
      have e2 : bestOf (l.take (i + 1)) = bestOf (l.take i) := by rw [e]; exact if_neg hb
      repeat' (first | exact q1 | (simp (disch := omega) only [go_sem, seval, reduceCtorEq, h1, h3, h4, mC, strsPV_length, h5]) | with_reducible exact Ev.mk | apply x_call | ((first | apply x_split | apply x_splitg) <;> intro hβ hb <;> (simp (disch := omega) only [go_sem, seval, reduceCtorEq, h1, h3, h4, mC, strsPV_length, h5, hβ]) <;> clear hβ))
      refine i_lk (W_round ?_)
      (try simp (disch := omega) only [go_sem, seval, reduceCtorEq])
      have := ih (i + 1) (by omega) w
      rw [e2] at this
      exact this

theorem ps_qcom (l : List (M × Fl)) (a : Bool) (net : List (X × Bool)) (b : Bool) (h7 : l.length ≤ 7) (h256 : ∀ t ∈ l, t.1.log.length ≤ 256) : PS tb 22 [.agg [.slice a (memPV l), .slice b (netPV net)]] (.slice false (strsPV (bestOf l))) := by
  have q := fun w => ps_cloneS (bestOf l) w (bestOf_le h256)
  have h0 : ([] : List (List PV)) = strsPV (bestOf (l.take 0)) := rfl
  refine PS_of (af := a22) rfl rfl ?_
  unfold a22
  dsimp only [List.map, ofPV, initEnv]
  repeat' (first | (simp (disch := omega) only [go_sem, seval, reduceCtorEq, memPV_length]) | with_reducible exact Ev.mk | ((first | apply x_split | apply x_splitg) <;> intro hβ hb <;> (simp (disch := omega) only [go_sem, seval, reduceCtorEq, memPV_length, hβ]) <;> clear hβ))
  refine W_round ?_
  (try simp (disch := omega) only [go_sem, seval, reduceCtorEq])
  refine l_qcom l a h7 h256 _ ?_ l.length 0 (by omega) true
  intro w
  repeat' (first | exact q w | (simp (disch := omega) only [go_sem, seval, reduceCtorEq]) | with_reducible exact Ev.mk | apply x_call | ((first | apply x_split | apply x_splitg) <;> intro hβ hb <;> (simp (disch := omega) only [go_sem, seval, reduceCtorEq, hβ]) <;> clear hβ))

def leH (l : List (M × Fl)) (a : Bool) (net : List (X × Bool)) (b : Bool) : Heap := [(0, .var false [.p (.slice a (memPV l)), .p (.slice b (netPV net))])]

def leM (l : List (M × Fl)) (a : Bool) (net : List (X × Bool)) (b : Bool) (m : M) (f : Fl) : Heap := [(1, .var false ((mC m f).map .p)), (0, .var false [.p (.slice a (memPV l)), .p (.slice b (netPV net))])]

def topL (l : List (M × Fl)) (t : Int) : Bool := l.all fun u => decide (u.1.term ≤ t)

theorem topL_step (l : List (M × Fl)) (t : Int) (k : Nat) (h : k < l.length) : topL (l.take (k + 1)) t = (topL (l.take k) t && decide (l[k].1.term ≤ t)) := by
  unfold topL
  rw [List.take_add_one, List.getElem?_eq_getElem h, List.all_append]
  simp

theorem l_le1 (l : List (M × Fl)) (a : Bool) (net : List (X × Bool)) (b : Bool) (h7 : l.length ≤ 7) (best : List ByteArray) (i : Nat) (m : M) (f : Fl) (hu : ∀ k (h : k < l.length), k ≠ i → l[k].1.role = 3 → l[k].1.term ≠ m.term) (K : Ex → St → Prop)
    (hx : K (.exit 2) ⟨[(5, .ptr 0 0), (7, .p (.slice false (strsPV best))), (8, .p (.int .i64 i)), (9, .ptr 1 0), (10, .p (.bool (topL l m.term)))], leM l a net b m f, 2, [0]⟩) : ∀ (r k : Nat), k + r = l.length →
    W tb a6_l1 ⟨[(5, .ptr 0 0), (7, .p (.slice false (strsPV best))), (8, .p (.int .i64 i)), (9, .ptr 1 0), (10, .p (.bool (topL (l.take k) m.term))), (11, .p (.int .i64 k))], leM l a net b m f, 2, [0]⟩ (LK tb (.ghost .lower a6_l1) K) := by
  intro r
  induction r with
  | zero =>
    intro k hk
    have h1 : ¬ (k : Int) < l.length := by omega
    have e : k = l.length := by omega
    subst e
    rw [List.take_length]
    refine i_code (by unfold a6_l1; exact rfl) ?_
    simp only [leM, mC, List.map] at hx
    repeat' (first | (simp (disch := omega) only [go_sem, seval, reduceCtorEq, leM, mC, h1, memPV_length]) | with_reducible exact Ev.mk | ((first | apply x_split | apply x_splitg) <;> intro hβ hb <;> (simp (disch := omega) only [go_sem, seval, reduceCtorEq, leM, mC, h1, memPV_length, hβ]) <;> clear hβ))
    exact hx
  | succ r ih =>
    intro k hk
    have h1 : (k : Int) < l.length := by omega
    have h2 : k < l.length := by omega
    have h4 : (0 : Int) ≤ k := by omega
    have h3 := memPV_get l k h2
    have ihk := ih (k + 1) (by omega)
    rw [topL_step l m.term k h2] at ihk
    have hu' := hu k h2
    simp only [leM, mC, List.map] at ihk
    have fin : ∀ (b0 : Bool), ((k : Int) != (i : Int)) = b0 → ((l[k].1.role == 3) = true → b0 = true → (l[k].1.term == m.term) = false) → W tb a6_l1 ⟨[(5, .ptr 0 0), (7, .p (.slice false (strsPV best))), (8, .p (.int .i64 i)), (9, .ptr 1 0), (10, .p (.bool (topL (l.take k) m.term))), (11, .p (.int .i64 k))], leM l a net b m f, 2, [0]⟩ (LK tb (.ghost .lower a6_l1) K) := by
      intro b0 e0 e1
      refine i_code (by unfold a6_l1; exact rfl) ?_
      cases htk : topL (l.take k) m.term <;> rw [htk] at ihk <;> simp only [Bool.true_and, Bool.false_and] at ihk <;> cases b0 <;> cases hr : (l[k].1.role == 3)
      all_goals first
        | (have e2 := e1 hr rfl
           repeat' (first | (simp (disch := omega) only [go_sem, seval, reduceCtorEq, leM, h1, h3, h4, memPV_length, mC, e0, hr, e2]) | with_reducible exact Ev.mk | ((first | apply x_split | apply x_splitg) <;> intro hβ hb <;> (simp (disch := omega) only [go_sem, seval, reduceCtorEq, leM, h1, h3, h4, memPV_length, mC, e0, hr, e2, hβ]) <;> clear hβ))
           refine i_lk (W_round ?_)
           (try simp (disch := omega) only [go_sem, seval, reduceCtorEq])
           exact ihk)
        | (repeat' (first | (simp (disch := omega) only [go_sem, seval, reduceCtorEq, leM, h1, h3, h4, memPV_length, mC, e0, hr]) | with_reducible exact Ev.mk | ((first | apply x_split | apply x_splitg) <;> intro hβ hb <;> (simp (disch := omega) only [go_sem, seval, reduceCtorEq, leM, h1, h3, h4, memPV_length, mC, e0, hr, hβ]) <;> clear hβ))
           refine i_lk (W_round ?_)
           (try simp (disch := omega) only [go_sem, seval, reduceCtorEq])
           exact ihk)
    exact fin _ rfl (fun hr hb => by
      have h9 : k ≠ i := by intro e; subst e; simp at hb
      have := hu' h9 (by simpa using hr)
      simpa using this)

theorem l_le0 (l : List (M × Fl)) (a : Bool) (net : List (X × Bool)) (b : Bool) (best : List ByteArray) (hbl : best.length ≤ 100000) (i : Nat) (m : M) (f : Fl) (K : Ex → St → Prop)
    (hx : K (.exit 4) ⟨[(5, .ptr 0 0), (7, .p (.slice false (strsPV best))), (8, .p (.int .i64 i))], leH l a net b, 1, [0]⟩) : ∀ (top : Bool), (top = true → best.length ≤ m.log.length ∧ best = dataL (m.log.take best.length)) → ∀ (r k : Nat), k + r = best.length →
    W tb a6_l0 ⟨[(5, .ptr 0 0), (7, .p (.slice false (strsPV best))), (8, .p (.int .i64 i)), (9, .ptr 1 0), (10, .p (.bool top)), (12, .p (.int .i64 k))], leM l a net b m f, 2, [0]⟩ (LK tb (.ghost .lower a6_l0) K) := by
  intro top
  simp only [leH] at hx
  cases top with
  | false =>
    intro _ r k _
    refine i_code (by unfold a6_l0; exact rfl) ?_
    repeat' (first | (simp (disch := omega) only [go_sem, seval, reduceCtorEq, leM, mC]) | with_reducible exact Ev.mk | ((first | apply x_split | apply x_splitg) <;> intro hβ hb <;> (simp (disch := omega) only [go_sem, seval, reduceCtorEq, leM, mC, hβ]) <;> clear hβ))
    exact hx
  | true =>
    intro ht r
    obtain ⟨t1, t2⟩ := ht rfl
    induction r with
    | zero =>
      intro k hk
      have h1 : ¬ (k : Int) < best.length := by omega
      refine i_code (by unfold a6_l0; exact rfl) ?_
      repeat' (first | (simp (disch := omega) only [go_sem, seval, reduceCtorEq, leM, mC, h1, strsPV_length]) | with_reducible exact Ev.mk | ((first | apply x_split | apply x_splitg) <;> intro hβ hb <;> (simp (disch := omega) only [go_sem, seval, reduceCtorEq, leM, mC, h1, strsPV_length, hβ]) <;> clear hβ))
      exact hx
    | succ r ih =>
      intro k hk
      have h1 : (k : Int) < best.length := by omega
      have h2 : k < best.length := by omega
      have h5 : ¬ (m.log.length : Int) ≤ k := by omega
      have h6 : k < m.log.length := by omega
      have h4 : (0 : Int) ≤ k := by omega
      have h3 := itemsPV_get m.log k h6
      have h7 := strsPV_getQ best k h2
      have h8 : m.log[k].2 = best[k] := by
        have e : best[k]? = (dataL (m.log.take best.length))[k]? := by rw [← t2]
        rw [List.getElem?_eq_getElem h2] at e
        unfold dataL at e
        rw [List.getElem?_map, List.getElem?_take_of_lt h2, List.getElem?_eq_getElem h6] at e
        simpa using e.symm
      have h9 : bytesCmp .neq m.log[k].2 best[k] = some (.bool false) := by rw [h8]; exact strNeQ _
      have ihk := ih (k + 1) (by omega)
      simp only [leM, mC, List.map] at ihk
      refine i_code (by unfold a6_l0; exact rfl) ?_
      repeat' (first | (simp (disch := omega) only [go_sem, seval, reduceCtorEq, leM, mC, h1, h3, h4, h5, h7, h9, itemPV, itemsPV_length, strsPV_length]) | with_reducible exact Ev.mk | ((first | apply x_split | apply x_splitg) <;> intro hβ hb <;> (simp (disch := omega) only [go_sem, seval, reduceCtorEq, leM, mC, h1, h3, h4, h5, h7, h9, itemPV, itemsPV_length, strsPV_length, hβ]) <;> clear hβ))
      refine i_lk (W_round ?_)
      (try simp (disch := omega) only [go_sem, seval, reduceCtorEq])
      exact ihk

theorem l_le2 (l : List (M × Fl)) (a : Bool) (net : List (X × Bool)) (b : Bool) (h7 : l.length ≤ 7) (best : List ByteArray) (hbl : best.length ≤ 100000)
    (hu : ∀ i (hi : i < l.length) k (h : k < l.length), l[i].1.role = 3 → l[k].1.role = 3 → l[k].1.term = l[i].1.term → k = i)
    (hb : ∀ i (hi : i < l.length), l[i].1.role = 3 → topL l l[i].1.term = true → best.length ≤ l[i].1.log.length ∧ best = dataL (l[i].1.log.take best.length)) (K : Ex → St → Prop)
    (hx : ∀ s, s.env = [] → K (.exit 0) s) : ∀ (r i : Nat), i + r = l.length →
    W tb a6_l2 ⟨[(5, .ptr 0 0), (7, .p (.slice false (strsPV best))), (8, .p (.int .i64 i))], leH l a net b, 1, [0]⟩ (LK tb (.ghost .lower a6_l2) K) := by
  intro r
  induction r with
  | zero =>
    intro i hi
    have h1 : ¬ (i : Int) < l.length := by omega
    refine i_code (by unfold a6_l2; exact rfl) ?_
    repeat' (first | (simp (disch := omega) only [go_sem, seval, reduceCtorEq, leH, h1, memPV_length]) | with_reducible exact Ev.mk | ((first | apply x_split | apply x_splitg) <;> intro hβ hb <;> (simp (disch := omega) only [go_sem, seval, reduceCtorEq, leH, h1, memPV_length, hβ]) <;> clear hβ))
    exact hx _ rfl
  | succ r ih =>
    intro i hi
    have h1 : (i : Int) < l.length := by omega
    have h2 : i < l.length := by omega
    have h4 : (0 : Int) ≤ i := by omega
    have h3 := memPV_get l i h2
    have ihk := ih (i + 1) (by omega)
    simp only [leH] at ihk
    refine i_code (by unfold a6_l2; exact rfl) ?_
    cases hr : (l[i].1.role != 3) with
    | true =>
      repeat' (first | (simp (disch := omega) only [go_sem, seval, reduceCtorEq, leH, h1, h3, h4, mC, hr, memPV_length]) | with_reducible exact Ev.mk | ((first | apply x_split | apply x_splitg) <;> intro hβ hb <;> (simp (disch := omega) only [go_sem, seval, reduceCtorEq, leH, h1, h3, h4, mC, hr, memPV_length, hβ]) <;> clear hβ))
      refine i_lk (W_round ?_)
      (try simp (disch := omega) only [go_sem, seval, reduceCtorEq])
      exact ihk
    | false =>
      have hr3 : l[i].1.role = 3 := by simpa using hr
      repeat' (first | (simp (disch := omega) only [go_sem, seval, reduceCtorEq, leH, h1, h3, h4, mC, hr, memPV_length]) | with_reducible exact Ev.mk | ((first | apply x_split | apply x_splitg) <;> intro hβ hb <;> (simp (disch := omega) only [go_sem, seval, reduceCtorEq, leH, h1, h3, h4, mC, hr, memPV_length, hβ]) <;> clear hβ))
      refine W_round ?_
      (try simp (disch := omega) only [go_sem, seval, reduceCtorEq])
      refine l_le1 l a net b h7 best i l[i].1 l[i].2 (fun k h hk h' e => hk (hu i h2 k h hr3 h' e)) _ ?_ l.length 0 (by omega)
      (try simp (disch := omega) only [go_sem, seval, reduceCtorEq, leM, mC])
      refine W_round ?_
      (try simp (disch := omega) only [go_sem, seval, reduceCtorEq])
      refine l_le0 l a net b best hbl i l[i].1 l[i].2 _ ?_ (topL l l[i].1.term) (hb i h2 hr3) best.length 0 (by omega)
      (try simp (disch := omega) only [go_sem, seval, reduceCtorEq, leH])
      refine i_lk (W_round ?_)
      (try simp (disch := omega) only [go_sem, seval, reduceCtorEq])
      exact ihk

theorem walkQuorumLeads {u v : PV} (h : Fit (.int .i64) u) (h' : Fit (.slice [.int .i64, .int .i64, .int .i64, .str]) v) : PS tb 6 [u, v] (.bool true) := by
  obtain ⟨z, rfl, _⟩ := fit_int h
  obtain ⟨l, rfl, hl⟩ := fit_events h'
  have f1 := ps_few l false 120 hl (by omega)
  refine PS_of (af := a6) rfl rfl ?_
  unfold a6
  dsimp only [List.map, ofPV, initEnv]
  cases e1 : fewE l 120 with
  | false =>
    rw [e1] at f1
    repeat' (first | exact f1 | exact ps_examples | (simp (disch := omega) only [go_sem, seval, reduceCtorEq]) | with_reducible exact Ev.mk | apply x_call | ((first | apply x_split | apply x_splitg) <;> intro hβ hb <;> (simp (disch := omega) only [go_sem, seval, reduceCtorEq, hβ]) <;> clear hβ))
  | true =>
    rw [e1] at f1
    have l120 : l.length ≤ 120 := by simp only [fewE, Bool.and_eq_true, decide_eq_true_eq] at e1; exact e1.2
    by_cases c : z < 1 ∨ 7 < z
    · have r := ps_runBad z c l false
      have g : PS tb 22 [.agg [.slice true [], .slice true []]] (.slice false []) := ps_qcom [] true [] true (by simp) (by simp)
      repeat' (first | exact f1 | exact r | exact g | (simp (disch := omega) only [go_sem, seval, reduceCtorEq]) | with_reducible exact Ev.mk | apply x_call | ((first | apply x_split | apply x_splitg) <;> intro hβ hb <;> (simp (disch := omega) only [go_sem, seval, reduceCtorEq, hβ]) <;> clear hβ))
      refine W_round ?_
      (try simp (disch := omega) only [go_sem, seval, reduceCtorEq])
      refine l_le2 [] true [] true (by simp) [] (by simp) (by simp) (by simp) _ ?_ 0 0 (by simp)
      intro s hs
      obtain ⟨e, H, nx, mk⟩ := s
      cases hs
      repeat' (first | exact ps_examples | (simp (disch := omega) only [go_sem, seval, reduceCtorEq]) | with_reducible exact Ev.mk | apply x_call | ((first | apply x_split | apply x_splitg) <;> intro hβ hb <;> (simp (disch := omega) only [go_sem, seval, reduceCtorEq, hβ]) <;> clear hβ))
    · obtain ⟨n, rfl⟩ := Int.eq_ofNat_of_zero_le (show 0 ≤ z by omega)
      obtain ⟨la, a, xa, na, ra, ea, ea'⟩ := ps_run n (by omega) (by omega) l false (by omega)
      have va := (okC_run l (c := (newMs n, [])) (okC_new n (by omega) (by omega))).1
      rw [← ea, ← ea'] at va
      have la7 : la.length ≤ 7 := by have := (okC_facts va).2.1; rwa [fsts_length] at this
      have h256 : ∀ t ∈ la, t.1.log.length ≤ 256 := by
        intro t ht
        obtain ⟨j, hj, rfl⟩ := List.getElem_of_mem ht
        exact log_of ((okC_facts va).2.2.2.1 j la[j].1 (fsts_get la _ hj)).2.2
      obtain ⟨u1, u2⟩ := runs_lead n (by omega) (by omega) l
      rw [← ea] at u1 u2
      have memf : ∀ {l : List (M × Fl)} {t : M × Fl}, t ∈ l → t.1 ∈ fsts l := fun ht => List.mem_map.2 ⟨_, ht, rfl⟩
      have g := ps_qcom la a xa na la7 h256
      have hbl := bestOf_le h256
      repeat' (first | exact f1 | exact ra | exact g | (simp (disch := omega) only [go_sem, seval, reduceCtorEq]) | with_reducible exact Ev.mk | apply x_call | ((first | apply x_split | apply x_splitg) <;> intro hβ hb <;> (simp (disch := omega) only [go_sem, seval, reduceCtorEq, hβ]) <;> clear hβ))
      refine W_round ?_
      (try simp (disch := omega) only [go_sem, seval, reduceCtorEq])
      refine l_le2 la a xa na la7 (bestOf la) hbl (fun i hi k hk r1 r2 e => u1 k la[k].1 i la[i].1 (fsts_get la _ hk) (fsts_get la _ hi) r2 r1 e) (fun i hi r3 ht => ?_) _ ?_ la.length 0 (by omega)
      · rcases best_mem (comsOf la) [] with e | e
        · unfold bestOf; rw [e]; simp [dataL]
        · obtain ⟨t, hm, he⟩ := List.mem_map.1 e
          unfold bestOf; rw [← he]
          have tt : t.1.term ≤ la[i].1.term := by
            have := List.all_eq_true.1 ht t hm
            simpa using this
          exact u2 _ _ (memf (List.getElem_mem hi)) (memf hm) r3 tt
      · intro s hs
        obtain ⟨e, H, nx, mk⟩ := s
        cases hs
        repeat' (first | exact ps_examples | (simp (disch := omega) only [go_sem, seval, reduceCtorEq]) | with_reducible exact Ev.mk | apply x_call | ((first | apply x_split | apply x_splitg) <;> intro hβ hb <;> (simp (disch := omega) only [go_sem, seval, reduceCtorEq, hβ]) <;> clear hβ))

theorem ps_member (m : M) (f : Fl) (kind node at_ : Int) (data : ByteArray) (ho : okM m = true) (hk : kind = 1 ∨ kind = 2 ∨ kind = 3 ∨ kind = 7) :
    ∃ g c b, PS tb 33 [.agg (mC m f), .agg (evC ⟨kind, node, at_, data⟩)] (.tuple [.agg (mC (nodeR m ⟨kind, node, at_, data⟩).1 g), .slice c (netPV (flg b (nodeR m ⟨kind, node, at_, data⟩).2.1))]) := by
  have hf := okM_few ho
  rcases hk with rfl | rfl | rfl | rfl
  · obtain ⟨g, b, hr⟩ := ps32 m f hf
    rw [rowsT_net] at hr
    refine ⟨g, b, true, ?_⟩
    refine PS_of (af := a33) rfl rfl ?_
    unfold a33
    dsimp only [List.map, ofPV, initEnv, evC]
    repeat' (first | exact hr | (simp (disch := omega) only [go_sem, seval, reduceCtorEq, mC]) | with_reducible exact Ev.mk | apply x_call | ((first | apply x_split | apply x_splitg) <;> intro hβ hb <;> (simp (disch := omega) only [go_sem, seval, reduceCtorEq, mC, hβ]) <;> clear hβ))
    all_goals rfl
  · obtain ⟨b, hr⟩ := ps50 m f hf
    rw [msgs_net] at hr
    refine ⟨f, b, false, ?_⟩
    refine PS_of (af := a33) rfl rfl ?_
    unfold a33
    dsimp only [List.map, ofPV, initEnv, evC]
    repeat' (first | exact hr | (simp (disch := omega) only [go_sem, seval, reduceCtorEq, mC]) | with_reducible exact Ev.mk | apply x_call | ((first | apply x_split | apply x_splitg) <;> intro hβ hb <;> (simp (disch := omega) only [go_sem, seval, reduceCtorEq, mC, hβ]) <;> clear hβ))
    all_goals rfl
  · obtain ⟨g, hr⟩ := ps47 m f data hf
    by_cases hz : errP m data = 0
    · have t1 : (errP m data == 0) = true := by simp [hz]
      have en : nodeR m ⟨3, node, at_, data⟩ = (proposed m data, [], errP m data) := by simp [nodeR, hz]
      have er : resP m data = proposed m data := if_pos hz
      rw [er] at hr
      rw [en]
      refine ⟨g, true, true, ?_⟩
      refine PS_of (af := a33) rfl rfl ?_
      unfold a33
      dsimp only [List.map, ofPV, initEnv, evC]
      repeat' (first | exact hr | (simp (disch := omega) only [go_sem, seval, reduceCtorEq, mC, t1]) | with_reducible exact Ev.mk | apply x_call | ((first | apply x_split | apply x_splitg) <;> intro hβ hb <;> (simp (disch := omega) only [go_sem, seval, reduceCtorEq, mC, t1, hβ]) <;> clear hβ))
      all_goals rfl
    · have t1 : (errP m data == 0) = false := by simpa using hz
      have en : nodeR m ⟨3, node, at_, data⟩ = (m, [], errP m data) := by simp [nodeR, hz]
      have er : resP m data = zeroM := if_neg hz
      rw [er] at hr
      rw [en]
      refine ⟨f, true, true, ?_⟩
      refine PS_of (af := a33) rfl rfl ?_
      unfold a33
      dsimp only [List.map, ofPV, initEnv, evC]
      repeat' (first | exact hr | (simp (disch := omega) only [go_sem, seval, reduceCtorEq, mC, t1]) | with_reducible exact Ev.mk | apply x_call | ((first | apply x_split | apply x_splitg) <;> intro hβ hb <;> (simp (disch := omega) only [go_sem, seval, reduceCtorEq, mC, t1, hβ]) <;> clear hβ))
      all_goals rfl
  · obtain ⟨g, hr⟩ := ps43 m f hf
    refine ⟨g, true, true, ?_⟩
    refine PS_of (af := a33) rfl rfl ?_
    unfold a33
    dsimp only [List.map, ofPV, initEnv, evC]
    repeat' (first | exact hr | (simp (disch := omega) only [go_sem, seval, reduceCtorEq, mC]) | with_reducible exact Ev.mk | apply x_call | ((first | apply x_split | apply x_splitg) <;> intro hβ hb <;> (simp (disch := omega) only [go_sem, seval, reduceCtorEq, mC, hβ]) <;> clear hβ))
    all_goals rfl

theorem ps_at (l : List (M × Fl)) (h7 : l.length ≤ 7) (a : Bool) (net q : List (X × Bool)) (hn : Small net) (hq : Small q) (b c : Bool) (i : Nat) (hi : i < l.length) (m : M) (f : Fl) :
    ∃ d, PS tb 34 [.agg [.slice a (memPV l), .slice b (netPV net)], .int .i64 i, .agg (mC m f), .slice c (netPV q)] (.agg [.slice false (memPV (l.set i (m, f))), .slice d (netPV (cut (clr (net ++ q))))]) := by
  obtain ⟨d, hs⟩ := ps_send net q hn hq b c
  have h1 : (0 : Int) ≤ i := by omega
  have h2 : (i : Int) < l.length := by omega
  have m1 : l.length * 144 ≤ 140737488355328 := by omega
  have m2 : l.length ≤ 140737488355328 := by omega
  refine ⟨d, ?_⟩
  refine PS_of (af := a34) rfl rfl ?_
  unfold a34
  dsimp only [List.map, ofPV, initEnv]
  have h3 := memPV_get l i hi
  have e9 : (l.set i (m, f)).take l.length = l.set i (m, f) := List.take_of_length_le (by simp)
  repeat' (first | exact hs | (simp (disch := omega) only [go_sem, seval, reduceCtorEq, mC, memPV_length, memPV_sz, memPV_set, h1, h2, h3, hi, e9, m1, m2, List.nil_append, List.length_set, memPV_take, maxBytes]) | with_reducible exact Ev.mk | apply x_call | ((first | apply x_split | apply x_splitg) <;> intro hβ hb <;> (simp (disch := omega) only [go_sem, seval, reduceCtorEq, mC, memPV_length, memPV_sz, memPV_set, h1, h2, h3, hi, e9, m1, m2, List.nil_append, List.length_set, memPV_take, maxBytes, hβ]) <;> clear hβ))
  all_goals rfl

/-- Logs that agree where the terms agree. -/
def Mtch (a b : List (Int × ByteArray)) : Prop := ∀ (k : Nat) x y, a[k]? = some x → b[k]? = some y → x.1 = y.1 → a.take (k + 1) = b.take (k + 1)

theorem l_match (a b : List (Int × ByteArray)) (ha : a.length ≤ 100000) (hb : b.length ≤ 100000) (u v : Bool) (hm : Mtch a b) (K : Ex → St → Prop)
    (hx : ∀ n : Nat, n ≤ a.length → n ≤ b.length → a.take n = b.take n → K (.exit 0) ⟨[(0, .p (.slice u (itemsPV a))), (1, .p (.slice v (itemsPV b))), (5, .p (.int .i64 n))], [], 0, [0]⟩) : ∀ (n : Nat), n ≤ a.length → n ≤ b.length →
    W tb a12_l0 ⟨[(0, .p (.slice u (itemsPV a))), (1, .p (.slice v (itemsPV b))), (5, .p (.int .i64 n))], [], 0, [0]⟩ (LK tb (.ghost .lower a12_l0) K) := by
  intro n
  induction n with
  | zero =>
    intro h1 h2
    refine i_code (by unfold a12_l0; exact rfl) ?_
    have k := hx 0 (by omega) (by omega) rfl
    repeat' (first | (simp (disch := omega) only [go_sem, seval, reduceCtorEq, itemsPV_length]) | with_reducible exact Ev.mk | ((first | apply x_split | apply x_splitg) <;> intro hβ hb <;> (simp (disch := omega) only [go_sem, seval, reduceCtorEq, itemsPV_length, hβ]) <;> clear hβ))
    exact k
  | succ n ih =>
    intro h1 h2
    have h3 : (0 : Int) < ((n + 1 : Nat) : Int) := by omega
    have h4 : (((n + 1 : Nat) : Int) - 1) = (n : Int) := by omega
    have h5 : (0 : Int) ≤ n := by omega
    have h6 : n < a.length := by omega
    have h7 : n < b.length := by omega
    have g1 := itemsPV_get a n h6
    have g2 := itemsPV_get b n h7
    have b1 : (n : Int) < a.length := by omega
    have b2 : (n : Int) < b.length := by omega
    refine i_code (by unfold a12_l0; exact rfl) ?_
    cases hc : (a[n].1 != b[n].1) with
    | true =>
      have := ih (by omega) (by omega)
      repeat' (first | (simp (disch := omega) only [go_sem, seval, reduceCtorEq, h3, h4, h5, g1, g2, b1, b2, hc, itemPV, itemsPV_length]) | with_reducible exact Ev.mk | ((first | apply x_split | apply x_splitg) <;> intro hβ hb <;> (simp (disch := omega) only [go_sem, seval, reduceCtorEq, h3, h4, h5, g1, g2, b1, b2, hc, itemPV, itemsPV_length, hβ]) <;> clear hβ))
      refine i_lk (W_round ?_)
      (try simp (disch := omega) only [go_sem, seval, reduceCtorEq])
      exact this
    | false =>
      have k := hx (n + 1) h1 h2 (hm n a[n] b[n] (List.getElem?_eq_getElem h6) (List.getElem?_eq_getElem h7) (by simpa using hc))
      repeat' (first | (simp (disch := omega) only [go_sem, seval, reduceCtorEq, h3, h4, h5, g1, g2, b1, b2, hc, itemPV, itemsPV_length]) | with_reducible exact Ev.mk | ((first | apply x_split | apply x_splitg) <;> intro hβ hb <;> (simp (disch := omega) only [go_sem, seval, reduceCtorEq, h3, h4, h5, g1, g2, b1, b2, hc, itemPV, itemsPV_length, hβ]) <;> clear hβ))
      exact k

theorem l39Q (l : List (Int × ByteArray)) (b c : Bool) (hl : l.length ≤ 9223372036854775807) (K : Ex → St → Prop)
    (hx : K (.exit 0) ⟨[], [], 0, [0]⟩) : ∀ (n i : Nat), i + n = l.length →
    W tb a39_l0 ⟨[(0, .p (.slice b (itemsPV l))), (1, .p (.slice c (itemsPV l))), (5, .p (.int .i64 i))], [], 0, [0]⟩ (LK tb (.ghost .lower a39_l0) K) := by
  intro n
  induction n with
  | zero =>
    intro i hi
    have h1 : ¬ (i : Int) < l.length := by omega
    refine i_code (by unfold a39_l0; exact rfl) ?_
    repeat' (first | (simp (disch := omega) only [go_sem, seval, reduceCtorEq, h1, itemsPV_length]) | with_reducible exact Ev.mk | ((first | apply x_split | apply x_splitg) <;> intro hβ hb <;> (simp (disch := omega) only [go_sem, seval, reduceCtorEq, h1, itemsPV_length, hβ]) <;> clear hβ))
    exact hx
  | succ n ih =>
    intro i hi
    have h1 : (i : Int) < l.length := by omega
    have h2 : i < l.length := by omega
    have h3 := itemsPV_get l i h2
    have h4 : (0 : Int) ≤ i := by omega
    refine i_code (by unfold a39_l0; exact rfl) ?_
    repeat' (first | (simp (disch := omega) only [go_sem, seval, reduceCtorEq, h1, h3, h4, itemPV, itemsPV_length]) | with_reducible exact Ev.mk | ((first | apply x_split | apply x_splitg) <;> intro hβ hb <;> (simp (disch := omega) only [go_sem, seval, reduceCtorEq, h1, h3, h4, itemPV, itemsPV_length, hβ]) <;> clear hβ))
    refine i_lk (W_round ?_)
    (try simp (disch := omega) only [go_sem, seval, reduceCtorEq])
    exact ih (i + 1) (by omega)

theorem ps39Q (l : List (Int × ByteArray)) (b c : Bool) (hl : l.length ≤ 9223372036854775807) : PS tb 39 [.slice b (itemsPV l), .slice c (itemsPV l)] (.bool true) := by
  refine PS_of (af := a39) rfl rfl ?_
  unfold a39
  dsimp only [List.map, ofPV, initEnv]
  repeat' (first | (simp (disch := omega) only [go_sem, seval, reduceCtorEq, itemsPV_length]) | with_reducible exact Ev.mk | ((first | apply x_split | apply x_splitg) <;> intro hβ hb <;> (simp (disch := omega) only [go_sem, seval, reduceCtorEq, itemsPV_length, hβ]) <;> clear hβ))
  refine W_round ?_
  (try simp (disch := omega) only [go_sem, seval, reduceCtorEq])
  refine l39Q l b c hl _ ?_ l.length 0 (by omega)
  (try simp (disch := omega) only [go_sem, seval, reduceCtorEq])
  all_goals simp [pur, dep]

theorem ps_match (a b : List (Int × ByteArray)) (ha : a.length ≤ 100000) (hb : b.length ≤ 100000) (u v : Bool) (hm : Mtch a b) : PS tb 12 [.slice u (itemsPV a), .slice v (itemsPV b)] (.bool true) := by
  refine PS_of (af := a12) rfl rfl ?_
  unfold a12
  dsimp only [List.map, ofPV, initEnv]
  have key : ∀ n : Nat, n ≤ a.length → n ≤ b.length → a.take n = b.take n → ∀ c d, PS tb 39 [.slice c (itemsPV (a.take n)), .slice d (itemsPV (b.take n))] (.bool true) := by
    intro n h1 h2 h3 c d
    rw [h3]
    exact ps39Q _ c d (by rw [List.length_take]; omega)
  by_cases h : a.length ≤ b.length
  · have e : ¬ (b.length : Int) < a.length := by omega
    (try simp (disch := omega) only [go_sem, seval, reduceCtorEq, itemsPV_length, e])
    refine W_round ?_
    (try simp (disch := omega) only [go_sem, seval, reduceCtorEq])
    refine l_match a b ha hb u v hm _ ?_ a.length (by omega) h
    intro n h1 h2 h3
    have n0 : (0 : Int) ≤ n := by omega
    have n1 : (n : Int) ≤ a.length := by omega
    have n2 : (n : Int) ≤ b.length := by omega
    have q := key n h1 h2 h3
    repeat' (first | exact q _ _ | (simp (disch := omega) only [go_sem, seval, reduceCtorEq, itemsPV_length, itemsPV_take, itemsPV_sz, n0, n1, n2]) | with_reducible exact Ev.mk | apply x_call | ((first | apply x_split | apply x_splitg) <;> intro hβ hb <;> (simp (disch := omega) only [go_sem, seval, reduceCtorEq, itemsPV_length, itemsPV_take, itemsPV_sz, n0, n1, n2, hβ]) <;> clear hβ))
  · have e : (b.length : Int) < a.length := by omega
    (try simp (disch := omega) only [go_sem, seval, reduceCtorEq, itemsPV_length, e])
    refine W_round ?_
    (try simp (disch := omega) only [go_sem, seval, reduceCtorEq])
    refine l_match a b ha hb u v hm _ ?_ b.length (by omega) (by omega)
    intro n h1 h2 h3
    have n0 : (0 : Int) ≤ n := by omega
    have n1 : (n : Int) ≤ a.length := by omega
    have n2 : (n : Int) ≤ b.length := by omega
    have q := key n h1 h2 h3
    repeat' (first | exact q _ _ | (simp (disch := omega) only [go_sem, seval, reduceCtorEq, itemsPV_length, itemsPV_take, itemsPV_sz, n0, n1, n2]) | with_reducible exact Ev.mk | apply x_call | ((first | apply x_split | apply x_splitg) <;> intro hβ hb <;> (simp (disch := omega) only [go_sem, seval, reduceCtorEq, itemsPV_length, itemsPV_take, itemsPV_sz, n0, n1, n2, hβ]) <;> clear hβ))

/-- A group, as a value. -/
def GrpP (c : List M × List X) (p : PV) : Prop := ∃ (l : List (M × Fl)) (a : Bool) (net : List (X × Bool)) (b : Bool), p = .agg [.slice a (memPV l), .slice b (netPV net)] ∧ fsts l = c.1 ∧ fstx net = c.2

theorem GrpP.same (l : List (M × Fl)) (a : Bool) (net : List (X × Bool)) (b : Bool) : GrpP (fsts l, fstx net) (.agg [.slice a (memPV l), .slice b (netPV net)]) := ⟨l, a, net, b, rfl, rfl, rfl⟩

theorem stepR_err {c : List M × List X} {e : Evt} (h : (evR c.1 c.2 e).2 ≠ 0) : stepR c e = c := if_neg h

theorem stepR_ok {c r : List M × List X} {e : Evt} (h : evR c.1 c.2 e = (r, 0)) : stepR c e = r := by
  unfold stepR
  rw [h]
  rfl

theorem fsts_setL (l : List (M × Fl)) (i : Nat) (m : M) (f : Fl) : fsts (l.set i (m, f)) = (fsts l).set i m := by simp [fsts, List.map_set]

theorem sendR_nil {net : List X} (h : net.length ≤ 256) : sendR net [] = net := by
  unfold sendR
  rw [List.append_nil, List.take_of_length_le h]

theorem fstx_send (net : List (X × Bool)) (b : Bool) (q : List X) : fstx (cut (clr (net ++ flg b q))) = sendR (fstx net) q := by
  rw [fstx_cut, fstx_clr, fstx_append, fstx_flg]
  rfl

theorem nodeR_err {m : M} {e : Evt} (h : (nodeR m e).2.2 ≠ 0) : (nodeR m e).1 = m ∧ (nodeR m e).2.1 = [] := by
  unfold nodeR at *
  split
  · rename_i h1; rw [if_pos h1] at h; exact absurd rfl h
  · rename_i h1
    rw [if_neg h1] at h
    split
    · rename_i h2; rw [if_pos h2] at h; exact absurd rfl h
    · rename_i h2
      rw [if_neg h2] at h
      split
      · rename_i h3
        rw [if_pos h3] at h
        have h : errP m e.data ≠ 0 := h
        exact ⟨if_neg h, rfl⟩
      · rename_i h3; rw [if_neg h3] at h; exact absurd rfl h

section

variable (l : List (M × Fl)) (a : Bool) (net : List (X × Bool)) (b : Bool) (kind node at_ : Int) (data : ByteArray) (hv : okC (fsts l) (fstx net) = true)

include hv

theorem ps_s42N (hk : kind = 1 ∨ kind = 2 ∨ kind = 3 ∨ kind = 7) (i : Nat) (hi : i < l.length) (hni : node = (i : Int) + 1) :
    ∃ p, PS tb 11 [.agg [.slice a (memPV l), .slice b (netPV net)], .agg (evC ⟨kind, node, at_, data⟩)] p ∧ GrpP (stepR (fsts l, fstx net) ⟨kind, node, at_, data⟩) p := by
  have ei : (node - 1).toNat = i := by omega
  obtain ⟨v1, v2, v3, v4, v5⟩ := okC_facts hv
  have hm := v4 i l[i].1 (fsts_get l i hi)
  have es : stepR (fsts l, fstx net) ⟨kind, node, at_, data⟩ = ((fsts l).set i (nodeR l[i].1 ⟨kind, node, at_, data⟩).1, sendR (fstx net) (nodeR l[i].1 ⟨kind, node, at_, data⟩).2.1) := by
    have c1 : ¬ (okC (fsts l) (fstx net) = false ∨ kind < 1 ∨ 7 < kind) := by rw [hv]; simp; omega
    have c2 : ¬ (4 ≤ kind ∧ kind ≤ 6) := by omega
    have c3 : ¬ (node < 1 ∨ ((fsts l).length : Int) < node) := by rw [fsts_length]; omega
    have er : evR (fsts l) (fstx net) ⟨kind, node, at_, data⟩ = if (nodeR l[i].1 ⟨kind, node, at_, data⟩).2.2 = 0 then (((fsts l).set i (nodeR l[i].1 ⟨kind, node, at_, data⟩).1, sendR (fstx net) (nodeR l[i].1 ⟨kind, node, at_, data⟩).2.1), 0) else (([], []), (nodeR l[i].1 ⟨kind, node, at_, data⟩).2.2) := by
      simp only [evR, if_neg c1, if_neg c2, if_neg c3, ei, fsts_getD l i hi]
    by_cases hz : (nodeR l[i].1 ⟨kind, node, at_, data⟩).2.2 = 0
    · rw [if_pos hz] at er
      exact stepR_ok er
    · rw [if_neg hz] at er
      obtain ⟨e1, e2⟩ := nodeR_err hz
      rw [e1, e2, sendR_nil v3]
      refine (stepR_err (by show (evR (fsts l) (fstx net) _).2 ≠ 0; rw [er]; exact hz)).trans ?_
      refine Prod.ext ?_ rfl
      show fsts l = (fsts l).set i l[i].1
      have := fsts_get l i hi
      refine List.ext_getElem? fun j => ?_
      rw [List.getElem?_set]
      split
      · rename_i e
        subst e
        rw [fsts_length, if_pos hi, this]
      · rfl
  rw [es]
  rw [fsts_length] at v1 v2
  rw [fstx_length] at v3
  have sn := small_of hv
  have hq := nodeR_msgs (e := ⟨kind, node, at_, data⟩) hm.2.2
  obtain ⟨g, c, fb, hM⟩ := ps_member l[i].1 l[i].2 kind node at_ data hm.2.2 hk
  obtain ⟨d, hA⟩ := ps_at l v2 a net (flg fb (nodeR l[i].1 ⟨kind, node, at_, data⟩).2.1) sn ⟨by rw [flg_length]; exact hq.1, fun t ht => by obtain ⟨y, hy, rfl⟩ := List.mem_map.1 ht; exact hq.2 y hy⟩ b c i hi (nodeR l[i].1 ⟨kind, node, at_, data⟩).1 g
  have hres : GrpP ((fsts l).set i (nodeR l[i].1 ⟨kind, node, at_, data⟩).1, sendR (fstx net) (nodeR l[i].1 ⟨kind, node, at_, data⟩).2.1) (.agg [.slice false (memPV (l.set i ((nodeR l[i].1 ⟨kind, node, at_, data⟩).1, g))), .slice d (netPV (cut (clr (net ++ flg fb (nodeR l[i].1 ⟨kind, node, at_, data⟩).2.1))))]) :=
    ⟨_, _, _, _, rfl, fsts_setL _ _ _ _, fstx_send _ _ _⟩
  generalize (nodeR l[i].1 ⟨kind, node, at_, data⟩) = R at *
  obtain ⟨m2, q, code⟩ := R
  simp only at *
  have h3 := memPV_get l i hi
  have c1 : (1 : Int) ≤ node := by omega
  have c2 : node ≤ (l.length : Int) := by omega
  have c4 : node - 1 = (i : Int) := by omega
  have c5 : (0 : Int) ≤ (i : Int) := by omega
  have c6 : (i : Int) < (l.length : Int) := by omega
  refine PS_any (af := a11) rfl rfl ?_
  unfold a11
  simp only [evC] at hM
  dsimp only [List.map, ofPV, initEnv, evC]
  rcases hk with rfl | rfl | rfl | rfl
  all_goals
    repeat' (first | exact hM | exact hA | (simp (disch := omega) only [go_sem, seval, reduceCtorEq, h3, c1, c2, c4, c5, c6, mC, memPV_length]) | with_reducible exact Ev.mk | apply x_call | ((first | apply x_split | apply x_splitg) <;> intro hβ hb <;> (simp (disch := omega) only [go_sem, seval, reduceCtorEq, h3, c1, c2, c4, c5, c6, mC, memPV_length, hβ]) <;> clear hβ))
    exact ⟨_, rfl, hres⟩

theorem ps_s42X (hk : kind = 1 ∨ kind = 2 ∨ kind = 3 ∨ kind = 7) (h : node < 1 ∨ (l.length : Int) < node) :
    ∃ p, PS tb 11 [.agg [.slice a (memPV l), .slice b (netPV net)], .agg (evC ⟨kind, node, at_, data⟩)] p ∧ GrpP (stepR (fsts l, fstx net) ⟨kind, node, at_, data⟩) p := by
  have es : stepR (fsts l, fstx net) ⟨kind, node, at_, data⟩ = (fsts l, fstx net) := by
    refine stepR_err ?_
    have c1 : ¬ (okC (fsts l) (fstx net) = false ∨ kind < 1 ∨ 7 < kind) := by rw [hv]; simp; omega
    have c2 : ¬ (4 ≤ kind ∧ kind ≤ 6) := by omega
    have c3 : node < 1 ∨ ((fsts l).length : Int) < node := by rw [fsts_length]; exact h
    simp only [evR, if_neg c1, if_neg c2, if_pos c3]
    decide
  rw [es]
  refine PS_any (af := a11) rfl rfl ?_
  unfold a11
  dsimp only [List.map, ofPV, initEnv, evC]
  rcases hk with rfl | rfl | rfl | rfl
  all_goals
    by_cases c : node < 1
    · have c1 : ¬ (1 : Int) ≤ node := by omega
      repeat' (first | (simp (disch := omega) only [go_sem, seval, reduceCtorEq, c1, memPV_length]) | with_reducible exact Ev.mk | ((first | apply x_split | apply x_splitg) <;> intro hβ hb <;> (simp (disch := omega) only [go_sem, seval, reduceCtorEq, c1, memPV_length, hβ]) <;> clear hβ))
      exact ⟨_, rfl, GrpP.same l a net b⟩
    · have c1 : (1 : Int) ≤ node := by omega
      have c2 : ¬ node ≤ (l.length : Int) := by omega
      repeat' (first | (simp (disch := omega) only [go_sem, seval, reduceCtorEq, c1, c2, memPV_length]) | with_reducible exact Ev.mk | ((first | apply x_split | apply x_splitg) <;> intro hβ hb <;> (simp (disch := omega) only [go_sem, seval, reduceCtorEq, c1, c2, memPV_length, hβ]) <;> clear hβ))
      exact ⟨_, rfl, GrpP.same l a net b⟩

theorem ps_s42O (hk : kind < 1 ∨ 7 < kind) :
    ∃ p, PS tb 11 [.agg [.slice a (memPV l), .slice b (netPV net)], .agg (evC ⟨kind, node, at_, data⟩)] p ∧ GrpP (stepR (fsts l, fstx net) ⟨kind, node, at_, data⟩) p := by
  have hv' := hv
  have es : stepR (fsts l, fstx net) ⟨kind, node, at_, data⟩ = (fsts l, fstx net) := by
    refine stepR_err ?_
    have c1 : (okC (fsts l) (fstx net) = false ∨ kind < 1 ∨ 7 < kind) := .inr hk
    simp only [evR, if_pos c1]
    decide
  rw [es]
  have k1 : (kind == 1) = false := by simp; omega
  have k2 : (kind == 2) = false := by simp; omega
  have k3 : (kind == 3) = false := by simp; omega
  have k4 : (kind == 4) = false := by simp; omega
  have k5 : (kind == 5) = false := by simp; omega
  have k6 : (kind == 6) = false := by simp; omega
  have k7 : (kind == 7) = false := by simp; omega
  refine PS_any (af := a11) rfl rfl ?_
  unfold a11
  dsimp only [List.map, ofPV, initEnv, evC]
  repeat' (first | (simp (disch := omega) only [go_sem, seval, reduceCtorEq, k1, k2, k3, k4, k5, k6, k7]) | with_reducible exact Ev.mk | ((first | apply x_split | apply x_splitg) <;> intro hβ hb <;> (simp (disch := omega) only [go_sem, seval, reduceCtorEq, k1, k2, k3, k4, k5, k6, k7, hβ]) <;> clear hβ))
  exact ⟨_, rfl, GrpP.same l a net b⟩

theorem ps_s42T (hk : kind = 4 ∨ kind = 5 ∨ kind = 6) (h0 : at_ < 0 ∨ (net.length : Int) ≤ at_) :
    ∃ p, PS tb 11 [.agg [.slice a (memPV l), .slice b (netPV net)], .agg (evC ⟨kind, node, at_, data⟩)] p ∧ GrpP (stepR (fsts l, fstx net) ⟨kind, node, at_, data⟩) p := by
  have es : stepR (fsts l, fstx net) ⟨kind, node, at_, data⟩ = (fsts l, fstx net) := by
    refine stepR_err ?_
    have c1 : ¬ (okC (fsts l) (fstx net) = false ∨ kind < 1 ∨ 7 < kind) := by rw [hv]; simp; omega
    have c2 : 4 ≤ kind ∧ kind ≤ 6 := by omega
    have c : (at_ < 0 ∨ ((fstx net).length : Int) ≤ at_) := by rw [fstx_length]; exact h0
    simp only [evR, if_neg c1, if_pos c2, transitR, if_pos c]
    decide
  rw [es]
  have sl := (small_of hv).1
  have d1 := ps_deliverN net sl b at_ h0
  have d2 := ps_dropN net sl b at_ h0
  have d3 := ps_dupN net sl b at_ h0
  refine PS_any (af := a11) rfl rfl ?_
  unfold a11
  dsimp only [List.map, ofPV, initEnv, evC]
  rcases hk with rfl | rfl | rfl
  · repeat' (first | exact d1 | (simp (disch := omega) only [go_sem, seval, reduceCtorEq, xC, zeroXF]) | with_reducible exact Ev.mk | apply x_call | ((first | apply x_split | apply x_splitg) <;> intro hβ hb <;> (simp (disch := omega) only [go_sem, seval, reduceCtorEq, xC, zeroXF, hβ]) <;> clear hβ))
    exact ⟨_, rfl, GrpP.same l a net b⟩
  · repeat' (first | exact d2 | (simp (disch := omega) only [go_sem, seval, reduceCtorEq]) | with_reducible exact Ev.mk | apply x_call | ((first | apply x_split | apply x_splitg) <;> intro hβ hb <;> (simp (disch := omega) only [go_sem, seval, reduceCtorEq, hβ]) <;> clear hβ))
    exact ⟨_, rfl, GrpP.same l a net b⟩
  · repeat' (first | exact d3 | (simp (disch := omega) only [go_sem, seval, reduceCtorEq]) | with_reducible exact Ev.mk | apply x_call | ((first | apply x_split | apply x_splitg) <;> intro hβ hb <;> (simp (disch := omega) only [go_sem, seval, reduceCtorEq, hβ]) <;> clear hβ))
    exact ⟨_, rfl, GrpP.same l a net b⟩

theorem ps_s42D (k : Nat) (hkn : k < net.length) :
    ∃ p, PS tb 11 [.agg [.slice a (memPV l), .slice b (netPV net)], .agg (evC ⟨4, node, k, data⟩)] p ∧ GrpP (stepR (fsts l, fstx net) ⟨4, node, k, data⟩) p := by
  obtain ⟨v1, v2, v3, v4, v5⟩ := okC_facts hv
  have v1' := v1; have v2' := v2
  rw [fsts_length] at v1' v2'
  have sn := small_of hv
  have eg := getX_fst net k
  have mx : getX net k ∈ fstx net := by rw [getX_get net k hkn]; exact List.mem_map.2 ⟨_, List.getElem_mem hkn, rfl⟩
  have hox := v5 _ mx
  have fx := okX_facts hox
  have ix := okX_items hox
  generalize hX : getX net k = x at *
  have hio : (x.to - 1).toNat < l.length := by rw [fsts_length] at fx; omega
  have eto : (((x.to - 1).toNat : Nat) : Int) + 1 = x.to := by omega
  have hm := v4 (x.to - 1).toNat l[(x.to - 1).toNat].1 (fsts_get l _ hio)
  have hfew := okM_few hm.2.2
  have es : stepR (fsts l, fstx net) ⟨4, node, k, data⟩ = ((fsts l).set (x.to - 1).toNat (receiveR l[(x.to - 1).toNat].1 x).1, sendR (delX (fstx net) k) (receiveR l[(x.to - 1).toNat].1 x).2.toList) := by
    refine stepR_ok ?_
    have c : ¬ ((k : Int) < 0 ∨ ((fstx net).length : Int) ≤ k) := by rw [fstx_length]; omega
    have c1 : ¬ (okC (fsts l) (fstx net) = false ∨ (4 : Int) < 1 ∨ (7 : Int) < 4) := by rw [hv]; simp
    have c2 : (4 : Int) ≤ 4 ∧ (4 : Int) ≤ 6 := by omega
    simp only [evR, if_neg c1, if_pos c2, transitR, if_neg c, Int.toNat_natCast, ← eg, fsts_getD l _ hio, if_true]
  rw [es]
  have hd := ps_deliver net sn b k hkn
  rw [hX] at hd
  obtain ⟨g, hr⟩ := ps54 l[(x.to - 1).toNat].1 l[(x.to - 1).toNat].2 x false hfew (by omega)
  rw [optR_net] at hr
  obtain ⟨d, hA⟩ := ps_at l v2' a (clr (del net k)) (flg true (receiveR l[(x.to - 1).toNat].1 x).2.toList) (small_clr (small_del sn k)) (by
      refine ⟨by cases (receiveR l[(x.to - 1).toNat].1 x).2 <;> simp [flg], fun t ht => ?_⟩
      obtain ⟨y, hy, rfl⟩ := List.mem_map.1 ht
      have h9 := okX_items (receive_ok (by simpa using hy)).1
      show y.items.length ≤ 100000
      omega) false true (x.to - 1).toNat hio (receiveR l[(x.to - 1).toNat].1 x).1 g
  have hres : GrpP ((fsts l).set (x.to - 1).toNat (receiveR l[(x.to - 1).toNat].1 x).1, sendR (delX (fstx net) k) (receiveR l[(x.to - 1).toNat].1 x).2.toList) (.agg [.slice false (memPV (l.set (x.to - 1).toNat ((receiveR l[(x.to - 1).toNat].1 x).1, g))), .slice d (netPV (cut (clr (clr (del net k) ++ flg true (receiveR l[(x.to - 1).toNat].1 x).2.toList))))]) :=
    ⟨_, _, _, _, rfl, fsts_setL _ _ _ _, by rw [fstx_send, fstx_clr, fstx_del]⟩
  have h3 := memPV_get l (x.to - 1).toNat hio
  generalize (x.to - 1).toNat = i at *
  generalize (receiveR l[i].1 x) = R at *
  obtain ⟨m2, q⟩ := R
  simp only at *
  have c1 : (1 : Int) ≤ x.to := by omega
  have c2 : x.to ≤ (l.length : Int) := by omega
  have c4 : x.to - 1 = (i : Int) := by omega
  have c5 : (0 : Int) ≤ (i : Int) := by omega
  have c6 : (i : Int) < (l.length : Int) := by omega
  refine PS_any (af := a11) rfl rfl ?_
  unfold a11
  dsimp only [List.map, ofPV, initEnv, evC]
  repeat' (first | exact hd | exact hr | exact hA | (simp (disch := omega) only [go_sem, seval, reduceCtorEq, h3, c1, c2, c4, c5, c6, mC, xC, memPV_length]) | with_reducible exact Ev.mk | apply x_call | ((first | apply x_split | apply x_splitg) <;> intro hβ hb <;> (simp (disch := omega) only [go_sem, seval, reduceCtorEq, h3, c1, c2, c4, c5, c6, mC, xC, memPV_length, hβ]) <;> clear hβ))
  exact ⟨_, rfl, hres⟩

theorem ps_s42R (k : Nat) (hkn : k < net.length) :
    ∃ p, PS tb 11 [.agg [.slice a (memPV l), .slice b (netPV net)], .agg (evC ⟨5, node, k, data⟩)] p ∧ GrpP (stepR (fsts l, fstx net) ⟨5, node, k, data⟩) p := by
  obtain ⟨v1, v2, v3, v4, v5⟩ := okC_facts hv
  have sn := small_of hv
  have es : stepR (fsts l, fstx net) ⟨5, node, k, data⟩ = (fsts l, sendR (delX (fstx net) k) []) := by
    refine stepR_ok ?_
    have c : ¬ ((k : Int) < 0 ∨ ((fstx net).length : Int) ≤ k) := by rw [fstx_length]; omega
    have c1 : ¬ (okC (fsts l) (fstx net) = false ∨ (5 : Int) < 1 ∨ (7 : Int) < 5) := by rw [hv]; simp
    have c2 : (4 : Int) ≤ 5 ∧ (5 : Int) ≤ 6 := by omega
    simp only [evR, if_neg c1, if_pos c2, transitR, if_neg c, Int.toNat_natCast]
    rfl
  rw [es, sendR_nil (by unfold delX; simp; omega)]
  have hd := ps_drop net sn b k hkn
  refine PS_any (af := a11) rfl rfl ?_
  unfold a11
  dsimp only [List.map, ofPV, initEnv, evC]
  repeat' (first | exact hd | (simp (disch := omega) only [go_sem, seval, reduceCtorEq]) | with_reducible exact Ev.mk | apply x_call | ((first | apply x_split | apply x_splitg) <;> intro hβ hb <;> (simp (disch := omega) only [go_sem, seval, reduceCtorEq, hβ]) <;> clear hβ))
  exact ⟨_, rfl, l, a, _, _, rfl, rfl, by rw [fstx_clr, fstx_del]⟩

theorem ps_s42C (k : Nat) (hkn : k < net.length) :
    ∃ p, PS tb 11 [.agg [.slice a (memPV l), .slice b (netPV net)], .agg (evC ⟨6, node, k, data⟩)] p ∧ GrpP (stepR (fsts l, fstx net) ⟨6, node, k, data⟩) p := by
  obtain ⟨v1, v2, v3, v4, v5⟩ := okC_facts hv
  have sn := small_of hv
  have c : ¬ ((k : Int) < 0 ∨ ((fstx net).length : Int) ≤ k) := by rw [fstx_length]; omega
  have c1 : ¬ (okC (fsts l) (fstx net) = false ∨ (6 : Int) < 1 ∨ (7 : Int) < 6) := by rw [hv]; simp
  have c2 : (4 : Int) ≤ 6 ∧ (6 : Int) ≤ 6 := by omega
  have n4 : ¬ (6 : Int) = 4 := by omega
  have n5 : ¬ (6 : Int) = 5 := by omega
  by_cases hf : net.length < 256
  · have es : stepR (fsts l, fstx net) ⟨6, node, k, data⟩ = (fsts l, sendR (fstx net ++ [getX net k]) []) := by
      refine stepR_ok ?_
      have c3 : ¬ 256 ≤ (fstx net).length := by rw [fstx_length]; omega
      simp only [evR, if_neg c1, if_pos c2, transitR, if_neg c, if_neg n4, if_neg n5, if_neg c3, Int.toNat_natCast, ← getX_fst]
    rw [es, sendR_nil (by rw [List.length_append, fstx_length]; simp; omega)]
    have hd := ps_dup net sn b k hkn hf
    refine PS_any (af := a11) rfl rfl ?_
    unfold a11
    dsimp only [List.map, ofPV, initEnv, evC]
    repeat' (first | exact hd | (simp (disch := omega) only [go_sem, seval, reduceCtorEq]) | with_reducible exact Ev.mk | apply x_call | ((first | apply x_split | apply x_splitg) <;> intro hβ hb <;> (simp (disch := omega) only [go_sem, seval, reduceCtorEq, hβ]) <;> clear hβ))
    exact ⟨_, rfl, l, a, _, _, rfl, rfl, by rw [fstx_clr, fstx_append]; rfl⟩
  · have es : stepR (fsts l, fstx net) ⟨6, node, k, data⟩ = (fsts l, fstx net) := by
      refine stepR_err ?_
      have c3 : 256 ≤ (fstx net).length := by rw [fstx_length]; omega
      simp only [evR, if_neg c1, if_pos c2, transitR, if_neg c, if_neg n4, if_neg n5, if_pos c3]
      decide
    rw [es]
    have hd := ps_dupF net sn.1 b k hkn (by omega)
    refine PS_any (af := a11) rfl rfl ?_
    unfold a11
    dsimp only [List.map, ofPV, initEnv, evC]
    repeat' (first | exact hd | (simp (disch := omega) only [go_sem, seval, reduceCtorEq]) | with_reducible exact Ev.mk | apply x_call | ((first | apply x_split | apply x_splitg) <;> intro hβ hb <;> (simp (disch := omega) only [go_sem, seval, reduceCtorEq, hβ]) <;> clear hβ))
    exact ⟨_, rfl, GrpP.same l a net b⟩

theorem ps_s42 : ∃ p, PS tb 11 [.agg [.slice a (memPV l), .slice b (netPV net)], .agg (evC ⟨kind, node, at_, data⟩)] p ∧ GrpP (stepR (fsts l, fstx net) ⟨kind, node, at_, data⟩) p := by
  by_cases h : kind < 1 ∨ 7 < kind
  · exact ps_s42O l a net b kind node at_ data hv h
  · by_cases c : kind = 4 ∨ kind = 5 ∨ kind = 6
    · by_cases d : at_ < 0 ∨ (net.length : Int) ≤ at_
      · exact ps_s42T l a net b kind node at_ data hv c d
      · obtain ⟨k, rfl⟩ := Int.eq_ofNat_of_zero_le (show 0 ≤ at_ by omega)
        rcases c with rfl | rfl | rfl
        · exact ps_s42D l a net b node data hv k (by omega)
        · exact ps_s42R l a net b node data hv k (by omega)
        · exact ps_s42C l a net b node data hv k (by omega)
    · have c' : kind = 1 ∨ kind = 2 ∨ kind = 3 ∨ kind = 7 := by omega
      by_cases d : node < 1 ∨ (l.length : Int) < node
      · exact ps_s42X l a net b kind node at_ data hv c' d
      · exact ps_s42N l a net b kind node at_ data hv c' (node - 1).toNat (by omega) (by omega)

end

theorem works42_run : ((cfs tb.A tb.X 12).pure 9 []) = some (.bool true) := by kernel_rfl

theorem ps_works42 : PS tb 9 [] (.bool true) := ⟨12, works42_run⟩

def tttt : Fl := ⟨true, true, true, true⟩

theorem ps_enew (n k : Nat) (h : k < n) (h5 : n ≤ 5) : PS tb 10 [.int .i64 ((k + 1 : Nat) : Int), .int .i64 n] (.tuple [.agg (mC ⟨((k + 1 : Nat) : Int), n, 0, 0, [], 1, 0, [], [], []⟩ tttt), .int .i64 0]) := by
  obtain rfl | rfl | rfl | rfl | rfl : n = 1 ∨ n = 2 ∨ n = 3 ∨ n = 4 ∨ n = 5 := by omega
  all_goals obtain rfl | rfl | rfl | rfl | rfl : k = 0 ∨ k = 1 ∨ k = 2 ∨ k = 3 ∨ k = 4 := by omega
  all_goals first
    | (exfalso; omega)
    | exact ⟨10, by kernel_rfl⟩

def newK (n k : Nat) : List (M × Fl) := (List.range k).map fun i => ((⟨((i + 1 : Nat) : Int), n, 0, 0, [], 1, 0, [], [], []⟩ : M), tttt)

theorem newK_len (n k : Nat) : (newK n k).length = k := by simp [newK]

theorem newK_succ (n k : Nat) : newK n (k + 1) = newK n k ++ [((⟨((k + 1 : Nat) : Int), n, 0, 0, [], 1, 0, [], [], []⟩ : M), tttt)] := by simp [newK, List.range_succ]

theorem l_rm3 (n : Nat) (h5 : n ≤ 5) (w : Bool) (ev : List Evt) (K : Ex → St → Prop)
    (hx : K (.exit 0) ⟨[(0, .p (.int .i64 n)), (1, .p (.slice w (evsPV ev))), (5, .ptr 0 0)], [(2, .row false 10 (memPV (newK n n))), (0, .var false [.ref 2 n 0 n, .p (.slice true [])])], 3, [0]⟩) : ∀ (j k : Nat), 1 ≤ k → k + j = n →
    W tb a3_l3 ⟨[(0, .p (.int .i64 n)), (1, .p (.slice w (evsPV ev))), (5, .ptr 0 0), (6, .p (.int .i64 (k + 1 : Nat)))], [(2, .row false 10 (memPV (newK n k))), (0, .var false [.ref 2 k 0 k, .p (.slice true [])])], 3, [0]⟩ (LK tb (.ghost (.free [7]) (.ghost .lower a3_l3)) K) := by
  intro j
  induction j with
  | zero =>
    intro k _ hk
    have e : k = n := by omega
    subst e
    have g1 : ¬ ((k + 1 : Nat) : Int) ≤ (k : Int) := by omega
    refine i_code (by unfold a3_l3; exact rfl) ?_
    repeat' (first | (simp (disch := omega) only [go_sem, seval, reduceCtorEq, g1]) | with_reducible exact Ev.mk | ((first | apply x_split | apply x_splitg) <;> intro hβ hb <;> (simp (disch := omega) only [go_sem, seval, reduceCtorEq, g1, hβ]) <;> clear hβ))
    exact hx
  | succ j ih =>
    intro k h1 hk
    have g1 : ((k + 1 : Nat) : Int) ≤ (n : Int) := by omega
    have q := ps_enew n k (by omega) h5
    have sing : [[PV.int .i64 ((k + 1 : Nat) : Int), .int .i64 (n : Int), .int .i64 0, .int .i64 0, .slice true [], .int .i64 1, .int .i64 0, .slice true [], .slice true [], .slice true []]] = memPV [((⟨((k + 1 : Nat) : Int), n, 0, 0, [], 1, 0, [], [], []⟩ : M), tttt)] := rfl
    have nl := newK_len n k
    have m1 : (k + 1) * 144 ≤ 140737488355328 := by omega
    have m2 : k ≤ 140737488355327 := by omega
    have ih := ih (k + 1) (by omega) (by omega)
    rw [newK_succ] at ih
    refine i_code (by unfold a3_l3; exact rfl) ?_
    repeat' (first | exact q | (simp (disch := omega) only [go_sem, seval, reduceCtorEq, g1, mC, tttt, itemsPV_nil, intsPV_nil, sing, memPV_sz, memPV_append, memPV_length, nl, m1, m2, List.length_append, List.take_length, maxBytes]) | with_reducible exact Ev.mk | apply x_call | ((first | apply x_split | apply x_splitg) <;> intro hβ hb <;> (simp (disch := omega) only [go_sem, seval, reduceCtorEq, g1, mC, tttt, itemsPV_nil, intsPV_nil, sing, memPV_sz, memPV_append, memPV_length, nl, m1, m2, List.length_append, List.take_length, maxBytes, hβ]) <;> clear hβ))
    refine i_lk (W_round ?_)
    (try simp (disch := omega) only [go_sem, seval, reduceCtorEq])
    exact ih

/-- The group's memory in the loop of events. -/
def rmH (g0 g1 : DV) (fz : Bool) (rows : List (List PV)) : Heap := [(2, .row fz 10 rows), (0, .var false [g0, g1])]

theorem l_rm0 (n : Nat) (h5 : n ≤ 5) (w : Bool) (ev : List Evt) (la : List (M × Fl)) (a : Bool) (net : List (X × Bool)) (b fz : Bool) (rows : List (List PV)) (hla : la.length = n) (hlog : ∀ t ∈ la, t.1.log.length ≤ 256) (hmt : ∀ t ∈ la, ∀ u ∈ la, Mtch t.1.log u.1.log) (i c : Nat) (hc : c < n) (K : Ex → St → Prop)
    (hx : K (.exit 6) ⟨[(0, .p (.int .i64 n)), (1, .p (.slice w (evsPV ev))), (5, .ptr 0 0), (9, .p (.int .i64 i)), (10, .p (.int .i64 c))], rmH (.p (.slice a (memPV la))) (.p (.slice b (netPV net))) fz rows, 3, [0]⟩) : ∀ (r k : Nat), k + r = c →
    W tb a3_l0 ⟨[(0, .p (.int .i64 n)), (1, .p (.slice w (evsPV ev))), (5, .ptr 0 0), (9, .p (.int .i64 i)), (10, .p (.int .i64 c)), (11, .p (.int .i64 k))], rmH (.p (.slice a (memPV la))) (.p (.slice b (netPV net))) fz rows, 3, [0]⟩ (LK tb (.ghost .lower a3_l0) K) := by
  simp only [rmH] at hx
  intro r
  induction r with
  | zero =>
    intro k hk
    have h1 : ¬ (k : Int) < c := by omega
    refine i_code (by unfold a3_l0; exact rfl) ?_
    repeat' (first | (simp (disch := omega) only [go_sem, seval, reduceCtorEq, rmH, h1]) | with_reducible exact Ev.mk | ((first | apply x_split | apply x_splitg) <;> intro hβ hb <;> (simp (disch := omega) only [go_sem, seval, reduceCtorEq, rmH, h1, hβ]) <;> clear hβ))
    exact hx
  | succ r ih =>
    intro k hk
    have h1 : (k : Int) < c := by omega
    have k1 : k < la.length := by omega
    have k2 : c < la.length := by omega
    have g1 := memPV_get la k k1
    have g2 := memPV_get la c k2
    have g3 : (k : Int) < la.length := by omega
    have g4 : (c : Int) < la.length := by omega
    have g5 : (0 : Int) ≤ k := by omega
    have g6 : (0 : Int) ≤ c := by omega
    have m1 := List.getElem_mem k1
    have m2 := List.getElem_mem k2
    have q := ps_match la[c].1.log la[k].1.log (by have := hlog _ m2; omega) (by have := hlog _ m1; omega) la[c].2.a la[k].2.a (hmt _ m2 _ m1)
    have ih := ih (k + 1) (by omega)
    simp only [rmH] at ih
    refine i_code (by unfold a3_l0; exact rfl) ?_
    repeat' (first | exact q | (simp (disch := omega) only [go_sem, seval, reduceCtorEq, rmH, h1, g1, g2, g3, g4, g5, g6, mC, memPV_length]) | with_reducible exact Ev.mk | apply x_call | ((first | apply x_split | apply x_splitg) <;> intro hβ hb <;> (simp (disch := omega) only [go_sem, seval, reduceCtorEq, rmH, h1, g1, g2, g3, g4, g5, g6, mC, memPV_length, hβ]) <;> clear hβ))
    refine i_lk (W_round ?_)
    (try simp (disch := omega) only [go_sem, seval, reduceCtorEq])
    exact ih

theorem l_rm1 (n : Nat) (h5 : n ≤ 5) (w : Bool) (ev : List Evt) (la : List (M × Fl)) (a : Bool) (net : List (X × Bool)) (b fz : Bool) (rows : List (List PV)) (hla : la.length = n) (hlog : ∀ t ∈ la, t.1.log.length ≤ 256) (hmt : ∀ t ∈ la, ∀ u ∈ la, Mtch t.1.log u.1.log) (i : Nat) (K : Ex → St → Prop)
    (hx : K (.exit 4) ⟨[(0, .p (.int .i64 n)), (1, .p (.slice w (evsPV ev))), (5, .ptr 0 0), (9, .p (.int .i64 i))], rmH (.p (.slice a (memPV la))) (.p (.slice b (netPV net))) fz rows, 3, [0]⟩) : ∀ (r c : Nat), c + r = n →
    W tb a3_l1 ⟨[(0, .p (.int .i64 n)), (1, .p (.slice w (evsPV ev))), (5, .ptr 0 0), (9, .p (.int .i64 i)), (10, .p (.int .i64 c))], rmH (.p (.slice a (memPV la))) (.p (.slice b (netPV net))) fz rows, 3, [0]⟩ (LK tb (.ghost .lower a3_l1) K) := by
  intro r
  induction r with
  | zero =>
    intro c hk
    have h1 : ¬ (c : Int) < n := by omega
    simp only [rmH] at hx
    refine i_code (by unfold a3_l1; exact rfl) ?_
    repeat' (first | (simp (disch := omega) only [go_sem, seval, reduceCtorEq, rmH, h1]) | with_reducible exact Ev.mk | ((first | apply x_split | apply x_splitg) <;> intro hβ hb <;> (simp (disch := omega) only [go_sem, seval, reduceCtorEq, rmH, h1, hβ]) <;> clear hβ))
    exact hx
  | succ r ih =>
    intro c hk
    have h1 : (c : Int) < n := by omega
    have ih := ih (c + 1) (by omega)
    simp only [rmH] at ih
    refine i_code (by unfold a3_l1; exact rfl) ?_
    repeat' (first | (simp (disch := omega) only [go_sem, seval, reduceCtorEq, rmH, h1]) | with_reducible exact Ev.mk | ((first | apply x_split | apply x_splitg) <;> intro hβ hb <;> (simp (disch := omega) only [go_sem, seval, reduceCtorEq, rmH, h1, hβ]) <;> clear hβ))
    refine W_round ?_
    (try simp (disch := omega) only [go_sem, seval, reduceCtorEq])
    refine l_rm0 n h5 w ev la a net b fz rows hla hlog hmt i c (by omega) _ ?_ c 0 (by omega)
    (try simp (disch := omega) only [go_sem, seval, reduceCtorEq, rmH])
    refine i_lk (W_round ?_)
    (try simp (disch := omega) only [go_sem, seval, reduceCtorEq])
    exact ih

/-- What is so in the loop of events. -/
def RmI (n : Nat) (c : List M × List X) : Prop := okC c.1 c.2 = true ∧ c.1.length = n ∧ ∃ LL Ld A, RInv n c LL Ld A

theorem RmI.step {n : Nat} {c : List M × List X} (h : RmI n c) (e : Evt) : RmI n (stepR c e) := by
  obtain ⟨a, b, LL, Ld, A, r⟩ := h
  obtain ⟨p, q⟩ := okC_step (e := e) a
  obtain ⟨LL', Ld', A', r', _⟩ := r.step e
  exact ⟨p, by rw [q, b], LL', Ld', A', r'⟩

theorem RmI.mtch {n : Nat} {c : List M × List X} (h : RmI n c) {m p : M} (hm : m ∈ c.1) (hp : p ∈ c.1) : Mtch m.log p.log := by
  obtain ⟨a, b, LL, Ld, A, S, E, VL, CL, R, _⟩ := h
  obtain ⟨i, hi, rfl⟩ := List.getElem_of_mem hm
  obtain ⟨j, hj, rfl⟩ := List.getElem_of_mem hp
  intro k x y hx hy e
  exact R.base.agree (List.getElem?_eq_getElem hi) (List.getElem?_eq_getElem hj) hx hy e

theorem RmI.logs {n : Nat} {l : List (M × Fl)} {net : List X} (h : RmI n (fsts l, net)) : (∀ t ∈ l, t.1.log.length ≤ 256) ∧ ∀ t ∈ l, ∀ u ∈ l, Mtch t.1.log u.1.log := by
  have memf : ∀ {t : M × Fl}, t ∈ l → t.1 ∈ fsts l := fun ht => List.mem_map.2 ⟨_, ht, rfl⟩
  refine ⟨fun t ht => ?_, fun t ht u hu => h.mtch (memf ht) (memf hu)⟩
  obtain ⟨j, hj, rfl⟩ := List.getElem_of_mem ht
  exact log_of ((okC_facts h.1).2.2.2.1 j l[j].1 (fsts_get l _ hj)).2.2

theorem l_rm2 (n : Nat) (h1 : 1 ≤ n) (h5 : n ≤ 5) (w : Bool) (ev : List Evt) (hev : ev.length ≤ 60) (fz : Bool) (rows : List (List PV)) (K : Ex → St → Prop)
    (hx : ∀ s, s.env = [] → K (.exit 2) s) (hr : ∀ s, s.env = [(4, .p (.bool true)), (5, .ptr 0 0)] → K .ret s) : ∀ (r i : Nat), i + r = ev.length → ∀ (la : List (M × Fl)) (a : Bool) (net : List (X × Bool)) (b : Bool), RmI n (fsts la, fstx net) →
    W tb a3_l2 ⟨[(0, .p (.int .i64 n)), (1, .p (.slice w (evsPV ev))), (5, .ptr 0 0), (9, .p (.int .i64 i))], rmH (.p (.slice a (memPV la))) (.p (.slice b (netPV net))) fz rows, 3, [0]⟩ (LK tb (.ghost .lower a3_l2) K) := by
  intro r
  induction r with
  | zero =>
    intro i hi la a net b hI
    have g1 : ¬ (i : Int) < ev.length := by omega
    refine i_code (by unfold a3_l2; exact rfl) ?_
    repeat' (first | (simp (disch := omega) only [go_sem, seval, reduceCtorEq, rmH, g1, evsPV_length]) | with_reducible exact Ev.mk | ((first | apply x_split | apply x_splitg) <;> intro hβ hb <;> (simp (disch := omega) only [go_sem, seval, reduceCtorEq, rmH, g1, evsPV_length, hβ]) <;> clear hβ))
    exact hx _ rfl
  | succ r ih =>
    intro i hi la a net b hI
    have g1 : (i : Int) < ev.length := by omega
    have g2 : i < ev.length := by omega
    have g3 := evsPV_get ev i g2
    have g4 : (0 : Int) ≤ i := by omega
    have ih := ih (i + 1) (by omega)
    have hS := hI.step ev[i]
    generalize ev[i] = e at *
    obtain ⟨kind, node, at_, data⟩ := e
    obtain ⟨p, hp, l2, a2, n2, b2, rfl, e1, e2⟩ := ps_s42 la a net b kind node at_ data hI.1
    generalize (stepR (fsts la, fstx net) ⟨kind, node, at_, data⟩) = c at *
    obtain ⟨c1, c2⟩ := c
    simp only at e1 e2
    subst e1 e2
    have lg := hS.logs
    have ih := ih l2 a2 n2 b2 hS
    simp only [rmH] at ih
    simp only [evC] at g3 hp
    refine i_code (by unfold a3_l2; exact rfl) ?_
    by_cases hd : (200 : Int) < data.size
    · repeat' (first | exact ps_works42 | (simp (disch := omega) only [go_sem, seval, reduceCtorEq, rmH, g1, g3, g4, hd, evsPV_length]) | with_reducible exact Ev.mk | apply x_call | ((first | apply x_split | apply x_splitg) <;> intro hβ hb <;> (simp (disch := omega) only [go_sem, seval, reduceCtorEq, rmH, g1, g3, g4, hd, evsPV_length, hβ]) <;> clear hβ))
      exact hr _ rfl
    · repeat' (first | exact hp | (simp (disch := omega) only [go_sem, seval, reduceCtorEq, rmH, g1, g3, g4, hd, evsPV_length]) | with_reducible exact Ev.mk | apply x_call | ((first | apply x_split | apply x_splitg) <;> intro hβ hb <;> (simp (disch := omega) only [go_sem, seval, reduceCtorEq, rmH, g1, g3, g4, hd, evsPV_length, hβ]) <;> clear hβ))
      refine W_round ?_
      (try simp (disch := omega) only [go_sem, seval, reduceCtorEq])
      refine l_rm1 n h5 w ev l2 a2 n2 b2 fz rows (by have := hS.2.1; rwa [fsts_length] at this) lg.1 lg.2 i _ ?_ n 0 (by omega)
      (try simp (disch := omega) only [go_sem, seval, reduceCtorEq, rmH])
      refine i_lk (W_round ?_)
      (try simp (disch := omega) only [go_sem, seval, reduceCtorEq])
      exact ih

theorem newK_ms (n : Nat) : fsts (newK n n) = newMs n := by simp [newMs, fsts, newK, newC, Function.comp_def]

theorem RmI.new (n : Nat) (h1 : 1 ≤ n) (h5 : n ≤ 5) : RmI n (fsts (newK n n), []) := by
  rw [newK_ms]
  exact ⟨okC_new n h1 (by omega), newMs_length n, _, _, _, RInv.new n h1 (by omega)⟩

theorem l_rm2f (n : Nat) (h1 : 1 ≤ n) (h5 : n ≤ 5) (w : Bool) (ev : List Evt) (hev : ev.length ≤ 60) (K : Ex → St → Prop)
    (hx : ∀ s, s.env = [] → K (.exit 2) s) (hr : ∀ s, s.env = [(4, .p (.bool true)), (5, .ptr 0 0)] → K .ret s) :
    W tb a3_l2 ⟨[(0, .p (.int .i64 n)), (1, .p (.slice w (evsPV ev))), (5, .ptr 0 0), (9, .p (.int .i64 0))], [(2, .row false 10 (memPV (newK n n))), (0, .var false [.ref 2 n 0 n, .p (.slice true [])])], 3, [0]⟩ (LK tb (.ghost .lower a3_l2) K) := by
  by_cases g0 : 0 < ev.length
  · have g1 : (0 : Int) < ev.length := by omega
    have g3 := evsPV_get ev 0 g0
    have hS := (RmI.new n h1 h5).step ev[0]
    generalize ev[0] = e at *
    obtain ⟨kind, node, at_, data⟩ := e
    obtain ⟨p, hp, l2, a2, n2, b2, rfl, e1, e2⟩ := ps_s42 (newK n n) false [] true kind node at_ data (RmI.new n h1 h5).1
    have hS : RmI n (stepR (fsts (newK n n), fstx []) ⟨kind, node, at_, data⟩) := hS
    generalize (stepR (fsts (newK n n), fstx []) ⟨kind, node, at_, data⟩) = c at *
    obtain ⟨c1, c2⟩ := c
    simp only at e1 e2
    subst e1 e2
    have lg := hS.logs
    have nl := newK_len n n
    have tk : (memPV (newK n n)).take n = memPV (newK n n) := List.take_of_length_le (by rw [memPV_length, nl]; omega)
    simp only [evC] at g3 hp
    refine i_code (by unfold a3_l2; exact rfl) ?_
    by_cases hd : (200 : Int) < data.size
    · repeat' (first | exact ps_works42 | (simp (disch := omega) only [go_sem, seval, reduceCtorEq, g1, g3, hd, evsPV_length]) | with_reducible exact Ev.mk | apply x_call | ((first | apply x_split | apply x_splitg) <;> intro hβ hb <;> (simp (disch := omega) only [go_sem, seval, reduceCtorEq, g1, g3, hd, evsPV_length, hβ]) <;> clear hβ))
      exact hr _ rfl
    · repeat' (first | exact hp | (simp (disch := omega) only [go_sem, seval, reduceCtorEq, g1, g3, hd, evsPV_length, memPV_length, memPV_sz, nl, tk, netPV_nil, List.take_length]) | with_reducible exact Ev.mk | apply x_call | ((first | apply x_split | apply x_splitg) <;> intro hβ hb <;> (simp (disch := omega) only [go_sem, seval, reduceCtorEq, g1, g3, hd, evsPV_length, memPV_length, memPV_sz, nl, tk, netPV_nil, List.take_length, hβ]) <;> clear hβ))
      refine W_round ?_
      (try simp (disch := omega) only [go_sem, seval, reduceCtorEq])
      refine l_rm1 n h5 w ev l2 a2 n2 b2 _ _ (by have := hS.2.1; rwa [fsts_length] at this) lg.1 lg.2 0 _ ?_ n 0 (by omega)
      (try simp (disch := omega) only [go_sem, seval, reduceCtorEq, rmH])
      refine i_lk (W_round ?_)
      (try simp (disch := omega) only [go_sem, seval, reduceCtorEq])
      exact l_rm2 n h1 h5 w ev hev _ _ K hx hr (ev.length - 1) 1 (by omega) l2 a2 n2 b2 hS
  · have g1 : ¬ (0 : Int) < ev.length := by omega
    refine i_code (by unfold a3_l2; exact rfl) ?_
    repeat' (first | (simp (disch := omega) only [go_sem, seval, reduceCtorEq, g1, evsPV_length]) | with_reducible exact Ev.mk | ((first | apply x_split | apply x_splitg) <;> intro hβ hb <;> (simp (disch := omega) only [go_sem, seval, reduceCtorEq, g1, evsPV_length, hβ]) <;> clear hβ))
    exact hx _ rfl

theorem walkReplicateMatches {u v : PV} (h : Fit (.int .i64) u) (h' : Fit (.slice [.int .i64, .int .i64, .int .i64, .str]) v) : PS tb 3 [u, v] (.bool true) := by
  obtain ⟨z, rfl, _⟩ := fit_int h
  obtain ⟨ev, rfl, _⟩ := fit_events h'
  refine PS_of (af := a3) rfl rfl ?_
  unfold a3
  dsimp only [List.map, ofPV, initEnv]
  by_cases c1 : z < 1
  · repeat' (first | exact ps_works42 | (simp (disch := omega) only [go_sem, seval, reduceCtorEq, c1]) | with_reducible exact Ev.mk | apply x_call | ((first | apply x_split | apply x_splitg) <;> intro hβ hb <;> (simp (disch := omega) only [go_sem, seval, reduceCtorEq, c1, hβ]) <;> clear hβ))
  · by_cases c2 : 5 < z
    · repeat' (first | exact ps_works42 | (simp (disch := omega) only [go_sem, seval, reduceCtorEq, c1, c2]) | with_reducible exact Ev.mk | apply x_call | ((first | apply x_split | apply x_splitg) <;> intro hβ hb <;> (simp (disch := omega) only [go_sem, seval, reduceCtorEq, c1, c2, hβ]) <;> clear hβ))
    · by_cases c3 : 60 < (ev.length : Int)
      · repeat' (first | exact ps_works42 | (simp (disch := omega) only [go_sem, seval, reduceCtorEq, c1, c2, c3, evsPV_length]) | with_reducible exact Ev.mk | apply x_call | ((first | apply x_split | apply x_splitg) <;> intro hβ hb <;> (simp (disch := omega) only [go_sem, seval, reduceCtorEq, c1, c2, c3, evsPV_length, hβ]) <;> clear hβ))
      · obtain ⟨n, rfl⟩ := Int.eq_ofNat_of_zero_le (show 0 ≤ z by omega)
        have n1 : 1 ≤ n := by omega
        have n5 : n ≤ 5 := by omega
        have g1 : (1 : Int) ≤ (n : Int) := by omega
        have q : PS tb 10 [.int .i64 1, .int .i64 n] (.tuple [.agg (mC ⟨1, n, 0, 0, [], 1, 0, [], [], []⟩ tttt), .int .i64 0]) := ps_enew n 0 (by omega) n5
        have sing : [[PV.int .i64 1, .int .i64 (n : Int), .int .i64 0, .int .i64 0, .slice true [], .int .i64 1, .int .i64 0, .slice true [], .slice true [], .slice true []]] = memPV (newK n 1) := rfl
        have nl := newK_len n 1
        repeat' (first | (simp (disch := omega) only [go_sem, seval, reduceCtorEq, c1, c2, c3, evsPV_length]) | with_reducible exact Ev.mk | ((first | apply x_split | apply x_splitg) <;> intro hβ hb <;> (simp (disch := omega) only [go_sem, seval, reduceCtorEq, c1, c2, c3, evsPV_length, hβ]) <;> clear hβ))
        refine W_round ?_
        (try simp (disch := omega) only [go_sem, seval, reduceCtorEq])
        refine i_code (by unfold a3_l3; exact rfl) ?_
        repeat' (first | exact q | (simp (disch := omega) only [go_sem, seval, reduceCtorEq, g1, mC, tttt, itemsPV_nil, intsPV_nil, sing, memPV_sz, memPV_length, nl, List.take_length, List.nil_append, maxBytes]) | with_reducible exact Ev.mk | apply x_call | ((first | apply x_split | apply x_splitg) <;> intro hβ hb <;> (simp (disch := omega) only [go_sem, seval, reduceCtorEq, g1, mC, tttt, itemsPV_nil, intsPV_nil, sing, memPV_sz, memPV_length, nl, List.take_length, List.nil_append, maxBytes, hβ]) <;> clear hβ))
        refine i_lk (W_round ?_)
        (try simp (disch := omega) only [go_sem, seval, reduceCtorEq])
        refine l_rm3 n n5 false ev _ ?_ (n - 1) 1 (by omega) (by omega)
        (try simp (disch := omega) only [go_sem, seval, reduceCtorEq])
        refine W_round ?_
        (try simp (disch := omega) only [go_sem, seval, reduceCtorEq])
        refine l_rm2f n n1 n5 false ev (by omega) _ ?_ ?_
        · intro s hs
          obtain ⟨e, H, nx, mk⟩ := s
          cases hs
          repeat' (first | exact ps_works42 | (simp (disch := omega) only [go_sem, seval, reduceCtorEq]) | with_reducible exact Ev.mk | apply x_call | ((first | apply x_split | apply x_splitg) <;> intro hβ hb <;> (simp (disch := omega) only [go_sem, seval, reduceCtorEq, hβ]) <;> clear hβ))
        · intro s hs
          obtain ⟨e, H, nx, mk⟩ := s
          cases hs
          repeat' (first | (simp (disch := omega) only [go_sem, seval, reduceCtorEq]) | with_reducible exact Ev.mk | ((first | apply x_split | apply x_splitg) <;> intro hβ hb <;> (simp (disch := omega) only [go_sem, seval, reduceCtorEq, hβ]) <;> clear hβ))

end Go.Dv.Try
