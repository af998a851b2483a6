/-
  Specifications of the functions of this claim, parts 23, 43, 24, 10, 11.
-/
import Derived.Test.YtpjpnooiofegoaaTab
import Derived.Test.YtpjpnooiofegoaaStep
import Derived.Test.YtpjpnooiofegoaaS1
import Derived.Test.YtpjpnooiofegoaaS7
import Derived.Test.YtpjpnooiofegoaaS12
import Derived.Test.YtpjpnooiofegoaaS16
import Derived.Test.YtpjpnooiofegoaaS17
import Derived.Test.YtpjpnooiofegoaaS18
import Derived.Test.YtpjpnooiofegoaaS24
import Derived.Test.YtpjpnooiofegoaaS37
import Derived.Test.YtpjpnooiofegoaaS42
import Derived.Test.YtpjpnooiofegoaaS46
import Derived.Test.YtpjpnooiofegoaaS49
import Derived.Test.YtpjpnooiofegoaaS52
set_option linter.unusedVariables false
set_option linter.unusedSimpArgs false
set_option maxRecDepth 100000
set_option maxHeartbeats 16000000
namespace Go.Dv.Try
open Go Go.Dv

/-- Where the count of equal items stops, the items differ or the log ends. -/
theorem sameN_stop (log : List It) : ∀ (l : List It) (k : Nat), ∀ y z, log[k + sameN log k l]? = some y → l[sameN log k l]? = some z → sameIt y z = false := by
  intro l
  induction l with
  | nil => intro k y z _ hz; simp at hz
  | cons a r ih =>
    intro k y z hy hz
    unfold sameN at hy hz
    cases hl : log[k]? with
    | none =>
      rw [hl] at hy hz
      simp only [Nat.add_zero] at hy
      rw [hl] at hy; cases hy
    | some b =>
      rw [hl] at hy hz
      simp only at hy hz
      cases hs : sameIt b a with
      | false =>
        rw [hs] at hy hz
        simp only [Bool.false_eq_true, if_false, Nat.add_zero, List.getElem?_cons_zero] at hy hz
        rw [hl] at hy
        cases hy; cases hz
        exact hs
      | true =>
        rw [hs] at hy hz
        simp only [if_true, List.getElem?_cons_succ] at hy hz
        refine ih (k + 1) y z ?_ hz
        rw [← hy]
        congr 1
        omega

theorem sameIt_eq {y z : It} (h : sameIt y z = true) : y = z := by
  simp only [sameIt, Bool.and_eq_true, beq_iff_eq] at h
  refine Prod.ext h.1 ?_
  have e2 := h.2
  rw [ByteArray.toList_eq, ByteArray.toList_eq] at e2
  exact ByteArray.ext (Array.toList_inj.1 e2)

section
variable {n : Nat} {g : List M} {S : List X} {E : List Ev} {LL : Int → List It} {Ld : Int → Option Int} {A : List Ack} {VL CL : Int → Int → List It}

/-- What an append makes of a log: the leader's first items, or it stays and has them. -/
theorem logX_eq (h : Raft n g S E LL Ld) {i : Nat} {m : M} (hi : g[i]? = some m) {b : M} (hb : b.log = m.log) {x : X} (hx : Piece LL Ld x) (i0 : 0 ≤ x.index) (hm : missX b x = false) :
    x.index.toNat + x.items.length ≤ (LL x.term).length ∧ (logX b x).take (x.index.toNat + x.items.length) = (LL x.term).take (x.index.toNat + x.items.length) ∧
    (logX b x = m.log ∨ (logX b x = (LL x.term).take (x.index.toNat + x.items.length) ∧ ∀ k, x.index.toNat + x.items.length < k → k ≤ (LL x.term).length → m.log.take k ≠ (LL x.term).take k)) := by
  have gm := h.good i m hi
  obtain ⟨⟨c, hc⟩, p1, p2, p3⟩ := hx
  have gR := h.goodL _ _ hc
  simp only [missX, hb, Bool.or_eq_false_iff, Bool.and_eq_false_iff, decide_eq_false_iff_not] at hm
  obtain ⟨m1, m2⟩ := hm
  have hlen : x.items.length ≤ (LL x.term).length - x.index.toNat := by
    have := congrArg List.length p3
    rw [List.length_take, List.length_drop] at this
    omega
  have hlen2 : x.index.toNat + x.items.length ≤ (LL x.term).length := by omega
  have pre : m.log.take x.index.toNat = (LL x.term).take x.index.toNat := by
    by_cases z : x.index = 0
    · rw [z]; simp
    · have ht : termN m.log x.index = x.logTerm := by
        rcases m2 with e | e
        · exact absurd z (by simpa using e)
        · exact Decidable.not_not.1 e
      have k1 : (x.index - 1).toNat < m.log.length := by omega
      have k2 : (x.index - 1).toNat < (LL x.term).length := by omega
      have e1 : termN m.log x.index = m.log[(x.index - 1).toNat].1 := by rw [termN, if_neg z, itTerm_eq _ _ k1]
      have e2 : termN (LL x.term) x.index = (LL x.term)[(x.index - 1).toNat].1 := by rw [termN, if_neg z, itTerm_eq _ _ k2]
      have := good_match gm gR (List.getElem?_eq_getElem k1) (List.getElem?_eq_getElem k2) (by rw [← e1, ← e2, ht, p2])
      have e : (x.index - 1).toNat + 1 = x.index.toNat := by omega
      rw [e] at this
      exact this
  have sp := sameN_spec m.log x.items x.index.toNat
  have st := sameN_stop m.log x.items x.index.toNat
  have s1 := sameN_le m.log x.items x.index.toNat
  have s2 := sameN_log m.log x.items x.index.toNat (by omega)
  have es : sameX b x = sameN m.log x.index.toNat x.items := by unfold sameX; rw [hb]
  have item : ∀ j, j < x.items.length → x.items[j]? = (LL x.term)[x.index.toNat + j]? := by
    intro j hj
    have := congrArg (fun l => l[j]?) p3
    simp only [List.getElem?_take, if_pos hj, List.getElem?_drop] at this
    exact this
  -- the first items are the leader's
  have pre2 : m.log.take (x.index.toNat + sameN m.log x.index.toNat x.items) = (LL x.term).take (x.index.toNat + sameN m.log x.index.toNat x.items) := by
    refine List.ext_getElem? fun j => ?_
    rw [List.getElem?_take, List.getElem?_take]
    split
    · rename_i hj
      rcases Nat.lt_or_ge j x.index.toNat with hl | hl
      · have := congrArg (fun l => l[j]?) pre
        simp only [List.getElem?_take, if_pos hl] at this
        exact this
      · have hz : j - x.index.toNat < x.items.length := by omega
        obtain ⟨y, y1, y2⟩ := sp (j - x.index.toNat) x.items[j - x.index.toNat] (by omega) (List.getElem?_eq_getElem hz)
        have ej : x.index.toNat + (j - x.index.toNat) = j := by omega
        rw [ej] at y1
        have z1 := item _ hz
        rw [ej] at z1
        rw [y1, ← z1, List.getElem?_eq_getElem hz, sameIt_eq y2]
    · rfl
  unfold logX
  rw [es, hb]
  split
  · rename_i hs
    generalize hw : sameN m.log x.index.toNat x.items = w at *
    have all : m.log.take (x.index.toNat + w) ++ x.items.drop w = (LL x.term).take (x.index.toNat + x.items.length) := by
      rw [pre2]
      refine List.ext_getElem? fun j => ?_
      rw [List.getElem?_append]
      have hl : ((LL x.term).take (x.index.toNat + w)).length = x.index.toNat + w := by simp; omega
      rw [hl, List.getElem?_take]
      by_cases hj : j < x.index.toNat + w
      · rw [if_pos hj, if_pos hj, List.getElem?_take, if_pos (by omega)]
      · rw [if_neg hj, List.getElem?_drop, List.getElem?_take]
        have e : w + (j - (x.index.toNat + w)) = j - x.index.toNat := by omega
        rw [e]
        by_cases h2 : j < x.index.toNat + x.items.length
        · rw [if_pos h2, item _ (by omega)]
          congr 1; omega
        · rw [if_neg h2, List.getElem?_eq_none (by omega)]
    rw [all]
    refine ⟨hlen2, by rw [take_take_le _ (Nat.le_refl _)], .inr ⟨rfl, fun k hk hkl hP => ?_⟩⟩
    -- equal further on, yet the count stopped
    have hz : w < x.items.length := by omega
    have z1 := item w hz
    have y1 : m.log[x.index.toNat + w]? = (LL x.term)[x.index.toNat + w]? := by
      have := congrArg (fun l => l[x.index.toNat + w]?) hP
      simp only [List.getElem?_take] at this
      rw [if_pos (by omega), if_pos (by omega)] at this
      exact this
    rw [← z1, List.getElem?_eq_getElem hz] at y1
    have := st _ _ y1 (List.getElem?_eq_getElem hz)
    rw [sameIt_refl] at this
    cases this
  · rename_i hs
    have ew : sameN m.log x.index.toNat x.items = x.items.length := by omega
    rw [ew] at pre2
    exact ⟨hlen2, pre2, .inl rfl⟩

theorem Raft2.append (h : Raft2 n g S E LL Ld A VL CL) {i : Nat} {m : M} (hi : g[i]? = some m) {x : X} (hx : x ∈ S) : After2 n g S E LL Ld A i (appR m x).1 (appR m x).2.toList := by
  obtain ⟨ho, hid, hme⟩ := h.base.ok i m hi
  have gg := goes_app (x := x) ho
  have aft := h.base.append hi hx
  have dull : (appR m x).1.log = m.log → (appR m x).1.commit = m.commit → ((appR m x).1 = m ∨ (appR m x).1.role = 1) → (∀ y ∈ (appR m x).2.toList, y.ok = false) → After2 n g S E LL Ld A i (appR m x).1 (appR m x).2.toList := by
    intro e1 e2 e3 e4
    refine h.still hi aft e1 (.inl e2) gg.term (fun ha hr => ?_) (fun y hy e => by have := app_kind hy; omega) (fun y hy _ => e4 y hy) (fun y hy e => by have := app_kind hy; omega)
    rcases e3 with e | e
    · rw [e]; exact ⟨rfl, rfl⟩
    · omega
  by_cases c1 : concernsX m x 3 = false
  · have e : appR m x = (m, none) := if_pos c1
    rw [e] at dull ⊢
    exact dull rfl rfl (.inl rfl) (by simp)
  · by_cases c2 : x.term < m.term
    · have e : appR m x = (m, some (replyX m x.frm 0 false)) := by unfold appR; rw [if_neg c1, if_pos c2]
      rw [e] at dull ⊢
      exact dull rfl rfl (.inl rfl) (by simp [replyX])
    · by_cases c3 : (app1 m x).role = 3
      · have e0 : app1 m x = m := by
          unfold app1 at c3 ⊢
          split
          · rename_i hu; rw [if_pos hu] at c3; have c3 : (1 : Int) = 3 := c3; omega
          · rfl
        have e : appR m x = (m, none) := by unfold appR; rw [if_neg c1, if_neg c2, if_pos c3, e0]
        rw [e] at dull ⊢
        exact dull rfl rfl (.inl rfl) (by simp)
      · have e : appR m x = app3 (app2 m x) x := by unfold appR; rw [if_neg c1, if_neg c2, if_neg c3]
        obtain ⟨a1, a2, a3, a4⟩ := app2_eqs m x
        by_cases c4 : missX (app2 m x) x = true
        · have e' : appR m x = (app2 m x, some (replyX (app2 m x) x.frm (mn (app2 m x).log.length (x.index - 1)) false)) := by rw [e]; unfold app3; rw [if_pos c4]
          rw [e'] at dull ⊢
          exact dull a1 a2 (.inr a3) (by simp [replyX])
        · by_cases c5 : fullX (app2 m x) x = true
          · have e' : appR m x = (app2 m x, none) := by rw [e]; unfold app3; rw [if_neg c4, if_pos c5]
            rw [e'] at dull ⊢
            exact dull a1 a2 (.inr a3) (by simp)
          · have e' : appR m x = (app4 (app2 m x) x, some (replyX (app4 (app2 m x) x) x.frm (x.index + (x.items.length : Int)) true)) := by rw [e]; unfold app3; rw [if_neg c4, if_neg c5]
            have hc1 : concernsX m x 3 = true := by simpa using c1
            obtain ⟨k1, k2, k3, k4⟩ := concerns_ok hc1
            have fx := okX_facts k2
            have i0 : 0 ≤ x.index := fx.2.2.2.2.2.2.2.2.2.1
            have pc := h.base.app x hx k4
            have hT : (appR m x).1.term = x.term := by
              rw [e']
              show (app1 m x).term = x.term
              unfold app1
              split
              · rfl
              · omega
            have hrole : (appR m x).1.role = 1 := by rw [e']; exact a3
            have hL : (appR m x).1.log = logX (app2 m x) x := by rw [e']; rfl
            obtain ⟨g1, g2, g3⟩ := logX_eq h.base hi a1 pc i0 (by simpa using c4)
            rw [← hL] at g2 g3
            have s := h.base.appendS hi hx
            have hpre := gg.pre
            have hterm := gg.term
            have hmid : (appR m x).1.id = m.id := gg.id
            have hcom : (appR m x).1.commit = mx m.commit (mn x.commit (x.index + (x.items.length : Int))) := by rw [e']; show mx (app2 m x).commit _ = _; rw [a2]
            have hrep : (appR m x).2.toList = [replyX (appR m x).1 x.frm (x.index + (x.items.length : Int)) true] := by rw [e']; rfl
            obtain ⟨⟨c, hc⟩, _⟩ := pc
            generalize (appR m x).2.toList = O at *
            generalize (appR m x).1 = a at *
            have gmi := gm_at h hi
            have t0 : ∀ v, (fun v => (gm g v).term) v ≤ upd (fun v => (gm g v).term) m.id a.term v := by
              intro v
              unfold upd
              split
              · rename_i e; subst e; show (gm g m.id).term ≤ a.term; rw [gmi]; exact hterm
              · exact Int.le_refl _
            have A0 := h.abs.bump t0
            have tv : upd (fun v => (gm g v).term) m.id a.term m.id = a.term := upd_self _ _ _
            have lv : (fun v => (gm g v).log) m.id = m.log := congrArg M.log gmi
            have m1 := (h.abs.m1 m.id).1
            simp only [gmi] at m1
            have b4 := (h.abs.l1 _ _ hc).2.2.2.1
            have A1 := A0.app (v := m.id) (c := c) (l := a.log) (by rw [tv, hT]; exact hc) (by
              rw [tv, hT]
              intro k hk hP
              have hP : (gm g m.id).log.take k = (LL x.term).take k := hP
              rw [gmi] at hP
              rcases g3 with q | ⟨q1, q2⟩
              · rw [q]; exact hP
              · by_cases hkN : x.index.toNat + x.items.length < k
                · exact absurd hP (q2 k hkN hk)
                · rw [q1, take_take_le _ (by omega)]) s.good (by
              rw [tv]
              intro z hz
              rcases g3 with q | ⟨q1, q2⟩
              · rw [q] at hz; have := m1 z hz; omega
              · rw [q1] at hz; have := b4 z (List.mem_of_mem_take hz); omega)
            have A2 := A1.ack (v := m.id) (c := c) (K := x.index.toNat + x.items.length) (by rw [tv, hT]; exact hc) (by rw [tv, hT]; exact g1) (by rw [tv, hT, upd_self]; exact g2)
            rw [tv, hT] at A2
            have ei : (x.index + (x.items.length : Int)).toNat = x.index.toNat + x.items.length := by omega
            refine ⟨[], LL, Ld, [(m.id, x.term, x.index.toNat + x.items.length)], VL, CL, h.step hi s (by rw [List.append_nil, hT]; exact A2) (fun _ _ _ => rfl) (fun hr => by omega) (fun y hy e => ?_) (by simp) (fun y hy _ _ => ?_) (fun hr => by omega) ?_ (fun y hy e => ?_), s.ext⟩
            · rw [hrep] at hy; simp only [List.mem_singleton] at hy; subst hy; have e : (4 : Int) = 1 := e; omega
            · rw [hrep] at hy; simp only [List.mem_singleton] at hy; subst hy
              refine List.mem_append.2 (.inr ?_)
              show (a.id, a.term, (x.index + (x.items.length : Int)).toNat) ∈ _
              rw [hmid, hT, ei]; simp
            · rw [hcom]
              unfold mx
              split
              · rename_i hlt
                have q := h.ca x hx k4
                refine cmt_mono s.ext (by omega) ?_ (cmt_le (d := (mn x.commit (x.index + (x.items.length : Int))).toNat) (by unfold mn; split <;> omega) q)
                have := congrArg (List.take (mn x.commit (x.index + (x.items.length : Int))).toNat) g2
                rw [take_take_le _ (by unfold mn; split <;> omega), take_take_le _ (by unfold mn; split <;> omega)] at this
                exact this
              · exact cmt_mono s.ext hterm hpre (h.cm i m hi)
            · rw [hrep] at hy; simp only [List.mem_singleton] at hy; subst hy; have e : (4 : Int) = 3 := e; omega

/-- Whatever a member receives. -/
theorem Raft2.receive (h : Raft2 n g S E LL Ld A VL CL) {i : Nat} {m : M} (hi : g[i]? = some m) {x : X} (hx : x ∈ S) : After2 n g S E LL Ld A i (receiveR m x).1 (receiveR m x).2.toList := by
  obtain ⟨ho, hid, hme⟩ := h.base.ok i m hi
  unfold receiveR
  split
  · exact h.vote hi hx
  · split
    · exact h.count hi hx
    · split
      · exact h.append hi hx
      · split
        · exact h.acked hi hx
        · exact h.still hi (h.base.quiet hi (Keeps.refl ho) fun _ => ⟨rfl, rfl, rfl⟩) rfl (.inl rfl) (Int.le_refl _) (fun _ _ => ⟨rfl, rfl⟩) (by simp) (by simp) (by simp)

end

def strPV (s : ByteArray) : List PV := [.str s]

def strsPV (l : List ByteArray) : List (List PV) := l.map strPV

theorem strsPV_length (l : List ByteArray) : (strsPV l).length = l.length := by simp [strsPV]

theorem strsPV_sz (l : List ByteArray) : allSz 1 (strsPV l) = true := by simp [allSz, strsPV, strPV]

theorem strsPV_append (a b : List ByteArray) : strsPV a ++ strsPV b = strsPV (a ++ b) := by simp [strsPV]

theorem strsPV_take (a : List ByteArray) (n : Nat) : (strsPV a).take n = strsPV (a.take n) := by simp [strsPV, List.map_take]

theorem strsPV_sing (s : ByteArray) : [[PV.str s]] = strsPV [s] := rfl

def dataL (l : List (Int × ByteArray)) : List ByteArray := l.map (·.2)

theorem dataL_len (l : List (Int × ByteArray)) : (dataL l).length = l.length := by simp [dataL]

theorem dataL_step (l : List (Int × ByteArray)) (i : Nat) (h : i < l.length) : dataL (l.take (i + 1)) = dataL (l.take i) ++ [l[i].2] := by
  unfold dataL
  rw [List.take_add_one, List.map_append, List.getElem?_eq_getElem h]
  rfl

/-- How many items are committed. -/
def comN (m : M) : Nat := (max (min m.commit m.log.length) 0).toNat

def comL (m : M) : List ByteArray := dataL (m.log.take (comN m))

theorem comN_le (m : M) : comN m ≤ m.log.length := by unfold comN; omega

theorem l57 (l : List (Int × ByteArray)) (b : Bool) (hl : l.length ≤ 100000) (K : Ex → St → Prop)
    (hx : K (.exit 0) ⟨[(3, .ref 1 (dataL l).length 0 (dataL l).length)], [(1, .row false 1 (strsPV (dataL l)))], 2, [0]⟩) : ∀ (n i : Nat), i + n = l.length →
    W tb a32_l0 ⟨[(3, .ref 1 (dataL (l.take i)).length 0 (dataL (l.take i)).length), (15, .p (.slice b (itemsPV l))), (16, .p (.int .i64 l.length)), (17, .p (.int .i64 i))], [(1, .row false 1 (strsPV (dataL (l.take i))))], 2, [0]⟩ (LK tb (.ghost (.free [1, 5]) (.ghost .lower a32_l0)) K) := by
  intro n
  induction n with
  | zero =>
    intro i hi
    have h1 : ¬ (i : Int) < l.length := by omega
    rw [List.take_of_length_le (by omega)]
    refine i_code (by unfold a32_l0; exact rfl) ?_
    repeat' (first | (simp (maxSteps := 2000000) (disch := omega) only [go_sem, seval, reduceCtorEq, h1, itemsPV_length]) | with_reducible exact Ev.mk | ((first | apply x_split | apply x_splitg) <;> intro hβ hb <;> (simp (maxSteps := 2000000) (disch := omega) only [go_sem, seval, reduceCtorEq, h1, itemsPV_length, hβ]) <;> clear hβ))
    exact hx
  | succ n ih =>
    intro i hi
    have h1 : (i : Int) < l.length := by omega
    have h2 : i < l.length := by omega
    have h3 := itemsPV_get l i h2
    have h4 : (0 : Int) ≤ i := by omega
    have h5 : (l.take i).length ≤ 100000 := by simp; omega
    have h6 := dataL_len (l.take i)
    have ih := ih (i + 1) (by omega)
    rw [dataL_step l i h2] at ih
    simp only [List.length_append, List.length_cons, List.length_nil, Nat.zero_add] at ih
    refine i_code (by unfold a32_l0; exact rfl) ?_
    repeat' (first | (simp (maxSteps := 2000000) (disch := omega) only [go_sem, seval, reduceCtorEq, h1, h3, h4, itemPV, itemsPV_length, strsPV_sing, strsPV_sz, strsPV_append, strsPV_length, List.take_length, List.length_append, maxB, h6]) | with_reducible exact Ev.mk | ((first | apply x_split | apply x_splitg) <;> intro hβ hb <;> (simp (maxSteps := 2000000) (disch := omega) only [go_sem, seval, reduceCtorEq, h1, h3, h4, itemPV, itemsPV_length, strsPV_sing, strsPV_sz, strsPV_append, strsPV_length, List.take_length, List.length_append, maxB, h6, hβ]) <;> clear hβ))
    refine i_lk (W_round ?_)
    (try simp (maxSteps := 2000000) (disch := omega) only [go_sem, seval, reduceCtorEq])
    rw [h6] at ih
    exact ih

theorem ps57 (m : M) (f : Fl) (hl0 : m.log.length ≤ 10000) : PS tb 32 [.agg (mC m f)] (.slice false (strsPV (comL m))) := by
  have c0 := comN_le m
  have hk : (max (min m.commit m.log.length) 0) = (comN m : Int) := by unfold comN; omega
  have e1 : (if (if (m.log.length : Int) < m.commit then (m.log.length : Int) else m.commit) < 0 then (0 : Int) else (if (m.log.length : Int) < m.commit then (m.log.length : Int) else m.commit)) = (comN m : Int) := by
    rw [← hk]; split <;> split <;> omega
  have c1 : (comN m : Int) ≤ m.log.length := by omega
  have c2 : (0 : Int) ≤ (comN m : Int) := by omega
  have c3 : (m.log.take (comN m)).length = comN m := by simp; omega
  have c4 : (dataL (m.log.take (comN m))).length = comN m := by rw [dataL_len, c3]
  have c5 : (dataL (m.log.take (comN m))).take (comN m) = dataL (m.log.take (comN m)) := List.take_of_length_le (by omega)
  have loop := fun b => l57 (m.log.take (comN m)) b (by omega)
  rw [c3] at loop
  refine PS_of (af := a32) rfl rfl ?_
  unfold a32
  dsimp only [List.map, ofPV, initEnv]
  unfold comL
  repeat' (first | (simp (maxSteps := 2000000) (disch := omega) only [go_sem, seval, reduceCtorEq, mC, e1, c1, c2, itemsPV_length, itemsPV_sz, itemsPV_take, c3]) | with_reducible exact Ev.mk | ((first | apply x_split | apply x_splitg) <;> intro hβ hb <;> (simp (maxSteps := 2000000) (disch := omega) only [go_sem, seval, reduceCtorEq, mC, e1, c1, c2, itemsPV_length, itemsPV_sz, itemsPV_take, c3, hβ]) <;> clear hβ))
  refine W_round ?_
  (try simp (maxSteps := 2000000) (disch := omega) only [go_sem, seval, reduceCtorEq, mC])
  refine loop _ _ ?_ (comN m) 0 (Nat.zero_add _)
  (try simp (maxSteps := 2000000) (disch := omega) only [go_sem, seval, reduceCtorEq, c4])
  all_goals first | rfl | ((try simp (maxSteps := 2000000) (disch := omega) only [go_sem, seval, reduceCtorEq, c4, c5, strsPV_length, strsPV_take]) <;> rfl)

theorem l58 (m : M) (f : Fl) (hl : m.log.length ≤ 100000) (K : Ex → St → Prop)
    (hx : K (.exit 0) ⟨[(3, .ref 1 (comL m).length 0 (comL m).length)], [(1, .row false 1 (strsPV (comL m)))], 2, [0]⟩) : ∀ (n i : Nat), i + n = comN m →
    W tb a21_l0 ⟨[(1, .ptr 0 0), (3, .ref 1 (dataL (m.log.take i)).length 0 (dataL (m.log.take i)).length), (4, .p (.int .i64 i))], [(1, .row false 1 (strsPV (dataL (m.log.take i)))), (0, .var false ((mC m f).map .p))], 2, [0]⟩ (LK tb (.ghost .lower a21_l0) K) := by
  have c0 := comN_le m
  intro n
  induction n with
  | zero =>
    intro i hi
    have e : i = comN m := by omega
    subst e
    refine i_code (by unfold a21_l0; exact rfl) ?_
    by_cases h1 : (comN m : Int) < m.commit
    · have h2 : ¬ (comN m : Int) < m.log.length := by unfold comN at *; omega
      repeat' (first | (simp (maxSteps := 2000000) (disch := omega) only [go_sem, seval, reduceCtorEq, h1, h2, itemsPV_length, mC]) | with_reducible exact Ev.mk | ((first | apply x_split | apply x_splitg) <;> intro hβ hb <;> (simp (maxSteps := 2000000) (disch := omega) only [go_sem, seval, reduceCtorEq, h1, h2, itemsPV_length, mC, hβ]) <;> clear hβ))
      exact hx
    · repeat' (first | (simp (maxSteps := 2000000) (disch := omega) only [go_sem, seval, reduceCtorEq, h1, itemsPV_length, mC]) | with_reducible exact Ev.mk | ((first | apply x_split | apply x_splitg) <;> intro hβ hb <;> (simp (maxSteps := 2000000) (disch := omega) only [go_sem, seval, reduceCtorEq, h1, itemsPV_length, mC, hβ]) <;> clear hβ))
      exact hx
  | succ n ih =>
    intro i hi
    have h1 : (i : Int) < m.log.length := by omega
    have h0 : (i : Int) < m.commit := by unfold comN at hi; omega
    have h2 : i < m.log.length := by omega
    have h3 := itemsPV_get m.log i h2
    have h4 : (0 : Int) ≤ i := by omega
    have h5 : (m.log.take i).length ≤ 100000 := by simp; omega
    have h6 := dataL_len (m.log.take i)
    have ih := ih (i + 1) (by omega)
    rw [dataL_step m.log i h2] at ih
    simp only [List.length_append, List.length_cons, List.length_nil, Nat.zero_add] at ih
    refine i_code (by unfold a21_l0; exact rfl) ?_
    repeat' (first | (simp (maxSteps := 2000000) (disch := omega) only [go_sem, seval, reduceCtorEq, h0, h1, h3, h4, itemPV, itemsPV_length, strsPV_sing, strsPV_sz, strsPV_append, strsPV_length, List.take_length, List.length_append, maxB, h6, mC]) | with_reducible exact Ev.mk | ((first | apply x_split | apply x_splitg) <;> intro hβ hb <;> (simp (maxSteps := 2000000) (disch := omega) only [go_sem, seval, reduceCtorEq, h0, h1, h3, h4, itemPV, itemsPV_length, strsPV_sing, strsPV_sz, strsPV_append, strsPV_length, List.take_length, List.length_append, maxB, h6, mC, hβ]) <;> clear hβ))
    refine i_lk (W_round ?_)
    (try simp (maxSteps := 2000000) (disch := omega) only [go_sem, seval, reduceCtorEq, mC])
    rw [h6] at ih
    exact ih

theorem ps58 (m : M) (f : Fl) (hm : MFew m) : PS tb 21 [.agg (mC m f)] (.slice false (strsPV (comL m))) := by
  have := hm.few1
  have c0 := comN_le m
  have c4 : (comL m).length = comN m := by unfold comL; rw [dataL_len]; simp; omega
  have c5 : (comL m).take (comN m) = comL m := List.take_of_length_le (by omega)
  refine PS_of (af := a21) rfl rfl ?_
  unfold a21
  dsimp only [List.map, ofPV, initEnv]
  repeat' (first | (simp (maxSteps := 2000000) (disch := omega) only [go_sem, seval, reduceCtorEq, mC]) | with_reducible exact Ev.mk | ((first | apply x_split | apply x_splitg) <;> intro hβ hb <;> (simp (maxSteps := 2000000) (disch := omega) only [go_sem, seval, reduceCtorEq, mC, hβ]) <;> clear hβ))
  refine W_round ?_
  (try simp (maxSteps := 2000000) (disch := omega) only [go_sem, seval, reduceCtorEq, mC])
  refine l58 m f (by omega) _ ?_ (comN m) 0 (Nat.zero_add _)
  (try simp (maxSteps := 2000000) (disch := omega) only [go_sem, seval, reduceCtorEq, c4])
  all_goals first | rfl | ((try simp (maxSteps := 2000000) (disch := omega) only [go_sem, seval, reduceCtorEq, c4, c5, strsPV_length, strsPV_take]) <;> rfl)

theorem good_nilQ {LL : Int → List It} {Ld : Int → Option Int} : Good LL Ld [] := by
  intro k x hx
  simp at hx

theorem newMs_ok (n : Nat) (h1 : 1 ≤ n) (h7 : n ≤ 7) {i : Nat} {m : M} (h : (newMs n)[i]? = some m) : okM m = true ∧ m.id = ((i + 1 : Nat) : Int) ∧ m.members = (n : Nat) := by
  obtain ⟨a, b, c, d, _⟩ := okC_facts (okC_new n h1 h7)
  have := d i m h
  rw [newMs_length] at this
  exact ⟨this.2.2, this.1, this.2.1⟩

theorem newMs_gm (n : Nat) (v : Int) : (gm (newMs n) v).log = [] ∧ (gm (newMs n) v).commit = 0 := by
  unfold gm
  split
  · rw [List.getD_eq_getElem?_getD]
    cases h : (newMs n)[(v - 1).toNat]? with
    | none => exact ⟨rfl, rfl⟩
    | some m =>
      obtain ⟨_, rfl⟩ := newMs_get _ _ _ h
      exact ⟨rfl, rfl⟩
  · exact ⟨rfl, rfl⟩

theorem Raft2.init (n : Nat) (h1 : 1 ≤ n) (h7 : n ≤ 7) : Raft2 n (newMs n) [] [] (fun _ => []) (fun _ => none) [] (fun _ _ => []) (fun _ _ => []) := by
  have role : ∀ (i : Nat) m, (newMs n)[i]? = some m → m.role = 1 ∧ m.log = [] ∧ m.commit = 0 := by
    intro i m h
    obtain ⟨_, rfl⟩ := newMs_get _ _ _ h
    exact ⟨rfl, rfl, rfl⟩
  refine ⟨⟨h1, newMs_length n, fun i m h => newMs_ok n h1 h7 h, by simp, by simp, by simp, by simp, fun i m h hr => ?_, fun i m h hr => ?_, fun t c h => (by cases h), fun i m h => ?_, fun t c h => (by cases h), by simp⟩,
    ⟨h1, by simp, by simp, by simp, fun u c h => (by cases h), by simp, fun t c h => (by cases h), fun v => ?_⟩, fun i m h hr => ?_, by simp, by simp, by simp, fun i m h hr => ?_, fun i m h => ?_, by simp⟩
  · have := (role i m h).1; omega
  · have := (role i m h).1; omega
  · rw [(role i m h).2.1]; exact good_nilQ
  · rw [(newMs_gm n v).1]; exact ⟨by simp, good_nilQ⟩
  · have := (role i m h).1; omega
  · have := (role i m h).1; omega
  · rw [(role i m h).2.2]; exact .inl rfl

/-- What is so of a group and the messages in transit. -/
def RInv (n : Nat) (c : List M × List X) (LL : Int → List It) (Ld : Int → Option Int) (A : List Ack) : Prop := ∃ S E VL CL, Raft2 n c.1 S E LL Ld A VL CL ∧ ∀ x ∈ c.2, x ∈ S

theorem RInv.of {n : Nat} {c c' : List M × List X} {S : List X} {E : List Ev} {LL : Int → List It} {Ld : Int → Option Int} {A : List Ack} {i : Nat} {a : M} {O : List X} (k : After2 n c.1 S E LL Ld A i a O) (h1 : c'.1 = c.1.set i a) (h2 : ∀ x ∈ c'.2, x ∈ S ∨ x ∈ O) :
    ∃ LL' Ld' A', RInv n c' LL' Ld' A' ∧ ∀ l k u, Cmt n LL Ld A l k u → Cmt n LL' Ld' A' l k u := by
  obtain ⟨E', LL', Ld', B, VL', CL', r, ext⟩ := k
  refine ⟨LL', Ld', A ++ B, ⟨_, _, _, _, h1 ▸ r, fun x hx => List.mem_append.2 (h2 x hx)⟩, fun l k u hc => cmt_mono ext (Int.le_refl _) rfl hc⟩

theorem RInv.still {n : Nat} {c c' : List M × List X} {S : List X} {E : List Ev} {LL : Int → List It} {Ld : Int → Option Int} {A : List Ack} {VL CL : Int → Int → List It} (r : Raft2 n c.1 S E LL Ld A VL CL) (h1 : c'.1 = c.1) (h2 : ∀ x ∈ c'.2, x ∈ S) :
    ∃ LL' Ld' A', RInv n c' LL' Ld' A' ∧ ∀ l k u, Cmt n LL Ld A l k u → Cmt n LL' Ld' A' l k u :=
  ⟨LL, Ld, A, ⟨S, E, VL, CL, h1 ▸ r, h2⟩, fun _ _ _ h => h⟩

theorem mem_sendR {net q : List X} {x : X} (h : x ∈ sendR net q) : x ∈ net ∨ x ∈ q := List.mem_append.1 (List.mem_of_mem_take h)

theorem mem_delX {net : List X} {k : Nat} {x : X} (h : x ∈ delX net k) : x ∈ net := by
  rcases List.mem_append.1 h with e | e
  · exact List.mem_of_mem_take e
  · exact List.mem_of_mem_drop e

theorem RInv.step {n : Nat} {c : List M × List X} {LL : Int → List It} {Ld : Int → Option Int} {A : List Ack} (h : RInv n c LL Ld A) (e : Evt) :
    ∃ LL' Ld' A', RInv n (stepR c e) LL' Ld' A' ∧ ∀ l k u, Cmt n LL Ld A l k u → Cmt n LL' Ld' A' l k u := by
  obtain ⟨S, E, VL, CL, r, hn⟩ := h
  unfold stepR
  split
  · rename_i hz
    unfold evR at hz ⊢
    split
    · rename_i h1; rw [if_pos h1] at hz; cases hz
    · rename_i h1
      rw [if_neg h1] at hz
      have hv : okC c.1 c.2 = true := by
        cases q : okC c.1 c.2
        · exact absurd (.inl q) h1
        · rfl
      obtain ⟨v1, v2, v3, v4, v5⟩ := okC_facts hv
      split
      · rename_i h2
        rw [if_pos h2] at hz
        unfold transitR at hz ⊢
        split
        · rename_i h3; rw [if_pos h3] at hz; cases hz
        · rename_i h3
          rw [if_neg h3] at hz
          have hk : e.at_.toNat < c.2.length := by omega
          have hX : c.2.getD e.at_.toNat zeroXF ∈ c.2 := by rw [List.getD_eq_getElem?_getD, List.getElem?_eq_getElem hk]; exact List.getElem_mem hk
          have fx := okX_facts (v5 _ hX)
          split
          · have hio : ((c.2.getD e.at_.toNat zeroXF).to - 1).toNat < c.1.length := by omega
            have hget : c.1.getD ((c.2.getD e.at_.toNat zeroXF).to - 1).toNat zeroM = c.1[((c.2.getD e.at_.toNat zeroXF).to - 1).toNat] := by rw [List.getD_eq_getElem?_getD, List.getElem?_eq_getElem hio]; rfl
            have k := r.receive (List.getElem?_eq_getElem hio) (hn _ hX)
            rw [hget]
            refine RInv.of k rfl (fun x hx => ?_)
            rcases mem_sendR hx with q | q
            · exact .inl (hn x (mem_delX q))
            · exact .inr q
          · split
            · refine RInv.still r rfl (fun x hx => ?_)
              rcases mem_sendR hx with q | q
              · exact hn x (mem_delX q)
              · simp at q
            · split
              · rename_i h4 h5 h6
                rw [if_neg h4, if_neg h5, if_pos h6] at hz; cases hz
              · refine RInv.still r rfl (fun x hx => ?_)
                rcases mem_sendR hx with q | q
                · rcases List.mem_append.1 q with q | q
                  · exact hn x q
                  · simp only [List.mem_singleton] at q; subst q; exact hn _ hX
                · simp at q
      · rename_i h2
        rw [if_neg h2] at hz
        split
        · rename_i h3; rw [if_pos h3] at hz; cases hz
        · rename_i h3
          rw [if_neg h3] at hz
          split
          · rename_i h4
            have hio : (e.node - 1).toNat < c.1.length := by omega
            have hget : c.1.getD (e.node - 1).toNat zeroM = c.1[(e.node - 1).toNat] := by rw [List.getD_eq_getElem?_getD, List.getElem?_eq_getElem hio]; rfl
            have hi := List.getElem?_eq_getElem hio
            rw [hget] at h4 ⊢
            have fin : ∀ {a : M} {O : List X}, After2 n c.1 S E LL Ld A (e.node - 1).toNat a O → ∃ LL' Ld' A', RInv n (c.1.set (e.node - 1).toNat a, sendR c.2 O) LL' Ld' A' ∧ ∀ l k u, Cmt n LL Ld A l k u → Cmt n LL' Ld' A' l k u := by
              intro a O k
              refine RInv.of k rfl (fun x hx => ?_)
              rcases mem_sendR hx with q | q
              · exact .inl (hn x q)
              · exact .inr q
            unfold nodeR at h4 ⊢
            split
            · exact fin (r.timeout hi)
            · rename_i k1
              rw [if_neg k1] at h4
              split
              · exact fin (r.beat hi)
              · rename_i k2
                rw [if_neg k2] at h4
                split
                · rename_i k3
                  rw [if_pos k3] at h4
                  have h4 : errP c.1[(e.node - 1).toNat] e.data = 0 := h4
                  rw [if_pos h4]
                  exact fin (r.propose hi h4)
                · exact fin (r.restart hi)
          · rename_i h4; rw [if_neg h4] at hz; exact absurd hz h4
  · exact ⟨LL, Ld, A, ⟨S, E, VL, CL, r, hn⟩, fun _ _ _ h => h⟩

theorem RInv.run {n : Nat} : ∀ (l : List Evt) {c : List M × List X} {LL : Int → List It} {Ld : Int → Option Int} {A : List Ack}, RInv n c LL Ld A →
    ∃ LL' Ld' A', RInv n (runR c l) LL' Ld' A' ∧ ∀ l k u, Cmt n LL Ld A l k u → Cmt n LL' Ld' A' l k u
  | [], c, LL, Ld, A, h => ⟨LL, Ld, A, h, fun _ _ _ h => h⟩
  | e :: r, c, LL, Ld, A, h => by
    obtain ⟨LL1, Ld1, A1, h1, k1⟩ := h.step e
    obtain ⟨LL2, Ld2, A2, h2, k2⟩ := RInv.run r h1
    exact ⟨LL2, Ld2, A2, h2, fun l k u hc => k2 l k u (k1 l k u hc)⟩

theorem RInv.new (n : Nat) (h1 : 1 ≤ n) (h7 : n ≤ 7) : RInv n (newMs n, []) (fun _ => []) (fun _ => none) [] := ⟨_, _, _, _, Raft2.init n h1 h7, by simp⟩

def cmpL (a b : List ByteArray) : Prop := a.take (min a.length b.length) = b.take (min a.length b.length)

theorem comN_ok {m : M} (h : okM m = true) : comN m = m.commit.toNat ∧ m.commit.toNat ≤ m.log.length := by
  have hh := ((okM_iff m).1 h).1
  have := hh.co1; have := hh.co2
  unfold comN
  omega

theorem comL_len {m : M} (h : okM m = true) : (comL m).length = m.commit.toNat := by
  obtain ⟨a, b⟩ := comN_ok h
  unfold comL
  rw [dataL_len, List.length_take, a]
  omega

theorem comL_take {m : M} (h : okM m = true) {k : Nat} (hk : k ≤ m.commit.toNat) : (comL m).take k = dataL (m.log.take k) := by
  obtain ⟨a, b⟩ := comN_ok h
  unfold comL dataL
  rw [a, ← List.map_take, take_take_le _ hk]

theorem cmp_of {m p : M} (hm : okM m = true) (hp : okM p = true) (h : m.log.take (min m.commit.toNat p.commit.toNat) = p.log.take (min m.commit.toNat p.commit.toNat)) : cmpL (comL m) (comL p) := by
  unfold cmpL
  rw [comL_len hm, comL_len hp, comL_take hm (Nat.min_le_left _ _), comL_take hp (Nat.min_le_right _ _), h]

/-- Committed items agree, at one time and at a later one. -/
theorem runs_agree (n : Nat) (h1 : 1 ≤ n) (h7 : n ≤ 7) (l q : List Evt) {m p : M} (hm : m ∈ (runR (newMs n, []) l).1 ∨ m ∈ (runR (newMs n, []) (l ++ q)).1) (hp : p ∈ (runR (newMs n, []) l).1 ∨ p ∈ (runR (newMs n, []) (l ++ q)).1) : cmpL (comL m) (comL p) := by
  obtain ⟨LL1, Ld1, A1, r1, _⟩ := RInv.run l (RInv.new n h1 h7)
  obtain ⟨LL2, Ld2, A2, r2, k2⟩ := RInv.run q r1
  rw [← runR_append] at r2
  obtain ⟨S1, E1, VL1, CL1, R1, _⟩ := r1
  obtain ⟨S2, E2, VL2, CL2, R2, _⟩ := r2
  have key : ∀ z : M, (z ∈ (runR (newMs n, []) l).1 ∨ z ∈ (runR (newMs n, []) (l ++ q)).1) → okM z = true ∧ Cmt n LL2 Ld2 A2 z.log z.commit.toNat z.term := by
    intro z hz
    rcases hz with hz | hz
    · obtain ⟨i, hi, rfl⟩ := List.getElem_of_mem hz
      exact ⟨(R1.base.ok i _ (List.getElem?_eq_getElem hi)).1, k2 _ _ _ (R1.cm i _ (List.getElem?_eq_getElem hi))⟩
    · obtain ⟨i, hi, rfl⟩ := List.getElem_of_mem hz
      exact ⟨(R2.base.ok i _ (List.getElem?_eq_getElem hi)).1, R2.cm i _ (List.getElem?_eq_getElem hi)⟩
  obtain ⟨a1, a2⟩ := key m hm
  obtain ⟨b1, b2⟩ := key p hp
  exact cmp_of a1 b1 (R2.abs.agree a2 b2)

theorem strsPV_getQ (l : List ByteArray) (i : Nat) (h : i < l.length) : (strsPV l)[i]? = some [.str l[i]] := by simp [strsPV, strPV, h]

theorem strNeQ (a : ByteArray) : bytesCmp .neq a a = some (.bool false) := by simp [bytesCmp]

theorem l_eqS (a : List ByteArray) (b d : Bool) (hl : a.length ≤ 100000) (K : Ex → St → Prop) (hx : K (.exit 0) ⟨[], [], 0, [0]⟩) : ∀ (m i : Nat), i + m = a.length →
    W tb a72_l0 ⟨[(0, .p (.slice b (strsPV a))), (1, .p (.slice d (strsPV a))), (12, .p (.int .i64 a.length)), (13, .p (.int .i64 i))], [], 0, [0]⟩ (LK tb (.ghost .lower a72_l0) K) := by
  intro m
  induction m with
  | zero =>
    intro i hi
    have h1 : ¬ (i : Int) < a.length := by omega
    refine i_code (by unfold a72_l0; exact rfl) ?_
    repeat' (first | (simp (disch := omega) only [go_sem, seval, reduceCtorEq, h1, strsPV_length]) | with_reducible exact Ev.mk | ((first | apply x_split | apply x_splitg) <;> intro hβ hb <;> (simp (disch := omega) only [go_sem, seval, reduceCtorEq, h1, strsPV_length, hβ]) <;> clear hβ))
    exact hx
  | succ m ih =>
    intro i hi
    have h1 : (i : Int) < a.length := by omega
    have h2 : i < a.length := by omega
    have h4 : (0 : Int) ≤ i := by omega
    have h3 := strsPV_getQ a i h2
    have h5 := strNeQ a[i]
    refine i_code (by unfold a72_l0; exact rfl) ?_
    repeat' (first | (simp (disch := omega) only [go_sem, seval, reduceCtorEq, h1, h4, strsPV_length, h3, h5]) | with_reducible exact Ev.mk | ((first | apply x_split | apply x_splitg) <;> intro hβ hb <;> (simp (disch := omega) only [go_sem, seval, reduceCtorEq, h1, h4, strsPV_length, h3, h5, hβ]) <;> clear hβ))
    refine i_lk (W_round ?_)
    (try simp (disch := omega) only [go_sem, seval, reduceCtorEq, strsPV_length])
    exact ih (i + 1) (by omega)

theorem ps_eqS (a : List ByteArray) (b d : Bool) (hl : a.length ≤ 100000) : PS tb 72 [.slice b (strsPV a), .slice d (strsPV a)] (.bool true) := by
  refine PS_of (af := a72) rfl rfl ?_
  unfold a72
  dsimp only [List.map, ofPV, initEnv]
  have e : ((a.length : Int) != (a.length : Int)) = false := by simp
  repeat' (first | (simp (disch := omega) only [go_sem, seval, reduceCtorEq, strsPV_length, e]) | with_reducible exact Ev.mk | ((first | apply x_split | apply x_splitg) <;> intro hβ hb <;> (simp (disch := omega) only [go_sem, seval, reduceCtorEq, strsPV_length, e, hβ]) <;> clear hβ))
  refine W_round ?_
  (try simp (disch := omega) only [go_sem, seval, reduceCtorEq])
  refine l_eqS a b d hl _ ?_ a.length 0 (by omega)
  (try simp (disch := omega) only [go_sem, seval, reduceCtorEq])

theorem ps_prefix (a c : List ByteArray) (b d : Bool) (hl : a.length ≤ 100000) (hc : c.length ≤ 100000) (h : cmpL a c) : PS tb 45 [.slice b (strsPV a), .slice d (strsPV c)] (.bool true) := by
  refine PS_of (af := a45) rfl rfl ?_
  unfold a45
  dsimp only [List.map, ofPV, initEnv]
  have h : a.take (min a.length c.length) = c.take (min a.length c.length) := h
  by_cases hlt : c.length < a.length
  · have c1 : (c.length : Int) < a.length := by omega
    have e1 : min a.length c.length = c.length := by omega
    rw [e1] at h
    have c2 : (0 : Int) ≤ c.length := by omega
    have c3 : (c.length : Int) ≤ a.length := by omega
    have q := fun x y => ps_eqS (c.take c.length) x y (by simp; omega)
    repeat' (first | exact q _ _ | (simp (disch := omega) only [go_sem, seval, reduceCtorEq, strsPV_length, c1, c2, c3, strsPV_sz, strsPV_take, h]) | with_reducible exact Ev.mk | apply x_call | ((first | apply x_split | apply x_splitg) <;> intro hβ hb <;> (simp (disch := omega) only [go_sem, seval, reduceCtorEq, strsPV_length, c1, c2, c3, strsPV_sz, strsPV_take, h, hβ]) <;> clear hβ))
  · have c1 : ¬ (c.length : Int) < a.length := by omega
    have e1 : min a.length c.length = a.length := by omega
    rw [e1] at h
    have c2 : (0 : Int) ≤ a.length := by omega
    have c3 : (a.length : Int) ≤ c.length := by omega
    have q := fun x y => ps_eqS (c.take a.length) x y (by simp; omega)
    repeat' (first | exact q _ _ | (simp (disch := omega) only [go_sem, seval, reduceCtorEq, strsPV_length, c1, c2, c3, strsPV_sz, strsPV_take, h]) | with_reducible exact Ev.mk | apply x_call | ((first | apply x_split | apply x_splitg) <;> intro hβ hb <;> (simp (disch := omega) only [go_sem, seval, reduceCtorEq, strsPV_length, c1, c2, c3, strsPV_sz, strsPV_take, h, hβ]) <;> clear hβ))

theorem cmpL_get {a c : List ByteArray} (h : cmpL a c) {i : Nat} (h1 : i < a.length) (h2 : i < c.length) : a[i] = c[i] := by
  have := congrArg (fun l => l[i]?) h
  simp only [List.getElem?_take] at this
  rw [if_pos (by omega), if_pos (by omega), List.getElem?_eq_getElem h1, List.getElem?_eq_getElem h2] at this
  exact Option.some.inj this

theorem l_rprefix (a c : List ByteArray) (b d : Bool) (hl : a.length ≤ 100000) (hc : c.length ≤ 100000) (h : cmpL a c) (K : Ex → St → Prop) (hx : K (.exit 0) ⟨[], [], 0, [0]⟩) : ∀ (m i : Nat), i + m = min a.length c.length →
    W tb a20_l0 ⟨[(0, .p (.slice b (strsPV a))), (1, .p (.slice d (strsPV c))), (5, .p (.int .i64 i))], [], 0, [0]⟩ (LK tb (.ghost .lower a20_l0) K) := by
  intro m
  induction m with
  | zero =>
    intro i hi
    refine i_code (by unfold a20_l0; exact rfl) ?_
    by_cases h1 : (i : Int) < a.length
    · have h2 : ¬ (i : Int) < c.length := by omega
      repeat' (first | (simp (disch := omega) only [go_sem, seval, reduceCtorEq, h1, h2, strsPV_length]) | with_reducible exact Ev.mk | ((first | apply x_split | apply x_splitg) <;> intro hβ hb <;> (simp (disch := omega) only [go_sem, seval, reduceCtorEq, h1, h2, strsPV_length, hβ]) <;> clear hβ))
      exact hx
    · repeat' (first | (simp (disch := omega) only [go_sem, seval, reduceCtorEq, h1, strsPV_length]) | with_reducible exact Ev.mk | ((first | apply x_split | apply x_splitg) <;> intro hβ hb <;> (simp (disch := omega) only [go_sem, seval, reduceCtorEq, h1, strsPV_length, hβ]) <;> clear hβ))
      exact hx
  | succ m ih =>
    intro i hi
    have h1 : (i : Int) < a.length := by omega
    have h2 : (i : Int) < c.length := by omega
    have k1 : i < a.length := by omega
    have k2 : i < c.length := by omega
    have h4 : (0 : Int) ≤ i := by omega
    have h3 := strsPV_getQ a i k1
    have h5 := strsPV_getQ c i k2
    rw [← cmpL_get h k1 k2] at h5
    have h6 := strNeQ a[i]
    refine i_code (by unfold a20_l0; exact rfl) ?_
    repeat' (first | (simp (disch := omega) only [go_sem, seval, reduceCtorEq, h1, h2, h4, strsPV_length, h3, h5, h6]) | with_reducible exact Ev.mk | ((first | apply x_split | apply x_splitg) <;> intro hβ hb <;> (simp (disch := omega) only [go_sem, seval, reduceCtorEq, h1, h2, h4, strsPV_length, h3, h5, h6, hβ]) <;> clear hβ))
    refine i_lk (W_round ?_)
    (try simp (disch := omega) only [go_sem, seval, reduceCtorEq, strsPV_length])
    exact ih (i + 1) (by omega)

theorem ps_rprefix (a c : List ByteArray) (b d : Bool) (hl : a.length ≤ 100000) (hc : c.length ≤ 100000) (h : cmpL a c) : PS tb 20 [.slice b (strsPV a), .slice d (strsPV c)] (.bool true) := by
  refine PS_of (af := a20) rfl rfl ?_
  unfold a20
  dsimp only [List.map, ofPV, initEnv]
  (try simp (disch := omega) only [go_sem, seval, reduceCtorEq])
  refine W_round ?_
  (try simp (disch := omega) only [go_sem, seval, reduceCtorEq])
  refine l_rprefix a c b d hl hc h _ ?_ (min a.length c.length) 0 (by omega)
  (try simp (disch := omega) only [go_sem, seval, reduceCtorEq])

def llPV (L : List (List ByteArray)) : List (List PV) := L.map fun x => [.slice false (strsPV x)]

theorem llPV_length (l : List (List ByteArray)) : (llPV l).length = l.length := by simp [llPV]

theorem llPV_get (l : List (List ByteArray)) (i : Nat) (h : i < l.length) : (llPV l)[i]? = some [.slice false (strsPV l[i])] := by simp [llPV, h]

theorem llPV_sz (l : List (List ByteArray)) : allSz 1 (llPV l) = true := by simp [allSz, llPV]

theorem llPV_append (a b : List (List ByteArray)) : llPV a ++ llPV b = llPV (a ++ b) := by simp [llPV]

theorem llPV_take (a : List (List ByteArray)) (n : Nat) : (llPV a).take n = llPV (a.take n) := by simp [llPV, List.map_take]

theorem llPV_sing (x : List ByteArray) : [[PV.slice false (strsPV x)]] = llPV [x] := rfl

theorem ps_agr1 (k x : List ByteArray) (hk : k.length ≤ 100000) (hx : x.length ≤ 100000) (h : cmpL k x) : PS tb 44 [.slice false (strsPV k), .vptr [.slice false (strsPV x)]] (.bool false) := by
  refine PS_of (af := a44) rfl rfl ?_
  unfold a44
  dsimp only [List.map, ofPV, initEnv]
  repeat' (first | exact ps_prefix k x false false hk hx h | (simp (disch := omega) only [go_sem, seval, reduceCtorEq]) | with_reducible exact Ev.mk | apply x_call | ((first | apply x_split | apply x_splitg) <;> intro hβ hb <;> (simp (disch := omega) only [go_sem, seval, reduceCtorEq, hβ]) <;> clear hβ))

theorem l_idxF (L : List (List ByteArray)) (w : Bool) (x : List ByteArray) (hL : L.length ≤ 100000) (hx : x.length ≤ 100000) (hk : ∀ k ∈ L, k.length ≤ 100000 ∧ cmpL k x) (K : Ex → St → Prop) (hx : K (.exit 0) ⟨[], [], 0, [0]⟩) : ∀ (m i : Nat), i + m = L.length →
    W tb a71_l0 ⟨[(0, .p (.slice w (llPV L))), (1, .p (.func 44 [.vptr [.slice false (strsPV x)]])), (7, .p (.int .i64 L.length)), (8, .p (.int .i64 i))], [], 0, [0]⟩ (LK tb (.ghost .lower a71_l0) K) := by
  intro m
  induction m with
  | zero =>
    intro i hi
    have h1 : ¬ (i : Int) < L.length := by omega
    refine i_code (by unfold a71_l0; exact rfl) ?_
    repeat' (first | (simp (disch := omega) only [go_sem, seval, reduceCtorEq, h1]) | with_reducible exact Ev.mk | ((first | apply x_split | apply x_splitg) <;> intro hβ hb <;> (simp (disch := omega) only [go_sem, seval, reduceCtorEq, h1, hβ]) <;> clear hβ))
    exact hx
  | succ m ih =>
    intro i hi
    have h1 : (i : Int) < L.length := by omega
    have h2 : i < L.length := by omega
    have h4 : (0 : Int) ≤ i := by omega
    have h3 := llPV_get L i h2
    obtain ⟨k1, k2⟩ := hk L[i] (List.getElem_mem h2)
    have q := ps_agr1 L[i] x k1 (by assumption) k2
    refine i_code (by unfold a71_l0; exact rfl) ?_
    repeat' (first | exact q | (simp (disch := omega) only [go_sem, seval, reduceCtorEq, h1, h4, h3]) | with_reducible exact Ev.mk | apply x_call | ((first | apply x_split | apply x_splitg) <;> intro hβ hb <;> (simp (disch := omega) only [go_sem, seval, reduceCtorEq, h1, h4, h3, hβ]) <;> clear hβ))
    refine i_lk (W_round ?_)
    (try simp (disch := omega) only [go_sem, seval, reduceCtorEq])
    exact ih (i + 1) (by omega)

theorem ps_contF (L : List (List ByteArray)) (w : Bool) (x : List ByteArray) (hL : L.length ≤ 100000) (hx : x.length ≤ 100000) (hk : ∀ k ∈ L, k.length ≤ 100000 ∧ cmpL k x) : PS tb 43 [.slice w (llPV L), .func 44 [.vptr [.slice false (strsPV x)]]] (.bool false) := by
  have q : PS tb 71 [.slice w (llPV L), .func 44 [.vptr [.slice false (strsPV x)]]] (.int .i64 (-1)) := by
    refine PS_of (af := a71) rfl rfl ?_
    unfold a71
    dsimp only [List.map, ofPV, initEnv]
    repeat' (first | (simp (disch := omega) only [go_sem, seval, reduceCtorEq, llPV_length]) | with_reducible exact Ev.mk | ((first | apply x_split | apply x_splitg) <;> intro hβ hb <;> (simp (disch := omega) only [go_sem, seval, reduceCtorEq, llPV_length, hβ]) <;> clear hβ))
    refine W_round ?_
    (try simp (disch := omega) only [go_sem, seval, reduceCtorEq])
    refine l_idxF L w x hL hx hk _ ?_ L.length 0 (by omega)
    (try simp (disch := omega) only [go_sem, seval, reduceCtorEq])
  refine PS_of (af := a43) rfl rfl ?_
  unfold a43
  dsimp only [List.map, ofPV, initEnv]
  repeat' (first | exact q | (simp (disch := omega) only [go_sem, seval, reduceCtorEq]) | with_reducible exact Ev.mk | apply x_call | ((first | apply x_split | apply x_splitg) <;> intro hβ hb <;> (simp (disch := omega) only [go_sem, seval, reduceCtorEq, hβ]) <;> clear hβ))

def comsOf (l : List (M × Fl)) : List (List ByteArray) := l.map fun t => comL t.1

theorem comsOf_length (l : List (M × Fl)) : (comsOf l).length = l.length := by simp [comsOf]

theorem comsOf_step (l : List (M × Fl)) (i : Nat) (h : i < l.length) : comsOf (l.take i) ++ [comL l[i].1] = comsOf (l.take (i + 1)) := by
  rw [List.take_add_one, List.getElem?_eq_getElem h]
  simp only [comsOf, List.map_append, List.map_cons, List.map_nil, Option.toList]

/-- Members whose committed items agree. -/
def Agr (l : List (M × Fl)) : Prop := l.length ≤ 7 ∧ (∀ t ∈ l, t.1.log.length ≤ 256) ∧ ∀ t ∈ l, ∀ u ∈ l, cmpL (comL t.1) (comL u.1)

theorem comL_le {m : M} (h : m.log.length ≤ 256) : (comL m).length ≤ 100000 := by
  have := comN_le m
  unfold comL; rw [dataL_len]; simp; omega

theorem l_agree (l : List (M × Fl)) (a : Bool) (h : Agr l) (K : Ex → St → Prop) (hx : ∀ s, s.env = [] → K (.exit 0) s) : ∀ (m i : Nat), i + m = l.length →
    W tb a19_l0 ⟨[(3, .ref 1 i 0 i), (8, .p (.slice a (memPV l))), (9, .p (.int .i64 l.length)), (10, .p (.int .i64 i))], [(1, .row false 1 (llPV (comsOf (l.take i))))], 2, [0]⟩ (LK tb (.ghost (.free [1, 5, 6]) (.ghost .lower a19_l0)) K) := by
  obtain ⟨h7, h256, hc⟩ := h
  intro m
  induction m with
  | zero =>
    intro i hi
    have h1 : ¬ (i : Int) < l.length := by omega
    refine i_code (by unfold a19_l0; exact rfl) ?_
    repeat' (first | (simp (disch := omega) only [go_sem, seval, reduceCtorEq, h1]) | with_reducible exact Ev.mk | ((first | apply x_split | apply x_splitg) <;> intro hβ hb <;> (simp (disch := omega) only [go_sem, seval, reduceCtorEq, h1, hβ]) <;> clear hβ))
    exact hx _ rfl
  | succ m ih =>
    intro i hi
    have h1 : (i : Int) < l.length := by omega
    have h2 : i < l.length := by omega
    have h4 : (0 : Int) ≤ i := by omega
    have h3 := memPV_get l i h2
    have hm := List.getElem_mem h2
    have e1 : (comsOf (l.take i)).length = i := by rw [comsOf_length, List.length_take]; omega
    have e2 := comsOf_step l i h2
    have e3 : (comsOf (l.take i)).take i = comsOf (l.take i) := List.take_of_length_le (by omega)
    have q1 := ps57 l[i].1 l[i].2 (by have := h256 _ hm; omega)
    have q2 := ps_contF (comsOf (l.take i)) false (comL l[i].1) (by omega) (comL_le (h256 _ hm)) (fun k hk => by
      obtain ⟨t, ht, rfl⟩ := List.mem_map.1 hk
      have ht := List.mem_of_mem_take ht
      exact ⟨comL_le (h256 _ ht), hc t ht _ hm⟩)
    have m1 : (i + 1) * 24 ≤ 140737488355328 := by omega
    have m2 : i + 1 ≤ 140737488355328 := by omega
    refine i_code (by unfold a19_l0; exact rfl) ?_
    repeat' (first | exact q1 | exact q2 | (simp (disch := omega) only [go_sem, seval, reduceCtorEq, h1, h3, h4, mC, llPV_length, llPV_take, llPV_sz, llPV_sing, llPV_append, e1, e2, e3, m1, m2, maxBytes]) | with_reducible exact Ev.mk | apply x_call | ((first | apply x_split | apply x_splitg) <;> intro hβ hb <;> (simp (disch := omega) only [go_sem, seval, reduceCtorEq, h1, h3, h4, mC, llPV_length, llPV_take, llPV_sz, llPV_sing, llPV_append, e1, e2, e3, m1, m2, maxBytes, hβ]) <;> clear hβ))
    refine i_lk (W_round ?_)
    (try simp (disch := omega) only [go_sem, seval, reduceCtorEq])
    exact ih (i + 1) (by omega)

theorem ps_agree (l : List (M × Fl)) (a : Bool) (net : List (X × Bool)) (b : Bool) (h : Agr l) : PS tb 19 [.agg [.slice a (memPV l), .slice b (netPV net)]] (.bool true) := by
  have h7 := h.1
  refine PS_of (af := a19) rfl rfl ?_
  unfold a19
  dsimp only [List.map, ofPV, initEnv]
  repeat' (first | (simp (disch := omega) only [go_sem, seval, reduceCtorEq, memPV_length]) | with_reducible exact Ev.mk | ((first | apply x_split | apply x_splitg) <;> intro hβ hb <;> (simp (disch := omega) only [go_sem, seval, reduceCtorEq, memPV_length, hβ]) <;> clear hβ))
  refine W_round ?_
  (try simp (disch := omega) only [go_sem, seval, reduceCtorEq])
  refine l_agree l a h _ ?_ l.length 0 (by omega)
  intro s hs
  obtain ⟨e, H, nx, mk⟩ := s
  cases hs
  (try simp (disch := omega) only [go_sem, seval, reduceCtorEq])

def agH (la lb : List (M × Fl)) (a b na nb : Bool) (xa xb : List (X × Bool)) (fz : Bool) (rows : List (List PV)) : Heap :=
  [(2, .var false [.p (.slice b (memPV lb)), .p (.slice nb (netPV xb))]), (1, .row fz 4 rows), (0, .var false [.p (.slice a (memPV la)), .p (.slice na (netPV xa))])]

theorem l_ag0 (la lb : List (M × Fl)) (a b na nb : Bool) (xa xb : List (X × Bool)) (fz : Bool) (rows : List (List PV)) (h7 : lb.length ≤ 7) (i : Nat) (hi : i < la.length) (hla : la.length ≤ 7) (hfa : MFew la[i].1) (hfb : ∀ t ∈ lb, MFew t.1) (hc : ∀ t ∈ lb, cmpL (comL la[i].1) (comL t.1)) (K : Ex → St → Prop)
    (hx : K (.exit 2) ⟨[(7, .ptr 0 0), (10, .ptr 2 0), (12, .p (.int .i64 i))], agH la lb a b na nb xa xb fz rows, 3, [0]⟩) : ∀ (m k : Nat), k + m = lb.length →
    W tb a5_l0 ⟨[(7, .ptr 0 0), (10, .ptr 2 0), (12, .p (.int .i64 i)), (13, .p (.int .i64 k))], agH la lb a b na nb xa xb fz rows, 3, [0]⟩ (LK tb (.ghost .lower a5_l0) K) := by
  intro m
  induction m with
  | zero =>
    intro k hk
    have h1 : ¬ (k : Int) < lb.length := by omega
    refine i_code (by unfold a5_l0; exact rfl) ?_
    repeat' (first | (simp (disch := omega) only [go_sem, seval, reduceCtorEq, agH, h1, memPV_length]) | with_reducible exact Ev.mk | ((first | apply x_split | apply x_splitg) <;> intro hβ hb <;> (simp (disch := omega) only [go_sem, seval, reduceCtorEq, agH, h1, memPV_length, hβ]) <;> clear hβ))
    exact hx
  | succ m ih =>
    intro k hk
    have h1 : (k : Int) < lb.length := by omega
    have h2 : k < lb.length := by omega
    have h4 : (0 : Int) ≤ k := by omega
    have h5 : (0 : Int) ≤ i := by omega
    have h3 := memPV_get lb k h2
    have h6 := memPV_get la i hi
    have hm := List.getElem_mem h2
    have q1 := ps58 la[i].1 la[i].2 hfa
    have q2 := ps58 lb[k].1 lb[k].2 (hfb _ hm)
    have c1 : (comL la[i].1).length ≤ 100000 := by have := comN_le la[i].1; have := hfa.few1; unfold comL; rw [dataL_len]; simp; omega
    have c2 : (comL lb[k].1).length ≤ 100000 := by have := comN_le lb[k].1; have := (hfb _ hm).few1; unfold comL; rw [dataL_len]; simp; omega
    have q3 := ps_rprefix (comL la[i].1) (comL lb[k].1) false false c1 c2 (hc _ hm)
    refine i_code (by unfold a5_l0; exact rfl) ?_
    repeat' (first | exact q1 | exact q2 | exact q3 | (simp (disch := omega) only [go_sem, seval, reduceCtorEq, agH, h1, h3, h4, h5, h6, memPV_length, mC]) | with_reducible exact Ev.mk | apply x_call | ((first | apply x_split | apply x_splitg) <;> intro hβ hb <;> (simp (disch := omega) only [go_sem, seval, reduceCtorEq, agH, h1, h3, h4, h5, h6, memPV_length, mC, hβ]) <;> clear hβ))
    refine i_lk (W_round ?_)
    (try simp (disch := omega) only [go_sem, seval, reduceCtorEq])
    exact ih (k + 1) (by omega)

theorem l_ag1 (la lb : List (M × Fl)) (a b na nb : Bool) (xa xb : List (X × Bool)) (fz : Bool) (rows : List (List PV)) (h7 : lb.length ≤ 7) (hla : la.length ≤ 7) (hfa : ∀ t ∈ la, MFew t.1) (hfb : ∀ t ∈ lb, MFew t.1) (hc : ∀ u ∈ la, ∀ t ∈ lb, cmpL (comL u.1) (comL t.1)) (K : Ex → St → Prop)
    (hx : ∀ s, s.env = [] → K (.exit 0) s) : ∀ (m i : Nat), i + m = la.length →
    W tb a5_l1 ⟨[(7, .ptr 0 0), (10, .ptr 2 0), (12, .p (.int .i64 i))], agH la lb a b na nb xa xb fz rows, 3, [0]⟩ (LK tb (.ghost .lower a5_l1) K) := by
  intro m
  induction m with
  | zero =>
    intro i hi
    have h1 : ¬ (i : Int) < la.length := by omega
    refine i_code (by unfold a5_l1; exact rfl) ?_
    repeat' (first | (simp (disch := omega) only [go_sem, seval, reduceCtorEq, agH, h1, memPV_length]) | with_reducible exact Ev.mk | ((first | apply x_split | apply x_splitg) <;> intro hβ hb <;> (simp (disch := omega) only [go_sem, seval, reduceCtorEq, agH, h1, memPV_length, hβ]) <;> clear hβ))
    exact hx _ rfl
  | succ m ih =>
    intro i hi
    have h1 : (i : Int) < la.length := by omega
    have h2 : i < la.length := by omega
    have hm := List.getElem_mem h2
    refine i_code (by unfold a5_l1; exact rfl) ?_
    repeat' (first | (simp (disch := omega) only [go_sem, seval, reduceCtorEq, agH, h1, memPV_length]) | with_reducible exact Ev.mk | ((first | apply x_split | apply x_splitg) <;> intro hβ hb <;> (simp (disch := omega) only [go_sem, seval, reduceCtorEq, agH, h1, memPV_length, hβ]) <;> clear hβ))
    refine W_round ?_
    (try simp (disch := omega) only [go_sem, seval, reduceCtorEq])
    refine l_ag0 la lb a b na nb xa xb fz rows h7 i h2 hla (hfa _ hm) hfb (fun t ht => hc _ hm t ht) _ ?_ lb.length 0 (by omega)
    (try simp (disch := omega) only [go_sem, seval, reduceCtorEq, agH])
    refine i_lk (W_round ?_)
    (try simp (disch := omega) only [go_sem, seval, reduceCtorEq])
    exact ih (i + 1) (by omega)

theorem agr_of {l : List (M × Fl)} {net : List X} (hv : okC (fsts l) net = true) (hc : ∀ t ∈ l, ∀ u ∈ l, cmpL (comL t.1) (comL u.1)) : Agr l := by
  obtain ⟨v1, v2, v3, v4, v5⟩ := okC_facts hv
  rw [fsts_length] at v2
  refine ⟨v2, fun t ht => ?_, hc⟩
  obtain ⟨j, hj, rfl⟩ := List.getElem_of_mem ht
  exact log_of (v4 j l[j].1 (fsts_get l _ hj)).2.2

theorem walkQuorumAgrees {u v w : PV} (h : Fit (.int .i64) u) (h' : Fit (.slice [.int .i64, .int .i64, .int .i64, .str]) v) (h'' : Fit (.slice [.int .i64, .int .i64, .int .i64, .str]) w) : PS tb 5 [u, v, w] (.bool true) := by
  obtain ⟨z, rfl, _⟩ := fit_int h
  obtain ⟨l, rfl, hl⟩ := fit_events h'
  obtain ⟨q, rfl, hq⟩ := fit_events h''
  have f1 := ps_few l false 120 hl (by omega)
  have f2 := ps_few q false 120 hq (by omega)
  refine PS_of (af := a5) rfl rfl ?_
  unfold a5
  dsimp only [List.map, ofPV, initEnv]
  cases e1 : fewE l 120 with
  | false =>
    rw [e1] at f1
    repeat' (first | exact f1 | exact ps_examples | (simp (disch := omega) only [go_sem, seval, reduceCtorEq]) | with_reducible exact Ev.mk | apply x_call | ((first | apply x_split | apply x_splitg) <;> intro hβ hb <;> (simp (disch := omega) only [go_sem, seval, reduceCtorEq, hβ]) <;> clear hβ))
  | true =>
    rw [e1] at f1
    cases e2 : fewE q 120 with
    | false =>
      rw [e2] at f2
      repeat' (first | exact f1 | exact f2 | exact ps_examples | (simp (disch := omega) only [go_sem, seval, reduceCtorEq]) | with_reducible exact Ev.mk | apply x_call | ((first | apply x_split | apply x_splitg) <;> intro hβ hb <;> (simp (disch := omega) only [go_sem, seval, reduceCtorEq, hβ]) <;> clear hβ))
    | true =>
      rw [e2] at f2
      have l120 : l.length ≤ 120 := by simp only [fewE, Bool.and_eq_true, decide_eq_true_eq] at e1; exact e1.2
      have q120 : q.length ≤ 120 := by simp only [fewE, Bool.and_eq_true, decide_eq_true_eq] at e2; exact e2.2
      by_cases c : z < 1 ∨ 7 < z
      · have r := ps_runBad z c l false
        by_cases c1 : z < 1
        · repeat' (first | exact f1 | exact f2 | exact r | exact ps_examples | (simp (disch := omega) only [go_sem, seval, reduceCtorEq, c1]) | with_reducible exact Ev.mk | apply x_call | ((first | apply x_split | apply x_splitg) <;> intro hβ hb <;> (simp (disch := omega) only [go_sem, seval, reduceCtorEq, c1, hβ]) <;> clear hβ))
        · have c2 : 7 < z := by omega
          repeat' (first | exact f1 | exact f2 | exact r | exact ps_examples | (simp (disch := omega) only [go_sem, seval, reduceCtorEq, c1, c2]) | with_reducible exact Ev.mk | apply x_call | ((first | apply x_split | apply x_splitg) <;> intro hβ hb <;> (simp (disch := omega) only [go_sem, seval, reduceCtorEq, c1, c2, hβ]) <;> clear hβ))
      · obtain ⟨n, rfl⟩ := Int.eq_ofNat_of_zero_le (show 0 ≤ z by omega)
        obtain ⟨la, a, xa, na, ra, ea, ea'⟩ := ps_run n (by omega) (by omega) l false (by omega)
        obtain ⟨lb, b, xb, nb, rb, eb, eb'⟩ := ps_run n (by omega) (by omega) (l ++ q) false (by simp; omega)
        have va := (okC_run l (c := (newMs n, [])) (okC_new n (by omega) (by omega))).1
        have vb := (okC_run (l ++ q) (c := (newMs n, [])) (okC_new n (by omega) (by omega))).1
        rw [← ea, ← ea'] at va
        rw [← eb, ← eb'] at vb
        have ag : ∀ {m p : M}, (m ∈ fsts la ∨ m ∈ fsts lb) → (p ∈ fsts la ∨ p ∈ fsts lb) → cmpL (comL m) (comL p) := by
          intro m p hm hp
          rw [ea, eb] at hm hp
          exact runs_agree n (by omega) (by omega) l q hm hp
        have memf : ∀ {l : List (M × Fl)} {t : M × Fl}, t ∈ l → t.1 ∈ fsts l := fun ht => List.mem_map.2 ⟨_, ht, rfl⟩
        have ga := ps_agree la a xa na (agr_of va fun t ht u hu => ag (.inl (memf ht)) (.inl (memf hu)))
        have gb := ps_agree lb b xb nb (agr_of vb fun t ht u hu => ag (.inr (memf ht)) (.inr (memf hu)))
        have sa := smallM_of va
        have sb := smallM_of vb
        have la7 : la.length ≤ 7 := by have := (okC_facts va).2.1; rwa [fsts_length] at this
        have lb7 : lb.length ≤ 7 := by have := (okC_facts vb).2.1; rwa [fsts_length] at this
        have m1 : l.length * 40 ≤ 140737488355328 := by omega
        have m2 : l.length ≤ 140737488355328 := by omega
        have m3 : (l.length + q.length) * 40 ≤ 140737488355328 := by omega
        have m4 : l.length + q.length ≤ 140737488355328 := by omega
        have e5 : (l ++ q).take (l.length + q.length) = l ++ q := List.take_of_length_le (by simp)
        repeat' (first | exact f1 | exact f2 | exact ra | exact rb | exact ga | exact gb | (simp (disch := omega) only [go_sem, seval, reduceCtorEq, evsPV_length, evsPV_sz, evsPV_append, evsPV_take, List.length_append, m1, m2, m3, m4, e5, maxBytes]) | with_reducible exact Ev.mk | apply x_call | ((first | apply x_split | apply x_splitg) <;> intro hβ hb <;> (simp (disch := omega) only [go_sem, seval, reduceCtorEq, evsPV_length, evsPV_sz, evsPV_append, evsPV_take, List.length_append, m1, m2, m3, m4, e5, maxBytes, hβ]) <;> clear hβ))
        refine W_round ?_
        (try simp (disch := omega) only [go_sem, seval, reduceCtorEq])
        refine l_ag1 la lb a b na nb xa xb _ _ lb7 la7 sa.2 sb.2 (fun u hu t ht => ag (.inl (memf hu)) (.inr (memf ht))) _ ?_ la.length 0 (by omega)
        intro s hs
        obtain ⟨e, H, nx, mk⟩ := s
        cases hs
        repeat' (first | exact ps_examples | (simp (disch := omega) only [go_sem, seval, reduceCtorEq]) | with_reducible exact Ev.mk | apply x_call | ((first | apply x_split | apply x_splitg) <;> intro hβ hb <;> (simp (disch := omega) only [go_sem, seval, reduceCtorEq, hβ]) <;> clear hβ))

end Go.Dv.Try
