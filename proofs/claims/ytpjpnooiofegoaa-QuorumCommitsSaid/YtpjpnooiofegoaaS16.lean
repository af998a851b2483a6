/-
  Specifications of the functions of this claim, parts 16.
-/
import Derived.Test.YtpjpnooiofegoaaTab
import Derived.Test.YtpjpnooiofegoaaStep
import Derived.Test.YtpjpnooiofegoaaS1
import Derived.Test.YtpjpnooiofegoaaS7
set_option linter.unusedVariables false
set_option linter.unusedSimpArgs false
set_option maxRecDepth 100000
set_option maxHeartbeats 16000000
namespace Go.Dv.Try
open Go Go.Dv

def within (n least most : Int) : Bool := decide (least ≤ n) && decide (n ≤ most)

theorem ps145 (n least most : Int) : PS tb 97 [.int .i64 n, .int .i64 least, .int .i64 most] (.bool (within n least most)) := by
  refine PS_of (af := a97) rfl rfl ?_
  unfold a97
  dsimp only [List.map, ofPV, initEnv]
  repeat' (first | (simp (disch := omega) only [go_sem, seval, reduceCtorEq]) | with_reducible exact Ev.mk | ((first | apply x_split | apply x_splitg) <;> intro hβ hb <;> (simp (disch := omega) only [go_sem, seval, reduceCtorEq, hβ]) <;> clear hβ))
  all_goals (simp only [pur, dep, Option.some.injEq, PV.bool.injEq, PV.int.injEq, true_and] <;> grind [within])

theorem l146 (l : List (Int × ByteArray)) (b : Bool) (hl : l.length ≤ 256) (K : Ex → St → Prop) (hx : l.all okItem = true → K (.exit 0) ⟨[], [], 0, [0]⟩)
    (hr : l.all okItem = false → ∀ s, aget s.env 2 = some (.p (.bool false)) → K .ret s) : ∀ (m i : Nat), i + m = l.length → (l.take i).all okItem = true →
    W tb a98_l0 ⟨[(8, .p (.slice b (itemsPV l))), (9, .p (.int .i64 l.length)), (10, .p (.int .i64 i))], [], 0, [0]⟩ (LK tb (.ghost (.free [4]) (.ghost .lower a98_l0)) K) := by
  intro m
  induction m with
  | zero =>
    intro i hi ht
    have h1 : ¬ (i : Int) < l.length := by omega
    rw [List.take_of_length_le (by omega)] at ht
    refine i_code (by unfold a98_l0; exact rfl) ?_
    repeat' (first | (simp (disch := omega) only [go_sem, seval, reduceCtorEq, h1, itemsPV_length]) | with_reducible exact Ev.mk | ((first | apply x_split | apply x_splitg) <;> intro hβ hb <;> (simp (disch := omega) only [go_sem, seval, reduceCtorEq, h1, itemsPV_length, hβ]) <;> clear hβ))
    exact hx ht
  | succ m ih =>
    intro i hi ht
    have h1 : (i : Int) < l.length := by omega
    have h2 : i < l.length := by omega
    have h3 := itemsPV_get l i h2
    have h4 : (0 : Int) ≤ i := by omega
    refine i_code (by unfold a98_l0; exact rfl) ?_
    cases hw : within l[i].1 1 1099511627776 with
    | false =>
      repeat' (first | exact ps145 _ _ _ | (simp (disch := omega) only [go_sem, seval, reduceCtorEq, h1, h3, h4, hw, itemPV, itemsPV_length]) | with_reducible exact Ev.mk | apply x_call | ((first | apply x_split | apply x_splitg) <;> intro hβ hb <;> (simp (disch := omega) only [go_sem, seval, reduceCtorEq, h1, h3, h4, hw, itemPV, itemsPV_length, hβ]) <;> clear hβ))
      refine hr (all_no l okItem i h2 (okItem_no ?_)) _ rfl
      simp only [within, Bool.and_eq_false_iff, decide_eq_false_iff_not] at hw
      omega
    | true =>
      repeat' (first | exact ps145 _ _ _ | (simp (disch := omega) only [go_sem, seval, reduceCtorEq, h1, h3, h4, hw, itemPV, itemsPV_length]) | with_reducible exact Ev.mk | apply x_call | ((first | apply x_split | apply x_splitg) <;> intro hβ hb <;> (simp (disch := omega) only [go_sem, seval, reduceCtorEq, h1, h3, h4, hw, itemPV, itemsPV_length, hβ]) <;> clear hβ))
      all_goals simp only [within, Bool.and_eq_true, decide_eq_true_eq] at hw
      · exact hr (all_no l okItem i h2 (okItem_no (by omega))) _ rfl
      · refine i_lk (W_round ?_)
        (try simp (disch := omega) only [go_sem, seval, reduceCtorEq])
        exact ih (i + 1) (by omega) (all_step l okItem i h2 ht (okItem_yes (by omega) (by omega) (by omega)))

theorem ps146 (l : List (Int × ByteArray)) (b : Bool) : PS tb 98 [.slice b (itemsPV l)] (.bool (okLog l)) := by
  refine PS_of (af := a98) rfl rfl ?_
  unfold a98
  dsimp only [List.map, ofPV, initEnv]
  repeat' (first | (simp (disch := omega) only [go_sem, seval, reduceCtorEq, itemsPV_length]) | with_reducible exact Ev.mk | ((first | apply x_split | apply x_splitg) <;> intro hβ hb <;> (simp (disch := omega) only [go_sem, seval, reduceCtorEq, itemsPV_length, hβ]) <;> clear hβ))
  · have : ¬ l.length ≤ 256 := by omega
    simp [okLog, this, pur, dep]
  · refine W_round ?_
    have hl : l.length ≤ 256 := by omega
    (try simp (disch := omega) only [go_sem, seval, reduceCtorEq])
    refine l146 l b hl _ ?_ ?_ l.length 0 (by omega) (by simp)
    · intro ha
      (try simp (disch := omega) only [go_sem, seval, reduceCtorEq])
      all_goals simp [okLog, hl, ha, pur, dep]
    · intro ha s hs
      (try simp (disch := omega) only [go_sem, seval, reduceCtorEq, hs])
      all_goals simp [okLog, hl, ha, pur, dep]

def plainX (x : X) : Bool :=
  if x.kind = 1 then decide (x.commit = 0) && !x.ok && decide ((x.items.length : Int) = 0)
  else if x.kind = 2 then decide (x.index = 0) && decide (x.logTerm = 0) && decide (x.commit = 0) && decide ((x.items.length : Int) = 0)
  else if x.kind = 3 then !x.ok
  else decide (x.logTerm = 0) && decide (x.commit = 0) && decide ((x.items.length : Int) = 0)

theorem ps147 (x : X) (f : Bool) : PS tb 99 [.agg (xC x f)] (.bool (decide (1 ≤ x.kind) && decide (x.kind ≤ 4) && plainX x)) := by
  refine PS_of (af := a99) rfl rfl ?_
  unfold a99
  dsimp only [List.map, ofPV, initEnv]
  repeat' (first | (simp (disch := omega) only [go_sem, seval, reduceCtorEq, xC, itemsPV_length]) | with_reducible exact Ev.mk | ((first | apply x_split | apply x_splitg) <;> intro hβ hb <;> (simp (disch := omega) only [go_sem, seval, reduceCtorEq, xC, itemsPV_length, hβ]) <;> clear hβ))
  all_goals (simp only [pur, dep, Option.some.injEq, PV.bool.injEq, PV.int.injEq, true_and] <;> grind [plainX])

def okX (x : X) (mem : Int) : Bool := within mem 1 7 && within x.frm 1 mem && within x.to 1 mem && decide (x.frm ≠ x.to) && within x.term 1 1099511627776 && within x.index 0 1099511627776 && within x.logTerm 0 1099511627776 && within x.commit 0 1099511627776 &&
  okLog x.items && decide (1 ≤ x.kind) && decide (x.kind ≤ 4) && plainX x

theorem ps131 (x : X) (f : Bool) (mem : Int) : PS tb 73 [.agg (xC x f), .int .i64 mem] (.bool (okX x mem)) := by
  refine PS_of (af := a73) rfl rfl ?_
  unfold a73
  dsimp only [List.map, ofPV, initEnv]
  repeat' (first | exact ps145 _ _ _ | exact ps146 _ _ | exact ps147 x f | (simp (disch := omega) only [go_sem, seval, reduceCtorEq, xC, itemsPV_length]) | with_reducible exact Ev.mk | apply x_call | ((first | apply x_split | apply x_splitg) <;> intro hβ hb <;> (simp (disch := omega) only [go_sem, seval, reduceCtorEq, xC, itemsPV_length, hβ]) <;> clear hβ))
  all_goals (simp only [pur, dep, Option.some.injEq, PV.bool.injEq, PV.int.injEq, true_and] <;> grind [okX])

def concernsX (m : M) (x : X) (kind : Int) : Bool := okM m && okX x m.members && decide (x.to = m.id) && decide (x.kind = kind)

theorem ps108 (m : M) (f : Fl) (x : X) (g : Bool) (kind : Int) (hm : MIn m) : PS tb 60 [.agg (mC m f), .agg (xC x g), .int .i64 kind] (.bool (concernsX m x kind)) := by
  refine PS_of (af := a60) rfl rfl ?_
  unfold a60
  dsimp only [List.map, ofPV, initEnv]
  repeat' (first | exact ps28 m f hm | exact ps131 x g _ | (simp (disch := omega) only [go_sem, seval, reduceCtorEq, mC, xC]) | with_reducible exact Ev.mk | apply x_call | ((first | apply x_split | apply x_splitg) <;> intro hβ hb <;> (simp (disch := omega) only [go_sem, seval, reduceCtorEq, mC, xC, hβ]) <;> clear hβ))
  all_goals (simp only [pur, dep, Option.some.injEq, PV.bool.injEq, PV.int.injEq, true_and] <;> grind [concernsX])

/-- The answer to an append. -/
def replyX (m : M) (to index : Int) (ok : Bool) : X := ⟨4, m.id, to, m.term, index, 0, 0, ok, []⟩

theorem ps109 (m : M) (f : Fl) (to index : Int) (ok : Bool) : PS tb 61 [.agg (mC m f), .int .i64 to, .int .i64 index, .bool ok] (.slice true [xC (replyX m to index ok) true]) := by
  refine PS_of (af := a61) rfl rfl ?_
  unfold a61
  dsimp only [List.map, ofPV, initEnv]
  repeat' (first | (simp (disch := omega) only [go_sem, seval, reduceCtorEq, mC]) | with_reducible exact Ev.mk | ((first | apply x_split | apply x_splitg) <;> intro hβ hb <;> (simp (disch := omega) only [go_sem, seval, reduceCtorEq, mC, hβ]) <;> clear hβ))
  all_goals rfl

/-- A follower of a term. -/
def followM (m : M) (term : Int) : M := ⟨m.id, m.members, term, 0, m.log, 1, m.commit, [], [], []⟩

theorem ps110 (m : M) (f : Fl) (term : Int) : PS tb 62 [.agg (mC m f), .int .i64 term] (.agg (mC (followM m term) ⟨f.a, true, true, true⟩)) := by
  refine PS_of (af := a62) rfl rfl ?_
  unfold a62
  dsimp only [List.map, ofPV, initEnv]
  repeat' (first | (simp (disch := omega) only [go_sem, seval, reduceCtorEq, mC]) | with_reducible exact Ev.mk | ((first | apply x_split | apply x_splitg) <;> intro hβ hb <;> (simp (disch := omega) only [go_sem, seval, reduceCtorEq, mC, hβ]) <;> clear hβ))
  all_goals rfl

end Go.Dv.Try
