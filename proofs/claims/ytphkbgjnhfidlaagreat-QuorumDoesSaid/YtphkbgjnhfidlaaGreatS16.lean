/-
  Specifications of the functions of this claim, parts 16.
-/
import Derived.Test.YtphkbgjnhfidlaaGreatTab
import Derived.Test.YtphkbgjnhfidlaaGreatStep
import Derived.Test.YtphkbgjnhfidlaaGreatS1
import Derived.Test.YtphkbgjnhfidlaaGreatS7
import Derived.Test.YtphkbgjnhfidlaaGreatS8
set_option linter.unusedVariables false
set_option linter.unusedSimpArgs false
set_option maxRecDepth 100000
set_option maxHeartbeats 16000000
namespace Go.Dv.Tryz
open Go Go.Dv

def within (n least most : Int) : Bool := decide (least ≤ n) && decide (n ≤ most)

theorem ps145 (n least most : Int) : PS tb 53 [.int .i64 n, .int .i64 least, .int .i64 most] (.bool (within n least most)) := by
  refine PS_of (af := a53) rfl rfl ?_
  unfold a53
  dsimp only [List.map, ofPV, initEnv]
  repeat' (first | (simp (disch := omega) only [go_sem, seval, reduceCtorEq]) | with_reducible exact Ev.mk | ((first | apply x_split | apply x_splitg) <;> intro hβ hb <;> (try simp only [hβ]) <;> clear hβ))
  all_goals (simp only [pur, dep, Option.some.injEq, PV.bool.injEq, PV.int.injEq, true_and] <;> grind [within])

theorem ps91 (n least : Int) : PS tb 59 [.int .i64 n, .int .i64 least] (.bool (within n least 1099511627776)) := by
  refine PS_of (af := a59) rfl rfl ?_
  unfold a59
  dsimp only [List.map, ofPV, initEnv]
  repeat' (first | (simp (disch := omega) only [go_sem, seval, reduceCtorEq]) | with_reducible exact Ev.mk | ((first | apply x_split | apply x_splitg) <;> intro hβ hb <;> (try simp only [hβ]) <;> clear hβ))
  all_goals (simp only [pur, dep, Option.some.injEq, PV.bool.injEq, PV.int.injEq, true_and] <;> grind [within])

theorem l146 (l : List (Int × ByteArray)) (b : Bool) (hl : l.length ≤ 256) (K : Ex → St → Prop) (hx : l.all okItem = true → K (.exit 0) ⟨[], [], 0, [0]⟩)
    (hr : l.all okItem = false → ∀ s, aget s.env 2 = some (.p (.bool false)) → K .ret s) : ∀ (m i : Nat), i + m = l.length → (l.take i).all okItem = true →
    W tb a54_l0 ⟨[(8, .p (.slice b (itemsPV l))), (9, .p (.int .i64 l.length)), (10, .p (.int .i64 i))], [], 0, [0]⟩ (LK tb (.ghost (.free [4]) (.ghost .lower a54_l0)) K) := by
  intro m
  induction m with
  | zero =>
    intro i hi ht
    have h1 : ¬ (i : Int) < l.length := by omega
    rw [List.take_of_length_le (by omega)] at ht
    refine i_code (by unfold a54_l0; exact rfl) ?_
    repeat' (first | (simp (disch := omega) only [go_sem, seval, reduceCtorEq, h1, itemsPV_length]) | with_reducible exact Ev.mk | ((first | apply x_split | apply x_splitg) <;> intro hβ hb <;> (try simp only [hβ]) <;> clear hβ))
    exact hx ht
  | succ m ih =>
    intro i hi ht
    have h1 : (i : Int) < l.length := by omega
    have h2 : i < l.length := by omega
    have h3 := itemsPV_get l i h2
    have h4 : (0 : Int) ≤ i := by omega
    refine i_code (by unfold a54_l0; exact rfl) ?_
    cases hw : within l[i].1 1 1099511627776 with
    | false =>
      repeat' (first | exact ps145 _ _ _ | (simp (disch := omega) only [go_sem, seval, reduceCtorEq, h1, h3, h4, hw, itemPV, itemsPV_length]) | with_reducible exact Ev.mk | apply x_call | ((first | apply x_split | apply x_splitg) <;> intro hβ hb <;> (try simp only [hβ]) <;> clear hβ))
      refine hr (all_no l okItem i h2 (okItem_no ?_)) _ rfl
      simp only [within, Bool.and_eq_false_iff, decide_eq_false_iff_not] at hw
      omega
    | true =>
      repeat' (first | exact ps145 _ _ _ | (simp (disch := omega) only [go_sem, seval, reduceCtorEq, h1, h3, h4, hw, itemPV, itemsPV_length]) | with_reducible exact Ev.mk | apply x_call | ((first | apply x_split | apply x_splitg) <;> intro hβ hb <;> (try simp only [hβ]) <;> clear hβ))
      all_goals simp only [within, Bool.and_eq_true, decide_eq_true_eq] at hw
      · exact hr (all_no l okItem i h2 (okItem_no (by omega))) _ rfl
      · refine i_lk (W_round ?_)
        (try simp (disch := omega) only [go_sem, seval, reduceCtorEq])
        exact ih (i + 1) (by omega) (all_step l okItem i h2 ht (okItem_yes (by omega) (by omega) (by omega)))

theorem ps146 (l : List (Int × ByteArray)) (b : Bool) : PS tb 54 [.slice b (itemsPV l)] (.bool (okLog l)) := by
  refine PS_of (af := a54) rfl rfl ?_
  unfold a54
  dsimp only [List.map, ofPV, initEnv]
  repeat' (first | (simp (disch := omega) only [go_sem, seval, reduceCtorEq, itemsPV_length]) | with_reducible exact Ev.mk | ((first | apply x_split | apply x_splitg) <;> intro hβ hb <;> (try simp only [hβ]) <;> clear hβ))
  · have : ¬ l.length ≤ 256 := by omega
    simp [okLog, this, pur, dep]
  · refine W_round ?_
    have hl : l.length ≤ 256 := by omega
    (try simp (disch := omega) only [go_sem, seval, reduceCtorEq])
    refine l146 l b hl _ ?_ ?_ l.length 0 (by omega) (by simp)
    · intro ha
      (try simp (disch := omega) only [go_sem, seval, reduceCtorEq])
      all_goals simp [okLog, hl, ha, pur, dep]
    · intro ha s hs
      (try simp (disch := omega) only [go_sem, seval, reduceCtorEq, hs])
      all_goals simp [okLog, hl, ha, pur, dep]

theorem l92 (l : List (Int × ByteArray)) (b : Bool) (hl : l.length ≤ 9223372036854775807) (K : Ex → St → Prop) (hx : l.all okItem = true → K (.exit 0) ⟨[(0, .p (.slice b (itemsPV l)))], [], 0, [0]⟩)
    (hr : l.all okItem = false → ∀ s, aget s.env 2 = some (.p (.bool false)) → K .ret s) : ∀ (m i : Nat), i + m = l.length → (l.take i).all okItem = true →
    W tb a60_l0 ⟨[(0, .p (.slice b (itemsPV l))), (3, .p (.int .i64 i))], [], 0, [0]⟩ (LK tb (.ghost .lower a60_l0) K) := by
  intro m
  induction m with
  | zero =>
    intro i hi ht
    have h1 : ¬ (i : Int) < l.length := by omega
    rw [List.take_of_length_le (by omega)] at ht
    refine i_code (by unfold a60_l0; exact rfl) ?_
    repeat' (first | (simp (disch := omega) only [go_sem, seval, reduceCtorEq, h1, itemsPV_length]) | with_reducible exact Ev.mk | ((first | apply x_split | apply x_splitg) <;> intro hβ hb <;> (try simp only [hβ]) <;> clear hβ))
    exact hx ht
  | succ m ih =>
    intro i hi ht
    have h1 : (i : Int) < l.length := by omega
    have h2 : i < l.length := by omega
    have h3 := itemsPV_get l i h2
    have h4 : (0 : Int) ≤ i := by omega
    refine i_code (by unfold a60_l0; exact rfl) ?_
    cases hw : within l[i].1 1 1099511627776 with
    | false =>
      repeat' (first | exact ps91 _ _ | (simp (disch := omega) only [go_sem, seval, reduceCtorEq, h1, h3, h4, hw, itemPV, itemsPV_length]) | with_reducible exact Ev.mk | apply x_call | ((first | apply x_split | apply x_splitg) <;> intro hβ hb <;> (try simp only [hβ]) <;> clear hβ))
      refine hr (all_no l okItem i h2 (okItem_no ?_)) _ rfl
      simp only [within, Bool.and_eq_false_iff, decide_eq_false_iff_not] at hw
      omega
    | true =>
      repeat' (first | exact ps91 _ _ | (simp (disch := omega) only [go_sem, seval, reduceCtorEq, h1, h3, h4, hw, itemPV, itemsPV_length]) | with_reducible exact Ev.mk | apply x_call | ((first | apply x_split | apply x_splitg) <;> intro hβ hb <;> (try simp only [hβ]) <;> clear hβ))
      all_goals simp only [within, Bool.and_eq_true, decide_eq_true_eq] at hw
      · exact hr (all_no l okItem i h2 (okItem_no (by omega))) _ rfl
      · refine i_lk (W_round ?_)
        (try simp (disch := omega) only [go_sem, seval, reduceCtorEq])
        exact ih (i + 1) (by omega) (all_step l okItem i h2 ht (okItem_yes (by omega) (by omega) (by omega)))

theorem ps92 (l : List (Int × ByteArray)) (b : Bool) (hl : l.length ≤ 9223372036854775807) : PS tb 60 [.slice b (itemsPV l)] (.bool (okLog l)) := by
  refine PS_of (af := a60) rfl rfl ?_
  unfold a60
  dsimp only [List.map, ofPV, initEnv]
  repeat' (first | (simp (disch := omega) only [go_sem, seval, reduceCtorEq, itemsPV_length]) | with_reducible exact Ev.mk | ((first | apply x_split | apply x_splitg) <;> intro hβ hb <;> (try simp only [hβ]) <;> clear hβ))
  refine W_round ?_
  (try simp (disch := omega) only [go_sem, seval, reduceCtorEq])
  refine l92 l b hl _ ?_ ?_ l.length 0 (by omega) (by simp)
  · intro ha
    (try simp (disch := omega) only [go_sem, seval, reduceCtorEq, itemsPV_length])
    by_cases h : l.length ≤ 256
    · have : (l.length : Int) ≤ 256 := by omega
      simp [okLog, h, this, ha]
    · have : ¬ (l.length : Int) ≤ 256 := by omega
      simp [okLog, h, this]
  · intro ha s hs
    (try simp (disch := omega) only [go_sem, seval, reduceCtorEq, hs])
    all_goals simp [okLog, ha]

def plainX (x : X) : Bool :=
  if x.kind = 1 then decide (x.commit = 0) && !x.ok && decide ((x.items.length : Int) = 0)
  else if x.kind = 2 then decide (x.index = 0) && decide (x.logTerm = 0) && decide (x.commit = 0) && decide ((x.items.length : Int) = 0)
  else if x.kind = 3 then !x.ok
  else decide (x.logTerm = 0) && decide (x.commit = 0) && decide ((x.items.length : Int) = 0)

theorem ps93 (x : X) (f : Bool) : PS tb 61 [.agg (xC x f)] (.bool (plainX x)) := by
  refine PS_of (af := a61) rfl rfl ?_
  unfold a61
  dsimp only [List.map, ofPV, initEnv]
  repeat' (first | (simp (disch := omega) only [go_sem, seval, reduceCtorEq, xC, itemsPV_length]) | with_reducible exact Ev.mk | ((first | apply x_split | apply x_splitg) <;> intro hβ hb <;> (try simp only [hβ]) <;> clear hβ))
  all_goals (simp only [pur, dep, Option.some.injEq, PV.bool.injEq, PV.int.injEq, true_and] <;> grind [plainX])

theorem ps147 (x : X) (f : Bool) : PS tb 55 [.agg (xC x f)] (.bool (decide (1 ≤ x.kind) && decide (x.kind ≤ 4) && plainX x)) := by
  refine PS_of (af := a55) rfl rfl ?_
  unfold a55
  dsimp only [List.map, ofPV, initEnv]
  repeat' (first | (simp (disch := omega) only [go_sem, seval, reduceCtorEq, xC, itemsPV_length]) | with_reducible exact Ev.mk | ((first | apply x_split | apply x_splitg) <;> intro hβ hb <;> (try simp only [hβ]) <;> clear hβ))
  all_goals (simp only [pur, dep, Option.some.injEq, PV.bool.injEq, PV.int.injEq, true_and] <;> grind [plainX])

def okX (x : X) (mem : Int) : Bool := within mem 1 7 && within x.frm 1 mem && within x.to 1 mem && decide (x.frm ≠ x.to) && within x.term 1 1099511627776 && within x.index 0 1099511627776 && within x.logTerm 0 1099511627776 && within x.commit 0 1099511627776 &&
  okLog x.items && decide (1 ≤ x.kind) && decide (x.kind ≤ 4) && plainX x

theorem ps131 (x : X) (f : Bool) (mem : Int) : PS tb 23 [.agg (xC x f), .int .i64 mem] (.bool (okX x mem)) := by
  refine PS_of (af := a23) rfl rfl ?_
  unfold a23
  dsimp only [List.map, ofPV, initEnv]
  repeat' (first | exact ps145 _ _ _ | exact ps146 _ _ | exact ps147 x f | (simp (disch := omega) only [go_sem, seval, reduceCtorEq, xC, itemsPV_length]) | with_reducible exact Ev.mk | apply x_call | ((first | apply x_split | apply x_splitg) <;> intro hβ hb <;> (try simp only [hβ]) <;> clear hβ))
  all_goals (simp only [pur, dep, Option.some.injEq, PV.bool.injEq, PV.int.injEq, true_and] <;> grind [okX])

theorem ps40 (x : X) (f : Bool) (mem : Int) (hl : x.items.length ≤ 9223372036854775807) : PS tb 25 [.agg (xC x f), .int .i64 mem] (.bool (okX x mem)) := by
  refine PS_of (af := a25) rfl rfl ?_
  unfold a25
  dsimp only [List.map, ofPV, initEnv]
  repeat' (first | exact ps91 _ _ | exact ps92 _ _ hl | exact ps93 x f | (simp (disch := omega) only [go_sem, seval, reduceCtorEq, xC, itemsPV_length]) | with_reducible exact Ev.mk | apply x_call | ((first | apply x_split | apply x_splitg) <;> intro hβ hb <;> (try simp only [hβ]) <;> clear hβ))
  all_goals (simp only [pur, dep, Option.some.injEq, PV.bool.injEq, PV.int.injEq, true_and] <;> grind [okX, within])

def concernsX (m : M) (x : X) (kind : Int) : Bool := okM m && okX x m.members && decide (x.to = m.id) && decide (x.kind = kind)

theorem ps108 (m : M) (f : Fl) (x : X) (g : Bool) (kind : Int) (hm : MIn m) : PS tb 117 [.agg (mC m f), .agg (xC x g), .int .i64 kind] (.bool (concernsX m x kind)) := by
  refine PS_of (af := a117) rfl rfl ?_
  unfold a117
  dsimp only [List.map, ofPV, initEnv]
  repeat' (first | exact ps28 m f hm | exact ps131 x g _ | (simp (disch := omega) only [go_sem, seval, reduceCtorEq, mC, xC]) | with_reducible exact Ev.mk | apply x_call | ((first | apply x_split | apply x_splitg) <;> intro hβ hb <;> (try simp only [hβ]) <;> clear hβ))
  all_goals (simp only [pur, dep, Option.some.injEq, PV.bool.injEq, PV.int.injEq, true_and] <;> grind [concernsX])

theorem ps112 (m : M) (f : Fl) (x : X) (g : Bool) (kind : Int) (hm : MIn m) (hl : x.items.length ≤ 9223372036854775807) : PS tb 124 [.agg (mC m f), .agg (xC x g), .int .i64 kind] (.bool (concernsX m x kind)) := by
  refine PS_of (af := a124) rfl rfl ?_
  unfold a124
  dsimp only [List.map, ofPV, initEnv]
  repeat' (first | exact ps29 m f hm | exact ps40 x g _ hl | (simp (disch := omega) only [go_sem, seval, reduceCtorEq, mC, xC]) | with_reducible exact Ev.mk | apply x_call | ((first | apply x_split | apply x_splitg) <;> intro hβ hb <;> (try simp only [hβ]) <;> clear hβ))
  all_goals (simp only [pur, dep, Option.some.injEq, PV.bool.injEq, PV.int.injEq, true_and] <;> grind [concernsX])

def replyX (m : M) (to index : Int) (ok : Bool) : X := ⟨4, m.id, to, m.term, index, 0, 0, ok, []⟩

theorem ps109 (m : M) (f : Fl) (to index : Int) (ok : Bool) : PS tb 118 [.agg (mC m f), .int .i64 to, .int .i64 index, .bool ok] (.slice true [xC (replyX m to index ok) true]) := by
  refine PS_of (af := a118) rfl rfl ?_
  unfold a118
  dsimp only [List.map, ofPV, initEnv]
  repeat' (first | (simp (disch := omega) only [go_sem, seval, reduceCtorEq, mC]) | with_reducible exact Ev.mk | ((first | apply x_split | apply x_splitg) <;> intro hβ hb <;> (try simp only [hβ]) <;> clear hβ))
  all_goals rfl

theorem ps113 (m : M) (f : Fl) (to index : Int) (ok : Bool) : PS tb 125 [.agg (mC m f), .int .i64 to, .int .i64 index, .bool ok] (.slice true [xC (replyX m to index ok) true]) := by
  refine PS_of (af := a125) rfl rfl ?_
  unfold a125
  dsimp only [List.map, ofPV, initEnv]
  repeat' (first | (simp (disch := omega) only [go_sem, seval, reduceCtorEq, mC]) | with_reducible exact Ev.mk | ((first | apply x_split | apply x_splitg) <;> intro hβ hb <;> (try simp only [hβ]) <;> clear hβ))
  all_goals rfl

def followM (m : M) (term : Int) : M := ⟨m.id, m.members, term, 0, m.log, 1, m.commit, [], [], []⟩

theorem ps110 (m : M) (f : Fl) (term : Int) : PS tb 119 [.agg (mC m f), .int .i64 term] (.agg (mC (followM m term) ⟨f.a, true, true, true⟩)) := by
  refine PS_of (af := a119) rfl rfl ?_
  unfold a119
  dsimp only [List.map, ofPV, initEnv]
  repeat' (first | (simp (disch := omega) only [go_sem, seval, reduceCtorEq, mC]) | with_reducible exact Ev.mk | ((first | apply x_split | apply x_splitg) <;> intro hβ hb <;> (try simp only [hβ]) <;> clear hβ))
  all_goals rfl

theorem ps114 (m : M) (f : Fl) (term : Int) : PS tb 126 [.agg (mC m f), .int .i64 term] (.agg (mC (followM m term) ⟨f.a, true, true, true⟩)) := by
  refine PS_of (af := a126) rfl rfl ?_
  unfold a126
  dsimp only [List.map, ofPV, initEnv]
  repeat' (first | (simp (disch := omega) only [go_sem, seval, reduceCtorEq, mC]) | with_reducible exact Ev.mk | ((first | apply x_split | apply x_splitg) <;> intro hβ hb <;> (try simp only [hβ]) <;> clear hβ))
  all_goals rfl

end Go.Dv.Tryz
