/-
  Specifications of the functions of this claim, parts 7.
-/
import Derived.Test.YtphkbgjnhfidlaaGreatTab
import Derived.Test.YtphkbgjnhfidlaaGreatStep
import Derived.Test.YtphkbgjnhfidlaaGreatS1
set_option linter.unusedVariables false
set_option linter.unusedSimpArgs false
set_option maxRecDepth 100000
set_option maxHeartbeats 16000000
namespace Go.Dv.Tryz
open Go Go.Dv

structure MIn (m : M) : Prop where
  id1 : -9223372036854775808 ≤ m.id
  id2 : m.id ≤ 9223372036854775807
  me1 : -9223372036854775808 ≤ m.members
  me2 : m.members ≤ 9223372036854775807
  lo : m.log.length ≤ 9223372036854775807
  vo : m.votes.length ≤ 9223372036854775807
  ne : m.next.length ≤ 9223372036854775807
  ma : m.mtch.length ≤ 9223372036854775807

def okHead (m : M) : Bool := decide (1 ≤ m.members) && decide (m.members ≤ 7) && decide (1 ≤ m.id) && decide (m.id ≤ m.members) && decide (0 ≤ m.term) && decide (m.term ≤ 1099511627776) && decide (0 ≤ m.vote) && decide (m.vote ≤ m.members)

def okMid (m : M) : Bool := okLog m.log && decide (0 ≤ m.commit) && decide (m.commit ≤ m.log.length)

def okRole (m : M) : Bool :=
  if m.role = 1 then decide ((m.votes.length : Int) = 0) && decide ((m.next.length : Int) = 0) && decide ((m.mtch.length : Int) = 0)
  else if m.role = 2 then decide (1 ≤ m.term) && decide (m.vote = m.id) && okVotes m && decide ((m.next.length : Int) = 0) && decide ((m.mtch.length : Int) = 0)
  else if m.role = 3 then decide (1 ≤ m.term) && decide (m.vote = m.id) && decide ((m.votes.length : Int) = 0) && okProg m
  else false

def okM (m : M) : Bool := okHead m && okMid m && okRole m

theorem ps28 (m : M) (f : Fl) (hm : MIn m) : PS tb 22 [.agg (mC m f)] (.bool (okM m)) := by
  have := hm.id1; have := hm.id2; have := hm.me1; have := hm.me2; have := hm.lo; have := hm.vo; have := hm.ne; have := hm.ma
  refine PS_of (af := a22) rfl rfl ?_
  unfold a22
  dsimp only [List.map, ofPV, initEnv]
  repeat' (first | exact ps75 _ _ | exact ps76 m f (by omega) (by omega) | exact ps77 m f (by omega) (by omega) (by omega) | (simp (disch := omega) only [go_sem, seval, reduceCtorEq, mC, intsPV_length, itemsPV_length]) | with_reducible exact Ev.mk | apply x_call | ((first | apply x_split | apply x_splitg) <;> intro hβ hb <;> (try simp only [hβ]) <;> clear hβ))
  all_goals (simp only [pur, dep, Option.some.injEq, PV.bool.injEq, PV.int.injEq, true_and] <;> grind [okM, okHead, okMid, okRole])

theorem ps29 (m : M) (f : Fl) (hm : MIn m) : PS tb 24 [.agg (mC m f)] (.bool (okM m)) := by
  have := hm.id1; have := hm.id2; have := hm.me1; have := hm.me2; have := hm.lo; have := hm.vo; have := hm.ne; have := hm.ma
  refine PS_of (af := a24) rfl rfl ?_
  unfold a24
  dsimp only [List.map, ofPV, initEnv]
  repeat' (first | exact ps78 _ _ (by omega) | exact ps79 m f (by omega) (by omega) | exact ps80 m f (by omega) (by omega) (by omega) | (simp (disch := omega) only [go_sem, seval, reduceCtorEq, mC, intsPV_length, itemsPV_length]) | with_reducible exact Ev.mk | apply x_call | ((first | apply x_split | apply x_splitg) <;> intro hβ hb <;> (try simp only [hβ]) <;> clear hβ))
  all_goals (simp only [pur, dep, Option.some.injEq, PV.bool.injEq, PV.int.injEq, true_and] <;> grind [okM, okHead, okMid, okRole])

end Go.Dv.Tryz
