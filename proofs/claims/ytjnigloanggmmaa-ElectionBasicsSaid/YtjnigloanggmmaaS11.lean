/-
  Specifications, part 11: lists with another element; copies of a member.
-/
import Derived.Test.YtjnigloanggmmaaS10
set_option linter.unusedVariables false
set_option linter.unusedSimpArgs false
set_option maxRecDepth 100000
set_option maxHeartbeats 4000000
namespace Go.Dv.Try
open Go Go.Dv

theorem intsPV_sing (n : Int) : [[PV.int .i64 n]] = intsPV [n] := rfl

theorem intsPV_set (l : List Int) (i : Nat) (n : Int) : (intsPV l).set i [.int .i64 n] = intsPV (l.set i n) := by simp [intsPV, List.map_set, intPV]

theorem BS_out {T : Tab} {f : FuncId} {l : List DV} {H : Heap} {nx : Nat} {r : DV} {H' : Heap} {nx' : Nat} (h : T.A f = none) (hx : T.X.byref f l H nx = some (r, H', nx')) : BS T f l H nx r H' nx' := ⟨0, by simp only [cfs, h, hx]⟩

theorem bs97 (l : List (Int × ByteArray)) (b : Bool) (H : Heap) (nx : Nat) (h : l.length ≤ 100000) : BS tb 97 [.p (.slice b (itemsPV l))] H nx (.ref nx l.length 0 l.length) ((nx, .row false 2 (itemsPV l)) :: H) (nx + 1) := by
  refine BS_out (show tab 97 = none from rfl) ?_
  show outside.byref 97 _ _ _ = _
  simp [outside, cloneOf, itemsPV_sz, itemsPV_length, maxBytes]
  omega

theorem bs129 (l : List Int) (b : Bool) (H : Heap) (nx : Nat) (h : l.length ≤ 100000) : BS tb 129 [.p (.slice b (intsPV l))] H nx (.ref nx l.length 0 l.length) ((nx, .row false 1 (intsPV l)) :: H) (nx + 1) := by
  refine BS_out (show tab 129 = none from rfl) ?_
  show outside.byref 129 _ _ _ = _
  simp [outside, cloneOf, intsPV_sz, intsPV_length, maxBytes]
  omega

/-- A copied member's cells; its rows begin at a number. -/
def rC (m : M) (k : Nat) : List DV := [.p (.int .i64 m.id), .p (.int .i64 m.members), .p (.int .i64 m.term), .p (.int .i64 m.vote), .ref (k + 2) m.log.length 0 m.log.length, .p (.int .i64 m.role), .p (.int .i64 m.commit),
  .ref (k + 3) m.votes.length 0 m.votes.length, .ref (k + 4) m.next.length 0 m.next.length, .ref (k + 5) m.mtch.length 0 m.mtch.length]

theorem beqA (a b n : Nat) : (n + a == n + b) = (a == b) := by
  cases h : (a == b)
  · have : a ≠ b := by intro e; subst e; simp at h
    exact beq_false_of_ne (by omega)
  · have := eq_of_beq h; subst this; exact beq_self_eq_true _

theorem beqB (a n : Nat) : (n + (a + 1) == n) = false := beq_false_of_ne (by omega)

theorem beqC (a n : Nat) : (n == n + (a + 1)) = false := beq_false_of_ne (by omega)

theorem freshA {H : Heap} {n : Nat} (h : ∀ j, n ≤ j → aget H j = none) (k : Nat) : aget H (n + k) = none := h _ (by omega)

theorem freshB {H : Heap} {n : Nat} (h : ∀ j, n ≤ j → aget H j = none) : aget H n = none := h _ (by omega)

end Go.Dv.Try
