/-
  The annotated functions of this seat. Printed by wip/gen.py.
-/
import Derived.Test.YthdcneolpbbcmaaCodeO
import Derived.Test.YthdcneolpbbcmaaLib
import Derived.Test.YthdcneolpbbcmaaProg
import Derived.Test.YthdcneolpbbcmaaLays
import Derived.Test.YthdcneolpbbcmaaSort
import Derived.Test.YthdcneolpbbcmaaIns
import Derived.Test.YthdcneolpbbcmaaCmp
import Derived.Test.YthdcneolpbbcmaaLaysI
import Derived.Test.YthdcneolpbbcmaaSortI
set_option linter.unusedVariables false
set_option maxRecDepth 100000
namespace Go.Dv.Try0
open Go Go.Dv Go.Dv.Try

/-- The functions that the interpreter knows. -/
def tabL : List (Nat × AFunc) := [(23, a23), (24, a24), (40, a40), (41, a41), (58, a58)]

def tab (f : FuncId) : Option AFunc := aget tabL f

theorem m23 : matchFunc Proofs.Try.prog 23 a23 = true := by kernel_rfl
theorem m24 : matchFunc Proofs.Try.prog 24 a24 = true := by kernel_rfl
theorem m40 : matchFunc Proofs.Try.prog 40 a40 = true := by kernel_rfl
theorem m41 : matchFunc Proofs.Try.prog 41 a41 = true := by kernel_rfl
theorem m58 : matchFunc Proofs.Try.prog 58 a58 = true := by kernel_rfl

theorem tab_ok : ∀ f af, tab f = some af → matchFunc Proofs.Try.prog f af = true := by
  have h : ∀ p ∈ tabL, matchFunc Proofs.Try.prog p.1 p.2 = true := by
    unfold tabL
    simp only [List.mem_cons, List.not_mem_nil, or_false, forall_eq_or_imp, forall_eq]
    exact ⟨m23, m24, m40, m41, m58⟩
  intro f af hf
  exact h (f, af) (aget_mem _ _ _ hf)

theorem mixed : Proofs.Try.prog.follows .mixedOrders = true := by kernel_rfl

/-- What is known of functions outside. -/
def cloneOf (f : FuncId) : Option (Nat × Nat) := none

theorem cloneOf_ok {f : FuncId} {sz by_ : Nat} (h : cloneOf f = some (sz, by_)) : ∃ nt zero, zero.length = sz ∧ matchFunc Proofs.Try.prog f (cloneA nt zero by_) = true := by
  unfold cloneOf at h
  cases h

def clones : CallF where
  pure := fun f args => match args, cloneOf f with
    | [.slice _ xs], some (sz, by_) => if allSz sz xs && decide (xs.length * by_ ≤ maxBytes) && decide (xs.length ≤ maxBytes) then some (.slice false xs) else none
    | _, _ => none
  byref := fun f args H nx => match args, cloneOf f with
    | [.p (.slice _ xs)], some (sz, by_) => if allSz sz xs && decide (xs.length * by_ ≤ maxBytes) && decide (xs.length ≤ maxBytes) then some (.ref nx xs.length 0 xs.length, (nx, .row false sz xs) :: H, nx + 1) else none
    | _, _ => none

theorem clones_ok : CallsOK Proofs.Try.prog clones := by
  refine ⟨fun f args r h => ?_, fun f args H nx r H2 nx2 h => ?_⟩
  · simp only [clones] at h
    split at h
    · rename_i hf
      split at h
      · rename_i hc
        simp only [Bool.and_eq_true, decide_eq_true_eq] at hc
        cases h
        obtain ⟨nt, zero, rfl, hm⟩ := cloneOf_ok hf
        exact clone_pure mixed hm hc.1.1 hc.1.2 hc.2
      · cases h
    · cases h
  · simp only [clones] at h
    split at h
    · rename_i hf
      split at h
      · rename_i hc
        simp only [Bool.and_eq_true, decide_eq_true_eq] at hc
        cases h
        obtain ⟨nt, zero, rfl, hm⟩ := cloneOf_ok hf
        exact clone_ok mixed hm hc.1.1 hc.1.2 hc.2
      · cases h
    · cases h

/-- What is known of functions outside. -/
def outside : CallF := CallF.or (clones) (cmpStrX 25)

theorem outside_ok : CallsOK Proofs.Try.prog outside := (CallsOK.or clones_ok (cmpStrX_ok lays106 rfl (callable_of' Proofs.Try.func25 rfl rfl)))

/-- All that is known. -/
def tb : Tab := ⟨tab, outside⟩

theorem calls {f : FuncId} {args : List PV} {r : PV} (h : PS tb f args r) : PureOK Proofs.Try.prog f args r := h.calls mixed tab_ok outside_ok

end Go.Dv.Try0
