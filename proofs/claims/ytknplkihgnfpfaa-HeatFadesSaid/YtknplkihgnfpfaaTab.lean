/-
  The annotated functions of this seat. Printed by wip/gen.py.
-/
import Derived.Test.YtknplkihgnfpfaaCode
import Derived.Test.YtknplkihgnfpfaaLib
import Derived.Test.YtknplkihgnfpfaaProg
import Derived.Test.YtknplkihgnfpfaaLays
import Derived.Test.YtknplkihgnfpfaaSort
import Derived.Test.YtknplkihgnfpfaaIns
import Derived.Test.YtknplkihgnfpfaaCmp
import Derived.Test.YtknplkihgnfpfaaLaysI
set_option linter.unusedVariables false
set_option maxRecDepth 100000
namespace Go.Dv.Try
open Go Go.Dv

/-- The functions that the interpreter knows. -/
def tabL : List (Nat × AFunc) := [(4, a4), (5, a5), (15, a15), (16, a16), (17, a17), (18, a18), (19, a19), (20, a20), (21, a21), (22, a22), (25, a25), (29, a29), (47, a47), (48, a48), (51, a51), (52, a52), (54, a54), (55, a55), (56, a56), (57, a57), (58, a58), (60, a60), (61, a61), (62, a62), (79, a79), (80, a80), (104, a104)]

def tab (f : FuncId) : Option AFunc := aget tabL f

theorem m4 : matchFunc Proofs.Try.prog 4 a4 = true := by kernel_rfl
theorem m5 : matchFunc Proofs.Try.prog 5 a5 = true := by kernel_rfl
theorem m15 : matchFunc Proofs.Try.prog 15 a15 = true := by kernel_rfl
theorem m16 : matchFunc Proofs.Try.prog 16 a16 = true := by kernel_rfl
theorem m17 : matchFunc Proofs.Try.prog 17 a17 = true := by kernel_rfl
theorem m18 : matchFunc Proofs.Try.prog 18 a18 = true := by kernel_rfl
theorem m19 : matchFunc Proofs.Try.prog 19 a19 = true := by kernel_rfl
theorem m20 : matchFunc Proofs.Try.prog 20 a20 = true := by kernel_rfl
theorem m21 : matchFunc Proofs.Try.prog 21 a21 = true := by kernel_rfl
theorem m22 : matchFunc Proofs.Try.prog 22 a22 = true := by kernel_rfl
theorem m25 : matchFunc Proofs.Try.prog 25 a25 = true := by kernel_rfl
theorem m29 : matchFunc Proofs.Try.prog 29 a29 = true := by kernel_rfl
theorem m47 : matchFunc Proofs.Try.prog 47 a47 = true := by kernel_rfl
theorem m48 : matchFunc Proofs.Try.prog 48 a48 = true := by kernel_rfl
theorem m51 : matchFunc Proofs.Try.prog 51 a51 = true := by kernel_rfl
theorem m52 : matchFunc Proofs.Try.prog 52 a52 = true := by kernel_rfl
theorem m54 : matchFunc Proofs.Try.prog 54 a54 = true := by kernel_rfl
theorem m55 : matchFunc Proofs.Try.prog 55 a55 = true := by kernel_rfl
theorem m56 : matchFunc Proofs.Try.prog 56 a56 = true := by kernel_rfl
theorem m57 : matchFunc Proofs.Try.prog 57 a57 = true := by kernel_rfl
theorem m58 : matchFunc Proofs.Try.prog 58 a58 = true := by kernel_rfl
theorem m60 : matchFunc Proofs.Try.prog 60 a60 = true := by kernel_rfl
theorem m61 : matchFunc Proofs.Try.prog 61 a61 = true := by kernel_rfl
theorem m62 : matchFunc Proofs.Try.prog 62 a62 = true := by kernel_rfl
theorem m79 : matchFunc Proofs.Try.prog 79 a79 = true := by kernel_rfl
theorem m80 : matchFunc Proofs.Try.prog 80 a80 = true := by kernel_rfl
theorem m104 : matchFunc Proofs.Try.prog 104 a104 = true := by kernel_rfl

theorem tab_ok : ∀ f af, tab f = some af → matchFunc Proofs.Try.prog f af = true := by
  have h : ∀ p ∈ tabL, matchFunc Proofs.Try.prog p.1 p.2 = true := by
    unfold tabL
    simp only [List.mem_cons, List.not_mem_nil, or_false, forall_eq_or_imp, forall_eq]
    exact ⟨m4, m5, m15, m16, m17, m18, m19, m20, m21, m22, m25, m29, m47, m48, m51, m52, m54, m55, m56, m57, m58, m60, m61, m62, m79, m80, m104⟩
  intro f af hf
  exact h (f, af) (aget_mem _ _ _ hf)

theorem mixed : Proofs.Try.prog.follows .mixedOrders = true := by kernel_rfl

/-- slices.Clone[[]clockwork/api.Heat,clockwork/api.Heat] -/
theorem c46 : matchFunc Proofs.Try.prog 46 (cloneA 8 [.str ⟨#[]⟩, .int .i64 0] 24) = true := by kernel_rfl

/-- What is known of functions outside. -/
def cloneOf (f : FuncId) : Option (Nat × Nat) := if f == 46 then some (2, 24) else none

theorem cloneOf_ok {f : FuncId} {sz by_ : Nat} (h : cloneOf f = some (sz, by_)) : ∃ nt zero, zero.length = sz ∧ matchFunc Proofs.Try.prog f (cloneA nt zero by_) = true := by
  unfold cloneOf at h
  split at h
  · rename_i hf
    simp only [beq_iff_eq] at hf; subst hf; cases h
    exact ⟨_, _, rfl, c46⟩
  cases h

def clones : CallF where
  pure := fun f args => match args, cloneOf f with
    | [.slice _ xs], some (sz, by_) => if allSz sz xs && decide (xs.length * by_ ≤ maxBytes) && decide (xs.length ≤ maxBytes) then some (.slice false xs) else none
    | _, _ => none
  byref := fun f args H nx => match args, cloneOf f with
    | [.p (.slice _ xs)], some (sz, by_) => if allSz sz xs && decide (xs.length * by_ ≤ maxBytes) && decide (xs.length ≤ maxBytes) then some (.ref nx xs.length 0 xs.length, (nx, .row false sz xs) :: H, nx + 1) else none
    | _, _ => none

theorem clones_ok : CallsOK Proofs.Try.prog clones := by
  refine ⟨fun f args r h => ?_, fun f args H nx r H2 nx2 h => ?_⟩
  · simp only [clones] at h
    split at h
    · rename_i hf
      split at h
      · rename_i hc
        simp only [Bool.and_eq_true, decide_eq_true_eq] at hc
        cases h
        obtain ⟨nt, zero, rfl, hm⟩ := cloneOf_ok hf
        exact clone_pure mixed hm hc.1.1 hc.1.2 hc.2
      · cases h
    · cases h
  · simp only [clones] at h
    split at h
    · rename_i hf
      split at h
      · rename_i hc
        simp only [Bool.and_eq_true, decide_eq_true_eq] at hc
        cases h
        obtain ⟨nt, zero, rfl, hm⟩ := cloneOf_ok hf
        exact clone_ok mixed hm hc.1.1 hc.1.2 hc.2
      · cases h
    · cases h

/-- What is known of functions outside. -/
def outside : CallF := CallF.or (CallF.or (clones) (insX 49 2 24)) (cmpStrX 53)

theorem outside_ok : CallsOK Proofs.Try.prog outside := (CallsOK.or (CallsOK.or clones_ok (insX_ok laysIns49 rfl (callable_of' Proofs.Try.func49 rfl rfl))) (cmpStrX_ok lays106 rfl (callable_of' Proofs.Try.func53 rfl rfl)))

/-- All that is known. -/
def tb : Tab := ⟨tab, outside⟩

theorem calls {f : FuncId} {args : List PV} {r : PV} (h : PS tb f args r) : PureOK Proofs.Try.prog f args r := h.calls mixed tab_ok outside_ok

end Go.Dv.Try
