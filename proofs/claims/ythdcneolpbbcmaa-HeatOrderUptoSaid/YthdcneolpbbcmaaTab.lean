/-
  The annotated functions of this seat. Printed by wip/gen.py.
-/
import Derived.Test.YthdcneolpbbcmaaCode
import Derived.Test.YthdcneolpbbcmaaLib
import Derived.Test.YthdcneolpbbcmaaProg
import Derived.Test.YthdcneolpbbcmaaLays
import Derived.Test.YthdcneolpbbcmaaSort
import Derived.Test.YthdcneolpbbcmaaIns
import Derived.Test.YthdcneolpbbcmaaCmp
import Derived.Test.YthdcneolpbbcmaaLaysI
import Derived.Test.YthdcneolpbbcmaaSortI
import Derived.Test.YthdcneolpbbcmaaHO
set_option linter.unusedVariables false
set_option maxRecDepth 100000
namespace Go.Dv.Try
open Go Go.Dv

/-- The functions that the interpreter knows. -/
def tabL : List (Nat × AFunc) := [(3, a3), (4, a4), (5, a5), (6, a6), (7, a7), (8, a8), (9, a9), (10, a10), (11, a11), (12, a12), (13, a13), (14, a14), (15, a15), (16, a16), (17, a17), (19, a19), (20, a20), (23, a23), (24, a24), (26, a26), (27, a27), (28, a28), (29, a29), (30, a30), (31, a31), (32, a32), (33, a33), (34, a34), (35, a35), (40, a40), (41, a41), (43, a43), (44, a44), (45, a45), (46, a46), (58, a58), (60, a60), (61, a61), (63, a63), (64, a64), (65, a65)]

def tab (f : FuncId) : Option AFunc := aget tabL f

theorem m3 : matchFunc Proofs.Try.prog 3 a3 = true := by kernel_rfl
theorem m4 : matchFunc Proofs.Try.prog 4 a4 = true := by kernel_rfl
theorem m5 : matchFunc Proofs.Try.prog 5 a5 = true := by kernel_rfl
theorem m6 : matchFunc Proofs.Try.prog 6 a6 = true := by kernel_rfl
theorem m7 : matchFunc Proofs.Try.prog 7 a7 = true := by kernel_rfl
theorem m8 : matchFunc Proofs.Try.prog 8 a8 = true := by kernel_rfl
theorem m9 : matchFunc Proofs.Try.prog 9 a9 = true := by kernel_rfl
theorem m10 : matchFunc Proofs.Try.prog 10 a10 = true := by kernel_rfl
theorem m11 : matchFunc Proofs.Try.prog 11 a11 = true := by kernel_rfl
theorem m12 : matchFunc Proofs.Try.prog 12 a12 = true := by kernel_rfl
theorem m13 : matchFunc Proofs.Try.prog 13 a13 = true := by kernel_rfl
theorem m14 : matchFunc Proofs.Try.prog 14 a14 = true := by kernel_rfl
theorem m15 : matchFunc Proofs.Try.prog 15 a15 = true := by kernel_rfl
theorem m16 : matchFunc Proofs.Try.prog 16 a16 = true := by kernel_rfl
theorem m17 : matchFunc Proofs.Try.prog 17 a17 = true := by kernel_rfl
theorem m19 : matchFunc Proofs.Try.prog 19 a19 = true := by kernel_rfl
theorem m20 : matchFunc Proofs.Try.prog 20 a20 = true := by kernel_rfl
theorem m23 : matchFunc Proofs.Try.prog 23 a23 = true := by kernel_rfl
theorem m24 : matchFunc Proofs.Try.prog 24 a24 = true := by kernel_rfl
theorem m26 : matchFunc Proofs.Try.prog 26 a26 = true := by kernel_rfl
theorem m27 : matchFunc Proofs.Try.prog 27 a27 = true := by kernel_rfl
theorem m28 : matchFunc Proofs.Try.prog 28 a28 = true := by kernel_rfl
theorem m29 : matchFunc Proofs.Try.prog 29 a29 = true := by kernel_rfl
theorem m30 : matchFunc Proofs.Try.prog 30 a30 = true := by kernel_rfl
theorem m31 : matchFunc Proofs.Try.prog 31 a31 = true := by kernel_rfl
theorem m32 : matchFunc Proofs.Try.prog 32 a32 = true := by kernel_rfl
theorem m33 : matchFunc Proofs.Try.prog 33 a33 = true := by kernel_rfl
theorem m34 : matchFunc Proofs.Try.prog 34 a34 = true := by kernel_rfl
theorem m35 : matchFunc Proofs.Try.prog 35 a35 = true := by kernel_rfl
theorem m40 : matchFunc Proofs.Try.prog 40 a40 = true := by kernel_rfl
theorem m41 : matchFunc Proofs.Try.prog 41 a41 = true := by kernel_rfl
theorem m43 : matchFunc Proofs.Try.prog 43 a43 = true := by kernel_rfl
theorem m44 : matchFunc Proofs.Try.prog 44 a44 = true := by kernel_rfl
theorem m45 : matchFunc Proofs.Try.prog 45 a45 = true := by kernel_rfl
theorem m46 : matchFunc Proofs.Try.prog 46 a46 = true := by kernel_rfl
theorem m58 : matchFunc Proofs.Try.prog 58 a58 = true := by kernel_rfl
theorem m60 : matchFunc Proofs.Try.prog 60 a60 = true := by kernel_rfl
theorem m61 : matchFunc Proofs.Try.prog 61 a61 = true := by kernel_rfl
theorem m63 : matchFunc Proofs.Try.prog 63 a63 = true := by kernel_rfl
theorem m64 : matchFunc Proofs.Try.prog 64 a64 = true := by kernel_rfl
theorem m65 : matchFunc Proofs.Try.prog 65 a65 = true := by kernel_rfl

theorem tab_ok : ∀ f af, tab f = some af → matchFunc Proofs.Try.prog f af = true := by
  have h : ∀ p ∈ tabL, matchFunc Proofs.Try.prog p.1 p.2 = true := by
    unfold tabL
    simp only [List.mem_cons, List.not_mem_nil, or_false, forall_eq_or_imp, forall_eq]
    exact ⟨m3, m4, m5, m6, m7, m8, m9, m10, m11, m12, m13, m14, m15, m16, m17, m19, m20, m23, m24, m26, m27, m28, m29, m30, m31, m32, m33, m34, m35, m40, m41, m43, m44, m45, m46, m58, m60, m61, m63, m64, m65⟩
  intro f af hf
  exact h (f, af) (aget_mem _ _ _ hf)

theorem mixed : Proofs.Try.prog.follows .mixedOrders = true := by kernel_rfl

/-- slices.Clone[[]clockwork/api.Heat,clockwork/api.Heat] -/
theorem c18 : matchFunc Proofs.Try.prog 18 (cloneA 8 [.str ⟨#[]⟩, .int .i64 0] 24) = true := by kernel_rfl

/-- What is known of functions outside. -/
def cloneOf (f : FuncId) : Option (Nat × Nat) := if f == 18 then some (2, 24) else none

theorem cloneOf_ok {f : FuncId} {sz by_ : Nat} (h : cloneOf f = some (sz, by_)) : ∃ nt zero, zero.length = sz ∧ matchFunc Proofs.Try.prog f (cloneA nt zero by_) = true := by
  unfold cloneOf at h
  split at h
  · rename_i hf
    simp only [beq_iff_eq] at hf; subst hf; cases h
    exact ⟨_, _, rfl, c18⟩
  cases h

def clones : CallF where
  pure := fun f args => match args, cloneOf f with
    | [.slice _ xs], some (sz, by_) => if allSz sz xs && decide (xs.length * by_ ≤ maxBytes) && decide (xs.length ≤ maxBytes) then some (.slice false xs) else none
    | _, _ => none
  byref := fun f args H nx => match args, cloneOf f with
    | [.p (.slice _ xs)], some (sz, by_) => if allSz sz xs && decide (xs.length * by_ ≤ maxBytes) && decide (xs.length ≤ maxBytes) then some (.ref nx xs.length 0 xs.length, (nx, .row false sz xs) :: H, nx + 1) else none
    | _, _ => none

theorem clones_ok : CallsOK Proofs.Try.prog clones := by
  refine ⟨fun f args r h => ?_, fun f args H nx r H2 nx2 h => ?_⟩
  · simp only [clones] at h
    split at h
    · rename_i hf
      split at h
      · rename_i hc
        simp only [Bool.and_eq_true, decide_eq_true_eq] at hc
        cases h
        obtain ⟨nt, zero, rfl, hm⟩ := cloneOf_ok hf
        exact clone_pure mixed hm hc.1.1 hc.1.2 hc.2
      · cases h
    · cases h
  · simp only [clones] at h
    split at h
    · rename_i hf
      split at h
      · rename_i hc
        simp only [Bool.and_eq_true, decide_eq_true_eq] at hc
        cases h
        obtain ⟨nt, zero, rfl, hm⟩ := cloneOf_ok hf
        exact clone_ok mixed hm hc.1.1 hc.1.2 hc.2
      · cases h
    · cases h

/-- What is known of functions outside. -/
def outside : CallF := CallF.or (CallF.or (CallF.or (CallF.or (CallF.or (clones) (insX 21 2 24)) (sortX22)) (cmpStrX 25)) (sortStrX 62)) (growX 72 1 16)

theorem outside_ok : CallsOK Proofs.Try.prog outside := (CallsOK.or (CallsOK.or (CallsOK.or (CallsOK.or (CallsOK.or clones_ok (insX_ok laysIns21 rfl (callable_of' Proofs.Try.func21 rfl rfl))) (sortX22_ok)) (cmpStrX_ok lays106 rfl (callable_of' Proofs.Try.func25 rfl rfl))) (sortStrX_ok lays190 rfl)) (growX_ok laysGrow72 rfl (callable_of Proofs.Try.func72 rfl rfl) ⟨_, _, rfl, rfl, rfl, rfl, rfl⟩ (by decide)))

/-- All that is known. -/
def tb : Tab := ⟨tab, outside⟩

theorem calls {f : FuncId} {args : List PV} {r : PV} (h : PS tb f args r) : PureOK Proofs.Try.prog f args r := h.calls mixed tab_ok outside_ok

end Go.Dv.Try
