/-
  The annotated functions of this seat. Printed by wip/gen.py.
-/
import Derived.Test.YtknplkihgnfpfaaCode
import Derived.Test.YtknplkihgnfpfaaLib
import Derived.Test.YtknplkihgnfpfaaProg
import Derived.Test.YtknplkihgnfpfaaLays
import Derived.Test.YtknplkihgnfpfaaSort
import Derived.Test.YtknplkihgnfpfaaIns
import Derived.Test.YtknplkihgnfpfaaCmp
import Derived.Test.YtknplkihgnfpfaaLaysI
import Derived.Test.YtknplkihgnfpfaaSortI
set_option linter.unusedVariables false
set_option maxRecDepth 100000
namespace Go.Dv.Try
open Go Go.Dv

/-- The functions that the interpreter knows. -/
def tabL : List (Nat × AFunc) := [(8, a8), (9, a9), (10, a10), (11, a11), (12, a12), (13, a13), (14, a14), (25, a25), (30, a30), (31, a31), (32, a32), (33, a33), (34, a34), (35, a35), (36, a36), (37, a37), (38, a38), (39, a39), (40, a40), (41, a41), (42, a42), (43, a43), (44, a44), (45, a45), (60, a60), (61, a61), (62, a62), (65, a65), (67, a67), (68, a68), (69, a69), (70, a70), (71, a71), (72, a72), (73, a73), (83, a83), (86, a86), (87, a87), (88, a88), (89, a89), (90, a90), (91, a91), (111, a111), (112, a112), (113, a113), (114, a114), (115, a115), (116, a116), (134, a134), (135, a135), (136, a136)]

def tab (f : FuncId) : Option AFunc := aget tabL f

theorem m8 : matchFunc Proofs.Try.prog 8 a8 = true := by kernel_rfl
theorem m9 : matchFunc Proofs.Try.prog 9 a9 = true := by kernel_rfl
theorem m10 : matchFunc Proofs.Try.prog 10 a10 = true := by kernel_rfl
theorem m11 : matchFunc Proofs.Try.prog 11 a11 = true := by kernel_rfl
theorem m12 : matchFunc Proofs.Try.prog 12 a12 = true := by kernel_rfl
theorem m13 : matchFunc Proofs.Try.prog 13 a13 = true := by kernel_rfl
theorem m14 : matchFunc Proofs.Try.prog 14 a14 = true := by kernel_rfl
theorem m25 : matchFunc Proofs.Try.prog 25 a25 = true := by kernel_rfl
theorem m30 : matchFunc Proofs.Try.prog 30 a30 = true := by kernel_rfl
theorem m31 : matchFunc Proofs.Try.prog 31 a31 = true := by kernel_rfl
theorem m32 : matchFunc Proofs.Try.prog 32 a32 = true := by kernel_rfl
theorem m33 : matchFunc Proofs.Try.prog 33 a33 = true := by kernel_rfl
theorem m34 : matchFunc Proofs.Try.prog 34 a34 = true := by kernel_rfl
theorem m35 : matchFunc Proofs.Try.prog 35 a35 = true := by kernel_rfl
theorem m36 : matchFunc Proofs.Try.prog 36 a36 = true := by kernel_rfl
theorem m37 : matchFunc Proofs.Try.prog 37 a37 = true := by kernel_rfl
theorem m38 : matchFunc Proofs.Try.prog 38 a38 = true := by kernel_rfl
theorem m39 : matchFunc Proofs.Try.prog 39 a39 = true := by kernel_rfl
theorem m40 : matchFunc Proofs.Try.prog 40 a40 = true := by kernel_rfl
theorem m41 : matchFunc Proofs.Try.prog 41 a41 = true := by kernel_rfl
theorem m42 : matchFunc Proofs.Try.prog 42 a42 = true := by kernel_rfl
theorem m43 : matchFunc Proofs.Try.prog 43 a43 = true := by kernel_rfl
theorem m44 : matchFunc Proofs.Try.prog 44 a44 = true := by kernel_rfl
theorem m45 : matchFunc Proofs.Try.prog 45 a45 = true := by kernel_rfl
theorem m60 : matchFunc Proofs.Try.prog 60 a60 = true := by kernel_rfl
theorem m61 : matchFunc Proofs.Try.prog 61 a61 = true := by kernel_rfl
theorem m62 : matchFunc Proofs.Try.prog 62 a62 = true := by kernel_rfl
theorem m65 : matchFunc Proofs.Try.prog 65 a65 = true := by kernel_rfl
theorem m67 : matchFunc Proofs.Try.prog 67 a67 = true := by kernel_rfl
theorem m68 : matchFunc Proofs.Try.prog 68 a68 = true := by kernel_rfl
theorem m69 : matchFunc Proofs.Try.prog 69 a69 = true := by kernel_rfl
theorem m70 : matchFunc Proofs.Try.prog 70 a70 = true := by kernel_rfl
theorem m71 : matchFunc Proofs.Try.prog 71 a71 = true := by kernel_rfl
theorem m72 : matchFunc Proofs.Try.prog 72 a72 = true := by kernel_rfl
theorem m73 : matchFunc Proofs.Try.prog 73 a73 = true := by kernel_rfl
theorem m83 : matchFunc Proofs.Try.prog 83 a83 = true := by kernel_rfl
theorem m86 : matchFunc Proofs.Try.prog 86 a86 = true := by kernel_rfl
theorem m87 : matchFunc Proofs.Try.prog 87 a87 = true := by kernel_rfl
theorem m88 : matchFunc Proofs.Try.prog 88 a88 = true := by kernel_rfl
theorem m89 : matchFunc Proofs.Try.prog 89 a89 = true := by kernel_rfl
theorem m90 : matchFunc Proofs.Try.prog 90 a90 = true := by kernel_rfl
theorem m91 : matchFunc Proofs.Try.prog 91 a91 = true := by kernel_rfl
theorem m111 : matchFunc Proofs.Try.prog 111 a111 = true := by kernel_rfl
theorem m112 : matchFunc Proofs.Try.prog 112 a112 = true := by kernel_rfl
theorem m113 : matchFunc Proofs.Try.prog 113 a113 = true := by kernel_rfl
theorem m114 : matchFunc Proofs.Try.prog 114 a114 = true := by kernel_rfl
theorem m115 : matchFunc Proofs.Try.prog 115 a115 = true := by kernel_rfl
theorem m116 : matchFunc Proofs.Try.prog 116 a116 = true := by kernel_rfl
theorem m134 : matchFunc Proofs.Try.prog 134 a134 = true := by kernel_rfl
theorem m135 : matchFunc Proofs.Try.prog 135 a135 = true := by kernel_rfl
theorem m136 : matchFunc Proofs.Try.prog 136 a136 = true := by kernel_rfl

theorem tab_ok : ∀ f af, tab f = some af → matchFunc Proofs.Try.prog f af = true := by
  have h : ∀ p ∈ tabL, matchFunc Proofs.Try.prog p.1 p.2 = true := by
    unfold tabL
    simp only [List.mem_cons, List.not_mem_nil, or_false, forall_eq_or_imp, forall_eq]
    exact ⟨m8, m9, m10, m11, m12, m13, m14, m25, m30, m31, m32, m33, m34, m35, m36, m37, m38, m39, m40, m41, m42, m43, m44, m45, m60, m61, m62, m65, m67, m68, m69, m70, m71, m72, m73, m83, m86, m87, m88, m89, m90, m91, m111, m112, m113, m114, m115, m116, m134, m135, m136⟩
  intro f af hf
  exact h (f, af) (aget_mem _ _ _ hf)

theorem mixed : Proofs.Try.prog.follows .mixedOrders = true := by kernel_rfl

/-- slices.Clone[[]clockwork/api.Footprint,clockwork/api.Footprint] -/
theorem c85 : matchFunc Proofs.Try.prog 85 (cloneA 8 [.bool false, .slice true [], .slice true []] 56) = true := by kernel_rfl

/-- What is known of functions outside. -/
def cloneOf (f : FuncId) : Option (Nat × Nat) := if f == 85 then some (3, 56) else none

theorem cloneOf_ok {f : FuncId} {sz by_ : Nat} (h : cloneOf f = some (sz, by_)) : ∃ nt zero, zero.length = sz ∧ matchFunc Proofs.Try.prog f (cloneA nt zero by_) = true := by
  unfold cloneOf at h
  split at h
  · rename_i hf
    simp only [beq_iff_eq] at hf; subst hf; cases h
    exact ⟨_, _, rfl, c85⟩
  cases h

def clones : CallF where
  pure := fun f args => match args, cloneOf f with
    | [.slice _ xs], some (sz, by_) => if allSz sz xs && decide (xs.length * by_ ≤ maxBytes) && decide (xs.length ≤ maxBytes) then some (.slice false xs) else none
    | _, _ => none
  byref := fun f args H nx => match args, cloneOf f with
    | [.p (.slice _ xs)], some (sz, by_) => if allSz sz xs && decide (xs.length * by_ ≤ maxBytes) && decide (xs.length ≤ maxBytes) then some (.ref nx xs.length 0 xs.length, (nx, .row false sz xs) :: H, nx + 1) else none
    | _, _ => none

theorem clones_ok : CallsOK Proofs.Try.prog clones := by
  refine ⟨fun f args r h => ?_, fun f args H nx r H2 nx2 h => ?_⟩
  · simp only [clones] at h
    split at h
    · rename_i hf
      split at h
      · rename_i hc
        simp only [Bool.and_eq_true, decide_eq_true_eq] at hc
        cases h
        obtain ⟨nt, zero, rfl, hm⟩ := cloneOf_ok hf
        exact clone_pure mixed hm hc.1.1 hc.1.2 hc.2
      · cases h
    · cases h
  · simp only [clones] at h
    split at h
    · rename_i hf
      split at h
      · rename_i hc
        simp only [Bool.and_eq_true, decide_eq_true_eq] at hc
        cases h
        obtain ⟨nt, zero, rfl, hm⟩ := cloneOf_ok hf
        exact clone_ok mixed hm hc.1.1 hc.1.2 hc.2
      · cases h
    · cases h

/-- What is known of functions outside. -/
def outside : CallF := CallF.or (clones) (sortIntX 74)

theorem outside_ok : CallsOK Proofs.Try.prog outside := (CallsOK.or clones_ok (sortIntX_ok lays189 rfl))

/-- All that is known. -/
def tb : Tab := ⟨tab, outside⟩

theorem calls {f : FuncId} {args : List PV} {r : PV} (h : PS tb f args r) : PureOK Proofs.Try.prog f args r := h.calls mixed tab_ok outside_ok

end Go.Dv.Try
