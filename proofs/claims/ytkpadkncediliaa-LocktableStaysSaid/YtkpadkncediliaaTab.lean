/-
  The annotated functions of this seat. Printed by wip/gen.py.
-/
import Derived.Test.YtkpadkncediliaaCode
import Derived.Test.YtkpadkncediliaaLib
import Derived.Test.YtkpadkncediliaaProg
import Derived.Test.YtkpadkncediliaaLays
import Derived.Test.YtkpadkncediliaaSort
import Derived.Test.YtkpadkncediliaaIns
import Derived.Test.YtkpadkncediliaaCmp
import Derived.Test.YtkpadkncediliaaLaysI
import Derived.Test.YtkpadkncediliaaSortI
set_option linter.unusedVariables false
set_option maxRecDepth 100000
namespace Go.Dv.Try
open Go Go.Dv

/-- The functions that the interpreter knows. -/
def tabL : List (Nat × AFunc) := [(3, a3), (4, a4), (5, a5), (6, a6), (7, a7), (8, a8), (9, a9), (10, a10), (11, a11), (12, a12), (13, a13), (14, a14), (15, a15), (16, a16), (17, a17), (18, a18), (19, a19), (20, a20), (21, a21), (22, a22), (23, a23), (24, a24), (25, a25), (26, a26), (27, a27), (28, a28), (29, a29), (30, a30), (31, a31), (32, a32), (33, a33), (34, a34), (35, a35), (36, a36), (37, a37), (38, a38), (39, a39), (40, a40), (41, a41), (42, a42), (43, a43), (44, a44), (45, a45), (46, a46), (47, a47), (48, a48), (49, a49), (50, a50), (51, a51), (52, a52), (53, a53), (54, a54), (55, a55), (56, a56), (57, a57), (58, a58), (59, a59), (60, a60), (62, a62), (63, a63), (64, a64), (65, a65), (66, a66), (67, a67), (69, a69), (70, a70), (71, a71), (74, a74), (75, a75)]

def tab (f : FuncId) : Option AFunc := aget tabL f

theorem m3 : matchFunc Proofs.Try.prog 3 a3 = true := by kernel_rfl
theorem m4 : matchFunc Proofs.Try.prog 4 a4 = true := by kernel_rfl
theorem m5 : matchFunc Proofs.Try.prog 5 a5 = true := by kernel_rfl
theorem m6 : matchFunc Proofs.Try.prog 6 a6 = true := by kernel_rfl
theorem m7 : matchFunc Proofs.Try.prog 7 a7 = true := by kernel_rfl
theorem m8 : matchFunc Proofs.Try.prog 8 a8 = true := by kernel_rfl
theorem m9 : matchFunc Proofs.Try.prog 9 a9 = true := by kernel_rfl
theorem m10 : matchFunc Proofs.Try.prog 10 a10 = true := by kernel_rfl
theorem m11 : matchFunc Proofs.Try.prog 11 a11 = true := by kernel_rfl
theorem m12 : matchFunc Proofs.Try.prog 12 a12 = true := by kernel_rfl
theorem m13 : matchFunc Proofs.Try.prog 13 a13 = true := by kernel_rfl
theorem m14 : matchFunc Proofs.Try.prog 14 a14 = true := by kernel_rfl
theorem m15 : matchFunc Proofs.Try.prog 15 a15 = true := by kernel_rfl
theorem m16 : matchFunc Proofs.Try.prog 16 a16 = true := by kernel_rfl
theorem m17 : matchFunc Proofs.Try.prog 17 a17 = true := by kernel_rfl
theorem m18 : matchFunc Proofs.Try.prog 18 a18 = true := by kernel_rfl
theorem m19 : matchFunc Proofs.Try.prog 19 a19 = true := by kernel_rfl
theorem m20 : matchFunc Proofs.Try.prog 20 a20 = true := by kernel_rfl
theorem m21 : matchFunc Proofs.Try.prog 21 a21 = true := by kernel_rfl
theorem m22 : matchFunc Proofs.Try.prog 22 a22 = true := by kernel_rfl
theorem m23 : matchFunc Proofs.Try.prog 23 a23 = true := by kernel_rfl
theorem m24 : matchFunc Proofs.Try.prog 24 a24 = true := by kernel_rfl
theorem m25 : matchFunc Proofs.Try.prog 25 a25 = true := by kernel_rfl
theorem m26 : matchFunc Proofs.Try.prog 26 a26 = true := by kernel_rfl
theorem m27 : matchFunc Proofs.Try.prog 27 a27 = true := by kernel_rfl
theorem m28 : matchFunc Proofs.Try.prog 28 a28 = true := by kernel_rfl
theorem m29 : matchFunc Proofs.Try.prog 29 a29 = true := by kernel_rfl
theorem m30 : matchFunc Proofs.Try.prog 30 a30 = true := by kernel_rfl
theorem m31 : matchFunc Proofs.Try.prog 31 a31 = true := by kernel_rfl
theorem m32 : matchFunc Proofs.Try.prog 32 a32 = true := by kernel_rfl
theorem m33 : matchFunc Proofs.Try.prog 33 a33 = true := by kernel_rfl
theorem m34 : matchFunc Proofs.Try.prog 34 a34 = true := by kernel_rfl
theorem m35 : matchFunc Proofs.Try.prog 35 a35 = true := by kernel_rfl
theorem m36 : matchFunc Proofs.Try.prog 36 a36 = true := by kernel_rfl
theorem m37 : matchFunc Proofs.Try.prog 37 a37 = true := by kernel_rfl
theorem m38 : matchFunc Proofs.Try.prog 38 a38 = true := by kernel_rfl
theorem m39 : matchFunc Proofs.Try.prog 39 a39 = true := by kernel_rfl
theorem m40 : matchFunc Proofs.Try.prog 40 a40 = true := by kernel_rfl
theorem m41 : matchFunc Proofs.Try.prog 41 a41 = true := by kernel_rfl
theorem m42 : matchFunc Proofs.Try.prog 42 a42 = true := by kernel_rfl
theorem m43 : matchFunc Proofs.Try.prog 43 a43 = true := by kernel_rfl
theorem m44 : matchFunc Proofs.Try.prog 44 a44 = true := by kernel_rfl
theorem m45 : matchFunc Proofs.Try.prog 45 a45 = true := by kernel_rfl
theorem m46 : matchFunc Proofs.Try.prog 46 a46 = true := by kernel_rfl
theorem m47 : matchFunc Proofs.Try.prog 47 a47 = true := by kernel_rfl
theorem m48 : matchFunc Proofs.Try.prog 48 a48 = true := by kernel_rfl
theorem m49 : matchFunc Proofs.Try.prog 49 a49 = true := by kernel_rfl
theorem m50 : matchFunc Proofs.Try.prog 50 a50 = true := by kernel_rfl
theorem m51 : matchFunc Proofs.Try.prog 51 a51 = true := by kernel_rfl
theorem m52 : matchFunc Proofs.Try.prog 52 a52 = true := by kernel_rfl
theorem m53 : matchFunc Proofs.Try.prog 53 a53 = true := by kernel_rfl
theorem m54 : matchFunc Proofs.Try.prog 54 a54 = true := by kernel_rfl
theorem m55 : matchFunc Proofs.Try.prog 55 a55 = true := by kernel_rfl
theorem m56 : matchFunc Proofs.Try.prog 56 a56 = true := by kernel_rfl
theorem m57 : matchFunc Proofs.Try.prog 57 a57 = true := by kernel_rfl
theorem m58 : matchFunc Proofs.Try.prog 58 a58 = true := by kernel_rfl
theorem m59 : matchFunc Proofs.Try.prog 59 a59 = true := by kernel_rfl
theorem m60 : matchFunc Proofs.Try.prog 60 a60 = true := by kernel_rfl
theorem m62 : matchFunc Proofs.Try.prog 62 a62 = true := by kernel_rfl
theorem m63 : matchFunc Proofs.Try.prog 63 a63 = true := by kernel_rfl
theorem m64 : matchFunc Proofs.Try.prog 64 a64 = true := by kernel_rfl
theorem m65 : matchFunc Proofs.Try.prog 65 a65 = true := by kernel_rfl
theorem m66 : matchFunc Proofs.Try.prog 66 a66 = true := by kernel_rfl
theorem m67 : matchFunc Proofs.Try.prog 67 a67 = true := by kernel_rfl
theorem m69 : matchFunc Proofs.Try.prog 69 a69 = true := by kernel_rfl
theorem m70 : matchFunc Proofs.Try.prog 70 a70 = true := by kernel_rfl
theorem m71 : matchFunc Proofs.Try.prog 71 a71 = true := by kernel_rfl
theorem m74 : matchFunc Proofs.Try.prog 74 a74 = true := by kernel_rfl
theorem m75 : matchFunc Proofs.Try.prog 75 a75 = true := by kernel_rfl

theorem tab_ok : ∀ f af, tab f = some af → matchFunc Proofs.Try.prog f af = true := by
  have h : ∀ p ∈ tabL, matchFunc Proofs.Try.prog p.1 p.2 = true := by
    unfold tabL
    simp only [List.mem_cons, List.not_mem_nil, or_false, forall_eq_or_imp, forall_eq]
    exact ⟨m3, m4, m5, m6, m7, m8, m9, m10, m11, m12, m13, m14, m15, m16, m17, m18, m19, m20, m21, m22, m23, m24, m25, m26, m27, m28, m29, m30, m31, m32, m33, m34, m35, m36, m37, m38, m39, m40, m41, m42, m43, m44, m45, m46, m47, m48, m49, m50, m51, m52, m53, m54, m55, m56, m57, m58, m59, m60, m62, m63, m64, m65, m66, m67, m69, m70, m71, m74, m75⟩
  intro f af hf
  exact h (f, af) (aget_mem _ _ _ hf)

theorem mixed : Proofs.Try.prog.follows .mixedOrders = true := by kernel_rfl

/-- What is known of functions outside. -/
def cloneOf (f : FuncId) : Option (Nat × Nat) := none

theorem cloneOf_ok {f : FuncId} {sz by_ : Nat} (h : cloneOf f = some (sz, by_)) : ∃ nt zero, zero.length = sz ∧ matchFunc Proofs.Try.prog f (cloneA nt zero by_) = true := by
  unfold cloneOf at h
  cases h

def clones : CallF where
  pure := fun f args => match args, cloneOf f with
    | [.slice _ xs], some (sz, by_) => if allSz sz xs && decide (xs.length * by_ ≤ maxBytes) && decide (xs.length ≤ maxBytes) then some (.slice false xs) else none
    | _, _ => none
  byref := fun f args H nx => match args, cloneOf f with
    | [.p (.slice _ xs)], some (sz, by_) => if allSz sz xs && decide (xs.length * by_ ≤ maxBytes) && decide (xs.length ≤ maxBytes) then some (.ref nx xs.length 0 xs.length, (nx, .row false sz xs) :: H, nx + 1) else none
    | _, _ => none

theorem clones_ok : CallsOK Proofs.Try.prog clones := by
  refine ⟨fun f args r h => ?_, fun f args H nx r H2 nx2 h => ?_⟩
  · simp only [clones] at h
    split at h
    · rename_i hf
      split at h
      · rename_i hc
        simp only [Bool.and_eq_true, decide_eq_true_eq] at hc
        cases h
        obtain ⟨nt, zero, rfl, hm⟩ := cloneOf_ok hf
        exact clone_pure mixed hm hc.1.1 hc.1.2 hc.2
      · cases h
    · cases h
  · simp only [clones] at h
    split at h
    · rename_i hf
      split at h
      · rename_i hc
        simp only [Bool.and_eq_true, decide_eq_true_eq] at hc
        cases h
        obtain ⟨nt, zero, rfl, hm⟩ := cloneOf_ok hf
        exact clone_ok mixed hm hc.1.1 hc.1.2 hc.2
      · cases h
    · cases h

/-- What is known of functions outside. -/
def outside : CallF := CallF.or (CallF.or (clones) (insX 61 2 40)) (sortIntX 68)

theorem outside_ok : CallsOK Proofs.Try.prog outside := (CallsOK.or (CallsOK.or clones_ok (insX_ok laysIns61 rfl (callable_of' Proofs.Try.func61 rfl rfl))) (sortIntX_ok lays189 rfl))

/-- All that is known. -/
def tb : Tab := ⟨tab, outside⟩

theorem calls {f : FuncId} {args : List PV} {r : PV} (h : PS tb f args r) : PureOK Proofs.Try.prog f args r := h.calls mixed tab_ok outside_ok

end Go.Dv.Try
