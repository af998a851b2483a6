/-
  The annotated functions of this seat. Printed by wip/gen.py.
-/
import Derived.Test.YtjnigloanggmmaaCodeb
import Derived.Test.YtjnigloanggmmaaLib
import Derived.Test.YtjnigloanggmmaaProg
set_option linter.unusedVariables false
set_option maxRecDepth 100000
namespace Go.Dv.Try
open Go Go.Dv

/-- The functions that the interpreter knows. -/
def tabL : List (Nat × AFunc) := [(3, a3), (4, a4), (5, a5), (7, a7), (21, a21), (22, a22), (23, a23), (24, a24), (25, a25), (26, a26), (27, a27), (28, a28), (29, a29), (30, a30), (31, a31), (32, a32), (33, a33), (34, a34), (35, a35), (36, a36), (37, a37), (39, a39), (40, a40), (41, a41), (42, a42), (43, a43), (44, a44), (74, a74), (75, a75), (76, a76), (77, a77), (78, a78), (79, a79), (80, a80), (81, a81), (82, a82), (83, a83), (84, a84), (85, a85), (86, a86), (87, a87), (88, a88), (89, a89), (90, a90), (91, a91), (92, a92), (93, a93), (94, a94), (95, a95), (96, a96), (130, a130), (131, a131), (132, a132), (133, a133), (134, a134), (145, a145), (146, a146), (147, a147), (148, a148), (149, a149), (150, a150), (151, a151), (152, a152), (153, a153), (154, a154), (155, a155), (156, a156), (157, a157), (158, a158), (159, a159), (160, a160), (161, a161), (162, a162), (163, a163), (164, a164), (165, a165)]

def tab (f : FuncId) : Option AFunc := aget tabL f

theorem m3 : matchFunc Proofs.Try.prog 3 a3 = true := by kernel_rfl
theorem m4 : matchFunc Proofs.Try.prog 4 a4 = true := by kernel_rfl
theorem m5 : matchFunc Proofs.Try.prog 5 a5 = true := by kernel_rfl
theorem m7 : matchFunc Proofs.Try.prog 7 a7 = true := by kernel_rfl
theorem m21 : matchFunc Proofs.Try.prog 21 a21 = true := by kernel_rfl
theorem m22 : matchFunc Proofs.Try.prog 22 a22 = true := by kernel_rfl
theorem m23 : matchFunc Proofs.Try.prog 23 a23 = true := by kernel_rfl
theorem m24 : matchFunc Proofs.Try.prog 24 a24 = true := by kernel_rfl
theorem m25 : matchFunc Proofs.Try.prog 25 a25 = true := by kernel_rfl
theorem m26 : matchFunc Proofs.Try.prog 26 a26 = true := by kernel_rfl
theorem m27 : matchFunc Proofs.Try.prog 27 a27 = true := by kernel_rfl
theorem m28 : matchFunc Proofs.Try.prog 28 a28 = true := by kernel_rfl
theorem m29 : matchFunc Proofs.Try.prog 29 a29 = true := by kernel_rfl
theorem m30 : matchFunc Proofs.Try.prog 30 a30 = true := by kernel_rfl
theorem m31 : matchFunc Proofs.Try.prog 31 a31 = true := by kernel_rfl
theorem m32 : matchFunc Proofs.Try.prog 32 a32 = true := by kernel_rfl
theorem m33 : matchFunc Proofs.Try.prog 33 a33 = true := by kernel_rfl
theorem m34 : matchFunc Proofs.Try.prog 34 a34 = true := by kernel_rfl
theorem m35 : matchFunc Proofs.Try.prog 35 a35 = true := by kernel_rfl
theorem m36 : matchFunc Proofs.Try.prog 36 a36 = true := by kernel_rfl
theorem m37 : matchFunc Proofs.Try.prog 37 a37 = true := by kernel_rfl
theorem m39 : matchFunc Proofs.Try.prog 39 a39 = true := by kernel_rfl
theorem m40 : matchFunc Proofs.Try.prog 40 a40 = true := by kernel_rfl
theorem m41 : matchFunc Proofs.Try.prog 41 a41 = true := by kernel_rfl
theorem m42 : matchFunc Proofs.Try.prog 42 a42 = true := by kernel_rfl
theorem m43 : matchFunc Proofs.Try.prog 43 a43 = true := by kernel_rfl
theorem m44 : matchFunc Proofs.Try.prog 44 a44 = true := by kernel_rfl
theorem m74 : matchFunc Proofs.Try.prog 74 a74 = true := by kernel_rfl
theorem m75 : matchFunc Proofs.Try.prog 75 a75 = true := by kernel_rfl
theorem m76 : matchFunc Proofs.Try.prog 76 a76 = true := by kernel_rfl
theorem m77 : matchFunc Proofs.Try.prog 77 a77 = true := by kernel_rfl
theorem m78 : matchFunc Proofs.Try.prog 78 a78 = true := by kernel_rfl
theorem m79 : matchFunc Proofs.Try.prog 79 a79 = true := by kernel_rfl
theorem m80 : matchFunc Proofs.Try.prog 80 a80 = true := by kernel_rfl
theorem m81 : matchFunc Proofs.Try.prog 81 a81 = true := by kernel_rfl
theorem m82 : matchFunc Proofs.Try.prog 82 a82 = true := by kernel_rfl
theorem m83 : matchFunc Proofs.Try.prog 83 a83 = true := by kernel_rfl
theorem m84 : matchFunc Proofs.Try.prog 84 a84 = true := by kernel_rfl
theorem m85 : matchFunc Proofs.Try.prog 85 a85 = true := by kernel_rfl
theorem m86 : matchFunc Proofs.Try.prog 86 a86 = true := by kernel_rfl
theorem m87 : matchFunc Proofs.Try.prog 87 a87 = true := by kernel_rfl
theorem m88 : matchFunc Proofs.Try.prog 88 a88 = true := by kernel_rfl
theorem m89 : matchFunc Proofs.Try.prog 89 a89 = true := by kernel_rfl
theorem m90 : matchFunc Proofs.Try.prog 90 a90 = true := by kernel_rfl
theorem m91 : matchFunc Proofs.Try.prog 91 a91 = true := by kernel_rfl
theorem m92 : matchFunc Proofs.Try.prog 92 a92 = true := by kernel_rfl
theorem m93 : matchFunc Proofs.Try.prog 93 a93 = true := by kernel_rfl
theorem m94 : matchFunc Proofs.Try.prog 94 a94 = true := by kernel_rfl
theorem m95 : matchFunc Proofs.Try.prog 95 a95 = true := by kernel_rfl
theorem m96 : matchFunc Proofs.Try.prog 96 a96 = true := by kernel_rfl
theorem m130 : matchFunc Proofs.Try.prog 130 a130 = true := by kernel_rfl
theorem m131 : matchFunc Proofs.Try.prog 131 a131 = true := by kernel_rfl
theorem m132 : matchFunc Proofs.Try.prog 132 a132 = true := by kernel_rfl
theorem m133 : matchFunc Proofs.Try.prog 133 a133 = true := by kernel_rfl
theorem m134 : matchFunc Proofs.Try.prog 134 a134 = true := by kernel_rfl
theorem m145 : matchFunc Proofs.Try.prog 145 a145 = true := by kernel_rfl
theorem m146 : matchFunc Proofs.Try.prog 146 a146 = true := by kernel_rfl
theorem m147 : matchFunc Proofs.Try.prog 147 a147 = true := by kernel_rfl
theorem m148 : matchFunc Proofs.Try.prog 148 a148 = true := by kernel_rfl
theorem m149 : matchFunc Proofs.Try.prog 149 a149 = true := by kernel_rfl
theorem m150 : matchFunc Proofs.Try.prog 150 a150 = true := by kernel_rfl
theorem m151 : matchFunc Proofs.Try.prog 151 a151 = true := by kernel_rfl
theorem m152 : matchFunc Proofs.Try.prog 152 a152 = true := by kernel_rfl
theorem m153 : matchFunc Proofs.Try.prog 153 a153 = true := by kernel_rfl
theorem m154 : matchFunc Proofs.Try.prog 154 a154 = true := by kernel_rfl
theorem m155 : matchFunc Proofs.Try.prog 155 a155 = true := by kernel_rfl
theorem m156 : matchFunc Proofs.Try.prog 156 a156 = true := by kernel_rfl
theorem m157 : matchFunc Proofs.Try.prog 157 a157 = true := by kernel_rfl
theorem m158 : matchFunc Proofs.Try.prog 158 a158 = true := by kernel_rfl
theorem m159 : matchFunc Proofs.Try.prog 159 a159 = true := by kernel_rfl
theorem m160 : matchFunc Proofs.Try.prog 160 a160 = true := by kernel_rfl
theorem m161 : matchFunc Proofs.Try.prog 161 a161 = true := by kernel_rfl
theorem m162 : matchFunc Proofs.Try.prog 162 a162 = true := by kernel_rfl
theorem m163 : matchFunc Proofs.Try.prog 163 a163 = true := by kernel_rfl
theorem m164 : matchFunc Proofs.Try.prog 164 a164 = true := by kernel_rfl
theorem m165 : matchFunc Proofs.Try.prog 165 a165 = true := by kernel_rfl

theorem tab_ok : ∀ f af, tab f = some af → matchFunc Proofs.Try.prog f af = true := by
  have h : ∀ p ∈ tabL, matchFunc Proofs.Try.prog p.1 p.2 = true := by
    unfold tabL
    simp only [List.mem_cons, List.not_mem_nil, or_false, forall_eq_or_imp, forall_eq]
    exact ⟨m3, m4, m5, m7, m21, m22, m23, m24, m25, m26, m27, m28, m29, m30, m31, m32, m33, m34, m35, m36, m37, m39, m40, m41, m42, m43, m44, m74, m75, m76, m77, m78, m79, m80, m81, m82, m83, m84, m85, m86, m87, m88, m89, m90, m91, m92, m93, m94, m95, m96, m130, m131, m132, m133, m134, m145, m146, m147, m148, m149, m150, m151, m152, m153, m154, m155, m156, m157, m158, m159, m160, m161, m162, m163, m164, m165⟩
  intro f af hf
  exact h (f, af) (aget_mem _ _ _ hf)

theorem mixed : Proofs.Try.prog.follows .mixedOrders = true := by kernel_rfl

/-- slices.Clone[[]clockwork/api.Item,clockwork/api.Item] -/
theorem c97 : matchFunc Proofs.Try.prog 97 (cloneA 8 [.int .i64 0, .str ⟨#[]⟩] 24) = true := by kernel_rfl

/-- slices.Clone[[]int,int] -/
theorem c129 : matchFunc Proofs.Try.prog 129 (cloneA 8 [.int .i64 0] 8) = true := by kernel_rfl

/-- What is known of functions outside. -/
def cloneOf (f : FuncId) : Option (Nat × Nat) := if f == 97 then some (2, 24) else if f == 129 then some (1, 8) else none

theorem cloneOf_ok {f : FuncId} {sz by_ : Nat} (h : cloneOf f = some (sz, by_)) : ∃ nt zero, zero.length = sz ∧ matchFunc Proofs.Try.prog f (cloneA nt zero by_) = true := by
  unfold cloneOf at h
  split at h
  · rename_i hf
    simp only [beq_iff_eq] at hf; subst hf; cases h
    exact ⟨_, _, rfl, c97⟩
  split at h
  · rename_i hf
    simp only [beq_iff_eq] at hf; subst hf; cases h
    exact ⟨_, _, rfl, c129⟩
  cases h

def outside : CallF where
  pure := fun f args => match args, cloneOf f with
    | [.slice _ xs], some (sz, by_) => if allSz sz xs && decide (xs.length * by_ ≤ maxBytes) && decide (xs.length ≤ maxBytes) then some (.slice false xs) else none
    | _, _ => none
  byref := fun f args H nx => match args, cloneOf f with
    | [.p (.slice _ xs)], some (sz, by_) => if allSz sz xs && decide (xs.length * by_ ≤ maxBytes) && decide (xs.length ≤ maxBytes) then some (.ref nx xs.length 0 xs.length, (nx, .row false sz xs) :: H, nx + 1) else none
    | _, _ => none

theorem outside_ok : CallsOK Proofs.Try.prog outside := by
  refine ⟨fun f args r h => ?_, fun f args H nx r H2 nx2 h => ?_⟩
  · simp only [outside] at h
    split at h
    · rename_i hf
      split at h
      · rename_i hc
        simp only [Bool.and_eq_true, decide_eq_true_eq] at hc
        cases h
        obtain ⟨nt, zero, rfl, hm⟩ := cloneOf_ok hf
        exact clone_pure mixed hm hc.1.1 hc.1.2 hc.2
      · cases h
    · cases h
  · simp only [outside] at h
    split at h
    · rename_i hf
      split at h
      · rename_i hc
        simp only [Bool.and_eq_true, decide_eq_true_eq] at hc
        cases h
        obtain ⟨nt, zero, rfl, hm⟩ := cloneOf_ok hf
        exact clone_ok mixed hm hc.1.1 hc.1.2 hc.2
      · cases h
    · cases h

/-- All that is known. -/
def tb : Tab := ⟨tab, outside⟩

theorem calls {f : FuncId} {args : List PV} {r : PV} (h : PS tb f args r) : PureOK Proofs.Try.prog f args r := h.calls mixed tab_ok outside_ok

end Go.Dv.Try
