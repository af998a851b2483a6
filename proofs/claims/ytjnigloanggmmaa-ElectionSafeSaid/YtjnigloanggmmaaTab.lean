/-
  The annotated functions of this seat. Printed by wip/gen.py.
-/
import Derived.Test.YtjnigloanggmmaaCodeb
import Derived.Test.YtjnigloanggmmaaLib
import Derived.Test.YtjnigloanggmmaaProg
set_option linter.unusedVariables false
set_option maxRecDepth 100000
namespace Go.Dv.Try
open Go Go.Dv

/-- The functions that the interpreter knows. -/
def tabL : List (Nat × AFunc) := [(6, a6), (8, a8), (14, a14), (21, a21), (22, a22), (23, a23), (25, a25), (26, a26), (28, a28), (29, a29), (30, a30), (32, a32), (35, a35), (36, a36), (38, a38), (39, a39), (40, a40), (41, a41), (43, a43), (45, a45), (46, a46), (47, a47), (50, a50), (52, a52), (54, a54), (56, a56), (57, a57), (59, a59), (75, a75), (76, a76), (77, a77), (78, a78), (79, a79), (80, a80), (81, a81), (83, a83), (84, a84), (88, a88), (89, a89), (91, a91), (92, a92), (93, a93), (94, a94), (95, a95), (98, a98), (99, a99), (100, a100), (101, a101), (102, a102), (106, a106), (108, a108), (109, a109), (110, a110), (111, a111), (131, a131), (132, a132), (133, a133), (134, a134), (135, a135), (145, a145), (146, a146), (147, a147), (148, a148), (154, a154), (158, a158), (164, a164)]

def tab (f : FuncId) : Option AFunc := aget tabL f

theorem m6 : matchFunc Proofs.Try.prog 6 a6 = true := by kernel_rfl
theorem m8 : matchFunc Proofs.Try.prog 8 a8 = true := by kernel_rfl
theorem m14 : matchFunc Proofs.Try.prog 14 a14 = true := by kernel_rfl
theorem m21 : matchFunc Proofs.Try.prog 21 a21 = true := by kernel_rfl
theorem m22 : matchFunc Proofs.Try.prog 22 a22 = true := by kernel_rfl
theorem m23 : matchFunc Proofs.Try.prog 23 a23 = true := by kernel_rfl
theorem m25 : matchFunc Proofs.Try.prog 25 a25 = true := by kernel_rfl
theorem m26 : matchFunc Proofs.Try.prog 26 a26 = true := by kernel_rfl
theorem m28 : matchFunc Proofs.Try.prog 28 a28 = true := by kernel_rfl
theorem m29 : matchFunc Proofs.Try.prog 29 a29 = true := by kernel_rfl
theorem m30 : matchFunc Proofs.Try.prog 30 a30 = true := by kernel_rfl
theorem m32 : matchFunc Proofs.Try.prog 32 a32 = true := by kernel_rfl
theorem m35 : matchFunc Proofs.Try.prog 35 a35 = true := by kernel_rfl
theorem m36 : matchFunc Proofs.Try.prog 36 a36 = true := by kernel_rfl
theorem m38 : matchFunc Proofs.Try.prog 38 a38 = true := by kernel_rfl
theorem m39 : matchFunc Proofs.Try.prog 39 a39 = true := by kernel_rfl
theorem m40 : matchFunc Proofs.Try.prog 40 a40 = true := by kernel_rfl
theorem m41 : matchFunc Proofs.Try.prog 41 a41 = true := by kernel_rfl
theorem m43 : matchFunc Proofs.Try.prog 43 a43 = true := by kernel_rfl
theorem m45 : matchFunc Proofs.Try.prog 45 a45 = true := by kernel_rfl
theorem m46 : matchFunc Proofs.Try.prog 46 a46 = true := by kernel_rfl
theorem m47 : matchFunc Proofs.Try.prog 47 a47 = true := by kernel_rfl
theorem m50 : matchFunc Proofs.Try.prog 50 a50 = true := by kernel_rfl
theorem m52 : matchFunc Proofs.Try.prog 52 a52 = true := by kernel_rfl
theorem m54 : matchFunc Proofs.Try.prog 54 a54 = true := by kernel_rfl
theorem m56 : matchFunc Proofs.Try.prog 56 a56 = true := by kernel_rfl
theorem m57 : matchFunc Proofs.Try.prog 57 a57 = true := by kernel_rfl
theorem m59 : matchFunc Proofs.Try.prog 59 a59 = true := by kernel_rfl
theorem m75 : matchFunc Proofs.Try.prog 75 a75 = true := by kernel_rfl
theorem m76 : matchFunc Proofs.Try.prog 76 a76 = true := by kernel_rfl
theorem m77 : matchFunc Proofs.Try.prog 77 a77 = true := by kernel_rfl
theorem m78 : matchFunc Proofs.Try.prog 78 a78 = true := by kernel_rfl
theorem m79 : matchFunc Proofs.Try.prog 79 a79 = true := by kernel_rfl
theorem m80 : matchFunc Proofs.Try.prog 80 a80 = true := by kernel_rfl
theorem m81 : matchFunc Proofs.Try.prog 81 a81 = true := by kernel_rfl
theorem m83 : matchFunc Proofs.Try.prog 83 a83 = true := by kernel_rfl
theorem m84 : matchFunc Proofs.Try.prog 84 a84 = true := by kernel_rfl
theorem m88 : matchFunc Proofs.Try.prog 88 a88 = true := by kernel_rfl
theorem m89 : matchFunc Proofs.Try.prog 89 a89 = true := by kernel_rfl
theorem m91 : matchFunc Proofs.Try.prog 91 a91 = true := by kernel_rfl
theorem m92 : matchFunc Proofs.Try.prog 92 a92 = true := by kernel_rfl
theorem m93 : matchFunc Proofs.Try.prog 93 a93 = true := by kernel_rfl
theorem m94 : matchFunc Proofs.Try.prog 94 a94 = true := by kernel_rfl
theorem m95 : matchFunc Proofs.Try.prog 95 a95 = true := by kernel_rfl
theorem m98 : matchFunc Proofs.Try.prog 98 a98 = true := by kernel_rfl
theorem m99 : matchFunc Proofs.Try.prog 99 a99 = true := by kernel_rfl
theorem m100 : matchFunc Proofs.Try.prog 100 a100 = true := by kernel_rfl
theorem m101 : matchFunc Proofs.Try.prog 101 a101 = true := by kernel_rfl
theorem m102 : matchFunc Proofs.Try.prog 102 a102 = true := by kernel_rfl
theorem m106 : matchFunc Proofs.Try.prog 106 a106 = true := by kernel_rfl
theorem m108 : matchFunc Proofs.Try.prog 108 a108 = true := by kernel_rfl
theorem m109 : matchFunc Proofs.Try.prog 109 a109 = true := by kernel_rfl
theorem m110 : matchFunc Proofs.Try.prog 110 a110 = true := by kernel_rfl
theorem m111 : matchFunc Proofs.Try.prog 111 a111 = true := by kernel_rfl
theorem m131 : matchFunc Proofs.Try.prog 131 a131 = true := by kernel_rfl
theorem m132 : matchFunc Proofs.Try.prog 132 a132 = true := by kernel_rfl
theorem m133 : matchFunc Proofs.Try.prog 133 a133 = true := by kernel_rfl
theorem m134 : matchFunc Proofs.Try.prog 134 a134 = true := by kernel_rfl
theorem m135 : matchFunc Proofs.Try.prog 135 a135 = true := by kernel_rfl
theorem m145 : matchFunc Proofs.Try.prog 145 a145 = true := by kernel_rfl
theorem m146 : matchFunc Proofs.Try.prog 146 a146 = true := by kernel_rfl
theorem m147 : matchFunc Proofs.Try.prog 147 a147 = true := by kernel_rfl
theorem m148 : matchFunc Proofs.Try.prog 148 a148 = true := by kernel_rfl
theorem m154 : matchFunc Proofs.Try.prog 154 a154 = true := by kernel_rfl
theorem m158 : matchFunc Proofs.Try.prog 158 a158 = true := by kernel_rfl
theorem m164 : matchFunc Proofs.Try.prog 164 a164 = true := by kernel_rfl

theorem tab_ok : ∀ f af, tab f = some af → matchFunc Proofs.Try.prog f af = true := by
  have h : ∀ p ∈ tabL, matchFunc Proofs.Try.prog p.1 p.2 = true := by
    unfold tabL
    simp only [List.mem_cons, List.not_mem_nil, or_false, forall_eq_or_imp, forall_eq]
    exact ⟨m6, m8, m14, m21, m22, m23, m25, m26, m28, m29, m30, m32, m35, m36, m38, m39, m40, m41, m43, m45, m46, m47, m50, m52, m54, m56, m57, m59, m75, m76, m77, m78, m79, m80, m81, m83, m84, m88, m89, m91, m92, m93, m94, m95, m98, m99, m100, m101, m102, m106, m108, m109, m110, m111, m131, m132, m133, m134, m135, m145, m146, m147, m148, m154, m158, m164⟩
  intro f af hf
  exact h (f, af) (aget_mem _ _ _ hf)

theorem mixed : Proofs.Try.prog.follows .mixedOrders = true := by kernel_rfl

/-- slices.Clone[[]clockwork/api.Item,clockwork/api.Item] -/
theorem c97 : matchFunc Proofs.Try.prog 97 (cloneA 8 [.int .i64 0, .str ⟨#[]⟩] 24) = true := by kernel_rfl

/-- slices.Clone[[]int,int] -/
theorem c129 : matchFunc Proofs.Try.prog 129 (cloneA 8 [.int .i64 0] 8) = true := by kernel_rfl

/-- What is known of functions outside. -/
def cloneOf (f : FuncId) : Option (Nat × Nat) := if f == 97 then some (2, 24) else if f == 129 then some (1, 8) else none

theorem cloneOf_ok {f : FuncId} {sz by_ : Nat} (h : cloneOf f = some (sz, by_)) : ∃ nt zero, zero.length = sz ∧ matchFunc Proofs.Try.prog f (cloneA nt zero by_) = true := by
  unfold cloneOf at h
  split at h
  · rename_i hf
    simp only [beq_iff_eq] at hf; subst hf; cases h
    exact ⟨_, _, rfl, c97⟩
  split at h
  · rename_i hf
    simp only [beq_iff_eq] at hf; subst hf; cases h
    exact ⟨_, _, rfl, c129⟩
  cases h

def outside : CallF where
  pure := fun f args => match args, cloneOf f with
    | [.slice _ xs], some (sz, by_) => if allSz sz xs && decide (xs.length * by_ ≤ maxBytes) && decide (xs.length ≤ maxBytes) then some (.slice false xs) else none
    | _, _ => none
  byref := fun f args H nx => match args, cloneOf f with
    | [.p (.slice _ xs)], some (sz, by_) => if allSz sz xs && decide (xs.length * by_ ≤ maxBytes) && decide (xs.length ≤ maxBytes) then some (.ref nx xs.length 0 xs.length, (nx, .row false sz xs) :: H, nx + 1) else none
    | _, _ => none

theorem outside_ok : CallsOK Proofs.Try.prog outside := by
  refine ⟨fun f args r h => ?_, fun f args H nx r H2 nx2 h => ?_⟩
  · simp only [outside] at h
    split at h
    · rename_i hf
      split at h
      · rename_i hc
        simp only [Bool.and_eq_true, decide_eq_true_eq] at hc
        cases h
        obtain ⟨nt, zero, rfl, hm⟩ := cloneOf_ok hf
        exact clone_pure mixed hm hc.1.1 hc.1.2 hc.2
      · cases h
    · cases h
  · simp only [outside] at h
    split at h
    · rename_i hf
      split at h
      · rename_i hc
        simp only [Bool.and_eq_true, decide_eq_true_eq] at hc
        cases h
        obtain ⟨nt, zero, rfl, hm⟩ := cloneOf_ok hf
        exact clone_ok mixed hm hc.1.1 hc.1.2 hc.2
      · cases h
    · cases h

/-- All that is known. -/
def tb : Tab := ⟨tab, outside⟩

theorem calls {f : FuncId} {args : List PV} {r : PV} (h : PS tb f args r) : PureOK Proofs.Try.prog f args r := h.calls mixed tab_ok outside_ok

end Go.Dv.Try
