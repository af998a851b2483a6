/-
  The annotated functions of this seat. Printed by wip/gen.py.
-/
import Derived.Test.YtjnigloanggmmaaCode
import Derived.Test.YtjnigloanggmmaaLib
import Derived.Test.YtjnigloanggmmaaProg
set_option linter.unusedVariables false
set_option maxRecDepth 100000
namespace Go.Dv.Try
open Go Go.Dv

/-- The functions that the interpreter knows. -/
def tabL : List (Nat × AFunc) := [(9, a9), (10, a10), (11, a11), (12, a12), (23, a23), (25, a25), (26, a26), (27, a27), (28, a28), (29, a29), (39, a39), (40, a40), (45, a45), (46, a46), (47, a47), (48, a48), (49, a49), (50, a50), (51, a51), (52, a52), (53, a53), (56, a56), (57, a57), (74, a74), (75, a75), (76, a76), (77, a77), (78, a78), (79, a79), (80, a80), (87, a87), (91, a91), (92, a92), (93, a93), (98, a98), (99, a99), (100, a100), (101, a101), (102, a102), (103, a103), (104, a104), (105, a105), (106, a106), (107, a107), (108, a108), (109, a109), (110, a110), (111, a111), (112, a112), (113, a113), (114, a114), (131, a131), (135, a135), (145, a145), (146, a146), (147, a147)]

def tab (f : FuncId) : Option AFunc := aget tabL f

theorem m9 : matchFunc Proofs.Try.prog 9 a9 = true := by kernel_rfl
theorem m10 : matchFunc Proofs.Try.prog 10 a10 = true := by kernel_rfl
theorem m11 : matchFunc Proofs.Try.prog 11 a11 = true := by kernel_rfl
theorem m12 : matchFunc Proofs.Try.prog 12 a12 = true := by kernel_rfl
theorem m23 : matchFunc Proofs.Try.prog 23 a23 = true := by kernel_rfl
theorem m25 : matchFunc Proofs.Try.prog 25 a25 = true := by kernel_rfl
theorem m26 : matchFunc Proofs.Try.prog 26 a26 = true := by kernel_rfl
theorem m27 : matchFunc Proofs.Try.prog 27 a27 = true := by kernel_rfl
theorem m28 : matchFunc Proofs.Try.prog 28 a28 = true := by kernel_rfl
theorem m29 : matchFunc Proofs.Try.prog 29 a29 = true := by kernel_rfl
theorem m39 : matchFunc Proofs.Try.prog 39 a39 = true := by kernel_rfl
theorem m40 : matchFunc Proofs.Try.prog 40 a40 = true := by kernel_rfl
theorem m45 : matchFunc Proofs.Try.prog 45 a45 = true := by kernel_rfl
theorem m46 : matchFunc Proofs.Try.prog 46 a46 = true := by kernel_rfl
theorem m47 : matchFunc Proofs.Try.prog 47 a47 = true := by kernel_rfl
theorem m48 : matchFunc Proofs.Try.prog 48 a48 = true := by kernel_rfl
theorem m49 : matchFunc Proofs.Try.prog 49 a49 = true := by kernel_rfl
theorem m50 : matchFunc Proofs.Try.prog 50 a50 = true := by kernel_rfl
theorem m51 : matchFunc Proofs.Try.prog 51 a51 = true := by kernel_rfl
theorem m52 : matchFunc Proofs.Try.prog 52 a52 = true := by kernel_rfl
theorem m53 : matchFunc Proofs.Try.prog 53 a53 = true := by kernel_rfl
theorem m56 : matchFunc Proofs.Try.prog 56 a56 = true := by kernel_rfl
theorem m57 : matchFunc Proofs.Try.prog 57 a57 = true := by kernel_rfl
theorem m74 : matchFunc Proofs.Try.prog 74 a74 = true := by kernel_rfl
theorem m75 : matchFunc Proofs.Try.prog 75 a75 = true := by kernel_rfl
theorem m76 : matchFunc Proofs.Try.prog 76 a76 = true := by kernel_rfl
theorem m77 : matchFunc Proofs.Try.prog 77 a77 = true := by kernel_rfl
theorem m78 : matchFunc Proofs.Try.prog 78 a78 = true := by kernel_rfl
theorem m79 : matchFunc Proofs.Try.prog 79 a79 = true := by kernel_rfl
theorem m80 : matchFunc Proofs.Try.prog 80 a80 = true := by kernel_rfl
theorem m87 : matchFunc Proofs.Try.prog 87 a87 = true := by kernel_rfl
theorem m91 : matchFunc Proofs.Try.prog 91 a91 = true := by kernel_rfl
theorem m92 : matchFunc Proofs.Try.prog 92 a92 = true := by kernel_rfl
theorem m93 : matchFunc Proofs.Try.prog 93 a93 = true := by kernel_rfl
theorem m98 : matchFunc Proofs.Try.prog 98 a98 = true := by kernel_rfl
theorem m99 : matchFunc Proofs.Try.prog 99 a99 = true := by kernel_rfl
theorem m100 : matchFunc Proofs.Try.prog 100 a100 = true := by kernel_rfl
theorem m101 : matchFunc Proofs.Try.prog 101 a101 = true := by kernel_rfl
theorem m102 : matchFunc Proofs.Try.prog 102 a102 = true := by kernel_rfl
theorem m103 : matchFunc Proofs.Try.prog 103 a103 = true := by kernel_rfl
theorem m104 : matchFunc Proofs.Try.prog 104 a104 = true := by kernel_rfl
theorem m105 : matchFunc Proofs.Try.prog 105 a105 = true := by kernel_rfl
theorem m106 : matchFunc Proofs.Try.prog 106 a106 = true := by kernel_rfl
theorem m107 : matchFunc Proofs.Try.prog 107 a107 = true := by kernel_rfl
theorem m108 : matchFunc Proofs.Try.prog 108 a108 = true := by kernel_rfl
theorem m109 : matchFunc Proofs.Try.prog 109 a109 = true := by kernel_rfl
theorem m110 : matchFunc Proofs.Try.prog 110 a110 = true := by kernel_rfl
theorem m111 : matchFunc Proofs.Try.prog 111 a111 = true := by kernel_rfl
theorem m112 : matchFunc Proofs.Try.prog 112 a112 = true := by kernel_rfl
theorem m113 : matchFunc Proofs.Try.prog 113 a113 = true := by kernel_rfl
theorem m114 : matchFunc Proofs.Try.prog 114 a114 = true := by kernel_rfl
theorem m131 : matchFunc Proofs.Try.prog 131 a131 = true := by kernel_rfl
theorem m135 : matchFunc Proofs.Try.prog 135 a135 = true := by kernel_rfl
theorem m145 : matchFunc Proofs.Try.prog 145 a145 = true := by kernel_rfl
theorem m146 : matchFunc Proofs.Try.prog 146 a146 = true := by kernel_rfl
theorem m147 : matchFunc Proofs.Try.prog 147 a147 = true := by kernel_rfl

theorem tab_ok : ∀ f af, tab f = some af → matchFunc Proofs.Try.prog f af = true := by
  have h : ∀ p ∈ tabL, matchFunc Proofs.Try.prog p.1 p.2 = true := by
    unfold tabL
    simp only [List.mem_cons, List.not_mem_nil, or_false, forall_eq_or_imp, forall_eq]
    exact ⟨m9, m10, m11, m12, m23, m25, m26, m27, m28, m29, m39, m40, m45, m46, m47, m48, m49, m50, m51, m52, m53, m56, m57, m74, m75, m76, m77, m78, m79, m80, m87, m91, m92, m93, m98, m99, m100, m101, m102, m103, m104, m105, m106, m107, m108, m109, m110, m111, m112, m113, m114, m131, m135, m145, m146, m147⟩
  intro f af hf
  exact h (f, af) (aget_mem _ _ _ hf)

theorem mixed : Proofs.Try.prog.follows .mixedOrders = true := by kernel_rfl

/-- slices.Clone[[]clockwork/api.Item,clockwork/api.Item] -/
theorem c97 : matchFunc Proofs.Try.prog 97 (cloneA 8 [.int .i64 0, .str ⟨#[]⟩] 24) = true := by kernel_rfl

/-- slices.Clone[[]int,int] -/
theorem c129 : matchFunc Proofs.Try.prog 129 (cloneA 8 [.int .i64 0] 8) = true := by kernel_rfl

/-- What is known of functions outside. -/
def cloneOf (f : FuncId) : Option (Nat × Nat) := if f == 97 then some (2, 24) else if f == 129 then some (1, 8) else none

theorem cloneOf_ok {f : FuncId} {sz by_ : Nat} (h : cloneOf f = some (sz, by_)) : ∃ nt zero, zero.length = sz ∧ matchFunc Proofs.Try.prog f (cloneA nt zero by_) = true := by
  unfold cloneOf at h
  split at h
  · rename_i hf
    simp only [beq_iff_eq] at hf; subst hf; cases h
    exact ⟨_, _, rfl, c97⟩
  split at h
  · rename_i hf
    simp only [beq_iff_eq] at hf; subst hf; cases h
    exact ⟨_, _, rfl, c129⟩
  cases h

def outside : CallF where
  pure := fun f args => match args, cloneOf f with
    | [.slice _ xs], some (sz, by_) => if allSz sz xs && decide (xs.length * by_ ≤ maxBytes) && decide (xs.length ≤ maxBytes) then some (.slice false xs) else none
    | _, _ => none
  byref := fun f args H nx => match args, cloneOf f with
    | [.p (.slice _ xs)], some (sz, by_) => if allSz sz xs && decide (xs.length * by_ ≤ maxBytes) && decide (xs.length ≤ maxBytes) then some (.ref nx xs.length 0 xs.length, (nx, .row false sz xs) :: H, nx + 1) else none
    | _, _ => none

theorem outside_ok : CallsOK Proofs.Try.prog outside := by
  refine ⟨fun f args r h => ?_, fun f args H nx r H2 nx2 h => ?_⟩
  · simp only [outside] at h
    split at h
    · rename_i hf
      split at h
      · rename_i hc
        simp only [Bool.and_eq_true, decide_eq_true_eq] at hc
        cases h
        obtain ⟨nt, zero, rfl, hm⟩ := cloneOf_ok hf
        exact clone_pure mixed hm hc.1.1 hc.1.2 hc.2
      · cases h
    · cases h
  · simp only [outside] at h
    split at h
    · rename_i hf
      split at h
      · rename_i hc
        simp only [Bool.and_eq_true, decide_eq_true_eq] at hc
        cases h
        obtain ⟨nt, zero, rfl, hm⟩ := cloneOf_ok hf
        exact clone_ok mixed hm hc.1.1 hc.1.2 hc.2
      · cases h
    · cases h

/-- All that is known. -/
def tb : Tab := ⟨tab, outside⟩

theorem calls {f : FuncId} {args : List PV} {r : PV} (h : PS tb f args r) : PureOK Proofs.Try.prog f args r := h.calls mixed tab_ok outside_ok

end Go.Dv.Try
