/-
  The annotated functions of this seat. Printed by wip/gen.py.
-/
import Derived.Test.YtpjpnooiofegoaaCode
import Derived.Test.YtpjpnooiofegoaaLib
import Derived.Test.YtpjpnooiofegoaaProg
set_option linter.unusedVariables false
set_option maxRecDepth 100000
namespace Go.Dv.Try
open Go Go.Dv

/-- The functions that the interpreter knows. -/
def tabL : List (Nat × AFunc) := [(8, a8), (10, a10), (13, a13), (16, a16), (18, a18), (19, a19), (21, a21), (22, a22), (23, a23), (25, a25), (26, a26), (28, a28), (29, a29), (30, a30), (32, a32), (35, a35), (36, a36), (37, a37), (38, a38), (43, a43), (44, a44), (45, a45), (47, a47), (48, a48), (49, a49), (50, a50), (51, a51), (52, a52), (55, a55), (56, a56), (57, a57), (58, a58), (60, a60), (61, a61), (62, a62), (63, a63), (64, a64), (65, a65), (66, a66), (67, a67), (68, a68), (69, a69), (71, a71), (72, a72), (73, a73), (74, a74), (75, a75), (76, a76), (77, a77), (78, a78), (79, a79), (86, a86), (87, a87), (88, a88), (90, a90), (91, a91), (92, a92), (93, a93), (94, a94), (95, a95), (96, a96), (97, a97), (98, a98), (99, a99), (101, a101), (102, a102), (103, a103), (104, a104), (110, a110), (114, a114), (120, a120)]

def tab (f : FuncId) : Option AFunc := aget tabL f

theorem m8 : matchFunc Proofs.Try.prog 8 a8 = true := by kernel_rfl
theorem m10 : matchFunc Proofs.Try.prog 10 a10 = true := by kernel_rfl
theorem m13 : matchFunc Proofs.Try.prog 13 a13 = true := by kernel_rfl
theorem m16 : matchFunc Proofs.Try.prog 16 a16 = true := by kernel_rfl
theorem m18 : matchFunc Proofs.Try.prog 18 a18 = true := by kernel_rfl
theorem m19 : matchFunc Proofs.Try.prog 19 a19 = true := by kernel_rfl
theorem m21 : matchFunc Proofs.Try.prog 21 a21 = true := by kernel_rfl
theorem m22 : matchFunc Proofs.Try.prog 22 a22 = true := by kernel_rfl
theorem m23 : matchFunc Proofs.Try.prog 23 a23 = true := by kernel_rfl
theorem m25 : matchFunc Proofs.Try.prog 25 a25 = true := by kernel_rfl
theorem m26 : matchFunc Proofs.Try.prog 26 a26 = true := by kernel_rfl
theorem m28 : matchFunc Proofs.Try.prog 28 a28 = true := by kernel_rfl
theorem m29 : matchFunc Proofs.Try.prog 29 a29 = true := by kernel_rfl
theorem m30 : matchFunc Proofs.Try.prog 30 a30 = true := by kernel_rfl
theorem m32 : matchFunc Proofs.Try.prog 32 a32 = true := by kernel_rfl
theorem m35 : matchFunc Proofs.Try.prog 35 a35 = true := by kernel_rfl
theorem m36 : matchFunc Proofs.Try.prog 36 a36 = true := by kernel_rfl
theorem m37 : matchFunc Proofs.Try.prog 37 a37 = true := by kernel_rfl
theorem m38 : matchFunc Proofs.Try.prog 38 a38 = true := by kernel_rfl
theorem m43 : matchFunc Proofs.Try.prog 43 a43 = true := by kernel_rfl
theorem m44 : matchFunc Proofs.Try.prog 44 a44 = true := by kernel_rfl
theorem m45 : matchFunc Proofs.Try.prog 45 a45 = true := by kernel_rfl
theorem m47 : matchFunc Proofs.Try.prog 47 a47 = true := by kernel_rfl
theorem m48 : matchFunc Proofs.Try.prog 48 a48 = true := by kernel_rfl
theorem m49 : matchFunc Proofs.Try.prog 49 a49 = true := by kernel_rfl
theorem m50 : matchFunc Proofs.Try.prog 50 a50 = true := by kernel_rfl
theorem m51 : matchFunc Proofs.Try.prog 51 a51 = true := by kernel_rfl
theorem m52 : matchFunc Proofs.Try.prog 52 a52 = true := by kernel_rfl
theorem m55 : matchFunc Proofs.Try.prog 55 a55 = true := by kernel_rfl
theorem m56 : matchFunc Proofs.Try.prog 56 a56 = true := by kernel_rfl
theorem m57 : matchFunc Proofs.Try.prog 57 a57 = true := by kernel_rfl
theorem m58 : matchFunc Proofs.Try.prog 58 a58 = true := by kernel_rfl
theorem m60 : matchFunc Proofs.Try.prog 60 a60 = true := by kernel_rfl
theorem m61 : matchFunc Proofs.Try.prog 61 a61 = true := by kernel_rfl
theorem m62 : matchFunc Proofs.Try.prog 62 a62 = true := by kernel_rfl
theorem m63 : matchFunc Proofs.Try.prog 63 a63 = true := by kernel_rfl
theorem m64 : matchFunc Proofs.Try.prog 64 a64 = true := by kernel_rfl
theorem m65 : matchFunc Proofs.Try.prog 65 a65 = true := by kernel_rfl
theorem m66 : matchFunc Proofs.Try.prog 66 a66 = true := by kernel_rfl
theorem m67 : matchFunc Proofs.Try.prog 67 a67 = true := by kernel_rfl
theorem m68 : matchFunc Proofs.Try.prog 68 a68 = true := by kernel_rfl
theorem m69 : matchFunc Proofs.Try.prog 69 a69 = true := by kernel_rfl
theorem m71 : matchFunc Proofs.Try.prog 71 a71 = true := by kernel_rfl
theorem m72 : matchFunc Proofs.Try.prog 72 a72 = true := by kernel_rfl
theorem m73 : matchFunc Proofs.Try.prog 73 a73 = true := by kernel_rfl
theorem m74 : matchFunc Proofs.Try.prog 74 a74 = true := by kernel_rfl
theorem m75 : matchFunc Proofs.Try.prog 75 a75 = true := by kernel_rfl
theorem m76 : matchFunc Proofs.Try.prog 76 a76 = true := by kernel_rfl
theorem m77 : matchFunc Proofs.Try.prog 77 a77 = true := by kernel_rfl
theorem m78 : matchFunc Proofs.Try.prog 78 a78 = true := by kernel_rfl
theorem m79 : matchFunc Proofs.Try.prog 79 a79 = true := by kernel_rfl
theorem m86 : matchFunc Proofs.Try.prog 86 a86 = true := by kernel_rfl
theorem m87 : matchFunc Proofs.Try.prog 87 a87 = true := by kernel_rfl
theorem m88 : matchFunc Proofs.Try.prog 88 a88 = true := by kernel_rfl
theorem m90 : matchFunc Proofs.Try.prog 90 a90 = true := by kernel_rfl
theorem m91 : matchFunc Proofs.Try.prog 91 a91 = true := by kernel_rfl
theorem m92 : matchFunc Proofs.Try.prog 92 a92 = true := by kernel_rfl
theorem m93 : matchFunc Proofs.Try.prog 93 a93 = true := by kernel_rfl
theorem m94 : matchFunc Proofs.Try.prog 94 a94 = true := by kernel_rfl
theorem m95 : matchFunc Proofs.Try.prog 95 a95 = true := by kernel_rfl
theorem m96 : matchFunc Proofs.Try.prog 96 a96 = true := by kernel_rfl
theorem m97 : matchFunc Proofs.Try.prog 97 a97 = true := by kernel_rfl
theorem m98 : matchFunc Proofs.Try.prog 98 a98 = true := by kernel_rfl
theorem m99 : matchFunc Proofs.Try.prog 99 a99 = true := by kernel_rfl
theorem m101 : matchFunc Proofs.Try.prog 101 a101 = true := by kernel_rfl
theorem m102 : matchFunc Proofs.Try.prog 102 a102 = true := by kernel_rfl
theorem m103 : matchFunc Proofs.Try.prog 103 a103 = true := by kernel_rfl
theorem m104 : matchFunc Proofs.Try.prog 104 a104 = true := by kernel_rfl
theorem m110 : matchFunc Proofs.Try.prog 110 a110 = true := by kernel_rfl
theorem m114 : matchFunc Proofs.Try.prog 114 a114 = true := by kernel_rfl
theorem m120 : matchFunc Proofs.Try.prog 120 a120 = true := by kernel_rfl

theorem tab_ok : ∀ f af, tab f = some af → matchFunc Proofs.Try.prog f af = true := by
  have h : ∀ p ∈ tabL, matchFunc Proofs.Try.prog p.1 p.2 = true := by
    unfold tabL
    simp only [List.mem_cons, List.not_mem_nil, or_false, forall_eq_or_imp, forall_eq]
    exact ⟨m8, m10, m13, m16, m18, m19, m21, m22, m23, m25, m26, m28, m29, m30, m32, m35, m36, m37, m38, m43, m44, m45, m47, m48, m49, m50, m51, m52, m55, m56, m57, m58, m60, m61, m62, m63, m64, m65, m66, m67, m68, m69, m71, m72, m73, m74, m75, m76, m77, m78, m79, m86, m87, m88, m90, m91, m92, m93, m94, m95, m96, m97, m98, m99, m101, m102, m103, m104, m110, m114, m120⟩
  intro f af hf
  exact h (f, af) (aget_mem _ _ _ hf)

theorem mixed : Proofs.Try.prog.follows .mixedOrders = true := by kernel_rfl

/-- slices.Clone[[]string,string] -/
theorem c46 : matchFunc Proofs.Try.prog 46 (cloneA 8 [.str ⟨#[]⟩] 16) = true := by kernel_rfl

/-- slices.Clone[[]clockwork/api.Item,clockwork/api.Item] -/
theorem c59 : matchFunc Proofs.Try.prog 59 (cloneA 8 [.int .i64 0, .str ⟨#[]⟩] 24) = true := by kernel_rfl

/-- slices.Clone[[]int,int] -/
theorem c89 : matchFunc Proofs.Try.prog 89 (cloneA 8 [.int .i64 0] 8) = true := by kernel_rfl

/-- What is known of functions outside. -/
def cloneOf (f : FuncId) : Option (Nat × Nat) := if f == 46 then some (1, 16) else if f == 59 then some (2, 24) else if f == 89 then some (1, 8) else none

theorem cloneOf_ok {f : FuncId} {sz by_ : Nat} (h : cloneOf f = some (sz, by_)) : ∃ nt zero, zero.length = sz ∧ matchFunc Proofs.Try.prog f (cloneA nt zero by_) = true := by
  unfold cloneOf at h
  split at h
  · rename_i hf
    simp only [beq_iff_eq] at hf; subst hf; cases h
    exact ⟨_, _, rfl, c46⟩
  split at h
  · rename_i hf
    simp only [beq_iff_eq] at hf; subst hf; cases h
    exact ⟨_, _, rfl, c59⟩
  split at h
  · rename_i hf
    simp only [beq_iff_eq] at hf; subst hf; cases h
    exact ⟨_, _, rfl, c89⟩
  cases h

def clones : CallF where
  pure := fun f args => match args, cloneOf f with
    | [.slice _ xs], some (sz, by_) => if allSz sz xs && decide (xs.length * by_ ≤ maxBytes) && decide (xs.length ≤ maxBytes) then some (.slice false xs) else none
    | _, _ => none
  byref := fun f args H nx => match args, cloneOf f with
    | [.p (.slice _ xs)], some (sz, by_) => if allSz sz xs && decide (xs.length * by_ ≤ maxBytes) && decide (xs.length ≤ maxBytes) then some (.ref nx xs.length 0 xs.length, (nx, .row false sz xs) :: H, nx + 1) else none
    | _, _ => none

theorem clones_ok : CallsOK Proofs.Try.prog clones := by
  refine ⟨fun f args r h => ?_, fun f args H nx r H2 nx2 h => ?_⟩
  · simp only [clones] at h
    split at h
    · rename_i hf
      split at h
      · rename_i hc
        simp only [Bool.and_eq_true, decide_eq_true_eq] at hc
        cases h
        obtain ⟨nt, zero, rfl, hm⟩ := cloneOf_ok hf
        exact clone_pure mixed hm hc.1.1 hc.1.2 hc.2
      · cases h
    · cases h
  · simp only [clones] at h
    split at h
    · rename_i hf
      split at h
      · rename_i hc
        simp only [Bool.and_eq_true, decide_eq_true_eq] at hc
        cases h
        obtain ⟨nt, zero, rfl, hm⟩ := cloneOf_ok hf
        exact clone_ok mixed hm hc.1.1 hc.1.2 hc.2
      · cases h
    · cases h

/-- What is known of functions outside. -/
def outside : CallF := clones

theorem outside_ok : CallsOK Proofs.Try.prog outside := clones_ok

/-- All that is known. -/
def tb : Tab := ⟨tab, outside⟩

theorem calls {f : FuncId} {args : List PV} {r : PV} (h : PS tb f args r) : PureOK Proofs.Try.prog f args r := h.calls mixed tab_ok outside_ok

end Go.Dv.Try
