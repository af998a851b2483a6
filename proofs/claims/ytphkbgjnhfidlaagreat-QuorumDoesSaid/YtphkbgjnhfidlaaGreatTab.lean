/-
  The annotated functions of this seat. Printed by wip/gen.py.
-/
import Derived.Test.YtphkbgjnhfidlaaGreatCodeb
import Derived.Test.YtphkbgjnhfidlaaGreatLib
import Derived.Test.YtphkbgjnhfidlaaGreatProg
set_option linter.unusedVariables false
set_option maxRecDepth 100000
namespace Go.Dv.Tryz
open Go Go.Dv

def tabL : List (Nat × AFunc) := [(4, a4), (5, a5), (6, a6), (7, a7), (8, a8), (11, a11), (13, a13), (15, a15), (16, a16), (17, a17), (18, a18), (19, a19), (20, a20), (21, a21), (22, a22), (23, a23), (24, a24), (25, a25), (27, a27), (30, a30), (31, a31), (32, a32), (33, a33), (34, a34), (35, a35), (36, a36), (37, a37), (38, a38), (39, a39), (40, a40), (41, a41), (42, a42), (43, a43), (44, a44), (45, a45), (46, a46), (47, a47), (48, a48), (49, a49), (50, a50), (51, a51), (52, a52), (53, a53), (54, a54), (55, a55), (56, a56), (57, a57), (58, a58), (59, a59), (60, a60), (61, a61), (62, a62), (63, a63), (64, a64), (65, a65), (66, a66), (67, a67), (68, a68), (69, a69), (70, a70), (71, a71), (72, a72), (73, a73), (74, a74), (75, a75), (76, a76), (78, a78), (79, a79), (80, a80), (81, a81), (82, a82), (83, a83), (84, a84), (85, a85), (86, a86), (87, a87), (88, a88), (89, a89), (90, a90), (91, a91), (92, a92), (93, a93), (94, a94), (95, a95), (96, a96), (97, a97), (98, a98), (99, a99), (100, a100), (101, a101), (102, a102), (103, a103), (105, a105), (106, a106), (107, a107), (108, a108), (109, a109), (110, a110), (111, a111), (112, a112), (113, a113), (114, a114), (115, a115), (116, a116), (117, a117), (118, a118), (119, a119), (120, a120), (121, a121), (122, a122), (123, a123), (124, a124), (125, a125), (126, a126), (127, a127), (128, a128), (129, a129), (130, a130), (136, a136), (140, a140), (146, a146)]

def tab (f : FuncId) : Option AFunc := aget tabL f

theorem m4 : matchFunc Proofs.Tryz.prog 4 a4 = true := by kernel_rfl
theorem m5 : matchFunc Proofs.Tryz.prog 5 a5 = true := by kernel_rfl
theorem m6 : matchFunc Proofs.Tryz.prog 6 a6 = true := by kernel_rfl
theorem m7 : matchFunc Proofs.Tryz.prog 7 a7 = true := by kernel_rfl
theorem m8 : matchFunc Proofs.Tryz.prog 8 a8 = true := by kernel_rfl
theorem m11 : matchFunc Proofs.Tryz.prog 11 a11 = true := by kernel_rfl
theorem m13 : matchFunc Proofs.Tryz.prog 13 a13 = true := by kernel_rfl
theorem m15 : matchFunc Proofs.Tryz.prog 15 a15 = true := by kernel_rfl
theorem m16 : matchFunc Proofs.Tryz.prog 16 a16 = true := by kernel_rfl
theorem m17 : matchFunc Proofs.Tryz.prog 17 a17 = true := by kernel_rfl
theorem m18 : matchFunc Proofs.Tryz.prog 18 a18 = true := by kernel_rfl
theorem m19 : matchFunc Proofs.Tryz.prog 19 a19 = true := by kernel_rfl
theorem m20 : matchFunc Proofs.Tryz.prog 20 a20 = true := by kernel_rfl
theorem m21 : matchFunc Proofs.Tryz.prog 21 a21 = true := by kernel_rfl
theorem m22 : matchFunc Proofs.Tryz.prog 22 a22 = true := by kernel_rfl
theorem m23 : matchFunc Proofs.Tryz.prog 23 a23 = true := by kernel_rfl
theorem m24 : matchFunc Proofs.Tryz.prog 24 a24 = true := by kernel_rfl
theorem m25 : matchFunc Proofs.Tryz.prog 25 a25 = true := by kernel_rfl
theorem m27 : matchFunc Proofs.Tryz.prog 27 a27 = true := by kernel_rfl
theorem m30 : matchFunc Proofs.Tryz.prog 30 a30 = true := by kernel_rfl
theorem m31 : matchFunc Proofs.Tryz.prog 31 a31 = true := by kernel_rfl
theorem m32 : matchFunc Proofs.Tryz.prog 32 a32 = true := by kernel_rfl
theorem m33 : matchFunc Proofs.Tryz.prog 33 a33 = true := by kernel_rfl
theorem m34 : matchFunc Proofs.Tryz.prog 34 a34 = true := by kernel_rfl
theorem m35 : matchFunc Proofs.Tryz.prog 35 a35 = true := by kernel_rfl
theorem m36 : matchFunc Proofs.Tryz.prog 36 a36 = true := by kernel_rfl
theorem m37 : matchFunc Proofs.Tryz.prog 37 a37 = true := by kernel_rfl
theorem m38 : matchFunc Proofs.Tryz.prog 38 a38 = true := by kernel_rfl
theorem m39 : matchFunc Proofs.Tryz.prog 39 a39 = true := by kernel_rfl
theorem m40 : matchFunc Proofs.Tryz.prog 40 a40 = true := by kernel_rfl
theorem m41 : matchFunc Proofs.Tryz.prog 41 a41 = true := by kernel_rfl
theorem m42 : matchFunc Proofs.Tryz.prog 42 a42 = true := by kernel_rfl
theorem m43 : matchFunc Proofs.Tryz.prog 43 a43 = true := by kernel_rfl
theorem m44 : matchFunc Proofs.Tryz.prog 44 a44 = true := by kernel_rfl
theorem m45 : matchFunc Proofs.Tryz.prog 45 a45 = true := by kernel_rfl
theorem m46 : matchFunc Proofs.Tryz.prog 46 a46 = true := by kernel_rfl
theorem m47 : matchFunc Proofs.Tryz.prog 47 a47 = true := by kernel_rfl
theorem m48 : matchFunc Proofs.Tryz.prog 48 a48 = true := by kernel_rfl
theorem m49 : matchFunc Proofs.Tryz.prog 49 a49 = true := by kernel_rfl
theorem m50 : matchFunc Proofs.Tryz.prog 50 a50 = true := by kernel_rfl
theorem m51 : matchFunc Proofs.Tryz.prog 51 a51 = true := by kernel_rfl
theorem m52 : matchFunc Proofs.Tryz.prog 52 a52 = true := by kernel_rfl
theorem m53 : matchFunc Proofs.Tryz.prog 53 a53 = true := by kernel_rfl
theorem m54 : matchFunc Proofs.Tryz.prog 54 a54 = true := by kernel_rfl
theorem m55 : matchFunc Proofs.Tryz.prog 55 a55 = true := by kernel_rfl
theorem m56 : matchFunc Proofs.Tryz.prog 56 a56 = true := by kernel_rfl
theorem m57 : matchFunc Proofs.Tryz.prog 57 a57 = true := by kernel_rfl
theorem m58 : matchFunc Proofs.Tryz.prog 58 a58 = true := by kernel_rfl
theorem m59 : matchFunc Proofs.Tryz.prog 59 a59 = true := by kernel_rfl
theorem m60 : matchFunc Proofs.Tryz.prog 60 a60 = true := by kernel_rfl
theorem m61 : matchFunc Proofs.Tryz.prog 61 a61 = true := by kernel_rfl
theorem m62 : matchFunc Proofs.Tryz.prog 62 a62 = true := by kernel_rfl
theorem m63 : matchFunc Proofs.Tryz.prog 63 a63 = true := by kernel_rfl
theorem m64 : matchFunc Proofs.Tryz.prog 64 a64 = true := by kernel_rfl
theorem m65 : matchFunc Proofs.Tryz.prog 65 a65 = true := by kernel_rfl
theorem m66 : matchFunc Proofs.Tryz.prog 66 a66 = true := by kernel_rfl
theorem m67 : matchFunc Proofs.Tryz.prog 67 a67 = true := by kernel_rfl
theorem m68 : matchFunc Proofs.Tryz.prog 68 a68 = true := by kernel_rfl
theorem m69 : matchFunc Proofs.Tryz.prog 69 a69 = true := by kernel_rfl
theorem m70 : matchFunc Proofs.Tryz.prog 70 a70 = true := by kernel_rfl
theorem m71 : matchFunc Proofs.Tryz.prog 71 a71 = true := by kernel_rfl
theorem m72 : matchFunc Proofs.Tryz.prog 72 a72 = true := by kernel_rfl
theorem m73 : matchFunc Proofs.Tryz.prog 73 a73 = true := by kernel_rfl
theorem m74 : matchFunc Proofs.Tryz.prog 74 a74 = true := by kernel_rfl
theorem m75 : matchFunc Proofs.Tryz.prog 75 a75 = true := by kernel_rfl
theorem m76 : matchFunc Proofs.Tryz.prog 76 a76 = true := by kernel_rfl
theorem m78 : matchFunc Proofs.Tryz.prog 78 a78 = true := by kernel_rfl
theorem m79 : matchFunc Proofs.Tryz.prog 79 a79 = true := by kernel_rfl
theorem m80 : matchFunc Proofs.Tryz.prog 80 a80 = true := by kernel_rfl
theorem m81 : matchFunc Proofs.Tryz.prog 81 a81 = true := by kernel_rfl
theorem m82 : matchFunc Proofs.Tryz.prog 82 a82 = true := by kernel_rfl
theorem m83 : matchFunc Proofs.Tryz.prog 83 a83 = true := by kernel_rfl
theorem m84 : matchFunc Proofs.Tryz.prog 84 a84 = true := by kernel_rfl
theorem m85 : matchFunc Proofs.Tryz.prog 85 a85 = true := by kernel_rfl
theorem m86 : matchFunc Proofs.Tryz.prog 86 a86 = true := by kernel_rfl
theorem m87 : matchFunc Proofs.Tryz.prog 87 a87 = true := by kernel_rfl
theorem m88 : matchFunc Proofs.Tryz.prog 88 a88 = true := by kernel_rfl
theorem m89 : matchFunc Proofs.Tryz.prog 89 a89 = true := by kernel_rfl
theorem m90 : matchFunc Proofs.Tryz.prog 90 a90 = true := by kernel_rfl
theorem m91 : matchFunc Proofs.Tryz.prog 91 a91 = true := by kernel_rfl
theorem m92 : matchFunc Proofs.Tryz.prog 92 a92 = true := by kernel_rfl
theorem m93 : matchFunc Proofs.Tryz.prog 93 a93 = true := by kernel_rfl
theorem m94 : matchFunc Proofs.Tryz.prog 94 a94 = true := by kernel_rfl
theorem m95 : matchFunc Proofs.Tryz.prog 95 a95 = true := by kernel_rfl
theorem m96 : matchFunc Proofs.Tryz.prog 96 a96 = true := by kernel_rfl
theorem m97 : matchFunc Proofs.Tryz.prog 97 a97 = true := by kernel_rfl
theorem m98 : matchFunc Proofs.Tryz.prog 98 a98 = true := by kernel_rfl
theorem m99 : matchFunc Proofs.Tryz.prog 99 a99 = true := by kernel_rfl
theorem m100 : matchFunc Proofs.Tryz.prog 100 a100 = true := by kernel_rfl
theorem m101 : matchFunc Proofs.Tryz.prog 101 a101 = true := by kernel_rfl
theorem m102 : matchFunc Proofs.Tryz.prog 102 a102 = true := by kernel_rfl
theorem m103 : matchFunc Proofs.Tryz.prog 103 a103 = true := by kernel_rfl
theorem m105 : matchFunc Proofs.Tryz.prog 105 a105 = true := by kernel_rfl
theorem m106 : matchFunc Proofs.Tryz.prog 106 a106 = true := by kernel_rfl
theorem m107 : matchFunc Proofs.Tryz.prog 107 a107 = true := by kernel_rfl
theorem m108 : matchFunc Proofs.Tryz.prog 108 a108 = true := by kernel_rfl
theorem m109 : matchFunc Proofs.Tryz.prog 109 a109 = true := by kernel_rfl
theorem m110 : matchFunc Proofs.Tryz.prog 110 a110 = true := by kernel_rfl
theorem m111 : matchFunc Proofs.Tryz.prog 111 a111 = true := by kernel_rfl
theorem m112 : matchFunc Proofs.Tryz.prog 112 a112 = true := by kernel_rfl
theorem m113 : matchFunc Proofs.Tryz.prog 113 a113 = true := by kernel_rfl
theorem m114 : matchFunc Proofs.Tryz.prog 114 a114 = true := by kernel_rfl
theorem m115 : matchFunc Proofs.Tryz.prog 115 a115 = true := by kernel_rfl
theorem m116 : matchFunc Proofs.Tryz.prog 116 a116 = true := by kernel_rfl
theorem m117 : matchFunc Proofs.Tryz.prog 117 a117 = true := by kernel_rfl
theorem m118 : matchFunc Proofs.Tryz.prog 118 a118 = true := by kernel_rfl
theorem m119 : matchFunc Proofs.Tryz.prog 119 a119 = true := by kernel_rfl
theorem m120 : matchFunc Proofs.Tryz.prog 120 a120 = true := by kernel_rfl
theorem m121 : matchFunc Proofs.Tryz.prog 121 a121 = true := by kernel_rfl
theorem m122 : matchFunc Proofs.Tryz.prog 122 a122 = true := by kernel_rfl
theorem m123 : matchFunc Proofs.Tryz.prog 123 a123 = true := by kernel_rfl
theorem m124 : matchFunc Proofs.Tryz.prog 124 a124 = true := by kernel_rfl
theorem m125 : matchFunc Proofs.Tryz.prog 125 a125 = true := by kernel_rfl
theorem m126 : matchFunc Proofs.Tryz.prog 126 a126 = true := by kernel_rfl
theorem m127 : matchFunc Proofs.Tryz.prog 127 a127 = true := by kernel_rfl
theorem m128 : matchFunc Proofs.Tryz.prog 128 a128 = true := by kernel_rfl
theorem m129 : matchFunc Proofs.Tryz.prog 129 a129 = true := by kernel_rfl
theorem m130 : matchFunc Proofs.Tryz.prog 130 a130 = true := by kernel_rfl
theorem m136 : matchFunc Proofs.Tryz.prog 136 a136 = true := by kernel_rfl
theorem m140 : matchFunc Proofs.Tryz.prog 140 a140 = true := by kernel_rfl
theorem m146 : matchFunc Proofs.Tryz.prog 146 a146 = true := by kernel_rfl

theorem tab_ok : ∀ f af, tab f = some af → matchFunc Proofs.Tryz.prog f af = true := by
  have h : ∀ p ∈ tabL, matchFunc Proofs.Tryz.prog p.1 p.2 = true := by
    unfold tabL
    simp only [List.mem_cons, List.not_mem_nil, or_false, forall_eq_or_imp, forall_eq]
    exact ⟨m4, m5, m6, m7, m8, m11, m13, m15, m16, m17, m18, m19, m20, m21, m22, m23, m24, m25, m27, m30, m31, m32, m33, m34, m35, m36, m37, m38, m39, m40, m41, m42, m43, m44, m45, m46, m47, m48, m49, m50, m51, m52, m53, m54, m55, m56, m57, m58, m59, m60, m61, m62, m63, m64, m65, m66, m67, m68, m69, m70, m71, m72, m73, m74, m75, m76, m78, m79, m80, m81, m82, m83, m84, m85, m86, m87, m88, m89, m90, m91, m92, m93, m94, m95, m96, m97, m98, m99, m100, m101, m102, m103, m105, m106, m107, m108, m109, m110, m111, m112, m113, m114, m115, m116, m117, m118, m119, m120, m121, m122, m123, m124, m125, m126, m127, m128, m129, m130, m136, m140, m146⟩
  intro f af hf
  exact h (f, af) (aget_mem _ _ _ hf)

theorem mixed : Proofs.Tryz.prog.follows .mixedOrders = true := by kernel_rfl

theorem c28 : matchFunc Proofs.Tryz.prog 28 (cloneA 8 [.str ⟨#[]⟩] 16) = true := by kernel_rfl

theorem c77 : matchFunc Proofs.Tryz.prog 77 (cloneA 8 [.int .i64 0, .str ⟨#[]⟩] 24) = true := by kernel_rfl

theorem c104 : matchFunc Proofs.Tryz.prog 104 (cloneA 8 [.int .i64 0] 8) = true := by kernel_rfl

def cloneOf (f : FuncId) : Option (Nat × Nat) := if f == 28 then some (1, 16) else if f == 77 then some (2, 24) else if f == 104 then some (1, 8) else none

theorem cloneOf_ok {f : FuncId} {sz by_ : Nat} (h : cloneOf f = some (sz, by_)) : ∃ nt zero, zero.length = sz ∧ matchFunc Proofs.Tryz.prog f (cloneA nt zero by_) = true := by
  unfold cloneOf at h
  split at h
  · rename_i hf
    simp only [beq_iff_eq] at hf; subst hf; cases h
    exact ⟨_, _, rfl, c28⟩
  split at h
  · rename_i hf
    simp only [beq_iff_eq] at hf; subst hf; cases h
    exact ⟨_, _, rfl, c77⟩
  split at h
  · rename_i hf
    simp only [beq_iff_eq] at hf; subst hf; cases h
    exact ⟨_, _, rfl, c104⟩
  cases h

def clones : CallF where
  pure := fun f args => match args, cloneOf f with
    | [.slice _ xs], some (sz, by_) => if allSz sz xs && decide (xs.length * by_ ≤ maxBytes) && decide (xs.length ≤ maxBytes) then some (.slice false xs) else none
    | _, _ => none
  byref := fun f args H nx => match args, cloneOf f with
    | [.p (.slice _ xs)], some (sz, by_) => if allSz sz xs && decide (xs.length * by_ ≤ maxBytes) && decide (xs.length ≤ maxBytes) then some (.ref nx xs.length 0 xs.length, (nx, .row false sz xs) :: H, nx + 1) else none
    | _, _ => none

theorem clones_ok : CallsOK Proofs.Tryz.prog clones := by
  refine ⟨fun f args r h => ?_, fun f args H nx r H2 nx2 h => ?_⟩
  · simp only [clones] at h
    split at h
    · rename_i hf
      split at h
      · rename_i hc
        simp only [Bool.and_eq_true, decide_eq_true_eq] at hc
        cases h
        obtain ⟨nt, zero, rfl, hm⟩ := cloneOf_ok hf
        exact clone_pure mixed hm hc.1.1 hc.1.2 hc.2
      · cases h
    · cases h
  · simp only [clones] at h
    split at h
    · rename_i hf
      split at h
      · rename_i hc
        simp only [Bool.and_eq_true, decide_eq_true_eq] at hc
        cases h
        obtain ⟨nt, zero, rfl, hm⟩ := cloneOf_ok hf
        exact clone_ok mixed hm hc.1.1 hc.1.2 hc.2
      · cases h
    · cases h

def outside : CallF := clones

theorem outside_ok : CallsOK Proofs.Tryz.prog outside := clones_ok

def tb : Tab := ⟨tab, outside⟩

theorem calls {f : FuncId} {args : List PV} {r : PV} (h : PS tb f args r) : PureOK Proofs.Tryz.prog f args r := h.calls mixed tab_ok outside_ok

end Go.Dv.Tryz
