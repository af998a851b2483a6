/-
  No cell of these rows narrows 'for every input' (looked for: loops, veiled, ifaces, maps, wideKeys, modest, calm, conditions, laid).
  DERIVED. THE GIVEN ROWS OF THIS SEAT. 12 by the template 'for every input the law returns true; each argument reads behind the call as it read before'; 0 by the template 'total and deterministic' (their statements: YtlbfmbnmajlhaaaTotals.lean).
  GIVEN WITH THE SEED: the statements are not yours to turn. If you find one false, say at which input.
  Laid BY PROGRAM, IN A SANDBOX (cutbox-rows.mjs): the forced cells as the released guide's own fill.sh prints them over the translation b670e55a7b946a26… (all of the seat's roots in one cut). By AI agents, Wed Nov 11 2026. No macro, syntax, notation, axiom, sorry.
-/
import Derived.Test.YtlbfmbnmajlhaaaChecked
import GoSem.Claim
import GoSem.ClaimJoined
import GoSem.ClaimMapViews
import Derived.JoinedTies
import Derived.KernelRfl
namespace Go.Proofs.Ytlbfmbnmajlhaaa
/- THE CELL 'sum', in the pinned program and in every row, IS THE sha256 OF THE DUMP (.gsa) THAT YtlbfmbnmajlhaaaProg.lean LOADS. Nothing in Lean hashes anything: it is a label: what it is worth is what the hold of that sum in a sandbox is worth. -/
noncomputable def Try.pinned : Pinned := { name := "ytlbfmbnmajlhaaa", sum := "b670e55a7b946a260f3e18b9439504d3eb9dcba95110f272c78aee5b54e563be", checked := Try.checked }
namespace Rows
def none {H : Type} : Left H := { results := [], args := [] }

/-- 'clockworklaw19.FootprintUnions': WHATEVER THE INPUT: true; the input reads as it did. -/
def footprintUnionsSpec : ChangeSpec := { name := "footprintUnions", fn := fun _ => fun
  | [d1, d2] => { results := [.lit (.bool true)], args := [d1, d2] }
  | _ => none }
def footprintUnionsRow : OpenClaim := { program := "ytlbfmbnmajlhaaa", sum := "b670e55a7b946a260f3e18b9439504d3eb9dcba95110f272c78aee5b54e563be", func := "clockwork/clockworklaw19.FootprintUnions", spec := "footprintUnions", unfollowed := true, recurses := true, apart := false }
def FootprintUnionsSaid : Prop := footprintUnionsRow.holds Try.pinned (OpenSpec.ofChange footprintUnionsSpec)

/-- ITS FALSE NEIGHBOUR: 'it returns false'. Refute it at one input. -/
def footprintUnionsWrong : ChangeSpec := { name := "footprintUnions", fn := fun _ => fun
  | [d1, d2] => { results := [.lit (.bool false)], args := [d1, d2] }
  | _ => none }
def FootprintUnionsWrongFalsely : Prop := footprintUnionsRow.holds Try.pinned (OpenSpec.ofChange footprintUnionsWrong)

/-- 'clockworklaw38.AdmitOrder': WHATEVER THE INPUT: true; the input reads as it did. -/
def admitOrderSpec : ChangeSpec := { name := "admitOrder", fn := fun _ => fun
  | [d] => { results := [.lit (.bool true)], args := [d] }
  | _ => none }
def admitOrderRow : OpenClaim := { program := "ytlbfmbnmajlhaaa", sum := "b670e55a7b946a260f3e18b9439504d3eb9dcba95110f272c78aee5b54e563be", func := "clockwork/clockworklaw38.AdmitOrder", spec := "admitOrder", unfollowed := true, recurses := true, apart := false }
def AdmitOrderSaid : Prop := admitOrderRow.holds Try.pinned (OpenSpec.ofChange admitOrderSpec)

/-- ITS FALSE NEIGHBOUR: 'it returns false'. Refute it at one input. -/
def admitOrderWrong : ChangeSpec := { name := "admitOrder", fn := fun _ => fun
  | [d] => { results := [.lit (.bool false)], args := [d] }
  | _ => none }
def AdmitOrderWrongFalsely : Prop := admitOrderRow.holds Try.pinned (OpenSpec.ofChange admitOrderWrong)

/-- 'clockworklaw38.AdmitBlocks': WHATEVER THE INPUT: true; the input reads as it did. -/
def admitBlocksSpec : ChangeSpec := { name := "admitBlocks", fn := fun _ => fun
  | [d1, d2, d3, d4] => { results := [.lit (.bool true)], args := [d1, d2, d3, d4] }
  | _ => none }
def admitBlocksRow : OpenClaim := { program := "ytlbfmbnmajlhaaa", sum := "b670e55a7b946a260f3e18b9439504d3eb9dcba95110f272c78aee5b54e563be", func := "clockwork/clockworklaw38.AdmitBlocks", spec := "admitBlocks", unfollowed := true, recurses := true, apart := false }
def AdmitBlocksSaid : Prop := admitBlocksRow.holds Try.pinned (OpenSpec.ofChange admitBlocksSpec)

/-- ITS FALSE NEIGHBOUR: 'it returns false'. Refute it at one input. -/
def admitBlocksWrong : ChangeSpec := { name := "admitBlocks", fn := fun _ => fun
  | [d1, d2, d3, d4] => { results := [.lit (.bool false)], args := [d1, d2, d3, d4] }
  | _ => none }
def AdmitBlocksWrongFalsely : Prop := admitBlocksRow.holds Try.pinned (OpenSpec.ofChange admitBlocksWrong)

/-- 'clockworklaw38.AdmitSelects': WHATEVER THE INPUT: true; the input reads as it did. -/
def admitSelectsSpec : ChangeSpec := { name := "admitSelects", fn := fun _ => fun
  | [d] => { results := [.lit (.bool true)], args := [d] }
  | _ => none }
def admitSelectsRow : OpenClaim := { program := "ytlbfmbnmajlhaaa", sum := "b670e55a7b946a260f3e18b9439504d3eb9dcba95110f272c78aee5b54e563be", func := "clockwork/clockworklaw38.AdmitSelects", spec := "admitSelects", unfollowed := true, recurses := true, apart := false }
def AdmitSelectsSaid : Prop := admitSelectsRow.holds Try.pinned (OpenSpec.ofChange admitSelectsSpec)

/-- ITS FALSE NEIGHBOUR: 'it returns false'. Refute it at one input. -/
def admitSelectsWrong : ChangeSpec := { name := "admitSelects", fn := fun _ => fun
  | [d] => { results := [.lit (.bool false)], args := [d] }
  | _ => none }
def AdmitSelectsWrongFalsely : Prop := admitSelectsRow.holds Try.pinned (OpenSpec.ofChange admitSelectsWrong)

/-- 'clockworklaw38.AdmitLimits': WHATEVER THE INPUT: true; the input reads as it did. -/
def admitLimitsSpec : ChangeSpec := { name := "admitLimits", fn := fun _ => fun
  | [d] => { results := [.lit (.bool true)], args := [d] }
  | _ => none }
def admitLimitsRow : OpenClaim := { program := "ytlbfmbnmajlhaaa", sum := "b670e55a7b946a260f3e18b9439504d3eb9dcba95110f272c78aee5b54e563be", func := "clockwork/clockworklaw38.AdmitLimits", spec := "admitLimits", unfollowed := true, recurses := true, apart := false }
def AdmitLimitsSaid : Prop := admitLimitsRow.holds Try.pinned (OpenSpec.ofChange admitLimitsSpec)

/-- ITS FALSE NEIGHBOUR: 'it returns false'. Refute it at one input. -/
def admitLimitsWrong : ChangeSpec := { name := "admitLimits", fn := fun _ => fun
  | [d] => { results := [.lit (.bool false)], args := [d] }
  | _ => none }
def AdmitLimitsWrongFalsely : Prop := admitLimitsRow.holds Try.pinned (OpenSpec.ofChange admitLimitsWrong)

/-- 'clockworklaw38.AdmitPrefix': WHATEVER THE INPUT: true; the input reads as it did. -/
def admitPrefixSpec : ChangeSpec := { name := "admitPrefix", fn := fun _ => fun
  | [d1, d2] => { results := [.lit (.bool true)], args := [d1, d2] }
  | _ => none }
def admitPrefixRow : OpenClaim := { program := "ytlbfmbnmajlhaaa", sum := "b670e55a7b946a260f3e18b9439504d3eb9dcba95110f272c78aee5b54e563be", func := "clockwork/clockworklaw38.AdmitPrefix", spec := "admitPrefix", unfollowed := true, recurses := true, apart := false }
def AdmitPrefixSaid : Prop := admitPrefixRow.holds Try.pinned (OpenSpec.ofChange admitPrefixSpec)

/-- ITS FALSE NEIGHBOUR: 'it returns false'. Refute it at one input. -/
def admitPrefixWrong : ChangeSpec := { name := "admitPrefix", fn := fun _ => fun
  | [d1, d2] => { results := [.lit (.bool false)], args := [d1, d2] }
  | _ => none }
def AdmitPrefixWrongFalsely : Prop := admitPrefixRow.holds Try.pinned (OpenSpec.ofChange admitPrefixWrong)

/-- 'clockworklaw19.FootprintCovers': WHATEVER THE INPUT: true; the input reads as it did. -/
def footprintCoversSpec : ChangeSpec := { name := "footprintCovers", fn := fun _ => fun
  | [d1, d2, d3] => { results := [.lit (.bool true)], args := [d1, d2, d3] }
  | _ => none }
def footprintCoversRow : OpenClaim := { program := "ytlbfmbnmajlhaaa", sum := "b670e55a7b946a260f3e18b9439504d3eb9dcba95110f272c78aee5b54e563be", func := "clockwork/clockworklaw19.FootprintCovers", spec := "footprintCovers", unfollowed := true, recurses := true, apart := false }
def FootprintCoversSaid : Prop := footprintCoversRow.holds Try.pinned (OpenSpec.ofChange footprintCoversSpec)

/-- ITS FALSE NEIGHBOUR: 'it returns false'. Refute it at one input. -/
def footprintCoversWrong : ChangeSpec := { name := "footprintCovers", fn := fun _ => fun
  | [d1, d2, d3] => { results := [.lit (.bool false)], args := [d1, d2, d3] }
  | _ => none }
def FootprintCoversWrongFalsely : Prop := footprintCoversRow.holds Try.pinned (OpenSpec.ofChange footprintCoversWrong)

/-- 'clockworklaw19.FootprintRelates': WHATEVER THE INPUT: true; the input reads as it did. -/
def footprintRelatesSpec : ChangeSpec := { name := "footprintRelates", fn := fun _ => fun
  | [d1, d2] => { results := [.lit (.bool true)], args := [d1, d2] }
  | _ => none }
def footprintRelatesRow : OpenClaim := { program := "ytlbfmbnmajlhaaa", sum := "b670e55a7b946a260f3e18b9439504d3eb9dcba95110f272c78aee5b54e563be", func := "clockwork/clockworklaw19.FootprintRelates", spec := "footprintRelates", unfollowed := true, recurses := true, apart := false }
def FootprintRelatesSaid : Prop := footprintRelatesRow.holds Try.pinned (OpenSpec.ofChange footprintRelatesSpec)

/-- ITS FALSE NEIGHBOUR: 'it returns false'. Refute it at one input. -/
def footprintRelatesWrong : ChangeSpec := { name := "footprintRelates", fn := fun _ => fun
  | [d1, d2] => { results := [.lit (.bool false)], args := [d1, d2] }
  | _ => none }
def FootprintRelatesWrongFalsely : Prop := footprintRelatesRow.holds Try.pinned (OpenSpec.ofChange footprintRelatesWrong)

/-- 'clockworklaw19.FootprintLeast': WHATEVER THE INPUT: true; the input reads as it did. -/
def footprintLeastSpec : ChangeSpec := { name := "footprintLeast", fn := fun _ => fun
  | [d1, d2, d3] => { results := [.lit (.bool true)], args := [d1, d2, d3] }
  | _ => none }
def footprintLeastRow : OpenClaim := { program := "ytlbfmbnmajlhaaa", sum := "b670e55a7b946a260f3e18b9439504d3eb9dcba95110f272c78aee5b54e563be", func := "clockwork/clockworklaw19.FootprintLeast", spec := "footprintLeast", unfollowed := true, recurses := true, apart := false }
def FootprintLeastSaid : Prop := footprintLeastRow.holds Try.pinned (OpenSpec.ofChange footprintLeastSpec)

/-- ITS FALSE NEIGHBOUR: 'it returns false'. Refute it at one input. -/
def footprintLeastWrong : ChangeSpec := { name := "footprintLeast", fn := fun _ => fun
  | [d1, d2, d3] => { results := [.lit (.bool false)], args := [d1, d2, d3] }
  | _ => none }
def FootprintLeastWrongFalsely : Prop := footprintLeastRow.holds Try.pinned (OpenSpec.ofChange footprintLeastWrong)

/-- 'clockworklaw19.FootprintForms': WHATEVER THE INPUT: true; the input reads as it did. -/
def footprintFormsSpec : ChangeSpec := { name := "footprintForms", fn := fun _ => fun
  | [d1, d2] => { results := [.lit (.bool true)], args := [d1, d2] }
  | _ => none }
def footprintFormsRow : OpenClaim := { program := "ytlbfmbnmajlhaaa", sum := "b670e55a7b946a260f3e18b9439504d3eb9dcba95110f272c78aee5b54e563be", func := "clockwork/clockworklaw19.FootprintForms", spec := "footprintForms", unfollowed := true, recurses := true, apart := false }
def FootprintFormsSaid : Prop := footprintFormsRow.holds Try.pinned (OpenSpec.ofChange footprintFormsSpec)

/-- ITS FALSE NEIGHBOUR: 'it returns false'. Refute it at one input. -/
def footprintFormsWrong : ChangeSpec := { name := "footprintForms", fn := fun _ => fun
  | [d1, d2] => { results := [.lit (.bool false)], args := [d1, d2] }
  | _ => none }
def FootprintFormsWrongFalsely : Prop := footprintFormsRow.holds Try.pinned (OpenSpec.ofChange footprintFormsWrong)

/-- 'clockworklaw19.FootprintProjects': WHATEVER THE INPUT: true; the input reads as it did. -/
def footprintProjectsSpec : ChangeSpec := { name := "footprintProjects", fn := fun _ => fun
  | [d1, d2, d3] => { results := [.lit (.bool true)], args := [d1, d2, d3] }
  | _ => none }
def footprintProjectsRow : OpenClaim := { program := "ytlbfmbnmajlhaaa", sum := "b670e55a7b946a260f3e18b9439504d3eb9dcba95110f272c78aee5b54e563be", func := "clockwork/clockworklaw19.FootprintProjects", spec := "footprintProjects", unfollowed := true, recurses := true, apart := false }
def FootprintProjectsSaid : Prop := footprintProjectsRow.holds Try.pinned (OpenSpec.ofChange footprintProjectsSpec)

/-- ITS FALSE NEIGHBOUR: 'it returns false'. Refute it at one input. -/
def footprintProjectsWrong : ChangeSpec := { name := "footprintProjects", fn := fun _ => fun
  | [d1, d2, d3] => { results := [.lit (.bool false)], args := [d1, d2, d3] }
  | _ => none }
def FootprintProjectsWrongFalsely : Prop := footprintProjectsRow.holds Try.pinned (OpenSpec.ofChange footprintProjectsWrong)

/-- 'clockworklaw19.FootprintSplits': WHATEVER THE INPUT: true; the input reads as it did. -/
def footprintSplitsSpec : ChangeSpec := { name := "footprintSplits", fn := fun _ => fun
  | [d1, d2, d3] => { results := [.lit (.bool true)], args := [d1, d2, d3] }
  | _ => none }
def footprintSplitsRow : OpenClaim := { program := "ytlbfmbnmajlhaaa", sum := "b670e55a7b946a260f3e18b9439504d3eb9dcba95110f272c78aee5b54e563be", func := "clockwork/clockworklaw19.FootprintSplits", spec := "footprintSplits", unfollowed := true, recurses := true, apart := false }
def FootprintSplitsSaid : Prop := footprintSplitsRow.holds Try.pinned (OpenSpec.ofChange footprintSplitsSpec)

/-- ITS FALSE NEIGHBOUR: 'it returns false'. Refute it at one input. -/
def footprintSplitsWrong : ChangeSpec := { name := "footprintSplits", fn := fun _ => fun
  | [d1, d2, d3] => { results := [.lit (.bool false)], args := [d1, d2, d3] }
  | _ => none }
def FootprintSplitsWrongFalsely : Prop := footprintSplitsRow.holds Try.pinned (OpenSpec.ofChange footprintSplitsWrong)

/- THE SECOND FORM. 'bulk': how many values and letters a reading holds, each counted each time it is reached (what is shared counts as often as it is met; a slice's spare places count too). A statement '..UptoSaid' is the law's where the arguments, and the package variables that the reading takes, are together of bulk at most 1048576: NARROWER than '..Said'. Prove '..Said' where nothing that the law and all that it calls make is longer than what came in: it says more and counts as full. Else prove '..UptoSaid'. A law counts once. -/
mutual
def uptoBulk {H : Type} : DataW H → Nat
  | .lit (.string bytes) => bytes.length + 1
  | .lit _ => 1
  | .nil => 1
  | .ptr d => uptoBulk d + 1
  | .slice elems spare => uptoBulkAll elems + uptoBulkAll spare + 1
  | .agg parts => uptoBulkAll parts + 1
  | .iface _ d => uptoBulk d + 1
  | .map entries => uptoBulkEntries entries + 1
  | .held _ => 1
def uptoBulkAll {H : Type} : List (DataW H) → Nat
  | [] => 0
  | d :: r => uptoBulk d + uptoBulkAll r
def uptoBulkEntries {H : Type} : List (Lit × DataW H) → Nat
  | [] => 0
  | x :: r => uptoBulkEntry x + uptoBulkEntries r
def uptoBulkEntry {H : Type} : Lit × DataW H → Nat
  | (.string bytes, d) => bytes.length + uptoBulk d + 1
  | (_, d) => uptoBulk d + 1
 end
def uptoSmall : (H : Type) → List (DataW H) → Bool := fun _ ds => decide (uptoBulkAll ds ≤ 1048576)
def OpenSpec.upto (s : _root_.Go.ChangeSpec) : _root_.Go.OpenSpec := { _root_.Go.OpenSpec.ofChange s with cond := some uptoSmall }

/-- 'clockworklaw19.FootprintUnions', WHERE WHAT IT READS IS OF BULK AT MOST 1048576: true; the input reads as it did. -/
def footprintUnionsUptoRow : OpenClaim := { program := "ytlbfmbnmajlhaaa", sum := "b670e55a7b946a260f3e18b9439504d3eb9dcba95110f272c78aee5b54e563be", func := "clockwork/clockworklaw19.FootprintUnions", spec := "footprintUnions", unfollowed := true, recurses := true, apart := false, narrowed := true }
def FootprintUnionsUptoSaid : Prop := footprintUnionsUptoRow.holds Try.pinned (OpenSpec.upto footprintUnionsSpec)

/-- 'clockworklaw38.AdmitOrder', WHERE WHAT IT READS IS OF BULK AT MOST 1048576: true; the input reads as it did. -/
def admitOrderUptoRow : OpenClaim := { program := "ytlbfmbnmajlhaaa", sum := "b670e55a7b946a260f3e18b9439504d3eb9dcba95110f272c78aee5b54e563be", func := "clockwork/clockworklaw38.AdmitOrder", spec := "admitOrder", unfollowed := true, recurses := true, apart := false, narrowed := true }
def AdmitOrderUptoSaid : Prop := admitOrderUptoRow.holds Try.pinned (OpenSpec.upto admitOrderSpec)

/-- 'clockworklaw38.AdmitBlocks', WHERE WHAT IT READS IS OF BULK AT MOST 1048576: true; the input reads as it did. -/
def admitBlocksUptoRow : OpenClaim := { program := "ytlbfmbnmajlhaaa", sum := "b670e55a7b946a260f3e18b9439504d3eb9dcba95110f272c78aee5b54e563be", func := "clockwork/clockworklaw38.AdmitBlocks", spec := "admitBlocks", unfollowed := true, recurses := true, apart := false, narrowed := true }
def AdmitBlocksUptoSaid : Prop := admitBlocksUptoRow.holds Try.pinned (OpenSpec.upto admitBlocksSpec)

/-- 'clockworklaw38.AdmitSelects', WHERE WHAT IT READS IS OF BULK AT MOST 1048576: true; the input reads as it did. -/
def admitSelectsUptoRow : OpenClaim := { program := "ytlbfmbnmajlhaaa", sum := "b670e55a7b946a260f3e18b9439504d3eb9dcba95110f272c78aee5b54e563be", func := "clockwork/clockworklaw38.AdmitSelects", spec := "admitSelects", unfollowed := true, recurses := true, apart := false, narrowed := true }
def AdmitSelectsUptoSaid : Prop := admitSelectsUptoRow.holds Try.pinned (OpenSpec.upto admitSelectsSpec)

/-- 'clockworklaw38.AdmitLimits', WHERE WHAT IT READS IS OF BULK AT MOST 1048576: true; the input reads as it did. -/
def admitLimitsUptoRow : OpenClaim := { program := "ytlbfmbnmajlhaaa", sum := "b670e55a7b946a260f3e18b9439504d3eb9dcba95110f272c78aee5b54e563be", func := "clockwork/clockworklaw38.AdmitLimits", spec := "admitLimits", unfollowed := true, recurses := true, apart := false, narrowed := true }
def AdmitLimitsUptoSaid : Prop := admitLimitsUptoRow.holds Try.pinned (OpenSpec.upto admitLimitsSpec)

/-- 'clockworklaw38.AdmitPrefix', WHERE WHAT IT READS IS OF BULK AT MOST 1048576: true; the input reads as it did. -/
def admitPrefixUptoRow : OpenClaim := { program := "ytlbfmbnmajlhaaa", sum := "b670e55a7b946a260f3e18b9439504d3eb9dcba95110f272c78aee5b54e563be", func := "clockwork/clockworklaw38.AdmitPrefix", spec := "admitPrefix", unfollowed := true, recurses := true, apart := false, narrowed := true }
def AdmitPrefixUptoSaid : Prop := admitPrefixUptoRow.holds Try.pinned (OpenSpec.upto admitPrefixSpec)

/-- 'clockworklaw19.FootprintCovers', WHERE WHAT IT READS IS OF BULK AT MOST 1048576: true; the input reads as it did. -/
def footprintCoversUptoRow : OpenClaim := { program := "ytlbfmbnmajlhaaa", sum := "b670e55a7b946a260f3e18b9439504d3eb9dcba95110f272c78aee5b54e563be", func := "clockwork/clockworklaw19.FootprintCovers", spec := "footprintCovers", unfollowed := true, recurses := true, apart := false, narrowed := true }
def FootprintCoversUptoSaid : Prop := footprintCoversUptoRow.holds Try.pinned (OpenSpec.upto footprintCoversSpec)

/-- 'clockworklaw19.FootprintRelates', WHERE WHAT IT READS IS OF BULK AT MOST 1048576: true; the input reads as it did. -/
def footprintRelatesUptoRow : OpenClaim := { program := "ytlbfmbnmajlhaaa", sum := "b670e55a7b946a260f3e18b9439504d3eb9dcba95110f272c78aee5b54e563be", func := "clockwork/clockworklaw19.FootprintRelates", spec := "footprintRelates", unfollowed := true, recurses := true, apart := false, narrowed := true }
def FootprintRelatesUptoSaid : Prop := footprintRelatesUptoRow.holds Try.pinned (OpenSpec.upto footprintRelatesSpec)

/-- 'clockworklaw19.FootprintLeast', WHERE WHAT IT READS IS OF BULK AT MOST 1048576: true; the input reads as it did. -/
def footprintLeastUptoRow : OpenClaim := { program := "ytlbfmbnmajlhaaa", sum := "b670e55a7b946a260f3e18b9439504d3eb9dcba95110f272c78aee5b54e563be", func := "clockwork/clockworklaw19.FootprintLeast", spec := "footprintLeast", unfollowed := true, recurses := true, apart := false, narrowed := true }
def FootprintLeastUptoSaid : Prop := footprintLeastUptoRow.holds Try.pinned (OpenSpec.upto footprintLeastSpec)

/-- 'clockworklaw19.FootprintForms', WHERE WHAT IT READS IS OF BULK AT MOST 1048576: true; the input reads as it did. -/
def footprintFormsUptoRow : OpenClaim := { program := "ytlbfmbnmajlhaaa", sum := "b670e55a7b946a260f3e18b9439504d3eb9dcba95110f272c78aee5b54e563be", func := "clockwork/clockworklaw19.FootprintForms", spec := "footprintForms", unfollowed := true, recurses := true, apart := false, narrowed := true }
def FootprintFormsUptoSaid : Prop := footprintFormsUptoRow.holds Try.pinned (OpenSpec.upto footprintFormsSpec)

/-- 'clockworklaw19.FootprintProjects', WHERE WHAT IT READS IS OF BULK AT MOST 1048576: true; the input reads as it did. -/
def footprintProjectsUptoRow : OpenClaim := { program := "ytlbfmbnmajlhaaa", sum := "b670e55a7b946a260f3e18b9439504d3eb9dcba95110f272c78aee5b54e563be", func := "clockwork/clockworklaw19.FootprintProjects", spec := "footprintProjects", unfollowed := true, recurses := true, apart := false, narrowed := true }
def FootprintProjectsUptoSaid : Prop := footprintProjectsUptoRow.holds Try.pinned (OpenSpec.upto footprintProjectsSpec)

/-- 'clockworklaw19.FootprintSplits', WHERE WHAT IT READS IS OF BULK AT MOST 1048576: true; the input reads as it did. -/
def footprintSplitsUptoRow : OpenClaim := { program := "ytlbfmbnmajlhaaa", sum := "b670e55a7b946a260f3e18b9439504d3eb9dcba95110f272c78aee5b54e563be", func := "clockwork/clockworklaw19.FootprintSplits", spec := "footprintSplits", unfollowed := true, recurses := true, apart := false, narrowed := true }
def FootprintSplitsUptoSaid : Prop := footprintSplitsUptoRow.holds Try.pinned (OpenSpec.upto footprintSplitsSpec)

end Rows
end Go.Proofs.Ytlbfmbnmajlhaaa
