/-
  No cell of these rows narrows 'for every input' (looked for: loops, veiled, ifaces, maps, wideKeys, modest, calm, conditions, laid).
  DERIVED. THE GIVEN ROWS OF THIS SEAT. 3 by the template 'for every input the law returns true; each argument reads behind the call as it read before'; 0 by the template 'total and deterministic' (their statements: YtphkbgjnhfidlaaGreatTotals.lean).
  GIVEN WITH THE SEED: the statements are not yours to turn. If you find one false, say at which input.
  Laid BY PROGRAM, IN A SANDBOX (cutbox-rows.mjs): the forced cells as the released guide's own fill.sh prints them over the translation 5de8e704b1630882… (all of the seat's roots in one cut). By AI agents, Wed Nov 11 2026. No macro, syntax, notation, axiom, sorry.
-/
import Derived.Test.YtphkbgjnhfidlaaGreatChecked
import GoSem.Claim
import GoSem.ClaimJoined
import GoSem.ClaimMapViews
import Derived.JoinedTies
import Derived.KernelRfl
namespace Go.Proofs.YtphkbgjnhfidlaaGreat
/- THE CELL 'sum', in the pinned program and in every row, IS THE sha256 OF THE DUMP (.gsa) THAT YtphkbgjnhfidlaaGreatProg.lean LOADS. Nothing in Lean hashes anything: it is a label: what it is worth is what the hold of that sum in a sandbox is worth. -/
noncomputable def Tryz.pinned : Pinned := { name := "ytphkbgjnhfidlaagreat", sum := "5de8e704b16308827ebdd4921c5ebb02f3261aa2ff98f82af309eebbc6d8319c", checked := Tryz.checked }
namespace Rows
def none {H : Type} : Left H := { results := [], args := [] }

/-- 'clockworklaw43.QuorumValidates': WHATEVER THE INPUT: true; the input reads as it did. -/
def quorumValidatesSpec : ChangeSpec := { name := "quorumValidates", fn := fun _ => fun
  | [d] => { results := [.lit (.bool true)], args := [d] }
  | _ => none }
def quorumValidatesRow : OpenClaim := { program := "ytphkbgjnhfidlaagreat", sum := "5de8e704b16308827ebdd4921c5ebb02f3261aa2ff98f82af309eebbc6d8319c", func := "clockwork/clockworklaw43.QuorumValidates", spec := "quorumValidates", unfollowed := true, recurses := true, apart := false }
def QuorumValidatesSaid : Prop := quorumValidatesRow.holds Tryz.pinned (OpenSpec.ofChange quorumValidatesSpec)

/-- ITS FALSE NEIGHBOUR: 'it returns false'. Refute it at one input. -/
def quorumValidatesWrong : ChangeSpec := { name := "quorumValidates", fn := fun _ => fun
  | [d] => { results := [.lit (.bool false)], args := [d] }
  | _ => none }
def QuorumValidatesWrongFalsely : Prop := quorumValidatesRow.holds Tryz.pinned (OpenSpec.ofChange quorumValidatesWrong)

/-- 'clockworklaw43.QuorumDoes': WHATEVER THE INPUT: true; the input reads as it did. -/
def quorumDoesSpec : ChangeSpec := { name := "quorumDoes", fn := fun _ => fun
  | [d1, d2] => { results := [.lit (.bool true)], args := [d1, d2] }
  | _ => none }
def quorumDoesRow : OpenClaim := { program := "ytphkbgjnhfidlaagreat", sum := "5de8e704b16308827ebdd4921c5ebb02f3261aa2ff98f82af309eebbc6d8319c", func := "clockwork/clockworklaw43.QuorumDoes", spec := "quorumDoes", unfollowed := true, recurses := true, apart := false }
def QuorumDoesSaid : Prop := quorumDoesRow.holds Tryz.pinned (OpenSpec.ofChange quorumDoesSpec)

/-- ITS FALSE NEIGHBOUR: 'it returns false'. Refute it at one input. -/
def quorumDoesWrong : ChangeSpec := { name := "quorumDoes", fn := fun _ => fun
  | [d1, d2] => { results := [.lit (.bool false)], args := [d1, d2] }
  | _ => none }
def QuorumDoesWrongFalsely : Prop := quorumDoesRow.holds Tryz.pinned (OpenSpec.ofChange quorumDoesWrong)

/-- 'clockworklaw43.QuorumRuns': WHATEVER THE INPUT: true; the input reads as it did. -/
def quorumRunsSpec : ChangeSpec := { name := "quorumRuns", fn := fun _ => fun
  | [d1, d2] => { results := [.lit (.bool true)], args := [d1, d2] }
  | _ => none }
def quorumRunsRow : OpenClaim := { program := "ytphkbgjnhfidlaagreat", sum := "5de8e704b16308827ebdd4921c5ebb02f3261aa2ff98f82af309eebbc6d8319c", func := "clockwork/clockworklaw43.QuorumRuns", spec := "quorumRuns", unfollowed := true, recurses := true, apart := false }
def QuorumRunsSaid : Prop := quorumRunsRow.holds Tryz.pinned (OpenSpec.ofChange quorumRunsSpec)

/-- ITS FALSE NEIGHBOUR: 'it returns false'. Refute it at one input. -/
def quorumRunsWrong : ChangeSpec := { name := "quorumRuns", fn := fun _ => fun
  | [d1, d2] => { results := [.lit (.bool false)], args := [d1, d2] }
  | _ => none }
def QuorumRunsWrongFalsely : Prop := quorumRunsRow.holds Tryz.pinned (OpenSpec.ofChange quorumRunsWrong)

/- THE SECOND FORM. 'bulk': how many values and letters a reading holds, each counted each time it is reached (what is shared counts as often as it is met; a slice's spare places count too). A statement '..UptoSaid' is the law's where the arguments, and the package variables that the reading takes, are together of bulk at most 1048576: NARROWER than '..Said'. Prove '..Said' where nothing that the law and all that it calls make is longer than what came in: it says more and counts as full. Else prove '..UptoSaid'. A law counts once. -/
mutual
def uptoBulk {H : Type} : DataW H → Nat
  | .lit (.string bytes) => bytes.length + 1
  | .lit _ => 1
  | .nil => 1
  | .ptr d => uptoBulk d + 1
  | .slice elems spare => uptoBulkAll elems + uptoBulkAll spare + 1
  | .agg parts => uptoBulkAll parts + 1
  | .iface _ d => uptoBulk d + 1
  | .map entries => uptoBulkEntries entries + 1
  | .held _ => 1
def uptoBulkAll {H : Type} : List (DataW H) → Nat
  | [] => 0
  | d :: r => uptoBulk d + uptoBulkAll r
def uptoBulkEntries {H : Type} : List (Lit × DataW H) → Nat
  | [] => 0
  | x :: r => uptoBulkEntry x + uptoBulkEntries r
def uptoBulkEntry {H : Type} : Lit × DataW H → Nat
  | (.string bytes, d) => bytes.length + uptoBulk d + 1
  | (_, d) => uptoBulk d + 1
 end
def uptoSmall : (H : Type) → List (DataW H) → Bool := fun _ ds => decide (uptoBulkAll ds ≤ 1048576)
def OpenSpec.upto (s : _root_.Go.ChangeSpec) : _root_.Go.OpenSpec := { _root_.Go.OpenSpec.ofChange s with cond := some uptoSmall }

/-- 'clockworklaw43.QuorumValidates', WHERE WHAT IT READS IS OF BULK AT MOST 1048576: true; the input reads as it did. -/
def quorumValidatesUptoRow : OpenClaim := { program := "ytphkbgjnhfidlaagreat", sum := "5de8e704b16308827ebdd4921c5ebb02f3261aa2ff98f82af309eebbc6d8319c", func := "clockwork/clockworklaw43.QuorumValidates", spec := "quorumValidates", unfollowed := true, recurses := true, apart := false, narrowed := true }
def QuorumValidatesUptoSaid : Prop := quorumValidatesUptoRow.holds Tryz.pinned (OpenSpec.upto quorumValidatesSpec)

/-- 'clockworklaw43.QuorumDoes', WHERE WHAT IT READS IS OF BULK AT MOST 1048576: true; the input reads as it did. -/
def quorumDoesUptoRow : OpenClaim := { program := "ytphkbgjnhfidlaagreat", sum := "5de8e704b16308827ebdd4921c5ebb02f3261aa2ff98f82af309eebbc6d8319c", func := "clockwork/clockworklaw43.QuorumDoes", spec := "quorumDoes", unfollowed := true, recurses := true, apart := false, narrowed := true }
def QuorumDoesUptoSaid : Prop := quorumDoesUptoRow.holds Tryz.pinned (OpenSpec.upto quorumDoesSpec)

/-- 'clockworklaw43.QuorumRuns', WHERE WHAT IT READS IS OF BULK AT MOST 1048576: true; the input reads as it did. -/
def quorumRunsUptoRow : OpenClaim := { program := "ytphkbgjnhfidlaagreat", sum := "5de8e704b16308827ebdd4921c5ebb02f3261aa2ff98f82af309eebbc6d8319c", func := "clockwork/clockworklaw43.QuorumRuns", spec := "quorumRuns", unfollowed := true, recurses := true, apart := false, narrowed := true }
def QuorumRunsUptoSaid : Prop := quorumRunsUptoRow.holds Tryz.pinned (OpenSpec.upto quorumRunsSpec)

end Rows
end Go.Proofs.YtphkbgjnhfidlaaGreat
