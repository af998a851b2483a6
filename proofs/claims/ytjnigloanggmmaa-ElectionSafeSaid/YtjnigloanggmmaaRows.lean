/-
  No cell of these rows narrows 'for every input' (looked for: loops, veiled, ifaces, maps, wideKeys, modest, calm, conditions, laid).
  DERIVED. THE GIVEN ROWS OF THIS SEAT. 18 by the template 'for every input the law returns true; each argument reads behind the call as it read before'; 0 by the template 'total and deterministic' (their statements: YtjnigloanggmmaaTotals.lean).
  GIVEN WITH THE SEED: the statements are not yours to turn. If you find one false, say at which input.
  Laid BY PROGRAM, IN A SANDBOX (cutbox-rows.mjs): the forced cells as the released guide's own fill.sh prints them over the translation 475ca7459dffcb22… (all of the seat's roots in one cut). By AI agents, Wed Nov 11 2026. No macro, syntax, notation, axiom, sorry.
-/
import Derived.Test.YtjnigloanggmmaaChecked
import GoSem.Claim
import GoSem.ClaimJoined
import GoSem.ClaimMapViews
import Derived.JoinedTies
import Derived.KernelRfl
namespace Go.Proofs.Ytjnigloanggmmaa
/- THE CELL 'sum', in the pinned program and in every row, IS THE sha256 OF THE DUMP (.gsa) THAT YtjnigloanggmmaaProg.lean LOADS. Nothing in Lean hashes anything: it is a label: what it is worth is what the hold of that sum in a sandbox is worth. -/
noncomputable def Try.pinned : Pinned := { name := "ytjnigloanggmmaa", sum := "475ca7459dffcb222799df2e73c656bd93b7be9b618e0d237f8eb49bc6246017", checked := Try.checked }
namespace Rows
def none {H : Type} : Left H := { results := [], args := [] }

/-- 'clockworklaw41.ElectionBasics': WHATEVER THE INPUT: true; the input reads as it did. -/
def electionBasicsSpec : ChangeSpec := { name := "electionBasics", fn := fun _ => fun
  | [d1, d2, d3] => { results := [.lit (.bool true)], args := [d1, d2, d3] }
  | _ => none }
def electionBasicsRow : OpenClaim := { program := "ytjnigloanggmmaa", sum := "475ca7459dffcb222799df2e73c656bd93b7be9b618e0d237f8eb49bc6246017", func := "clockwork/clockworklaw41.ElectionBasics", spec := "electionBasics", recurses := true, apart := false }
def ElectionBasicsSaid : Prop := electionBasicsRow.holds Try.pinned (OpenSpec.ofChange electionBasicsSpec)

/-- ITS FALSE NEIGHBOUR: 'it returns false'. Refute it at one input. -/
def electionBasicsWrong : ChangeSpec := { name := "electionBasics", fn := fun _ => fun
  | [d1, d2, d3] => { results := [.lit (.bool false)], args := [d1, d2, d3] }
  | _ => none }
def ElectionBasicsWrongFalsely : Prop := electionBasicsRow.holds Try.pinned (OpenSpec.ofChange electionBasicsWrong)

/-- 'clockworklaw41.ElectionTimeouts': WHATEVER THE INPUT: true; the input reads as it did. -/
def electionTimeoutsSpec : ChangeSpec := { name := "electionTimeouts", fn := fun _ => fun
  | [d] => { results := [.lit (.bool true)], args := [d] }
  | _ => none }
def electionTimeoutsRow : OpenClaim := { program := "ytjnigloanggmmaa", sum := "475ca7459dffcb222799df2e73c656bd93b7be9b618e0d237f8eb49bc6246017", func := "clockwork/clockworklaw41.ElectionTimeouts", spec := "electionTimeouts", recurses := true, apart := false }
def ElectionTimeoutsSaid : Prop := electionTimeoutsRow.holds Try.pinned (OpenSpec.ofChange electionTimeoutsSpec)

/-- ITS FALSE NEIGHBOUR: 'it returns false'. Refute it at one input. -/
def electionTimeoutsWrong : ChangeSpec := { name := "electionTimeouts", fn := fun _ => fun
  | [d] => { results := [.lit (.bool false)], args := [d] }
  | _ => none }
def ElectionTimeoutsWrongFalsely : Prop := electionTimeoutsRow.holds Try.pinned (OpenSpec.ofChange electionTimeoutsWrong)

/-- 'clockworklaw41.ElectionVotes': WHATEVER THE INPUT: true; the input reads as it did. -/
def electionVotesSpec : ChangeSpec := { name := "electionVotes", fn := fun _ => fun
  | [d1, d2] => { results := [.lit (.bool true)], args := [d1, d2] }
  | _ => none }
def electionVotesRow : OpenClaim := { program := "ytjnigloanggmmaa", sum := "475ca7459dffcb222799df2e73c656bd93b7be9b618e0d237f8eb49bc6246017", func := "clockwork/clockworklaw41.ElectionVotes", spec := "electionVotes", recurses := true, apart := false }
def ElectionVotesSaid : Prop := electionVotesRow.holds Try.pinned (OpenSpec.ofChange electionVotesSpec)

/-- ITS FALSE NEIGHBOUR: 'it returns false'. Refute it at one input. -/
def electionVotesWrong : ChangeSpec := { name := "electionVotes", fn := fun _ => fun
  | [d1, d2] => { results := [.lit (.bool false)], args := [d1, d2] }
  | _ => none }
def ElectionVotesWrongFalsely : Prop := electionVotesRow.holds Try.pinned (OpenSpec.ofChange electionVotesWrong)

/-- 'clockworklaw41.ElectionOnce': WHATEVER THE INPUT: true; the input reads as it did. -/
def electionOnceSpec : ChangeSpec := { name := "electionOnce", fn := fun _ => fun
  | [d1, d2] => { results := [.lit (.bool true)], args := [d1, d2] }
  | _ => none }
def electionOnceRow : OpenClaim := { program := "ytjnigloanggmmaa", sum := "475ca7459dffcb222799df2e73c656bd93b7be9b618e0d237f8eb49bc6246017", func := "clockwork/clockworklaw41.ElectionOnce", spec := "electionOnce", recurses := true, apart := false }
def ElectionOnceSaid : Prop := electionOnceRow.holds Try.pinned (OpenSpec.ofChange electionOnceSpec)

/-- ITS FALSE NEIGHBOUR: 'it returns false'. Refute it at one input. -/
def electionOnceWrong : ChangeSpec := { name := "electionOnce", fn := fun _ => fun
  | [d1, d2] => { results := [.lit (.bool false)], args := [d1, d2] }
  | _ => none }
def ElectionOnceWrongFalsely : Prop := electionOnceRow.holds Try.pinned (OpenSpec.ofChange electionOnceWrong)

/-- 'clockworklaw41.ElectionCounts': WHATEVER THE INPUT: true; the input reads as it did. -/
def electionCountsSpec : ChangeSpec := { name := "electionCounts", fn := fun _ => fun
  | [d1, d2] => { results := [.lit (.bool true)], args := [d1, d2] }
  | _ => none }
def electionCountsRow : OpenClaim := { program := "ytjnigloanggmmaa", sum := "475ca7459dffcb222799df2e73c656bd93b7be9b618e0d237f8eb49bc6246017", func := "clockwork/clockworklaw41.ElectionCounts", spec := "electionCounts", recurses := true, apart := false }
def ElectionCountsSaid : Prop := electionCountsRow.holds Try.pinned (OpenSpec.ofChange electionCountsSpec)

/-- ITS FALSE NEIGHBOUR: 'it returns false'. Refute it at one input. -/
def electionCountsWrong : ChangeSpec := { name := "electionCounts", fn := fun _ => fun
  | [d1, d2] => { results := [.lit (.bool false)], args := [d1, d2] }
  | _ => none }
def ElectionCountsWrongFalsely : Prop := electionCountsRow.holds Try.pinned (OpenSpec.ofChange electionCountsWrong)

/-- 'clockworklaw41.ElectionSafe': WHATEVER THE INPUT: true; the input reads as it did. -/
def electionSafeSpec : ChangeSpec := { name := "electionSafe", fn := fun _ => fun
  | [d1, d2] => { results := [.lit (.bool true)], args := [d1, d2] }
  | _ => none }
def electionSafeRow : OpenClaim := { program := "ytjnigloanggmmaa", sum := "475ca7459dffcb222799df2e73c656bd93b7be9b618e0d237f8eb49bc6246017", func := "clockwork/clockworklaw41.ElectionSafe", spec := "electionSafe", recurses := true, apart := false }
def ElectionSafeSaid : Prop := electionSafeRow.holds Try.pinned (OpenSpec.ofChange electionSafeSpec)

/-- ITS FALSE NEIGHBOUR: 'it returns false'. Refute it at one input. -/
def electionSafeWrong : ChangeSpec := { name := "electionSafe", fn := fun _ => fun
  | [d1, d2] => { results := [.lit (.bool false)], args := [d1, d2] }
  | _ => none }
def ElectionSafeWrongFalsely : Prop := electionSafeRow.holds Try.pinned (OpenSpec.ofChange electionSafeWrong)

/-- 'clockworklaw42.ReplicateProposes': WHATEVER THE INPUT: true; the input reads as it did. -/
def replicateProposesSpec : ChangeSpec := { name := "replicateProposes", fn := fun _ => fun
  | [d1, d2] => { results := [.lit (.bool true)], args := [d1, d2] }
  | _ => none }
def replicateProposesRow : OpenClaim := { program := "ytjnigloanggmmaa", sum := "475ca7459dffcb222799df2e73c656bd93b7be9b618e0d237f8eb49bc6246017", func := "clockwork/clockworklaw42.ReplicateProposes", spec := "replicateProposes", apart := false }
def ReplicateProposesSaid : Prop := replicateProposesRow.holds Try.pinned (OpenSpec.ofChange replicateProposesSpec)

/-- ITS FALSE NEIGHBOUR: 'it returns false'. Refute it at one input. -/
def replicateProposesWrong : ChangeSpec := { name := "replicateProposes", fn := fun _ => fun
  | [d1, d2] => { results := [.lit (.bool false)], args := [d1, d2] }
  | _ => none }
def ReplicateProposesWrongFalsely : Prop := replicateProposesRow.holds Try.pinned (OpenSpec.ofChange replicateProposesWrong)

/-- 'clockworklaw42.ReplicateBeats': WHATEVER THE INPUT: true; the input reads as it did. -/
def replicateBeatsSpec : ChangeSpec := { name := "replicateBeats", fn := fun _ => fun
  | [d] => { results := [.lit (.bool true)], args := [d] }
  | _ => none }
def replicateBeatsRow : OpenClaim := { program := "ytjnigloanggmmaa", sum := "475ca7459dffcb222799df2e73c656bd93b7be9b618e0d237f8eb49bc6246017", func := "clockwork/clockworklaw42.ReplicateBeats", spec := "replicateBeats", apart := false }
def ReplicateBeatsSaid : Prop := replicateBeatsRow.holds Try.pinned (OpenSpec.ofChange replicateBeatsSpec)

/-- ITS FALSE NEIGHBOUR: 'it returns false'. Refute it at one input. -/
def replicateBeatsWrong : ChangeSpec := { name := "replicateBeats", fn := fun _ => fun
  | [d] => { results := [.lit (.bool false)], args := [d] }
  | _ => none }
def ReplicateBeatsWrongFalsely : Prop := replicateBeatsRow.holds Try.pinned (OpenSpec.ofChange replicateBeatsWrong)

/-- 'clockworklaw42.ReplicateAppends': WHATEVER THE INPUT: true; the input reads as it did. -/
def replicateAppendsSpec : ChangeSpec := { name := "replicateAppends", fn := fun _ => fun
  | [d1, d2] => { results := [.lit (.bool true)], args := [d1, d2] }
  | _ => none }
def replicateAppendsRow : OpenClaim := { program := "ytjnigloanggmmaa", sum := "475ca7459dffcb222799df2e73c656bd93b7be9b618e0d237f8eb49bc6246017", func := "clockwork/clockworklaw42.ReplicateAppends", spec := "replicateAppends", apart := false }
def ReplicateAppendsSaid : Prop := replicateAppendsRow.holds Try.pinned (OpenSpec.ofChange replicateAppendsSpec)

/-- ITS FALSE NEIGHBOUR: 'it returns false'. Refute it at one input. -/
def replicateAppendsWrong : ChangeSpec := { name := "replicateAppends", fn := fun _ => fun
  | [d1, d2] => { results := [.lit (.bool false)], args := [d1, d2] }
  | _ => none }
def ReplicateAppendsWrongFalsely : Prop := replicateAppendsRow.holds Try.pinned (OpenSpec.ofChange replicateAppendsWrong)

/-- 'clockworklaw42.ReplicateAgrees': WHATEVER THE INPUT: true; the input reads as it did. -/
def replicateAgreesSpec : ChangeSpec := { name := "replicateAgrees", fn := fun _ => fun
  | [d1, d2] => { results := [.lit (.bool true)], args := [d1, d2] }
  | _ => none }
def replicateAgreesRow : OpenClaim := { program := "ytjnigloanggmmaa", sum := "475ca7459dffcb222799df2e73c656bd93b7be9b618e0d237f8eb49bc6246017", func := "clockwork/clockworklaw42.ReplicateAgrees", spec := "replicateAgrees", apart := false }
def ReplicateAgreesSaid : Prop := replicateAgreesRow.holds Try.pinned (OpenSpec.ofChange replicateAgreesSpec)

/-- ITS FALSE NEIGHBOUR: 'it returns false'. Refute it at one input. -/
def replicateAgreesWrong : ChangeSpec := { name := "replicateAgrees", fn := fun _ => fun
  | [d1, d2] => { results := [.lit (.bool false)], args := [d1, d2] }
  | _ => none }
def ReplicateAgreesWrongFalsely : Prop := replicateAgreesRow.holds Try.pinned (OpenSpec.ofChange replicateAgreesWrong)

/-- 'clockworklaw42.ReplicateReceives': WHATEVER THE INPUT: true; the input reads as it did. -/
def replicateReceivesSpec : ChangeSpec := { name := "replicateReceives", fn := fun _ => fun
  | [d1, d2] => { results := [.lit (.bool true)], args := [d1, d2] }
  | _ => none }
def replicateReceivesRow : OpenClaim := { program := "ytjnigloanggmmaa", sum := "475ca7459dffcb222799df2e73c656bd93b7be9b618e0d237f8eb49bc6246017", func := "clockwork/clockworklaw42.ReplicateReceives", spec := "replicateReceives", recurses := true, apart := false }
def ReplicateReceivesSaid : Prop := replicateReceivesRow.holds Try.pinned (OpenSpec.ofChange replicateReceivesSpec)

/-- ITS FALSE NEIGHBOUR: 'it returns false'. Refute it at one input. -/
def replicateReceivesWrong : ChangeSpec := { name := "replicateReceives", fn := fun _ => fun
  | [d1, d2] => { results := [.lit (.bool false)], args := [d1, d2] }
  | _ => none }
def ReplicateReceivesWrongFalsely : Prop := replicateReceivesRow.holds Try.pinned (OpenSpec.ofChange replicateReceivesWrong)

/-- 'clockworklaw42.ReplicateStays': WHATEVER THE INPUT: true; the input reads as it did. -/
def replicateStaysSpec : ChangeSpec := { name := "replicateStays", fn := fun _ => fun
  | [d1, d2] => { results := [.lit (.bool true)], args := [d1, d2] }
  | _ => none }
def replicateStaysRow : OpenClaim := { program := "ytjnigloanggmmaa", sum := "475ca7459dffcb222799df2e73c656bd93b7be9b618e0d237f8eb49bc6246017", func := "clockwork/clockworklaw42.ReplicateStays", spec := "replicateStays", recurses := true, apart := false }
def ReplicateStaysSaid : Prop := replicateStaysRow.holds Try.pinned (OpenSpec.ofChange replicateStaysSpec)

/-- ITS FALSE NEIGHBOUR: 'it returns false'. Refute it at one input. -/
def replicateStaysWrong : ChangeSpec := { name := "replicateStays", fn := fun _ => fun
  | [d1, d2] => { results := [.lit (.bool false)], args := [d1, d2] }
  | _ => none }
def ReplicateStaysWrongFalsely : Prop := replicateStaysRow.holds Try.pinned (OpenSpec.ofChange replicateStaysWrong)

/-- 'clockworklaw42.ReplicateMatches': WHATEVER THE INPUT: true; the input reads as it did. -/
def replicateMatchesSpec : ChangeSpec := { name := "replicateMatches", fn := fun _ => fun
  | [d1, d2] => { results := [.lit (.bool true)], args := [d1, d2] }
  | _ => none }
def replicateMatchesRow : OpenClaim := { program := "ytjnigloanggmmaa", sum := "475ca7459dffcb222799df2e73c656bd93b7be9b618e0d237f8eb49bc6246017", func := "clockwork/clockworklaw42.ReplicateMatches", spec := "replicateMatches", recurses := true, apart := false }
def ReplicateMatchesSaid : Prop := replicateMatchesRow.holds Try.pinned (OpenSpec.ofChange replicateMatchesSpec)

/-- ITS FALSE NEIGHBOUR: 'it returns false'. Refute it at one input. -/
def replicateMatchesWrong : ChangeSpec := { name := "replicateMatches", fn := fun _ => fun
  | [d1, d2] => { results := [.lit (.bool false)], args := [d1, d2] }
  | _ => none }
def ReplicateMatchesWrongFalsely : Prop := replicateMatchesRow.holds Try.pinned (OpenSpec.ofChange replicateMatchesWrong)

/-- 'clockworklaw43.QuorumNews': WHATEVER THE INPUT: true; the input reads as it did. -/
def quorumNewsSpec : ChangeSpec := { name := "quorumNews", fn := fun _ => fun
  | [d] => { results := [.lit (.bool true)], args := [d] }
  | _ => none }
def quorumNewsRow : OpenClaim := { program := "ytjnigloanggmmaa", sum := "475ca7459dffcb222799df2e73c656bd93b7be9b618e0d237f8eb49bc6246017", func := "clockwork/clockworklaw43.QuorumNews", spec := "quorumNews", unfollowed := true, recurses := true, apart := false }
def QuorumNewsSaid : Prop := quorumNewsRow.holds Try.pinned (OpenSpec.ofChange quorumNewsSpec)

/-- ITS FALSE NEIGHBOUR: 'it returns false'. Refute it at one input. -/
def quorumNewsWrong : ChangeSpec := { name := "quorumNews", fn := fun _ => fun
  | [d] => { results := [.lit (.bool false)], args := [d] }
  | _ => none }
def QuorumNewsWrongFalsely : Prop := quorumNewsRow.holds Try.pinned (OpenSpec.ofChange quorumNewsWrong)

/-- 'clockworklaw43.QuorumAgrees': WHATEVER THE INPUT: true; the input reads as it did. -/
def quorumAgreesSpec : ChangeSpec := { name := "quorumAgrees", fn := fun _ => fun
  | [d1, d2, d3] => { results := [.lit (.bool true)], args := [d1, d2, d3] }
  | _ => none }
def quorumAgreesRow : OpenClaim := { program := "ytjnigloanggmmaa", sum := "475ca7459dffcb222799df2e73c656bd93b7be9b618e0d237f8eb49bc6246017", func := "clockwork/clockworklaw43.QuorumAgrees", spec := "quorumAgrees", unfollowed := true, recurses := true, apart := false }
def QuorumAgreesSaid : Prop := quorumAgreesRow.holds Try.pinned (OpenSpec.ofChange quorumAgreesSpec)

/-- ITS FALSE NEIGHBOUR: 'it returns false'. Refute it at one input. -/
def quorumAgreesWrong : ChangeSpec := { name := "quorumAgrees", fn := fun _ => fun
  | [d1, d2, d3] => { results := [.lit (.bool false)], args := [d1, d2, d3] }
  | _ => none }
def QuorumAgreesWrongFalsely : Prop := quorumAgreesRow.holds Try.pinned (OpenSpec.ofChange quorumAgreesWrong)

/-- 'clockworklaw43.QuorumLeads': WHATEVER THE INPUT: true; the input reads as it did. -/
def quorumLeadsSpec : ChangeSpec := { name := "quorumLeads", fn := fun _ => fun
  | [d1, d2] => { results := [.lit (.bool true)], args := [d1, d2] }
  | _ => none }
def quorumLeadsRow : OpenClaim := { program := "ytjnigloanggmmaa", sum := "475ca7459dffcb222799df2e73c656bd93b7be9b618e0d237f8eb49bc6246017", func := "clockwork/clockworklaw43.QuorumLeads", spec := "quorumLeads", unfollowed := true, recurses := true, apart := false }
def QuorumLeadsSaid : Prop := quorumLeadsRow.holds Try.pinned (OpenSpec.ofChange quorumLeadsSpec)

/-- ITS FALSE NEIGHBOUR: 'it returns false'. Refute it at one input. -/
def quorumLeadsWrong : ChangeSpec := { name := "quorumLeads", fn := fun _ => fun
  | [d1, d2] => { results := [.lit (.bool false)], args := [d1, d2] }
  | _ => none }
def QuorumLeadsWrongFalsely : Prop := quorumLeadsRow.holds Try.pinned (OpenSpec.ofChange quorumLeadsWrong)

/-- 'clockworklaw43.QuorumStaysValid': WHATEVER THE INPUT: true; the input reads as it did. -/
def quorumStaysValidSpec : ChangeSpec := { name := "quorumStaysValid", fn := fun _ => fun
  | [d1, d2] => { results := [.lit (.bool true)], args := [d1, d2] }
  | _ => none }
def quorumStaysValidRow : OpenClaim := { program := "ytjnigloanggmmaa", sum := "475ca7459dffcb222799df2e73c656bd93b7be9b618e0d237f8eb49bc6246017", func := "clockwork/clockworklaw43.QuorumStaysValid", spec := "quorumStaysValid", unfollowed := true, recurses := true, apart := false }
def QuorumStaysValidSaid : Prop := quorumStaysValidRow.holds Try.pinned (OpenSpec.ofChange quorumStaysValidSpec)

/-- ITS FALSE NEIGHBOUR: 'it returns false'. Refute it at one input. -/
def quorumStaysValidWrong : ChangeSpec := { name := "quorumStaysValid", fn := fun _ => fun
  | [d1, d2] => { results := [.lit (.bool false)], args := [d1, d2] }
  | _ => none }
def QuorumStaysValidWrongFalsely : Prop := quorumStaysValidRow.holds Try.pinned (OpenSpec.ofChange quorumStaysValidWrong)

/-- 'clockworklaw43.QuorumCommits': WHATEVER THE INPUT: true; the input reads as it did. -/
def quorumCommitsSpec : ChangeSpec := { name := "quorumCommits", fn := fun _ => fun
  | [d1, d2] => { results := [.lit (.bool true)], args := [d1, d2] }
  | _ => none }
def quorumCommitsRow : OpenClaim := { program := "ytjnigloanggmmaa", sum := "475ca7459dffcb222799df2e73c656bd93b7be9b618e0d237f8eb49bc6246017", func := "clockwork/clockworklaw43.QuorumCommits", spec := "quorumCommits", unfollowed := true, recurses := true, apart := false }
def QuorumCommitsSaid : Prop := quorumCommitsRow.holds Try.pinned (OpenSpec.ofChange quorumCommitsSpec)

/-- ITS FALSE NEIGHBOUR: 'it returns false'. Refute it at one input. -/
def quorumCommitsWrong : ChangeSpec := { name := "quorumCommits", fn := fun _ => fun
  | [d1, d2] => { results := [.lit (.bool false)], args := [d1, d2] }
  | _ => none }
def QuorumCommitsWrongFalsely : Prop := quorumCommitsRow.holds Try.pinned (OpenSpec.ofChange quorumCommitsWrong)

/- THE SECOND FORM. 'bulk': how many values and letters a reading holds, each counted each time it is reached (what is shared counts as often as it is met; a slice's spare places count too). A statement '..UptoSaid' is the law's where the arguments, and the package variables that the reading takes, are together of bulk at most 1048576: NARROWER than '..Said'. Prove '..Said' where nothing that the law and all that it calls make is longer than what came in: it says more and counts as full. Else prove '..UptoSaid'. A law counts once. -/
mutual
def uptoBulk {H : Type} : DataW H → Nat
  | .lit (.string bytes) => bytes.length + 1
  | .lit _ => 1
  | .nil => 1
  | .ptr d => uptoBulk d + 1
  | .slice elems spare => uptoBulkAll elems + uptoBulkAll spare + 1
  | .agg parts => uptoBulkAll parts + 1
  | .iface _ d => uptoBulk d + 1
  | .map entries => uptoBulkEntries entries + 1
  | .held _ => 1
def uptoBulkAll {H : Type} : List (DataW H) → Nat
  | [] => 0
  | d :: r => uptoBulk d + uptoBulkAll r
def uptoBulkEntries {H : Type} : List (Lit × DataW H) → Nat
  | [] => 0
  | x :: r => uptoBulkEntry x + uptoBulkEntries r
def uptoBulkEntry {H : Type} : Lit × DataW H → Nat
  | (.string bytes, d) => bytes.length + uptoBulk d + 1
  | (_, d) => uptoBulk d + 1
 end
def uptoSmall : (H : Type) → List (DataW H) → Bool := fun _ ds => decide (uptoBulkAll ds ≤ 1048576)
def OpenSpec.upto (s : _root_.Go.ChangeSpec) : _root_.Go.OpenSpec := { _root_.Go.OpenSpec.ofChange s with cond := some uptoSmall }

/-- 'clockworklaw41.ElectionBasics', WHERE WHAT IT READS IS OF BULK AT MOST 1048576: true; the input reads as it did. -/
def electionBasicsUptoRow : OpenClaim := { program := "ytjnigloanggmmaa", sum := "475ca7459dffcb222799df2e73c656bd93b7be9b618e0d237f8eb49bc6246017", func := "clockwork/clockworklaw41.ElectionBasics", spec := "electionBasics", recurses := true, apart := false, narrowed := true }
def ElectionBasicsUptoSaid : Prop := electionBasicsUptoRow.holds Try.pinned (OpenSpec.upto electionBasicsSpec)

/-- 'clockworklaw41.ElectionTimeouts', WHERE WHAT IT READS IS OF BULK AT MOST 1048576: true; the input reads as it did. -/
def electionTimeoutsUptoRow : OpenClaim := { program := "ytjnigloanggmmaa", sum := "475ca7459dffcb222799df2e73c656bd93b7be9b618e0d237f8eb49bc6246017", func := "clockwork/clockworklaw41.ElectionTimeouts", spec := "electionTimeouts", recurses := true, apart := false, narrowed := true }
def ElectionTimeoutsUptoSaid : Prop := electionTimeoutsUptoRow.holds Try.pinned (OpenSpec.upto electionTimeoutsSpec)

/-- 'clockworklaw41.ElectionVotes', WHERE WHAT IT READS IS OF BULK AT MOST 1048576: true; the input reads as it did. -/
def electionVotesUptoRow : OpenClaim := { program := "ytjnigloanggmmaa", sum := "475ca7459dffcb222799df2e73c656bd93b7be9b618e0d237f8eb49bc6246017", func := "clockwork/clockworklaw41.ElectionVotes", spec := "electionVotes", recurses := true, apart := false, narrowed := true }
def ElectionVotesUptoSaid : Prop := electionVotesUptoRow.holds Try.pinned (OpenSpec.upto electionVotesSpec)

/-- 'clockworklaw41.ElectionOnce', WHERE WHAT IT READS IS OF BULK AT MOST 1048576: true; the input reads as it did. -/
def electionOnceUptoRow : OpenClaim := { program := "ytjnigloanggmmaa", sum := "475ca7459dffcb222799df2e73c656bd93b7be9b618e0d237f8eb49bc6246017", func := "clockwork/clockworklaw41.ElectionOnce", spec := "electionOnce", recurses := true, apart := false, narrowed := true }
def ElectionOnceUptoSaid : Prop := electionOnceUptoRow.holds Try.pinned (OpenSpec.upto electionOnceSpec)

/-- 'clockworklaw41.ElectionCounts', WHERE WHAT IT READS IS OF BULK AT MOST 1048576: true; the input reads as it did. -/
def electionCountsUptoRow : OpenClaim := { program := "ytjnigloanggmmaa", sum := "475ca7459dffcb222799df2e73c656bd93b7be9b618e0d237f8eb49bc6246017", func := "clockwork/clockworklaw41.ElectionCounts", spec := "electionCounts", recurses := true, apart := false, narrowed := true }
def ElectionCountsUptoSaid : Prop := electionCountsUptoRow.holds Try.pinned (OpenSpec.upto electionCountsSpec)

/-- 'clockworklaw41.ElectionSafe', WHERE WHAT IT READS IS OF BULK AT MOST 1048576: true; the input reads as it did. -/
def electionSafeUptoRow : OpenClaim := { program := "ytjnigloanggmmaa", sum := "475ca7459dffcb222799df2e73c656bd93b7be9b618e0d237f8eb49bc6246017", func := "clockwork/clockworklaw41.ElectionSafe", spec := "electionSafe", recurses := true, apart := false, narrowed := true }
def ElectionSafeUptoSaid : Prop := electionSafeUptoRow.holds Try.pinned (OpenSpec.upto electionSafeSpec)

/-- 'clockworklaw42.ReplicateProposes', WHERE WHAT IT READS IS OF BULK AT MOST 1048576: true; the input reads as it did. -/
def replicateProposesUptoRow : OpenClaim := { program := "ytjnigloanggmmaa", sum := "475ca7459dffcb222799df2e73c656bd93b7be9b618e0d237f8eb49bc6246017", func := "clockwork/clockworklaw42.ReplicateProposes", spec := "replicateProposes", apart := false, narrowed := true }
def ReplicateProposesUptoSaid : Prop := replicateProposesUptoRow.holds Try.pinned (OpenSpec.upto replicateProposesSpec)

/-- 'clockworklaw42.ReplicateBeats', WHERE WHAT IT READS IS OF BULK AT MOST 1048576: true; the input reads as it did. -/
def replicateBeatsUptoRow : OpenClaim := { program := "ytjnigloanggmmaa", sum := "475ca7459dffcb222799df2e73c656bd93b7be9b618e0d237f8eb49bc6246017", func := "clockwork/clockworklaw42.ReplicateBeats", spec := "replicateBeats", apart := false, narrowed := true }
def ReplicateBeatsUptoSaid : Prop := replicateBeatsUptoRow.holds Try.pinned (OpenSpec.upto replicateBeatsSpec)

/-- 'clockworklaw42.ReplicateAppends', WHERE WHAT IT READS IS OF BULK AT MOST 1048576: true; the input reads as it did. -/
def replicateAppendsUptoRow : OpenClaim := { program := "ytjnigloanggmmaa", sum := "475ca7459dffcb222799df2e73c656bd93b7be9b618e0d237f8eb49bc6246017", func := "clockwork/clockworklaw42.ReplicateAppends", spec := "replicateAppends", apart := false, narrowed := true }
def ReplicateAppendsUptoSaid : Prop := replicateAppendsUptoRow.holds Try.pinned (OpenSpec.upto replicateAppendsSpec)

/-- 'clockworklaw42.ReplicateAgrees', WHERE WHAT IT READS IS OF BULK AT MOST 1048576: true; the input reads as it did. -/
def replicateAgreesUptoRow : OpenClaim := { program := "ytjnigloanggmmaa", sum := "475ca7459dffcb222799df2e73c656bd93b7be9b618e0d237f8eb49bc6246017", func := "clockwork/clockworklaw42.ReplicateAgrees", spec := "replicateAgrees", apart := false, narrowed := true }
def ReplicateAgreesUptoSaid : Prop := replicateAgreesUptoRow.holds Try.pinned (OpenSpec.upto replicateAgreesSpec)

/-- 'clockworklaw42.ReplicateReceives', WHERE WHAT IT READS IS OF BULK AT MOST 1048576: true; the input reads as it did. -/
def replicateReceivesUptoRow : OpenClaim := { program := "ytjnigloanggmmaa", sum := "475ca7459dffcb222799df2e73c656bd93b7be9b618e0d237f8eb49bc6246017", func := "clockwork/clockworklaw42.ReplicateReceives", spec := "replicateReceives", recurses := true, apart := false, narrowed := true }
def ReplicateReceivesUptoSaid : Prop := replicateReceivesUptoRow.holds Try.pinned (OpenSpec.upto replicateReceivesSpec)

/-- 'clockworklaw42.ReplicateStays', WHERE WHAT IT READS IS OF BULK AT MOST 1048576: true; the input reads as it did. -/
def replicateStaysUptoRow : OpenClaim := { program := "ytjnigloanggmmaa", sum := "475ca7459dffcb222799df2e73c656bd93b7be9b618e0d237f8eb49bc6246017", func := "clockwork/clockworklaw42.ReplicateStays", spec := "replicateStays", recurses := true, apart := false, narrowed := true }
def ReplicateStaysUptoSaid : Prop := replicateStaysUptoRow.holds Try.pinned (OpenSpec.upto replicateStaysSpec)

/-- 'clockworklaw42.ReplicateMatches', WHERE WHAT IT READS IS OF BULK AT MOST 1048576: true; the input reads as it did. -/
def replicateMatchesUptoRow : OpenClaim := { program := "ytjnigloanggmmaa", sum := "475ca7459dffcb222799df2e73c656bd93b7be9b618e0d237f8eb49bc6246017", func := "clockwork/clockworklaw42.ReplicateMatches", spec := "replicateMatches", recurses := true, apart := false, narrowed := true }
def ReplicateMatchesUptoSaid : Prop := replicateMatchesUptoRow.holds Try.pinned (OpenSpec.upto replicateMatchesSpec)

/-- 'clockworklaw43.QuorumNews', WHERE WHAT IT READS IS OF BULK AT MOST 1048576: true; the input reads as it did. -/
def quorumNewsUptoRow : OpenClaim := { program := "ytjnigloanggmmaa", sum := "475ca7459dffcb222799df2e73c656bd93b7be9b618e0d237f8eb49bc6246017", func := "clockwork/clockworklaw43.QuorumNews", spec := "quorumNews", unfollowed := true, recurses := true, apart := false, narrowed := true }
def QuorumNewsUptoSaid : Prop := quorumNewsUptoRow.holds Try.pinned (OpenSpec.upto quorumNewsSpec)

/-- 'clockworklaw43.QuorumAgrees', WHERE WHAT IT READS IS OF BULK AT MOST 1048576: true; the input reads as it did. -/
def quorumAgreesUptoRow : OpenClaim := { program := "ytjnigloanggmmaa", sum := "475ca7459dffcb222799df2e73c656bd93b7be9b618e0d237f8eb49bc6246017", func := "clockwork/clockworklaw43.QuorumAgrees", spec := "quorumAgrees", unfollowed := true, recurses := true, apart := false, narrowed := true }
def QuorumAgreesUptoSaid : Prop := quorumAgreesUptoRow.holds Try.pinned (OpenSpec.upto quorumAgreesSpec)

/-- 'clockworklaw43.QuorumLeads', WHERE WHAT IT READS IS OF BULK AT MOST 1048576: true; the input reads as it did. -/
def quorumLeadsUptoRow : OpenClaim := { program := "ytjnigloanggmmaa", sum := "475ca7459dffcb222799df2e73c656bd93b7be9b618e0d237f8eb49bc6246017", func := "clockwork/clockworklaw43.QuorumLeads", spec := "quorumLeads", unfollowed := true, recurses := true, apart := false, narrowed := true }
def QuorumLeadsUptoSaid : Prop := quorumLeadsUptoRow.holds Try.pinned (OpenSpec.upto quorumLeadsSpec)

/-- 'clockworklaw43.QuorumStaysValid', WHERE WHAT IT READS IS OF BULK AT MOST 1048576: true; the input reads as it did. -/
def quorumStaysValidUptoRow : OpenClaim := { program := "ytjnigloanggmmaa", sum := "475ca7459dffcb222799df2e73c656bd93b7be9b618e0d237f8eb49bc6246017", func := "clockwork/clockworklaw43.QuorumStaysValid", spec := "quorumStaysValid", unfollowed := true, recurses := true, apart := false, narrowed := true }
def QuorumStaysValidUptoSaid : Prop := quorumStaysValidUptoRow.holds Try.pinned (OpenSpec.upto quorumStaysValidSpec)

/-- 'clockworklaw43.QuorumCommits', WHERE WHAT IT READS IS OF BULK AT MOST 1048576: true; the input reads as it did. -/
def quorumCommitsUptoRow : OpenClaim := { program := "ytjnigloanggmmaa", sum := "475ca7459dffcb222799df2e73c656bd93b7be9b618e0d237f8eb49bc6246017", func := "clockwork/clockworklaw43.QuorumCommits", spec := "quorumCommits", unfollowed := true, recurses := true, apart := false, narrowed := true }
def QuorumCommitsUptoSaid : Prop := quorumCommitsUptoRow.holds Try.pinned (OpenSpec.upto quorumCommitsSpec)

end Rows
end Go.Proofs.Ytjnigloanggmmaa
