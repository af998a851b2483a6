/-
  No cell of these rows narrows 'for every input' (looked for: loops, veiled, ifaces, maps, wideKeys, modest, calm, conditions, laid).
  DERIVED. THE GIVEN ROWS OF THIS SEAT. 6 by the template 'for every input the law returns true; each argument reads behind the call as it read before'; 0 by the template 'total and deterministic' (their statements: YtpjpnooiofegoaaTotals.lean).
  GIVEN WITH THE SEED: the statements are not yours to turn. If you find one false, say at which input.
  Laid BY PROGRAM, IN A SANDBOX (cutbox-rows.mjs): the forced cells as the released guide's own fill.sh prints them over the translation c94dc921c7ebfe42… (all of the seat's roots in one cut). By AI agents, Wed Nov 11 2026. No macro, syntax, notation, axiom, sorry.
-/
import Derived.Test.YtpjpnooiofegoaaChecked
import GoSem.Claim
import GoSem.ClaimJoined
import GoSem.ClaimMapViews
import Derived.JoinedTies
import Derived.KernelRfl
namespace Go.Proofs.Ytpjpnooiofegoaa
/- THE CELL 'sum', in the pinned program and in every row, IS THE sha256 OF THE DUMP (.gsa) THAT YtpjpnooiofegoaaProg.lean LOADS. Nothing in Lean hashes anything: it is a label: what it is worth is what the hold of that sum in a sandbox is worth. -/
noncomputable def Try.pinned : Pinned := { name := "ytpjpnooiofegoaa", sum := "c94dc921c7ebfe425a43750a23b6f57a5e39c1d1fd6ed4519c633438a7f558b3", checked := Try.checked }
namespace Rows
def none {H : Type} : Left H := { results := [], args := [] }

/-- 'clockworklaw42.ReplicateMatches': WHATEVER THE INPUT: true; the input reads as it did. -/
def replicateMatchesSpec : ChangeSpec := { name := "replicateMatches", fn := fun _ => fun
  | [d1, d2] => { results := [.lit (.bool true)], args := [d1, d2] }
  | _ => none }
def replicateMatchesRow : OpenClaim := { program := "ytpjpnooiofegoaa", sum := "c94dc921c7ebfe425a43750a23b6f57a5e39c1d1fd6ed4519c633438a7f558b3", func := "clockwork/clockworklaw42.ReplicateMatches", spec := "replicateMatches", recurses := true, apart := false }
def ReplicateMatchesSaid : Prop := replicateMatchesRow.holds Try.pinned (OpenSpec.ofChange replicateMatchesSpec)

/-- ITS FALSE NEIGHBOUR: 'it returns false'. Refute it at one input. -/
def replicateMatchesWrong : ChangeSpec := { name := "replicateMatches", fn := fun _ => fun
  | [d1, d2] => { results := [.lit (.bool false)], args := [d1, d2] }
  | _ => none }
def ReplicateMatchesWrongFalsely : Prop := replicateMatchesRow.holds Try.pinned (OpenSpec.ofChange replicateMatchesWrong)

/-- 'clockworklaw43.QuorumNews': WHATEVER THE INPUT: true; the input reads as it did. -/
def quorumNewsSpec : ChangeSpec := { name := "quorumNews", fn := fun _ => fun
  | [d] => { results := [.lit (.bool true)], args := [d] }
  | _ => none }
def quorumNewsRow : OpenClaim := { program := "ytpjpnooiofegoaa", sum := "c94dc921c7ebfe425a43750a23b6f57a5e39c1d1fd6ed4519c633438a7f558b3", func := "clockwork/clockworklaw43.QuorumNews", spec := "quorumNews", unfollowed := true, recurses := true, apart := false }
def QuorumNewsSaid : Prop := quorumNewsRow.holds Try.pinned (OpenSpec.ofChange quorumNewsSpec)

/-- ITS FALSE NEIGHBOUR: 'it returns false'. Refute it at one input. -/
def quorumNewsWrong : ChangeSpec := { name := "quorumNews", fn := fun _ => fun
  | [d] => { results := [.lit (.bool false)], args := [d] }
  | _ => none }
def QuorumNewsWrongFalsely : Prop := quorumNewsRow.holds Try.pinned (OpenSpec.ofChange quorumNewsWrong)

/-- 'clockworklaw43.QuorumAgrees': WHATEVER THE INPUT: true; the input reads as it did. -/
def quorumAgreesSpec : ChangeSpec := { name := "quorumAgrees", fn := fun _ => fun
  | [d1, d2, d3] => { results := [.lit (.bool true)], args := [d1, d2, d3] }
  | _ => none }
def quorumAgreesRow : OpenClaim := { program := "ytpjpnooiofegoaa", sum := "c94dc921c7ebfe425a43750a23b6f57a5e39c1d1fd6ed4519c633438a7f558b3", func := "clockwork/clockworklaw43.QuorumAgrees", spec := "quorumAgrees", unfollowed := true, recurses := true, apart := false }
def QuorumAgreesSaid : Prop := quorumAgreesRow.holds Try.pinned (OpenSpec.ofChange quorumAgreesSpec)

/-- ITS FALSE NEIGHBOUR: 'it returns false'. Refute it at one input. -/
def quorumAgreesWrong : ChangeSpec := { name := "quorumAgrees", fn := fun _ => fun
  | [d1, d2, d3] => { results := [.lit (.bool false)], args := [d1, d2, d3] }
  | _ => none }
def QuorumAgreesWrongFalsely : Prop := quorumAgreesRow.holds Try.pinned (OpenSpec.ofChange quorumAgreesWrong)

/-- 'clockworklaw43.QuorumLeads': WHATEVER THE INPUT: true; the input reads as it did. -/
def quorumLeadsSpec : ChangeSpec := { name := "quorumLeads", fn := fun _ => fun
  | [d1, d2] => { results := [.lit (.bool true)], args := [d1, d2] }
  | _ => none }
def quorumLeadsRow : OpenClaim := { program := "ytpjpnooiofegoaa", sum := "c94dc921c7ebfe425a43750a23b6f57a5e39c1d1fd6ed4519c633438a7f558b3", func := "clockwork/clockworklaw43.QuorumLeads", spec := "quorumLeads", unfollowed := true, recurses := true, apart := false }
def QuorumLeadsSaid : Prop := quorumLeadsRow.holds Try.pinned (OpenSpec.ofChange quorumLeadsSpec)

/-- ITS FALSE NEIGHBOUR: 'it returns false'. Refute it at one input. -/
def quorumLeadsWrong : ChangeSpec := { name := "quorumLeads", fn := fun _ => fun
  | [d1, d2] => { results := [.lit (.bool false)], args := [d1, d2] }
  | _ => none }
def QuorumLeadsWrongFalsely : Prop := quorumLeadsRow.holds Try.pinned (OpenSpec.ofChange quorumLeadsWrong)

/-- 'clockworklaw43.QuorumStaysValid': WHATEVER THE INPUT: true; the input reads as it did. -/
def quorumStaysValidSpec : ChangeSpec := { name := "quorumStaysValid", fn := fun _ => fun
  | [d1, d2] => { results := [.lit (.bool true)], args := [d1, d2] }
  | _ => none }
def quorumStaysValidRow : OpenClaim := { program := "ytpjpnooiofegoaa", sum := "c94dc921c7ebfe425a43750a23b6f57a5e39c1d1fd6ed4519c633438a7f558b3", func := "clockwork/clockworklaw43.QuorumStaysValid", spec := "quorumStaysValid", unfollowed := true, recurses := true, apart := false }
def QuorumStaysValidSaid : Prop := quorumStaysValidRow.holds Try.pinned (OpenSpec.ofChange quorumStaysValidSpec)

/-- ITS FALSE NEIGHBOUR: 'it returns false'. Refute it at one input. -/
def quorumStaysValidWrong : ChangeSpec := { name := "quorumStaysValid", fn := fun _ => fun
  | [d1, d2] => { results := [.lit (.bool false)], args := [d1, d2] }
  | _ => none }
def QuorumStaysValidWrongFalsely : Prop := quorumStaysValidRow.holds Try.pinned (OpenSpec.ofChange quorumStaysValidWrong)

/-- 'clockworklaw43.QuorumCommits': WHATEVER THE INPUT: true; the input reads as it did. -/
def quorumCommitsSpec : ChangeSpec := { name := "quorumCommits", fn := fun _ => fun
  | [d1, d2] => { results := [.lit (.bool true)], args := [d1, d2] }
  | _ => none }
def quorumCommitsRow : OpenClaim := { program := "ytpjpnooiofegoaa", sum := "c94dc921c7ebfe425a43750a23b6f57a5e39c1d1fd6ed4519c633438a7f558b3", func := "clockwork/clockworklaw43.QuorumCommits", spec := "quorumCommits", unfollowed := true, recurses := true, apart := false }
def QuorumCommitsSaid : Prop := quorumCommitsRow.holds Try.pinned (OpenSpec.ofChange quorumCommitsSpec)

/-- ITS FALSE NEIGHBOUR: 'it returns false'. Refute it at one input. -/
def quorumCommitsWrong : ChangeSpec := { name := "quorumCommits", fn := fun _ => fun
  | [d1, d2] => { results := [.lit (.bool false)], args := [d1, d2] }
  | _ => none }
def QuorumCommitsWrongFalsely : Prop := quorumCommitsRow.holds Try.pinned (OpenSpec.ofChange quorumCommitsWrong)

/- THE SECOND FORM. 'bulk': how many values and letters a reading holds, each counted each time it is reached (what is shared counts as often as it is met; a slice's spare places count too). A statement '..UptoSaid' is the law's where the arguments, and the package variables that the reading takes, are together of bulk at most 1048576: NARROWER than '..Said'. Prove '..Said' where nothing that the law and all that it calls make is longer than what came in: it says more and counts as full. Else prove '..UptoSaid'. A law counts once. -/
mutual
def uptoBulk {H : Type} : DataW H → Nat
  | .lit (.string bytes) => bytes.length + 1
  | .lit _ => 1
  | .nil => 1
  | .ptr d => uptoBulk d + 1
  | .slice elems spare => uptoBulkAll elems + uptoBulkAll spare + 1
  | .agg parts => uptoBulkAll parts + 1
  | .iface _ d => uptoBulk d + 1
  | .map entries => uptoBulkEntries entries + 1
  | .held _ => 1
def uptoBulkAll {H : Type} : List (DataW H) → Nat
  | [] => 0
  | d :: r => uptoBulk d + uptoBulkAll r
def uptoBulkEntries {H : Type} : List (Lit × DataW H) → Nat
  | [] => 0
  | x :: r => uptoBulkEntry x + uptoBulkEntries r
def uptoBulkEntry {H : Type} : Lit × DataW H → Nat
  | (.string bytes, d) => bytes.length + uptoBulk d + 1
  | (_, d) => uptoBulk d + 1
 end
def uptoSmall : (H : Type) → List (DataW H) → Bool := fun _ ds => decide (uptoBulkAll ds ≤ 1048576)
def OpenSpec.upto (s : _root_.Go.ChangeSpec) : _root_.Go.OpenSpec := { _root_.Go.OpenSpec.ofChange s with cond := some uptoSmall }

/-- 'clockworklaw42.ReplicateMatches', WHERE WHAT IT READS IS OF BULK AT MOST 1048576: true; the input reads as it did. -/
def replicateMatchesUptoRow : OpenClaim := { program := "ytpjpnooiofegoaa", sum := "c94dc921c7ebfe425a43750a23b6f57a5e39c1d1fd6ed4519c633438a7f558b3", func := "clockwork/clockworklaw42.ReplicateMatches", spec := "replicateMatches", recurses := true, apart := false, narrowed := true }
def ReplicateMatchesUptoSaid : Prop := replicateMatchesUptoRow.holds Try.pinned (OpenSpec.upto replicateMatchesSpec)

/-- 'clockworklaw43.QuorumNews', WHERE WHAT IT READS IS OF BULK AT MOST 1048576: true; the input reads as it did. -/
def quorumNewsUptoRow : OpenClaim := { program := "ytpjpnooiofegoaa", sum := "c94dc921c7ebfe425a43750a23b6f57a5e39c1d1fd6ed4519c633438a7f558b3", func := "clockwork/clockworklaw43.QuorumNews", spec := "quorumNews", unfollowed := true, recurses := true, apart := false, narrowed := true }
def QuorumNewsUptoSaid : Prop := quorumNewsUptoRow.holds Try.pinned (OpenSpec.upto quorumNewsSpec)

/-- 'clockworklaw43.QuorumAgrees', WHERE WHAT IT READS IS OF BULK AT MOST 1048576: true; the input reads as it did. -/
def quorumAgreesUptoRow : OpenClaim := { program := "ytpjpnooiofegoaa", sum := "c94dc921c7ebfe425a43750a23b6f57a5e39c1d1fd6ed4519c633438a7f558b3", func := "clockwork/clockworklaw43.QuorumAgrees", spec := "quorumAgrees", unfollowed := true, recurses := true, apart := false, narrowed := true }
def QuorumAgreesUptoSaid : Prop := quorumAgreesUptoRow.holds Try.pinned (OpenSpec.upto quorumAgreesSpec)

/-- 'clockworklaw43.QuorumLeads', WHERE WHAT IT READS IS OF BULK AT MOST 1048576: true; the input reads as it did. -/
def quorumLeadsUptoRow : OpenClaim := { program := "ytpjpnooiofegoaa", sum := "c94dc921c7ebfe425a43750a23b6f57a5e39c1d1fd6ed4519c633438a7f558b3", func := "clockwork/clockworklaw43.QuorumLeads", spec := "quorumLeads", unfollowed := true, recurses := true, apart := false, narrowed := true }
def QuorumLeadsUptoSaid : Prop := quorumLeadsUptoRow.holds Try.pinned (OpenSpec.upto quorumLeadsSpec)

/-- 'clockworklaw43.QuorumStaysValid', WHERE WHAT IT READS IS OF BULK AT MOST 1048576: true; the input reads as it did. -/
def quorumStaysValidUptoRow : OpenClaim := { program := "ytpjpnooiofegoaa", sum := "c94dc921c7ebfe425a43750a23b6f57a5e39c1d1fd6ed4519c633438a7f558b3", func := "clockwork/clockworklaw43.QuorumStaysValid", spec := "quorumStaysValid", unfollowed := true, recurses := true, apart := false, narrowed := true }
def QuorumStaysValidUptoSaid : Prop := quorumStaysValidUptoRow.holds Try.pinned (OpenSpec.upto quorumStaysValidSpec)

/-- 'clockworklaw43.QuorumCommits', WHERE WHAT IT READS IS OF BULK AT MOST 1048576: true; the input reads as it did. -/
def quorumCommitsUptoRow : OpenClaim := { program := "ytpjpnooiofegoaa", sum := "c94dc921c7ebfe425a43750a23b6f57a5e39c1d1fd6ed4519c633438a7f558b3", func := "clockwork/clockworklaw43.QuorumCommits", spec := "quorumCommits", unfollowed := true, recurses := true, apart := false, narrowed := true }
def QuorumCommitsUptoSaid : Prop := quorumCommitsUptoRow.holds Try.pinned (OpenSpec.upto quorumCommitsSpec)

end Rows
end Go.Proofs.Ytpjpnooiofegoaa
