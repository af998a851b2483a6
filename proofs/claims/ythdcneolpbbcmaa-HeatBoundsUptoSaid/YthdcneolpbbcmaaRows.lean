/-
  No cell of these rows narrows 'for every input' (looked for: loops, veiled, ifaces, maps, wideKeys, modest, calm, conditions, laid).
  DERIVED. THE GIVEN ROWS OF THIS SEAT. 3 by the template 'for every input the law returns true; each argument reads behind the call as it read before'; 0 by the template 'total and deterministic' (their statements: YthdcneolpbbcmaaTotals.lean).
  GIVEN WITH THE SEED: the statements are not yours to turn. If you find one false, say at which input.
  Laid BY PROGRAM, IN A SANDBOX (cutbox-rows.mjs): the forced cells as the released guide's own fill.sh prints them over the translation 0920d0fecb329646… (all of the seat's roots in one cut). By AI agents, Wed Nov 11 2026. No macro, syntax, notation, axiom, sorry.
-/
import Derived.Test.YthdcneolpbbcmaaChecked
import GoSem.Claim
import GoSem.ClaimJoined
import GoSem.ClaimMapViews
import Derived.JoinedTies
import Derived.KernelRfl
namespace Go.Proofs.Ythdcneolpbbcmaa
/- THE CELL 'sum', in the pinned program and in every row, IS THE sha256 OF THE DUMP (.gsa) THAT YthdcneolpbbcmaaProg.lean LOADS. Nothing in Lean hashes anything: it is a label: what it is worth is what the hold of that sum in a sandbox is worth. -/
noncomputable def Try.pinned : Pinned := { name := "ythdcneolpbbcmaa", sum := "0920d0fecb32964683c31f5ce7faa09e111d90b7dae7a73e22f9679d0330e0ac", checked := Try.checked }
namespace Rows
def none {H : Type} : Left H := { results := [], args := [] }

/-- 'clockworklaw34.HeatOrder': WHATEVER THE INPUT: true; the input reads as it did. -/
def heatOrderSpec : ChangeSpec := { name := "heatOrder", fn := fun _ => fun
  | [d1, d2, d3] => { results := [.lit (.bool true)], args := [d1, d2, d3] }
  | _ => none }
def heatOrderRow : OpenClaim := { program := "ythdcneolpbbcmaa", sum := "0920d0fecb32964683c31f5ce7faa09e111d90b7dae7a73e22f9679d0330e0ac", func := "clockwork/clockworklaw34.HeatOrder", spec := "heatOrder", inPlace := ["internal/bytealg.abigen_runtime_cmpstring", "slices.overlaps[clockwork/api.Heat]"], unfollowed := true, recurses := true, apart := false }
def HeatOrderSaid : Prop := heatOrderRow.holds Try.pinned (OpenSpec.ofChange heatOrderSpec)

/-- ITS FALSE NEIGHBOUR: 'it returns false'. Refute it at one input. -/
def heatOrderWrong : ChangeSpec := { name := "heatOrder", fn := fun _ => fun
  | [d1, d2, d3] => { results := [.lit (.bool false)], args := [d1, d2, d3] }
  | _ => none }
def HeatOrderWrongFalsely : Prop := heatOrderRow.holds Try.pinned (OpenSpec.ofChange heatOrderWrong)

/-- 'clockworklaw34.HeatBounds': WHATEVER THE INPUT: true; the input reads as it did. -/
def heatBoundsSpec : ChangeSpec := { name := "heatBounds", fn := fun _ => fun
  | [d1, d2, d3] => { results := [.lit (.bool true)], args := [d1, d2, d3] }
  | _ => none }
def heatBoundsRow : OpenClaim := { program := "ythdcneolpbbcmaa", sum := "0920d0fecb32964683c31f5ce7faa09e111d90b7dae7a73e22f9679d0330e0ac", func := "clockwork/clockworklaw34.HeatBounds", spec := "heatBounds", inPlace := ["internal/bytealg.abigen_runtime_cmpstring", "slices.overlaps[clockwork/api.Heat]"], unfollowed := true, recurses := true, apart := false }
def HeatBoundsSaid : Prop := heatBoundsRow.holds Try.pinned (OpenSpec.ofChange heatBoundsSpec)

/-- ITS FALSE NEIGHBOUR: 'it returns false'. Refute it at one input. -/
def heatBoundsWrong : ChangeSpec := { name := "heatBounds", fn := fun _ => fun
  | [d1, d2, d3] => { results := [.lit (.bool false)], args := [d1, d2, d3] }
  | _ => none }
def HeatBoundsWrongFalsely : Prop := heatBoundsRow.holds Try.pinned (OpenSpec.ofChange heatBoundsWrong)

/-- 'clockworklaw34.HeatCounts': WHATEVER THE INPUT: true; the input reads as it did. -/
def heatCountsSpec : ChangeSpec := { name := "heatCounts", fn := fun _ => fun
  | [d1, d2, d3] => { results := [.lit (.bool true)], args := [d1, d2, d3] }
  | _ => none }
def heatCountsRow : OpenClaim := { program := "ythdcneolpbbcmaa", sum := "0920d0fecb32964683c31f5ce7faa09e111d90b7dae7a73e22f9679d0330e0ac", func := "clockwork/clockworklaw34.HeatCounts", spec := "heatCounts", inPlace := ["internal/bytealg.abigen_runtime_cmpstring", "slices.overlaps[clockwork/api.Heat]"], unfollowed := true, recurses := true, apart := false }
def HeatCountsSaid : Prop := heatCountsRow.holds Try.pinned (OpenSpec.ofChange heatCountsSpec)

/-- ITS FALSE NEIGHBOUR: 'it returns false'. Refute it at one input. -/
def heatCountsWrong : ChangeSpec := { name := "heatCounts", fn := fun _ => fun
  | [d1, d2, d3] => { results := [.lit (.bool false)], args := [d1, d2, d3] }
  | _ => none }
def HeatCountsWrongFalsely : Prop := heatCountsRow.holds Try.pinned (OpenSpec.ofChange heatCountsWrong)

/- THE SECOND FORM. 'bulk': how many values and letters a reading holds, each counted each time it is reached (what is shared counts as often as it is met; a slice's spare places count too). A statement '..UptoSaid' is the law's where the arguments, and the package variables that the reading takes, are together of bulk at most 1048576: NARROWER than '..Said'. Prove '..Said' where nothing that the law and all that it calls make is longer than what came in: it says more and counts as full. Else prove '..UptoSaid'. A law counts once. -/
mutual
def uptoBulk {H : Type} : DataW H → Nat
  | .lit (.string bytes) => bytes.length + 1
  | .lit _ => 1
  | .nil => 1
  | .ptr d => uptoBulk d + 1
  | .slice elems spare => uptoBulkAll elems + uptoBulkAll spare + 1
  | .agg parts => uptoBulkAll parts + 1
  | .iface _ d => uptoBulk d + 1
  | .map entries => uptoBulkEntries entries + 1
  | .held _ => 1
def uptoBulkAll {H : Type} : List (DataW H) → Nat
  | [] => 0
  | d :: r => uptoBulk d + uptoBulkAll r
def uptoBulkEntries {H : Type} : List (Lit × DataW H) → Nat
  | [] => 0
  | x :: r => uptoBulkEntry x + uptoBulkEntries r
def uptoBulkEntry {H : Type} : Lit × DataW H → Nat
  | (.string bytes, d) => bytes.length + uptoBulk d + 1
  | (_, d) => uptoBulk d + 1
 end
def uptoSmall : (H : Type) → List (DataW H) → Bool := fun _ ds => decide (uptoBulkAll ds ≤ 1048576)
def OpenSpec.upto (s : _root_.Go.ChangeSpec) : _root_.Go.OpenSpec := { _root_.Go.OpenSpec.ofChange s with cond := some uptoSmall }

/-- 'clockworklaw34.HeatOrder', WHERE WHAT IT READS IS OF BULK AT MOST 1048576: true; the input reads as it did. -/
def heatOrderUptoRow : OpenClaim := { program := "ythdcneolpbbcmaa", sum := "0920d0fecb32964683c31f5ce7faa09e111d90b7dae7a73e22f9679d0330e0ac", func := "clockwork/clockworklaw34.HeatOrder", spec := "heatOrder", inPlace := ["internal/bytealg.abigen_runtime_cmpstring", "slices.overlaps[clockwork/api.Heat]"], unfollowed := true, recurses := true, apart := false, narrowed := true }
def HeatOrderUptoSaid : Prop := heatOrderUptoRow.holds Try.pinned (OpenSpec.upto heatOrderSpec)

/-- 'clockworklaw34.HeatBounds', WHERE WHAT IT READS IS OF BULK AT MOST 1048576: true; the input reads as it did. -/
def heatBoundsUptoRow : OpenClaim := { program := "ythdcneolpbbcmaa", sum := "0920d0fecb32964683c31f5ce7faa09e111d90b7dae7a73e22f9679d0330e0ac", func := "clockwork/clockworklaw34.HeatBounds", spec := "heatBounds", inPlace := ["internal/bytealg.abigen_runtime_cmpstring", "slices.overlaps[clockwork/api.Heat]"], unfollowed := true, recurses := true, apart := false, narrowed := true }
def HeatBoundsUptoSaid : Prop := heatBoundsUptoRow.holds Try.pinned (OpenSpec.upto heatBoundsSpec)

/-- 'clockworklaw34.HeatCounts', WHERE WHAT IT READS IS OF BULK AT MOST 1048576: true; the input reads as it did. -/
def heatCountsUptoRow : OpenClaim := { program := "ythdcneolpbbcmaa", sum := "0920d0fecb32964683c31f5ce7faa09e111d90b7dae7a73e22f9679d0330e0ac", func := "clockwork/clockworklaw34.HeatCounts", spec := "heatCounts", inPlace := ["internal/bytealg.abigen_runtime_cmpstring", "slices.overlaps[clockwork/api.Heat]"], unfollowed := true, recurses := true, apart := false, narrowed := true }
def HeatCountsUptoSaid : Prop := heatCountsUptoRow.holds Try.pinned (OpenSpec.upto heatCountsSpec)

end Rows
end Go.Proofs.Ythdcneolpbbcmaa
