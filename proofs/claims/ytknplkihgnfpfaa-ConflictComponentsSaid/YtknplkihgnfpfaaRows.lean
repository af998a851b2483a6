/-
  No cell of these rows narrows 'for every input' (looked for: loops, veiled, ifaces, maps, wideKeys, modest, calm, conditions, laid).
  DERIVED. THE GIVEN ROWS OF THIS SEAT. 12 by the template 'for every input the law returns true; each argument reads behind the call as it read before'; 0 by the template 'total and deterministic' (their statements: YtknplkihgnfpfaaTotals.lean).
  GIVEN WITH THE SEED: the statements are not yours to turn. If you find one false, say at which input.
  Laid BY PROGRAM, IN A SANDBOX (cutbox-rows.mjs): the forced cells as the released guide's own fill.sh prints them over the translation c84243af535a4624… (all of the seat's roots in one cut). By AI agents, Wed Nov 11 2026. No macro, syntax, notation, axiom, sorry.
-/
import Derived.Test.YtknplkihgnfpfaaChecked
import GoSem.Claim
import GoSem.ClaimJoined
import GoSem.ClaimMapViews
import Derived.JoinedTies
import Derived.KernelRfl
namespace Go.Proofs.Ytknplkihgnfpfaa
/- THE CELL 'sum', in the pinned program and in every row, IS THE sha256 OF THE DUMP (.gsa) THAT YtknplkihgnfpfaaProg.lean LOADS. Nothing in Lean hashes anything: it is a label: what it is worth is what the hold of that sum in a sandbox is worth. -/
noncomputable def Try.pinned : Pinned := { name := "ytknplkihgnfpfaa", sum := "c84243af535a46241dedeb62022aa0b37b3048314c5d25a67496e82a0d088d6b", checked := Try.checked }
namespace Rows
def none {H : Type} : Left H := { results := [], args := [] }

/-- 'clockworklaw34.HeatOrder': WHATEVER THE INPUT: true; the input reads as it did. -/
def heatOrderSpec : ChangeSpec := { name := "heatOrder", fn := fun _ => fun
  | [d1, d2, d3] => { results := [.lit (.bool true)], args := [d1, d2, d3] }
  | _ => none }
def heatOrderRow : OpenClaim := { program := "ytknplkihgnfpfaa", sum := "c84243af535a46241dedeb62022aa0b37b3048314c5d25a67496e82a0d088d6b", func := "clockwork/clockworklaw34.HeatOrder", spec := "heatOrder", inPlace := ["internal/bytealg.abigen_runtime_cmpstring", "slices.overlaps[clockwork/api.Heat]"], unfollowed := true, recurses := true, apart := false }
def HeatOrderSaid : Prop := heatOrderRow.holds Try.pinned (OpenSpec.ofChange heatOrderSpec)

/-- ITS FALSE NEIGHBOUR: 'it returns false'. Refute it at one input. -/
def heatOrderWrong : ChangeSpec := { name := "heatOrder", fn := fun _ => fun
  | [d1, d2, d3] => { results := [.lit (.bool false)], args := [d1, d2, d3] }
  | _ => none }
def HeatOrderWrongFalsely : Prop := heatOrderRow.holds Try.pinned (OpenSpec.ofChange heatOrderWrong)

/-- 'clockworklaw34.HeatFades': WHATEVER THE INPUT: true; the input reads as it did. -/
def heatFadesSpec : ChangeSpec := { name := "heatFades", fn := fun _ => fun
  | [d1, d2] => { results := [.lit (.bool true)], args := [d1, d2] }
  | _ => none }
def heatFadesRow : OpenClaim := { program := "ytknplkihgnfpfaa", sum := "c84243af535a46241dedeb62022aa0b37b3048314c5d25a67496e82a0d088d6b", func := "clockwork/clockworklaw34.HeatFades", spec := "heatFades", inPlace := ["internal/bytealg.abigen_runtime_cmpstring", "slices.overlaps[clockwork/api.Heat]"], unfollowed := true, recurses := true, apart := false }
def HeatFadesSaid : Prop := heatFadesRow.holds Try.pinned (OpenSpec.ofChange heatFadesSpec)

/-- ITS FALSE NEIGHBOUR: 'it returns false'. Refute it at one input. -/
def heatFadesWrong : ChangeSpec := { name := "heatFades", fn := fun _ => fun
  | [d1, d2] => { results := [.lit (.bool false)], args := [d1, d2] }
  | _ => none }
def HeatFadesWrongFalsely : Prop := heatFadesRow.holds Try.pinned (OpenSpec.ofChange heatFadesWrong)

/-- 'clockworklaw34.HeatHot': WHATEVER THE INPUT: true; the input reads as it did. -/
def heatHotSpec : ChangeSpec := { name := "heatHot", fn := fun _ => fun
  | [d1, d2, d3] => { results := [.lit (.bool true)], args := [d1, d2, d3] }
  | _ => none }
def heatHotRow : OpenClaim := { program := "ytknplkihgnfpfaa", sum := "c84243af535a46241dedeb62022aa0b37b3048314c5d25a67496e82a0d088d6b", func := "clockwork/clockworklaw34.HeatHot", spec := "heatHot", inPlace := ["internal/bytealg.abigen_runtime_cmpstring", "slices.overlaps[clockwork/api.Heat]"], unfollowed := true, recurses := true, apart := false }
def HeatHotSaid : Prop := heatHotRow.holds Try.pinned (OpenSpec.ofChange heatHotSpec)

/-- ITS FALSE NEIGHBOUR: 'it returns false'. Refute it at one input. -/
def heatHotWrong : ChangeSpec := { name := "heatHot", fn := fun _ => fun
  | [d1, d2, d3] => { results := [.lit (.bool false)], args := [d1, d2, d3] }
  | _ => none }
def HeatHotWrongFalsely : Prop := heatHotRow.holds Try.pinned (OpenSpec.ofChange heatHotWrong)

/-- 'clockworklaw34.HeatBounds': WHATEVER THE INPUT: true; the input reads as it did. -/
def heatBoundsSpec : ChangeSpec := { name := "heatBounds", fn := fun _ => fun
  | [d1, d2, d3] => { results := [.lit (.bool true)], args := [d1, d2, d3] }
  | _ => none }
def heatBoundsRow : OpenClaim := { program := "ytknplkihgnfpfaa", sum := "c84243af535a46241dedeb62022aa0b37b3048314c5d25a67496e82a0d088d6b", func := "clockwork/clockworklaw34.HeatBounds", spec := "heatBounds", inPlace := ["internal/bytealg.abigen_runtime_cmpstring", "slices.overlaps[clockwork/api.Heat]"], unfollowed := true, recurses := true, apart := false }
def HeatBoundsSaid : Prop := heatBoundsRow.holds Try.pinned (OpenSpec.ofChange heatBoundsSpec)

/-- ITS FALSE NEIGHBOUR: 'it returns false'. Refute it at one input. -/
def heatBoundsWrong : ChangeSpec := { name := "heatBounds", fn := fun _ => fun
  | [d1, d2, d3] => { results := [.lit (.bool false)], args := [d1, d2, d3] }
  | _ => none }
def HeatBoundsWrongFalsely : Prop := heatBoundsRow.holds Try.pinned (OpenSpec.ofChange heatBoundsWrong)

/-- 'clockworklaw34.HeatCounts': WHATEVER THE INPUT: true; the input reads as it did. -/
def heatCountsSpec : ChangeSpec := { name := "heatCounts", fn := fun _ => fun
  | [d1, d2, d3] => { results := [.lit (.bool true)], args := [d1, d2, d3] }
  | _ => none }
def heatCountsRow : OpenClaim := { program := "ytknplkihgnfpfaa", sum := "c84243af535a46241dedeb62022aa0b37b3048314c5d25a67496e82a0d088d6b", func := "clockwork/clockworklaw34.HeatCounts", spec := "heatCounts", inPlace := ["internal/bytealg.abigen_runtime_cmpstring", "slices.overlaps[clockwork/api.Heat]"], unfollowed := true, recurses := true, apart := false }
def HeatCountsSaid : Prop := heatCountsRow.holds Try.pinned (OpenSpec.ofChange heatCountsSpec)

/-- ITS FALSE NEIGHBOUR: 'it returns false'. Refute it at one input. -/
def heatCountsWrong : ChangeSpec := { name := "heatCounts", fn := fun _ => fun
  | [d1, d2, d3] => { results := [.lit (.bool false)], args := [d1, d2, d3] }
  | _ => none }
def HeatCountsWrongFalsely : Prop := heatCountsRow.holds Try.pinned (OpenSpec.ofChange heatCountsWrong)

/-- 'clockworklaw25.ConflictOrders': WHATEVER THE INPUT: true; the input reads as it did. -/
def conflictOrdersSpec : ChangeSpec := { name := "conflictOrders", fn := fun _ => fun
  | [d1, d2] => { results := [.lit (.bool true)], args := [d1, d2] }
  | _ => none }
def conflictOrdersRow : OpenClaim := { program := "ytknplkihgnfpfaa", sum := "c84243af535a46241dedeb62022aa0b37b3048314c5d25a67496e82a0d088d6b", func := "clockwork/clockworklaw25.ConflictOrders", spec := "conflictOrders", unfollowed := true, recurses := true, apart := false }
def ConflictOrdersSaid : Prop := conflictOrdersRow.holds Try.pinned (OpenSpec.ofChange conflictOrdersSpec)

/-- ITS FALSE NEIGHBOUR: 'it returns false'. Refute it at one input. -/
def conflictOrdersWrong : ChangeSpec := { name := "conflictOrders", fn := fun _ => fun
  | [d1, d2] => { results := [.lit (.bool false)], args := [d1, d2] }
  | _ => none }
def ConflictOrdersWrongFalsely : Prop := conflictOrdersRow.holds Try.pinned (OpenSpec.ofChange conflictOrdersWrong)

/-- 'clockworklaw25.ConflictEdges': WHATEVER THE INPUT: true; the input reads as it did. -/
def conflictEdgesSpec : ChangeSpec := { name := "conflictEdges", fn := fun _ => fun
  | [d] => { results := [.lit (.bool true)], args := [d] }
  | _ => none }
def conflictEdgesRow : OpenClaim := { program := "ytknplkihgnfpfaa", sum := "c84243af535a46241dedeb62022aa0b37b3048314c5d25a67496e82a0d088d6b", func := "clockwork/clockworklaw25.ConflictEdges", spec := "conflictEdges", unfollowed := true, recurses := true, apart := false }
def ConflictEdgesSaid : Prop := conflictEdgesRow.holds Try.pinned (OpenSpec.ofChange conflictEdgesSpec)

/-- ITS FALSE NEIGHBOUR: 'it returns false'. Refute it at one input. -/
def conflictEdgesWrong : ChangeSpec := { name := "conflictEdges", fn := fun _ => fun
  | [d] => { results := [.lit (.bool false)], args := [d] }
  | _ => none }
def ConflictEdgesWrongFalsely : Prop := conflictEdgesRow.holds Try.pinned (OpenSpec.ofChange conflictEdgesWrong)

/-- 'clockworklaw25.ConflictLevels': WHATEVER THE INPUT: true; the input reads as it did. -/
def conflictLevelsSpec : ChangeSpec := { name := "conflictLevels", fn := fun _ => fun
  | [d] => { results := [.lit (.bool true)], args := [d] }
  | _ => none }
def conflictLevelsRow : OpenClaim := { program := "ytknplkihgnfpfaa", sum := "c84243af535a46241dedeb62022aa0b37b3048314c5d25a67496e82a0d088d6b", func := "clockwork/clockworklaw25.ConflictLevels", spec := "conflictLevels", unfollowed := true, recurses := true, apart := false }
def ConflictLevelsSaid : Prop := conflictLevelsRow.holds Try.pinned (OpenSpec.ofChange conflictLevelsSpec)

/-- ITS FALSE NEIGHBOUR: 'it returns false'. Refute it at one input. -/
def conflictLevelsWrong : ChangeSpec := { name := "conflictLevels", fn := fun _ => fun
  | [d] => { results := [.lit (.bool false)], args := [d] }
  | _ => none }
def ConflictLevelsWrongFalsely : Prop := conflictLevelsRow.holds Try.pinned (OpenSpec.ofChange conflictLevelsWrong)

/-- 'clockworklaw25.ConflictComponents': WHATEVER THE INPUT: true; the input reads as it did. -/
def conflictComponentsSpec : ChangeSpec := { name := "conflictComponents", fn := fun _ => fun
  | [d] => { results := [.lit (.bool true)], args := [d] }
  | _ => none }
def conflictComponentsRow : OpenClaim := { program := "ytknplkihgnfpfaa", sum := "c84243af535a46241dedeb62022aa0b37b3048314c5d25a67496e82a0d088d6b", func := "clockwork/clockworklaw25.ConflictComponents", spec := "conflictComponents", unfollowed := true, recurses := true, apart := false }
def ConflictComponentsSaid : Prop := conflictComponentsRow.holds Try.pinned (OpenSpec.ofChange conflictComponentsSpec)

/-- ITS FALSE NEIGHBOUR: 'it returns false'. Refute it at one input. -/
def conflictComponentsWrong : ChangeSpec := { name := "conflictComponents", fn := fun _ => fun
  | [d] => { results := [.lit (.bool false)], args := [d] }
  | _ => none }
def ConflictComponentsWrongFalsely : Prop := conflictComponentsRow.holds Try.pinned (OpenSpec.ofChange conflictComponentsWrong)

/-- 'clockworklaw25.ConflictBefore': WHATEVER THE INPUT: true; the input reads as it did. -/
def conflictBeforeSpec : ChangeSpec := { name := "conflictBefore", fn := fun _ => fun
  | [d1, d2] => { results := [.lit (.bool true)], args := [d1, d2] }
  | _ => none }
def conflictBeforeRow : OpenClaim := { program := "ytknplkihgnfpfaa", sum := "c84243af535a46241dedeb62022aa0b37b3048314c5d25a67496e82a0d088d6b", func := "clockwork/clockworklaw25.ConflictBefore", spec := "conflictBefore", unfollowed := true, recurses := true, apart := false }
def ConflictBeforeSaid : Prop := conflictBeforeRow.holds Try.pinned (OpenSpec.ofChange conflictBeforeSpec)

/-- ITS FALSE NEIGHBOUR: 'it returns false'. Refute it at one input. -/
def conflictBeforeWrong : ChangeSpec := { name := "conflictBefore", fn := fun _ => fun
  | [d1, d2] => { results := [.lit (.bool false)], args := [d1, d2] }
  | _ => none }
def ConflictBeforeWrongFalsely : Prop := conflictBeforeRow.holds Try.pinned (OpenSpec.ofChange conflictBeforeWrong)

/-- 'clockworklaw25.ConflictSorted': WHATEVER THE INPUT: true; the input reads as it did. -/
def conflictSortedSpec : ChangeSpec := { name := "conflictSorted", fn := fun _ => fun
  | [d] => { results := [.lit (.bool true)], args := [d] }
  | _ => none }
def conflictSortedRow : OpenClaim := { program := "ytknplkihgnfpfaa", sum := "c84243af535a46241dedeb62022aa0b37b3048314c5d25a67496e82a0d088d6b", func := "clockwork/clockworklaw25.ConflictSorted", spec := "conflictSorted", unfollowed := true, recurses := true, apart := false }
def ConflictSortedSaid : Prop := conflictSortedRow.holds Try.pinned (OpenSpec.ofChange conflictSortedSpec)

/-- ITS FALSE NEIGHBOUR: 'it returns false'. Refute it at one input. -/
def conflictSortedWrong : ChangeSpec := { name := "conflictSorted", fn := fun _ => fun
  | [d] => { results := [.lit (.bool false)], args := [d] }
  | _ => none }
def ConflictSortedWrongFalsely : Prop := conflictSortedRow.holds Try.pinned (OpenSpec.ofChange conflictSortedWrong)

/-- 'clockworklaw25.ConflictApart': WHATEVER THE INPUT: true; the input reads as it did. -/
def conflictApartSpec : ChangeSpec := { name := "conflictApart", fn := fun _ => fun
  | [d] => { results := [.lit (.bool true)], args := [d] }
  | _ => none }
def conflictApartRow : OpenClaim := { program := "ytknplkihgnfpfaa", sum := "c84243af535a46241dedeb62022aa0b37b3048314c5d25a67496e82a0d088d6b", func := "clockwork/clockworklaw25.ConflictApart", spec := "conflictApart", unfollowed := true, recurses := true, apart := false }
def ConflictApartSaid : Prop := conflictApartRow.holds Try.pinned (OpenSpec.ofChange conflictApartSpec)

/-- ITS FALSE NEIGHBOUR: 'it returns false'. Refute it at one input. -/
def conflictApartWrong : ChangeSpec := { name := "conflictApart", fn := fun _ => fun
  | [d] => { results := [.lit (.bool false)], args := [d] }
  | _ => none }
def ConflictApartWrongFalsely : Prop := conflictApartRow.holds Try.pinned (OpenSpec.ofChange conflictApartWrong)

/- THE SECOND FORM. 'bulk': how many values and letters a reading holds, each counted each time it is reached (what is shared counts as often as it is met; a slice's spare places count too). A statement '..UptoSaid' is the law's where the arguments, and the package variables that the reading takes, are together of bulk at most 1048576: NARROWER than '..Said'. Prove '..Said' where nothing that the law and all that it calls make is longer than what came in: it says more and counts as full. Else prove '..UptoSaid'. A law counts once. -/
mutual
def uptoBulk {H : Type} : DataW H → Nat
  | .lit (.string bytes) => bytes.length + 1
  | .lit _ => 1
  | .nil => 1
  | .ptr d => uptoBulk d + 1
  | .slice elems spare => uptoBulkAll elems + uptoBulkAll spare + 1
  | .agg parts => uptoBulkAll parts + 1
  | .iface _ d => uptoBulk d + 1
  | .map entries => uptoBulkEntries entries + 1
  | .held _ => 1
def uptoBulkAll {H : Type} : List (DataW H) → Nat
  | [] => 0
  | d :: r => uptoBulk d + uptoBulkAll r
def uptoBulkEntries {H : Type} : List (Lit × DataW H) → Nat
  | [] => 0
  | x :: r => uptoBulkEntry x + uptoBulkEntries r
def uptoBulkEntry {H : Type} : Lit × DataW H → Nat
  | (.string bytes, d) => bytes.length + uptoBulk d + 1
  | (_, d) => uptoBulk d + 1
 end
def uptoSmall : (H : Type) → List (DataW H) → Bool := fun _ ds => decide (uptoBulkAll ds ≤ 1048576)
def OpenSpec.upto (s : _root_.Go.ChangeSpec) : _root_.Go.OpenSpec := { _root_.Go.OpenSpec.ofChange s with cond := some uptoSmall }

/-- 'clockworklaw34.HeatOrder', WHERE WHAT IT READS IS OF BULK AT MOST 1048576: true; the input reads as it did. -/
def heatOrderUptoRow : OpenClaim := { program := "ytknplkihgnfpfaa", sum := "c84243af535a46241dedeb62022aa0b37b3048314c5d25a67496e82a0d088d6b", func := "clockwork/clockworklaw34.HeatOrder", spec := "heatOrder", inPlace := ["internal/bytealg.abigen_runtime_cmpstring", "slices.overlaps[clockwork/api.Heat]"], unfollowed := true, recurses := true, apart := false, narrowed := true }
def HeatOrderUptoSaid : Prop := heatOrderUptoRow.holds Try.pinned (OpenSpec.upto heatOrderSpec)

/-- 'clockworklaw34.HeatFades', WHERE WHAT IT READS IS OF BULK AT MOST 1048576: true; the input reads as it did. -/
def heatFadesUptoRow : OpenClaim := { program := "ytknplkihgnfpfaa", sum := "c84243af535a46241dedeb62022aa0b37b3048314c5d25a67496e82a0d088d6b", func := "clockwork/clockworklaw34.HeatFades", spec := "heatFades", inPlace := ["internal/bytealg.abigen_runtime_cmpstring", "slices.overlaps[clockwork/api.Heat]"], unfollowed := true, recurses := true, apart := false, narrowed := true }
def HeatFadesUptoSaid : Prop := heatFadesUptoRow.holds Try.pinned (OpenSpec.upto heatFadesSpec)

/-- 'clockworklaw34.HeatHot', WHERE WHAT IT READS IS OF BULK AT MOST 1048576: true; the input reads as it did. -/
def heatHotUptoRow : OpenClaim := { program := "ytknplkihgnfpfaa", sum := "c84243af535a46241dedeb62022aa0b37b3048314c5d25a67496e82a0d088d6b", func := "clockwork/clockworklaw34.HeatHot", spec := "heatHot", inPlace := ["internal/bytealg.abigen_runtime_cmpstring", "slices.overlaps[clockwork/api.Heat]"], unfollowed := true, recurses := true, apart := false, narrowed := true }
def HeatHotUptoSaid : Prop := heatHotUptoRow.holds Try.pinned (OpenSpec.upto heatHotSpec)

/-- 'clockworklaw34.HeatBounds', WHERE WHAT IT READS IS OF BULK AT MOST 1048576: true; the input reads as it did. -/
def heatBoundsUptoRow : OpenClaim := { program := "ytknplkihgnfpfaa", sum := "c84243af535a46241dedeb62022aa0b37b3048314c5d25a67496e82a0d088d6b", func := "clockwork/clockworklaw34.HeatBounds", spec := "heatBounds", inPlace := ["internal/bytealg.abigen_runtime_cmpstring", "slices.overlaps[clockwork/api.Heat]"], unfollowed := true, recurses := true, apart := false, narrowed := true }
def HeatBoundsUptoSaid : Prop := heatBoundsUptoRow.holds Try.pinned (OpenSpec.upto heatBoundsSpec)

/-- 'clockworklaw34.HeatCounts', WHERE WHAT IT READS IS OF BULK AT MOST 1048576: true; the input reads as it did. -/
def heatCountsUptoRow : OpenClaim := { program := "ytknplkihgnfpfaa", sum := "c84243af535a46241dedeb62022aa0b37b3048314c5d25a67496e82a0d088d6b", func := "clockwork/clockworklaw34.HeatCounts", spec := "heatCounts", inPlace := ["internal/bytealg.abigen_runtime_cmpstring", "slices.overlaps[clockwork/api.Heat]"], unfollowed := true, recurses := true, apart := false, narrowed := true }
def HeatCountsUptoSaid : Prop := heatCountsUptoRow.holds Try.pinned (OpenSpec.upto heatCountsSpec)

/-- 'clockworklaw25.ConflictOrders', WHERE WHAT IT READS IS OF BULK AT MOST 1048576: true; the input reads as it did. -/
def conflictOrdersUptoRow : OpenClaim := { program := "ytknplkihgnfpfaa", sum := "c84243af535a46241dedeb62022aa0b37b3048314c5d25a67496e82a0d088d6b", func := "clockwork/clockworklaw25.ConflictOrders", spec := "conflictOrders", unfollowed := true, recurses := true, apart := false, narrowed := true }
def ConflictOrdersUptoSaid : Prop := conflictOrdersUptoRow.holds Try.pinned (OpenSpec.upto conflictOrdersSpec)

/-- 'clockworklaw25.ConflictEdges', WHERE WHAT IT READS IS OF BULK AT MOST 1048576: true; the input reads as it did. -/
def conflictEdgesUptoRow : OpenClaim := { program := "ytknplkihgnfpfaa", sum := "c84243af535a46241dedeb62022aa0b37b3048314c5d25a67496e82a0d088d6b", func := "clockwork/clockworklaw25.ConflictEdges", spec := "conflictEdges", unfollowed := true, recurses := true, apart := false, narrowed := true }
def ConflictEdgesUptoSaid : Prop := conflictEdgesUptoRow.holds Try.pinned (OpenSpec.upto conflictEdgesSpec)

/-- 'clockworklaw25.ConflictLevels', WHERE WHAT IT READS IS OF BULK AT MOST 1048576: true; the input reads as it did. -/
def conflictLevelsUptoRow : OpenClaim := { program := "ytknplkihgnfpfaa", sum := "c84243af535a46241dedeb62022aa0b37b3048314c5d25a67496e82a0d088d6b", func := "clockwork/clockworklaw25.ConflictLevels", spec := "conflictLevels", unfollowed := true, recurses := true, apart := false, narrowed := true }
def ConflictLevelsUptoSaid : Prop := conflictLevelsUptoRow.holds Try.pinned (OpenSpec.upto conflictLevelsSpec)

/-- 'clockworklaw25.ConflictComponents', WHERE WHAT IT READS IS OF BULK AT MOST 1048576: true; the input reads as it did. -/
def conflictComponentsUptoRow : OpenClaim := { program := "ytknplkihgnfpfaa", sum := "c84243af535a46241dedeb62022aa0b37b3048314c5d25a67496e82a0d088d6b", func := "clockwork/clockworklaw25.ConflictComponents", spec := "conflictComponents", unfollowed := true, recurses := true, apart := false, narrowed := true }
def ConflictComponentsUptoSaid : Prop := conflictComponentsUptoRow.holds Try.pinned (OpenSpec.upto conflictComponentsSpec)

/-- 'clockworklaw25.ConflictBefore', WHERE WHAT IT READS IS OF BULK AT MOST 1048576: true; the input reads as it did. -/
def conflictBeforeUptoRow : OpenClaim := { program := "ytknplkihgnfpfaa", sum := "c84243af535a46241dedeb62022aa0b37b3048314c5d25a67496e82a0d088d6b", func := "clockwork/clockworklaw25.ConflictBefore", spec := "conflictBefore", unfollowed := true, recurses := true, apart := false, narrowed := true }
def ConflictBeforeUptoSaid : Prop := conflictBeforeUptoRow.holds Try.pinned (OpenSpec.upto conflictBeforeSpec)

/-- 'clockworklaw25.ConflictSorted', WHERE WHAT IT READS IS OF BULK AT MOST 1048576: true; the input reads as it did. -/
def conflictSortedUptoRow : OpenClaim := { program := "ytknplkihgnfpfaa", sum := "c84243af535a46241dedeb62022aa0b37b3048314c5d25a67496e82a0d088d6b", func := "clockwork/clockworklaw25.ConflictSorted", spec := "conflictSorted", unfollowed := true, recurses := true, apart := false, narrowed := true }
def ConflictSortedUptoSaid : Prop := conflictSortedUptoRow.holds Try.pinned (OpenSpec.upto conflictSortedSpec)

/-- 'clockworklaw25.ConflictApart', WHERE WHAT IT READS IS OF BULK AT MOST 1048576: true; the input reads as it did. -/
def conflictApartUptoRow : OpenClaim := { program := "ytknplkihgnfpfaa", sum := "c84243af535a46241dedeb62022aa0b37b3048314c5d25a67496e82a0d088d6b", func := "clockwork/clockworklaw25.ConflictApart", spec := "conflictApart", unfollowed := true, recurses := true, apart := false, narrowed := true }
def ConflictApartUptoSaid : Prop := conflictApartUptoRow.holds Try.pinned (OpenSpec.upto conflictApartSpec)

end Rows
end Go.Proofs.Ytknplkihgnfpfaa
