/-
  No cell of these rows narrows 'for every input' (looked for: loops, veiled, ifaces, maps, wideKeys, modest, calm, conditions, laid).
  DERIVED. THE GIVEN ROWS OF THIS SEAT. 8 by the template 'for every input the law returns true; each argument reads behind the call as it read before'; 0 by the template 'total and deterministic' (their statements: YtkpadkncediliaaTotals.lean).
  GIVEN WITH THE SEED: the statements are not yours to turn. If you find one false, say at which input.
  Laid BY PROGRAM, IN A SANDBOX (cutbox-rows.mjs): the forced cells as the released guide's own fill.sh prints them over the translation fc5e0a4fa6379169… (all of the seat's roots in one cut). By AI agents, Wed Nov 11 2026. No macro, syntax, notation, axiom, sorry.
-/
import Derived.Test.YtkpadkncediliaaChecked
import GoSem.Claim
import GoSem.ClaimJoined
import GoSem.ClaimMapViews
import Derived.JoinedTies
import Derived.KernelRfl
namespace Go.Proofs.Ytkpadkncediliaa
/- THE CELL 'sum', in the pinned program and in every row, IS THE sha256 OF THE DUMP (.gsa) THAT YtkpadkncediliaaProg.lean LOADS. Nothing in Lean hashes anything: it is a label: what it is worth is what the hold of that sum in a sandbox is worth. -/
noncomputable def Try.pinned : Pinned := { name := "ytkpadkncediliaa", sum := "fc5e0a4fa6379169bfc9c8fc8c352ea8d6659e79ec22c3074729da6556686de9", checked := Try.checked }
namespace Rows
def none {H : Type} : Left H := { results := [], args := [] }

/-- 'clockworklaw23.LocktableRequests': WHATEVER THE INPUT: true; the input reads as it did. -/
def locktableRequestsSpec : ChangeSpec := { name := "locktableRequests", fn := fun _ => fun
  | [d1, d2, d3] => { results := [.lit (.bool true)], args := [d1, d2, d3] }
  | _ => none }
def locktableRequestsRow : OpenClaim := { program := "ytkpadkncediliaa", sum := "fc5e0a4fa6379169bfc9c8fc8c352ea8d6659e79ec22c3074729da6556686de9", func := "clockwork/clockworklaw23.LocktableRequests", spec := "locktableRequests", inPlace := ["slices.overlaps[clockwork/api.LockQueue]"], unfollowed := true, recurses := true, apart := false }
def LocktableRequestsSaid : Prop := locktableRequestsRow.holds Try.pinned (OpenSpec.ofChange locktableRequestsSpec)

/-- ITS FALSE NEIGHBOUR: 'it returns false'. Refute it at one input. -/
def locktableRequestsWrong : ChangeSpec := { name := "locktableRequests", fn := fun _ => fun
  | [d1, d2, d3] => { results := [.lit (.bool false)], args := [d1, d2, d3] }
  | _ => none }
def LocktableRequestsWrongFalsely : Prop := locktableRequestsRow.holds Try.pinned (OpenSpec.ofChange locktableRequestsWrong)

/-- 'clockworklaw23.LocktableReads': WHATEVER THE INPUT: true; the input reads as it did. -/
def locktableReadsSpec : ChangeSpec := { name := "locktableReads", fn := fun _ => fun
  | [d1, d2] => { results := [.lit (.bool true)], args := [d1, d2] }
  | _ => none }
def locktableReadsRow : OpenClaim := { program := "ytkpadkncediliaa", sum := "fc5e0a4fa6379169bfc9c8fc8c352ea8d6659e79ec22c3074729da6556686de9", func := "clockwork/clockworklaw23.LocktableReads", spec := "locktableReads", inPlace := ["slices.overlaps[clockwork/api.LockQueue]"], unfollowed := true, recurses := true, apart := false }
def LocktableReadsSaid : Prop := locktableReadsRow.holds Try.pinned (OpenSpec.ofChange locktableReadsSpec)

/-- ITS FALSE NEIGHBOUR: 'it returns false'. Refute it at one input. -/
def locktableReadsWrong : ChangeSpec := { name := "locktableReads", fn := fun _ => fun
  | [d1, d2] => { results := [.lit (.bool false)], args := [d1, d2] }
  | _ => none }
def LocktableReadsWrongFalsely : Prop := locktableReadsRow.holds Try.pinned (OpenSpec.ofChange locktableReadsWrong)

/-- 'clockworklaw23.LocktableReleases': WHATEVER THE INPUT: true; the input reads as it did. -/
def locktableReleasesSpec : ChangeSpec := { name := "locktableReleases", fn := fun _ => fun
  | [d1, d2] => { results := [.lit (.bool true)], args := [d1, d2] }
  | _ => none }
def locktableReleasesRow : OpenClaim := { program := "ytkpadkncediliaa", sum := "fc5e0a4fa6379169bfc9c8fc8c352ea8d6659e79ec22c3074729da6556686de9", func := "clockwork/clockworklaw23.LocktableReleases", spec := "locktableReleases", inPlace := ["slices.overlaps[clockwork/api.LockQueue]"], unfollowed := true, recurses := true, apart := false }
def LocktableReleasesSaid : Prop := locktableReleasesRow.holds Try.pinned (OpenSpec.ofChange locktableReleasesSpec)

/-- ITS FALSE NEIGHBOUR: 'it returns false'. Refute it at one input. -/
def locktableReleasesWrong : ChangeSpec := { name := "locktableReleases", fn := fun _ => fun
  | [d1, d2] => { results := [.lit (.bool false)], args := [d1, d2] }
  | _ => none }
def LocktableReleasesWrongFalsely : Prop := locktableReleasesRow.holds Try.pinned (OpenSpec.ofChange locktableReleasesWrong)

/-- 'clockworklaw23.LocktableSafe': WHATEVER THE INPUT: true; the input reads as it did. -/
def locktableSafeSpec : ChangeSpec := { name := "locktableSafe", fn := fun _ => fun
  | [d1, d2] => { results := [.lit (.bool true)], args := [d1, d2] }
  | _ => none }
def locktableSafeRow : OpenClaim := { program := "ytkpadkncediliaa", sum := "fc5e0a4fa6379169bfc9c8fc8c352ea8d6659e79ec22c3074729da6556686de9", func := "clockwork/clockworklaw23.LocktableSafe", spec := "locktableSafe", inPlace := ["slices.overlaps[clockwork/api.LockQueue]"], unfollowed := true, recurses := true, apart := false }
def LocktableSafeSaid : Prop := locktableSafeRow.holds Try.pinned (OpenSpec.ofChange locktableSafeSpec)

/-- ITS FALSE NEIGHBOUR: 'it returns false'. Refute it at one input. -/
def locktableSafeWrong : ChangeSpec := { name := "locktableSafe", fn := fun _ => fun
  | [d1, d2] => { results := [.lit (.bool false)], args := [d1, d2] }
  | _ => none }
def LocktableSafeWrongFalsely : Prop := locktableSafeRow.holds Try.pinned (OpenSpec.ofChange locktableSafeWrong)

/-- 'clockworklaw23.LocktableOrder': WHATEVER THE INPUT: true; the input reads as it did. -/
def locktableOrderSpec : ChangeSpec := { name := "locktableOrder", fn := fun _ => fun
  | [d1, d2] => { results := [.lit (.bool true)], args := [d1, d2] }
  | _ => none }
def locktableOrderRow : OpenClaim := { program := "ytkpadkncediliaa", sum := "fc5e0a4fa6379169bfc9c8fc8c352ea8d6659e79ec22c3074729da6556686de9", func := "clockwork/clockworklaw23.LocktableOrder", spec := "locktableOrder", inPlace := ["slices.overlaps[clockwork/api.LockQueue]"], unfollowed := true, recurses := true, apart := false }
def LocktableOrderSaid : Prop := locktableOrderRow.holds Try.pinned (OpenSpec.ofChange locktableOrderSpec)

/-- ITS FALSE NEIGHBOUR: 'it returns false'. Refute it at one input. -/
def locktableOrderWrong : ChangeSpec := { name := "locktableOrder", fn := fun _ => fun
  | [d1, d2] => { results := [.lit (.bool false)], args := [d1, d2] }
  | _ => none }
def LocktableOrderWrongFalsely : Prop := locktableOrderRow.holds Try.pinned (OpenSpec.ofChange locktableOrderWrong)

/-- 'clockworklaw23.LocktableProgress': WHATEVER THE INPUT: true; the input reads as it did. -/
def locktableProgressSpec : ChangeSpec := { name := "locktableProgress", fn := fun _ => fun
  | [d] => { results := [.lit (.bool true)], args := [d] }
  | _ => none }
def locktableProgressRow : OpenClaim := { program := "ytkpadkncediliaa", sum := "fc5e0a4fa6379169bfc9c8fc8c352ea8d6659e79ec22c3074729da6556686de9", func := "clockwork/clockworklaw23.LocktableProgress", spec := "locktableProgress", inPlace := ["slices.overlaps[clockwork/api.LockQueue]"], unfollowed := true, recurses := true, apart := false }
def LocktableProgressSaid : Prop := locktableProgressRow.holds Try.pinned (OpenSpec.ofChange locktableProgressSpec)

/-- ITS FALSE NEIGHBOUR: 'it returns false'. Refute it at one input. -/
def locktableProgressWrong : ChangeSpec := { name := "locktableProgress", fn := fun _ => fun
  | [d] => { results := [.lit (.bool false)], args := [d] }
  | _ => none }
def LocktableProgressWrongFalsely : Prop := locktableProgressRow.holds Try.pinned (OpenSpec.ofChange locktableProgressWrong)

/-- 'clockworklaw23.LocktableStays': WHATEVER THE INPUT: true; the input reads as it did. -/
def locktableStaysSpec : ChangeSpec := { name := "locktableStays", fn := fun _ => fun
  | [d1, d2, d3] => { results := [.lit (.bool true)], args := [d1, d2, d3] }
  | _ => none }
def locktableStaysRow : OpenClaim := { program := "ytkpadkncediliaa", sum := "fc5e0a4fa6379169bfc9c8fc8c352ea8d6659e79ec22c3074729da6556686de9", func := "clockwork/clockworklaw23.LocktableStays", spec := "locktableStays", inPlace := ["slices.overlaps[clockwork/api.LockQueue]"], unfollowed := true, recurses := true, apart := false }
def LocktableStaysSaid : Prop := locktableStaysRow.holds Try.pinned (OpenSpec.ofChange locktableStaysSpec)

/-- ITS FALSE NEIGHBOUR: 'it returns false'. Refute it at one input. -/
def locktableStaysWrong : ChangeSpec := { name := "locktableStays", fn := fun _ => fun
  | [d1, d2, d3] => { results := [.lit (.bool false)], args := [d1, d2, d3] }
  | _ => none }
def LocktableStaysWrongFalsely : Prop := locktableStaysRow.holds Try.pinned (OpenSpec.ofChange locktableStaysWrong)

/-- 'clockworklaw23.LocktableUndoes': WHATEVER THE INPUT: true; the input reads as it did. -/
def locktableUndoesSpec : ChangeSpec := { name := "locktableUndoes", fn := fun _ => fun
  | [d1, d2, d3] => { results := [.lit (.bool true)], args := [d1, d2, d3] }
  | _ => none }
def locktableUndoesRow : OpenClaim := { program := "ytkpadkncediliaa", sum := "fc5e0a4fa6379169bfc9c8fc8c352ea8d6659e79ec22c3074729da6556686de9", func := "clockwork/clockworklaw23.LocktableUndoes", spec := "locktableUndoes", inPlace := ["slices.overlaps[clockwork/api.LockQueue]"], unfollowed := true, recurses := true, apart := false }
def LocktableUndoesSaid : Prop := locktableUndoesRow.holds Try.pinned (OpenSpec.ofChange locktableUndoesSpec)

/-- ITS FALSE NEIGHBOUR: 'it returns false'. Refute it at one input. -/
def locktableUndoesWrong : ChangeSpec := { name := "locktableUndoes", fn := fun _ => fun
  | [d1, d2, d3] => { results := [.lit (.bool false)], args := [d1, d2, d3] }
  | _ => none }
def LocktableUndoesWrongFalsely : Prop := locktableUndoesRow.holds Try.pinned (OpenSpec.ofChange locktableUndoesWrong)

/- THE SECOND FORM. 'bulk': how many values and letters a reading holds, each counted each time it is reached (what is shared counts as often as it is met; a slice's spare places count too). A statement '..UptoSaid' is the law's where the arguments, and the package variables that the reading takes, are together of bulk at most 1048576: NARROWER than '..Said'. Prove '..Said' where nothing that the law and all that it calls make is longer than what came in: it says more and counts as full. Else prove '..UptoSaid'. A law counts once. -/
mutual
def uptoBulk {H : Type} : DataW H → Nat
  | .lit (.string bytes) => bytes.length + 1
  | .lit _ => 1
  | .nil => 1
  | .ptr d => uptoBulk d + 1
  | .slice elems spare => uptoBulkAll elems + uptoBulkAll spare + 1
  | .agg parts => uptoBulkAll parts + 1
  | .iface _ d => uptoBulk d + 1
  | .map entries => uptoBulkEntries entries + 1
  | .held _ => 1
def uptoBulkAll {H : Type} : List (DataW H) → Nat
  | [] => 0
  | d :: r => uptoBulk d + uptoBulkAll r
def uptoBulkEntries {H : Type} : List (Lit × DataW H) → Nat
  | [] => 0
  | x :: r => uptoBulkEntry x + uptoBulkEntries r
def uptoBulkEntry {H : Type} : Lit × DataW H → Nat
  | (.string bytes, d) => bytes.length + uptoBulk d + 1
  | (_, d) => uptoBulk d + 1
 end
def uptoSmall : (H : Type) → List (DataW H) → Bool := fun _ ds => decide (uptoBulkAll ds ≤ 1048576)
def OpenSpec.upto (s : _root_.Go.ChangeSpec) : _root_.Go.OpenSpec := { _root_.Go.OpenSpec.ofChange s with cond := some uptoSmall }

/-- 'clockworklaw23.LocktableRequests', WHERE WHAT IT READS IS OF BULK AT MOST 1048576: true; the input reads as it did. -/
def locktableRequestsUptoRow : OpenClaim := { program := "ytkpadkncediliaa", sum := "fc5e0a4fa6379169bfc9c8fc8c352ea8d6659e79ec22c3074729da6556686de9", func := "clockwork/clockworklaw23.LocktableRequests", spec := "locktableRequests", inPlace := ["slices.overlaps[clockwork/api.LockQueue]"], unfollowed := true, recurses := true, apart := false, narrowed := true }
def LocktableRequestsUptoSaid : Prop := locktableRequestsUptoRow.holds Try.pinned (OpenSpec.upto locktableRequestsSpec)

/-- 'clockworklaw23.LocktableReads', WHERE WHAT IT READS IS OF BULK AT MOST 1048576: true; the input reads as it did. -/
def locktableReadsUptoRow : OpenClaim := { program := "ytkpadkncediliaa", sum := "fc5e0a4fa6379169bfc9c8fc8c352ea8d6659e79ec22c3074729da6556686de9", func := "clockwork/clockworklaw23.LocktableReads", spec := "locktableReads", inPlace := ["slices.overlaps[clockwork/api.LockQueue]"], unfollowed := true, recurses := true, apart := false, narrowed := true }
def LocktableReadsUptoSaid : Prop := locktableReadsUptoRow.holds Try.pinned (OpenSpec.upto locktableReadsSpec)

/-- 'clockworklaw23.LocktableReleases', WHERE WHAT IT READS IS OF BULK AT MOST 1048576: true; the input reads as it did. -/
def locktableReleasesUptoRow : OpenClaim := { program := "ytkpadkncediliaa", sum := "fc5e0a4fa6379169bfc9c8fc8c352ea8d6659e79ec22c3074729da6556686de9", func := "clockwork/clockworklaw23.LocktableReleases", spec := "locktableReleases", inPlace := ["slices.overlaps[clockwork/api.LockQueue]"], unfollowed := true, recurses := true, apart := false, narrowed := true }
def LocktableReleasesUptoSaid : Prop := locktableReleasesUptoRow.holds Try.pinned (OpenSpec.upto locktableReleasesSpec)

/-- 'clockworklaw23.LocktableSafe', WHERE WHAT IT READS IS OF BULK AT MOST 1048576: true; the input reads as it did. -/
def locktableSafeUptoRow : OpenClaim := { program := "ytkpadkncediliaa", sum := "fc5e0a4fa6379169bfc9c8fc8c352ea8d6659e79ec22c3074729da6556686de9", func := "clockwork/clockworklaw23.LocktableSafe", spec := "locktableSafe", inPlace := ["slices.overlaps[clockwork/api.LockQueue]"], unfollowed := true, recurses := true, apart := false, narrowed := true }
def LocktableSafeUptoSaid : Prop := locktableSafeUptoRow.holds Try.pinned (OpenSpec.upto locktableSafeSpec)

/-- 'clockworklaw23.LocktableOrder', WHERE WHAT IT READS IS OF BULK AT MOST 1048576: true; the input reads as it did. -/
def locktableOrderUptoRow : OpenClaim := { program := "ytkpadkncediliaa", sum := "fc5e0a4fa6379169bfc9c8fc8c352ea8d6659e79ec22c3074729da6556686de9", func := "clockwork/clockworklaw23.LocktableOrder", spec := "locktableOrder", inPlace := ["slices.overlaps[clockwork/api.LockQueue]"], unfollowed := true, recurses := true, apart := false, narrowed := true }
def LocktableOrderUptoSaid : Prop := locktableOrderUptoRow.holds Try.pinned (OpenSpec.upto locktableOrderSpec)

/-- 'clockworklaw23.LocktableProgress', WHERE WHAT IT READS IS OF BULK AT MOST 1048576: true; the input reads as it did. -/
def locktableProgressUptoRow : OpenClaim := { program := "ytkpadkncediliaa", sum := "fc5e0a4fa6379169bfc9c8fc8c352ea8d6659e79ec22c3074729da6556686de9", func := "clockwork/clockworklaw23.LocktableProgress", spec := "locktableProgress", inPlace := ["slices.overlaps[clockwork/api.LockQueue]"], unfollowed := true, recurses := true, apart := false, narrowed := true }
def LocktableProgressUptoSaid : Prop := locktableProgressUptoRow.holds Try.pinned (OpenSpec.upto locktableProgressSpec)

/-- 'clockworklaw23.LocktableStays', WHERE WHAT IT READS IS OF BULK AT MOST 1048576: true; the input reads as it did. -/
def locktableStaysUptoRow : OpenClaim := { program := "ytkpadkncediliaa", sum := "fc5e0a4fa6379169bfc9c8fc8c352ea8d6659e79ec22c3074729da6556686de9", func := "clockwork/clockworklaw23.LocktableStays", spec := "locktableStays", inPlace := ["slices.overlaps[clockwork/api.LockQueue]"], unfollowed := true, recurses := true, apart := false, narrowed := true }
def LocktableStaysUptoSaid : Prop := locktableStaysUptoRow.holds Try.pinned (OpenSpec.upto locktableStaysSpec)

/-- 'clockworklaw23.LocktableUndoes', WHERE WHAT IT READS IS OF BULK AT MOST 1048576: true; the input reads as it did. -/
def locktableUndoesUptoRow : OpenClaim := { program := "ytkpadkncediliaa", sum := "fc5e0a4fa6379169bfc9c8fc8c352ea8d6659e79ec22c3074729da6556686de9", func := "clockwork/clockworklaw23.LocktableUndoes", spec := "locktableUndoes", inPlace := ["slices.overlaps[clockwork/api.LockQueue]"], unfollowed := true, recurses := true, apart := false, narrowed := true }
def LocktableUndoesUptoSaid : Prop := locktableUndoesUptoRow.holds Try.pinned (OpenSpec.upto locktableUndoesSpec)

end Rows
end Go.Proofs.Ytkpadkncediliaa
