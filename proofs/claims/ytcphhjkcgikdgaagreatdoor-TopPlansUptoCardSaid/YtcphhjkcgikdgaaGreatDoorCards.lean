/-
  DERIVED. GIVEN WITH THE SEED: THE CARDS: each row of YtcphhjkcgikdgaaGreatDoorRows.lean that lists a variable, with what it lists TIED to the program's text (the seventh form; the later family's looks); each row that meets fmt, with fmt's text TOLD by the authors' own Lean function (tested against real Go, not proved from fmt's source: count such statements apart). THE CARD IS WHAT COUNTS. Prove the row's statement (the work); the ties are given (YtcphhjkcgikdgaaGreatDoorTie.lean); close each card by the builder's one call (the guide's Derived/Test/ToyasCard.lean, 'card_holds'). Laid BY PROGRAM, IN A SANDBOX (cutbox-door.mjs). By AI agents, Wed Nov 11 2026. No macro, syntax, notation, axiom, sorry.
-/
import Derived.Test.YtcphhjkcgikdgaaGreatDoorRows
import GoSem.ClaimSeven
namespace Go.Proofs.YtcphhjkcgikdgaaGreatDoor
namespace Rows

/-- THE TIED CARD OF 'clockworktop.TopEngines'. -/
def topEnginesCard : Claim7 := { stood := { row := topEnginesRow, standIns := [], harness := (true, "ca8a3d9f6ac9aa39f67822920450c43717bdd28074d57de3722b05ac035bd604"), looks := true }, kinds := [], alts := [], laidByText := true, laidKinds := [.data, .data, .data], laidTests := true, laidLooks := .later }
def TopEnginesCardSaid : Prop := Claim7.holds Tryz.pinned (.plain (OpenSpec.ofChange topEnginesSpec)) topEnginesCard

/-- THE TIED CARD OF 'clockworktop.TopPlans'. -/
def topPlansCard : Claim7 := { stood := { row := topPlansRow, standIns := [], harness := (true, "ca8a3d9f6ac9aa39f67822920450c43717bdd28074d57de3722b05ac035bd604"), looks := true }, kinds := [], alts := [], laidByText := true, laidKinds := [.data, .data, .data], laidTests := true, laidLooks := .later }
def TopPlansCardSaid : Prop := Claim7.holds Tryz.pinned (.plain (OpenSpec.ofChange topPlansSpec)) topPlansCard

/-- THE SECOND FORM's CARD OF 'clockworktop.TopEngines'. -/
def topEnginesUptoCard : Claim7 := { stood := { row := topEnginesUptoRow, standIns := [], harness := (true, "ca8a3d9f6ac9aa39f67822920450c43717bdd28074d57de3722b05ac035bd604"), looks := true }, kinds := [], alts := [], laidByText := true, laidKinds := [.data, .data, .data], laidTests := true, laidLooks := .later }
def TopEnginesUptoCardSaid : Prop := Claim7.holds Tryz.pinned (.plain (OpenSpec.upto topEnginesSpec)) topEnginesUptoCard

/-- THE SECOND FORM's CARD OF 'clockworktop.TopPlans'. -/
def topPlansUptoCard : Claim7 := { stood := { row := topPlansUptoRow, standIns := [], harness := (true, "ca8a3d9f6ac9aa39f67822920450c43717bdd28074d57de3722b05ac035bd604"), looks := true }, kinds := [], alts := [], laidByText := true, laidKinds := [.data, .data, .data], laidTests := true, laidLooks := .later }
def TopPlansUptoCardSaid : Prop := Claim7.holds Tryz.pinned (.plain (OpenSpec.upto topPlansSpec)) topPlansUptoCard
end Rows
end Go.Proofs.YtcphhjkcgikdgaaGreatDoor
