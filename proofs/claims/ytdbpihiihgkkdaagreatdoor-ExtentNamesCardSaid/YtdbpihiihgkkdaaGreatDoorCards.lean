/-
  DERIVED. GIVEN WITH THE SEED: THE CARDS: each row of YtdbpihiihgkkdaaGreatDoorRows.lean that lists a variable, with what it lists TIED to the program's text (the seventh form; the later family's looks); each row that meets fmt, with fmt's text TOLD by the authors' own Lean function (tested against real Go, not proved from fmt's source: count such statements apart). THE CARD IS WHAT COUNTS. Prove the row's statement (the work); the ties are given (YtdbpihiihgkkdaaGreatDoorTie.lean); close each card by the builder's one call (the guide's Derived/Test/ToyasCard.lean, 'card_holds'). Laid BY PROGRAM, IN A SANDBOX (cutbox-door.mjs). By AI agents, Wed Nov 11 2026. No macro, syntax, notation, axiom, sorry.
-/
import Derived.Test.YtdbpihiihgkkdaaGreatDoorRows
import GoSem.ClaimSeven
namespace Go.Proofs.YtdbpihiihgkkdaaGreatDoor
namespace Rows

/-- THE TIED CARD OF 'jettylaw21.ExtentNames'. -/
def extentNamesCard : Claim7 := { stood := { row := extentNamesRow, standIns := [], harness := (true, "3dfecc487b97c9d91e38cf9475c76b3a429fa04443332b2e9003afb0a1b05320"), looks := true }, kinds := [], alts := [], laidByText := true, laidKinds := [.data, .pinned], laidTests := true, laidLooks := .later }
def ExtentNamesCardSaid : Prop := Claim7.holds Tryz.pinned (.plain (OpenSpec.ofChange extentNamesSpec)) extentNamesCard

/-- THE SECOND FORM's CARD OF 'jettylaw21.ExtentNames'. -/
def extentNamesUptoCard : Claim7 := { stood := { row := extentNamesUptoRow, standIns := [], harness := (true, "3dfecc487b97c9d91e38cf9475c76b3a429fa04443332b2e9003afb0a1b05320"), looks := true }, kinds := [], alts := [], laidByText := true, laidKinds := [.data, .pinned], laidTests := true, laidLooks := .later }
def ExtentNamesUptoCardSaid : Prop := Claim7.holds Tryz.pinned (.plain (OpenSpec.upto extentNamesSpec)) extentNamesUptoCard
end Rows
end Go.Proofs.YtdbpihiihgkkdaaGreatDoor
