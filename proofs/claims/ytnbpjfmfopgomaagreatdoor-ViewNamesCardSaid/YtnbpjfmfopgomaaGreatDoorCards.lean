/-
  DERIVED. GIVEN WITH THE SEED: THE CARDS: each row of YtnbpjfmfopgomaaGreatDoorRows.lean that lists a variable, with what it lists TIED to the program's text (the seventh form; the later family's looks); each row that meets fmt, with fmt's text TOLD by the authors' own Lean function (tested against real Go, not proved from fmt's source: count such statements apart). THE CARD IS WHAT COUNTS. Prove the row's statement (the work); the ties are given (YtnbpjfmfopgomaaGreatDoorTie.lean); close each card by the builder's one call (the guide's Derived/Test/ToyasCard.lean, 'card_holds'). Laid BY PROGRAM, IN A SANDBOX (cutbox-door.mjs). By AI agents, Wed Nov 11 2026. No macro, syntax, notation, axiom, sorry.
-/
import Derived.Test.YtnbpjfmfopgomaaGreatDoorRows
import GoSem.ClaimSeven
namespace Go.Proofs.YtnbpjfmfopgomaaGreatDoor
namespace Rows

/-- THE TIED CARD OF 'jettylaw25.ObjsNames'. -/
def objsNamesCard : Claim7 := { stood := { row := objsNamesRow, standIns := [], harness := (true, "d87ab27547379f12a7562a4951c9e8c229651df60fcdb5e9ae72bafa7bdcce88"), looks := true }, kinds := [], alts := [], laidByText := true, laidKinds := [.data, .pinned], laidTests := true, laidLooks := .later }
def ObjsNamesCardSaid : Prop := Claim7.holds Tryz.pinned (.plain (OpenSpec.ofChange objsNamesSpec)) objsNamesCard

/-- THE TIED CARD OF 'jettylaw28.ViewNames'. -/
def viewNamesCard : Claim7 := { stood := { row := viewNamesRow, standIns := [], harness := (true, "d87ab27547379f12a7562a4951c9e8c229651df60fcdb5e9ae72bafa7bdcce88"), looks := true }, kinds := [], alts := [], laidByText := true, laidKinds := [.data, .data, .data], laidTests := true, laidLooks := .later }
def ViewNamesCardSaid : Prop := Claim7.holds Tryz.pinned (.plain (OpenSpec.ofChange viewNamesSpec)) viewNamesCard

/-- THE SECOND FORM's CARD OF 'jettylaw25.ObjsNames'. -/
def objsNamesUptoCard : Claim7 := { stood := { row := objsNamesUptoRow, standIns := [], harness := (true, "d87ab27547379f12a7562a4951c9e8c229651df60fcdb5e9ae72bafa7bdcce88"), looks := true }, kinds := [], alts := [], laidByText := true, laidKinds := [.data, .pinned], laidTests := true, laidLooks := .later }
def ObjsNamesUptoCardSaid : Prop := Claim7.holds Tryz.pinned (.plain (OpenSpec.upto objsNamesSpec)) objsNamesUptoCard

/-- THE SECOND FORM's CARD OF 'jettylaw28.ViewNames'. -/
def viewNamesUptoCard : Claim7 := { stood := { row := viewNamesUptoRow, standIns := [], harness := (true, "d87ab27547379f12a7562a4951c9e8c229651df60fcdb5e9ae72bafa7bdcce88"), looks := true }, kinds := [], alts := [], laidByText := true, laidKinds := [.data, .data, .data], laidTests := true, laidLooks := .later }
def ViewNamesUptoCardSaid : Prop := Claim7.holds Tryz.pinned (.plain (OpenSpec.upto viewNamesSpec)) viewNamesUptoCard
end Rows
end Go.Proofs.YtnbpjfmfopgomaaGreatDoor
