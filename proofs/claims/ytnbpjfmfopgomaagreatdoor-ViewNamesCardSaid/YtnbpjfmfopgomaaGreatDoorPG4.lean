/- ViewNames: closed facts of the card. No condition. -/
import Derived.Test.YtnbpjfmfopgomaaGreatDoorRows
import Derived.Test.YtnbpjfmfopgomaaGreatDoorCards
import Derived.Test.YtnbpjfmfopgomaaGreatDoorTie
import Derived.ProofKit
import Derived.OpenShut
import Derived.LaidMore
import Derived.Lay
import Derived.SevenTiedAt
import Derived.Stop.Joined
import Derived.JoinedOf
import Derived.KernelRfl
namespace Go.Proofs.YtnbpjfmfopgomaaGreatDoor.viewNames
open Go.ChangeShapes Go.WideShapes Go.ChangeAt Go.RowKit
theorem c1 : Rows.viewNamesRow.wfByText (OpenSpec.ofChange Rows.viewNamesSpec) = true := by kernel_rfl
theorem c2 : Tryz.prog.mainIs = some (Rows.viewNamesCard.stood.harness.1, Rows.viewNamesCard.stood.harness.2.toList) := by kernel_rfl
theorem c3 : true = Tryz.prog.looks [] := by kernel_rfl
theorem c4 : false = Rows.viewNamesRow.goesBy Tryz.prog := by kernel_rfl
theorem c5 : Tryz.prog.funcNamed Rows.viewNamesRow.func = some 4 := by kernel_rfl
end Go.Proofs.YtnbpjfmfopgomaaGreatDoor.viewNames
