/- ObjsNames: closed facts of the card. No condition. -/
import Derived.Test.YtnbpjfmfopgomaaGreatDoorRows
import Derived.Test.YtnbpjfmfopgomaaGreatDoorCards
import Derived.Test.YtnbpjfmfopgomaaGreatDoorTie
import Derived.ProofKit
import Derived.OpenShut
import Derived.LaidMore
import Derived.Lay
import Derived.SevenTiedAt
import Derived.Stop.Joined
import Derived.JoinedOf
import Derived.KernelRfl
namespace Go.Proofs.YtnbpjfmfopgomaaGreatDoor.objsNames
open Go.ChangeShapes Go.WideShapes Go.ChangeAt Go.RowKit
theorem c1 : Rows.objsNamesRow.wfByText (OpenSpec.ofChange Rows.objsNamesSpec) = true := by kernel_rfl
theorem c2 : Tryz.prog.mainIs = some (Rows.objsNamesCard.stood.harness.1, Rows.objsNamesCard.stood.harness.2.toList) := by kernel_rfl
theorem c3 : true = Tryz.prog.looks [] := by kernel_rfl
theorem c4 : false = Rows.objsNamesRow.goesBy Tryz.prog := by kernel_rfl
theorem c5 : Tryz.prog.funcNamed Rows.objsNamesRow.func = some 3 := by kernel_rfl
end Go.Proofs.YtnbpjfmfopgomaaGreatDoor.objsNames
