/- WorldNames: closed facts of the row, by what can be reached. No condition. -/
import Derived.Test.YtnjljebicihpaaaGreatDoorPCLz
namespace Go.Proofs.YtnjljebicihpaaaGreatDoor.worldNames
theorem k1 : Rows.worldNamesRow.wf (OpenSpec.ofChange Rows.worldNamesSpec) = true := by kernel_rfl
theorem k3 : mapsRowed Tryz.prog = true := by kernel_rfl
theorem k5 : namedTie Tryz.prog Rows.worldNamesRow.named Rows.worldNamesSpec.vars = true := by kernel_rfl
theorem k10 : (Rows.worldNamesRow.inPlace == Tryz.prog.inPlace 3) = true := by
  unfold Program.inPlace
  rw [clos]
  kernel_rfl
end Go.Proofs.YtnjljebicihpaaaGreatDoor.worldNames
