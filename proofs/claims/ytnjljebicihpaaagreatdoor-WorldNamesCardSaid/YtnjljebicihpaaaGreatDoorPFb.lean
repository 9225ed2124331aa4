/- WorldNames: closed facts of the row, by what can be reached. No condition. -/
import Derived.Test.YtnjljebicihpaaaGreatDoorPCLz
namespace Go.Proofs.YtnjljebicihpaaaGreatDoor.worldNames
theorem u3 : Tryz.prog.unfollowed 3 = true := by
  unfold Program.unfollowed
  rw [clos]
  kernel_rfl
theorem k11 : (Rows.worldNamesRow.unfollowed == Tryz.prog.unfollowed 3) = true := by rw [u3]; rfl
theorem k12 : (Rows.worldNamesRow.recurses == Tryz.prog.recurses 3) = true := by
  unfold Program.recurses
  rw [u3, Bool.true_or]; rfl
theorem k13 : (Rows.worldNamesRow.named == Tryz.prog.varsNamed 3) = true := by
  unfold Program.varsNamed
  rw [clos]
  kernel_rfl
end Go.Proofs.YtnjljebicihpaaaGreatDoor.worldNames
