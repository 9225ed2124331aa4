/- WorldNames: the row's closed facts. No condition. -/
import Derived.Test.YtnjljebicihpaaaGreatDoorPFa
import Derived.Test.YtnjljebicihpaaaGreatDoorPFb
import Derived.Test.YtnjljebicihpaaaGreatDoorPFc
import Derived.Test.YtnjljebicihpaaaGreatDoorPFd
import Derived.KernelRfl
namespace Go.Proofs.YtnjljebicihpaaaGreatDoor.worldNames
theorem closed : joinedFacts Tryz.prog 3 Tryz.f3 Rows.worldNamesSpec Rows.worldNamesRow = true := by
  unfold joinedFacts
  rw [k1, k2, k3, k4, k5, k6, k7, k8, k9, k10, k11, k12, k13, k14, k15, k16, k17, k17b, k18, k19, k20, k21, k22, k23, k23b, k24, k24b, k24c, k26, k27, k28]
  kernel_rfl
end Go.Proofs.YtnjljebicihpaaaGreatDoor.worldNames
