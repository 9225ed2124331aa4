/- The listed tables are the program's own: their names in the text. No condition. -/
import Derived.Test.YtnjljebicihpaaaGreatDoorTTa
import Derived.LaidByTextLater
import Derived.LaidOnce
import Derived.SevenTiedAt
import Derived.KernelRfl
namespace Go.Proofs.YtnjljebicihpaaaGreatDoor
open Go
set_option maxRecDepth 100000
theorem tw6 : varsNamedLaterB Tryz.prog (varsId Tryz.prog) LL = true := by kernel_rfl
end Go.Proofs.YtnjljebicihpaaaGreatDoor
