/- The listed tables are the program's own: the run. No condition. -/
import Derived.Test.YtnjljebicihpaaaGreatDoorTTa
import Derived.LaidByTextLater
import Derived.LaidOnce
import Derived.SevenTiedAt
import Derived.KernelRfl
namespace Go.Proofs.YtnjljebicihpaaaGreatDoor
open Go
set_option maxRecDepth 100000
theorem tw7 (os : Os) (tape : Tape) : doorLeaves Tryz.prog 400 8 65 LL os tape = some (LL.filter fun x => x.2.handleName?.isNone, (funcsListed LL).map (·.2.funcsOut)) := by kernel_rfl
end Go.Proofs.YtnjljebicihpaaaGreatDoor
