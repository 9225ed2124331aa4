/- A piece of a closed function, reckoned (gseg.py). -/
import Derived.Test.YthckidjjcakabaaGreatRXS
import Derived.Test.YthckidjjcakabaaGreatProg
import Derived.KernelRfl
noncomputable section
namespace Go.Eng.Sh
open Go.Proofs
set_option maxRecDepth 1000000
set_option maxHeartbeats 4000000
set_option linter.all false
theorem r17l3r5 : segOk ((F17l3 (dy 100000) 100000).1 [.ptr 2 0,.ptr 10594 0,.ptr 10706 0,.int .i64 (.ofNat 5)] (litH l17_2 19627)) [.ptr 2 0,.ptr 10594 0,.ptr 10706 0,.int .i64 (.ofNat 6)] l17_2 24725 = true := by kernel_rfl
end Go.Eng.Sh
