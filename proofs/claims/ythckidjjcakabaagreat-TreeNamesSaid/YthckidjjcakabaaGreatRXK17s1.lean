/- A piece of a closed function, reckoned (gseg.py). -/
import Derived.Test.YthckidjjcakabaaGreatRXS
import Derived.Test.YthckidjjcakabaaGreatProg
import Derived.KernelRfl
noncomputable section
namespace Go.Eng.Sh
open Go.Proofs
set_option maxRecDepth 1000000
set_option maxHeartbeats 4000000
set_option linter.all false
theorem r17s1 : segOk (f17s1 (dy 100000) 100000 [.ptr 2 0,.ptr 3 0,.ptr 9 0] (litH l17_1 7523)) [.ptr 2 0,.ptr 10594 0,.ptr 10706 0] l17_2 10707 = true := by kernel_rfl
end Go.Eng.Sh
