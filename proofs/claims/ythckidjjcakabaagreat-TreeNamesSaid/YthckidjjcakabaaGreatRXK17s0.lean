/- A piece of a closed function, reckoned (gseg.py). -/
import Derived.Test.YthckidjjcakabaaGreatRXS
import Derived.Test.YthckidjjcakabaaGreatProg
import Derived.KernelRfl
noncomputable section
namespace Go.Eng.Sh
open Go.Proofs
set_option maxRecDepth 1000000
set_option maxHeartbeats 4000000
set_option linter.all false
theorem r17s0 : segOk (f17s0 (dy 100000) 100000 [] ⟨.leaf, 0⟩) [.ptr 2 0,.ptr 3 0,.ptr 9 0] l17_1 7523 = true := by kernel_rfl
end Go.Eng.Sh
