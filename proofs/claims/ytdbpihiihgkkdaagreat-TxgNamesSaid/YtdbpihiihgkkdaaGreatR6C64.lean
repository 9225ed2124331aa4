/- A closed function, reckoned, by program (genp.py). -/
import Derived.Test.YtdbpihiihgkkdaaGreatR6T
import Derived.Test.YtdbpihiihgkkdaaGreatProg
import Derived.KernelRfl
noncomputable section
namespace Go.Eng.Sh
open Go.Proofs
set_option maxRecDepth 1000000
set_option linter.all false
theorem c64_r : saysT (f64 (dy 100000) 100000 [] ⟨.leaf, 0⟩) = true := by kernel_rfl
theorem c64 (w : World) : Calls PP 64 #[] w fun e w' => e = .returned (.bool true) ∧ RowKit.Below w.heap.size w w' := calls_ofP (f64_ok (dy_ok 100000) 100000) c64_r w
end Go.Eng.Sh
