/- A closed function, reckoned, by program (genp.py). -/
import Derived.Test.YtdbpihiihgkkdaaGreatR6T
import Derived.Test.YtdbpihiihgkkdaaGreatProg
import Derived.KernelRfl
noncomputable section
namespace Go.Eng.Sh
open Go.Proofs
set_option maxRecDepth 1000000
set_option linter.all false
theorem c65_r : saysT (f65 (dy 100000) 100000 [] ⟨.leaf, 0⟩) = true := by kernel_rfl
theorem c65 (w : World) : Calls PP 65 #[] w fun e w' => e = .returned (.bool true) ∧ RowKit.Below w.heap.size w w' := calls_ofP (f65_ok (dy_ok 100000) 100000) c65_r w
end Go.Eng.Sh
