/- A closed function, reckoned, by program (genp.py). -/
import Derived.Test.YtdbpihiihgkkdaaGreatDoorR3T
import Derived.Test.YtdbpihiihgkkdaaGreatDoorProg
import Derived.KernelRfl
noncomputable section
namespace Go.Eng.Sh
open Go.Proofs
set_option maxRecDepth 1000000
set_option linter.all false
theorem c9_r : saysT (f9 (dy 100000) 100000 [] ⟨.leaf, 0⟩) = true := by kernel_rfl
theorem c9 (w : World) : Calls PP 9 #[] w fun e w' => e = .returned (.bool true) ∧ RowKit.Below w.heap.size w w' := calls_ofP (f9_ok (dy_ok 100000) 100000) c9_r w
end Go.Eng.Sh
