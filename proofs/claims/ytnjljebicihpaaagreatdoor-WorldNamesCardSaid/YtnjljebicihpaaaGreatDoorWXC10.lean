/- A closed function, reckoned, by program (gent4.py). -/
import Derived.Test.YtnjljebicihpaaaGreatDoorWXT
import Derived.Test.YtnjljebicihpaaaGreatDoorProg
import Derived.KernelRfl
noncomputable section
namespace Go.Eng.Sh
open Go.Proofs
set_option maxRecDepth 1000000
set_option maxHeartbeats 4000000
set_option linter.all false
theorem c10_r : saysT (f10 (dy 100000) 100000 [] ⟨.leaf, 0⟩) = true := by kernel_rfl
theorem c10 (w : World) (ht : Tabs (fun _ _ _ _ => False) w) : Calls PP 10 #[] w fun e w' => e = .returned (.bool true) ∧ RowKit.Below w.heap.size w w' := calls_ofP (f10_ok (dy_ok 100000) 100000) c10_r ht
end Go.Eng.Sh
