/- A closed function, reckoned, by program (gent4.py). -/
import Derived.Test.YtnbpjfmfopgomaaGreatDoorRWT
import Derived.Test.YtnbpjfmfopgomaaGreatDoorProg
import Derived.KernelRfl
noncomputable section
namespace Go.Eng.Sh
open Go.Proofs
set_option maxRecDepth 1000000
set_option maxHeartbeats 4000000
set_option linter.all false
theorem c31_r : saysT (f31 (dy 100000) 100000 [] ⟨.leaf, 0⟩) = true := by kernel_rfl
theorem c31 (w : World) (ht : Tabs (fun _ _ _ _ => False) w) : Calls PP 31 #[] w fun e w' => e = .returned (.bool true) ∧ RowKit.Below w.heap.size w w' := calls_ofP (f31_ok (dy_ok 100000) 100000) c31_r ht
end Go.Eng.Sh
