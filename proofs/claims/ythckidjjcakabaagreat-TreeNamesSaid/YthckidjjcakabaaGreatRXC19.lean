/- A closed function, reckoned, by program (gent4.py). -/
import Derived.Test.YthckidjjcakabaaGreatRXT
import Derived.Test.YthckidjjcakabaaGreatProg
import Derived.KernelRfl
noncomputable section
namespace Go.Eng.Sh
open Go.Proofs
set_option maxRecDepth 1000000
set_option maxHeartbeats 4000000
set_option linter.all false
theorem c19_r : saysT (f19 (dy 100000) 100000 [] ⟨.leaf, 0⟩) = true := by kernel_rfl
theorem c19 (w : World) : Calls PP 19 #[] w fun e w' => e = .returned (.bool true) ∧ RowKit.Below w.heap.size w w' := calls_ofP (f19_ok (dy_ok 100000) 100000) c19_r (Tabs.nil rfl)
end Go.Eng.Sh
