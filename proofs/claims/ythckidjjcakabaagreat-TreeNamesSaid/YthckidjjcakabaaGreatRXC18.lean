/- A closed function, reckoned, by program (gent4.py). -/
import Derived.Test.YthckidjjcakabaaGreatRXT
import Derived.Test.YthckidjjcakabaaGreatProg
import Derived.KernelRfl
noncomputable section
namespace Go.Eng.Sh
open Go.Proofs
set_option maxRecDepth 1000000
set_option maxHeartbeats 4000000
set_option linter.all false
theorem c18_r : saysT (f18 (dy 100000) 100000 [] ⟨.leaf, 0⟩) = true := by kernel_rfl
theorem c18 (w : World) : Calls PP 18 #[] w fun e w' => e = .returned (.bool true) ∧ RowKit.Below w.heap.size w w' := calls_ofP (f18_ok (dy_ok 100000) 100000) c18_r (Tabs.nil rfl)
end Go.Eng.Sh
