/- A piece of a closed function, reckoned (gseg.py). -/
import Derived.Test.YthckidjjcakabaaGreatRXS
import Derived.Test.YthckidjjcakabaaGreatProg
import Derived.KernelRfl
noncomputable section
namespace Go.Eng.Sh
open Go.Proofs
set_option maxRecDepth 1000000
set_option maxHeartbeats 4000000
set_option linter.all false
theorem r17s3 : segT (f17s3 (dy 100000) 100000 [] (litH l17_3 38167)) = true := by kernel_rfl
end Go.Eng.Sh
