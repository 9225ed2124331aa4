/- A piece of a closed function, reckoned (gseg.py). -/
import Derived.Test.YthckidjjcakabaaGreatRXS
import Derived.Test.YthckidjjcakabaaGreatProg
import Derived.KernelRfl
noncomputable section
namespace Go.Eng.Sh
open Go.Proofs
set_option maxRecDepth 1000000
set_option maxHeartbeats 4000000
set_option linter.all false
theorem r15s3 : segT (f15s3 (dy 100000) 100000 [.ptr 3 0,.ptr 9 0,.int .i64 (.ofNat 6),.ptr 10608 0] (litH l15_3 21188)) = true := by kernel_rfl
end Go.Eng.Sh
