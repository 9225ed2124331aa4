/- A closed function, told (gseg.py). -/
import Derived.Test.YthckidjjcakabaaGreatRXK15s0
import Derived.Test.YthckidjjcakabaaGreatRXK15s1
import Derived.Test.YthckidjjcakabaaGreatRXK15s2
import Derived.Test.YthckidjjcakabaaGreatRXK15s3
import Derived.Test.YthckidjjcakabaaGreatProg
import Derived.KernelRfl
noncomputable section
namespace Go.Eng.Sh
open Go.Proofs
set_option maxRecDepth 1000000
set_option maxHeartbeats 4000000
set_option linter.all false
noncomputable def B15 : Code := Tryz.f15.body.getD .skip
theorem b15 : Tryz.f15.body = some B15 := by kernel_rfl
theorem t15 : SP (s15 (dy 100000) 100000).S := (SP.cons (f5_ok (dy_ok 100000) 100000) (SP.cons (f6_ok (dy_ok 100000) 100000) (SP.cons (f7_ok (dy_ok 100000) 100000) (SP.cons (f43_ok (dy_ok 100000) 100000) (SP.cons (f9_ok (dy_ok 100000) 100000) (SP.cons (f13_ok (dy_ok 100000) 100000) (SP.cons (f44_ok (dy_ok 100000) 100000) (SP.cons (f12_ok (dy_ok 100000) 100000) (SP.cons (f34_ok (dy_ok 100000) 100000) (SP.cons (f21_ok (dy_ok 100000) 100000) (SP.cons (f45_ok (dy_ok 100000) 100000) (SP.cons (f46_ok (dy_ok 100000) 100000) (SP.cons (f47_ok (dy_ok 100000) 100000) (SP.cons (f22_ok (dy_ok 100000) 100000) (SP.cons (f14_ok (dy_ok 100000) 100000) (SP.cons (f20_ok (dy_ok 100000) 100000) (SP.nil)))))))))))))))))
theorem c15 (w : World) : Calls PP 15 #[] w fun e w' => e = .returned (.bool true) ∧ RowKit.Below w.heap.size w w' := calls_seg Tryz.func15 b15 (GP.step2 X_ok (dy_ok 100000) t15 b15 (k := 0) (k2 := 6) (by rfl) (by kernel_rfl) (f15s0_eq _ _) r15s0 (GP.step2 X_ok (dy_ok 100000) t15 b15 (k := 6) (k2 := 11) (by rfl) (by kernel_rfl) (f15s1_eq _ _) r15s1 (GP.step2 X_ok (dy_ok 100000) t15 b15 (k := 11) (k2 := 12) (by rfl) (by kernel_rfl) (f15s2_eq _ _) r15s2 (GP.last X_ok (dy_ok 100000) t15 Tryz.func15 b15 (k := 12) (by kernel_rfl) (f15s3_eq _ _) r15s3)))) (Tabs.nil rfl)
end Go.Eng.Sh
