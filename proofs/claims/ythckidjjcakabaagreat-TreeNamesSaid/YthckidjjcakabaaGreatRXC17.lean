/- A closed function, told (gseg.py). -/
import Derived.Test.YthckidjjcakabaaGreatRXK17s0
import Derived.Test.YthckidjjcakabaaGreatRXK17s1
import Derived.Test.YthckidjjcakabaaGreatRXK17s2
import Derived.Test.YthckidjjcakabaaGreatRXK17l3r0
import Derived.Test.YthckidjjcakabaaGreatRXK17l3r1
import Derived.Test.YthckidjjcakabaaGreatRXK17l3r2
import Derived.Test.YthckidjjcakabaaGreatRXK17l3r3
import Derived.Test.YthckidjjcakabaaGreatRXK17l3r4
import Derived.Test.YthckidjjcakabaaGreatRXK17l3r5
import Derived.Test.YthckidjjcakabaaGreatRXK17l3r6
import Derived.Test.YthckidjjcakabaaGreatRXK17l3r7
import Derived.Test.YthckidjjcakabaaGreatRXK17l3r8
import Derived.Test.YthckidjjcakabaaGreatRXK17s3
import Derived.Test.YthckidjjcakabaaGreatProg
import Derived.KernelRfl
noncomputable section
namespace Go.Eng.Sh
open Go.Proofs
set_option maxRecDepth 1000000
set_option maxHeartbeats 4000000
set_option linter.all false
noncomputable def B17 : Code := Tryz.f17.body.getD .skip
theorem b17 : Tryz.f17.body = some B17 := by kernel_rfl
theorem t17 : SP (s17 (dy 100000) 100000).S := (SP.cons (f5_ok (dy_ok 100000) 100000) (SP.cons (f6_ok (dy_ok 100000) 100000) (SP.cons (f7_ok (dy_ok 100000) 100000) (SP.cons (f43_ok (dy_ok 100000) 100000) (SP.cons (f9_ok (dy_ok 100000) 100000) (SP.cons (f13_ok (dy_ok 100000) 100000) (SP.cons (f12_ok (dy_ok 100000) 100000) (SP.cons (f11_ok (dy_ok 100000) 100000) (SP.cons (f48_ok (dy_ok 100000) 100000) (SP.cons (f49_ok (dy_ok 100000) 100000) (SP.cons (f50_ok (dy_ok 100000) 100000) (SP.cons (f21_ok (dy_ok 100000) 100000) (SP.cons (f14_ok (dy_ok 100000) 100000) (SP.nil))))))))))))))
theorem c17 (w : World) : Calls PP 17 #[] w fun e w' => e = .returned (.bool true) ∧ RowKit.Below w.heap.size w w' := calls_seg Tryz.func17 b17 (GP.step2 X_ok (dy_ok 100000) t17 b17 (k := 0) (k2 := 6) (by rfl) (by kernel_rfl) (f17s0_eq _ _) r17s0 (GP.step2 X_ok (dy_ok 100000) t17 b17 (k := 6) (k2 := 9) (by rfl) (by kernel_rfl) (f17s1_eq _ _) r17s1 (GP.rounds (show restC 9 B17 = .seq (.seq (atC [1, 1, 1, 1, 1, 1, 1, 1, 1, 0, 0] B17) (.block 2 (.loop (atC [1, 1, 1, 1, 1, 1, 1, 1, 1, 0, 1, 2, 3] B17)))) (restC 10 B17) from by kernel_rfl) (GP.norm X_ok (dy_ok 100000) t17 b17 (p := [1, 1, 1, 1, 1, 1, 1, 1, 1, 0, 0]) (by kernel_rfl) (f17s2_eq _ _) r17s2 (GP.block (GP.loop (GP.norm X_ok (dy_ok 100000) t17 b17 (p := [1, 1, 1, 1, 1, 1, 1, 1, 1, 0, 1, 2, 3]) (by kernel_rfl) (f17l3_eq _ _) r17l3r0 (GP.inLoop (GP.norm X_ok (dy_ok 100000) t17 b17 (p := [1, 1, 1, 1, 1, 1, 1, 1, 1, 0, 1, 2, 3]) (by kernel_rfl) (f17l3_eq _ _) r17l3r1 (GP.inLoop (GP.norm X_ok (dy_ok 100000) t17 b17 (p := [1, 1, 1, 1, 1, 1, 1, 1, 1, 0, 1, 2, 3]) (by kernel_rfl) (f17l3_eq _ _) r17l3r2 (GP.inLoop (GP.norm X_ok (dy_ok 100000) t17 b17 (p := [1, 1, 1, 1, 1, 1, 1, 1, 1, 0, 1, 2, 3]) (by kernel_rfl) (f17l3_eq _ _) r17l3r3 (GP.inLoop (GP.norm X_ok (dy_ok 100000) t17 b17 (p := [1, 1, 1, 1, 1, 1, 1, 1, 1, 0, 1, 2, 3]) (by kernel_rfl) (f17l3_eq _ _) r17l3r4 (GP.inLoop (GP.norm X_ok (dy_ok 100000) t17 b17 (p := [1, 1, 1, 1, 1, 1, 1, 1, 1, 0, 1, 2, 3]) (by kernel_rfl) (f17l3_eq _ _) r17l3r5 (GP.inLoop (GP.norm X_ok (dy_ok 100000) t17 b17 (p := [1, 1, 1, 1, 1, 1, 1, 1, 1, 0, 1, 2, 3]) (by kernel_rfl) (f17l3_eq _ _) r17l3r6 (GP.inLoop (GP.norm X_ok (dy_ok 100000) t17 b17 (p := [1, 1, 1, 1, 1, 1, 1, 1, 1, 0, 1, 2, 3]) (by kernel_rfl) (f17l3_eq _ _) r17l3r7 (GP.inLoop (GP.exit X_ok (dy_ok 100000) t17 b17 (p := [1, 1, 1, 1, 1, 1, 1, 1, 1, 0, 1, 2, 3]) (by kernel_rfl) (f17l3_eq _ _) r17l3r8 (by rfl) exit_lb (GP.last X_ok (dy_ok 100000) t17 Tryz.func17 b17 (k := 10) (by kernel_rfl) (f17s3_eq _ _) r17s3)))))))))))))))))))))))) (Tabs.nil rfl)
end Go.Eng.Sh
