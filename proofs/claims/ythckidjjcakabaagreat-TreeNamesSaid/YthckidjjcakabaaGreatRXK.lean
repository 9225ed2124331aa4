/- TreeNames, reckoned by the kernel: it comes to 'true'; so its call returns true in every world, and what was there stays as it was. No condition. -/
import Derived.Test.YthckidjjcakabaaGreatRXZ
import Derived.KernelRfl
namespace Go.Proofs.YthckidjjcakabaaGreat.treeNames
open Go.RowKit

set_option maxRecDepth 1000000 in
theorem reckoned : Go.Eng.saysT (Go.Eng.Sh.f3z (Go.Eng.Sh.dy 100000) 100000 [] ⟨.leaf, 0⟩) = true := by kernel_rfl

theorem walk (W : World) : Calls Tryz.prog 3 #[] W fun e W' => e = .returned (.bool true) ∧ RowKit.Below W.heap.size W W' := Go.Eng.calls_ofP (Go.Eng.Sh.f3z_ok (Go.Eng.Sh.dy_ok 100000) 100000) reckoned (Go.Eng.Tabs.nil rfl)

end Go.Proofs.YthckidjjcakabaaGreat.treeNames
