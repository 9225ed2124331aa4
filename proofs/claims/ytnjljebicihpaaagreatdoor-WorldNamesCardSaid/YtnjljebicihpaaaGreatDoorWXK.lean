/- WorldNames, reckoned by the kernel: it comes to 'true'; so its call returns true in every world in which the tables lie, and what was there stays as it was. Condition: the tables lie as they are laid. -/
import Derived.Test.YtnjljebicihpaaaGreatDoorWXZ
import Derived.KernelRfl
namespace Go.Proofs.YtnjljebicihpaaaGreatDoor.worldNames
open Go.RowKit

set_option maxRecDepth 1000000 in
theorem reckoned : Go.Eng.saysT (Go.Eng.Sh.f3z (Go.Eng.Sh.dy 100000) 100000 [] ⟨.leaf, 0⟩) = true := by kernel_rfl

theorem walk {W : World} (ht : Go.Eng.Tabs (fun _ _ _ _ => False) W) : Calls Tryz.prog 3 #[] W fun e W' => e = .returned (.bool true) ∧ RowKit.Below W.heap.size W W' := Go.Eng.calls_ofP (Go.Eng.Sh.f3z_ok (Go.Eng.Sh.dy_ok 100000) 100000) reckoned ht

end Go.Proofs.YtnjljebicihpaaaGreatDoor.worldNames
