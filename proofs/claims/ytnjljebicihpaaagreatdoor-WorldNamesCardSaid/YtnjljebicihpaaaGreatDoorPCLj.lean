/- WorldNames: a part of the table. No condition. -/
import Derived.Test.YtnjljebicihpaaaGreatDoorRows
import Derived.ProofKit
import Derived.OpenShut
import Derived.JoinedOf
import Derived.KernelRfl
import Derived.Test.YtnjljebicihpaaaGreatDoorPCL0
namespace Go.Proofs.YtnjljebicihpaaaGreatDoor.worldNames
def tb9 : List (List Nat) := [[643,644],[],[],[],[285,645,646],[],[647,648],[],[],[649,649,612,613,614],[650,651,650,652,653],[],[],[654,655],[640],[],[],[],[656,657],[],[658],[],[],[],[],[659],[],[],[660],[],[],[],[],[],[],[],[],[],[],[],[],[],[],[],[],[],[],[],[],[],[],[],[],[],[],[],[],[],[],[],[],[]]
theorem tp9 : ((Tryz.prog.funcs.toList.drop 630).take 70).map Tryz.prog.leadsTo = tb9 := by kernel_rfl
end Go.Proofs.YtnjljebicihpaaaGreatDoor.worldNames
