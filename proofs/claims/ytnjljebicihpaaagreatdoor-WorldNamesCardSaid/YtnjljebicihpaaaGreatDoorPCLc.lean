/- WorldNames: a part of the table. No condition. -/
import Derived.Test.YtnjljebicihpaaaGreatDoorRows
import Derived.ProofKit
import Derived.OpenShut
import Derived.JoinedOf
import Derived.KernelRfl
import Derived.Test.YtnjljebicihpaaaGreatDoorPCL0
namespace Go.Proofs.YtnjljebicihpaaaGreatDoor.worldNames
def tb2 : List (List Nat) := [[209,38],[210],[134,152,136],[211],[164],[164],[215,217,216,218,219],[220],[],[221],[223,222],[],[135],[],[224],[],[228,229],[220,230,147,231,232,84,233],[234,131,140,235],[86,236],[],[],[167,167],[],[],[],[],[],[106,237,162],[102,109],[],[238],[239,170],[],[],[],[],[],[],[],[],[],[183,124],[240,241,242,242,185],[160],[],[127,243],[188,189,190,191,192,193,195,195,194],[244,191],[],[245],[189],[246,191,194],[247,191,248,194],[249,191],[],[197,189,192],[188,189,250,191],[251,252],[119,127,253,254,255,256,257,114,175,175],[],[176,177,178,179,258,180,258],[119,253,260,259,261,259,257],[262,263],[264],[265],[237],[266,267],[],[76]]
theorem tp2 : ((Tryz.prog.funcs.toList.drop 140).take 70).map Tryz.prog.leadsTo = tb2 := by kernel_rfl
end Go.Proofs.YtnjljebicihpaaaGreatDoor.worldNames
