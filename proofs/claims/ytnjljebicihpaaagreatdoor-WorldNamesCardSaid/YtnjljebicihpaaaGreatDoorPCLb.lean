/- WorldNames: a part of the table. No condition. -/
import Derived.Test.YtnjljebicihpaaaGreatDoorRows
import Derived.ProofKit
import Derived.OpenShut
import Derived.JoinedOf
import Derived.KernelRfl
import Derived.Test.YtnjljebicihpaaaGreatDoorPCL0
namespace Go.Proofs.YtnjljebicihpaaaGreatDoor.worldNames
def tb1 : List (List Nat) := [[123,124,122,121,125],[],[126],[119,127],[72,128,129,130,131],[119,127],[],[132,133],[134,134,135,136],[],[40,93],[138,137],[],[139],[27,140],[135,104,141,141,141,141,141,141],[142],[132,104,143,144,145],[146],[147,148,149,150,151],[104,141,141,141,152],[153,104,141,144,154,144,145],[155],[],[156],[157,158,159],[],[156],[],[],[110],[160],[98],[161,161,162],[163],[141,141,164],[165],[166,167,167,167],[168,60,169],[100],[],[161,161,161,166],[],[170],[],[107],[171,172],[173],[117,117,173,111,117,173,174],[],[119,114],[119,175],[176,177,178,179,181,180],[119,115],[182],[119,172],[],[184,185],[119],[186,187],[186,196],[126,198,120,121,199,200,68,201,202],[],[203,203,204,204,204,205,205,205,205,205,205,206],[],[],[207],[208],[],[]]
theorem tp1 : ((Tryz.prog.funcs.toList.drop 70).take 70).map Tryz.prog.leadsTo = tb1 := by kernel_rfl
end Go.Proofs.YtnjljebicihpaaaGreatDoor.worldNames
