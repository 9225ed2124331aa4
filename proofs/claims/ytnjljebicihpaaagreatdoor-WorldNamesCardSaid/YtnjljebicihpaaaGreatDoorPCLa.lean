/- WorldNames: a part of the table. No condition. -/
import Derived.Test.YtnjljebicihpaaaGreatDoorRows
import Derived.ProofKit
import Derived.OpenShut
import Derived.JoinedOf
import Derived.KernelRfl
import Derived.Test.YtnjljebicihpaaaGreatDoorPCL0
namespace Go.Proofs.YtnjljebicihpaaaGreatDoor.worldNames
def tb0 : List (List Nat) := [[],[],[1],[4,4,4,4,5,4,6,6,6,5,6,7,8,9,8,10],[11,12,13,14],[4,6,7],[15,16,17,18,19,20,21,22,23,24,25,26,27],[28,29],[30],[],[32,31,32,5],[33],[34,35,36,37,38,39],[],[40],[41,42,43],[41,44,43],[41,43],[45,46,41,47],[48],[49],[51,50],[52,50],[53],[54],[55],[27,55,56,12],[],[],[],[57],[],[],[],[58,59,60],[61,62],[63,65,66,64,67,68,69,70],[71,72,73,74,75],[],[76],[],[],[77,78,79],[80],[81],[82,83],[84,85,86,87,86,89,88],[90,81,91,92],[45],[82,93],[80],[84,94,95,96],[84,97,95,96],[],[98,99],[98,100],[101,33],[],[102],[103,104,105,106],[],[107,108],[98,109,110],[34,111,112,114,113,115,116],[117,117,118],[119],[119],[],[120,121,122],[]]
theorem tp0 : ((Tryz.prog.funcs.toList.drop 0).take 70).map Tryz.prog.leadsTo = tb0 := by kernel_rfl
end Go.Proofs.YtnjljebicihpaaaGreatDoor.worldNames
