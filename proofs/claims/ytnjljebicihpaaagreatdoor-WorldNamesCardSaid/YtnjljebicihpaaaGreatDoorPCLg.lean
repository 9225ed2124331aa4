/- WorldNames: a part of the table. No condition. -/
import Derived.Test.YtnjljebicihpaaaGreatDoorRows
import Derived.ProofKit
import Derived.OpenShut
import Derived.JoinedOf
import Derived.KernelRfl
import Derived.Test.YtnjljebicihpaaaGreatDoorPCL0
namespace Go.Proofs.YtnjljebicihpaaaGreatDoor.worldNames
def tb6 : List (List Nat) := [[103,407],[422,422,422,422,492,423,492,492,423,425],[],[422,422,493,493],[],[],[],[286,207,287,205],[207,207],[207,204,205,205],[494],[495,437],[496,437],[497,437],[72,73,295],[436,347,437],[72,128],[442],[498,186],[403,437,442],[501,500],[504,503],[],[297,506],[508,507],[494],[432,442],[510,342],[511,471],[],[434,436,515,437,439,449,430],[446,434,436,516,437,454,439],[436,448,436,448],[517,186],[298],[524,474],[528,527],[119,316],[530],[432,442,531,442],[126,174,532,131,533,534,66,535,198],[126,532,536,537,198],[464,464,465,463],[538,539,540],[],[],[],[468],[364,305,412,412],[],[240],[541],[473],[542,189],[127,541],[476,477,191,193],[473,189],[543,545,544],[484],[549,549],[328,329],[550,550,550,551],[],[484,484,484],[552,552],[484,484],[484,484,484,484],[365],[364,553,242,242,242,242,242,185,185],[]]
theorem tp6 : ((Tryz.prog.funcs.toList.drop 420).take 70).map Tryz.prog.leadsTo = tb6 := by kernel_rfl
end Go.Proofs.YtnjljebicihpaaaGreatDoor.worldNames
