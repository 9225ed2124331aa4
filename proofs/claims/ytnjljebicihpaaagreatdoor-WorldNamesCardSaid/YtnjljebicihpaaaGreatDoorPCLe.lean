/- WorldNames: a part of the table. No condition. -/
import Derived.Test.YtnjljebicihpaaaGreatDoorRows
import Derived.ProofKit
import Derived.OpenShut
import Derived.JoinedOf
import Derived.KernelRfl
import Derived.Test.YtnjljebicihpaaaGreatDoorPCL0
namespace Go.Proofs.YtnjljebicihpaaaGreatDoor.worldNames
def tb4 : List (List Nat) := [[],[],[],[],[],[],[],[],[],[332,216],[333,333],[334,71,335,336,337],[338,339,341,340],[343,342],[293,72,128,344,345],[346],[297,347],[348],[346],[289,349,216],[350,351,58,351,318],[352,353,354,353,355,354,356],[],[],[357],[],[],[],[],[],[],[359,358,360,363],[313],[364,365,242,242,305,366,366],[],[],[],[241,317,367,162,368],[369,370],[371,170],[],[372,373,372],[323],[],[],[326,273],[],[],[223],[],[331],[374,374,374],[],[153,207,375,376],[377,378,379,380,381,382,383,384,385,386,387,388,389,390,391,392,393,394,395],[396],[72,75],[298,397],[398,399],[],[],[],[400,165],[],[338,339,402,401,402,343,343,249],[403],[],[298,404,405],[223,406],[219]]
theorem tp4 : ((Tryz.prog.funcs.toList.drop 280).take 70).map Tryz.prog.leadsTo = tb4 := by kernel_rfl
end Go.Proofs.YtnjljebicihpaaaGreatDoor.worldNames
