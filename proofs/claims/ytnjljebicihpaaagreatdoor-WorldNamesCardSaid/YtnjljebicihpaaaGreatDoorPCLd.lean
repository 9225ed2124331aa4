/- WorldNames: a part of the table. No condition. -/
import Derived.Test.YtnjljebicihpaaaGreatDoorRows
import Derived.ProofKit
import Derived.OpenShut
import Derived.JoinedOf
import Derived.KernelRfl
import Derived.Test.YtnjljebicihpaaaGreatDoorPCL0
namespace Go.Proofs.YtnjljebicihpaaaGreatDoor.worldNames
def tb3 : List (List Nat) := [[268],[212,212,213,213,213,214,214,214,214,214,214,105],[270,269],[271,270],[105],[272,273],[],[],[],[274,216],[],[],[276,277,278,279,280,281,282,283,222,222],[284,285],[212,225,213,214,214,105,226,227,105],[141,286,287,214],[141,268],[271,213,214,214],[288,216],[289],[291,290],[72,128,293,292],[72,290,73,294,75,73,295,230,73,295,27,294,75],[229],[71,72,73,128,295,296,75,297,298],[228],[299],[266,266,267],[183,171],[],[],[300,301],[],[302],[240,303,241,304,305],[306,307,308],[309,308,310],[245,307,310],[310],[240,312,311],[309,314,308],[315,315,315,107],[119],[],[240,316,317,261,318],[62,61,62],[319,319],[319,319],[],[],[261],[239,170,170],[320,321],[323,267,322],[266,323,267,322],[237],[],[],[],[320,321],[210,323,210,268],[141,268],[],[324],[275],[325,273],[],[327,327],[328,329],[330,330,330,331]]
theorem tp3 : ((Tryz.prog.funcs.toList.drop 210).take 70).map Tryz.prog.leadsTo = tb3 := by kernel_rfl
end Go.Proofs.YtnjljebicihpaaaGreatDoor.worldNames
