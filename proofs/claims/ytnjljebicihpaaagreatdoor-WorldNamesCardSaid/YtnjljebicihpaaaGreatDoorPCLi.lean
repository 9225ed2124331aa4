/- WorldNames: a part of the table. No condition. -/
import Derived.Test.YtnjljebicihpaaaGreatDoorRows
import Derived.ProofKit
import Derived.OpenShut
import Derived.JoinedOf
import Derived.KernelRfl
import Derived.Test.YtnjljebicihpaaaGreatDoorPCL0
namespace Go.Proofs.YtnjljebicihpaaaGreatDoor.worldNames
def tb8 : List (List Nat) := [[600],[601],[126,128,602,588,123],[603,471],[126,532],[605],[473,189,195,188,189],[],[606],[476,189,570,191],[543,546,547],[607],[512,189,189,525,197,189,573,190,191,192,193,195,194,195,195,194,522],[248,248,463,191,248],[512,513,514,473,189,520,521],[195,188,195,189],[609,608],[610],[611],[401,191],[612,612,613,614,616,615,617,618,249],[512,193],[610,401],[308],[611,601],[],[],[619],[621,620],[],[620],[],[176,177,623,622],[594,305],[624],[],[307,314,245],[],[627,628,629,630],[484],[],[126],[],[542,604,189],[449],[631],[632],[633,634,635,636],[637],[],[612,613,614,638,615],[612,617,618,465,463,639],[],[587],[106],[617,617,463,639],[],[618,618],[],[640,641,628,642,640],[],[],[348],[179],[625,626],[240],[183,305,626],[],[],[642]]
theorem tp8 : ((Tryz.prog.funcs.toList.drop 560).take 70).map Tryz.prog.leadsTo = tb8 := by kernel_rfl
end Go.Proofs.YtnjljebicihpaaaGreatDoor.worldNames
