/- WorldNames: the law returns true in every world in which the listed tables lie as the program lays them (one of them is read); what was there stays as it was. Condition: the row's own 'laid'. -/
import Derived.Test.YtnjljebicihpaaaGreatDoorPL3
import Derived.Test.YtnjljebicihpaaaGreatDoorPF3
import Derived.Test.YtnjljebicihpaaaGreatDoorRows
import Derived.Test.YtnjljebicihpaaaGreatDoorCards
import Derived.ProofKit
import Derived.OpenShut
import Derived.LaidMore
import Derived.Lay
import Derived.SevenTiedAt
import Derived.Stop.Joined
namespace Go.Proofs.YtnjljebicihpaaaGreatDoor.worldNames
open Go.ChangeShapes Go.WideShapes Go.ChangeAt Go.RowKit

theorem holds : Rows.WorldNamesSaid :=
  OpenClaim.holds_of_wide 3 Tryz.f3 rfl rfl rfl rfl rfl rfl rfl ⟨rfl, rfl, rfl, rfl, rfl⟩ rfl rfl rfl rfl rfl (by kernel_rfl) Tryz.func3 closed
    (of_decide_eq_true (by kernel_rfl)) (by unfold Func.isWrapper; first | (rw [if_pos (by decide +kernel)]; kernel_rfl) | (rw [if_neg (by decide +kernel)]; exact ⟨rfl, rfl⟩))
    (fun os started H enc _ => lifted os started H enc)

end Go.Proofs.YtnjljebicihpaaaGreatDoor.worldNames
