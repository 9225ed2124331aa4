/- WorldNames: the law returns true in every world in which the listed tables lie as the program lays them (one of them is read); what was there stays as it was. Condition: the row's own 'laid'. -/
import Derived.Test.YtnjljebicihpaaaGreatDoorPH3
import Derived.Test.YtnjljebicihpaaaGreatDoorPG3
import Derived.Test.YtnjljebicihpaaaGreatDoorRows
import Derived.Test.YtnjljebicihpaaaGreatDoorCards
import Derived.Test.YtnjljebicihpaaaGreatDoorTT
import Derived.ProofKit
import Derived.OpenShut
import Derived.LaidMore
import Derived.Lay
import Derived.SevenTiedAt
import Derived.Stop.Joined
namespace Go.Proofs.YtnjljebicihpaaaGreatDoor.worldNames
open Go.ChangeShapes Go.WideShapes Go.ChangeAt Go.RowKit
theorem card : Rows.WorldNamesCardSaid :=
  Claim7.holds_tied_plain_at .later [] [.pinned, .data, .data, .data, .data] true Rows.worldNamesCard.stood.harness true holds (fun _ h => by cases h) c1 (fun _ h => by cases h) worldNames_row_tie rfl ⟨rfl, rfl⟩ c2 rfl
    (fun f fn hf hfn => by
      obtain rfl : f = 3 := Option.some.inj (c5.symm.trans hf) |>.symm
      obtain rfl : fn = Tryz.f3 := (Option.some.inj (Tryz.func3.symm.trans hfn)).symm
      exact ⟨c3, fun j t ht => by
        rw [Tryz.params3] at ht
        simp at ht⟩)
    c4

end Go.Proofs.YtnjljebicihpaaaGreatDoor.worldNames
namespace Go.Proofs.YtnjljebicihpaaaGreatDoor
theorem worldNames_holds : Rows.WorldNamesCardSaid := worldNames.card
end Go.Proofs.YtnjljebicihpaaaGreatDoor
