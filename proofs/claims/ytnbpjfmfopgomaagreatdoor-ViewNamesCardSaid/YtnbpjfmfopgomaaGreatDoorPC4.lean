/- ViewNames: the law returns true in every world in which the listed tables lie as the program lays them (one of them is read); what was there stays as it was. Condition: the row's own 'laid'. -/
import Derived.Test.YtnbpjfmfopgomaaGreatDoorPH4
import Derived.Test.YtnbpjfmfopgomaaGreatDoorPG4
import Derived.Test.YtnbpjfmfopgomaaGreatDoorRows
import Derived.Test.YtnbpjfmfopgomaaGreatDoorCards
import Derived.Test.YtnbpjfmfopgomaaGreatDoorTie
import Derived.ProofKit
import Derived.OpenShut
import Derived.LaidMore
import Derived.Lay
import Derived.SevenTiedAt
import Derived.Stop.Joined
namespace Go.Proofs.YtnbpjfmfopgomaaGreatDoor.viewNames
open Go.ChangeShapes Go.WideShapes Go.ChangeAt Go.RowKit
theorem card : Rows.ViewNamesCardSaid :=
  Claim7.holds_tied_plain_at .later [] [.data, .data, .data] true Rows.viewNamesCard.stood.harness true holds (fun _ h => by cases h) c1 (fun _ h => by cases h) viewNames_row_tie rfl ⟨rfl, rfl⟩ c2 rfl
    (fun f fn hf hfn => by
      obtain rfl : f = 4 := Option.some.inj (c5.symm.trans hf) |>.symm
      obtain rfl : fn = Tryz.f4 := (Option.some.inj (Tryz.func4.symm.trans hfn)).symm
      exact ⟨c3, fun j t ht => by
        rw [Tryz.params4] at ht
        simp at ht⟩)
    c4

end Go.Proofs.YtnbpjfmfopgomaaGreatDoor.viewNames
namespace Go.Proofs.YtnbpjfmfopgomaaGreatDoor
theorem viewNames_holds : Rows.ViewNamesCardSaid := viewNames.card
end Go.Proofs.YtnbpjfmfopgomaaGreatDoor
