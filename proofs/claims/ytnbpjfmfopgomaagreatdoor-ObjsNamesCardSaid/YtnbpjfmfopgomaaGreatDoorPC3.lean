/- ObjsNames: the law returns true in every world in which the listed tables of unicode/utf8 lie as the program lays them (none of them is read); what was there stays as it was. Condition: the row's own 'laid'. -/
import Derived.Test.YtnbpjfmfopgomaaGreatDoorPH3
import Derived.Test.YtnbpjfmfopgomaaGreatDoorPG3
import Derived.Test.YtnbpjfmfopgomaaGreatDoorRows
import Derived.Test.YtnbpjfmfopgomaaGreatDoorCards
import Derived.Test.YtnbpjfmfopgomaaGreatDoorTie
import Derived.ProofKit
import Derived.OpenShut
import Derived.LaidMore
import Derived.Lay
import Derived.SevenTiedAt
import Derived.Stop.Joined
namespace Go.Proofs.YtnbpjfmfopgomaaGreatDoor.objsNames
open Go.ChangeShapes Go.WideShapes Go.ChangeAt Go.RowKit
theorem card : Rows.ObjsNamesCardSaid :=
  Claim7.holds_tied_plain_at .later [] [.data, .pinned] true Rows.objsNamesCard.stood.harness true holds (fun _ h => by cases h) c1 (fun _ h => by cases h) objsNames_row_tie rfl ⟨rfl, rfl⟩ c2 rfl
    (fun f fn hf hfn => by
      obtain rfl : f = 3 := Option.some.inj (c5.symm.trans hf) |>.symm
      obtain rfl : fn = Tryz.f3 := (Option.some.inj (Tryz.func3.symm.trans hfn)).symm
      exact ⟨c3, fun j t ht => by
        rw [Tryz.params3] at ht
        simp at ht⟩)
    c4

end Go.Proofs.YtnbpjfmfopgomaaGreatDoor.objsNames
namespace Go.Proofs.YtnbpjfmfopgomaaGreatDoor
theorem objsNames_holds : Rows.ObjsNamesCardSaid := objsNames.card
end Go.Proofs.YtnbpjfmfopgomaaGreatDoor
