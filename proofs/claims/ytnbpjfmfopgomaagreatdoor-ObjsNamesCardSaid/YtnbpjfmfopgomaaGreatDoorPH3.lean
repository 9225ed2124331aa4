/- ObjsNames: the law returns true in every world in which the listed tables of unicode/utf8 lie as the program lays them (none of them is read); what was there stays as it was. Condition: the row's own 'laid'. -/
import Derived.Test.YtnbpjfmfopgomaaGreatDoorPL3
import Derived.Test.YtnbpjfmfopgomaaGreatDoorPF3
import Derived.Test.YtnbpjfmfopgomaaGreatDoorRows
import Derived.Test.YtnbpjfmfopgomaaGreatDoorCards
import Derived.Test.YtnbpjfmfopgomaaGreatDoorTie
import Derived.ProofKit
import Derived.OpenShut
import Derived.LaidMore
import Derived.Lay
import Derived.SevenTiedAt
import Derived.Stop.Joined
namespace Go.Proofs.YtnbpjfmfopgomaaGreatDoor.objsNames
open Go.ChangeShapes Go.WideShapes Go.ChangeAt Go.RowKit

theorem holds : Rows.ObjsNamesSaid :=
  OpenClaim.holds_of_wide 3 Tryz.f3 rfl rfl rfl rfl rfl rfl rfl ⟨rfl, rfl, rfl, rfl, rfl⟩ rfl rfl rfl rfl rfl (by kernel_rfl) Tryz.func3 closed
    (of_decide_eq_true (by kernel_rfl)) (by unfold Func.isWrapper; first | (rw [if_pos (by decide +kernel)]; kernel_rfl) | (rw [if_neg (by decide +kernel)]; exact ⟨rfl, rfl⟩))
    (fun os started H enc _ => lifted os started H enc)

end Go.Proofs.YtnbpjfmfopgomaaGreatDoor.objsNames
