/- SnapNames: the law returns true in every world; what was there stays as it was. No condition. -/
import Derived.Test.YtnbpjfmfopgomaaGreatPL4
import Derived.Test.YtnbpjfmfopgomaaGreatPF4
import Derived.Test.YtnbpjfmfopgomaaGreatRows
import Derived.ProofKit
import Derived.OpenShut
namespace Go.Proofs.YtnbpjfmfopgomaaGreat.snapNames
open Go.ChangeShapes Go.WideShapes Go.ChangeAt Go.RowKit

theorem holds : Rows.SnapNamesSaid :=
  OpenClaim.holds_of_wide 4 Tryz.f4 rfl rfl rfl rfl rfl rfl rfl ⟨rfl, rfl, rfl, rfl, rfl⟩ rfl rfl rfl rfl rfl (by kernel_rfl) Tryz.func4 closed
    (of_decide_eq_true (by kernel_rfl)) (by unfold Func.isWrapper; first | (rw [if_pos (by decide +kernel)]; kernel_rfl) | (rw [if_neg (by decide +kernel)]; exact ⟨rfl, rfl⟩))
    (fun os started H enc _ => lifted os started H enc)

end Go.Proofs.YtnbpjfmfopgomaaGreat.snapNames
namespace Go.Proofs.YtnbpjfmfopgomaaGreat
theorem snapNames_holds : Rows.SnapNamesSaid := snapNames.holds
end Go.Proofs.YtnbpjfmfopgomaaGreat
