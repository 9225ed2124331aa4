/- TreeNames: the law returns true in every world; what was there stays as it was. No condition. -/
import Derived.Test.YthckidjjcakabaaGreatPL3
import Derived.Test.YthckidjjcakabaaGreatPF3
import Derived.Test.YthckidjjcakabaaGreatRows
import Derived.ProofKit
import Derived.OpenShut
namespace Go.Proofs.YthckidjjcakabaaGreat.treeNames
open Go.ChangeShapes Go.WideShapes Go.ChangeAt Go.RowKit

theorem holds : Rows.TreeNamesSaid :=
  OpenClaim.holds_of_wide 3 Tryz.f3 rfl rfl rfl rfl rfl rfl rfl ⟨rfl, rfl, rfl, rfl, rfl⟩ rfl rfl rfl rfl rfl (by kernel_rfl) Tryz.func3 closed
    (of_decide_eq_true (by kernel_rfl)) (by unfold Func.isWrapper; first | (rw [if_pos (by decide +kernel)]; kernel_rfl) | (rw [if_neg (by decide +kernel)]; exact ⟨rfl, rfl⟩))
    (fun os started H enc _ => lifted os started H enc)

end Go.Proofs.YthckidjjcakabaaGreat.treeNames
namespace Go.Proofs.YthckidjjcakabaaGreat
theorem treeNames_holds : Rows.TreeNamesSaid := treeNames.holds
end Go.Proofs.YthckidjjcakabaaGreat
