/- ViewNames: the row's closed facts, each by itself. No condition. -/
import Derived.Test.YtnbpjfmfopgomaaGreatDoorRows
import Derived.ProofKit
import Derived.OpenShut
import Derived.JoinedOf
import Derived.KernelRfl
namespace Go.Proofs.YtnbpjfmfopgomaaGreatDoor.viewNames
theorem k1 : Rows.viewNamesRow.wf (OpenSpec.ofChange Rows.viewNamesSpec) = true := by kernel_rfl
theorem k2 : laidOutB Tryz.prog = true := by kernel_rfl
theorem k3 : mapsRowed Tryz.prog = true := by kernel_rfl
theorem k5 : namedTie Tryz.prog Rows.viewNamesRow.named Rows.viewNamesSpec.vars = true := by kernel_rfl
theorem k10 : (Rows.viewNamesRow.inPlace == Tryz.prog.inPlace 4) = true := by kernel_rfl
theorem k11 : (Rows.viewNamesRow.unfollowed == Tryz.prog.unfollowed 4) = true := by kernel_rfl
theorem k12 : (Rows.viewNamesRow.recurses == Tryz.prog.recurses 4) = true := by kernel_rfl
theorem k13 : (Rows.viewNamesRow.named == Tryz.prog.varsNamed 4) = true := by kernel_rfl
theorem closed : joinedFacts Tryz.prog 4 Tryz.f4 Rows.viewNamesSpec Rows.viewNamesRow = true := by
  simp only [joinedFacts, Bool.and_eq_true]
  refine ⟨⟨⟨⟨⟨⟨⟨⟨⟨⟨⟨⟨⟨⟨⟨⟨⟨⟨⟨⟨⟨⟨⟨⟨⟨⟨⟨⟨⟨⟨⟨k1, k2⟩, k3⟩, ?k4⟩, k5⟩, ?k6⟩, ?k7⟩, ?k8⟩, ?k9⟩, k10⟩, k11⟩, k12⟩, k13⟩, ?k14⟩, ?k15⟩, ?k16⟩, ?k17⟩, ?k17b⟩, ?k18⟩, ?k19⟩, ?k20⟩, ?k21⟩, ?k22⟩, ?k23⟩, ?k23b⟩, ?k24⟩, ?k24b⟩, ?k24c⟩, ?k25⟩, ?k26⟩, ?k27⟩, ?k28⟩
  all_goals kernel_rfl
end Go.Proofs.YtnbpjfmfopgomaaGreatDoor.viewNames
