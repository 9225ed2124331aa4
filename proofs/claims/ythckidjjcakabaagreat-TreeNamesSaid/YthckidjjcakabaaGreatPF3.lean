/- TreeNames: the row's closed facts, each by itself. No condition. -/
import Derived.Test.YthckidjjcakabaaGreatRows
import Derived.ProofKit
import Derived.OpenShut
import Derived.JoinedOf
import Derived.KernelRfl
namespace Go.Proofs.YthckidjjcakabaaGreat.treeNames
theorem k1 : Rows.treeNamesRow.wf (OpenSpec.ofChange Rows.treeNamesSpec) = true := by kernel_rfl
theorem k2 : laidOutB Tryz.prog = true := by kernel_rfl
theorem k3 : mapsRowed Tryz.prog = true := by kernel_rfl
theorem k5 : namedTie Tryz.prog Rows.treeNamesRow.named Rows.treeNamesSpec.vars = true := by kernel_rfl
theorem k10 : (Rows.treeNamesRow.inPlace == Tryz.prog.inPlace 3) = true := by kernel_rfl
theorem k11 : (Rows.treeNamesRow.unfollowed == Tryz.prog.unfollowed 3) = true := by kernel_rfl
theorem k12 : (Rows.treeNamesRow.recurses == Tryz.prog.recurses 3) = true := by kernel_rfl
theorem k13 : (Rows.treeNamesRow.named == Tryz.prog.varsNamed 3) = true := by kernel_rfl
theorem closed : joinedFacts Tryz.prog 3 Tryz.f3 Rows.treeNamesSpec Rows.treeNamesRow = true := by
  simp only [joinedFacts, Bool.and_eq_true]
  refine ⟨⟨⟨⟨⟨⟨⟨⟨⟨⟨⟨⟨⟨⟨⟨⟨⟨⟨⟨⟨⟨⟨⟨⟨⟨⟨⟨⟨⟨⟨⟨k1, k2⟩, k3⟩, ?k4⟩, k5⟩, ?k6⟩, ?k7⟩, ?k8⟩, ?k9⟩, k10⟩, k11⟩, k12⟩, k13⟩, ?k14⟩, ?k15⟩, ?k16⟩, ?k17⟩, ?k17b⟩, ?k18⟩, ?k19⟩, ?k20⟩, ?k21⟩, ?k22⟩, ?k23⟩, ?k23b⟩, ?k24⟩, ?k24b⟩, ?k24c⟩, ?k25⟩, ?k26⟩, ?k27⟩, ?k28⟩
  all_goals kernel_rfl
end Go.Proofs.YthckidjjcakabaaGreat.treeNames
