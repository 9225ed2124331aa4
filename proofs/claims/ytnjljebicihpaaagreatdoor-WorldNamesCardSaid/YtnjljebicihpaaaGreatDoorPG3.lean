/- WorldNames: closed facts of the card. No condition. -/
import Derived.Test.YtnjljebicihpaaaGreatDoorRows
import Derived.Test.YtnjljebicihpaaaGreatDoorCards
import Derived.ProofKit
import Derived.OpenShut
import Derived.LaidMore
import Derived.Lay
import Derived.SevenTiedAt
import Derived.Stop.Joined
import Derived.JoinedOf
import Derived.KernelRfl
namespace Go.Proofs.YtnjljebicihpaaaGreatDoor.worldNames
open Go.ChangeShapes Go.WideShapes Go.ChangeAt Go.RowKit
theorem c1 : Rows.worldNamesRow.wfByText (OpenSpec.ofChange Rows.worldNamesSpec) = true := by kernel_rfl
theorem c2 : Tryz.prog.mainIs = some (Rows.worldNamesCard.stood.harness.1, Rows.worldNamesCard.stood.harness.2.toList) := by kernel_rfl
theorem c3 : true = Tryz.prog.looks [] := by kernel_rfl
theorem goes_none {P : Program} (h : P.funcs.any Func.goes = false) (f : FuncId) : P.goes f = false := by
  unfold Program.goes
  rw [h, Bool.and_false, Bool.or_false, List.any_eq_false]
  intro g _ hg
  cases e : P.funcs[g]? with
  | none => rw [e] at hg; simp at hg
  | some fn =>
    rw [e] at hg
    obtain ⟨hlt, e⟩ := Array.getElem?_eq_some_iff.1 e
    have : P.funcs.any Func.goes = true := Array.any_eq_true.2 ⟨g, hlt, by rw [e]; simpa using hg⟩
    rw [h] at this; cases this
theorem no_goes : Tryz.prog.funcs.any Func.goes = false := by kernel_rfl
theorem c4 : false = Rows.worldNamesRow.goesBy Tryz.prog := by
  have hs : Rows.worldNamesRow.start = .entering := rfl
  unfold OpenClaim.goesBy Program.goesAt Program.goesFrom
  rw [hs]
  cases e : Tryz.prog.funcNamed Rows.worldNamesRow.func with
  | none => rfl
  | some f => simp [goes_none no_goes]
theorem c5 : Tryz.prog.funcNamed Rows.worldNamesRow.func = some 3 := by kernel_rfl
end Go.Proofs.YtnjljebicihpaaaGreatDoor.worldNames
