/- WorldNames: the types are laid out as they must. No condition. -/
import Derived.Test.YtnjljebicihpaaaGreatDoorPCL0
namespace Go.Proofs.YtnjljebicihpaaaGreatDoor.worldNames
theorem all_parts {p : Nat → Bool} {n : Nat} (h : ∀ i, i < n → p i = true) : (List.range n).all p = true := by
  rw [List.all_eq_true]
  intro x hx
  exact h x (List.mem_range.1 hx)
theorem part {p : Nat → Bool} {a n : Nat} (h : (List.range' a n).all p = true) : ∀ i, a ≤ i → i < a + n → p i = true := by
  intro i h1 h2
  exact List.all_eq_true.1 h i (List.mem_range'_1.2 ⟨h1, h2⟩)
theorem q0 : (List.range' 0 100).all (rowFine Tryz.prog) = true := by kernel_rfl
theorem q100 : (List.range' 100 100).all (rowFine Tryz.prog) = true := by kernel_rfl
theorem q200 : (List.range' 200 100).all (rowFine Tryz.prog) = true := by kernel_rfl
theorem q300 : (List.range' 300 100).all (rowFine Tryz.prog) = true := by kernel_rfl
theorem q400 : (List.range' 400 100).all (rowFine Tryz.prog) = true := by kernel_rfl
theorem q500 : (List.range' 500 100).all (rowFine Tryz.prog) = true := by kernel_rfl
theorem q600 : (List.range' 600 100).all (rowFine Tryz.prog) = true := by kernel_rfl
theorem q700 : (List.range' 700 99).all (rowFine Tryz.prog) = true := by kernel_rfl
theorem tsz : Tryz.prog.types.size = 799 := by kernel_rfl
theorem q_all : (List.range Tryz.prog.types.size).all (rowFine Tryz.prog) = true := by
  rw [tsz]
  refine all_parts fun i hi => ?_
  rcases Nat.lt_or_ge i 100 with h0 | h0
  · exact part q0 i (by omega) (by omega)
  rcases Nat.lt_or_ge i 200 with h100 | h100
  · exact part q100 i (by omega) (by omega)
  rcases Nat.lt_or_ge i 300 with h200 | h200
  · exact part q200 i (by omega) (by omega)
  rcases Nat.lt_or_ge i 400 with h300 | h300
  · exact part q300 i (by omega) (by omega)
  rcases Nat.lt_or_ge i 500 with h400 | h400
  · exact part q400 i (by omega) (by omega)
  rcases Nat.lt_or_ge i 600 with h500 | h500
  · exact part q500 i (by omega) (by omega)
  rcases Nat.lt_or_ge i 700 with h600 | h600
  · exact part q600 i (by omega) (by omega)
  exact part q700 i (by omega) (by omega)
theorem q_gl : Tryz.prog.globals.all (fun g => decide (g.type < Tryz.prog.types.size)) = true := by rw [tsz]; kernel_rfl
theorem q_fn : Tryz.prog.funcs.all (fun f => f.params.all fun t => decide (t < Tryz.prog.types.size)) = true := by rw [tsz]; kernel_rfl
theorem k2 : laidOutB Tryz.prog = true := by
  unfold laidOutB
  rw [q_all, q_gl, q_fn]; rfl
end Go.Proofs.YtnjljebicihpaaaGreatDoor.worldNames
