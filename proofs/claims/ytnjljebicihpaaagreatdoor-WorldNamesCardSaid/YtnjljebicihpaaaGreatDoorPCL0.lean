/- WorldNames: what can be reached, by a table of what each function leads to. No condition. -/
import Derived.Test.YtnjljebicihpaaaGreatDoorRows
import Derived.ProofKit
import Derived.OpenShut
import Derived.JoinedOf
import Derived.KernelRfl
namespace Go.Proofs.YtnjljebicihpaaaGreatDoor.worldNames
/-- The walk, with what was seen as a number's bits. -/
def clo (T : List (List Nat)) : Nat → List Nat → List Nat → Nat → List Nat
  | 0, _, seen, _ => seen.reverse
  | _ + 1, [], seen, _ => seen.reverse
  | n + 1, f :: todo, seen, m => bif Nat.beq (Nat.land (Nat.shiftRight m f) 1) 1 then clo T n todo seen m else clo T n ((T[f]?).getD [] ++ todo) (f :: seen) (Nat.lor m (Nat.shiftLeft 1 f))
theorem bit_iff (m f : Nat) : Nat.beq (Nat.land (Nat.shiftRight m f) 1) 1 = m.testBit f := by
  have : Nat.land (Nat.shiftRight m f) 1 = (m >>> f) &&& 1 := rfl
  rw [this, Nat.testBit, Nat.and_comm]
  have h : (1 &&& m >>> f) = 0 ∨ (1 &&& m >>> f) = 1 := by
    have : (1 &&& m >>> f) ≤ 1 := Nat.and_le_left
    omega
  rcases h with h | h <;> rw [h] <;> rfl
theorem clo_eq {P : Program} {T : List (List Nat)} (hT : P.funcs.toList.map P.leadsTo = T) : ∀ (n : Nat) (todo seen : List Nat) (m : Nat), (∀ x, m.testBit x = seen.contains x) → P.closureVia n todo seen = clo T n todo seen m
  | 0, _, _, _, _ => rfl
  | n + 1, [], _, _, _ => rfl
  | n + 1, f :: todo, seen, m, h => by
    have hf : (P.funcs[f]?).elim [] P.leadsTo = (T[f]?).getD [] := by
      rw [← hT, List.getElem?_map, ← Array.getElem?_toList]
      cases P.funcs.toList[f]? <;> rfl
    rw [Program.closureVia, clo, bit_iff, h f, cond_eq_ite]
    split
    · exact clo_eq hT n todo seen m h
    · rw [hf]
      refine clo_eq hT n _ _ _ fun x => ?_
      show (m ||| 1 <<< f).testBit x = _
      rw [Nat.testBit_or, h x, Nat.testBit_shiftLeft, List.contains_cons]
      by_cases e : x = f
      · subst e; simp
      · have h1 : (x == f) = false := by simpa using e
        rw [h1, Bool.false_or]
        by_cases hx : f ≤ x
        · have : x - f ≠ 0 := by omega
          obtain ⟨k, hk⟩ : ∃ k, x - f = k + 1 := ⟨x - f - 1, by omega⟩
          simp [hk, Nat.testBit_succ]
        · simp [hx]
theorem map_parts {α β : Type} (g : α → β) {l a b : List α} {x y : List β} (h : l = a ++ b) (hx : a.map g = x) (hy : b.map g = y) : l.map g = x ++ y := by rw [h, List.map_append, hx, hy]
end Go.Proofs.YtnjljebicihpaaaGreatDoor.worldNames
