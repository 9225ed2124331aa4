/- Engine, part 28: a program's tables, and the lift from a reckoning to a call. No condition. -/
import Derived.Test.YtghipbccmngkpaaE27
namespace Go.Eng

noncomputable def cxOf (P : Program) : Cx := ⟨(T.ofList 0 P.types.toList .leaf).getD .leaf, (T.ofList 0 P.funcs.toList .leaf).getD .leaf, .leaf⟩

theorem getD_ofList {α : Type} (l : List α) (m : Nat) (x : α) (h : ((T.ofList 0 l .leaf).getD .leaf).get m = some x) : l[m]? = some x := by
  cases hl : T.ofList 0 l .leaf with
  | none => rw [hl] at h; simp [T.get_leaf] at h
  | some t =>
    rw [hl] at h
    simp only [Option.getD_some] at h
    rw [T.get_ofList l 0 .leaf t hl m] at h
    split at h
    · simpa using h
    · simp [T.get_leaf] at h

def named (P : Program) : Bool := P.funcs.toList.all fun g => !(g.name == "runtime.NumGoroutine")

theorem cxOf_ok {P : Program} (h : named P = true) : Ok P (cxOf P) := by
  refine ⟨fun t i ht => ?_, fun f g hf => ?_, fun f g hf => ?_⟩
  · have := getD_ofList _ _ _ ht
    simp only [Array.getElem?_toList] at this
    have hlt : t < P.types.size := (Array.getElem?_eq_some_iff.1 this).1
    unfold Tables.info?
    first
      | (rw [if_pos hlt]; exact this)
      | (simp only [hlt, if_true, this]; done)
      | (rw [this]; done)
      | (rw [this]; rfl)
      | simp_all
  · have := getD_ofList _ _ _ hf
    simpa using this
  · simp only [named, List.all_eq_true, Bool.not_eq_true'] at h
    exact h g (by
      have := Array.mem_of_getElem? hf
      simpa using this)

/-- Does the reckoning come to 'true'? -/
noncomputable def says (P : Program) (n : Nat) (f : FuncId) : Bool :=
  match (ev (cxOf P) n).call f [] ⟨.leaf, 0⟩ with
  | some (.bool true, _) => true
  | _ => false

theorem calls_of_says {P : Program} {n : Nat} {f : FuncId} (hn : named P = true) (h : says P n f = true) (w : World) : Calls P f #[] w fun e w' => e = .returned (.bool true) ∧ RowKit.Below w.heap.size w w' := by
  unfold says at h
  split at h
  · rename_i H' hc
    exact calls_of_ev (cxOf_ok hn) (fun f g hg => by simp [cxOf, T.get_leaf] at hg) (fun f g hg => by simp [cxOf, T.get_leaf] at hg) hc w
  · simp at h
end Go.Eng
