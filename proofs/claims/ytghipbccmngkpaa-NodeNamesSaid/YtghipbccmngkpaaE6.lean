/- Engine, part 6: operands, tables and memory. No condition. -/
import Derived.Test.YtghipbccmngkpaaE5
namespace Go.Eng

mutual
theorem ofV_ok (R : Ren) : ∀ (v : Value) (x : AV), ofV v = some x → VR R x v
  | .bool b, x, h => by simp only [ofV, Option.some.injEq] at h; subst h; simp [VR]
  | .int k n, x, h => by simp only [ofV, Option.some.injEq] at h; subst h; simp [VR]
  | .string s, x, h => by simp only [ofV, Option.some.injEq] at h; subst h; exact ⟨s, rfl, (size_data s).symm, rfl⟩
  | .pointer none, x, h => by simp only [ofV, Option.some.injEq] at h; subst h; simp [VR]
  | .pointer (some a), x, h => by simp [ofV] at h
  | .slice none 0 0, x, h => by simp only [ofV, Option.some.injEq] at h; subst h; simp [VR]
  | .slice none 0 (c + 1), x, h => by simp [ofV] at h
  | .slice none (n + 1) c, x, h => by simp [ofV] at h
  | .slice (some a) n c, x, h => by simp [ofV] at h
  | .map none, x, h => by simp only [ofV, Option.some.injEq] at h; subst h; simp [VR]
  | .map (some a), x, h => by simp [ofV] at h
  | .nilFunc, x, h => by simp only [ofV, Option.some.injEq] at h; subst h; simp [VR]
  | .nilIface, x, h => by simp only [ofV, Option.some.injEq] at h; subst h; simp [VR]
  | .agg a, x, h => by
    simp only [ofV] at h
    split at h
    · rename_i l hl
      simp only [Option.some.injEq] at h; subst h
      exact ⟨a.toList, rfl, ofVA_ok R a l hl⟩
    · simp at h
  | .tuple a, x, h => by
    simp only [ofV] at h
    split at h
    · rename_i l hl
      simp only [Option.some.injEq] at h; subst h
      exact ⟨a.toList, rfl, ofVA_ok R a l hl⟩
    · simp at h
  | .float _ _, x, h => by simp [ofV] at h
  | .complex _ _ _, x, h => by simp [ofV] at h
  | .chan _, x, h => by simp [ofV] at h
  | .func _ _ _, x, h => by simp [ofV] at h
  | .iface _ _, x, h => by simp [ofV] at h
theorem ofVA_ok (R : Ren) : ∀ (a : Array Value) (l : List AV), ofVA a = some l → VRL R l a.toList
  | ⟨m⟩, l, h => by simp only [ofVA] at h; exact ofVL_ok R m l h
theorem ofVL_ok (R : Ren) : ∀ (m : List Value) (l : List AV), ofVL m = some l → VRL R l m
  | [], l, h => by simp only [ofVL, Option.some.injEq] at h; subst h; rfl
  | v :: m, l, h => by
    simp only [ofVL] at h
    split at h
    · rename_i x xs hx hxs
      simp only [Option.some.injEq] at h; subst h
      exact ⟨v, m, rfl, ofV_ok R v x hx, ofVL_ok R m xs hxs⟩
    · simp at h
end

theorem EnvR.at_ {R : Ren} {env : T AV} {n : Nat} {tmps : Array Value} (h : EnvR R env n tmps) (t : Nat) : VR R (Eng.look env t) (tmps.getD t undef) := by
  by_cases ht : t < n
  · exact h.get t ht
  · have h1 : Eng.look env t = undefA := by simp [Eng.look, h.out t (by omega)]
    have h2 : tmps.getD t undef = undef := by
      rw [Array.getD_eq_getD_getElem?, Array.getElem?_eq_none (by rw [h.size]; omega)]; rfl
    rw [h1, h2]
    exact ⟨[], rfl, rfl⟩

theorem opd_ok {R : Ren} {env : T AV} {n : Nat} {fr : Frame} (h : EnvR R env n fr.tmps) : ∀ (x : Operand) (a : AV), opd env x = some a → VR R a (fr.eval x)
  | .tmp t, a, e => by simp only [opd, Option.some.injEq] at e; subst e; exact h.at_ t
  | .const v, a, e => ofV_ok R v a e
  | .func f, a, e => by simp only [opd, Option.some.injEq] at e; subst e; exact ⟨[], [], rfl, rfl, rfl⟩
  | .global g, a, e => by simp [opd] at e

theorem opds_ok {R : Ren} {env : T AV} {n : Nat} {fr : Frame} (h : EnvR R env n fr.tmps) : ∀ (xs : List Operand) (as : List AV), opds env xs = some as → VRL R as (xs.map fr.eval)
  | [], as, e => by simp only [opds, Option.some.injEq] at e; subst e; rfl
  | x :: xs, as, e => by
    simp only [opds] at e
    split at e
    · rename_i v vs hv hvs
      simp only [Option.some.injEq] at e; subst e
      exact ⟨_, _, rfl, opd_ok h x v hv, opds_ok h xs vs hvs⟩
    · simp at e

/-- A slot is filled on both sides. -/
theorem EnvR.put {R : Ren} {env env' : T AV} {n : Nat} {tmps : Array Value} (h : EnvR R env n tmps) {dst : Option Tmp} {x : AV} {v : Value} (hv : VR R x v) (hs : setD n env dst x = some env') : EnvR R env' n (putT tmps dst v) := by
  cases dst with
  | none => simp only [setD, Option.some.injEq] at hs; subst hs; exact h
  | some d =>
    simp only [setD, cond_eq_ite, Nat.blt_eq] at hs
    split at hs
    · rename_i hd
      have hg := T.get_set _ _ _ _ _ hs
      refine ⟨by simp [putT, h.size], fun t ht => ?_, fun t ht => ?_⟩
      · have hl : Eng.look env' t = if t = d then x else Eng.look env t := by
          unfold Eng.look; rw [hg]; by_cases e : t = d <;> simp [e]
        rw [hl]
        simp only [putT]
        rw [Array.getD_eq_getD_getElem?, Array.getElem?_setIfInBounds]
        by_cases e : t = d
        · subst e; rw [if_pos rfl, if_pos rfl, if_pos (by rw [h.size]; exact ht)]; exact hv
        · rw [if_neg e, if_neg (Ne.symm e), ← Array.getD_eq_getD_getElem?]; exact h.get t ht
      · rw [hg, if_neg (by omega)]; exact h.out t ht
    · simp at hs

structure Ok (P : Program) (X : Cx) : Prop where
  ty : ∀ t i, X.ty.get t = some i → P.info? t = some i
  fn : ∀ (f : FuncId) (g : Func), X.fn.get f = some g → P.funcs[f]? = some g
  nm : ∀ (f : FuncId) (g : Func), P.funcs[f]? = some g → (g.name == "runtime.NumGoroutine") = false

section
variable {P : Program} {X : Cx} (hX : Ok P X)
include hX
theorem Ok.und {t : TypeId} {d : TypeDesc} (h : X.und t = some d) : P.underlying t = some d := by
  simp only [Cx.und] at h
  split at h
  · rename_i i hi
    have h1 := hX.ty _ _ hi
    split at h
    · rename_i nm u hd
      split at h
      · rename_i j hj
        simp only [Option.some.injEq] at h; subst h
        have h2 := hX.ty _ _ hj
        obtain ⟨d0⟩ := i
        simp only at hd; subst hd
        simp [Program.underlying, h1, h2]
      · simp at h
    · rename_i d0 hne
      simp only [Option.some.injEq] at h; subst h
      unfold Program.underlying
      rw [h1]
      split
      · rename_i heq; simp only [Option.some.injEq] at heq; subst heq; exact absurd rfl (hne _ _)
      · rename_i heq; simp only [Option.some.injEq] at heq; subst heq; rfl
      · rename_i heq; simp at heq
  · simp at h
theorem Ok.size {t : TypeId} {n : Nat} (h : X.size t = some n) : ∃ i, P.info? t = some i ∧ i.size = n := by
  simp only [Cx.size] at h
  split at h
  · rename_i i hi
    simp only [Option.some.injEq] at h
    exact ⟨i, hX.ty _ _ hi, h⟩
  · simp at h
theorem Ok.run_und {t : TypeId} {d : TypeDesc} (h : X.und t = some d) (w : World) : (underlying t).run P w = .ok d w := run_underlying (hX.und h) w
theorem Ok.run_size {t : TypeId} {n : Nat} (h : X.size t = some n) (w : World) : (sizeOf t).run P w = .ok n w := by
  obtain ⟨i, h1, h2⟩ := hX.size h
  simp [sizeOf, typeInfo, h1, h2]
theorem Ok.run_isAgg {t : TypeId} {d : TypeDesc} (h : X.und t = some d) (w : World) : (isAgg t).run P w = .ok (isAggD d) w := by
  unfold isAgg
  simp only [Sem.run_bind, hX.run_und h, Result.andThen]
  cases d <;> rfl
theorem Ok.zero (R : Ren) {t : TypeId} {x : AV} (h : zeroA X t = some x) : ∃ i v, P.info? t = some i ∧ i.zero = some v ∧ VR R x v := by
  simp only [zeroA] at h
  split at h
  · rename_i i hi
    split at h
    · rename_i z hz
      exact ⟨i, z, hX.ty _ _ hi, hz, ofV_ok R z x h⟩
    · simp at h
  · simp at h
theorem Ok.run_zero (R : Ren) {t : TypeId} {x : AV} (h : zeroA X t = some x) (w : World) : ∃ v, (zeroValue t).run P w = .ok v w ∧ VR R x v := by
  obtain ⟨i, v, h1, h2, h3⟩ := hX.zero R h
  exact ⟨v, by simp [zeroValue, typeInfo, h1, h2], h3⟩
end

theorem cells_ok {R : Ren} : ∀ {x : AV} {v : Value}, VR R x v → VRL R (cellsA x) v.cells.toList := by
  intro x v h
  cases x with
  | agg l => obtain ⟨l', rfl, h1⟩ := h; exact h1
  | bool b => simp only [VR] at h; subst h; exact ⟨_, _, rfl, by simp [VR], rfl⟩
  | int k n => simp only [VR] at h; subst h; exact ⟨_, _, rfl, by simp [VR], rfl⟩
  | str n b => obtain ⟨s, rfl, h1⟩ := h; exact ⟨_, _, rfl, ⟨s, rfl, h1⟩, rfl⟩
  | nilPtr => simp only [VR] at h; subst h; exact ⟨_, _, rfl, by simp [VR], rfl⟩
  | ptr A o => obtain ⟨b, d, c, h1, rfl⟩ := h; exact ⟨_, _, rfl, ⟨b, d, c, h1, rfl⟩, rfl⟩
  | nilSlice => simp only [VR] at h; subst h; exact ⟨_, _, rfl, by simp [VR], rfl⟩
  | slice A o n cc => obtain ⟨b, d, c, h1, rfl⟩ := h; exact ⟨_, _, rfl, ⟨b, d, c, h1, rfl⟩, rfl⟩
  | emptySl => obtain ⟨a, c, rfl⟩ := h; exact ⟨_, _, rfl, ⟨a, c, rfl⟩, rfl⟩
  | nilMap => simp only [VR] at h; subst h; exact ⟨_, _, rfl, by simp [VR], rfl⟩
  | map A => obtain ⟨b, d, c, h1, rfl⟩ := h; exact ⟨_, _, rfl, ⟨b, d, c, h1, rfl⟩, rfl⟩
  | func f xs ys => obtain ⟨xs', ys', rfl, h1, h2⟩ := h; exact ⟨_, _, rfl, ⟨xs', ys', rfl, h1, h2⟩, rfl⟩
  | yieldTo A => obtain ⟨b, d, c, h1, rfl⟩ := h; exact ⟨_, _, rfl, ⟨b, d, c, h1, rfl⟩, rfl⟩
  | nilFunc => simp only [VR] at h; subst h; exact ⟨_, _, rfl, by simp [VR], rfl⟩
  | iface t x => obtain ⟨x', rfl, h1⟩ := h; exact ⟨_, _, rfl, ⟨x', rfl, h1⟩, rfl⟩
  | nilIface => simp only [VR] at h; subst h; exact ⟨_, _, rfl, by simp [VR], rfl⟩
  | tuple l => obtain ⟨l', rfl, h1⟩ := h; exact ⟨_, _, rfl, ⟨l', rfl, h1⟩, rfl⟩

def oneV : Value → Prop
  | .agg _ => False
  | .tuple _ => False
  | _ => True
theorem isCell_ok {R : Ren} {x : AV} {v : Value} (h : VR R x v) (hc : isCell x = true) : oneV v := by
  cases x with
  | agg l => simp [isCell] at hc
  | tuple l => simp [isCell] at hc
  | bool b => simp only [VR] at h; subst h; trivial
  | int k n => simp only [VR] at h; subst h; trivial
  | str n b => obtain ⟨s, rfl, h1⟩ := h; trivial
  | nilPtr => simp only [VR] at h; subst h; trivial
  | ptr A o => obtain ⟨b, d, c, h1, rfl⟩ := h; trivial
  | nilSlice => simp only [VR] at h; subst h; trivial
  | slice A o n cc => obtain ⟨b, d, c, h1, rfl⟩ := h; trivial
  | emptySl => obtain ⟨a, c, rfl⟩ := h; trivial
  | nilMap => simp only [VR] at h; subst h; trivial
  | map A => obtain ⟨b, d, c, h1, rfl⟩ := h; trivial
  | func f xs ys => obtain ⟨xs', ys', rfl, h1, h2⟩ := h; trivial
  | yieldTo A => obtain ⟨b, d, c, h1, rfl⟩ := h; trivial
  | nilFunc => simp only [VR] at h; subst h; trivial
  | iface t x => obtain ⟨x', rfl, h1⟩ := h; trivial
  | nilIface => simp only [VR] at h; subst h; trivial
theorem allCells_ok {R : Ren} : ∀ {l : List AV} {m : List Value}, VRL R l m → allCells l = true → ∀ v ∈ m, oneV v
  | [], m, h, _ => by simp only [VRL] at h; subst h; simp
  | x :: l, m, h, hc => by
    obtain ⟨x', m', rfl, h1, h2⟩ := h
    simp only [allCells, Bool.and_eq_true] at hc
    intro v hv
    rcases List.mem_cons.1 hv with rfl | hv
    · exact isCell_ok h1 hc.1
    · exact allCells_ok h2 hc.2 v hv
end Go.Eng
