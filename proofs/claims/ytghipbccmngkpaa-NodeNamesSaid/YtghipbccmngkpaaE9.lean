/- Engine, part 9: the operations that touch no memory. No condition. -/
import Derived.Test.YtghipbccmngkpaaE8
import Derived.Laws.Tables
namespace Go.Eng

theorem bytes_beq (s t : ByteArray) : (s == t) = (s.data.toList == t.data.toList) := by
  have h : (s == t) = (s.data == t.data) := rfl
  rw [h, Bool.eq_iff_iff]; simp [← Array.toList_inj]

section
variable {P : Program} {X : Cx} (hX : Ok P X) {R : Ren} (hR : RFn R) {w : World}
include hX hR

theorem aeq_ok {n m : Nat} {t : TypeId} {x y : AV} {v u : Value} {b : Bool} (h : aeq X n t x y = some b) (hv : VR R x v) (hu : VR R y u) : (Op.equalIn (m + 1) t v u).run P w = .ok b w := by
  cases n with
  | zero => simp [aeq] at h
  | succ n =>
    simp only [aeq] at h
    split at h
    · rename_i hd
      have e := hX.run_und hd w
      cases x <;> cases y <;> simp at h
      simp only [VR] at hv hu; subst hv hu h
      simp [Op.equalIn, Sem.run_bind, e, Sem.run_pure]
    · rename_i hd
      have e := hX.run_und hd w
      cases x <;> cases y <;> simp [cond_eq_ite, keq_eq, ieq_eq] at h
      obtain ⟨rfl, rfl⟩ := h
      simp only [VR] at hv hu; subst hv hu
      simp [Op.equalIn, Sem.run_bind, e, Sem.run_pure]
    · rename_i hd
      have e := hX.run_und hd w
      cases x <;> cases y <;> simp at h
      obtain ⟨s, rfl, rfl, rfl⟩ := hv
      obtain ⟨s', rfl, rfl, rfl⟩ := hu
      rw [← h, str_eq s s', ← bytes_beq]
      simp [Op.equalIn, Sem.run_bind, e, Sem.run_pure]
    · rename_i el hd
      have e := hX.run_und hd w
      cases x <;> cases y <;> simp at h
      · simp only [VR] at hv hu; subst hv hu h
        simp [Op.equalIn, Sem.run_bind, e, Sem.run_pure]
      · simp only [VR] at hv; obtain ⟨b1, d1, c1, r1, rfl⟩ := hu; subst hv h
        simp [Op.equalIn, Sem.run_bind, e, Sem.run_pure]
      · simp only [VR] at hu; obtain ⟨b1, d1, c1, r1, rfl⟩ := hv; subst hu h
        simp [Op.equalIn, Sem.run_bind, e, Sem.run_pure]
      · obtain ⟨b1, d1, c1, r1, rfl⟩ := hv
        obtain ⟨b2, d2, c2, r2, rfl⟩ := hu
        split at h
        · simp at h
        · rename_i k hk hs
          have es := hX.run_size hs w
          rw [cond_eq_ite] at h
          split at h
          · rename_i hA
            rw [Nat.beq_eq] at hA; subst hA
            obtain ⟨rfl, rfl, rfl⟩ := hR _ _ _ _ _ _ _ r1 r2
            simp only [Option.some.injEq] at h; subst h
            have hk' : ¬ k = 0 := fun h0 => hk (by rw [h0])
            simp only [Op.equalIn, Sem.run_bind, e, es, Result.andThen, ne_eq, hk', not_false_eq_true, if_true, sameAddr, beq_self_eq_true]
            simp only [Sem.run_pure]
            congr 1
            rw [Bool.eq_iff_iff]; simp [Nat.beq_eq]
          · simp at h
        · simp at h
    · rename_i el hd
      have e := hX.run_und hd w
      cases x <;> cases y <;> simp at h
      · simp only [VR] at hv hu; subst hv hu h
        simp [Op.equalIn, Sem.run_bind, e, Sem.run_pure]
      · simp only [VR] at hv; obtain ⟨b1, d1, c1, r1, rfl⟩ := hu; subst hv h
        simp [Op.equalIn, Sem.run_bind, e, Sem.run_pure]
      · simp only [VR] at hu; obtain ⟨b1, d1, c1, r1, rfl⟩ := hv; subst hu h
        simp [Op.equalIn, Sem.run_bind, e, Sem.run_pure]
    · rename_i el el2 hd
      have e := hX.run_und hd w
      cases x <;> cases y <;> simp at h
      · simp only [VR] at hv hu; subst hv hu h
        simp [Op.equalIn, Sem.run_bind, e, Sem.run_pure]
      · simp only [VR] at hv; obtain ⟨b1, d1, c1, r1, rfl⟩ := hu; subst hv h
        simp [Op.equalIn, Sem.run_bind, e, Sem.run_pure]
      · simp only [VR] at hu; obtain ⟨b1, d1, c1, r1, rfl⟩ := hv; subst hu h
        simp [Op.equalIn, Sem.run_bind, e, Sem.run_pure]
    · rename_i f1 f2 f3 hd
      have e := hX.run_und hd w
      cases x <;> cases y <;> simp at h
      · obtain ⟨xs, ys, rfl, _⟩ := hv; simp only [VR] at hu; subst hu h
        simp [Op.equalIn, Sem.run_bind, e, Sem.run_pure]
      · simp only [VR] at hv; obtain ⟨xs, ys, rfl, _⟩ := hu; subst hv h
        simp [Op.equalIn, Sem.run_bind, e, Sem.run_pure]
      · simp only [VR] at hv hu; subst hv hu h
        simp [Op.equalIn, Sem.run_bind, e, Sem.run_pure]
    · simp at h
end

/-- The guard ahead of '==' lets by what is neither a struct, an array nor a nil interface. -/
theorem eqGuard_ok {P : Program} {w : World} {op : BinOp} {t : TypeId} {ox oy : Operand} {v u : Value} (h1 : ∀ a, v ≠ .agg a) (h2 : v ≠ .nilIface) : (eqGuard op t ox oy v u).run P w = .ok () w := by
  cases op <;> first
    | rfl
    | (cases v <;> first | (exact absurd rfl (h1 _)) | (exact absurd rfl h2) | rfl)

section
variable {P : Program} {X : Cx} (hX : Ok P X) {R : Ren} (hR : RFn R) {w : World}
include hX hR
theorem abinE_ok {op : BinOp} {t : TypeId} {x y r : AV} {v u : Value} (h : abinE X op t x y = some r) (hv : VR R x v) (hu : VR R y u)
    (n1 : ∀ k n, v ≠ .int k n) (n2 : ∀ s, v ≠ .string s) (n3 : ∀ k n, v ≠ .float k n) (n4 : ∀ k n m, v ≠ .complex k n m) : ∃ z, (binOp op t v u).run P w = .ok z w ∧ VR R r z := by
  unfold abinE at h
  split at h
  · split at h
    · rename_i b hb
      rw [mkB_eq, Option.some.injEq] at h; subst h
      have e := aeq_ok hX hR (w := w) (m := 9999) hb hv hu
      refine ⟨.bool b, ?_, rfl⟩
      have : binOp .eql t v u = (do pure (.bool (← Op.equal t v u)) : Sem Value) := by
        cases v <;> first | (exact absurd rfl (n1 _ _)) | (exact absurd rfl (n2 _)) | (exact absurd rfl (n3 _ _)) | (exact absurd rfl (n4 _ _ _)) | rfl
      rw [this]
      simp only [Op.equal, Op.maxDepth, Sem.run_bind, e, Result.andThen]; rfl
    · simp at h
  · split at h
    · rename_i b hb
      rw [mkB_eq, Option.some.injEq] at h; subst h
      have e := aeq_ok hX hR (w := w) (m := 9999) hb hv hu
      refine ⟨.bool !b, ?_, rfl⟩
      have : binOp .neq t v u = (do pure (.bool (!(← Op.equal t v u))) : Sem Value) := by
        cases v <;> first | (exact absurd rfl (n1 _ _)) | (exact absurd rfl (n2 _)) | (exact absurd rfl (n3 _ _)) | (exact absurd rfl (n4 _ _ _)) | rfl
      rw [this]
      simp only [Op.equal, Op.maxDepth, Sem.run_bind, e, Result.andThen]; rfl
    · simp at h
  · simp at h
theorem abin_ok {op : BinOp} {t : TypeId} {ox oy : Operand} {x y r : AV} {v u : Value} (h : abin X op t x y = some r) (hv : VR R x v) (hu : VR R y u) :
    (eqGuard op t ox oy v u).run P w = .ok () w ∧ ∃ z, (binOp op t v u).run P w = .ok z w ∧ VR R r z := by
  unfold abin at h
  split at h
  · simp only [VR] at hv hu; subst hv hu
    exact ⟨eqGuard_ok (by simp) (by simp), abinI_ok h R⟩
  · obtain ⟨s, rfl, rfl, rfl⟩ := hv
    obtain ⟨s', rfl, rfl, rfl⟩ := hu
    exact ⟨eqGuard_ok (by simp) (by simp), abinS_ok h R⟩
  · rw [cond_eq_ite] at h
    split at h
    · rename_i he
      cases x <;> first | (simp [eqable] at he; done) | skip
      case bool => have e := hv; simp only [VR] at e; subst e; exact ⟨eqGuard_ok (by simp) (by simp), abinE_ok hX hR h hv hu (by simp) (by simp) (by simp) (by simp)⟩
      case nilPtr => have e : v = .pointer none := hv; subst e; exact ⟨eqGuard_ok (by simp) (by simp), abinE_ok hX hR h hv hu (by simp) (by simp) (by simp) (by simp)⟩
      case ptr => obtain ⟨b1, d1, c1, r1, rfl⟩ := id hv; exact ⟨eqGuard_ok (by simp) (by simp), abinE_ok hX hR h hv hu (by simp) (by simp) (by simp) (by simp)⟩
      case nilSlice => have e : v = .slice none 0 0 := hv; subst e; exact ⟨eqGuard_ok (by simp) (by simp), abinE_ok hX hR h hv hu (by simp) (by simp) (by simp) (by simp)⟩
      case slice => obtain ⟨b1, d1, c1, r1, rfl⟩ := id hv; exact ⟨eqGuard_ok (by simp) (by simp), abinE_ok hX hR h hv hu (by simp) (by simp) (by simp) (by simp)⟩
      case emptySl => obtain ⟨a1, c1, rfl⟩ := id hv; exact ⟨eqGuard_ok (by simp) (by simp), abinE_ok hX hR h hv hu (by simp) (by simp) (by simp) (by simp)⟩
      case nilMap => have e : v = .map none := hv; subst e; exact ⟨eqGuard_ok (by simp) (by simp), abinE_ok hX hR h hv hu (by simp) (by simp) (by simp) (by simp)⟩
      case map => obtain ⟨b1, d1, c1, r1, rfl⟩ := id hv; exact ⟨eqGuard_ok (by simp) (by simp), abinE_ok hX hR h hv hu (by simp) (by simp) (by simp) (by simp)⟩
      case func => obtain ⟨xs, ys, rfl, _⟩ := id hv; exact ⟨eqGuard_ok (by simp) (by simp), abinE_ok hX hR h hv hu (by simp) (by simp) (by simp) (by simp)⟩
      case yieldTo => obtain ⟨b1, d1, c1, r1, rfl⟩ := id hv; exact ⟨eqGuard_ok (by simp) (by simp), abinE_ok hX hR h hv hu (by simp) (by simp) (by simp) (by simp)⟩
      case nilFunc => have e : v = .nilFunc := hv; subst e; exact ⟨eqGuard_ok (by simp) (by simp), abinE_ok hX hR h hv hu (by simp) (by simp) (by simp) (by simp)⟩
    · simp at h
end
end Go.Eng
