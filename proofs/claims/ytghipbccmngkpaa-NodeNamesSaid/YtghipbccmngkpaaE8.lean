/- Engine, part 8: operators. No condition. -/
import Derived.Test.YtghipbccmngkpaaE7
namespace Go.Eng

def RFn (R : Ren) : Prop := ∀ A b d c b' d' c', R A b d c → R A b' d' c' → b = b' ∧ d = d' ∧ c = c'

theorem bits_and {k : IntKind} {m n : Nat} (hm : m < kmod k) (hn : n < kmod k) : (BitVec.ofInt k.bits (Int.ofNat m) &&& BitVec.ofInt k.bits (Int.ofNat n)).toNat = Nat.land m n := by
  have e1 : (BitVec.ofInt k.bits (Int.ofNat m)).toNat = m := by
    cases k <;> simp [BitVec.toNat_ofInt, IntKind.bits, kmod] at * <;> omega
  have e2 : (BitVec.ofInt k.bits (Int.ofNat n)).toNat = n := by
    cases k <;> simp [BitVec.toNat_ofInt, IntKind.bits, kmod] at * <;> omega
  rw [BitVec.toNat_and, e1, e2]; rfl
theorem bits_or {k : IntKind} {m n : Nat} (hm : m < kmod k) (hn : n < kmod k) : (BitVec.ofInt k.bits (Int.ofNat m) ||| BitVec.ofInt k.bits (Int.ofNat n)).toNat = Nat.lor m n := by
  have e1 : (BitVec.ofInt k.bits (Int.ofNat m)).toNat = m := by
    cases k <;> simp [BitVec.toNat_ofInt, IntKind.bits, kmod] at * <;> omega
  have e2 : (BitVec.ofInt k.bits (Int.ofNat n)).toNat = n := by
    cases k <;> simp [BitVec.toNat_ofInt, IntKind.bits, kmod] at * <;> omega
  rw [BitVec.toNat_or, e1, e2]; rfl
theorem bits_xor {k : IntKind} {m n : Nat} (hm : m < kmod k) (hn : n < kmod k) : (BitVec.ofInt k.bits (Int.ofNat m) ^^^ BitVec.ofInt k.bits (Int.ofNat n)).toNat = Nat.xor m n := by
  have e1 : (BitVec.ofInt k.bits (Int.ofNat m)).toNat = m := by
    cases k <;> simp [BitVec.toNat_ofInt, IntKind.bits, kmod] at * <;> omega
  have e2 : (BitVec.ofInt k.bits (Int.ofNat n)).toNat = n := by
    cases k <;> simp [BitVec.toNat_ofInt, IntKind.bits, kmod] at * <;> omega
  rw [BitVec.toNat_xor, e1, e2]; rfl

theorem abits_slow {op : BinOp} {k : IntKind} {a b : Int} {r : AV} (h : abits.slow op k a b = some r) {P : Program} {w : World} : ∃ n, r = .int k n ∧ (Op.intBits op k a b).run P w = .ok (.int k n) w := by
  cases op <;> simp only [abits.slow, fI_eq, Option.some.injEq] at h <;> first | (subst h; exact ⟨_, rfl, rfl⟩) | (simp at h)

theorem abits_ok {op : BinOp} {k : IntKind} {a b : Int} {r : AV} (h : abits op k a b = some r) {P : Program} {w : World} : ∃ n, r = .int k n ∧ (Op.intBits op k a b).run P w = .ok (.int k n) w := by
  unfold abits at h
  split at h
  · rename_i m n
    rw [cond_eq_ite] at h
    split at h
    · rename_i hc
      simp only [Bool.and_eq_true, Nat.blt_eq] at hc
      rw [mkI_eq, Option.some.injEq] at h; subst h
      refine ⟨_, rfl, ?_⟩
      simp only [Op.intBits, bits_and hc.1.2 hc.2]; rfl
    · exact abits_slow h
  · rename_i m n
    rw [cond_eq_ite] at h
    split at h
    · rename_i hc
      simp only [Bool.and_eq_true, Nat.blt_eq] at hc
      rw [mkI_eq, Option.some.injEq] at h; subst h
      refine ⟨_, rfl, ?_⟩
      simp only [Op.intBits, bits_or hc.1.2 hc.2]; rfl
    · exact abits_slow h
  · rename_i m n
    rw [cond_eq_ite] at h
    split at h
    · rename_i hc
      simp only [Bool.and_eq_true, Nat.blt_eq] at hc
      rw [mkI_eq, Option.some.injEq] at h; subst h
      refine ⟨_, rfl, ?_⟩
      simp only [Op.intBits, bits_xor hc.1.2 hc.2]; rfl
    · exact abits_slow h
  · exact abits_slow h

theorem abinI_ok {op : BinOp} {k k' : IntKind} {a b : Int} {r : AV} (h : abinI op k a k' b = some r) {P : Program} {t : TypeId} {w : World} (R : Ren) :
    ∃ z, (binOp op t (.int k a) (.int k' b)).run P w = .ok z w ∧ VR R r z := by
  cases op
  case shl =>
    cases b with
    | negSucc m => simp [abinI] at h
    | ofNat m =>
      simp only [abinI, mkI_eq, Option.some.injEq] at h; subst h
      refine ⟨_, ?_, rfl⟩
      simp [binOp, Op.shift, Sem.run_pure, Nat.min_def]
      intro hneg; omega
  case shr =>
    cases b with
    | negSucc m => simp [abinI] at h
    | ofNat m =>
      simp only [abinI, fI_eq, Option.some.injEq] at h; subst h
      refine ⟨_, ?_, rfl⟩
      simp [binOp, Op.shift, Sem.run_pure, Nat.min_def]
      intro hneg; omega
  all_goals
    simp only [abinI, keq_eq] at h
    rw [cond_eq_ite] at h
    split at h
    rotate_left
    · simp at h
    rename_i hk
    simp only [decide_eq_true_eq] at hk
    subst hk
  case add => rw [mkI_eq, Option.some.injEq] at h; subst h; exact ⟨_, by simp [binOp, Op.intArith, Sem.run_pure], rfl⟩
  case sub => rw [mkI_eq, Option.some.injEq] at h; subst h; exact ⟨_, by simp [binOp, Op.intArith, Sem.run_pure], rfl⟩
  case mul => rw [mkI_eq, Option.some.injEq] at h; subst h; exact ⟨_, by simp [binOp, Op.intArith, Sem.run_pure], rfl⟩
  case quo =>
    rw [ieq_eq, cond_eq_ite] at h
    split at h
    · simp at h
    · rename_i hb
      rw [mkI_eq, Option.some.injEq] at h; subst h
      have hb' : ¬ b = 0 := by simpa using hb
      exact ⟨_, by simp [binOp, Op.intDiv, hb', Sem.run_pure], rfl⟩
  case rem =>
    rw [ieq_eq, cond_eq_ite] at h
    split at h
    · simp at h
    · rename_i hb
      rw [fI_eq, Option.some.injEq] at h; subst h
      have hb' : ¬ b = 0 := by simpa using hb
      exact ⟨_, by simp [binOp, Op.intDiv, hb', Sem.run_pure], rfl⟩
  case and => obtain ⟨n, rfl, hr⟩ := abits_ok (P := P) (w := w) h; exact ⟨_, by simp [binOp, hr], rfl⟩
  case or => obtain ⟨n, rfl, hr⟩ := abits_ok (P := P) (w := w) h; exact ⟨_, by simp [binOp, hr], rfl⟩
  case xor => obtain ⟨n, rfl, hr⟩ := abits_ok (P := P) (w := w) h; exact ⟨_, by simp [binOp, hr], rfl⟩
  case andNot => obtain ⟨n, rfl, hr⟩ := abits_ok (P := P) (w := w) h; exact ⟨_, by simp [binOp, hr], rfl⟩
  case eql => rw [mkB_eq, Option.some.injEq, ieq_eq] at h; subst h; exact ⟨_, by simp [binOp, Op.intCmp, Sem.run_pure], rfl⟩
  case neq => rw [mkB_eq, Option.some.injEq, ieq_eq] at h; subst h; exact ⟨_, by simp [binOp, Op.intCmp, Sem.run_pure]; rfl, rfl⟩
  case lss => rw [mkB_eq, Option.some.injEq, ilt_eq] at h; subst h; exact ⟨_, by simp [binOp, Op.intCmp, Sem.run_pure], rfl⟩
  case leq =>
    rw [mkB_eq, Option.some.injEq, ilt_eq] at h; subst h
    refine ⟨.bool (decide (a ≤ b)), by simp [binOp, Op.intCmp, Sem.run_pure], ?_⟩
    simp only [VR, Value.bool.injEq]; rw [Bool.eq_iff_iff]; simp
  case gtr => rw [mkB_eq, Option.some.injEq, ilt_eq] at h; subst h; exact ⟨.bool (decide (b < a)), by simp [binOp, Op.intCmp, Sem.run_pure], rfl⟩
  case geq =>
    rw [mkB_eq, Option.some.injEq, ilt_eq] at h; subst h
    refine ⟨.bool (decide (b ≤ a)), by simp [binOp, Op.intCmp, Sem.run_pure], ?_⟩
    simp only [VR, Value.bool.injEq]; rw [Bool.eq_iff_iff]; simp

theorem str_eq (s u : ByteArray) : (Nat.beq s.size u.size && Nat.beq (pack s.data.toList) (pack u.data.toList)) = (s.data.toList == u.data.toList) := by
  rw [Bool.eq_iff_iff]
  simp only [Bool.and_eq_true, Nat.beq_eq, beq_iff_eq]
  constructor
  · rintro ⟨h1, h2⟩
    exact pack_inj _ _ (by rw [size_data, size_data]; exact h1) h2
  · intro h
    refine ⟨?_, by rw [h]⟩
    rw [← size_data, ← size_data, h]

theorem abinS_ok {op : BinOp} {s u : ByteArray} {r : AV} (h : abinS op s.size (pack s.data.toList) u.size (pack u.data.toList) = some r) {P : Program} {t : TypeId} {w : World} (R : Ren) :
    ∃ z, (binOp op t (.string s) (.string u)).run P w = .ok z w ∧ VR R r z := by
  have hl : sless s.size (pack s.data.toList) u.size (pack u.data.toList) = Op.bytesLess s.data.toList u.data.toList := by
    rw [← size_data, ← size_data]; exact sless_eq _ _
  cases op <;> simp only [abinS, str_eq, hl] at h
  case add =>
    rw [cond_eq_ite] at h
    split at h
    · rename_i hc
      rw [Nat.blt_eq] at hc
      rw [mkS_eq, Option.some.injEq] at h; subst h
      refine ⟨.string (s ++ u), ?_, s ++ u, rfl, ByteArray.size_append, ?_⟩
      · have : ¬ (((s.size + u.size : Nat) : Int) > IntKind.i64.max) := by
          simp only [IntKind.max, IntKind.signed, IntKind.bits]; simp; omega
        simp only [binOp, Op.stringOp]
        rw [if_neg this]; rfl
      · rw [ByteArray.data_append, Array.toList_append, pack_append, size_data, pow8]
    · simp at h
  case eql => rw [mkB_eq, Option.some.injEq] at h; subst h; exact ⟨_, by simp [binOp, Op.stringOp, toList_data, Sem.run_pure], rfl⟩
  case neq => rw [mkB_eq, Option.some.injEq] at h; subst h; exact ⟨_, by simp [binOp, Op.stringOp, toList_data, Sem.run_pure], rfl⟩
  case lss => rw [mkB_eq, Option.some.injEq] at h; subst h; exact ⟨_, by simp [binOp, Op.stringOp, toList_data, Sem.run_pure], rfl⟩
  case leq => rw [mkB_eq, Option.some.injEq] at h; subst h; exact ⟨_, by simp [binOp, Op.stringOp, toList_data, Sem.run_pure], rfl⟩
  case gtr => rw [mkB_eq, Option.some.injEq] at h; subst h; exact ⟨_, by simp only [binOp, Op.stringOp, toList_data]; rfl, rfl⟩
  case geq => rw [mkB_eq, Option.some.injEq] at h; subst h; exact ⟨_, by simp [binOp, Op.stringOp, toList_data, Sem.run_pure], rfl⟩
  all_goals simp at h
end Go.Eng
