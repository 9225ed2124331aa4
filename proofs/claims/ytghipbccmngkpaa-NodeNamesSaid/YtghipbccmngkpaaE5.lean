/- Engine, part 5: the evaluator's helpers on numbers, texts and lists say what the model's say. No condition. -/
import Derived.Test.YtghipbccmngkpaaE4
import Derived.Lib.Strings
import Derived.WalkKit
import Derived.Deep.DeepAppendWide
namespace Go.Eng

theorem wrap_of_range {k : IntKind} {n : Int} (h0 : k.min ≤ n) (h1 : n ≤ k.max) : k.wrap n = n := by
  cases k <;> simp [IntKind.wrap, IntKind.signed, IntKind.bits, IntKind.min, IntKind.max] at * <;> omega

theorem fwrap_eq (k : IntKind) (n : Int) : fwrap k n = k.wrap n := by
  cases n with
  | ofNat m =>
    simp only [fwrap]
    cases hs : k.signed with
    | true =>
      simp only [cond_true]
      cases hb : Nat.blt m (khalf k) with
      | false => rfl
      | true =>
        have hb' : m < khalf k := by rw [← Nat.blt_eq]; exact hb
        simp only [cond_true]
        symm
        apply wrap_of_range <;> cases k <;> simp [IntKind.signed, khalf, IntKind.min, IntKind.max, IntKind.bits] at * <;> omega
    | false =>
      simp only [cond_false]
      cases k <;> simp [IntKind.signed, IntKind.wrap, IntKind.bits, kmod] at *
  | negSucc m =>
    simp only [fwrap]
    cases hb : (k.signed && Nat.blt m (khalf k)) with
    | false => rfl
    | true =>
      simp only [cond_true]
      rw [Bool.and_eq_true] at hb
      have hb' : m < khalf k := by rw [← Nat.blt_eq]; exact hb.2
      symm
      apply wrap_of_range <;> cases k <;> simp [IntKind.signed, khalf, IntKind.min, IntKind.max, IntKind.bits] at * <;> omega

theorem ilt_eq (a b : Int) : ilt a b = decide (a < b) := by
  cases a <;> cases b <;> simp only [ilt] <;> rw [Bool.eq_iff_iff] <;> simp [Nat.blt_eq] <;> omega
theorem ieq_eq (a b : Int) : ieq a b = (a == b) := by
  cases a <;> cases b <;> simp only [ieq] <;> rw [Bool.eq_iff_iff] <;> simp [Nat.beq_eq] <;> omega
theorem keq_eq (a b : IntKind) : keq a b = decide (a = b) := by
  cases a <;> cases b <;> rfl

theorem fN_eq {α : Type} (n : Nat) (k : Nat → α) : fN n k = k n := by cases n <;> rfl
theorem fI_eq {α : Type} (n : Int) (k : Int → α) : fI n k = k n := by cases n <;> simp [fI, fN_eq]
theorem mkI_eq (k : IntKind) (n : Int) : mkI k n = some (.int k (k.wrap n)) := by simp [mkI, fI_eq, fwrap_eq]
theorem mkB_eq (b : Bool) : mkB b = some (.bool b) := by cases b <;> rfl
theorem mkS_eq (l b : Nat) : mkS l b = some (.str l b) := by simp [mkS, fN_eq]

theorem lenL_eq (l : List AV) (n : Nat) : lenL l n = l.length + n := by
  induction l generalizing n with
  | nil => simp [lenL]
  | cons x l ih => simp [lenL, ih]; omega
theorem lenL_zero (l : List AV) : lenL l 0 = l.length := by rw [lenL_eq]; rfl

/-- Texts. -/
theorem pack_lt : ∀ l : List UInt8, pack l < 256 ^ l.length
  | [] => by simp [pack]
  | b :: l => by
    have h := pack_lt l
    have hb : b.toNat < 256 := b.toNat_lt
    simp only [pack, List.length_cons, Nat.pow_succ]
    omega
theorem pack_inj : ∀ l m : List UInt8, l.length = m.length → pack l = pack m → l = m
  | [], [], _, _ => rfl
  | [], _ :: _, h, _ => by simp at h
  | _ :: _, [], h, _ => by simp at h
  | b :: l, c :: m, hl, h => by
    have hb : b.toNat < 256 := b.toNat_lt
    have hc : c.toNat < 256 := c.toNat_lt
    simp only [pack] at h
    have h1 : b.toNat = c.toNat := by omega
    have h2 : pack l = pack m := by omega
    rw [UInt8.toNat_inj.1 h1, pack_inj l m (by simpa using hl) h2]
theorem pow8 (n : Nat) : 2 ^ (8 * n) = 256 ^ n := by rw [Nat.pow_mul]
theorem pack_append (l m : List UInt8) : pack (l ++ m) = pack l + pack m * 256 ^ l.length := by
  induction l with
  | nil => simp [pack]
  | cons b l ih =>
    simp only [List.cons_append, pack, ih, List.length_cons, Nat.pow_succ]
    rw [Nat.mul_add, Nat.add_assoc, Nat.mul_left_comm 256 (pack m), Nat.mul_comm 256 (256 ^ l.length)]
theorem pack_drop (l : List UInt8) (n : Nat) : pack (l.drop n) = pack l / 256 ^ n := by
  induction n generalizing l with
  | zero => simp
  | succ n ih =>
    cases l with
    | nil => simp [pack]
    | cons b l =>
      have hb : b.toNat < 256 := b.toNat_lt
      rw [List.drop_succ_cons, ih, pack, Nat.pow_succ, Nat.mul_comm (256 ^ n), ← Nat.div_div_eq_div_mul]
      congr 1; omega
theorem pack_take (l : List UInt8) (n : Nat) : pack (l.take n) = pack l % 256 ^ n := by
  induction n generalizing l with
  | zero => simp [pack, Nat.mod_one]
  | succ n ih =>
    cases l with
    | nil => simp [pack]
    | cons b l =>
      have hb : b.toNat < 256 := b.toNat_lt
      have e : (b.toNat + 256 * pack l) / 256 = pack l := by omega
      rw [List.take_succ_cons, pack, pack, ih, Nat.pow_succ, Nat.mul_comm (256 ^ n), Nat.mod_mul, e]
      omega
theorem pack_get (l : List UInt8) (i : Nat) (h : i < l.length) : l[i].toNat = pack l / 256 ^ i % 256 := by
  rw [← pack_drop, List.drop_eq_getElem_cons h, pack]
  have hb : l[i].toNat < 256 := l[i].toNat_lt
  omega
theorem sless_eq : ∀ (l m : List UInt8), sless l.length (pack l) m.length (pack m) = Op.bytesLess l m
  | [], [] => rfl
  | [], _ :: _ => rfl
  | b :: l, [] => rfl
  | b :: l, c :: m => by
    have hb : b.toNat < 256 := b.toNat_lt
    have hc : c.toNat < 256 := c.toNat_lt
    have e1 : pack (b :: l) % 256 = b.toNat := by simp only [pack]; omega
    have e2 : pack (c :: m) % 256 = c.toNat := by simp only [pack]; omega
    have e3 : pack (b :: l) / 256 = pack l := by simp only [pack]; omega
    have e4 : pack (c :: m) / 256 = pack m := by simp only [pack]; omega
    simp only [List.length_cons, sless, Op.bytesLess, e1, e2, e3, e4, sless_eq l m]
    congr 1
    · rw [Bool.eq_iff_iff]; simp [Nat.blt_eq, UInt8.lt_iff_toNat_lt]
    · congr 1
      rw [Bool.eq_iff_iff]; simp [Nat.beq_eq, UInt8.toNat_inj]

theorem toList_data (s : ByteArray) : s.toList = s.data.toList := Lib.toList_data s
theorem size_data (s : ByteArray) : s.data.toList.length = s.size := by rw [Array.length_toList]; rfl

/-- Lists. -/
theorem takeN_eq : ∀ (n : Nat) (l r : List AV), takeN n l = some r → r = l.take n ∧ n ≤ l.length
  | 0, l, r, h => by simp [takeN] at h; simp [← h]
  | n + 1, [], r, h => by simp [takeN] at h
  | n + 1, x :: l, r, h => by
    simp only [takeN] at h
    split at h
    · rename_i r' hr
      obtain ⟨rfl, hn⟩ := takeN_eq n l r' hr
      simp only [Option.some.injEq] at h; subst h
      simp [hn]
    · simp at h
theorem subN_eq : ∀ (l : List AV) (o n : Nat) (r : List AV), subN l o n = some r → r = (l.drop o).take n ∧ (n = 0 ∨ o + n ≤ l.length)
  | l, 0, n, r, h => by
    cases l <;> (simp only [subN] at h; obtain ⟨h1, h2⟩ := takeN_eq _ _ _ h; exact ⟨by simpa using h1, .inr (by omega)⟩)
  | x :: l, o + 1, n, r, h => by
    simp only [subN] at h
    obtain ⟨h1, h2⟩ := subN_eq l o n r h
    exact ⟨by simpa using h1, by rcases h2 with h2 | h2 <;> simp <;> omega⟩
  | [], o + 1, n, r, h => by
    simp only [subN, cond_eq_ite, Nat.beq_eq] at h
    split at h
    · simp only [Option.some.injEq] at h; subst h; simp_all
    · simp at h
theorem nth_eq : ∀ (l : List AV) (n : Nat), nth l n = l[n]?
  | [], n => by cases n <;> rfl
  | x :: l, 0 => rfl
  | x :: l, n + 1 => by simp [nth, nth_eq l n]
theorem over_eq : ∀ (l new r : List AV), over l new = some r → r = new ++ l.drop new.length ∧ new.length ≤ l.length
  | l, [], r, h => by cases l <;> simp_all [over]
  | [], y :: ys, r, h => by simp [over] at h
  | x :: l, y :: ys, r, h => by
    simp only [over] at h
    split at h
    · rename_i r' hr
      obtain ⟨rfl, hn⟩ := over_eq l ys r' hr
      simp only [Option.some.injEq] at h; subst h
      simp [hn]
    · simp at h
theorem setAt_eq : ∀ (l : List AV) (n : Nat) (new r : List AV), setAt l n new = some r → r = l.take n ++ new ++ l.drop (n + new.length) ∧ n + new.length ≤ l.length
  | l, 0, new, r, h => by
    have h' : over l new = some r := by cases l <;> simpa only [setAt] using h
    obtain ⟨rfl, hn⟩ := over_eq l new r h'
    exact ⟨by simp, by omega⟩
  | x :: l, n + 1, new, r, h => by
    simp only [setAt] at h
    split at h
    · rename_i r' hr
      obtain ⟨rfl, hn⟩ := setAt_eq l n new r' hr
      simp only [Option.some.injEq] at h; subst h
      refine ⟨?_, by simp; omega⟩
      rw [show n + 1 + new.length = (n + new.length) + 1 from by omega]
      simp
    · simp at h
  | [], n + 1, new, r, h => by simp [setAt] at h
theorem rep_eq (n : Nat) (z : List AV) : rep n z = (List.replicate n z).flatten := by
  induction n with
  | zero => rfl
  | succ n ih => simp [rep, ih, List.replicate_succ]
theorem rep_length (n : Nat) (z : List AV) : (rep n z).length = n * z.length := by
  induction n with
  | zero => simp [rep]
  | succ n ih => simp [rep, ih, Nat.succ_mul]; omega
theorem nthP_eq : ∀ (l : List (Nat × Nat)) (n : Nat), nthP l n = l[n]?
  | [], n => by cases n <;> rfl
  | x :: l, 0 => rfl
  | x :: l, n + 1 => by simp [nthP, nthP_eq l n]
theorem nthF_eq : ∀ (l : List Field) (n : Nat), nthF l n = l[n]?
  | [], n => by cases n <;> rfl
  | x :: l, 0 => rfl
  | x :: l, n + 1 => by simp [nthF, nthF_eq l n]
theorem nthO_eq : ∀ (l : List Oper) (n : Nat), nthO l n = l[n]?
  | [], n => by cases n <;> rfl
  | x :: l, 0 => rfl
  | x :: l, n + 1 => by simp [nthO, nthO_eq l n]

end Go.Eng
