/- Engine, part 1: trees of numbers, abstract values, and how they stand for the model's values. No condition. -/
import GoSem.Step
import Derived.Control
import Derived.Calls
namespace Go.Eng

/-- A map from numbers, as a tree that goes by their digits. -/
inductive T (α : Type) where
  | leaf
  | node (l : T α) (v : Option α) (r : T α)

namespace T
variable {α : Type}
/-- By the recursor itself: the kernel has less to unfold. -/
noncomputable def get (t : T α) : Nat → Option α :=
  T.rec (motive := fun _ => Nat → Option α) (fun _ => none)
    (fun _ v _ gl gr n => cond (Nat.beq n 0) v (cond (Nat.beq (Nat.mod n 2) 1) (gl (Nat.div n 2)) (gr (Nat.pred (Nat.div n 2))))) t

noncomputable def set (f : Nat) : T α → Nat → α → Option (T α) :=
  Nat.rec (motive := fun _ => T α → Nat → α → Option (T α)) (fun _ _ _ => none)
    (fun _ ih t n a => T.casesOn (motive := fun _ => Option (T α)) t
      (cond (Nat.beq n 0) (some (.node .leaf (some a) .leaf))
        (cond (Nat.beq (Nat.mod n 2) 1)
          (Option.rec none (fun l => some (.node l none .leaf)) (ih .leaf (Nat.div n 2) a))
          (Option.rec none (fun r => some (.node .leaf none r)) (ih .leaf (Nat.pred (Nat.div n 2)) a))))
      (fun l v r => cond (Nat.beq n 0) (some (.node l (some a) r))
        (cond (Nat.beq (Nat.mod n 2) 1)
          (Option.rec none (fun l => some (.node l v r)) (ih l (Nat.div n 2) a))
          (Option.rec none (fun r => some (.node l v r)) (ih r (Nat.pred (Nat.div n 2)) a))))) f

theorem get_leaf (n : Nat) : get (.leaf : T α) n = none := rfl
theorem get_node (l : T α) (v : Option α) (r : T α) (n : Nat) :
    get (.node l v r) n = if n = 0 then v else if n % 2 = 1 then l.get (n / 2) else r.get (n / 2 - 1) := by
  show cond (Nat.beq n 0) v (cond (Nat.beq (n % 2) 1) (l.get (n / 2)) (r.get (n / 2 - 1))) = _
  simp only [cond_eq_ite, Nat.beq_eq]
theorem set_zero (t : T α) (n : Nat) (a : α) : set 0 t n a = none := rfl
theorem set_leaf (f : Nat) (n : Nat) (a : α) : set (f + 1) .leaf n a =
    if n = 0 then some (.node .leaf (some a) .leaf)
    else if n % 2 = 1 then (match set f .leaf (n / 2) a with | some l => some (.node l none .leaf) | none => none)
    else (match set f .leaf (n / 2 - 1) a with | some r => some (.node .leaf none r) | none => none) := by
  by_cases h0 : n = 0
  · subst h0; rfl
  · have e0 : Nat.beq n 0 = false := by rw [Bool.eq_false_iff]; simpa using h0
    rw [if_neg h0]
    by_cases h1 : n % 2 = 1
    · have e1 : Nat.beq (Nat.mod n 2) 1 = true := by rw [Nat.beq_eq]; exact h1
      rw [if_pos h1]
      simp only [set, e0, e1, cond_false, cond_true]
      cases h : set f .leaf (n / 2) a <;> (simp only [set] at h; erw [h])
    · have e1 : Nat.beq (Nat.mod n 2) 1 = false := by rw [Bool.eq_false_iff, ne_eq, Nat.beq_eq]; exact h1
      rw [if_neg h1]
      simp only [set, e0, e1, cond_false]
      cases h : set f .leaf (n / 2 - 1) a <;> (simp only [set] at h; erw [h])
theorem set_node (f : Nat) (l : T α) (v : Option α) (r : T α) (n : Nat) (a : α) : set (f + 1) (.node l v r) n a =
    if n = 0 then some (.node l (some a) r)
    else if n % 2 = 1 then (match set f l (n / 2) a with | some l' => some (.node l' v r) | none => none)
    else (match set f r (n / 2 - 1) a with | some r' => some (.node l v r') | none => none) := by
  by_cases h0 : n = 0
  · subst h0; rfl
  · have e0 : Nat.beq n 0 = false := by rw [Bool.eq_false_iff]; simpa using h0
    rw [if_neg h0]
    by_cases h1 : n % 2 = 1
    · have e1 : Nat.beq (Nat.mod n 2) 1 = true := by rw [Nat.beq_eq]; exact h1
      rw [if_pos h1]
      simp only [set, e0, e1, cond_false, cond_true]
      cases h : set f l (n / 2) a <;> (simp only [set] at h; erw [h])
    · have e1 : Nat.beq (Nat.mod n 2) 1 = false := by rw [Bool.eq_false_iff, ne_eq, Nat.beq_eq]; exact h1
      rw [if_neg h1]
      simp only [set, e0, e1, cond_false]
      cases h : set f r (n / 2 - 1) a <;> (simp only [set] at h; erw [h])

theorem get_set : ∀ (f : Nat) (t : T α) (n : Nat) (a : α) (t' : T α), set f t n a = some t' → ∀ m, get t' m = if m = n then some a else get t m := by
  intro f
  induction f with
  | zero => intro t n a t' h; simp [set_zero] at h
  | succ f ih =>
    intro t n a t' h m
    cases t with
    | leaf =>
      rw [set_leaf] at h
      split at h
      · simp only [Option.some.injEq] at h; subst h
        rw [get_node]; by_cases hm : m = 0 <;> simp_all [get_leaf]
      · split at h
        · split at h
          · rename_i l hl
            simp only [Option.some.injEq] at h; subst h
            rw [get_node, ih _ _ _ _ hl]
            by_cases hm : m = 0
            · rw [if_pos hm, if_neg (by omega), get_leaf]
            · by_cases hp : m % 2 = 1
              · rw [if_neg hm, if_pos hp]
                by_cases e : m = n
                · rw [if_pos (by omega), if_pos e]
                · rw [if_neg (by omega), if_neg e, get_leaf, get_leaf]
              · rw [if_neg hm, if_neg hp, if_neg (by omega), get_leaf, get_leaf]
          · simp at h
        · split at h
          · rename_i r hr
            simp only [Option.some.injEq] at h; subst h
            rw [get_node, ih _ _ _ _ hr]
            by_cases hm : m = 0
            · rw [if_pos hm, if_neg (by omega), get_leaf]
            · by_cases hp : m % 2 = 1
              · rw [if_neg hm, if_pos hp, if_neg (by omega), get_leaf, get_leaf]
              · rw [if_neg hm, if_neg hp]
                by_cases e : m = n
                · rw [if_pos (by omega), if_pos e]
                · rw [if_neg (by omega), if_neg e, get_leaf, get_leaf]
          · simp at h
    | node l v r =>
      rw [set_node] at h
      split at h
      · simp only [Option.some.injEq] at h; subst h
        rw [get_node, get_node]; by_cases hm : m = 0 <;> simp_all
      · split at h
        · split at h
          · rename_i l' hl
            simp only [Option.some.injEq] at h; subst h
            rw [get_node, get_node, ih _ _ _ _ hl]
            by_cases hm : m = 0
            · rw [if_pos hm, if_neg (by omega), if_pos hm]
            · by_cases hp : m % 2 = 1
              · rw [if_neg hm, if_pos hp, if_neg hm, if_pos hp]
                by_cases e : m = n
                · rw [if_pos (by omega), if_pos e]
                · rw [if_neg (by omega), if_neg e]
              · rw [if_neg hm, if_neg hp, if_neg (by omega), if_neg hm, if_neg hp]
          · simp at h
        · split at h
          · rename_i r' hr
            simp only [Option.some.injEq] at h; subst h
            rw [get_node, get_node, ih _ _ _ _ hr]
            by_cases hm : m = 0
            · rw [if_pos hm, if_neg (by omega), if_pos hm]
            · by_cases hp : m % 2 = 1
              · rw [if_neg hm, if_pos hp, if_neg (by omega), if_neg hm, if_pos hp]
              · rw [if_neg hm, if_neg hp, if_neg hm, if_neg hp]
                by_cases e : m = n
                · rw [if_pos (by omega), if_pos e]
                · rw [if_neg (by omega), if_neg e]
          · simp at h

/-- The tree of a list, from a number on. -/
noncomputable def ofList : Nat → List α → T α → Option (T α)
  | _, [], t => some t
  | i, x :: xs, t => match set 40 t i x with
    | some t' => ofList (i + 1) xs t'
    | none => none

theorem get_ofList : ∀ (xs : List α) (i : Nat) (t t' : T α), ofList i xs t = some t' → ∀ m, get t' m = if i ≤ m ∧ m < i + xs.length then xs[m - i]? else get t m := by
  intro xs
  induction xs with
  | nil => intro i t t' h m; simp [ofList] at h; subst h; simp; omega
  | cons x xs ih =>
    intro i t t' h m
    simp only [ofList] at h
    split at h
    · rename_i t1 h1
      rw [ih _ _ _ h m, get_set _ _ _ _ _ h1]
      simp only [List.length_cons]
      by_cases e : m = i
      · subst e; rw [if_neg (by omega), if_pos rfl, if_pos (by omega)]; simp
      · by_cases h2 : i ≤ m ∧ m < i + (xs.length + 1)
        · rw [if_pos (by omega), if_pos h2, show m - i = (m - (i + 1)) + 1 from by omega, List.getElem?_cons_succ]
        · rw [if_neg (by omega), if_neg e, if_neg h2]
    · simp at h
end T

/-- The bytes of a text as one number. -/
def pack : List UInt8 → Nat
  | [] => 0
  | b :: bs => b.toNat + 256 * pack bs

/-- Abstract values. A block is a number of the engine's own. 'slice A off len cap': an even cap: cap / 2 is the capacity; an odd one: the capacity is what the block has behind the place cap / 2. -/
inductive AV where
  | bool (b : Bool)
  | int (k : IntKind) (n : Int)
  | str (len bits : Nat)
  | nilPtr
  | ptr (A off : Nat)
  | nilSlice
  | slice (A off len cap : Nat)
  | emptySl
  | nilMap
  | map (A : Nat)
  | func (fn : FuncId) (first captured : List AV)
  | yieldTo (A : Nat)
  | nilFunc
  | iface (t : TypeId) (v : AV)
  | nilIface
  | agg (cells : List AV)
  | tuple (vs : List AV)

def decap (cc c : Nat) : Nat := bif (cc % 2).beq 0 then cc / 2 else c - cc / 2

/-- Where a block of the engine's lies: 'R A b d c': in the model's block b from its cell d on; c elements find room there. -/
abbrev Ren := Nat → Nat → Nat → Nat → Prop

mutual
def VR (R : Ren) : AV → Value → Prop
  | .bool b, v => v = .bool b
  | .int k n, v => v = .int k n
  | .str n b, v => ∃ s : ByteArray, v = .string s ∧ s.size = n ∧ pack s.data.toList = b
  | .nilPtr, v => v = .pointer none
  | .ptr A off, v => ∃ b d c, R A b d c ∧ v = .pointer (some ⟨b, d + off, none⟩)
  | .nilSlice, v => v = .slice none 0 0
  | .slice A off len cc, v => ∃ b d c, R A b d c ∧ v = .slice (some ⟨b, d + off, none⟩) len (decap cc c)
  | .emptySl, v => ∃ a c, v = .slice (some a) 0 c
  | .nilMap, v => v = .map none
  | .map A, v => ∃ b d c, R A b d c ∧ v = .map (some b)
  | .func fn xs ys, v => ∃ xs' ys', v = .func (.func fn) ⟨xs'⟩ ⟨ys'⟩ ∧ VRL R xs xs' ∧ VRL R ys ys'
  | .yieldTo A, v => ∃ b d c, R A b d c ∧ v = .func (.yield b) #[] #[]
  | .nilFunc, v => v = .nilFunc
  | .iface t x, v => ∃ x', v = .iface t x' ∧ VR R x x'
  | .nilIface, v => v = .nilIface
  | .agg xs, v => ∃ xs', v = .agg ⟨xs'⟩ ∧ VRL R xs xs'
  | .tuple xs, v => ∃ xs', v = .tuple ⟨xs'⟩ ∧ VRL R xs xs'
def VRL (R : Ren) : List AV → List Value → Prop
  | [], l => l = []
  | x :: xs, l => ∃ x' xs', l = x' :: xs' ∧ VR R x x' ∧ VRL R xs xs'
end

def Sub (R R' : Ren) : Prop := ∀ A b d c, R A b d c → R' A b d c
theorem Sub.refl (R : Ren) : Sub R R := fun _ _ _ _ h => h
theorem Sub.trans {R R' R'' : Ren} (h : Sub R R') (k : Sub R' R'') : Sub R R'' := fun A b d c x => k A b d c (h A b d c x)

mutual
theorem VR.mono {R R' : Ren} (h : Sub R R') : ∀ (x : AV) (v : Value), VR R x v → VR R' x v
  | .bool _, _, k => k
  | .int _ _, _, k => k
  | .str _ _, _, k => k
  | .nilPtr, _, k => k
  | .ptr _ _, _, k => by simp only [VR] at k ⊢; obtain ⟨b, d, c, hr, e⟩ := k; exact ⟨b, d, c, h _ _ _ _ hr, e⟩
  | .nilSlice, _, k => k
  | .slice _ _ _ _, _, k => by simp only [VR] at k ⊢; obtain ⟨b, d, c, hr, e⟩ := k; exact ⟨b, d, c, h _ _ _ _ hr, e⟩
  | .emptySl, _, k => k
  | .nilMap, _, k => k
  | .map _, _, k => by simp only [VR] at k ⊢; obtain ⟨b, d, c, hr, e⟩ := k; exact ⟨b, d, c, h _ _ _ _ hr, e⟩
  | .func _ xs ys, _, k => by simp only [VR] at k ⊢; obtain ⟨x, y, e, k1, k2⟩ := k; exact ⟨x, y, e, VRL.mono h xs _ k1, VRL.mono h ys _ k2⟩
  | .yieldTo _, _, k => by simp only [VR] at k ⊢; obtain ⟨b, d, c, hr, e⟩ := k; exact ⟨b, d, c, h _ _ _ _ hr, e⟩
  | .nilFunc, _, k => k
  | .iface _ x, _, k => by simp only [VR] at k ⊢; obtain ⟨x', e, k1⟩ := k; exact ⟨x', e, VR.mono h x _ k1⟩
  | .nilIface, _, k => k
  | .agg xs, _, k => by simp only [VR] at k ⊢; obtain ⟨x', e, k1⟩ := k; exact ⟨x', e, VRL.mono h xs _ k1⟩
  | .tuple xs, _, k => by simp only [VR] at k ⊢; obtain ⟨x', e, k1⟩ := k; exact ⟨x', e, VRL.mono h xs _ k1⟩
theorem VRL.mono {R R' : Ren} (h : Sub R R') : ∀ (xs : List AV) (l : List Value), VRL R xs l → VRL R' xs l
  | [], _, k => k
  | x :: xs, _, k => by simp only [VRL] at k ⊢; obtain ⟨x', l', e, k1, k2⟩ := k; exact ⟨x', l', e, VR.mono h x _ k1, VRL.mono h xs _ k2⟩
end

theorem VRL.length {R : Ren} : ∀ (xs : List AV) (l : List Value), VRL R xs l → l.length = xs.length
  | [], _, k => by simp only [VRL] at k; simp [k]
  | x :: xs, _, k => by simp only [VRL] at k; obtain ⟨x', l', rfl, _, k2⟩ := k; simp [VRL.length xs l' k2]

theorem VRL.get {R : Ren} : ∀ (xs : List AV) (l : List Value), VRL R xs l → ∀ (i : Nat) (x : AV), xs[i]? = some x → ∃ v, l[i]? = some v ∧ VR R x v
  | [], _, _, i, x, h => by simp at h
  | y :: xs, _, k, i, x, h => by
    simp only [VRL] at k; obtain ⟨x', l', rfl, k1, k2⟩ := k
    cases i with
    | zero => simp at h; subst h; exact ⟨x', by simp, k1⟩
    | succ i => simp at h ⊢; exact VRL.get xs l' k2 i x h

theorem VRL.of {R : Ren} : ∀ (xs : List AV) (l : List Value), l.length = xs.length → (∀ (i : Nat) (x : AV) (v : Value), xs[i]? = some x → l[i]? = some v → VR R x v) → VRL R xs l
  | [], l, hl, _ => by simp only [VRL]; simpa using hl
  | x :: xs, [], hl, _ => by simp at hl
  | x :: xs, v :: l, hl, h => by
    simp only [VRL]
    exact ⟨v, l, rfl, h 0 x v rfl rfl, VRL.of xs l (by simpa using hl) (fun i y u hy hu => h (i + 1) y u (by simpa using hy) (by simpa using hu))⟩

theorem VRL.append {R : Ren} {xs ys : List AV} {l m : List Value} (h : VRL R xs l) (k : VRL R ys m) : VRL R (xs ++ ys) (l ++ m) := by
  induction xs generalizing l with
  | nil => simp only [VRL] at h; subst h; simpa using k
  | cons x xs ih => simp only [VRL] at h; obtain ⟨x', l', rfl, h1, h2⟩ := h; exact ⟨x', l' ++ m, rfl, h1, ih h2⟩

theorem VRL.split {R : Ren} {xs ys : List AV} {l : List Value} (h : VRL R (xs ++ ys) l) : ∃ l1 l2, l = l1 ++ l2 ∧ VRL R xs l1 ∧ VRL R ys l2 := by
  induction xs generalizing l with
  | nil => exact ⟨[], l, rfl, rfl, h⟩
  | cons x xs ih =>
    obtain ⟨x', l', rfl, h1, h2⟩ := h
    obtain ⟨l1, l2, rfl, h3, h4⟩ := ih h2
    exact ⟨x' :: l1, l2, rfl, ⟨x', l1, rfl, h1, h3⟩, h4⟩

theorem VRL.take {R : Ren} {xs : List AV} {l : List Value} (h : VRL R xs l) (n : Nat) : VRL R (xs.take n) (l.take n) := by
  induction xs generalizing l n with
  | nil => simp only [VRL] at h; subst h; simp [VRL]
  | cons x xs ih =>
    obtain ⟨x', l', rfl, h1, h2⟩ := h
    cases n with
    | zero => simp [VRL]
    | succ n => exact ⟨x', l'.take n, rfl, h1, ih h2 n⟩

theorem VRL.drop {R : Ren} {xs : List AV} {l : List Value} (h : VRL R xs l) (n : Nat) : VRL R (xs.drop n) (l.drop n) := by
  induction xs generalizing l n with
  | nil => simp only [VRL] at h; subst h; simp [VRL]
  | cons x xs ih =>
    obtain ⟨x', l', rfl, h1, h2⟩ := h
    cases n with
    | zero => exact ⟨x', l', rfl, h1, h2⟩
    | succ n => exact ih h2 n

theorem VRL.set {R : Ren} {xs : List AV} {l : List Value} {x : AV} {v : Value} (h : VRL R xs l) (k : VR R x v) (n : Nat) : VRL R (xs.set n x) (l.set n v) := by
  induction xs generalizing l n with
  | nil => simp only [VRL] at h; subst h; simp [VRL]
  | cons y xs ih =>
    obtain ⟨x', l', rfl, h1, h2⟩ := h
    cases n with
    | zero => exact ⟨v, l', rfl, k, h2⟩
    | succ n => exact ⟨x', l'.set n v, rfl, h1, ih h2 n⟩

theorem VRL.replicate {R : Ren} {x : AV} {v : Value} (k : VR R x v) : ∀ n, VRL R (List.replicate n x) (List.replicate n v)
  | 0 => rfl
  | n + 1 => ⟨v, List.replicate n v, rfl, k, VRL.replicate k n⟩
end Go.Eng
