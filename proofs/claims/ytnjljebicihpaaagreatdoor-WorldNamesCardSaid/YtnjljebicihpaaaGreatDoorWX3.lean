/- Shallow functions, by program (gent4.py). -/
import Derived.Test.YtnjljebicihpaaaGreatDoorWX2
import Derived.Test.YtnjljebicihpaaaGreatDoorProg
import Derived.KernelRfl
noncomputable section
namespace Go.Eng.Sh
open Go.Proofs
set_option maxRecDepth 100000
set_option maxHeartbeats 4000000
set_option linter.all false
def s121 (D : Dyn) (n : Nat) : Tb := ⟨X, [(119, f119 D n), (175, f175 D n)]⟩
def f121 (D : Dyn) (n : Nat) (vs : List AV) (H : AH) : Option (AV × AH) :=
  outR (hd vs fun x0 vs => hd vs fun x1 vs => nl vs <|
  bR (noPan (f119 D n [x0] H)) fun x6 H => 
  bV (aun .not x6) fun x7 => 
  jn (wnt x7 true (bV (pNil x0) fun x10 => 
  bV (fAd 4 x10) fun x11 => 
  bV (ld1p x11 H) fun x12 => 
  bR (noPan (f175 D n [x12, x1] H)) fun x14 H => 
  some (.norm [x14], H)) (some (.norm [undefA], H))) fun vs H => hd vs fun x14_2 vs => 
  bV (pk3 (some x7) (some x14_2) (some (.bool false))) fun x15 => 
  bV (some x15) fun x4 => some (.ret x4, H))
def h121 : Hint := (.s .o (.s .o .o))
theorem f121_eq (D : Dyn) (n : Nat) : f121 D n = funKp (s121 D n) D n 121 Tryz.f121 h121 := by kernel_rfl
theorem f121_ok {D : Dyn} (hD : DP D) (n : Nat) : FP 121 (f121 D n) := fun_okP X_ok hD (SP.cons (f119_ok hD n) (SP.cons (f175_ok hD n) (SP.nil))) Tryz.func121 (by kernel_rfl) (by kernel_rfl) (f121_eq D n)
def takK (vs : List AV) (H : AH) : Option (AV × AH) := match vs with
  | [.ptr S o, .int .i64 (.ofNat i)] => match ld1p (.ptr S (o + 2)) H with
    | some (.ptr _ _) => match ld1p (.ptr S (o + 4)) H with
      | some (.ptr Q p) => match ld1p (.ptr Q (p + 0)) H with
        | some (.int .i64 (.ofNat m)) => bif Nat.blt i m then (bif Nat.blt i 8192 then match ld1p (.ptr Q (p + 2 + i * 1)) H with
          | some (.int .u8 (.ofNat b)) => some (.bool (bif Nat.beq b 1 then true else Nat.beq b 2), H)
          | _ => none else none) else none
        | _ => none
      | _ => none
    | _ => none
  | _ => none
theorem takK_le (D : Dyn) (n : Nat) (vs : List AV) (H : AH) (r : AV × AH) (h : takK vs H = some r) : f121 D n vs H = some r := by
  unfold takK at h
  split at h
  · rename_i S o i
    split at h
    · rename_i a b h1
      split at h
      · rename_i Q p h2
        split at h
        · rename_i m h3
          rw [cond_eq_ite] at h
          split at h
          · rename_i hm
            rw [cond_eq_ite] at h
            split at h
            · rename_i h8
              split at h
              · rename_i b h4
                simp only [Option.some.injEq] at h
                subst h
                have e1 : ilt (.ofNat i) (.ofNat 0) = false := by cases i <;> rfl
                have e2 : ilt (.ofNat i) (.ofNat m) = true := by simpa [ilt] using hm
                have e3 : ∀ c, ieq (.ofNat b) (.ofNat c) = Nat.beq b c := fun c => rfl
                have e4 : ∀ k, keq k k = true := fun k => by cases k <;> rfl
                cases hb1 : Nat.beq b 1 <;> cases hb2 : Nat.beq b 2 <;>
                  simp only [f121, f119, f175, hd, nl, outR, bV, bR, noPan, cmpO, eqP, jn, wnt, isW, pk3, pNil, fAd, fN_eq, bInt, abinI, ixArr, natOf, aun, mkB, h1, h2, h3, h4, h8, e1, e2, e3, e4, hb1, hb2, cond_true, cond_false, Bool.not_false, beq_self_eq_true]
                all_goals rfl
              · simp at h
            · simp at h
          · simp at h
        · simp at h
      · simp at h
    · simp at h
  · simp at h
def takF (m : List AV → AH → Option (AV × AH)) (vs : List AV) (H : AH) : Option (AV × AH) := match takK vs H with
  | some r => some r
  | none => m vs H
theorem takF_okP {g : FuncId} {mp : FnT} (h : FP g mp) (hl : ∀ vs H r, takK vs H = some r → mp vs H = some r) : FP g (takF mp) := by
  obtain ⟨m, h1, h2⟩ := h
  refine ⟨m, h1, fun vs H Hx hR v H' e => ?_⟩
  unfold takF at e
  split at e
  · rename_i r hr
    exact h2 vs H Hx hR _ _ ((hl _ _ _ hr).trans e)
  · exact h2 vs H Hx hR _ _ e
def m121 (D : Dyn) (n : Nat) (vs : List AV) (H : AH) : Option (AV × AH) := takF (f121 D n) vs H
theorem m121_ok {D : Dyn} (hD : DP D) (n : Nat) : FP 121 (m121 D n) := takF_okP (f121_ok hD n) (takK_le D n)
attribute [local irreducible] m121 f121
end Go.Eng.Sh
