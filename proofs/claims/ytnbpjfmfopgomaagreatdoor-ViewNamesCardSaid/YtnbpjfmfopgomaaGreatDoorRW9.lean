/- Shallow functions, by program (gent4.py). -/
import Derived.Test.YtnbpjfmfopgomaaGreatDoorRW8
import Derived.Test.YtnbpjfmfopgomaaGreatDoorProg
import Derived.KernelRfl
noncomputable section
namespace Go.Eng.Sh
open Go.Proofs
set_option maxRecDepth 100000
set_option maxHeartbeats 4000000
set_option linter.all false
noncomputable def q310 : ML := mlOf (bodyAt Tryz.f310 [1, 1, 0])
theorem q310_fits : q310.Fits 28 := by constructor <;> first | kernel_rfl | exact of_decide_eq_true (by kernel_rfl)
noncomputable def hb310 : Hint := (.s .o (.c [0, 1, 5, 12] .o .o))
noncomputable def h7310 : Hint := (.s .o (.s .o .o))
noncomputable def o310_0 : Array Oper := match bodyAt Tryz.f310 [0] with | .region _ o _ => o | _ => #[]
noncomputable def o310_1 : Array Oper := match bodyAt Tryz.f310 [1, 0] with | .region _ o _ => o | _ => #[]
theorem S310_ok : SOk [(311, p311), (353, sortK)] := SOk.cons p311_ok.fs (SOk.cons (sortK_ok (by kernel_rfl)).fs SOk.nil)
noncomputable def pre310 (vs : List AV) (H : AH) : Rs := hd vs fun x0 vs => hd vs fun x1 vs => hd vs fun x5 vs => bV (pNil x0) fun x9 => bV (fAd 0 x9) fun x10 => bV (ld1 x10 H) fun x11 => some (.norm (x11 :: [x0, x1, x5]), H)
theorem pre310_eq : q310.preK ⟨X, [(311, p311), (353, sortK)]⟩ dNone 28 [0, 1, 5] = pre310 := by kernel_rfl
noncomputable def rd310 (I : Nat) (vs : List AV) (k v : AV) (H : AH) : Rs := hd vs fun x0 vs => hd vs fun x1 vs => hd vs fun x5 vs =>
  bV (pExtract (.tuple [k, v]) 0) fun x16 => bV (pExtract (.tuple [k, v]) 1) fun x17 =>
  bR (noPan (callV [(311, p311), (353, sortK)] dNone x1 [x17] H)) fun x20 H =>
  jn (cnd x20 (bA (bldL 3 1 1 [.int .i64 (.ofNat 0)] [(0, x16)]) H fun x23 H => bR (apP 3 1 8 x5 x23 H) fun x24 H => some (.norm [x0, x1, x24, .ptr I 0], H)) (some (.norm [x0, x1, x5, .ptr I 0], H)))
    fun vs H => hd vs fun x0 vs => hd vs fun x1 vs => hd vs fun x5 vs => hd vs fun x12 vs => some (.norm [x12, x0, x1, x5], H)
theorem rd310_eq : q310.roundK ⟨X, [(311, p311), (353, sortK)]⟩ dNone 0 28 hb310 [0, 1, 5] = rd310 := by kernel_rfl
noncomputable def tl310 (vs : List AV) (H : AH) : Rs := hd vs fun x0 vs => hd vs fun x1 vs => hd vs fun x5 vs => bR (noPan (sortK [x5] H)) fun _ H => bV (some x5) fun x => some (.ret x, H)
theorem tl310_eq : (fun vs H => unp [0, 1, 5] vs env0 fun e => codeK ⟨X, [(311, p311), (353, sortK)]⟩ dNone 0 28 Tryz.f310.results.toList 310 false (bodyAt Tryz.f310 [1, 1, 1]) h7310 [] (fun _ _ => none) e H) = tl310 := by kernel_rfl
theorem those310 : FI 310 (thoseK 311 3) := by
  refine those_ok X_ok S310_ok (pg := p311) (q := q310) (hb := hb310) (h7 := h7310) (n := 0) (L := [0, 1, 5]) (i0 := 0) (i1 := 1) (o0 := o310_0) (o1 := o310_1) (c7 := bodyAt Tryz.f310 [1, 1, 1]) (fn := Tryz.f310) (kt := 3) (vt := 352) Tryz.func310 (by kernel_rfl) (by decide +kernel) q310_fits (by decide +kernel) (by decide +kernel) (by kernel_rfl) (by kernel_rfl) (by kernel_rfl) (fun a b H => by kernel_rfl) (fun A o b M H h => ?_) (fun I a b sl k v Hk r h => ?_) (fun v t C H r h h2 => ?_) (fun vs H => rfl) (by kernel_rfl) (fun a b sl H => ?_)
  · have e : q310.preK ⟨X, [(311, p311), (353, sortK)]⟩ dNone Tryz.f310.ntmps [0, 1, 5] = pre310 := pre310_eq
    rw [e]; simp only [pre310, hd, bV, pNil, fAd, fN_eq, Nat.add_zero, h]
  · have e : q310.roundK ⟨X, [(311, p311), (353, sortK)]⟩ dNone 0 Tryz.f310.ntmps hb310 [0, 1, 5] = rd310 := rd310_eq
    rw [e]; simp only [rd310, hd, bV, pExtract, nth, h, noPan, bR]
    cases r with
    | false => rfl
    | true =>
      simp only [cnd, cond_true]
      cases hb : bldL 3 1 1 [AV.int IntKind.i64 (Int.ofNat 0)] [(0, k)] with
      | none => rfl
      | some p =>
        obtain ⟨ob, mk⟩ := p
        simp only [bA, newB]
        split
        · split
          · rw [fN_eq, fN_eq]
            cases apP 3 1 8 sl (mk Hk.next) _ with
            | none => rfl
            | some p => rfl
          · rfl
        · rfl
  · unfold hsK at h2
    split at h2
    · rename_i a ha
      split at h2
      · rename_i b hb
        split at h2
        · rename_i r' hr'
          simp only [Option.some.injEq] at h2; subst h2
          simp only [p298, p311, hd, nl, bV, bR, outR, h, ha, hb, hr', noPan]
        · simp at h2
      · simp at h2
    · simp at h2
  · exact congrFun (congrFun tl310_eq [a, b, sl]) H
def s310 (D : Dyn) (n : Nat) : Tb := ⟨X, []⟩
def f310 (D : Dyn) (n : Nat) (vs : List AV) (H : AH) : Option (AV × AH) := thoseKp 311 3 vs H
theorem f310_ok {D : Dyn} (hD : DP D) (n : Nat) : FP 310 (f310 D n) := ⟨_, those310, thoseKp_s⟩

attribute [local irreducible] f310
end Go.Eng.Sh
