/- A checked evaluator for the program, part 3: no condition. -/
import Derived.Test.YtghipbccmngkpaaB2
import Derived.KernelRfl
import Derived.Maps.RangeRun
import Derived.Test.YtghipbccmngkpaaProg
import Derived.Shelf.Spec.SlicesInsertGrow
import Derived.Ground.Names2Prog
import Derived.Ground.SlmcProg
import Derived.Shelf.SlMaps.Clone
set_option linter.all false
set_option linter.unusedVariables false
set_option linter.unusedSimpArgs false
section
namespace Go.Eng

/-- What functions are called by, as the first evaluator has it. -/
def rOf (B : Tb) (D : Dyn) : Fns := ⟨fun g az H => callG B.S D g az H, D.yld⟩

theorem b1_of {x : Option AV} {f : AV → Option AV} {a r : AV} (h : x = some a) (k : f a = some r) : b1 x f = some r := by simp only [b1, h, k]
theorem b2_of {x y : Option AV} {f : AV → AV → Option AV} {a b r : AV} (h : x = some a) (h' : y = some b) (k : f a b = some r) : b2 x y f = some r := by simp only [b2, h, h', k]

section
variable {B : Tb} {D : Dyn} {env : Env} {H : AH}

theorem opP_of {o : Op} {v : AV} (hc : cls B.X o = .P) (h : aP B.X env o = some v) : opF B.X (rOf B D) env H o = some (v, H) := by
  simp only [opF, hc, h, wV]
theorem opL_of {o : Op} {v : AV} (hc : cls B.X o = .L) (h : aL B.X env H o = some v) : opF B.X (rOf B D) env H o = some (v, H) := by
  simp only [opF, hc, h, wV]
theorem opA_of {o : Op} {v : AV} {H' : AH} (hc : cls B.X o = .A) (h : wA H (aA B.X env o) = some (v, H')) : opF B.X (rOf B D) env H o = some (v, H') := by
  simp only [opF, hc, h]
theorem opE_of {o : Op} {v : AV} {H' : AH} (hc : cls B.X o = .E) (h : aE B.X env H o = some (v, H')) : opF B.X (rOf B D) env H o = some (v, H') := by
  simp only [opF, hc, h]

theorem wA_arg {x y : Option (AObj × (Nat → AV))} {v : AV} {H' : AH} (h : wA H x = some (v, H')) (k : ∀ r, x = some r → y = some r) : wA H y = some (v, H') := by
  cases x with
  | none => simp [wA] at h
  | some r => rw [k r rfl]; exact h

theorem opK_ok {K : AV → AH → Rs} {o : Op} {out : Ex × AH} (h : opK B D env H K o = some out) : ∃ v H', opF B.X (rOf B D) env H o = some (v, H') ∧ K v H' = some out := by
  unfold opK at h
  split at h
  · -- move
    rename_i x
    split at h
    · rename_i v hv; exact ⟨v, H, opP_of rfl hv, h⟩
    · simp at h
  · rename_i x
    split at h
    · rename_i v hv; exact ⟨v, H, opP_of rfl hv, h⟩
    · simp at h
  · -- pick
    rename_i c a b
    obtain ⟨v, hv, hk⟩ := bV_some h
    refine ⟨v, H, opP_of rfl ?_, hk⟩
    show pPick env c a b = some v
    unfold pk3 at hv
    unfold pPick
    exact hv
  · -- build
    obtain ⟨v, hv, hk⟩ := bV_some h
    exact ⟨v, H, opP_of rfl (tBuild_ok hv), hk⟩
  · obtain ⟨v, hv, hk⟩ := bV_some h
    obtain ⟨a, ha, hf⟩ := q1_some hv
    exact ⟨v, H, opP_of rfl (b1_of ha hf), hk⟩
  · -- binOp
    rw [cond_eq_ite] at h
    split at h
    · rename_i hp
      obtain ⟨v, hv, hk⟩ := bV_some h
      obtain ⟨a, b, ha, hb, hf⟩ := q2_some hv
      exact ⟨v, H, opL_of (by simp [cls, hp]) (b2_of ha hb (tBinL_ok hf)), hk⟩
    · rename_i hp
      obtain ⟨v, hv, hk⟩ := bV_some h
      obtain ⟨a, b, ha, hb, hf⟩ := q2_some hv
      exact ⟨v, H, opP_of (by simp [cls, hp]) (b2_of ha hb (tBin_ok hf)), hk⟩
  · obtain ⟨v, hv, hk⟩ := bV_some h
    obtain ⟨a, ha, hf⟩ := q1_some hv
    exact ⟨v, H, opP_of rfl (b1_of ha hf), hk⟩
  · -- makeFunc
    split at h
    · rename_i a ha
      split at h
      · rename_i b hb
        refine ⟨_, H, opP_of rfl ?_, h⟩
        show pFunc env _ _ _ = _
        simp only [pFunc, ha, hb]
      · simp at h
    · simp at h
  · obtain ⟨v, hv, hk⟩ := bV_some h
    obtain ⟨a, ha, hf⟩ := q1_some hv
    exact ⟨v, H, opP_of rfl (b1_of ha (tFieldAddr_ok hf)), hk⟩
  · obtain ⟨v, hv, hk⟩ := bV_some h
    obtain ⟨a, ha, hf⟩ := q1_some hv
    exact ⟨v, H, opP_of rfl (b1_of ha (tField_ok hf)), hk⟩
  · obtain ⟨v, hv, hk⟩ := bV_some h
    obtain ⟨a, b, ha, hb, hf⟩ := q2_some hv
    exact ⟨v, H, opP_of rfl (b2_of ha hb (tIxAddr_ok hf)), hk⟩
  · obtain ⟨v, hv, hk⟩ := bV_some h
    obtain ⟨a, b, ha, hb, hf⟩ := q2_some hv
    exact ⟨v, H, opP_of rfl (b2_of ha hb (tIndex_ok hf)), hk⟩
  · obtain ⟨v, hv, hk⟩ := bV_some h
    obtain ⟨a, ha, hf⟩ := q1_some hv
    exact ⟨v, H, opP_of rfl (b1_of ha (tArr_ok hf)), hk⟩
  · obtain ⟨v, hv, hk⟩ := bV_some h
    obtain ⟨a, ha, hf⟩ := q1_some hv
    exact ⟨v, H, opP_of rfl (b1_of ha hf), hk⟩
  · -- load
    obtain ⟨v, hv, hk⟩ := bV_some h
    obtain ⟨a, ha, hf⟩ := q1_some hv
    exact ⟨v, H, opL_of rfl (b1_of ha (tLoad_ok hf)), hk⟩
  · -- slice
    split at h
    · rename_i lo hi mx hlo hhi hmx
      obtain ⟨v, hv, hk⟩ := bV_some h
      obtain ⟨a, ha, hf⟩ := q1_some hv
      refine ⟨v, H, opL_of rfl ?_, hk⟩
      show lSlice _ _ _ _ _ _ _ _ = _
      simp only [lSlice, ha, hlo, hhi, hmx]; exact tSlice_ok hf
    · simp at h
  · -- convert
    split at h
    · rename_i hc
      obtain ⟨v, hv, hk⟩ := bV_some h
      obtain ⟨a, ha, hf⟩ := q1_some hv
      exact ⟨v, H, opP_of hc (b1_of ha (tConvP_ok hf)), hk⟩
    · rename_i hc
      obtain ⟨v, hv, hk⟩ := bV_some h
      obtain ⟨a, ha, hf⟩ := q1_some hv
      exact ⟨v, H, opL_of hc (b1_of ha (tConvL_ok hf)), hk⟩
    · rename_i hc
      obtain ⟨v, H', hv, hk⟩ := bA_some h
      refine ⟨v, H', opA_of hc (wA_arg hv fun r hr => ?_), hk⟩
      obtain ⟨a, ha, hf⟩ := q1_some hr
      simp only [aA, ha]; exact tConvA_ok hf
    · simp at h
  · -- alloc
    split at h
    · rename_i z hz
      obtain ⟨v, H', hv, hk⟩ := bA_some h
      refine ⟨v, H', opA_of rfl (wA_arg hv fun r hr => ?_), hk⟩
      simp only [aA, hz, aA1]; exact hr
    · simp at h
  · obtain ⟨v, H', hv, hk⟩ := bA_some h
    refine ⟨v, H', opA_of rfl (wA_arg hv fun r hr => ?_), hk⟩
    obtain ⟨a, ha, hf⟩ := q1_some hr
    simp only [aA, ha, aA1]; exact hf
  · obtain ⟨v, H', hv, hk⟩ := bA_some h
    exact ⟨v, H', opA_of rfl (wA_arg hv fun r hr => tBuildL_ok hr), hk⟩
  · obtain ⟨v, H', hv, hk⟩ := bA_some h
    refine ⟨v, H', opA_of rfl (wA_arg hv fun r hr => ?_), hk⟩
    obtain ⟨a, b, ha, hb, hf⟩ := q2_some hr
    simp only [aA, ha, hb]; exact tMake_ok hf
  · -- lookup
    obtain ⟨v, hv, hk⟩ := bV_some h
    obtain ⟨a, b, ha, hb, hf⟩ := q2_some hv
    exact ⟨v, H, opL_of rfl (b2_of ha hb (tLk_ok hf)), hk⟩
  · obtain ⟨v, H', hv, hk⟩ := bA_some h
    exact ⟨v, H', opA_of rfl (wA_arg hv fun r hr => tMkM_ok hr), hk⟩
  · obtain ⟨v, H', hv, hk⟩ := bR_some h
    obtain ⟨a, b, c, ha, hb, hc, hf⟩ := q3_some hv
    refine ⟨v, H', opE_of rfl ?_, hk⟩
    simp only [aE, ha, hb, hc, c3]; exact tUp_ok hf
  · -- store
    obtain ⟨v, H', hv, hk⟩ := bR_some h
    obtain ⟨a, b, ha, hb, hf⟩ := q2_some hv
    refine ⟨v, H', opE_of rfl ?_, hk⟩
    simp only [aE, ha, hb]; exact tStore_ok hf
  · -- call
    rename_i c
    obtain ⟨callee, args, types⟩ := c
    split at h
    · rename_i f hc
      simp only at hc; subst hc
      obtain ⟨v, H', hv, hk⟩ := bR_some h
      refine ⟨v, H', ?_, hk⟩
      unfold callO at hv
      split at hv
      · rename_i az has
        split at hv
        · rename_i fv hfv
          unfold callV at hv
          split at hv
          · simp only at has
            simp only [opF, cls, clsCall, opF.callO, hfv, has, opF.callV, rOf]; exact hv
          · simp only at has
            simp only [opF, cls, clsCall, opF.callO, hfv, has, opF.callV, rOf]; exact hv
          · simp at hv
        · simp at hv
      · simp at hv
    · rename_i hc
      simp only at hc; subst hc
      split at h
      · rename_i x t ts hargs htypes
        obtain ⟨v, hv, hk⟩ := bV_some h
        obtain ⟨a, ha, hf⟩ := q1_some hv
        refine ⟨v, H, opL_of rfl ?_, hk⟩
        simp only at hargs htypes
        simp only [aL, hargs, htypes]; exact b1_of ha (tLen_ok hf)
      · simp at h
    · rename_i hc
      simp only at hc; subst hc
      split at h
      · rename_i x t ts hargs htypes
        obtain ⟨v, hv, hk⟩ := bV_some h
        obtain ⟨a, ha, hf⟩ := q1_some hv
        refine ⟨v, H, opP_of rfl ?_, hk⟩
        simp only at hargs htypes
        simp only [aP, hargs, htypes]; exact b1_of ha hf
      · simp at h
    · rename_i hc
      simp only at hc; subst hc
      split at h
      · rename_i s x t u hargs htypes
        obtain ⟨v, H', hv, hk⟩ := bR_some h
        obtain ⟨a, b, ha, hb, hf⟩ := q2_some hv
        refine ⟨v, H', opE_of rfl ?_, hk⟩
        simp only at hargs htypes
        simp only [aE, eBuiltin, hargs, htypes, ha, hb]; exact tApp_ok hf
      · simp at h
    · rename_i hc
      simp only at hc; subst hc
      split at h
      · rename_i s x t ts hargs htypes
        obtain ⟨v, H', hv, hk⟩ := bR_some h
        obtain ⟨a, b, ha, hb, hf⟩ := q2_some hv
        refine ⟨v, H', opE_of rfl ?_, hk⟩
        simp only at hargs htypes
        simp only [aE, eBuiltin, hargs, htypes, ha, hb, eCopy]; exact tCopy_ok hf
      · simp at h
    · rename_i hc
      simp only at hc; subst hc
      split at h
      · rename_i x y hargs
        obtain ⟨v, hv, hk⟩ := bV_some h
        obtain ⟨a, b, ha, hb, hf⟩ := q2_some hv
        refine ⟨v, H, opP_of rfl ?_, hk⟩
        simp only at hargs
        simp only [aP, hargs]; exact b2_of ha hb hf
      · simp at h
    · rename_i hc
      simp only at hc; subst hc
      split at h
      · rename_i x y hargs
        obtain ⟨v, hv, hk⟩ := bV_some h
        obtain ⟨a, b, ha, hb, hf⟩ := q2_some hv
        refine ⟨v, H, opP_of rfl ?_, hk⟩
        simp only at hargs
        simp only [aP, hargs]; exact b2_of ha hb hf
      · simp at h
    · rename_i hc
      simp only at hc; subst hc
      split at h
      · rename_i s x t ts hargs htypes
        obtain ⟨v, H', hv, hk⟩ := bR_some h
        obtain ⟨a, b, ha, hb, hf⟩ := q2_some hv
        refine ⟨v, H', opE_of rfl ?_, hk⟩
        simp only at hargs htypes
        simp only [aE, eBuiltin, hargs, htypes, ha, hb, c2]; exact tDl_ok hf
      · simp at h
    · rename_i hc
      simp only at hc; subst hc
      split at h
      · rename_i s t ts hargs htypes
        obtain ⟨v, H', hv, hk⟩ := bR_some h
        obtain ⟨a, ha, hf⟩ := q1_some hv
        refine ⟨v, H', opE_of rfl ?_, hk⟩
        simp only at hargs htypes
        simp only [aE, eBuiltin, hargs, htypes, ha, c1]; exact hf
      · simp at h
    · simp at h
  · simp at h
end
end Go.Eng
end
section
namespace Go.Eng

def Le (env env2 : Env) : Prop := ∀ t x, look env t = some x → look env2 t = some x
theorem Le.refl (env : Env) : Le env env := fun _ _ h => h
theorem Le.trans {a b c : Env} (h : Le a b) (k : Le b c) : Le a c := fun t x e => k t x (h t x e)
theorem Le.upd {a b : Env} (h : Le a b) (d : Nat) (v : AV) : Le (upd a d v) (upd b d v) := by
  intro t x e
  simp only [look, upd_at] at e ⊢
  split
  · rename_i hd; rw [if_pos hd] at e; exact e
  · rename_i hd; rw [if_neg hd] at e; exact h t x e
theorem EnvR.le {R : Ren} {env env2 : Env} {n : Nat} {tmps : Array Value} (h : EnvR R env2 n tmps) (k : Le env env2) : EnvR R env n tmps :=
  ⟨h.size, fun t x e => h.get t x (k t x e), fun t ht => by
    cases e : look env t with
    | none => rfl
    | some x => have := k t x e; rw [h.out t ht] at this; simp at this⟩

section
variable {env env2 : Env} (hl : Le env env2)
include hl
theorem opd_mono (x : Operand) (a : AV) (h : opd env x = some a) : opd env2 x = some a := by
  cases x with
  | tmp t => exact hl t a h
  | _ => exact h
theorem opds_mono : ∀ (xs : List Operand) (az : List AV), opds env xs = some az → opds env2 xs = some az
  | [], az, h => h
  | x :: xs, az, h => by
    simp only [opds] at h ⊢
    split at h
    · rename_i v vs hv hvs; rw [opd_mono hl x v hv, opds_mono xs vs hvs]; exact h
    · simp at h
theorem parts_mono : ∀ (xs : List (Nat × Operand)) (az : List (Nat × AV)), partsA env xs = some az → partsA env2 xs = some az
  | [], az, h => h
  | (i, x) :: xs, az, h => by
    simp only [partsA] at h ⊢
    split at h
    · rename_i v vs hv hvs; rw [opd_mono hl x v hv, parts_mono xs vs hvs]; exact h
    · simp at h
theorem optOf_mono (x : Option Operand) (a : Option AV) (h : optOf env x = some a) : optOf env2 x = some a := by
  cases x with
  | none => exact h
  | some y =>
    simp only [optOf] at h ⊢
    split at h
    · rename_i b hb; rw [opd_mono hl y b hb]; exact h
    · simp at h
theorem b1_mono {x : Operand} {f : AV → Option AV} {r : AV} (h : b1 (opd env x) f = some r) : b1 (opd env2 x) f = some r := by
  unfold b1 at h; split at h
  · rename_i a ha; rw [opd_mono hl x a ha]; exact h
  · simp at h
theorem b2_mono {x y : Operand} {f : AV → AV → Option AV} {r : AV} (h : b2 (opd env x) (opd env y) f = some r) : b2 (opd env2 x) (opd env2 y) f = some r := by
  unfold b2 at h; split at h
  · rename_i a ha
    split at h
    · rename_i b hb; rw [opd_mono hl x a ha, opd_mono hl y b hb]; exact h
    · simp at h
  · simp at h
theorem aP_mono {X : Cx} {o : Op} {v : AV} (h : aP X env o = some v) : aP X env2 o = some v := by
  unfold aP at h ⊢
  split at h
  · exact opd_mono hl _ _ h
  · exact opd_mono hl _ _ h
  · unfold pPick at h ⊢
    split at h
    · rename_i hc; rw [opd_mono hl _ _ hc]; exact opd_mono hl _ _ h
    · rename_i hc; rw [opd_mono hl _ _ hc]; exact opd_mono hl _ _ h
    · simp at h
  · unfold pBuild at h ⊢
    split at h
    · rename_i z hz
      split at h
      · rename_i ps hps; rw [parts_mono hl _ _ hps]; exact h
      · simp at h
    · simp at h
  · exact b1_mono hl h
  · exact b2_mono hl h
  · exact b1_mono hl h
  · exact b1_mono hl h
  · unfold pFunc at h ⊢
    split at h
    · rename_i a ha
      split at h
      · rename_i b hb; rw [opds_mono hl _ _ ha, opds_mono hl _ _ hb]; exact h
      · simp at h
    · simp at h
  · exact b1_mono hl h
  · exact b1_mono hl h
  · exact b2_mono hl h
  · exact b2_mono hl h
  · exact b1_mono hl h
  · exact b1_mono hl h
  · split at h
    · split at h
      · split at h
        · exact b1_mono hl h
        · simp at h
      · simp at h
    · split at h
      · exact b2_mono hl h
      · simp at h
    · split at h
      · exact b2_mono hl h
      · simp at h
    · simp at h
  · simp at h
theorem aL_mono {X : Cx} {H : AH} {o : Op} {v : AV} (h : aL X env H o = some v) : aL X env2 H o = some v := by
  unfold aL at h ⊢
  split at h
  · exact b1_mono hl h
  · unfold lSlice at h ⊢
    split at h
    · rename_i a ha
      split at h
      · rename_i lo hlo
        split at h
        · rename_i hi hhi
          split at h
          · rename_i mx hmx
            rw [opd_mono hl _ _ ha, optOf_mono hl _ _ hlo, optOf_mono hl _ _ hhi, optOf_mono hl _ _ hmx]; exact h
          · simp at h
        · simp at h
      · simp at h
    · simp at h
  · exact b2_mono hl h
  · exact b1_mono hl h
  · exact b2_mono hl h
  · split at h
    · split at h
      · split at h
        · exact b1_mono hl h
        · simp at h
      · simp at h
    · simp at h
  · simp at h
theorem aA_mono {X : Cx} {o : Op} {v : AObj × (Nat → AV)} (h : aA X env o = some v) : aA X env2 o = some v := by
  unfold aA at h ⊢
  split at h
  · exact h
  · unfold aA1 at h ⊢
    split at h
    · rename_i a ha; rw [opd_mono hl _ _ ha]; exact h
    · simp at h
  · unfold aABuild at h ⊢
    split at h
    · rename_i e he
      split at h
      · rename_i ps hps; simp only [parts_mono hl _ _ hps]; exact h
      · simp at h
    · simp at h
  · unfold aAMake at h ⊢
    split at h
    · rename_i n hn
      split at h
      · rename_i m hm; simp only [opd_mono hl _ _ hn, opd_mono hl _ _ hm]; exact h
      · simp at h
    · simp at h
  · split at h
    · rename_i a ha; rw [opd_mono hl _ _ ha]; exact h
    · simp at h
  · exact h
  · simp at h
theorem aE_mono {X : Cx} {H : AH} {o : Op} {v : AV × AH} (h : aE X env H o = some v) : aE X env2 H o = some v := by
  unfold aE at h ⊢
  split at h
  · unfold eStore at h ⊢
    split at h
    · rename_i p hp
      split at h
      · rename_i y hy; rw [opd_mono hl _ _ hp, opd_mono hl _ _ hy]; exact h
      · simp at h
    · simp at h
  · unfold c3 at h ⊢
    split at h
    · rename_i a ha
      split at h
      · rename_i b hb
        split at h
        · rename_i c hc; rw [opd_mono hl _ _ ha, opd_mono hl _ _ hb, opd_mono hl _ _ hc]; exact h
        · simp at h
      · simp at h
    · simp at h
  · split at h
    · unfold eBuiltin at h ⊢
      split at h
      · split at h
        · split at h
          · unfold eAppend at h ⊢
            split at h
            · rename_i a ha
              split at h
              · rename_i b hb; simp only [opd_mono hl _ _ ha, opd_mono hl _ _ hb]; exact h
              · simp at h
            · simp at h
          · simp at h
        · simp at h
      · split at h
        · split at h
          · unfold eCopy at h ⊢
            split at h
            · rename_i a ha
              split at h
              · rename_i b hb; simp only [opd_mono hl _ _ ha, opd_mono hl _ _ hb]; exact h
              · simp at h
            · simp at h
          · simp at h
        · simp at h
      · split at h
        · split at h
          · unfold c2 at h ⊢
            split at h
            · rename_i a ha
              split at h
              · rename_i b hb; simp only [opd_mono hl _ _ ha, opd_mono hl _ _ hb]; exact h
              · simp at h
            · simp at h
          · simp at h
        · simp at h
      · split at h
        · split at h
          · unfold c1 at h ⊢
            split at h
            · rename_i a ha; simp only [opd_mono hl _ _ ha]; exact h
            · simp at h
          · simp at h
        · simp at h
      · simp at h
    · simp at h
  · simp at h
theorem opF_mono {X : Cx} {r : Fns} {H : AH} {o : Op} {v : AV × AH} (h : opF X r env H o = some v) : opF X r env2 H o = some v := by
  unfold opF at h ⊢
  split at h
  · rename_i hc
    unfold wV at h ⊢
    split at h
    · rename_i x hx; simp only [hc, aP_mono hl hx]; exact h
    · simp at h
  · rename_i hc
    unfold wV at h ⊢
    split at h
    · rename_i x hx; simp only [hc, aL_mono hl hx]; exact h
    · simp at h
  · rename_i hc
    cases hx : aA X env o with
    | none => rw [hx] at h; simp [wA] at h
    | some x => simp only [hc, aA_mono hl hx]; rw [hx] at h; exact h
  · exact aE_mono hl h
  · unfold opF.callO at h ⊢
    split at h
    · split at h
      · unfold opF.callV at h ⊢
        split at h
        · rename_i g a b hf
          split at h
          · rename_i az has; simp only [opd_mono hl _ _ hf, opds_mono hl _ _ has]; exact h
          · simp at h
        · rename_i A hf
          split at h
          · rename_i az has; simp only [opd_mono hl _ _ hf, opds_mono hl _ _ has]; exact h
          · simp at h
        · simp at h
      · simp at h
    · simp at h
theorem want_mono {ops : Array Oper} {o : Oper} {b : Bool} (h : wantA ops env o = some b) : wantA ops env2 o = some b := by
  unfold wantA at h ⊢
  split at h
  · exact h
  · unfold wantG at h ⊢
    split at h
    · split at h
      · split at h
        · rename_i x hx; simp only [hl _ _ hx]; exact h
        · simp at h
      · exact h
    · exact h
end
end Go.Eng
end
section
namespace Go.Eng

theorem hd_some {vs : List AV} {K : AV → List AV → Rs} {out : Ex × AH} (h : hd vs K = some out) : ∃ v l, vs = v :: l ∧ K v l = some out := by
  cases vs with
  | nil => exact absurd h (by simp [hd])
  | cons v l => exact ⟨_, _, rfl, h⟩
/-- Slots, and what they hold. -/
def PK (env : Env) : List Nat → List AV → Prop
  | [], vs => vs = []
  | l :: L, vs => ∃ v vs', vs = v :: vs' ∧ look env l = some v ∧ PK env L vs'
theorem pck_some : ∀ {L : List Nat} {env : Env} {K : List AV → Rs} {out : Ex × AH}, pck L env K = some out → ∃ vs, PK env L vs ∧ K vs = some out
  | [], env, K, out, h => ⟨[], rfl, h⟩
  | l :: L, env, K, out, h => by
    simp only [pck] at h
    split at h
    · rename_i v hv
      obtain ⟨vs, h1, h2⟩ := pck_some h
      exact ⟨v :: vs, ⟨v, vs, rfl, hv, h1⟩, h2⟩
    · simp at h
theorem unp_some : ∀ {L : List Nat} {vs : List AV} {base : Env} {K : Env → Rs} {out : Ex × AH}, unp L vs base K = some out → ∀ env, PK env L vs → ∃ env', K env' = some out ∧ ∀ t, (t ∈ L → look env' t = look env t) ∧ (t ∉ L → look env' t = look base t)
  | [], vs, base, K, out, h, env, _ => ⟨base, h, fun t => ⟨fun h => by simp at h, fun _ => rfl⟩⟩
  | l :: L, vs, base, K, out, h, env, ⟨v, vs', e, hv, hp⟩ => by
    subst e
    simp only [unp, hd] at h
    obtain ⟨env', h1, h2⟩ := unp_some h env hp
    refine ⟨env', h1, fun t => ⟨fun ht => ?_, fun ht => ?_⟩⟩
    · by_cases htL : t ∈ L
      · exact (h2 t).1 htL
      · rw [(h2 t).2 htL]
        have : t = l := by simp at ht; rcases ht with h | h
                           · exact h
                           · exact absurd h htL
        subst this
        simp only [look, upd_at, if_true]; exact hv.symm
    · simp only [List.mem_cons, not_or] at ht
      rw [(h2 t).2 ht.2]
      simp only [look, upd_at, if_neg ht.1]
theorem dropE_look : ∀ (L : List Nat) (env : Env) (t : Nat), look (dropE L env) t = if t ∈ L then none else look env t
  | [], env, t => by simp [dropE]
  | l :: L, env, t => by
    have ih := dropE_look L env t
    simp only [look] at ih ⊢
    simp only [dropE, cond_eq_ite, Nat.beq_eq, List.mem_cons, ih]
    by_cases h1 : t = l <;> by_cases h2 : t ∈ L <;> simp [h1, h2]

theorem chks_some {mask : Nat} {H : AH} {K : Rs} {out : Ex × AH} : ∀ {sn : List Seen}, chks mask H K sn = some out → K = some out ∧ ∀ s ∈ sn, mask.testBit s.i = false → s.rd H = some s.v
  | [], h => ⟨h, by simp⟩
  | s :: l, h => by
    simp only [chks, cond_eq_ite] at h
    split at h
    · rename_i hb
      obtain ⟨h1, h2⟩ := chks_some h
      refine ⟨h1, fun q hq hm => ?_⟩
      rcases List.mem_cons.1 hq with rfl | hq
      · rw [hb] at hm; simp at hm
      · exact h2 q hq hm
    · unfold chk at h
      split at h
      · rename_i y hy
        rw [cond_eq_ite] at h
        split at h
        · rename_i hv
          obtain ⟨h1, h2⟩ := chks_some h
          refine ⟨h1, fun q hq hm => ?_⟩
          rcases List.mem_cons.1 hq with rfl | hq
          · rw [hy, aveq_eq _ _ hv]
          · exact h2 q hq hm
        · simp at h
      · simp at h

section
variable {B : Tb} {D : Dyn} {nt : Nat} {ops : Array Oper}

/-- A reading, taken again. -/
theorem rdOf_ok {env envC : Env} (hl : Le env envC) {o : Op} {H : AH} {v : AV} (hm : mayTurn B.X o = true) (h : rdOf B env o H = some v) : aL B.X envC H o = some v := by
  apply aL_mono hl
  unfold rdOf at h
  split at h
  · obtain ⟨a, ha, hf⟩ := q1_some h
    exact b1_of ha (tLoad_ok hf)
  · obtain ⟨a, b, ha, hb, hf⟩ := q2_some h
    exact b2_of ha hb (tLk_ok hf)
  · split at h
    · rename_i lo hi mx hlo hhi hmx
      obtain ⟨a, ha, hf⟩ := q1_some h
      show lSlice _ _ _ _ _ _ _ _ = _
      simp only [lSlice, ha, hlo, hhi, hmx]; exact tSlice_ok hf
    · simp at h
  · obtain ⟨a, ha, hf⟩ := q1_some h
    exact b1_of ha (tConvL_ok hf)
  · obtain ⟨a, b, ha, hb, hf⟩ := q2_some h
    exact b2_of ha hb (tBinL_ok hf)
  · rename_i c
    split at h
    · rename_i x t ts hargs htypes
      obtain ⟨a, ha, hf⟩ := q1_some h
      simp only [mayTurn] at hm
      split at hm
      · rename_i hc
        simp only [aL, hc, hargs, htypes]; exact b1_of ha (tLen_ok hf)
      · simp at hm
    · simp at h
  · simp at h

theorem alen_still {X : Cx} {t : TypeId} {x r : AV} {H : AH} (h : alen X t x H = some r) (hn : ∀ a b, X.und t ≠ some (.map a b)) (H2 : AH) : alen X t x H2 = some r := by
  unfold alen at h ⊢
  split at h <;> first | exact h | (rename_i hu; exact absurd hu (hn _ _)) | (simp at h; done)
/-- A reading that does not hang on memory. -/
theorem still_ok {env : Env} {o : Op} {H : AH} {v : AV} (hc : cls B.X o = .L) (hm : mayTurn B.X o = false) (h : aL B.X env H o = some v) (H2 : AH) : aL B.X env H2 o = some v := by
  unfold aL at h ⊢
  split at h
  · simp [mayTurn] at hm
  · rename_i t x lo hi mx
    simp only [mayTurn] at hm
    unfold lSlice at h ⊢
    split at h
    · split at h
      · split at h
        · split at h
          · unfold aslice at h ⊢
            split at h
            · rename_i a _ _ _ _ _ _ _ _ _ _ _
              split at h
              · exact h
              · rename_i hu _; simp [hu] at hm
              · rename_i hu _; simp [hu] at hm
              · rename_i hu _; simp [hu] at hm
              · exact h
              · exact h
              · simp at h
            · simp at h
          · simp at h
        · simp at h
      · simp at h
    · simp at h
  · simp [mayTurn] at hm
  · simp only [mayTurn, isL] at hm
    rw [hc] at hm; simp at hm
  · simp only [mayTurn] at hm
    simp [cls, hm] at hc
  · rename_i c
    split at h
    · rename_i hcal
      split at h
      · rename_i x hx
        split at h
        · rename_i t ts ht
          unfold b1 at h ⊢
          split at h
          · refine alen_still h (fun a b hu => ?_) H2
            simp only [mayTurn, hcal, ht, hu] at hm
            simp at hm
          · simp at h
        · simp at h
      · simp at h
    · simp at h
  · simp at h

/-- The slot that an operation's guard asks. -/
def gslot (ops : Array Oper) (o : Oper) : Option Nat := match o.guard with
  | none => none
  | some (j, _) => match nthO ops.toList j with
    | some p => p.dst
    | none => none
theorem want_look {env env' : Env} {o : Oper} (h : ∀ d, gslot ops o = some d → look env d = look env' d) : wantA ops env o = wantA ops env' o := by
  unfold wantA
  unfold gslot at h
  split
  · rfl
  · rename_i j want hg
    rw [hg] at h
    simp only at h
    unfold wantG
    split
    · rename_i p hp
      rw [hp] at h
      simp only at h
      split
      · rename_i d hd; rw [h d hd]
      · rfl
    · rfl

def SeeP (X : Cx) (ms : List Nat) (a b : Ent) : Prop := a.want = true → isEff (cls X b.o.op) = true → (ms.getD b.i 0).testBit a.i = false → cls X a.o.op = .L → aL X a.env b.H' a.o.op = some a.v
/-- What was read is looked after, or need not be. -/
def Tr (X : Cx) (ms : List Nat) (sn : List Seen) (pre : List Ent) (rest : List (Nat × Oper)) : Prop :=
  ∀ a ∈ pre, a.want = true → cls X a.o.op = .L → (∃ s ∈ sn, s.i = a.i ∧ s.v = a.v ∧ ∀ H v, s.rd H = some v → aL X a.env H a.o.op = some v) ∨ (∀ H, aL X a.env H a.o.op = some a.v) ∨ (∀ b ∈ rest, isEff (cls X b.2.op) = true → (ms.getD b.1 0).testBit a.i = true)

theorem Tr.see {X : Cx} {ms : List Nat} {sn : List Seen} {pre : List Ent} {rest : List (Nat × Oper)} (h : Tr X ms sn pre rest) {b : Ent} (hb : (b.i, b.o) ∈ rest) (hc : isEff (cls X b.o.op) = true → ∀ s ∈ sn, (ms.getD b.i 0).testBit s.i = false → s.rd b.H' = some s.v) : ∀ a ∈ pre, SeeP X ms a b := by
  intro a ha hw he hbit hL
  rcases h a ha hw hL with ⟨s, hs, h1, h2, h3⟩ | h1 | h1
  · have := hc he s hs (by rw [h1]; exact hbit)
    rw [← h2]; exact h3 _ _ this
  · exact h1 _
  · have := h1 _ hb he
    simp only at this; rw [this] at hbit; simp at hbit
theorem Tr.less {X : Cx} {ms : List Nat} {sn sn' : List Seen} {pre : List Ent} {rest rest' : List (Nat × Oper)} (h : Tr X ms sn pre rest) (hs : ∀ s ∈ sn, s ∈ sn') (hr : ∀ b ∈ rest', b ∈ rest) : Tr X ms sn' pre rest' := by
  intro a ha hw hL
  rcases h a ha hw hL with ⟨s, hs1, h1⟩ | h1 | h1
  · exact .inl ⟨s, hs s hs1, h1⟩
  · exact .inr (.inl h1)
  · exact .inr (.inr fun b hb => h1 b (hr b hb))

theorem setE_some {env : Env} {d : Option Tmp} {v : AV} {K : Env → Rs} {out : Ex × AH} (h : setE nt env d v K = some out) {envC : Env} (hl : Le env envC) :
    ∃ env' envC', setD nt envC d v = some envC' ∧ Le env' envC' ∧ K env' = some out := by
  unfold setE at h
  split at h
  · rename_i d
    rw [cond_eq_ite] at h
    split at h
    · rename_i hd
      exact ⟨_, _, by simp only [setD, hd, cond_true], hl.upd d v, h⟩
    · simp at h
  · exact ⟨_, _, rfl, hl, h⟩

theorem seenK_some {ms : List Nat} {env : Env} {sn : List Seen} {i : Nat} {o : Op} {v : AV} {H' : AH} {K : List Seen → Rs} {out : Ex × AH} (h : seenK B ms env sn i o v H' K = some out) :
    ∃ sn', K sn' = some out ∧ (∀ s ∈ sn, s ∈ sn') ∧ (isEff (cls B.X o) = true → ∀ s ∈ sn, (ms.getD i 0).testBit s.i = false → s.rd H' = some s.v) ∧
      (isEff (cls B.X o) = false → mayTurn B.X o = true → (⟨i, rdOf B env o, v⟩ : Seen) ∈ sn') := by
  unfold seenK at h
  simp only [cond_eq_ite] at h
  split at h
  · rename_i he
    obtain ⟨h1, h2⟩ := chks_some h
    exact ⟨sn, h1, fun _ h => h, fun _ => h2, fun h => by rw [he] at h; simp at h⟩
  · rename_i he
    split at h
    · exact ⟨_, h, fun s hs => by simp [hs], fun h => absurd h he, fun _ _ => by simp⟩
    · rename_i hm; exact ⟨_, h, fun _ h => h, fun h => absurd h he, fun _ h => absurd h hm⟩

theorem setD_keep {env env' : Env} {d : Option Tmp} {v : AV} (h : setD nt env d v = some env') {t : Nat} (ht : d ≠ some t) : look env' t = look env t := by
  rw [setD_look h, if_neg ht]

theorem rowK_chain {masks : Option (List Nat)} {K : List Seen → Env → AH → Rs} {out : Ex × AH} {rest : List (Nat × Oper)} : ∀ (row : List (Nat × Oper)) (sn : List Seen) (env : Env) (H : AH) (envC : Env) (pre : List Ent),
    rowK B D nt masks K row sn env H = some out → Le env envC → (∀ io ∈ row, wantA ops envC io.2 = some true) → (∀ io ∈ row, ∀ io' ∈ row, ∀ d, io.2.dst = some d → gslot ops io'.2 ≠ some d) →
    (∀ ms, masks = some ms → Tr B.X ms sn pre (row ++ rest)) →
    ∃ es envF HF sn' env', Chain B.X (rOf B D) nt ops envC H es envF HF ∧ es.map (fun e => (e.i, e.o)) = row ∧ (∀ e ∈ es, e.want = true) ∧ Le env' envF ∧ K sn' env' HF = some out ∧
      (∀ ms, masks = some ms → (∀ a ∈ pre, ∀ b ∈ es, SeeP B.X ms a b) ∧ es.Pairwise (SeeP B.X ms) ∧ Tr B.X ms sn' (pre ++ es) rest)
  | [], sn, env, H, envC, pre, h, hl, _, _, hT => ⟨[], envC, H, sn, env, ⟨rfl, rfl⟩, rfl, by simp, hl, h, fun ms hms => ⟨by simp, List.Pairwise.nil, by simpa using hT ms hms⟩⟩
  | (i, o) :: row, sn, env, H, envC, pre, h, hl, hw, hst, hT => by
    simp only [rowK] at h
    obtain ⟨v, H', hop, hk⟩ := opK_ok h
    have hopC := opF_mono hl hop
    have hwo := hw (i, o) (List.mem_cons_self ..)
    have hent : entD B.X (rOf B D) ops envC H i o = some ⟨i, o, true, envC, H, v, H'⟩ := by
      simp only at hwo
      simp only [entD, hwo, hopC]
    -- go on behind it
    have go : ∀ (sn' : List Seen) (env' envC' : Env), setD nt envC o.dst v = some envC' → Le env' envC' → rowK B D nt masks K row sn' env' H' = some out →
        (∀ ms, masks = some ms → (∀ s ∈ sn, s ∈ sn') ∧ (isEff (cls B.X o.op) = true → ∀ s ∈ sn, (ms.getD i 0).testBit s.i = false → s.rd H' = some s.v) ∧ (isEff (cls B.X o.op) = false → mayTurn B.X o.op = true → (⟨i, rdOf B env o.op, v⟩ : Seen) ∈ sn')) →
        ∃ es envF HF sn' env', Chain B.X (rOf B D) nt ops envC H es envF HF ∧ es.map (fun e => (e.i, e.o)) = (i, o) :: row ∧ (∀ e ∈ es, e.want = true) ∧ Le env' envF ∧ K sn' env' HF = some out ∧
          (∀ ms, masks = some ms → (∀ a ∈ pre, ∀ b ∈ es, SeeP B.X ms a b) ∧ es.Pairwise (SeeP B.X ms) ∧ Tr B.X ms sn' (pre ++ es) rest) := by
      intro sn' env' envC' hset hle hrow hsn
      obtain ⟨es, envF, HF, sn2, env2, c1, c2, c3, c4, c5, c6⟩ := rowK_chain row sn' env' H' envC' (pre ++ [⟨i, o, true, envC, H, v, H'⟩]) hrow hle
        (fun io hio => by
          rw [← hw io (List.mem_cons_of_mem _ hio)]
          exact want_look fun d hd => setD_keep hset (fun hc => hst (i, o) (List.mem_cons_self ..) io (List.mem_cons_of_mem _ hio) d hc hd))
        (fun io hio io' hio' => hst io (List.mem_cons_of_mem _ hio) io' (List.mem_cons_of_mem _ hio'))
        (fun ms hms => by
          obtain ⟨s1, s2, s3⟩ := hsn ms hms
          have hT' := (hT ms hms).less (sn' := sn') (rest' := row ++ rest) s1 (fun b hb => by simp only [List.cons_append]; exact List.mem_cons_of_mem _ hb)
          intro a ha hwa hLa
          rcases List.mem_append.1 ha with ha | ha
          · exact hT' a ha hwa hLa
          · simp only [List.mem_singleton] at ha
            subst ha
            simp only at hLa ⊢
            have hne : isEff (cls B.X o.op) = false := by rw [hLa]; rfl
            have hLv : aL B.X envC H o.op = some v := by
              have := hopC
              simp only [opF, hLa, wV] at this
              split at this
              · rename_i x hx; simp only [Option.some.injEq, Prod.mk.injEq] at this; rw [hx, this.1]
              · simp at this
            cases hmt : mayTurn B.X o.op with
            | true => exact .inl ⟨_, s3 hne hmt, rfl, rfl, fun H v hv => rdOf_ok hl hmt hv⟩
            | false => exact .inr (.inl fun H2 => still_ok hLa hmt hLv H2))
      refine ⟨⟨i, o, true, envC, H, v, H'⟩ :: es, envF, HF, sn2, env2, ⟨rfl, rfl, hent, envC', hset, c1⟩, by simp [c2], ?_, c4, c5, fun ms hms => ?_⟩
      · intro e he
        rcases List.mem_cons.1 he with rfl | he
        · rfl
        · exact c3 e he
      · obtain ⟨s1, s2, s3⟩ := hsn ms hms
        obtain ⟨d1, d2, d3⟩ := c6 ms hms
        have hsee := (hT ms hms).see (b := ⟨i, o, true, envC, H, v, H'⟩) (by simp) s2
        refine ⟨fun a ha b hb => ?_, List.Pairwise.cons (fun b hb => d1 _ (by simp) b hb) d2, by simpa using d3⟩
        rcases List.mem_cons.1 hb with rfl | hb
        · exact hsee a ha
        · exact d1 a (List.mem_append_left _ ha) b hb
    split at hk
    · obtain ⟨env', envC', h1, h2, h3⟩ := setE_some hk hl
      exact go sn env' envC' h1 h2 h3 (fun ms hms => by simp at hms)
    · rename_i ms
      obtain ⟨sn', k1, k2, k3, k4⟩ := seenK_some hk
      obtain ⟨env', envC', h1, h2, h3⟩ := setE_some k1 hl
      exact go sn' env' envC' h1 h2 h3 (fun ms' hms => by injection hms with hms; subst hms; exact ⟨k2, k3, k4⟩)

theorem chain_keep {X : Cx} {r : Fns} : ∀ {es : List Ent} {env : Env} {H : AH} {envF : Env} {HF : AH}, Chain X r nt ops env H es envF HF → ∀ t, (∀ e ∈ es, e.o.dst ≠ some t) → look envF t = look env t
  | [], _, _, _, _, h, t, _ => by rw [h.1]
  | e :: es, env, H, envF, HF, ⟨h1, h2, h3, env', h4, h5⟩, t, ht => by
    rw [chain_keep h5 t (fun q hq => ht q (List.mem_cons_of_mem _ hq)), setD_keep h4 (ht e (List.mem_cons_self ..))]

theorem chain_append {X : Cx} {r : Fns} : ∀ {es es2 : List Ent} {env : Env} {H : AH} {env1 : Env} {H1 : AH} {envF : Env} {HF : AH}, Chain X r nt ops env H es env1 H1 → Chain X r nt ops env1 H1 es2 envF HF → Chain X r nt ops env H (es ++ es2) envF HF
  | [], _, _, _, _, _, _, _, ⟨h1, h2⟩, k => by subst h1 h2; exact k
  | e :: es, es2, env, H, env1, H1, envF, HF, ⟨h1, h2, h3, env', h4, h5⟩, k => ⟨h1, h2, h3, env', h4, chain_append h5 k⟩

/-- A run that is not wanted. -/
theorem skip_chain {H : AH} : ∀ (run : List (Nat × Oper)) (envC : Env), (∀ io ∈ run, wantA ops envC io.2 = some false) → (∀ io ∈ run, ∀ io' ∈ run, ∀ d, io.2.dst = some d → gslot ops io'.2 ≠ some d) → (∀ io ∈ run, ∀ d, io.2.dst = some d → d < nt) →
    ∃ es envF, Chain B.X (rOf B D) nt ops envC H es envF H ∧ es.map (fun e => (e.i, e.o)) = run ∧ (∀ e ∈ es, e.want = false ∧ e.H' = H) ∧ ∀ t, t ∈ dstsOf run → look envF t = some undefA
  | [], envC, _, _, _ => ⟨[], envC, ⟨rfl, rfl⟩, rfl, by simp, fun t ht => by simp [dstsOf] at ht⟩
  | (i, o) :: run, envC, hw, hst, hlt => by
    have hwo := hw (i, o) (List.mem_cons_self ..)
    have hent : entD B.X (rOf B D) ops envC H i o = some ⟨i, o, false, envC, H, undefA, H⟩ := by
      simp only at hwo
      simp only [entD, hwo]
    have hset : ∃ envC', setD nt envC o.dst undefA = some envC' := by
      cases hd : o.dst with
      | none => exact ⟨_, rfl⟩
      | some d => exact ⟨upd envC d undefA, by simp only [setD, cond_eq_ite, Nat.blt_eq, if_pos (hlt (i, o) (List.mem_cons_self ..) d hd)]⟩
    obtain ⟨envC', hset⟩ := hset
    obtain ⟨es, envF, c1, c2, c3, c4⟩ := skip_chain run envC'
      (fun io hio => by
        rw [← hw io (List.mem_cons_of_mem _ hio)]
        exact want_look fun d hd => setD_keep hset (fun hc => hst (i, o) (List.mem_cons_self ..) io (List.mem_cons_of_mem _ hio) d hc hd))
      (fun io hio io' hio' => hst io (List.mem_cons_of_mem _ hio) io' (List.mem_cons_of_mem _ hio'))
      (fun io hio => hlt io (List.mem_cons_of_mem _ hio))
    refine ⟨⟨i, o, false, envC, H, undefA, H⟩ :: es, envF, ⟨rfl, rfl, hent, envC', hset, c1⟩, by simp [c2], ?_, fun t ht => ?_⟩
    · intro e he
      rcases List.mem_cons.1 he with rfl | he
      · exact ⟨rfl, rfl⟩
      · exact c3 e he
    · by_cases htr : t ∈ dstsOf run
      · exact c4 t htr
      · have hdt : o.dst = some t := by
          simp only [dstsOf, List.filterMap_cons] at ht htr
          split at ht
          · exact absurd ht htr
          · rename_i d hd
            rcases List.mem_cons.1 ht with rfl | ht
            · exact hd
            · exact absurd ht htr
        rw [chain_keep c1 t (fun e he hc => htr ?_), setD_look hset, if_pos hdt]
        have : (e.i, e.o) ∈ run := by rw [← c2]; exact List.mem_map.2 ⟨e, he, rfl⟩
        simp only [dstsOf, List.mem_filterMap]
        exact ⟨_, this, hc⟩
end
end Go.Eng
end
section
namespace Go.Eng

theorem jn_some {x : Rs} {K : List AV → AH → Rs} {out : Ex × AH} (h : jn x K = some out) : (∃ vs H, x = some (.norm vs, H) ∧ K vs H = some out) ∨ (∃ id vs H, x = some (.exit id vs, H) ∧ out = (.exit id vs, H)) ∨ (∃ v H, x = some (.ret v, H) ∧ out = (.ret v, H)) := by
  unfold jn at h; split at h
  · exact .inl ⟨_, _, rfl, h⟩
  · injection h with h; exact .inr (.inl ⟨_, _, _, rfl, h.symm⟩)
  · injection h with h; exact .inr (.inr ⟨_, _, rfl, h.symm⟩)
  · simp at h

theorem sameG_eq {a b : Option (Nat × Bool)} (h : sameG a b = true) : a = b := by
  unfold sameG at h; split at h
  · simp only [Bool.and_eq_true, Nat.beq_eq, beq_iff_eq] at h; rw [h.1, h.2]
  · simp at h
theorem spanG_ok {g : Option (Nat × Bool)} : ∀ {l run rest : List (Nat × Oper)}, spanG g l = (run, rest) → l = run ++ rest ∧ ∀ io ∈ run, io.2.guard = g
  | [], run, rest, h => by simp only [spanG, Prod.mk.injEq] at h; obtain ⟨rfl, rfl⟩ := h; simp
  | o :: l, run, rest, h => by
    simp only [spanG, cond_eq_ite] at h
    split at h
    · rename_i hg
      cases hs : spanG g l with
      | mk a b =>
        rw [hs] at h
        simp only [Prod.mk.injEq] at h
        obtain ⟨rfl, rfl⟩ := h
        obtain ⟨h1, h2⟩ := spanG_ok hs
        refine ⟨by rw [h1]; rfl, fun io hio => ?_⟩
        rcases List.mem_cons.1 hio with rfl | hio
        · exact (sameG_eq hg).symm
        · exact h2 io hio
    · simp only [Prod.mk.injEq] at h; obtain ⟨rfl, rfl⟩ := h; simp

section
variable {B : Tb} {D : Dyn} {nt : Nat} {ops : Array Oper}

theorem skipK_some {X : Cx} {masks : Option (List Nat)} {sn : List Seen} {H : AH} {K : Rs} {out : Ex × AH} : ∀ {run : List (Nat × Oper)}, skipK X masks sn H K run = some out → K = some out ∧ ∀ ms, masks = some ms → ∀ b ∈ run, isEff (cls X b.2.op) = true → ∀ s ∈ sn, (ms.getD b.1 0).testBit s.i = false → s.rd H = some s.v
  | [], h => ⟨h, by simp⟩
  | b :: run, h => by
    unfold skipK at h
    split at h
    · obtain ⟨h1, _⟩ := skipK_some h
      exact ⟨h1, fun ms hms => by simp at hms⟩
    · rename_i ms
      rw [cond_eq_ite] at h
      split at h
      · obtain ⟨h1, h2⟩ := chks_some h
        obtain ⟨h3, h4⟩ := skipK_some h1
        refine ⟨h3, fun ms' hms q hq => ?_⟩
        injection hms with hms; subst hms
        rcases List.mem_cons.1 hq with rfl | hq
        · exact fun _ => h2
        · exact h4 _ rfl q hq
      · rename_i hne
        obtain ⟨h3, h4⟩ := skipK_some h
        refine ⟨h3, fun ms' hms q hq => ?_⟩
        injection hms with hms; subst hms
        rcases List.mem_cons.1 hq with rfl | hq
        · exact fun he => absurd he hne
        · exact h4 _ rfl q hq

theorem chain_ent {X : Cx} {r : Fns} : ∀ {es : List Ent} {env : Env} {H : AH} {envF : Env} {HF : AH}, Chain X r nt ops env H es envF HF → ∀ e ∈ es, entD X r ops e.env e.H e.i e.o = some e
  | [], _, _, _, _, _, e, he => by simp at he
  | q :: es, env, H, envF, HF, ⟨h1, h2, h3, env', h4, h5⟩, e, he => by
    rcases List.mem_cons.1 he with rfl | he
    · rw [h1, h2]; exact h3
    · exact chain_ent h5 e he

theorem PK_map {env : Env} {v : AV} : ∀ {L : List Nat}, (∀ t ∈ L, look env t = some v) → PK env L (L.map fun _ => v)
  | [], _ => rfl
  | l :: L, h => ⟨v, _, rfl, h l (List.mem_cons_self ..), PK_map fun t ht => h t (List.mem_cons_of_mem _ ht)⟩

theorem outOf_sub {run rest : List (Nat × Oper)} {t : Nat} (h : t ∈ outOf ops run rest) : t ∈ dstsOf run := by
  simp only [outOf, List.mem_filterMap] at h
  obtain ⟨a, ha, h1⟩ := h
  simp only [dstsOf, List.mem_filterMap]
  refine ⟨a, ha, ?_⟩
  split at h1
  · rename_i d hd
    rw [cond_eq_ite] at h1
    split at h1
    · rw [hd]; exact h1
    · simp at h1
  · simp at h1

theorem opsK_succ (masks : Option (List Nat)) (K : Env → AH → Rs) (fuel : Nat) (row : List (Nat × Oper)) (sn : List Seen) (env : Env) (H : AH) : opsK B D nt ops masks (fuel + 1) K row sn env H = (match row with
      | [] => K env H
      | (i, o) :: rest => match o.guard with
        | none => rowK B D nt masks (fun sn env H => opsK B D nt ops masks fuel K rest sn env H) [(i, o)] sn env H
        | some (j, want) => match guardV ops env j with
          | none => none
          | some g => match spanG o.guard rest with
            | (run, rest) => bif freeG nt ops j ((i, o) :: run) then
                bif runOk B.X masks ((i, o) :: run) rest then
                  runK B D nt ops masks g want ((i, o) :: run) (outOf ops ((i, o) :: run) rest) sn env H fun env H => opsK B D nt ops masks fuel K rest sn env H
                else runW B D nt masks g want ((i, o) :: run) (outOf ops ((i, o) :: run) rest) sn env H fun sn env H => opsK B D nt ops masks fuel K rest sn env H
              else none) := rfl

theorem opsK_chain {masks : Option (List Nat)} {K : Env → AH → Rs} {out : Ex × AH} : ∀ (fuel : Nat) (row : List (Nat × Oper)) (sn : List Seen) (env : Env) (H : AH) (envC : Env) (pre : List Ent),
    opsK B D nt ops masks fuel K row sn env H = some out → Le env envC → (∀ ms, masks = some ms → Tr B.X ms sn pre row) →
    ∃ es envF HF env', Chain B.X (rOf B D) nt ops envC H es envF HF ∧ es.map (fun e => (e.i, e.o)) = row ∧ Le env' envF ∧ K env' HF = some out ∧
      (∀ ms, masks = some ms → (∀ a ∈ pre, ∀ b ∈ es, SeeP B.X ms a b) ∧ es.Pairwise (SeeP B.X ms))
  | 0, row, sn, env, H, envC, pre, h, hl, hT => by
    have h' : (none : Rs) = some out := h
    simp at h'
  | fuel + 1, row, sn, env, H, envC, pre, h, hl, hT => by
    have ih := opsK_chain (masks := masks) (K := K) (out := out) fuel
    have h0 := h
    rw [opsK_succ] at h0
    clear h
    split at h0
    · exact ⟨[], envC, H, env, ⟨rfl, rfl⟩, rfl, hl, h0, fun ms hms => ⟨by simp, List.Pairwise.nil⟩⟩
    · rename_i i o rest
      split at h0
      · rename_i hg
        obtain ⟨es, envF, HF, sn', env', c1, c2, c3, c4, c5, c6⟩ := rowK_chain (ops := ops) (rest := rest) [(i, o)] sn env H envC pre h0 hl
          (fun io hio => by simp only [List.mem_singleton] at hio; subst hio; simp [wantA, hg])
          (fun io hio io' hio' d hd => by simp only [List.mem_singleton] at hio'; subst hio'; simp [gslot, hg])
          (fun ms hms => by simpa using hT ms hms)
        obtain ⟨es2, envF2, HF2, env2, d1, d2, d3, d4, d5⟩ := ih rest sn' env' HF envF (pre ++ es) c5 c4 (fun ms hms => (c6 ms hms).2.2)
        refine ⟨es ++ es2, envF2, HF2, env2, chain_append c1 d1, by rw [List.map_append, c2, d2]; rfl, d3, d4, fun ms hms => ?_⟩
        obtain ⟨e1, e2, e3⟩ := c6 ms hms
        obtain ⟨f1, f2⟩ := d5 ms hms
        refine ⟨fun a ha b hb => ?_, List.pairwise_append.2 ⟨e2, f2, fun a ha b hb => f1 a (List.mem_append_right _ ha) b hb⟩⟩
        rcases List.mem_append.1 hb with hb | hb
        · exact e1 a ha b hb
        · exact f1 a (List.mem_append_left _ ha) b hb
      · rename_i j want hg
        split at h0
        · simp at h0
        · rename_i g hgv
          cases hsp : spanG o.guard rest with
          | mk run rest' =>
            rw [hsp] at h0
            simp only [cond_eq_ite] at h0
            split at h0
            · rename_i hfree
              obtain ⟨hsplit, hguards⟩ := spanG_ok hsp
              have hrow : (i, o) :: rest = ((i, o) :: run) ++ rest' := by rw [hsplit]; rfl
              generalize hRUN : (i, o) :: run = RUN at h0 hfree hrow
              have hgd : ∀ io ∈ RUN, io.2.guard = some (j, want) := by
                intro io hio
                rw [← hRUN] at hio
                rcases List.mem_cons.1 hio with rfl | hio
                · exact hg
                · rw [hguards io hio, hg]
              -- the guard's slot
              unfold guardV at hgv
              unfold freeG at hfree
              split at hgv
              · rename_i p hp
                simp only [hp] at hfree
                split at hgv
                · rename_i dg hdg
                  simp only [hdg, Bool.and_eq_true, Bool.not_eq_true', List.contains_eq_mem, decide_eq_false_iff_not, List.all_eq_true, Nat.blt_eq] at hfree
                  obtain ⟨hnd, hlt⟩ := hfree
                  have hgs : ∀ io ∈ RUN, gslot ops io.2 = some dg := fun io hio => by simp only [gslot, hgd io hio, hp, hdg]
                  have hwt : ∀ io ∈ RUN, wantA ops envC io.2 = some (isW g want) := fun io hio => by
                    simp only [wantA, hgd io hio, wantG, hp, hdg, hl _ _ hgv]
                  have hst : ∀ io ∈ RUN, ∀ io' ∈ RUN, ∀ d, io.2.dst = some d → gslot ops io'.2 ≠ some d := fun io hio io' hio' d hd hc => by
                    rw [hgs io' hio'] at hc; injection hc with hc; subst hc
                    exact hnd (by simp only [dstsOf, List.mem_filterMap]; exact ⟨io, hio, hd⟩)
                  have hTr : ∀ ms, masks = some ms → Tr B.X ms sn pre (RUN ++ rest') := fun ms hms => by rw [← hrow]; exact hT ms hms
                  -- the run, whichever way
                  have key : ∃ es1 envF1 HF1 env2 sn2, Chain B.X (rOf B D) nt ops envC H es1 envF1 HF1 ∧ es1.map (fun e => (e.i, e.o)) = RUN ∧ Le env2 envF1 ∧ opsK B D nt ops masks fuel K rest' sn2 env2 HF1 = some out ∧
                      (∀ ms, masks = some ms → (∀ a ∈ pre, ∀ b ∈ es1, SeeP B.X ms a b) ∧ es1.Pairwise (SeeP B.X ms) ∧ Tr B.X ms sn2 (pre ++ es1) rest') := by
                    have hle2 : ∀ {es1 : List Ent} {envF1 : Env} {HF1 : AH} {env2 : Env}, Chain B.X (rOf B D) nt ops envC H es1 envF1 HF1 → es1.map (fun e => (e.i, e.o)) = RUN →
                        (∀ t, t ∉ outOf ops RUN rest' → look env2 t = look (dropE (dstsOf RUN) env) t) → (∀ t x, t ∈ outOf ops RUN rest' → look env2 t = some x → look envF1 t = some x) → Le env2 envF1 := by
                      intro es1 envF1 HF1 env2 hc hm h1 h2 t x hx
                      by_cases ht : t ∈ outOf ops RUN rest'
                      · exact h2 t x ht hx
                      · rw [h1 t ht, dropE_look] at hx
                        split at hx
                        · simp at hx
                        · rename_i htd
                          rw [chain_keep hc t (fun e he hce => htd ?_)]
                          · exact hl t x hx
                          · have : (e.i, e.o) ∈ RUN := by rw [← hm]; exact List.mem_map.2 ⟨e, he, rfl⟩
                            simp only [dstsOf, List.mem_filterMap]
                            exact ⟨_, this, hce⟩
                    split at h0
                    · rename_i hrun
                      unfold runK at h0
                      cases hwb : isW g want with
                      | true =>
                        simp only [wnt, hwb, cond_true] at h0
                        have hx : ∃ vs H1, rowK B D nt masks (fun _ env H => pck (outOf ops RUN rest') env fun vs => some (.norm vs, H)) RUN sn env H = some (.norm vs, H1) ∧ (unp (outOf ops RUN rest') vs (dropE (dstsOf RUN) env) fun env => opsK B D nt ops masks fuel K rest' sn env H1) = some out ∧ True := by
                          rcases jn_some h0 with ⟨vs, H1, h1, h2⟩ | ⟨id, vs, H1, h1, h2⟩ | ⟨v, H1, h1, h2⟩
                          · exact ⟨vs, H1, h1, h2, trivial⟩
                          · obtain ⟨_, _, _, _, _, _, _, _, _, c5, _⟩ := rowK_chain (ops := ops) (rest := rest') RUN sn env H envC pre h1 hl (fun io hio => by rw [hwt io hio, hwb]) hst hTr
                            obtain ⟨_, _, c7⟩ := pck_some c5
                            simp at c7
                          · obtain ⟨_, _, _, _, _, _, _, _, _, c5, _⟩ := rowK_chain (ops := ops) (rest := rest') RUN sn env H envC pre h1 hl (fun io hio => by rw [hwt io hio, hwb]) hst hTr
                            obtain ⟨_, _, c7⟩ := pck_some c5
                            simp at c7
                        obtain ⟨vs, H1, h1, h2, _⟩ := hx
                        obtain ⟨es1, envF1, HF1, sn1, env1, c1, c2, c3, c4, c5, c6⟩ := rowK_chain (ops := ops) (rest := rest') RUN sn env H envC pre h1 hl (fun io hio => by rw [hwt io hio, hwb]) hst hTr
                        obtain ⟨vs', c7, c8⟩ := pck_some c5
                        simp only [Option.some.injEq, Prod.mk.injEq, Ex.norm.injEq] at c8
                        obtain ⟨rfl, rfl⟩ := c8
                        obtain ⟨env2, u1, u2⟩ := unp_some h2 env1 c7
                        refine ⟨es1, envF1, HF1, env2, sn, c1, c2, hle2 c1 c2 (fun t ht => (u2 t).2 ht) (fun t x ht hx => c4 t x (by rw [← (u2 t).1 ht]; exact hx)), u1, fun ms hms => ?_⟩
                        obtain ⟨e1, e2, e3⟩ := c6 ms hms
                        refine ⟨e1, e2, fun a ha hwa hLa => ?_⟩
                        rcases List.mem_append.1 ha with ha | ha
                        · exact ((hTr ms hms).less (fun _ h => h) (fun b hb => List.mem_append_right _ hb)) a ha hwa hLa
                        · have hent := chain_ent c1 a ha
                          have hopa := (ent_ok _ _ _ hent).2.1 hwa
                          have hLv : aL B.X a.env a.H a.o.op = some a.v := by
                            simp only [opF, hLa, wV] at hopa
                            split at hopa
                            · rename_i x hx; simp only [Option.some.injEq, Prod.mk.injEq] at hopa; rw [hx, hopa.1]
                            · simp at hopa
                          cases hmt : mayTurn B.X a.o.op with
                          | false => exact .inr (.inl fun H2 => still_ok hLa hmt hLv H2)
                          | true =>
                            refine .inr (.inr fun b hb he => ?_)
                            simp only [runOk, hms, List.all_eq_true, Bool.or_eq_true, Bool.not_eq_true'] at hrun
                            have hmem : (a.i, a.o) ∈ RUN := by rw [← c2]; exact List.mem_map.2 ⟨a, ha, rfl⟩
                            rcases hrun _ hmem with hr | hr
                            · simp only at hr; rw [hmt] at hr; simp at hr
                            · rcases hr b hb with hr | hr
                              · rw [he] at hr; simp at hr
                              · exact hr
                      | false =>
                        simp only [wnt, hwb, cond_false] at h0
                        have hx : ∃ vs H1, skipK B.X masks sn H (some (.norm ((outOf ops RUN rest').map fun _ => undefA), H)) RUN = some (.norm vs, H1) ∧ (unp (outOf ops RUN rest') vs (dropE (dstsOf RUN) env) fun env => opsK B D nt ops masks fuel K rest' sn env H1) = some out := by
                          rcases jn_some h0 with ⟨vs, H1, h1, h2⟩ | ⟨id, vs, H1, h1, h2⟩ | ⟨v, H1, h1, h2⟩
                          · exact ⟨vs, H1, h1, h2⟩
                          · have := (skipK_some h1).1; simp at this
                          · have := (skipK_some h1).1; simp at this
                        obtain ⟨vs, H1, h1, h2⟩ := hx
                        obtain ⟨h3, h4⟩ := skipK_some h1
                        simp only [Option.some.injEq, Prod.mk.injEq, Ex.norm.injEq] at h3
                        obtain ⟨rfl, rfl⟩ := h3
                        obtain ⟨es1, envF1, c1, c2, c3, c4⟩ := skip_chain (B := B) (D := D) (nt := nt) (ops := ops) (H := H) RUN envC (fun io hio => by rw [hwt io hio, hwb]) hst (fun io hio d hd => hlt d (by simp only [dstsOf, List.mem_filterMap]; exact ⟨io, hio, hd⟩))
                        obtain ⟨env2, u1, u2⟩ := unp_some h2 envF1 (PK_map fun t ht => c4 t (outOf_sub ht))
                        refine ⟨es1, envF1, H, env2, sn, c1, c2, hle2 c1 c2 (fun t ht => (u2 t).2 ht) (fun t x ht hx => by rw [← (u2 t).1 ht]; exact hx), u1, fun ms hms => ⟨fun a ha b hb => ?_, ?_, fun a ha hwa hLa => ?_⟩⟩
                        · have hmem : (b.i, b.o) ∈ RUN := by rw [← c2]; exact List.mem_map.2 ⟨b, hb, rfl⟩
                          refine (hTr ms hms).see (List.mem_append_left _ hmem) (fun he => ?_) a ha
                          rw [(c3 b hb).2]
                          exact h4 ms hms _ hmem he
                        · refine List.Pairwise.imp_of_mem (R := fun _ _ => True) (fun {a b} ha _ _ hw => ?_) (List.pairwise_of_forall fun _ _ => trivial)
                          rw [(c3 a ha).1] at hw; simp at hw
                        · rcases List.mem_append.1 ha with ha | ha
                          · exact ((hTr ms hms).less (fun _ h => h) (fun b hb => List.mem_append_right _ hb)) a ha hwa hLa
                          · rw [(c3 a ha).1] at hwa; simp at hwa
                    · unfold runW at h0
                      cases hwb : isW g want with
                      | true =>
                        simp only [wnt, hwb, cond_true] at h0
                        obtain ⟨es1, envF1, HF1, sn1, env1, c1, c2, c3, c4, c5, c6⟩ := rowK_chain (ops := ops) (rest := rest') RUN sn env H envC pre h0 hl (fun io hio => by rw [hwt io hio, hwb]) hst hTr
                        exact ⟨es1, envF1, HF1, env1, sn1, c1, c2, c4, c5, fun ms hms => c6 ms hms⟩
                      | false =>
                        simp only [wnt, hwb, cond_false] at h0
                        obtain ⟨h2, h4⟩ := skipK_some h0
                        obtain ⟨es1, envF1, c1, c2, c3, c4⟩ := skip_chain (B := B) (D := D) (nt := nt) (ops := ops) (H := H) RUN envC (fun io hio => by rw [hwt io hio, hwb]) hst (fun io hio d hd => hlt d (by simp only [dstsOf, List.mem_filterMap]; exact ⟨io, hio, hd⟩))
                        obtain ⟨env2, u1, u2⟩ := unp_some h2 envF1 (PK_map fun t ht => c4 t (outOf_sub ht))
                        refine ⟨es1, envF1, H, env2, sn, c1, c2, hle2 c1 c2 (fun t ht => (u2 t).2 ht) (fun t x ht hx => by rw [← (u2 t).1 ht]; exact hx), u1, fun ms hms => ⟨fun a ha b hb => ?_, ?_, fun a ha hwa hLa => ?_⟩⟩
                        · have hmem : (b.i, b.o) ∈ RUN := by rw [← c2]; exact List.mem_map.2 ⟨b, hb, rfl⟩
                          refine (hTr ms hms).see (List.mem_append_left _ hmem) (fun he => ?_) a ha
                          rw [(c3 b hb).2]
                          exact h4 ms hms _ hmem he
                        · refine List.Pairwise.imp_of_mem (R := fun _ _ => True) (fun {a b} ha _ _ hw => ?_) (List.pairwise_of_forall fun _ _ => trivial)
                          rw [(c3 a ha).1] at hw; simp at hw
                        · rcases List.mem_append.1 ha with ha | ha
                          · exact ((hTr ms hms).less (fun _ h => h) (fun b hb => List.mem_append_right _ hb)) a ha hwa hLa
                          · rw [(c3 a ha).1] at hwa; simp at hwa
                  obtain ⟨es1, envF1, HF1, env2, sn2, k1, k2, k3, k4, k5⟩ := key
                  obtain ⟨es2, envF2, HF2, env3, d1, d2, d3, d4, d5⟩ := ih rest' sn2 env2 HF1 envF1 (pre ++ es1) k4 k3 (fun ms hms => (k5 ms hms).2.2)
                  refine ⟨es1 ++ es2, envF2, HF2, env3, chain_append k1 d1, by rw [List.map_append, k2, d2, hrow], d3, d4, fun ms hms => ?_⟩
                  obtain ⟨e1, e2, e3⟩ := k5 ms hms
                  obtain ⟨f1, f2⟩ := d5 ms hms
                  refine ⟨fun a ha b hb => ?_, List.pairwise_append.2 ⟨e2, f2, fun a ha b hb => f1 a (List.mem_append_right _ ha) b hb⟩⟩
                  rcases List.mem_append.1 hb with hb | hb
                  · exact e1 a ha b hb
                  · exact f1 a (List.mem_append_left _ ha) b hb
                · simp at hgv
              · simp at hgv
            · simp at h0
end
end Go.Eng
end
section
namespace Go.Eng

/-- The marks of loops over functions in a frame: blocks that nobody else knows, with no deferred calls. -/
def Marks (lo : Nat) (R : Ren) (w : World) (ds : List Deferred) : Prop :=
  ds.Pairwise (fun a b => ∀ r, a = ⟨.collected r, #[]⟩ → b ≠ ⟨.collected r, #[]⟩) ∧
  ∀ d ∈ ds, ∃ r, d = ⟨.collected r, #[]⟩ ∧ lo ≤ r ∧ r < w.heap.size ∧ (∀ A d c, ¬ R A r d c) ∧ w.heap[r]? = some (.deferred (some []))
theorem Marks.nil (lo : Nat) (R : Ren) (w : World) : Marks lo R w [] := ⟨List.Pairwise.nil, by simp⟩
theorem Marks.ext {lo : Nat} {R R' : Ren} {H H' : AH} {w w' : World} {ds : List Deferred} (h : Marks lo R w ds) (k : Ext R H w R' H' w') : Marks lo R' w' ds := by
  refine ⟨h.1, fun d hd => ?_⟩
  obtain ⟨r, h1, h0, h2, h3, h4⟩ := h.2 d hd
  refine ⟨r, h1, h0, Nat.lt_of_lt_of_le h2 k.size, fun A d c hr => ?_, by rw [k.keep r h2 h3]; exact h4⟩
  rcases k.new _ _ _ _ hr with h5 | h5 | ⟨A0, d0, c0, h5⟩
  · exact h3 _ _ _ h5
  · omega
  · exact h3 _ _ _ h5

/-- Where the machine stands behind a piece of code. -/
def Ends (k : List Item) (post : Env → AH → Prop) (exits : Nat → Env → AH → Prop) (rets : Env → AH → Prop) (td : List Item) (env : Env) (H : AH) : Prop :=
  (td = k ∧ post env H) ∨ (∃ id k', td = .code (.exit id) :: k' ∧ exitTo id k' = exitTo id k ∧ exits id env H) ∨ (∃ k', td = .code .ret :: k' ∧ rets env H)

/-- What a machine does that begins with some item. -/
def SimI (P : Program) (nt : Nat) (f0 : FuncId) (ro : Bool) (it : Item) (env : Env) (H : AH) (post : Env → AH → Prop) (exits : Nat → Env → AH → Prop) (rets : Env → AH → Prop) : Prop :=
  ∀ (lo : Nat) (R : Ren) (fr : Frame) (k : List Item) (cs : List Frame) (w : World), fr.mode = .run → (ro = false → fr.roundOf = none ∧ fr.fn = f0) → fr.todo = it :: k → EnvR R env nt fr.tmps → Rel R H w → Marks lo R w fr.defers → lo ≤ w.heap.size →
    ∃ R' w' tmps' td ds env' H', Steps P (lone fr cs w) (lone { fr with tmps := tmps', todo := td, defers := ds } cs w') ∧ EnvR R' env' nt tmps' ∧ Rel R' H' w' ∧ Ext R H w R' H' w' ∧ H.next ≤ H'.next ∧ Marks lo R' w' ds ∧ Ends k post exits rets td env' H'

theorem SimI.mono {P : Program} {nt : Nat} {f0 : FuncId} {ro : Bool} {it : Item} {env : Env} {H : AH} {post post' : Env → AH → Prop} {exits exits' : Nat → Env → AH → Prop} {rets rets' : Env → AH → Prop} (h : SimI P nt f0 ro it env H post exits rets)
    (h1 : ∀ e H', post e H' → post' e H') (h2 : ∀ i e H', exits i e H' → exits' i e H') (h3 : ∀ e H', rets e H' → rets' e H') : SimI P nt f0 ro it env H post' exits' rets' := by
  intro lo R fr k cs w hm hro ht hE hL hM hlo
  obtain ⟨R', w', t', td, ds, env', H', a1, a2, a3, a4, a5, a6, a7⟩ := h lo R fr k cs w hm hro ht hE hL hM hlo
  refine ⟨R', w', t', td, ds, env', H', a1, a2, a3, a4, a5, a6, ?_⟩
  rcases a7 with ⟨b1, b2⟩ | ⟨id, k', b1, b2, b3⟩ | ⟨k', b1, b2⟩
  · exact .inl ⟨b1, h1 _ _ b2⟩
  · exact .inr (.inl ⟨id, k', b1, b2, h2 _ _ _ b3⟩)
  · exact .inr (.inr ⟨k', b1, h3 _ _ b2⟩)

/-- One piece behind another: the first one's normal end is the second one's beginning. -/
theorem SimI.then {P : Program} {nt : Nat} {f0 : FuncId} {ro : Bool} {it : Item} {env : Env} {H : AH} {post : Env → AH → Prop} {exits : Nat → Env → AH → Prop} {rets : Env → AH → Prop} {mid : Env → AH → Prop}
    (its : List Item) (hex : ∀ id k, exitTo id (its ++ k) = exitTo id k)
    (h : SimI P nt f0 ro it env H mid exits rets)
    (g : ∀ env1 H1, mid env1 H1 → ∀ (lo : Nat) (R : Ren) (fr : Frame) (k : List Item) (cs : List Frame) (w : World), fr.mode = .run → (ro = false → fr.roundOf = none ∧ fr.fn = f0) → fr.todo = its ++ k → EnvR R env1 nt fr.tmps → Rel R H1 w → Marks lo R w fr.defers → lo ≤ w.heap.size →
      ∃ R' w' tmps' td ds env' H', Steps P (lone fr cs w) (lone { fr with tmps := tmps', todo := td, defers := ds } cs w') ∧ EnvR R' env' nt tmps' ∧ Rel R' H' w' ∧ Ext R H1 w R' H' w' ∧ H1.next ≤ H'.next ∧ Marks lo R' w' ds ∧ Ends k post exits rets td env' H')
    (lo : Nat) (R : Ren) (fr : Frame) (k : List Item) (cs : List Frame) (w : World) (hm : fr.mode = .run) (hro : ro = false → fr.roundOf = none ∧ fr.fn = f0) (ht : fr.todo = it :: (its ++ k)) (hE : EnvR R env nt fr.tmps) (hL : Rel R H w) (hM : Marks lo R w fr.defers) (hlo : lo ≤ w.heap.size) :
      ∃ R' w' tmps' td ds env' H', Steps P (lone fr cs w) (lone { fr with tmps := tmps', todo := td, defers := ds } cs w') ∧ EnvR R' env' nt tmps' ∧ Rel R' H' w' ∧ Ext R H w R' H' w' ∧ H.next ≤ H'.next ∧ Marks lo R' w' ds ∧ Ends k post exits rets td env' H' := by
  obtain ⟨R1, w1, t1, td1, ds1, env1, H1, a1, a2, a3, a4, a5, a6, a7⟩ := h lo R fr (its ++ k) cs w hm hro ht hE hL hM hlo
  rcases a7 with ⟨rfl, b2⟩ | ⟨id, k', b1, b2, b3⟩ | ⟨k', b1, b2⟩
  · obtain ⟨R2, w2, t2, td2, ds2, env2, H2, c1, c2, c3, c4, c5, c6, c7⟩ := g env1 H1 b2 lo R1 { fr with tmps := t1, todo := its ++ k, defers := ds1 } k cs w1 hm hro rfl a2 a3 a6 (Nat.le_trans hlo a4.size)
    exact ⟨R2, w2, t2, td2, ds2, env2, H2, a1.trans c1, c2, c3, a4.trans c4, Nat.le_trans a5 c5, c6, c7⟩
  · exact ⟨R1, w1, t1, td1, ds1, env1, H1, a1, a2, a3, a4, a5, a6, .inr (.inl ⟨id, k', b1, by rw [b2, hex], b3⟩)⟩
  · exact ⟨R1, w1, t1, td1, ds1, env1, H1, a1, a2, a3, a4, a5, a6, .inr (.inr ⟨k', b1, b2⟩)⟩

/-- A single step first. -/
theorem SimI.step {P : Program} {nt : Nat} {H : AH} {fr fr1 : Frame} {k : List Item} {cs : List Frame} {w : World} {lo : Nat} {R : Ren} {post : Env → AH → Prop} {exits : Nat → Env → AH → Prop} {rets : Env → AH → Prop} {td0 : List Item}
    (hs : step P (lone fr cs w) = .next (lone fr1 cs w)) (hf : fr1 = { fr with todo := td0 })
    (g : ∃ R' w' tmps' td ds env' H', Steps P (lone { fr with todo := td0 } cs w) (lone { fr with tmps := tmps', todo := td, defers := ds } cs w') ∧ EnvR R' env' nt tmps' ∧ Rel R' H' w' ∧ Ext R H w R' H' w' ∧ H.next ≤ H'.next ∧ Marks lo R' w' ds ∧ Ends k post exits rets td env' H') :
    ∃ R' w' tmps' td ds env' H', Steps P (lone fr cs w) (lone { fr with tmps := tmps', todo := td, defers := ds } cs w') ∧ EnvR R' env' nt tmps' ∧ Rel R' H' w' ∧ Ext R H w R' H' w' ∧ H.next ≤ H'.next ∧ Marks lo R' w' ds ∧ Ends k post exits rets td env' H' := by
  subst hf
  obtain ⟨R', w', t', td, ds, env', H', a1, a2⟩ := g
  exact ⟨R', w', t', td, ds, env', H', (Steps.one hs).trans a1, a2⟩

theorem idx_get : ∀ (l : List Oper) (n : Nat), (idx l n).map (·.1) = (List.range l.length).map (n + ·) ∧ ∀ a ∈ idx l n, n ≤ a.1 ∧ l[a.1 - n]? = some a.2
  | [], n => by simp [idx]
  | o :: l, n => by
    obtain ⟨h1, h2⟩ := idx_get l (n + 1)
    refine ⟨?_, fun a ha => ?_⟩
    · simp only [idx, List.map_cons, h1, List.length_cons, List.range_succ_eq_map, List.map_map]
      simp only [Nat.add_zero, List.cons.injEq, true_and]
      apply List.map_congr_left
      intro x _; simp only [Function.comp]; omega
    · simp only [idx, List.mem_cons] at ha
      rcases ha with rfl | ha
      · simp
      · obtain ⟨h3, h4⟩ := h2 a ha
        refine ⟨by omega, ?_⟩
        rw [show a.1 - n = (a.1 - (n + 1)) + 1 from by omega, List.getElem?_cons_succ]; exact h4

section
variable {P : Program} {B : Tb} {D : Dyn} (hX : Ok P B.X) (hr : Good P (rOf B D)) {nt : Nat}

include hX hr in
/-- A chain, gone through in the text's order. -/
theorem chain_run {ops : Array Oper} : ∀ {es : List Ent} {env : Env} {H : AH} {envF : Env} {HF : AH}, Chain B.X (rOf B D) nt ops env H es envF HF → (∀ e ∈ es, ops[e.i]? = some e.o) →
    ∀ (R : Ren) (fr : Frame) (k : List Item) (cs : List Frame) (w : World), fr.mode = .run → fr.todo = .inRegion ops (es.map (·.i)) :: k → EnvR R env nt fr.tmps → Rel R H w →
    ∃ R' w' tmps', Steps P (lone fr cs w) (lone { fr with tmps := tmps', todo := .inRegion ops [] :: k } cs w') ∧ EnvR R' envF nt tmps' ∧ Rel R' HF w' ∧ Ext R H w R' HF w'
  | [], env, H, envF, HF, ⟨h1, h2⟩, _, R, fr, k, cs, w, hm, ht, hE, hL => by
    subst h1 h2
    refine ⟨R, w, fr.tmps, ?_, hE, hL, Ext.refl R H w⟩
    have : ({ fr with tmps := fr.tmps, todo := .inRegion ops [] :: k } : Frame) = fr := by
      have ht' : fr.todo = .inRegion ops [] :: k := ht
      rw [← ht']
    rw [this]; exact .refl _ _
  | e :: es, env, H, envF, HF, ⟨h1, h2, h3, env', h4, h5⟩, hmem, R, fr, k, cs, w, hm, ht, hE, hL => by
    have ho := hmem e (List.mem_cons_self ..)
    obtain ⟨hw, hyes, hno⟩ := ent_ok _ _ _ h3
    have hwd := want_ok hE hw
    have ht' : fr.todo = .inRegion ops (e.i :: es.map (·.i)) :: k := ht
    have key : ∃ R1 w1 z, Steps P (lone fr cs w) (lone { fr with tmps := putT fr.tmps e.o.dst z, todo := .inRegion ops (es.map (·.i)) :: k } cs w1) ∧ VR R1 e.v z ∧ Rel R1 e.H' w1 ∧ Ext R H w R1 e.H' w1 := by
      cases hwe : e.want with
      | true =>
        rw [hwe] at hwd
        exact opF_ok hX hr (cs := cs) hm ht' ho hwd hE hL (hyes hwe)
      | false =>
        rw [hwe] at hwd
        obtain ⟨e1, e2⟩ := hno hwe
        refine ⟨R, w, undef, ?_, by rw [e1]; exact VR_undef R, by rw [e2]; exact hL, by rw [e2]; exact Ext.refl R H w⟩
        rw [← finish_region ht' ho]; exact .one (st_passed hm ht' ho hwd)
    obtain ⟨R1, w1, z, s1, v1, l1, x1⟩ := key
    obtain ⟨R2, w2, t2, s2, e2, l2, x2⟩ := chain_run h5 (fun q hq => hmem q (List.mem_cons_of_mem _ hq)) R1 { fr with tmps := putT fr.tmps e.o.dst z, todo := .inRegion ops (es.map (·.i)) :: k } k cs w1 hm rfl ((hE.mono x1.sub).put v1 h4) l1
    exact ⟨R2, w2, t2, s1.trans s2, e2, l2, x1.trans x2⟩

include hX hr in
theorem regK_ok {ops : Array Oper} {draw : Bool} {K : Env → AH → Rs} {env : Env} {H : AH} {out : Ex × AH} {id : Nat} (h : regK B D nt ops draw K env H = some out) (f0 : FuncId) (ro : Bool) (exits : Nat → Env → AH → Prop) (rets : Env → AH → Prop) :
    SimI P nt f0 ro (.code (.region id ops draw)) env H (fun env' H' => K env' H' = some out) exits rets := by
  unfold regK at h
  rw [cond_eq_ite] at h
  have fin : ∀ {env' envF : Env} {HF : AH}, SimCode P nt (.region id ops draw) env H .normal envF HF → Le env' envF → H.next ≤ HF.next → K env' HF = some out →
      SimI P nt f0 ro (.code (.region id ops draw)) env H (fun env' H' => K env' H' = some out) exits rets := by
    intro env' envF HF hs hl hn hk lo R fr k cs w hm _ ht hE hL hM hlo
    obtain ⟨R', w', t', td, a1, a2, a3, a4, a5⟩ := hs R fr k cs w hm ht hE hL
    simp only [Out] at a2; subst a2
    exact ⟨R', w', t', td, fr.defers, env', HF, a1, a3.le hl, a4, a5, hn, hM.ext a5, .inl ⟨rfl, hk⟩⟩
  split at h
  · rename_i hd
    subst hd
    split at h
    · rename_i row masks hplan
      obtain ⟨es, envF, HF, env', c1, c2, c3, c4, c5⟩ := opsK_chain _ row [] env H env [] h (Le.refl env) (fun ms hms => by intro a ha; simp at ha)
      exact fin (draw_core hX hr hr.mono hplan c1 c2 (c5 _ rfl).2) c3 (chain_next hr.mono c1).1 c4
    · simp at h
  · rename_i hd
    have hd' : draw = false := by simpa using hd
    subst hd'
    obtain ⟨es, envF, HF, env', c1, c2, c3, c4, _⟩ := opsK_chain _ _ [] env H env [] h (Le.refl env) (fun ms hms => by simp at hms)
    refine fin ?_ c3 (chain_next hr.mono c1).1 c4
    intro R fr k cs w hm ht hE hL
    obtain ⟨i1, i2⟩ := idx_get ops.toList 0
    have hi : es.map (·.i) = List.range ops.size := by
      have : es.map (·.i) = (idx ops.toList 0).map (·.1) := by rw [← c2]; simp
      rw [this, i1]; simp
    have hmem : ∀ e ∈ es, ops[e.i]? = some e.o := by
      intro e he
      have : (e.i, e.o) ∈ idx ops.toList 0 := by rw [← c2]; exact List.mem_map.2 ⟨e, he, rfl⟩
      have := (i2 _ this).2
      simpa using this
    obtain ⟨R1, w1, t1, s1, e1, l1, x1⟩ := chain_run hX hr c1 hmem R { fr with todo := .inRegion ops (List.range ops.size) :: k } k cs w hm (by rw [hi]) hE hL
    exact ⟨R1, w1, t1, k, (Steps.one (st_region hm ht)).trans (s1.trans (.one (st_region_end (fr := { fr with tmps := t1, todo := .inRegion ops [] :: k }) hm rfl))), rfl, e1, l1, x1⟩
end
end Go.Eng
end
section
namespace Go.Eng

theorem jb_some {id : Nat} {x : Rs} {K : List AV → AH → Rs} {out : Ex × AH} (h : jb id x K = some out) : ∃ y, x = some y ∧ ((∃ vs H, y = (.norm vs, H) ∧ K vs H = some out) ∨ (∃ vs H, y = (.exit id vs, H) ∧ K vs H = some out) ∨ (∃ i vs H, i ≠ id ∧ y = (.exit i vs, H) ∧ out = y) ∨ (∃ v H, y = (.ret v, H) ∧ out = y)) := by
  unfold jb at h; split at h
  · exact ⟨_, rfl, .inl ⟨_, _, rfl, h⟩⟩
  · rename_i i vs H
    rw [cond_eq_ite] at h
    split at h
    · rename_i hi; rw [Nat.beq_eq] at hi; subst hi; exact ⟨_, rfl, .inr (.inl ⟨_, _, rfl, h⟩)⟩
    · rename_i hi; rw [Nat.beq_eq] at hi; injection h with h; exact ⟨_, rfl, .inr (.inr (.inl ⟨_, _, _, hi, rfl, h.symm⟩))⟩
  · injection h with h; exact ⟨_, rfl, .inr (.inr (.inr ⟨_, _, rfl, h.symm⟩))⟩
  · simp at h
theorem cnd_some {c : AV} {a b : Rs} {out : Ex × AH} (h : cnd c a b = some out) : (c = .bool true ∧ a = some out) ∨ (c = .bool false ∧ b = some out) := by
  unfold cnd at h; split at h
  · exact .inl ⟨rfl, h⟩
  · exact .inr ⟨rfl, h⟩
  · simp at h

/-- What is known of the slots behind a meeting. -/
theorem unp_le {L : List Nat} {vs : List AV} {K : Env → Rs} {out : Ex × AH} (h : unp L vs env0 K = some out) {env : Env} (hp : PK env L vs) : ∃ env', K env' = some out ∧ Le env' env := by
  obtain ⟨env', h1, h2⟩ := unp_some h env hp
  refine ⟨env', h1, fun t x hx => ?_⟩
  by_cases ht : t ∈ L
  · rw [← (h2 t).1 ht]; exact hx
  · rw [(h2 t).2 ht] at hx; simp [look, env0] at hx

theorem liveOf_drop {Bk : List (Nat × List Nat)} {id i : Nat} {L : List Nat} (h : liveOf (dropB Bk id) i = some L) : i ≠ id ∧ liveOf Bk i = some L := by
  induction Bk with
  | nil => simp [dropB, liveOf] at h
  | cons x Bk ih =>
    obtain ⟨j, M⟩ := x
    unfold dropB at h
    simp only [List.filter_cons] at h
    split at h
    · rename_i hj
      simp only [Bool.not_eq_true'] at hj
      have hj' : j ≠ id := fun e => by rw [e] at hj; simp [Nat.beq_refl] at hj
      simp only [liveOf, cond_eq_ite, Nat.beq_eq] at h ⊢
      split at h
      · rename_i e; subst e; rw [if_pos rfl]; exact ⟨hj', h⟩
      · rename_i e; rw [if_neg e]; exact ih h
    · rename_i hj
      have hj' : j = id := by
        have : Nat.beq j id = true := by simpa using hj
        simpa using this
      obtain ⟨h1, h2⟩ := ih h
      refine ⟨h1, ?_⟩
      simp only [liveOf, cond_eq_ite, Nat.beq_eq]
      rw [if_neg (fun e => h1 (by rw [← e, hj']))]; exact h2

/-- How code may end, by what the evaluator says. -/
def XP (Bk : List (Nat × List Nat)) (out : Ex × AH) (id : Nat) (env : Env) (H : AH) : Prop := ∃ L vs, liveOf Bk id = some L ∧ PK env L vs ∧ out = (.exit id vs, H)
def RP (X : Cx) (rs : List ResultVar) (out : Ex × AH) (env : Env) (H : AH) : Prop := retE X rs env H = some out

theorem retK_form {X : Cx} {env : Env} {H : AH} : ∀ (rs : List ResultVar) (G : List AV → Rs), (∀ vs z, G vs = some z → ∃ v, z = (.ret v, H)) → ∀ z, retK X rs env H G = some z → ∃ v, z = (.ret v, H)
  | [], G, hG, z, hz => hG _ _ hz
  | r :: rs, G, hG, z, hz => by
    simp only [retK] at hz
    obtain ⟨v, _, h2⟩ := bV_some hz
    exact retK_form rs _ (fun vs z hz => hG _ _ hz) z h2
theorem retE_form {X : Cx} {rs : List ResultVar} {env : Env} {H : AH} {y : Ex × AH} (h : RP X rs y env H) : ∃ v, y = (.ret v, H) :=
  retK_form rs _ (fun vs z hz => by injection hz with hz; exact ⟨_, hz.symm⟩) _ h

/-- Is what is told of a piece of code true? -/
def ToldOk (P : Program) (nt : Nat) (f0 : FuncId) (c : Code) (L : List Nat) (m : List AV → AH → Option AH) : Prop :=
  ∀ (ro : Bool) (env : Env) (vs : List AV) (H H' : AH), PK env L vs → m vs H = some H' → H.next ≤ H'.next → SimI P nt f0 ro (.code c) env H (fun env' H'' => PK env' L vs ∧ H'' = H') (fun _ _ _ => False) (fun _ _ => False)
theorem tld_some {x : Option AH} {N : Nat} {K : AH → Rs} {out : Ex × AH} (h : tld x N K = some out) : ∃ H', x = some H' ∧ N ≤ H'.next ∧ K H' = some out := by
  unfold tld at h
  split at h
  · rename_i H'
    rw [cond_eq_ite] at h
    split at h
    · rename_i hle; rw [Nat.ble_eq] at hle; exact ⟨H', rfl, hle, h⟩
    · simp at h
  · simp at h

/-- Are the loops over functions where the hints say? -/
def SitesP (P : Program) (f0 : FuncId) (nt : Nat) : Code → Hint → Prop
  | .seq a b, .s ha hb => SitesP P f0 nt a ha ∧ SitesP P f0 nt b hb
  | .cond _ a b, .c _ ha hb => SitesP P f0 nt a ha ∧ SitesP P f0 nt b hb
  | .cond _ a b, .cl ha hb => SitesP P f0 nt a ha ∧ SitesP P f0 nt b hb
  | .cond _ a b, .cr ha hb => SitesP P f0 nt a ha ∧ SitesP P f0 nt b hb
  | .block _ b, .b _ hb => SitesP P f0 nt b hb
  | .block _ b, .b0 hb => SitesP P f0 nt b hb
  | .seq a b, .t L m => ToldOk P nt f0 (.seq a b) L m
  | .loop b, .l _ hb => SitesP P f0 nt b hb
  | .rangeFunc _ ps a b, .rf s _ => siteC f0 s = some (nt, ps, a, b)
  | _, _ => True

theorem newB_some {H : AH} {o : AObj} {K : Nat → AH → Rs} {out : Ex × AH} (h : newB H o K = some out) : ∃ t, T.set 40 H.h H.next o = some t ∧ T.get H.h H.next = none ∧ K H.next ⟨t, H.next + 1⟩ = some out := by
  unfold newB at h
  split at h
  · rename_i hn
    split at h
    · rename_i t ht; rw [fN_eq] at h; exact ⟨t, ht, hn, h⟩
    · simp at h
  · simp at h
theorem endLp_some {A : Nat} {H : AH} {K : Option Code → AH → Rs} {out : Ex × AH} (h : endLp A H K = some out) : ∃ l H', H.h.get A = some (.loop l) ∧ l.state ≠ .busy ∧ putA H A .dead = some H' ∧ K l.pending H' = some out := by
  unfold endLp at h
  split at h
  · rename_i l hA
    split at h
    · simp at h
    · rename_i hb
      split at h
      · rename_i H' hp; exact ⟨l, H', hA, hb, hp, h⟩
      · simp at h
  · simp at h
theorem exS_some {env : Env} {H : AH} {id : Nat} {out : Ex × AH} : ∀ {Bk : List (Nat × List Nat)}, exS Bk env H id = some out → XP Bk out id env H
  | [], h => by simp [exS] at h
  | (i, L) :: r, h => by
    simp only [exS, cond_eq_ite, Nat.beq_eq] at h
    split at h
    · rename_i e
      obtain ⟨vs, h1, h2⟩ := pck_some h
      injection h2 with h2
      exact ⟨L, vs, by simp [liveOf, e], h1, h2.symm⟩
    · rename_i e
      obtain ⟨L', vs, h1, h2, h3⟩ := exS_some h
      refine ⟨L', vs, ?_, h2, h3⟩
      simp only [liveOf, cond_eq_ite, Nat.beq_eq, if_neg e]; exact h1
theorem envA_look {env : Env} : ∀ {L : List Nat} {vs : List AV} {base : Env}, PK env L vs → ∀ t, (t ∈ L → look (envA L vs base) t = look env t) ∧ (t ∉ L → look (envA L vs base) t = look base t)
  | [], vs, base, h, t => by
    simp only [PK] at h; subst h
    exact ⟨fun h => by simp at h, fun _ => rfl⟩
  | l :: L, vs, base, ⟨v, vs', e, hv, hp⟩, t => by
    subst e
    obtain ⟨h1, h2⟩ := envA_look (base := upd base l v) hp t
    simp only [envA]
    refine ⟨fun ht => ?_, fun ht => ?_⟩
    · by_cases htL : t ∈ L
      · exact h1 htL
      · rw [h2 htL]
        have : t = l := by simp at ht; rcases ht with h | h
                           · exact h
                           · exact absurd h htL
        subst this
        simp only [look, upd_at, if_true]; exact hv.symm
    · simp only [List.mem_cons, not_or] at ht
      rw [h2 ht.2]
      simp only [look, upd_at, if_neg ht.1]
theorem envL_le {env : Env} {L : List Nat} {vs : List AV} (h : PK env L vs) : Le (envL L vs) env := by
  intro t x hx
  obtain ⟨h1, h2⟩ := envA_look (base := env0) h t
  by_cases ht : t ∈ L
  · rw [← h1 ht]; exact hx
  · have := h2 ht
    simp only [envL] at hx
    rw [this] at hx; simp [look, env0] at hx

theorem Rel.alloc_out {R : Ren} {H : AH} {w : World} (h : Rel R H w) (o : Obj) : Rel R H (w.alloc o) :=
  ⟨h.fn, h.inj, fun A b d c x r hx => by rw [heap_alloc_old _ _ _ (h.lt _ _ _ _ r).1]; exact h.obj A b d c x r hx, fun A b d c r => by rw [heap_alloc_size]; exact ⟨Nat.lt_succ_of_lt (h.lt _ _ _ _ r).1, (h.lt _ _ _ _ r).2⟩⟩
theorem Ext.alloc_out (R : Ren) (H : AH) (w : World) (o : Obj) : Ext R H w R H (w.alloc o) :=
  ⟨Sub.refl R, fun _ _ _ _ h => .inl h, fun _ _ _ _ h => .inl h, Nat.le_refl _, fun _ _ _ => rfl, rfl, rfl, rfl, by rw [heap_alloc_size]; omega, fun b hb _ => heap_alloc_old _ _ _ hb⟩

section
variable {P : Program} {B : Tb} {D : Dyn} (hX : Ok P B.X) (hr : Good P (rOf B D)) {nt : Nat} {rs : List ResultVar} {f0 : FuncId} {ro : Bool}

/-- A normal end, one item more. -/
theorem ends_block {id : Nat} {k : List Item} {fr : Frame} {cs : List Frame} {w0 w : World} {tmps : Array Value} {ds : List Deferred} (hm : fr.mode = .run) (h : Steps P (lone fr cs w0) (lone { fr with tmps := tmps, todo := .inBlock id :: k, defers := ds } cs w)) :
    Steps P (lone fr cs w0) (lone { fr with tmps := tmps, todo := k, defers := ds } cs w) :=
  h.trans (.one (st_inBlock (fr := { fr with tmps := tmps, todo := .inBlock id :: k, defers := ds }) hm rfl))
theorem ends_exit {id : Nat} {k k' : List Item} {fr : Frame} {cs : List Frame} {w0 w : World} {tmps : Array Value} {ds : List Deferred} (hm : fr.mode = .run) (hk : exitTo id k' = some k) (h : Steps P (lone fr cs w0) (lone { fr with tmps := tmps, todo := .code (.exit id) :: k', defers := ds } cs w)) :
    Steps P (lone fr cs w0) (lone { fr with tmps := tmps, todo := k, defers := ds } cs w) :=
  h.trans (.one (st_exit (fr := { fr with tmps := tmps, todo := .code (.exit id) :: k', defers := ds }) hm rfl hk))

include hX hr in
theorem codeK_ok {n : Nat} : ∀ (c : Code) (h : Hint) (Bk : List (Nat × List Nat)) (K : Env → AH → Rs) (env : Env) (H : AH) (out : Ex × AH), SitesP P f0 nt c h → codeK B D n nt rs f0 ro c h Bk K env H = some out →
    SimI P nt f0 ro (.code c) env H (fun env' H' => K env' H' = some out) (XP Bk out) (RP B.X rs out) := by
  intro c
  induction c with
  | skip =>
    intro h Bk K env H out hs hk lo R fr k cs w hm hro ht hE hL hM hlo
    simp only [codeK] at hk
    exact ⟨R, w, fr.tmps, k, fr.defers, env, H, .one (st_skip hm ht), hE, hL, Ext.refl R H w, Nat.le_refl _, hM, .inl ⟨rfl, hk⟩⟩
  | label l =>
    intro h Bk K env H out hs hk lo R fr k cs w hm hro ht hE hL hM hlo
    simp only [codeK] at hk
    exact ⟨R, w, fr.tmps, k, fr.defers, env, H, .one (st_label hm ht), hE, hL, Ext.refl R H w, Nat.le_refl _, hM, .inl ⟨rfl, hk⟩⟩
  | region id ops draw =>
    intro h Bk K env H out hs hk
    simp only [codeK] at hk
    exact regK_ok hX hr hk f0 ro _ _
  | seq a b iha ihb =>
    intro h Bk K env H out hs hk
    cases h with
    | s ha hb =>
      simp only [codeK] at hk
      intro lo R fr k cs w hm hro ht hE hL hM hlo
      refine SimI.step (st_seq hm ht) rfl ?_
      refine SimI.then [.code b] (fun id k => rfl) (iha ha Bk _ env H out hs.1 hk) (fun env1 H1 hmid lo R fr k cs w hm hro ht hE hL hM hlo => ?_) lo R { fr with todo := .code a :: .code b :: k } k cs w hm hro rfl hE hL hM hlo
      exact ihb hb Bk K env1 H1 out hs.2 hmid lo R fr k cs w hm hro ht hE hL hM hlo
    | t L m =>
      simp only [codeK] at hk
      obtain ⟨vs, hp, hk⟩ := pck_some hk
      obtain ⟨H', hm, hle, hk⟩ := tld_some hk
      intro lo R fr k cs w hmo hro ht hE hL hM hlo
      obtain ⟨R', w', t', td, ds, env', H'', a1, a2, a3, a4, a5, a6, a7⟩ := hs ro env vs H H' hp hm hle lo R fr k cs w hmo hro ht hE hL hM hlo
      rcases a7 with ⟨b1, b2, rfl⟩ | ⟨i, k', b1, b2, b3⟩ | ⟨k', b1, b2⟩
      · obtain ⟨env'', c1, c2⟩ := unp_le hk b2
        exact ⟨R', w', t', td, ds, env'', H'', a1, a2.le c2, a3, a4, a5, a6, .inl ⟨b1, c1⟩⟩
      · exact b3.elim
      · exact b2.elim
    | _ => simp [codeK] at hk
  | cond c a b iha ihb =>
    intro h Bk K env H out hs hk
    cases h with
    | c L ha hb =>
      simp only [codeK] at hk
      split at hk
      · rename_i v hv
        intro lo R fr k cs w hm hro ht hE hL hM hlo
        have hvR := opd_ok hE _ _ hv
        -- the branch that is taken
        have key : ∀ (t : Bool) (cc : Code) (hh : Hint), v = .bool t → cc = (if t then a else b) →
            (∀ y, codeK B D n nt rs f0 ro cc hh Bk (fun env H => pck L env fun vs => some (.norm vs, H)) env H = some y → SimI P nt f0 ro (.code cc) env H (fun env' H' => (pck L env' fun vs => some (.norm vs, H')) = some y) (XP Bk y) (RP B.X rs y)) →
            jn (codeK B D n nt rs f0 ro cc hh Bk (fun env H => pck L env fun vs => some (.norm vs, H)) env H) (fun vs H => unp L vs env0 fun env => K env H) = some out →
            ∃ R' w' tmps' td ds env' H', Steps P (lone fr cs w) (lone { fr with tmps := tmps', todo := td, defers := ds } cs w') ∧ EnvR R' env' nt tmps' ∧ Rel R' H' w' ∧ Ext R H w R' H' w' ∧ H.next ≤ H'.next ∧ Marks lo R' w' ds ∧ Ends k (fun env' H' => K env' H' = some out) (XP Bk out) (RP B.X rs out) td env' H' := by
          intro t cc hh hvt hcc ih hj
          subst hvt hcc
          refine SimI.step (st_cond hm ht hvR) rfl ?_
          cases hy : codeK B D n nt rs f0 ro (if t then a else b) hh Bk (fun env H => pck L env fun vs => some (.norm vs, H)) env H with
          | none => rw [hy] at hj; simp [jn] at hj
          | some y =>
            rw [hy] at hj
            obtain ⟨R', w', t', td, ds, env', H', a1, a2, a3, a4, a5, a6, a7⟩ := ih y hy lo R { fr with todo := .code (if t then a else b) :: k } k cs w hm hro rfl hE hL hM hlo
            rcases a7 with ⟨b1, b2⟩ | ⟨id, k', b1, b2, L', vs', b3, b4, b5⟩ | ⟨k', b1, b2⟩
            · obtain ⟨vs, c1, c2⟩ := pck_some b2
              injection c2 with c2; subst c2
              obtain ⟨env2, d1, d2⟩ := unp_le hj c1
              exact ⟨R', w', t', td, ds, env2, H', a1, a2.le d2, a3, a4, a5, a6, .inl ⟨b1, d1⟩⟩
            · subst b5
              simp only [jn, Option.some.injEq] at hj
              exact ⟨R', w', t', td, ds, env', H', a1, a2, a3, a4, a5, a6, .inr (.inl ⟨id, k', b1, b2, L', vs', b3, b4, hj.symm⟩)⟩
            · have hret := retE_form b2
              obtain ⟨v, rfl⟩ := hret
              simp only [jn, Option.some.injEq] at hj
              subst hj
              exact ⟨R', w', t', td, ds, env', H', a1, a2, a3, a4, a5, a6, .inr (.inr ⟨k', b1, b2⟩)⟩
        have hk' := hk
        cases v with
        | bool t =>
          cases t with
          | true => exact key true a ha rfl rfl (fun y hy => iha ha Bk _ env H y hs.1 hy) hk
          | false => exact key false b hb rfl rfl (fun y hy => ihb hb Bk _ env H y hs.2 hy) hk
        | _ => simp [cnd, jn] at hk
      · simp at hk
    | cl ha hb =>
      simp only [codeK] at hk
      split at hk
      · rename_i v hv
        intro lo R fr k cs w hm hro ht hE hL hM hlo
        have hvR := opd_ok hE _ _ hv
        rcases cnd_some hk with ⟨rfl, h1⟩ | ⟨rfl, h1⟩
        · refine SimI.step (st_cond hm ht hvR) rfl ?_
          exact ((iha ha Bk _ env H out hs.1 h1).mono (fun _ _ h => by simp at h) (fun _ _ _ h => h) (fun _ _ h => h)) lo R { fr with todo := .code a :: k } k cs w hm hro rfl hE hL hM hlo
        · refine SimI.step (st_cond hm ht hvR) rfl ?_
          exact ihb hb Bk _ env H out hs.2 h1 lo R { fr with todo := .code b :: k } k cs w hm hro rfl hE hL hM hlo
      · simp at hk
    | cr ha hb =>
      simp only [codeK] at hk
      split at hk
      · rename_i v hv
        intro lo R fr k cs w hm hro ht hE hL hM hlo
        have hvR := opd_ok hE _ _ hv
        rcases cnd_some hk with ⟨rfl, h1⟩ | ⟨rfl, h1⟩
        · refine SimI.step (st_cond hm ht hvR) rfl ?_
          exact iha ha Bk _ env H out hs.1 h1 lo R { fr with todo := .code a :: k } k cs w hm hro rfl hE hL hM hlo
        · refine SimI.step (st_cond hm ht hvR) rfl ?_
          exact ((ihb hb Bk _ env H out hs.2 h1).mono (fun _ _ h => by simp at h) (fun _ _ _ h => h) (fun _ _ h => h)) lo R { fr with todo := .code b :: k } k cs w hm hro rfl hE hL hM hlo
      · simp at hk
    | _ => simp [codeK] at hk
  | block id b ih =>
    intro h Bk K env H out hs hk
    cases h with
    | b L hb =>
      simp only [codeK] at hk
      intro lo R fr k cs w hm hro ht hE hL hM hlo
      obtain ⟨y, hy, hcases⟩ := jb_some hk
      refine SimI.step (st_block hm ht) rfl ?_
      obtain ⟨R', w', t', td, ds, env', H', a1, a2, a3, a4, a5, a6, a7⟩ := ih hb _ _ env H y hs hy lo R { fr with todo := .code b :: .inBlock id :: k } (.inBlock id :: k) cs w hm hro rfl hE hL hM hlo
      rcases a7 with ⟨b1, b2⟩ | ⟨i, k', b1, b2, L', vs', b3, b4, b5⟩ | ⟨k', b1, b2⟩
      · obtain ⟨vs, c1, c2⟩ := pck_some b2
        injection c2 with c2; subst c2
        rcases hcases with ⟨vs2, H2, e1, e2⟩ | ⟨vs2, H2, e1, _⟩ | ⟨i, vs2, H2, _, e1, _⟩ | ⟨v, H2, e1, _⟩
        · simp only [Prod.mk.injEq, Ex.norm.injEq] at e1
          obtain ⟨rfl, rfl⟩ := e1
          obtain ⟨env2, d1, d2⟩ := unp_le e2 c1
          subst b1
          exact ⟨R', w', t', k, ds, env2, H', ends_block (fr := { fr with todo := .code b :: .inBlock id :: k }) hm a1, a2.le d2, a3, a4, a5, a6, .inl ⟨rfl, d1⟩⟩
        · simp at e1
        · simp at e1
        · simp at e1
      · subst b5
        by_cases hi : i = id
        · subst hi
          simp only [liveOf, Nat.beq_refl, cond_true, Option.some.injEq] at b3
          subst b3
          rcases hcases with ⟨vs2, H2, e1, _⟩ | ⟨vs2, H2, e1, e2⟩ | ⟨j, vs2, H2, hne, e1, _⟩ | ⟨v, H2, e1, _⟩
          · simp at e1
          · simp only [Prod.mk.injEq, Ex.exit.injEq, true_and] at e1
            obtain ⟨rfl, rfl⟩ := e1
            obtain ⟨env2, d1, d2⟩ := unp_le e2 b4
            subst b1
            have hex : exitTo i k' = some k := by rw [b2]; simp [exitTo]
            exact ⟨R', w', t', k, ds, env2, H', ends_exit (fr := { fr with todo := .code b :: .inBlock i :: k }) hm hex a1, a2.le d2, a3, a4, a5, a6, .inl ⟨rfl, d1⟩⟩
          · simp only [Prod.mk.injEq, Ex.exit.injEq] at e1; exact absurd e1.1.1.symm hne
          · simp at e1
        · have b3' : liveOf Bk i = some L' := by
            simp only [liveOf, cond_eq_ite, Nat.beq_eq, if_neg (fun e => hi (Eq.symm e))] at b3; exact b3
          have b2' : exitTo i k' = exitTo i k := by
            rw [b2]; simp only [exitTo]; rw [if_neg (by simpa using fun e => hi (Eq.symm e))]
          rcases hcases with ⟨vs2, H2, e1, _⟩ | ⟨vs2, H2, e1, _⟩ | ⟨j, vs2, H2, hne, e1, e2⟩ | ⟨v, H2, e1, _⟩
          · simp at e1
          · simp only [Prod.mk.injEq, Ex.exit.injEq] at e1; exact absurd e1.1.1 hi
          · exact ⟨R', w', t', td, ds, env', H', a1, a2, a3, a4, a5, a6, .inr (.inl ⟨i, k', b1, b2', L', vs', b3', b4, e2⟩)⟩
          · simp at e1
      · have hret := retE_form b2
        obtain ⟨v, rfl⟩ := hret
        rcases hcases with ⟨vs2, H2, e1, _⟩ | ⟨vs2, H2, e1, _⟩ | ⟨j, vs2, H2, hne, e1, _⟩ | ⟨v2, H2, e1, e2⟩
        · simp at e1
        · simp at e1
        · simp at e1
        · subst e2
          exact ⟨R', w', t', td, ds, env', H', a1, a2, a3, a4, a5, a6, .inr (.inr ⟨k', b1, b2⟩)⟩
    | b0 hb =>
      simp only [codeK] at hk
      intro lo R fr k cs w hm hro ht hE hL hM hlo
      refine SimI.step (st_block hm ht) rfl ?_
      obtain ⟨R', w', t', td, ds, env', H', a1, a2, a3, a4, a5, a6, a7⟩ := ih hb _ _ env H out hs hk lo R { fr with todo := .code b :: .inBlock id :: k } (.inBlock id :: k) cs w hm hro rfl hE hL hM hlo
      rcases a7 with ⟨b1, b2⟩ | ⟨i, k', b1, b2, L', vs', b3, b4, b5⟩ | ⟨k', b1, b2⟩
      · subst b1
        exact ⟨R', w', t', k, ds, env', H', ends_block (fr := { fr with todo := .code b :: .inBlock id :: k }) hm a1, a2, a3, a4, a5, a6, .inl ⟨rfl, b2⟩⟩
      · obtain ⟨hi, b3'⟩ := liveOf_drop b3
        have b2' : exitTo i k' = exitTo i k := by
          rw [b2]; simp only [exitTo]; rw [if_neg (by simpa using fun e => hi (Eq.symm e))]
        exact ⟨R', w', t', td, ds, env', H', a1, a2, a3, a4, a5, a6, .inr (.inl ⟨i, k', b1, b2', L', vs', b3', b4, b5⟩)⟩
      · exact ⟨R', w', t', td, ds, env', H', a1, a2, a3, a4, a5, a6, .inr (.inr ⟨k', b1, b2⟩)⟩
    | _ => simp [codeK] at hk
  | loop b ih =>
    intro h Bk K env H out hs hk
    cases h with
    | l L hb =>
      simp only [codeK] at hk
      obtain ⟨vs0, hp0, hk⟩ := pck_some hk
      -- round after round
      have key : ∀ (m : Nat) (vs : List AV) (env : Env) (H : AH), PK env L vs → loopK m (fun vs H => unp L vs env0 fun env => codeK B D n nt rs f0 ro b hb Bk (fun env H => pck L env fun vs => some (.norm vs, H)) env H) vs H = some out →
          ∀ (lo : Nat) (R : Ren) (fr : Frame) (k : List Item) (cs : List Frame) (w : World), fr.mode = .run → (ro = false → fr.roundOf = none ∧ fr.fn = f0) → fr.todo = .code b :: .inLoop b :: k → EnvR R env nt fr.tmps → Rel R H w → Marks lo R w fr.defers → lo ≤ w.heap.size →
          ∃ R' w' tmps' td ds env' H', Steps P (lone fr cs w) (lone { fr with tmps := tmps', todo := td, defers := ds } cs w') ∧ EnvR R' env' nt tmps' ∧ Rel R' H' w' ∧ Ext R H w R' H' w' ∧ H.next ≤ H'.next ∧ Marks lo R' w' ds ∧ Ends k (fun env' H' => K env' H' = some out) (XP Bk out) (RP B.X rs out) td env' H' := by
        intro m
        induction m with
        | zero => intro vs env H _ hl; have hl' : (none : Rs) = some out := hl; simp at hl'
        | succ m ihm =>
          intro vs env H hp hl lo R fr k cs w hm hro ht hE hL hM hlo
          have hl' : jn (unp L vs env0 fun env => codeK B D n nt rs f0 ro b hb Bk (fun env H => pck L env fun vs => some (.norm vs, H)) env H) (loopK m (fun vs H => unp L vs env0 fun env => codeK B D n nt rs f0 ro b hb Bk (fun env H => pck L env fun vs => some (.norm vs, H)) env H)) = some out := hl
          cases hy : (unp L vs env0 fun env => codeK B D n nt rs f0 ro b hb Bk (fun env H => pck L env fun vs => some (.norm vs, H)) env H) with
          | none => rw [hy] at hl'; simp [jn] at hl'
          | some y =>
            rw [hy] at hl'
            obtain ⟨env1, d1, d2⟩ := unp_le hy hp
            obtain ⟨R', w', t', td, ds, env', H', a1, a2, a3, a4, a5, a6, a7⟩ := ih hb Bk _ env1 H y hs d1 lo R fr (.inLoop b :: k) cs w hm hro ht (hE.le d2) hL hM hlo
            rcases a7 with ⟨b1, b2⟩ | ⟨i, k', b1, b2, L', vs', b3, b4, b5⟩ | ⟨k', b1, b2⟩
            · obtain ⟨vs2, c1, c2⟩ := pck_some b2
              injection c2 with c2; subst c2
              subst b1
              have hl2 : loopK m (fun vs H => unp L vs env0 fun env => codeK B D n nt rs f0 ro b hb Bk (fun env H => pck L env fun vs => some (.norm vs, H)) env H) vs2 H' = some out := hl'
              obtain ⟨R2, w2, t2, td2, ds2, env2, H2, e1, e2, e3, e4, e5, e6, e7⟩ := ihm vs2 env' H' c1 hl2 lo R' { fr with tmps := t', todo := .code b :: .inLoop b :: k, defers := ds } k cs w' hm hro rfl a2 a3 a6 (Nat.le_trans hlo a4.size)
              have hstep := Steps.one (st_inLoop (P := P) (cs := cs) (w := w') (fr := { fr with tmps := t', todo := .inLoop b :: k, defers := ds }) hm rfl)
              exact ⟨R2, w2, t2, td2, ds2, env2, H2, a1.trans (hstep.trans e1), e2, e3, a4.trans e4, Nat.le_trans a5 e5, e6, e7⟩
            · subst b5
              simp only [jn, Option.some.injEq] at hl'
              exact ⟨R', w', t', td, ds, env', H', a1, a2, a3, a4, a5, a6, .inr (.inl ⟨i, k', b1, b2, L', vs', b3, b4, hl'.symm⟩)⟩
            · have hret := retE_form b2
              obtain ⟨v, rfl⟩ := hret
              simp only [jn, Option.some.injEq] at hl'
              subst hl'
              exact ⟨R', w', t', td, ds, env', H', a1, a2, a3, a4, a5, a6, .inr (.inr ⟨k', b1, b2⟩)⟩
      intro lo R fr k cs w hm hro ht hE hL hM hlo
      refine SimI.step (st_loop hm ht) rfl ?_
      exact key n vs0 env H hp0 hk lo R { fr with todo := .code b :: .inLoop b :: k } k cs w hm hro rfl hE hL hM hlo
    | _ => simp [codeK] at hk
  | exit id =>
    intro h Bk K env H out hs hk lo R fr k cs w hm hro ht hE hL hM hlo
    simp only [codeK] at hk
    split at hk
    · rename_i L hL'
      obtain ⟨vs, h1, h2⟩ := pck_some hk
      injection h2 with h2
      refine ⟨R, w, fr.tmps, fr.todo, fr.defers, env, H, ?_, hE, hL, Ext.refl R H w, Nat.le_refl _, hM, .inr (.inl ⟨id, k, ht, rfl, L, vs, hL', h1, h2.symm⟩)⟩
      exact .refl _ _
    · simp at hk
  | ret =>
    intro h Bk K env H out hs hk lo R fr k cs w hm hro ht hE hL hM hlo
    simp only [codeK] at hk
    refine ⟨R, w, fr.tmps, fr.todo, fr.defers, env, H, ?_, hE, hL, Ext.refl R H w, Nat.le_refl _, hM, .inr (.inr ⟨k, ht, hk⟩)⟩
    exact .refl _ _
  | rangeFunc f params assign body _ _ =>
    intro h Bk K env H out hs hk
    cases h with
    | rf s L =>
      simp only [codeK, cond_eq_ite] at hk
      split at hk
      · simp at hk
      · rename_i hrof
        have hrof' : ro = false := by simpa using hrof
        split at hk
        · rename_i fv hfv
          obtain ⟨vs, hp, hk⟩ := pck_some hk
          obtain ⟨t', hset, hnone, hk⟩ := newB_some hk
          obtain ⟨v, H2, hcall, hk⟩ := bR_some hk
          obtain ⟨lp, H3, hA2, hbusy, hput, hk⟩ := endLp_some hk
          unfold rfC at hcall
          split at hcall
          · rename_i g first cap _ _
            intro lo R fr k cs w hm hro ht hE hL hM hlo
            obtain ⟨hno, hfr0⟩ := hro hrof'
            obtain ⟨hnx, hsim⟩ := hr.call _ _ _ _ _ hcall
            obtain ⟨first', cap', hfe, hv1, hv2⟩ := opd_ok hE _ _ hfv
            -- the two blocks
            let LP : Loop := { state := .ready, pending := none, fn := fr.fn, tmps := fr.tmps, params := params, assign := assign, body := body, defers := w.heap.size }
            let W1 : World := (w.alloc (.deferred (some []))).alloc (.loop LP)
            let FR1 : Frame := { fr with todo := .inRangeFunc (w.heap.size + 1) :: k, defers := { target := .collected w.heap.size, args := #[] } :: fr.defers }
            let R1 : Ren := R.add H.next (w.heap.size + 1) 0 0
            have hLd := hL.alloc_out (.deferred (some []))
            have hszd : (w.alloc (.deferred (some []))).heap.size = w.heap.size + 1 := heap_alloc_size _ _
            have hR1 : Rel R1 ⟨t', H.next + 1⟩ W1 := by
              have := hLd.new (c := 0) (x := .loop LP) hset ⟨LP, nt, rfl, hs, rfl, rfl, hfr0, (hE.le (envL_le hp)).mono (R.sub_add _ _ _ _)⟩
              rw [hszd] at this; exact this
            have hx1 : Ext R H w R1 ⟨t', H.next + 1⟩ W1 := by
              have := (Ext.alloc_out R H w (.deferred (some []))).trans (Ext.add (c := 0) (x := .loop LP) hset)
              rw [hszd] at this; exact this
            have hRA : R1 H.next (w.heap.size + 1) 0 0 := R.add_self _ _ _ _
            have hM1 : Marks lo R1 W1 FR1.defers := by
              have hMe := hM.ext hx1
              refine ⟨List.pairwise_cons.2 ⟨fun q hq r e => ?_, hMe.1⟩, fun q hq => ?_⟩
              · obtain ⟨r', e', _, h2, _, _⟩ := hM.2 q hq
                rw [e']
                intro e2
                simp only [Deferred.mk.injEq, Target.collected.injEq, and_true] at e e2
                omega
              · rcases List.mem_cons.1 hq with rfl | hq
                · refine ⟨w.heap.size, rfl, hlo, ?_, ?_, ?_⟩
                  · show w.heap.size < W1.heap.size
                    simp only [W1, heap_alloc_size]; omega
                  · rintro A d c (h | ⟨_, h, _⟩)
                    · have := (hL.lt _ _ _ _ h).1; omega
                    · omega
                  · show ((w.alloc (.deferred (some []))).alloc (.loop LP)).heap[w.heap.size]? = _
                    rw [heap_alloc_old _ _ _ (by rw [hszd]; omega), heap_alloc_same]
                · exact hMe.2 q hq
            -- into the function
            have hy1 : VRL R1 [AV.yieldTo H.next] [Value.func (.yield (w.heap.size + 1)) #[] #[]] := ⟨_, [], rfl, ⟨_, _, _, hRA, rfl⟩, rfl⟩
            have hargs : VRL R1 (first ++ [AV.yieldTo H.next] ++ cap) ((first' ++ [Value.func (.yield (w.heap.size + 1)) #[] #[]]) ++ cap') :=
              ((VRL.mono hx1.sub _ _ hv1).append hy1).append (VRL.mono hx1.sub _ _ hv2)
            have hen := run_enterLoop_outer (P := P) (w := w) fr.fn fr.tmps params assign body
            have hres : ∀ F : Frame, F.tmps = fr.tmps → (resolve F.eval { callee := .value f, args := #[.const (.func (.yield (w.heap.size + 1)) #[] #[])], argTypes := #[] } 0).run P ((w.alloc (.deferred (some []))).alloc (.loop { state := .ready, pending := none, fn := fr.fn, tmps := fr.tmps, params := params, assign := assign, body := body, defers := w.heap.size })) =
                .ok { target := .fn (.func g) ⟨cap'⟩, args := ⟨first' ++ [Value.func (.yield (w.heap.size + 1)) #[] #[]]⟩ } ((w.alloc (.deferred (some []))).alloc (.loop { state := .ready, pending := none, fn := fr.fn, tmps := fr.tmps, params := params, assign := assign, body := body, defers := w.heap.size })) := by
              intro F hF
              have hev : F.eval f = fr.eval f := by cases f <;> simp [Frame.eval, hF]
              have hfe' : F.eval f = .func (.func g) ⟨first'⟩ ⟨cap'⟩ := hev.trans hfe
              have hc' : F.eval (.const (.func (.yield (w.heap.size + 1)) #[] #[])) = .func (.yield (w.heap.size + 1)) #[] #[] := rfl
              simp [resolve, hfe', Deferred.ofValue, hc']
            have hinv : ∀ w', (invoke (.fn (.func g) ⟨cap'⟩) ⟨first' ++ [Value.func (.yield (w.heap.size + 1)) #[] #[]]⟩).run P w' = (callFunc g ⟨(first' ++ [Value.func (.yield (w.heap.size + 1)) #[] #[]]) ++ cap'⟩).run P w' := by
              intro w'
              have hea : (⟨first' ++ [Value.func (.yield (w.heap.size + 1)) #[] #[]]⟩ : Array Value) ++ ⟨cap'⟩ = ⟨(first' ++ [Value.func (.yield (w.heap.size + 1)) #[] #[]]) ++ cap'⟩ := by
                apply Array.toList_inj.1; simp
              simp only [invoke, hea]
            have hreach : ∃ R2 w2 z, Steps P (lone fr cs w) (lone { FR1 with todo := .endRangeFunc (w.heap.size + 1) :: k } cs w2) ∧ VR R2 v z ∧ Rel R2 H2 w2 ∧ Ext R1 ⟨t', H.next + 1⟩ W1 R2 H2 w2 := by
              rcases hsim with ⟨⟨fn, hfn, hbody⟩, hcl⟩ | hdir
              · have hstep1 : step P (lone fr cs w) = .next (lone (Frame.enter P g ⟨(first' ++ [Value.func (.yield (w.heap.size + 1)) #[] #[]]) ++ cap'⟩ .normal) (FR1 :: cs) W1) := by
                  refine step_lone_go ?_
                  have hnm := hX.nm g fn hfn
                  have hb : fn.body.isNone = false := by cases hh : fn.body <;> simp_all
                  have hcf : ∀ w', (callFunc g ⟨(first' ++ [Value.func (.yield (w.heap.size + 1)) #[] #[]]) ++ cap'⟩).run P w' = .ok (.enter g ⟨(first' ++ [Value.func (.yield (w.heap.size + 1)) #[] #[]]) ++ cap'⟩) w' := by
                    intro w'
                    simp only [callFunc, program, Sem.run_bind, Sem.run, Result.andThen, hfn, hnm, Bool.false_eq_true, if_false, hb, Sem.run_pure]
                  simp only [stepG, stepG.exec, hm, ht, hno, Sem.runT_eq, hen, stepG.apply, Sem.run_bind]
                  simp only [List.cons_append, List.nil_append, if_true]
                  simp only [List.append_assoc, List.cons_append, List.nil_append] at hinv hcf ⊢
                  simp [hres, hinv, hcf, FR1, W1, LP, hm, hno]
                obtain ⟨R2, w2, z, fr', s2, f2, lv2, v2, l2, x2⟩ := hcl R1 _ (FR1 :: cs) W1 hargs hR1
                have hstep2 : step P (lone fr' (FR1 :: cs) w2) = .next (lone { FR1 with todo := .endRangeFunc (w.heap.size + 1) :: k } cs w2) := step_leave_returned lv2
                exact ⟨R2, w2, z, (Steps.one hstep1).trans (s2.trans (.one hstep2)), v2, l2, x2⟩
              · obtain ⟨R2, w2, z, hrun, v2, l2, x2⟩ := hdir R1 _ W1 hargs hR1
                have hstep1 : step P (lone fr cs w) = .next (lone { FR1 with todo := .endRangeFunc (w.heap.size + 1) :: k } cs w2) := by
                  refine step_lone_go ?_
                  have hrun' : (callFunc g ⟨(first' ++ [Value.func (.yield (w.heap.size + 1)) #[] #[]]) ++ cap'⟩).run P ((w.alloc (.deferred (some []))).alloc (.loop { state := .ready, pending := none, fn := fr.fn, tmps := fr.tmps, params := params, assign := assign, body := body, defers := w.heap.size })) = .ok (.value z) w2 := hrun
                  simp only [stepG, stepG.exec, hm, ht, hno, Sem.runT_eq, hen, stepG.apply, Sem.run_bind]
                  simp only [List.cons_append, List.nil_append, if_true]
                  simp only [List.append_assoc, List.cons_append, List.nil_append] at hinv hrun'
                  simp [hres, hinv, hrun', FR1, hm, hno, Frame.finish]
                exact ⟨R2, w2, z, .one hstep1, v2, l2, x2⟩
            obtain ⟨R2, w2, z, s2, v2, l2, x2⟩ := hreach
            have hRA2 : R2 H.next (w.heap.size + 1) 0 0 := x2.sub _ _ _ _ hRA
            obtain ⟨L2, nt2, hb2, _, hst2, hpe2, _, _⟩ := l2.obj _ _ _ _ _ hRA2 hA2
            have hel := run_endLoop (P := P) hb2 (by rw [hst2]; exact hbusy)
            have hstep3 : step P (lone { FR1 with todo := .endRangeFunc (w.heap.size + 1) :: k } cs w2) = .next (lone { FR1 with todo := (lp.pending.map Item.code).toList ++ k } cs (wput w2 (w.heap.size + 1) (.loop { L2 with state := .exhausted }))) := by
              refine step_lone_go ?_
              have hm' : FR1.mode = .run := hm
              simp only [stepG, stepG.exec, hm', Sem.runT_eq, hel, hpe2]
              simp [World.putObj, wput]
            unfold putA at hput
            split at hput
            · rename_i t3 ht3
              simp only [Option.some.injEq] at hput; subst hput
              have l3 := l2.put hRA2 ⟨_, hA2, trivial⟩ ht3 (x := .loop { L2 with state := .exhausted }) (o' := .dead) trivial
              have x3 : Ext R2 H2 w2 R2 ⟨t3, H2.next⟩ (wput w2 (w.heap.size + 1) (.loop { L2 with state := .exhausted })) := Ext.put hRA2 ht3
              have xall := hx1.trans (x2.trans x3)
              have hMall := (hM1.ext x2).ext x3
              have hEall : EnvR R2 env nt fr.tmps := hE.mono (hx1.sub.trans x2.sub)
              have hsteps := s2.trans (Steps.one hstep3)
              have hnxt : H.next ≤ H2.next := Nat.le_trans (Nat.le_succ _) hnx
              unfold jmpK at hk
              split at hk
              · rename_i hj
                rw [hj] at hsteps
                exact ⟨R2, _, fr.tmps, k, FR1.defers, env, _, hsteps, hEall, l3, xall, hnxt, hMall, .inl ⟨rfl, hk⟩⟩
              · rename_i id hj
                rw [hj] at hsteps
                exact ⟨R2, _, fr.tmps, .code (.exit id) :: k, FR1.defers, env, _, hsteps, hEall, l3, xall, hnxt, hMall, .inr (.inl ⟨id, k, rfl, rfl, exS_some hk⟩)⟩
              · rename_i hj
                rw [hj] at hsteps
                exact ⟨R2, _, fr.tmps, .code .ret :: k, FR1.defers, env, _, hsteps, hEall, l3, xall, hnxt, hMall, .inr (.inr ⟨k, rfl, hk⟩)⟩
              · simp at hk
            · simp at hput
          · simp at hcall
        · simp at hk
    | _ => simp [codeK] at hk
  | scope b _ => intro h Bk K env H out hs hk; simp [codeK] at hk
  | goto l => intro h Bk K env H out hs hk; simp [codeK] at hk
  | refuse why => intro h Bk K env H out hs hk; simp [codeK] at hk
end
end Go.Eng
end
section
namespace Go.Eng

theorem Rel.wput_out {R : Ren} {H : AH} {w : World} (h : Rel R H w) {r : Nat} {x : Obj} (hr : ∀ A d c, ¬ R A r d c) : Rel R H (wput w r x) :=
  ⟨h.fn, h.inj, fun A b d c o ho hg => by
    rw [wput_other _ _ _ _ (fun e => by subst e; exact hr _ _ _ ho)]; exact h.obj A b d c o ho hg,
   fun A b d c ho => by rw [wput_size]; exact h.lt A b d c ho⟩
theorem Ext.wput_above {R R' : Ren} {H H' : AH} {w0 w : World} (h : Ext R H w0 R' H' w) {r : Nat} (x : Obj) (hr : w0.heap.size ≤ r) : Ext R H w0 R' H' (wput w r x) where
  sub := h.sub
  new := h.new
  newA := h.newA
  next := h.next
  keepA := h.keepA
  os := h.os
  tape := h.tape
  output := h.output
  size := by rw [wput_size]; exact h.size
  keep b hb hR := by rw [wput_other _ _ _ _ (by omega)]; exact h.keep b hb hR

/-- The marks are taken off. -/
theorem unwind_marks {P : Program} {w0 : World} {R0 : Ren} {H0 : AH} {cs : List Frame} : ∀ (ds : List Deferred) (fr : Frame) (w : World) (R : Ren) (H : AH), fr.mode = .returning → fr.defers = ds → Marks w0.heap.size R w ds → Rel R H w → Ext R0 H0 w0 R H w →
    ∃ w', Steps P (lone fr cs w) (lone { fr with defers := [] } cs w') ∧ Rel R H w' ∧ Ext R0 H0 w0 R H w'
  | [], fr, w, R, H, hm, hd, _, hL, hx => ⟨w, by
      have : ({ fr with defers := [] } : Frame) = fr := by rw [← hd]
      rw [this]; exact .refl _ _, hL, hx⟩
  | d :: ds, fr, w, R, H, hm, hd, hM, hL, hx => by
    obtain ⟨r, rfl, h0, h1, h2, h3⟩ := hM.2 d (List.mem_cons_self ..)
    have hrun : (Instr.takeDeferred r).run P w = .ok [] (wput w r (.deferred none)) := by
      simp [Instr.takeDeferred, getObj, setObj, Sem.run_bind, Sem.run, h3, wput, Result.andThen]
    have hstep : step P (lone fr cs w) = .next (lone { fr with defers := ds } cs (wput w r (.deferred none))) := by
      refine step_lone_go ?_
      simp [stepG, unwind, hm, hd, Sem.runT_eq, hrun]
    have hM' : Marks w0.heap.size R (wput w r (.deferred none)) ds := by
      refine ⟨(List.pairwise_cons.1 hM.1).2, fun q hq => ?_⟩
      obtain ⟨r', e, g0, g1, g2, g3⟩ := hM.2 q (List.mem_cons_of_mem _ hq)
      have hne : r' ≠ r := fun e' => by subst e'; exact (List.pairwise_cons.1 hM.1).1 q hq r' rfl e
      exact ⟨r', e, g0, by rw [wput_size]; exact g1, g2, by rw [wput_other _ _ _ _ hne]; exact g3⟩
    obtain ⟨w', s1, s2, s3⟩ := unwind_marks ds { fr with defers := ds } (wput w r (.deferred none)) R H hm rfl hM' (hL.wput_out h2) (hx.wput_above _ h0)
    exact ⟨w', (Steps.one hstep).trans s1, s2, s3⟩

theorem unpA_some : ∀ {k i : Nat} {vs : List AV} {env : Env} {K : Env → Rs} {out : Ex × AH}, unpA k i vs env K = some out → vs.length = k ∧ ∃ env', K env' = some out ∧ ∀ t, look env' t = if i ≤ t ∧ t < i + k then vs[t - i]? else look env t
  | 0, i, vs, env, K, out, h => by
    simp only [unpA, nl] at h
    split at h
    · exact ⟨rfl, env, h, fun t => by rw [if_neg (by omega)]⟩
    · simp at h
  | k + 1, i, vs, env, K, out, h => by
    simp only [unpA] at h
    obtain ⟨v, l, rfl, h1⟩ := hd_some h
    obtain ⟨h2, env', h3, h4⟩ := unpA_some h1
    refine ⟨by simp [h2], env', h3, fun t => ?_⟩
    rw [h4 t]
    by_cases e : t = i
    · subst e
      rw [if_neg (by omega), if_pos (by omega)]
      simp [look, upd_at]
    · by_cases h5 : i ≤ t ∧ t < i + (k + 1)
      · rw [if_pos (by omega), if_pos h5, show t - i = (t - (i + 1)) + 1 from by omega, List.getElem?_cons_succ]
      · rw [if_neg (by omega), if_neg h5]; simp [look, upd_at, e]

theorem retK_some {X : Cx} {env : Env} {H : AH} : ∀ (rs : List ResultVar) (G : List AV → Rs) (z : Ex × AH), retK X rs env H G = some z → ∃ vs, aresults X env H rs = some vs ∧ G vs = some z
  | [], G, z, h => ⟨[], rfl, h⟩
  | r :: rs, G, z, h => by
    simp only [retK] at h
    obtain ⟨v, h1, h2⟩ := bV_some h
    obtain ⟨vs, h3, h4⟩ := retK_some rs _ z h2
    refine ⟨v :: vs, ?_, h4⟩
    have : aresult X env H r = some v := by
      cases r with
      | tmp t => exact h1
      | cell a t =>
        simp only [resE] at h1
        obtain ⟨p, hp, hl⟩ := q1_some h1
        exact b1_of hp (tLoad_ok hl)
    simp only [aresults, this, h3]

section
variable {P : Program} {X : Cx} (hX : Ok P X)
include hX in
theorem results_ok {R : Ren} {H : AH} {w : World} (hL : Rel R H w) {env : Env} {nt : Nat} {tmps : Array Value} (hE : EnvR R env nt tmps) : ∀ (rs : List ResultVar) (vs : List AV), aresults X env H rs = some vs →
    ∃ zs : List Value, (rs.mapM (fun | .tmp t => pure (tmps.getD t undef) | .cell a t => do loadVar t (← asAddr (tmps.getD a undef)) : ResultVar → Sem Value)).run P w = .ok zs w ∧ VRL R vs zs
  | [], vs, h => by simp only [aresults, Option.some.injEq] at h; subst h; exact ⟨[], rfl, rfl⟩
  | r :: rs, vs, h => by
    simp only [aresults] at h
    split at h
    · rename_i v hv
      split at h
      · rename_i vs' hvs
        simp only [Option.some.injEq] at h; subst h
        obtain ⟨zs, h1, h2⟩ := results_ok hL hE rs vs' hvs
        have hone : ∃ z, (match r with | .tmp t => pure (tmps.getD t undef) | .cell a t => do loadVar t (← asAddr (tmps.getD a undef)) : Sem Value).run P w = .ok z w ∧ VR R v z := by
          cases r with
          | tmp t => exact ⟨_, rfl, hE.get t v hv⟩
          | cell a t =>
            simp only [aresult] at hv
            unfold b1 at hv
            split at hv
            · rename_i p hpl
              have hp := hE.get a p hpl
              obtain ⟨z, h3, h4⟩ := aload_ok (P := P) hX hL hv hp
              refine ⟨z, ?_, h4⟩
              cases p with
              | ptr A off =>
                obtain ⟨b, d, c, hr, e⟩ := hp
                show (do loadVar t (← asAddr (tmps.getD a undef)) : Sem Value).run P w = .ok z w
                rw [e] at h3 ⊢
                simp only [Instr.loadAt, Instr.sureAddr, Sem.run_bind, Sem.run_pure, Result.andThen] at h3
                simp only [asAddr, Sem.run_bind, Sem.run_pure, Result.andThen]
                exact h3
              | _ => simp [aload] at hv
            · simp at hv
        obtain ⟨z, hz1, hz2⟩ := hone
        refine ⟨z :: zs, ?_, z, zs, rfl, hz2, h2⟩
        rw [List.mapM_cons]
        simp only [Sem.run_bind, hz1, Result.andThen, h1]; rfl
      · simp at h
    · simp at h
end

theorem tupV_ok {R : Ren} {vs : List AV} {zs : List Value} (h : VRL R vs zs) : VR R (tupV vs) (if h : zs.toArray.size = 1 then zs.toArray[0] else .tuple zs.toArray) := by
  unfold tupV
  split
  · rename_i v
    obtain ⟨z, zs', rfl, h1, h2⟩ := h
    simp only [VRL] at h2; subst h2
    simpa using h1
  · rename_i hne
    have hl := VRL.length _ _ h
    have : ¬ zs.toArray.size = 1 := by
      intro h1
      simp only [List.size_toArray] at h1
      rw [hl] at h1
      match vs, h1 with
      | [x], _ => exact hne x rfl
    rw [dif_neg this]
    exact ⟨zs, rfl, h⟩

section
variable {P : Program} {B : Tb} {D : Dyn} (hr : Good P (rOf B D)) {nt : Nat} {rs : List ResultVar} {f0 : FuncId} {ro : Bool}
include hr in
theorem regK_next {ops : Array Oper} {draw : Bool} {K : Env → AH → Rs} {env : Env} {H : AH} {out : Ex × AH} (hK : ∀ e H', K e H' = some out → H'.next ≤ out.2.next) (h : regK B D nt ops draw K env H = some out) : H.next ≤ out.2.next := by
  unfold regK at h
  rw [cond_eq_ite] at h
  split at h
  · split at h
    · rename_i row masks hplan
      obtain ⟨es, envF, HF, env', c1, c2, c3, c4, c5⟩ := opsK_chain _ row [] env H env [] h (Le.refl env) (fun ms hms => by intro a ha; simp at ha)
      exact Nat.le_trans (chain_next hr.mono c1).1 (hK _ _ c4)
    · simp at h
  · obtain ⟨es, envF, HF, env', c1, c2, c3, c4, _⟩ := opsK_chain _ _ [] env H env [] h (Le.refl env) (fun ms hms => by simp at hms)
    exact Nat.le_trans (chain_next hr.mono c1).1 (hK _ _ c4)
theorem unp_any : ∀ {L : List Nat} {vs : List AV} {base : Env} {K : Env → Rs} {out : Ex × AH}, unp L vs base K = some out → ∃ env', K env' = some out
  | [], vs, base, K, out, h => ⟨base, h⟩
  | l :: L, vs, base, K, out, h => by
    simp only [unp] at h
    obtain ⟨v, l', rfl, h1⟩ := hd_some h
    exact unp_any h1
theorem pck_norm {L : List Nat} {env : Env} {H : AH} {y : Ex × AH} (h : (pck L env fun vs => some (.norm vs, H)) = some y) : H.next ≤ y.2.next := by
  obtain ⟨vs, _, h2⟩ := pck_some h
  injection h2 with h2; rw [← h2]; exact Nat.le_refl _
include hr in
theorem codeK_next {n : Nat} : ∀ (c : Code) (h : Hint) (Bk : List (Nat × List Nat)) (K : Env → AH → Rs) (env : Env) (H : AH) (out : Ex × AH), (∀ e H', K e H' = some out → H'.next ≤ out.2.next) → codeK B D n nt rs f0 ro c h Bk K env H = some out → H.next ≤ out.2.next := by
  intro c
  induction c with
  | skip => intro h Bk K env H out hK hk; simp only [codeK] at hk; exact hK _ _ hk
  | label l => intro h Bk K env H out hK hk; simp only [codeK] at hk; exact hK _ _ hk
  | region id ops draw => intro h Bk K env H out hK hk; simp only [codeK] at hk; exact regK_next hr hK hk
  | seq a b iha ihb =>
    intro h Bk K env H out hK hk
    cases h with
    | s ha hb => simp only [codeK] at hk; exact iha ha Bk _ env H out (fun e H' h => ihb hb Bk K e H' out hK h) hk
    | t L m =>
      simp only [codeK] at hk
      obtain ⟨vs, _, hk⟩ := pck_some hk
      obtain ⟨H', _, hle, hk⟩ := tld_some hk
      obtain ⟨env', hk⟩ := unp_any hk
      exact Nat.le_trans hle (hK _ _ hk)
    | _ => simp [codeK] at hk
  | cond c a b iha ihb =>
    intro h Bk K env H out hK hk
    cases h with
    | c L ha hb =>
      simp only [codeK] at hk
      split at hk
      · have key : ∀ y, (codeK B D n nt rs f0 ro a ha Bk (fun env H => pck L env fun vs => some (.norm vs, H)) env H = some y ∨ codeK B D n nt rs f0 ro b hb Bk (fun env H => pck L env fun vs => some (.norm vs, H)) env H = some y) → H.next ≤ y.2.next := by
          rintro y (h1 | h1)
          · exact iha ha Bk _ env H y (fun e H' h => pck_norm h) h1
          · exact ihb hb Bk _ env H y (fun e H' h => pck_norm h) h1
        rcases jn_some hk with ⟨vs, H1, h1, h2⟩ | ⟨id, vs, H1, h1, rfl⟩ | ⟨v, H1, h1, rfl⟩
        · have h3 := key _ (by rcases cnd_some h1 with ⟨_, h⟩ | ⟨_, h⟩; exact .inl h; exact .inr h)
          obtain ⟨env', h4⟩ := unp_any h2
          exact Nat.le_trans h3 (hK _ _ h4)
        · exact key _ (by rcases cnd_some h1 with ⟨_, h⟩ | ⟨_, h⟩; exact .inl h; exact .inr h)
        · exact key _ (by rcases cnd_some h1 with ⟨_, h⟩ | ⟨_, h⟩; exact .inl h; exact .inr h)
      · simp at hk
    | cl ha hb =>
      simp only [codeK] at hk
      split at hk
      · rcases cnd_some hk with ⟨_, h1⟩ | ⟨_, h1⟩
        · exact iha ha Bk _ env H out (fun _ _ h => by simp at h) h1
        · exact ihb hb Bk _ env H out hK h1
      · simp at hk
    | cr ha hb =>
      simp only [codeK] at hk
      split at hk
      · rcases cnd_some hk with ⟨_, h1⟩ | ⟨_, h1⟩
        · exact iha ha Bk _ env H out hK h1
        · exact ihb hb Bk _ env H out (fun _ _ h => by simp at h) h1
      · simp at hk
    | _ => simp [codeK] at hk
  | block id b ih =>
    intro h Bk K env H out hK hk
    cases h with
    | b L hb =>
      simp only [codeK] at hk
      obtain ⟨y, hy, hc⟩ := jb_some hk
      have h1 := ih hb _ _ env H y (fun e H' h => pck_norm h) hy
      rcases hc with ⟨vs, H2, rfl, e2⟩ | ⟨vs, H2, rfl, e2⟩ | ⟨i, vs, H2, _, rfl, rfl⟩ | ⟨v, H2, rfl, rfl⟩
      · obtain ⟨env', h4⟩ := unp_any e2; exact Nat.le_trans h1 (hK _ _ h4)
      · obtain ⟨env', h4⟩ := unp_any e2; exact Nat.le_trans h1 (hK _ _ h4)
      · exact h1
      · exact h1
    | b0 hb => simp only [codeK] at hk; exact ih hb _ _ env H out hK hk
    | _ => simp [codeK] at hk
  | loop b ih =>
    intro h Bk K env H out hK hk
    cases h with
    | l L hb =>
      simp only [codeK] at hk
      obtain ⟨vs0, _, hk⟩ := pck_some hk
      have key : ∀ (m : Nat) (vs : List AV) (H : AH), loopK m (fun vs H => unp L vs env0 fun env => codeK B D n nt rs f0 ro b hb Bk (fun env H => pck L env fun vs => some (.norm vs, H)) env H) vs H = some out → H.next ≤ out.2.next := by
        intro m
        induction m with
        | zero => intro vs H hl; have hl' : (none : Rs) = some out := hl; simp at hl'
        | succ m ihm =>
          intro vs H hl
          have hl' : jn (unp L vs env0 fun env => codeK B D n nt rs f0 ro b hb Bk (fun env H => pck L env fun vs => some (.norm vs, H)) env H) (loopK m (fun vs H => unp L vs env0 fun env => codeK B D n nt rs f0 ro b hb Bk (fun env H => pck L env fun vs => some (.norm vs, H)) env H)) = some out := hl
          rcases jn_some hl' with ⟨vs, H1, h1, h2⟩ | ⟨id, vs, H1, h1, rfl⟩ | ⟨v, H1, h1, rfl⟩
          · obtain ⟨env', h4⟩ := unp_any h1
            exact Nat.le_trans (ih hb Bk _ env' H _ (fun e H' h => pck_norm h) h4) (ihm vs H1 h2)
          · obtain ⟨env', h4⟩ := unp_any h1
            exact ih hb Bk _ env' H _ (fun e H' h => pck_norm h) h4
          · obtain ⟨env', h4⟩ := unp_any h1
            exact ih hb Bk _ env' H _ (fun e H' h => pck_norm h) h4
      exact key n vs0 H hk
    | _ => simp [codeK] at hk
  | exit id =>
    intro h Bk K env H out hK hk
    simp only [codeK] at hk
    split at hk
    · obtain ⟨vs, _, h2⟩ := pck_some hk
      injection h2 with h2; rw [← h2]; exact Nat.le_refl _
    · simp at hk
  | ret =>
    intro h Bk K env H out hK hk
    simp only [codeK] at hk
    obtain ⟨v, e⟩ := retE_form hk
    rw [e]; exact Nat.le_refl _
  | rangeFunc f params assign body _ _ =>
    intro h Bk K env H out hK hk
    cases h with
    | rf s L =>
      simp only [codeK, cond_eq_ite] at hk
      split at hk
      · simp at hk
      · split at hk
        · obtain ⟨vs, _, hk⟩ := pck_some hk
          obtain ⟨t', _, _, hk⟩ := newB_some hk
          obtain ⟨v, H2, hcall, hk⟩ := bR_some hk
          obtain ⟨lp, H3, hA2, _, hput, hk⟩ := endLp_some hk
          have h1 : H.next + 1 ≤ H2.next := by
            unfold rfC at hcall
            split at hcall
            · exact (hr.call _ _ _ _ _ hcall).1
            · simp at hcall
          have h2 := putA_next hput
          have h3 : H3.next ≤ out.2.next := by
            unfold jmpK at hk
            split at hk
            · exact hK _ _ hk
            · obtain ⟨L', vs', _, _, e⟩ := exS_some hk
              rw [e]; exact Nat.le_refl _
            · obtain ⟨v, e⟩ := retE_form hk
              rw [e]; exact Nat.le_refl _
            · simp at hk
          omega
        · simp at hk
    | _ => simp [codeK] at hk
  | scope b _ => intro h Bk K env H out _ hk; simp [codeK] at hk
  | goto l => intro h Bk K env H out _ hk; simp [codeK] at hk
  | refuse why => intro h Bk K env H out _ hk; simp [codeK] at hk
end

section
variable {P : Program} {B : Tb} {D : Dyn} (hX : Ok P B.X) (hr : Good P (rOf B D))
include hX hr in
theorem funK_in {f : FuncId} {fn : Func} (hfn : P.funcs[f]? = some fn) {n : Nat} {hint : Hint} (hsites : ∀ body, fn.body = some body → SitesP P f fn.ntmps body hint) {args : List AV} {H H' : AH} {v : AV} (h : funK B D n f fn hint args H = some (v, H')) : H.next ≤ H'.next ∧ SimIn P f args H v H' := by
  unfold funK at h
  split at h
  · rename_i body hbody
    rw [cond_eq_ite] at h
    split at h
    · rename_i hle
      rw [Nat.ble_eq] at hle
      unfold outR at h
      split at h
      · rename_i v' H1 hc
        simp only [Option.some.injEq, Prod.mk.injEq] at h
        obtain ⟨rfl, rfl⟩ := h
        obtain ⟨hlen, env, hk, hlk⟩ := unpA_some hc
        have hS := codeK_ok hX hr body hint [] _ env H _ (hsites body hbody) hk
        -- what is there to be shown of every world
        have main : ∀ (R : Ren) (az : List Value) (cs : List Frame) (w : World), VRL R args az → Rel R H w → H.next ≤ H1.next ∧
            ∃ R' w' z fr', Steps P (lone (Frame.enter P f ⟨az⟩ .normal) cs w) (lone fr' cs w') ∧ fr'.fn = f ∧ fr'.leaving P w' (.returned z) ∧ VR R' v' z ∧ Rel R' H1 w' ∧ Ext R H w R' H1 w' := by
          intro R az cs w hv hL
          have hlas := VRL.length _ _ hv
          have hE : EnvR R env fn.ntmps (Frame.enter P f ⟨az⟩ .normal).tmps := by
            have htm : (Frame.enter P f ⟨az⟩ .normal).tmps = (⟨az⟩ : Array Value) ++ Array.replicate (fn.ntmps - az.length) undef := by
              simp [Frame.enter, hfn]
            rw [htm]
            refine ⟨by simp; omega, fun t x hx => ?_, fun t ht => ?_⟩
            · rw [hlk t] at hx
              split at hx
              · rename_i htk
                rw [Nat.sub_zero] at hx
                obtain ⟨z, hz1, hz2⟩ := VRL.get _ _ hv t x hx
                have hta : t < az.length := by omega
                rw [Array.getD_eq_getD_getElem?, Array.getElem?_append_left (by simpa using hta)]
                have : (⟨az⟩ : Array Value)[t]? = some z := by simpa using hz1
                rw [this]; exact hz2
              · simp [look, env0] at hx
            · rw [hlk t, if_neg (by omega)]; rfl
          have htd : (Frame.enter P f ⟨az⟩ .normal).todo = .code body :: [] := by simp [Frame.enter, hfn, hbody]
          obtain ⟨R1, w1, t1, td1, ds1, env1, H2, s1, e1, l1, x1, n1, m1, o1⟩ := hS w.heap.size R (Frame.enter P f ⟨az⟩ .normal) [] cs w rfl (fun _ => ⟨rfl, rfl⟩) htd hE hL (Marks.nil _ _ _) (Nat.le_refl _)
          have hfin : ∃ fr' : Frame, Steps P (lone (Frame.enter P f ⟨az⟩ .normal) cs w) (lone fr' cs w1) ∧ fr'.fn = f ∧ fr'.mode = .returning ∧ fr'.defers = ds1 ∧ fr'.kind = .normal ∧ fr'.tmps = t1 ∧ retE B.X fn.results.toList env1 H2 = some (.ret v', H1) := by
            rcases o1 with ⟨rfl, b2⟩ | ⟨id, k', b1, b2, L, vs, b3, _⟩ | ⟨k', rfl, b2⟩
            · exact ⟨_, s1.trans (.one (st_end (fr := { Frame.enter P f ⟨az⟩ .normal with tmps := t1, todo := [], defers := ds1 }) rfl rfl rfl)), rfl, rfl, rfl, rfl, rfl, b2⟩
            · simp [liveOf] at b3
            · exact ⟨_, s1.trans (.one (st_ret (fr := { Frame.enter P f ⟨az⟩ .normal with tmps := t1, todo := .code .ret :: k', defers := ds1 }) rfl rfl rfl)), rfl, rfl, rfl, rfl, rfl, b2⟩
          obtain ⟨fr', hs, f1, f2, f3, f4, f5, hret⟩ := hfin
          obtain ⟨vs, hvs, hg⟩ := retK_some _ _ _ hret
          simp only [Option.some.injEq, Prod.mk.injEq, Ex.ret.injEq] at hg
          obtain ⟨rfl, rfl⟩ := hg
          obtain ⟨w2, u1, u2, u3⟩ := unwind_marks (P := P) (cs := cs) ds1 fr' w1 R1 H2 f2 f3 m1 l1 x1
          obtain ⟨zs, z1, z2⟩ := results_ok hX u2 e1 _ _ hvs
          refine ⟨n1, R1, w2, _, { fr' with defers := [] }, hs.trans u1, f1, ⟨f2, rfl, f4, fn, by rw [f1]; exact hfn, ?_⟩, tupV_ok z2, u2, u3⟩
          simp only [f5, results, Array.mapM_eq_mapM_toList, Sem.run_bind, Sem.run_map]
          erw [z1]
          rfl
        refine ⟨?_, ⟨fn, hfn, by simp [hbody]⟩, fun R az cs w hv hL => (main R az cs w hv hL).2⟩
        exact codeK_next hr body hint [] _ env H _ (fun e H' hh => by obtain ⟨v, e⟩ := retE_form hh; rw [e]; exact Nat.le_refl _) hk
      · simp at h
    · simp at h
  · simp at h
include hX hr in
theorem funK_ok {f : FuncId} {fn : Func} (hfn : P.funcs[f]? = some fn) {n : Nat} {hint : Hint} (hsites : ∀ body, fn.body = some body → SitesP P f fn.ntmps body hint) {args : List AV} {H H' : AH} {v : AV} (h : funK B D n f fn hint args H = some (v, H')) : SimCall P f args H v H' :=
  have k := funK_in hX hr hfn hsites h; ⟨k.1, .inl k.2⟩
end
end Go.Eng
end
section
namespace Go.Eng

theorem unp_env {L : List Nat} {vs : List AV} {base : Env} {K : Env → Rs} {out : Ex × AH} (h : unp L vs base K = some out) : K (envA L vs base) = some out := by
  induction L generalizing vs base with
  | nil => cases vs <;> exact h
  | cons l L ih =>
    simp only [unp] at h
    obtain ⟨v, l', rfl, h1⟩ := hd_some h
    exact ih h1

theorem unpP_ok {nt : Nat} {R : Ren} : ∀ {ps : List Nat} {az : List AV} {env : Env} {K : Env → Rs} {out : Ex × AH} {vs : List Value} {tmps : Array Value}, unpP nt ps az env K = some out → VRL R az vs → EnvR R env nt tmps →
    vs.length = ps.length ∧ ∃ env', K env' = some out ∧ EnvR R env' nt ((ps.zip vs).foldl (fun tmps (x : Nat × Value) => tmps.setIfInBounds x.1 x.2) tmps)
  | [], az, env, K, out, vs, tmps, h, hv, hE => by
    simp only [unpP, nl] at h
    split at h
    · simp only [VRL] at hv; subst hv; exact ⟨rfl, env, h, hE⟩
    · simp at h
  | p :: ps, az, env, K, out, vs, tmps, h, hv, hE => by
    simp only [unpP] at h
    obtain ⟨a, az', rfl, h1⟩ := hd_some h
    obtain ⟨v, vs', rfl, h2, h3⟩ := hv
    rw [cond_eq_ite] at h1
    split at h1
    · rename_i hlt
      have hE1 : EnvR R (upd env p a) nt (tmps.setIfInBounds p v) := hE.put (dst := some p) h2 (by simp only [setD, hlt, cond_true])
      obtain ⟨i1, env', i2, i3⟩ := unpP_ok h1 h3 hE1
      exact ⟨by simp [i1], env', i2, i3⟩
    · simp at h1
theorem unpP_any {nt : Nat} : ∀ {ps : List Nat} {az : List AV} {env : Env} {K : Env → Rs} {out : Ex × AH}, unpP nt ps az env K = some out → ∃ env', K env' = some out
  | [], az, env, K, out, h => by
    simp only [unpP, nl] at h
    split at h
    · exact ⟨env, h⟩
    · simp at h
  | p :: ps, az, env, K, out, h => by
    simp only [unpP] at h
    obtain ⟨a, az', rfl, h1⟩ := hd_some h
    rw [cond_eq_ite] at h1
    split at h1
    · exact unpP_any h1
    · simp at h1

theorem beginK_some {A : Nat} {H : AH} {K : AH → Rs} {out : Ex × AH} (h : beginK A H K = some out) : ∃ l H', H.h.get A = some (.loop l) ∧ l.state = .ready ∧ putA H A (.loop { l with state := .busy }) = some H' ∧ K H' = some out := by
  unfold beginK at h
  split at h
  · rename_i l hA
    split at h
    · rename_i hs
      split at h
      · rename_i H' hp; exact ⟨l, H', hA, hs, hp, h⟩
      · simp at h
    · simp at h
  · simp at h

def stOf : Option Code → LoopState
  | none => .ready
  | some _ => .done
theorem endR_some {A : Nat} {j : Option Code} {H H' : AH} {v : AV} (h : endR A j H = some (v, H')) : ∃ l, H.h.get A = some (.loop l) ∧ putA H A (.loop { l with state := stOf j, pending := j }) = some H' ∧ v = .bool j.isNone := by
  unfold endR at h
  split at h
  · rename_i l hA
    split at h
    · split at h
      · rename_i H1 hp; simp only [Option.some.injEq, Prod.mk.injEq] at h; obtain ⟨rfl, rfl⟩ := h; exact ⟨l, hA, hp, rfl⟩
      · simp at h
    · split at h
      · rename_i H1 hp; simp only [Option.some.injEq, Prod.mk.injEq] at h; obtain ⟨rfl, rfl⟩ := h; exact ⟨l, hA, hp, rfl⟩
      · simp at h
  · simp at h

/-- How a round leaves. -/
def Leaves (td : List Item) : Option Code → Prop
  | none => td = []
  | some (.exit id) => ∃ k, td = .code (.exit id) :: k ∧ exitTo id k = none
  | some .ret => ∃ k, td = .code .ret :: k
  | some _ => False

theorem leave_step {P : Program} {F fr : Frame} {cs : List Frame} {w w' : World} {b : Nat} {j : Option Code} {v : Value} (hm : F.mode = .run) (hk : F.kind = .normal) (hb : F.roundOf = some b) (ht : Leaves F.todo j) (hr : (Instr.endRound b j).run P w = .ok v w') :
    Go.step P (lone F (fr :: cs) w) = .next (lone (fr.finish v) cs w') := by
  refine step_lone_go ?_
  cases j with
  | none =>
    simp only [Leaves] at ht
    simp [stepG, stepG.exec, hm, ht, hb, Sem.runT_eq, hr, doReturn, hk]
  | some c =>
    cases c <;> simp only [Leaves] at ht
    · obtain ⟨k, ht, he⟩ := ht
      simp [stepG, stepG.exec, hm, ht, hb, he, Sem.runT_eq, hr, doReturn, hk]
    · obtain ⟨k, ht⟩ := ht
      simp [stepG, stepG.exec, hm, ht, hb, Sem.runT_eq, hr, doReturn, hk]

section
variable {P : Program} {B : Tb} {D : Dyn} (hX : Ok P B.X) (hr : Good P (rOf B D))

/-- The loop's own block. -/
theorem Rel.loopAt {R : Ren} {H : AH} {w : World} (h : Rel R H w) {A b d c : Nat} {l : ALoop} (hA : H.h.get A = some (.loop l)) (hR : R A b d c) :
    ∃ (L : Loop) (nt : Nat), w.heap[b]? = some (.loop L) ∧ siteC l.fn l.site = some (nt, L.params, L.assign, L.body) ∧ L.state = l.state ∧ L.pending = l.pending ∧ L.fn = l.fn ∧ EnvR R (envL l.live l.vals) nt L.tmps := h.obj A b d c _ hR hA
/-- It turns. -/
theorem Rel.loopPut {R : Ren} {H H' : AH} {w : World} (h : Rel R H w) {A b d c : Nat} {l : ALoop} (hA : H.h.get A = some (.loop l)) (hR : R A b d c) {st : LoopState} {pe : Option Code} (hp : putA H A (.loop { l with state := st, pending := pe }) = some H') {L : Loop} (hb : w.heap[b]? = some (.loop L)) :
    Rel R H' (wput w b (.loop { L with state := st, pending := pe })) ∧ Ext R H w R H' (wput w b (.loop { L with state := st, pending := pe })) := by
  obtain ⟨L', nt, hb', h1, h2, h3, h4, h5⟩ := h.loopAt hA hR
  rw [hb] at hb'; injection hb' with hb'; injection hb' with hb'; subst hb'
  unfold putA at hp
  split at hp
  · rename_i t' ht'
    simp only [Option.some.injEq] at hp; subst hp
    exact ⟨h.put hR ⟨_, hA, trivial⟩ ht' ⟨_, nt, rfl, h1, rfl, rfl, h4, h5⟩, Ext.put hR ht'⟩
  · simp at hp

theorem endQ_some {A : Nat} {x : Rs} {v : AV} {H' : AH} (h : endQ A x = some (v, H')) : ∃ y, x = some y ∧ ((∃ vs, y.1 = .norm vs ∧ endR A none y.2 = some (v, H')) ∨ (∃ id vs, y.1 = .exit id vs ∧ endR A (some (.exit id)) y.2 = some (v, H')) ∨ (∃ u, y.1 = .ret u ∧ endR A (some .ret) y.2 = some (v, H'))) := by
  unfold endQ at h
  split at h
  · exact ⟨_, rfl, .inl ⟨_, rfl, h⟩⟩
  · exact ⟨_, rfl, .inr (.inl ⟨_, _, rfl, h⟩)⟩
  · exact ⟨_, rfl, .inr (.inr ⟨_, rfl, h⟩)⟩
  · simp at h
theorem endR_next {A : Nat} {j : Option Code} {H H' : AH} {v : AV} (h : endR A j H = some (v, H')) : H'.next = H.next := by
  obtain ⟨l, _, hp, _⟩ := endR_some h; exact putA_next hp

include hX hr in
theorem rndK_ok {n : Nat} {f0 : FuncId} {s : Nat} {L ids : List Nat} {ha hb : Hint} (hsites : ∀ nt ps asg body, siteC f0 s = some (nt, ps, asg, body) → SitesP P f0 nt asg ha ∧ SitesP P f0 nt body hb) {A : Nat} {l : ALoop} {az : List AV} {H H' : AH} {v : AV}
    (hA : H.h.get A = some (.loop l)) (hf : l.fn = f0) (hs : l.site = s) (h : rndK B D n f0 s L ids ha hb A l az H = some (v, H')) : SimYld P A az H v H' := by
  unfold rndK at h
  split at h
  · rename_i nt ps asg body hsite
    obtain ⟨hsa, hsb⟩ := hsites _ _ _ _ hsite
    unfold rdK at h
    rw [cond_eq_ite] at h
    split at h
    · rename_i hLL
      obtain rfl := eqNL_eq _ _ hLL
      obtain ⟨y, hy, hcase⟩ := endQ_some h
      have hnxt : H.next ≤ H'.next := by
        have h1 : H.next ≤ y.2.next := by
          have hy1 := unp_env hy
          obtain ⟨env', hy2⟩ := unpP_any hy1
          refine codeK_next hr asg ha [] _ env' H y (fun e H1 hk => ?_) hy2
          obtain ⟨l1, H2, _, _, hp, hk2⟩ := beginK_some hk
          rw [← putA_next hp]
          exact codeK_next hr body hb _ _ e H2 y (fun e H3 hk3 => by injection hk3 with hk3; rw [← hk3]; exact Nat.le_refl _) hk2
        rcases hcase with ⟨vs, _, he⟩ | ⟨id, vs, _, he⟩ | ⟨u, _, he⟩ <;> rw [endR_next he] <;> exact h1
      refine ⟨hnxt, fun R as' fr cs w b d c hRA hargs hL => ?_⟩
      obtain ⟨Lr, nt', hb0, hsite', hst0, hpe0, hfn0, hE0⟩ := hL.loopAt hA hRA
      rw [hf, hs, hsite] at hsite'
      simp only [Option.some.injEq, Prod.mk.injEq] at hsite'
      obtain ⟨rfl, hps, hasg, hbody⟩ := hsite'
      obtain ⟨hlen, env1, hy1, hE1⟩ := unpP_ok (unp_env hy) hargs hE0
      refine ⟨Lr, hb0, by rw [hlen, ← hps]; simp, ?_⟩
      have hfold : ((Lr.params.zip as'.toArray).foldl (fun tmps (t, a) => tmps.setIfInBounds t a) Lr.tmps) = ((ps.toList.zip as').foldl (fun tmps (x : Nat × Value) => tmps.setIfInBounds x.1 x.2) Lr.tmps) := by
        rw [← hps, ← Array.foldl_toList]
        simp only [Array.toList_zip]
      rw [hfold, hfn0, hf, ← hasg, ← hbody]
      have hS1 := codeK_ok hX hr asg ha [] _ env1 H y hsa hy1
      obtain ⟨R1, w1, t1, td1, ds1, env2, H1, s1, e1, l1, x1, n1, m1, o1⟩ := hS1 w.heap.size R (Frame.round b f0 ((ps.toList.zip as').foldl (fun tmps (x : Nat × Value) => tmps.setIfInBounds x.1 x.2) Lr.tmps) asg body .normal) [.beginRound, .code body] (fr :: cs) w rfl (fun h => by simp at h) rfl hE1 hL (Marks.nil _ _ _) (Nat.le_refl _)
      -- how it ends
      have fin : ∀ (R2 : Ren) (w2 : World) (H2 : AH) (F : Frame) (j : Option Code), Steps P (lone (Frame.round b f0 ((ps.toList.zip as').foldl (fun tmps (x : Nat × Value) => tmps.setIfInBounds x.1 x.2) Lr.tmps) asg body .normal) (fr :: cs) w) (lone F (fr :: cs) w2) →
          F.mode = .run → F.kind = .normal → F.roundOf = some b → Leaves F.todo j → Rel R2 H2 w2 → Ext R H w R2 H2 w2 → endR A j H2 = some (v, H') →
          ∃ R' w' z, Steps P (lone (Frame.round b f0 ((ps.toList.zip as').foldl (fun tmps (x : Nat × Value) => tmps.setIfInBounds x.1 x.2) Lr.tmps) asg body .normal) (fr :: cs) w) (lone (fr.finish z) cs w') ∧ VR R' v z ∧ Rel R' H' w' ∧ Ext R H w R' H' w' := by
        intro R2 w2 H2 F j hst hm hk hro hlv hL2 hx2 hend
        obtain ⟨l2, hA2, hp2, rfl⟩ := endR_some hend
        have hRA2 := hx2.sub _ _ _ _ hRA
        obtain ⟨L2, _, hb2, _⟩ := hL2.loopAt hA2 hRA2
        obtain ⟨hL3, hx3⟩ := hL2.loopPut hA2 hRA2 hp2 hb2
        have hrun := run_endRound (P := P) j hb2
        refine ⟨R2, _, _, hst.trans (.one (leave_step hm hk hro hlv hrun)), rfl, ?_, ?_⟩
        · have : (if j.isNone = true then LoopState.ready else LoopState.done) = stOf j := by cases j <;> rfl
          rw [this]; exact hL3
        · have : (if j.isNone = true then LoopState.ready else LoopState.done) = stOf j := by cases j <;> rfl
          rw [this]; exact hx2.trans hx3
      rcases o1 with ⟨rfl, b2⟩ | ⟨id, k', b1, b2, L', vs, b3, _⟩ | ⟨k', rfl, b2⟩
      · obtain ⟨lp, H2, hA1, hrdy, hp, hk2⟩ := beginK_some b2
        have hRA1 := x1.sub _ _ _ _ hRA
        obtain ⟨L1, _, hb1, _, hst1, hpe1, _, _⟩ := l1.loopAt hA1 hRA1
        have hp' : putA H1 A (.loop { lp with state := .busy, pending := lp.pending }) = some H2 := hp
        obtain ⟨l2, x2⟩ := l1.loopPut hA1 hRA1 hp' hb1
        rw [← hpe1] at l2 x2
        have hrun := run_beginRound (P := P) hb1 (by rw [hst1]; exact hrdy)
        have hstep : Go.step P (lone { (Frame.round b f0 ((ps.toList.zip as').foldl (fun tmps (x : Nat × Value) => tmps.setIfInBounds x.1 x.2) Lr.tmps) asg body .normal) with tmps := t1, todo := [.beginRound, .code body], defers := ds1 } (fr :: cs) w1) =
            .next (lone { (Frame.round b f0 ((ps.toList.zip as').foldl (fun tmps (x : Nat × Value) => tmps.setIfInBounds x.1 x.2) Lr.tmps) asg body .normal) with tmps := t1, todo := [.code body], defers := ds1 } (fr :: cs) (wput w1 b (.loop { L1 with state := .busy, pending := L1.pending }))) := by
          refine step_lone_go ?_
          simp [stepG, stepG.exec, stepG.apply, Frame.round, Sem.runT_eq, Sem.run_bind, hrun, Frame.finish, World.putObj, wput]
        have hS2 := codeK_ok hX hr body hb _ _ env2 H2 y hsb hk2
        obtain ⟨R3, w3, t3, td3, ds3, env3, H3, s3, e3, l3, x3, n3, m3, o3⟩ := hS2 w.heap.size R1 { (Frame.round b f0 ((ps.toList.zip as').foldl (fun tmps (x : Nat × Value) => tmps.setIfInBounds x.1 x.2) Lr.tmps) asg body .normal) with tmps := t1, todo := [.code body], defers := ds1 } [] (fr :: cs) _ rfl (fun h => by simp at h) rfl e1 l2 (m1.ext x2) (by rw [wput_size]; exact x1.size)
        have hall := s1.trans ((Steps.one hstep).trans s3)
        have xall := x1.trans (x2.trans x3)
        rcases o3 with ⟨rfl, c2⟩ | ⟨id, k', rfl, c2, L', vs, c3, c4, c5⟩ | ⟨k', rfl, c2⟩
        · injection c2 with c2; subst c2
          rcases hcase with ⟨vs, _, he⟩ | ⟨id, vs, e, _⟩ | ⟨u, e, _⟩
          · exact fin R3 w3 H3 _ none hall rfl rfl rfl rfl l3 xall he
          · simp at e
          · simp at e
        · subst c5
          rcases hcase with ⟨vs, e, _⟩ | ⟨id', vs', e, he⟩ | ⟨u, e, _⟩
          · simp at e
          · simp only [Ex.exit.injEq] at e
            obtain ⟨rfl, rfl⟩ := e
            exact fin R3 w3 H3 _ (some (.exit id)) hall rfl rfl rfl ⟨k', rfl, by rw [c2]; rfl⟩ l3 xall he
          · simp at e
        · obtain ⟨u, e⟩ := retE_form c2
          subst e
          rcases hcase with ⟨vs, e, _⟩ | ⟨id', vs', e, _⟩ | ⟨u, e, he⟩
          · simp at e
          · simp at e
          · exact fin R3 w3 H3 _ (some .ret) hall rfl rfl rfl ⟨k', rfl⟩ l3 xall he
      · simp [liveOf] at b3
      · obtain ⟨u, e⟩ := retE_form b2
        subst e
        rcases hcase with ⟨vs, e, _⟩ | ⟨id', vs', e, _⟩ | ⟨u, e, he⟩
        · simp at e
        · simp at e
        · exact fin R1 w1 H1 _ (some .ret) s1 rfl rfl rfl ⟨k', rfl⟩ l1 x1 he
    · simp at h
  · simp at h
end
end Go.Eng
end
section
namespace Go.Eng

theorem getD_ofList {α : Type} (l : List α) (m : Nat) (x : α) (h : ((T.ofList 0 l .leaf).getD .leaf).get m = some x) : l[m]? = some x := by
  cases hl : T.ofList 0 l .leaf with
  | none => rw [hl] at h; simp [T.get_leaf] at h
  | some t =>
    rw [hl] at h
    simp only [Option.getD_some] at h
    rw [T.get_ofList l 0 .leaf t hl m] at h
    split at h
    · simpa using h
    · simp [T.get_leaf] at h

def named (P : Program) : Bool := P.funcs.toList.all fun g => !(g.name == "runtime.NumGoroutine")
def flatB (P : Program) (fl : List (TypeId × List Nat)) : Bool := fl.all fun x => (flatK P P.depth x.1 == some x.2) && isAggT P x.1 && Nat.ble P.depth 10000

theorem cx_ok {P : Program} {fl : List (TypeId × List Nat)} (h : named P = true) (hf : flatB P fl = true) : Ok P ⟨(T.ofList 0 P.types.toList .leaf).getD .leaf, fl⟩ := by
  refine ⟨fun t i ht => ?_, fun x hx => ?_, fun f g hf => ?_⟩
  · have := getD_ofList _ _ _ ht
    simp only [Array.getElem?_toList] at this
    have hlt : t < P.types.size := (Array.getElem?_eq_some_iff.1 this).1
    unfold Tables.info?
    first
      | (rw [if_pos hlt]; exact this)
      | (simp only [hlt, if_true, this]; done)
      | (rw [this]; done)
      | (rw [this]; rfl)
      | simp_all
  · simp only [flatB, List.all_eq_true, Bool.and_eq_true, beq_iff_eq, Nat.ble_eq] at hf
    obtain ⟨⟨h1, h2⟩, h3⟩ := hf x hx
    exact ⟨h1, h2, h3⟩
  · simp only [named, List.all_eq_true, Bool.not_eq_true'] at h
    exact h g (by
      have := Array.mem_of_getElem? hf
      simpa using this)

/- Where the loops over functions are. -/
def noRF : Hint → Bool
  | .o => true
  | .s a b => noRF a && noRF b
  | .c _ a b => noRF a && noRF b
  | .cl a b => noRF a && noRF b
  | .cr a b => noRF a && noRF b
  | .b _ a => noRF a
  | .b0 a => noRF a
  | .l _ a => noRF a
  | .rf _ _ => false
  | .t _ _ => false
def numRF : Code → Hint → Nat → Bool
  | .seq _ _, .t _ _, _ => false
  | .seq a b, .s ha hb, k => numRF a ha k && numRF b hb (k + (sites a).length)
  | .cond _ a b, .c _ ha hb, k => numRF a ha k && numRF b hb (k + (sites a).length)
  | .cond _ a b, .cl ha hb, k => numRF a ha k && numRF b hb (k + (sites a).length)
  | .cond _ a b, .cr ha hb, k => numRF a ha k && numRF b hb (k + (sites a).length)
  | .block _ b, .b _ hb, k => numRF b hb k
  | .block _ b, .b0 hb, k => numRF b hb k
  | .loop b, .l _ hb, k => numRF b hb k
  | .rangeFunc _ _ _ _, .rf s _, k => Nat.beq s k
  | _, _, _ => true
theorem noRF_ok {P : Program} (f0 : FuncId) (nt : Nat) : ∀ (c : Code) (h : Hint), noRF h = true → SitesP P f0 nt c h := by
  intro c
  induction c with
  | seq a b iha ihb => intro h hh; cases h <;> simp_all [SitesP, noRF]
  | cond c a b iha ihb => intro h hh; cases h <;> simp_all [SitesP, noRF]
  | block id b ih => intro h hh; cases h <;> simp_all [SitesP, noRF]
  | loop b ih => intro h hh; cases h <;> simp_all [SitesP, noRF]
  | rangeFunc f ps a b _ _ => intro h hh; cases h <;> simp_all [SitesP, noRF]
  | _ => intro h hh; simp [SitesP]
theorem numRF_ok {P : Program} (f0 : FuncId) (nt : Nat) (all : List (Array Tmp × Code × Code)) (hall : ∀ (s : Nat) (x : Array Tmp × Code × Code), all[s]? = some x → siteC f0 s = some (nt, x)) :
    ∀ (c : Code) (h : Hint) (k : Nat), numRF c h k = true → (∀ (j : Nat) (x : Array Tmp × Code × Code), (sites c)[j]? = some x → all[k + j]? = some x) → SitesP P f0 nt c h := by
  have two : ∀ (a b : Code) (k : Nat), (∀ (j : Nat) (x : Array Tmp × Code × Code), (sites a ++ sites b)[j]? = some x → all[k + j]? = some x) →
      (∀ (j : Nat) (x : Array Tmp × Code × Code), (sites a)[j]? = some x → all[k + j]? = some x) ∧ (∀ (j : Nat) (x : Array Tmp × Code × Code), (sites b)[j]? = some x → all[k + (sites a).length + j]? = some x) := by
    intro a b k hk
    refine ⟨fun j x hx => hk j x ?_, fun j x hx => ?_⟩
    · rw [List.getElem?_append_left (List.getElem?_eq_some_iff.1 hx).1]; exact hx
    · rw [Nat.add_assoc]; refine hk _ x ?_
      rw [List.getElem?_append_right (by omega), show (sites a).length + j - (sites a).length = j from by omega]; exact hx
  intro c
  induction c with
  | seq a b iha ihb =>
    intro h k hn hk
    obtain ⟨h1, h2⟩ := two a b k hk
    cases h <;> simp only [SitesP] <;> first | (simp only [numRF, Bool.and_eq_true] at hn; exact ⟨iha _ k hn.1 h1, ihb _ _ hn.2 h2⟩) | (simp [numRF] at hn)
  | cond c a b iha ihb =>
    intro h k hn hk
    obtain ⟨h1, h2⟩ := two a b k hk
    cases h <;> simp only [SitesP] <;> (simp only [numRF, Bool.and_eq_true] at hn; exact ⟨iha _ k hn.1 h1, ihb _ _ hn.2 h2⟩)
  | block id b ih =>
    intro h k hn hk
    cases h <;> simp only [SitesP] <;> first | exact ih _ k hn hk | (simp [numRF] at hn)
  | loop b ih =>
    intro h k hn hk
    cases h <;> simp only [SitesP]
    exact ih _ k hn hk
  | rangeFunc f ps a b _ _ =>
    intro h k hn hk
    cases h <;> simp only [SitesP]
    simp only [numRF, Nat.beq_eq] at hn
    subst hn
    exact hall _ _ (hk 0 _ rfl)
  | _ => intro h k hn hk; simp [SitesP]

def sitesB (fn : Func) (h : Hint) : Bool := noRF h || match fn.body with
  | some b => numRF b h 0
  | none => true

noncomputable abbrev PP : Program := Go.Proofs.Try.prog
theorem sitesB_ok {f : FuncId} {fn : Func} (hfn : PP.funcs[f]? = some fn) {h : Hint} (hs : sitesB fn h = true) : ∀ body, fn.body = some body → SitesP PP f fn.ntmps body h := by
  intro body hb
  simp only [sitesB, Bool.or_eq_true] at hs
  rcases hs with hs | hs
  · exact noRF_ok _ _ _ _ hs
  · simp only [hb] at hs
    refine numRF_ok f fn.ntmps (sites body) (fun s x hx => ?_) body h 0 hs (fun j x hx => by rw [Nat.zero_add]; exact hx)
    unfold siteC
    have hfn' : Go.Proofs.Try.prog.funcs[f]? = some fn := hfn
    simp only [hfn', hb, hx]

/-- A function's telling is true. -/
def FS (g : FuncId) (m : List AV → AH → Option (AV × AH)) : Prop := ∀ az H v H', m az H = some (v, H') → SimCall PP g az H v H'
def FI (g : FuncId) (m : List AV → AH → Option (AV × AH)) : Prop := ∀ az H v H', m az H = some (v, H') → H.next ≤ H'.next ∧ SimIn PP g az H v H'
theorem FI.fs {g : FuncId} {m : List AV → AH → Option (AV × AH)} (h : FI g m) : FS g m := fun az H v H' e => ⟨(h az H v H' e).1, .inl (h az H v H' e).2⟩
structure DG (D : Dyn) : Prop where
  fn : ∀ g, FS g (D.fn g)
  yld : ∀ A args H v H', D.yld A args H = some (v, H') → SimYld PP A args H v H'
def SOk : List (Nat × (List AV → AH → Option (AV × AH))) → Prop
  | [] => True
  | (i, m) :: S => FS i m ∧ SOk S
theorem SOk.nil : SOk [] := trivial
theorem SOk.cons {i : Nat} {m : List AV → AH → Option (AV × AH)} {S : List (Nat × (List AV → AH → Option (AV × AH)))} (h : FS i m) (k : SOk S) : SOk ((i, m) :: S) := ⟨h, k⟩
theorem callG_ok {D : Dyn} (hD : DG D) : ∀ {S : List (Nat × (List AV → AH → Option (AV × AH)))}, SOk S → ∀ g, FS g (callG S D g)
  | [], _, g => fun az H v H' h => hD.fn g az H v H' h
  | (i, m) :: S, hS, g => fun az H v H' h => by
    simp only [callG, cond_eq_ite] at h
    split at h
    · rename_i e
      rw [Nat.beq_eq] at e; subst e
      exact hS.1 az H v H' h
    · exact callG_ok hD hS.2 g az H v H' h
theorem good_of {X : Cx} {S : List (Nat × (List AV → AH → Option (AV × AH)))} {D : Dyn} (hD : DG D) (hS : SOk S) : Good PP (rOf ⟨X, S⟩ D) :=
  ⟨fun f args H v H' h => callG_ok hD hS f args H v H' h, fun A args H v H' h => hD.yld A args H v H' h⟩

theorem fun_ok {X : Cx} (hX : Ok PP X) {S : List (Nat × (List AV → AH → Option (AV × AH)))} {D : Dyn} (hD : DG D) (hS : SOk S) {f : FuncId} {fn : Func} (hfn : PP.funcs[f]? = some fn) {n : Nat} {h : Hint} (hs : sitesB fn h = true) {m : List AV → AH → Option (AV × AH)} (he : m = funK ⟨X, S⟩ D n f fn h) : FI f m := by
  subst he
  intro az H v H' e
  exact funK_in hX (good_of hD hS) hfn (sitesB_ok hfn hs) e

theorem fun_okT {X : Cx} (hX : Ok PP X) {S : List (Nat × (List AV → AH → Option (AV × AH)))} {D : Dyn} (hD : DG D) (hS : SOk S) {f : FuncId} {fn : Func} (hfn : PP.funcs[f]? = some fn) {n : Nat} {h : Hint} (hs : ∀ body, fn.body = some body → SitesP PP f fn.ntmps body h) {m : List AV → AH → Option (AV × AH)} (he : m = funK ⟨X, S⟩ D n f fn h) : FI f m := by
  subst he
  intro az H v H' e
  exact funK_in hX (good_of hD hS) hfn hs e

/-- A round's telling is true. -/
def RS (f s : Nat) (m : Nat → ALoop → List AV → AH → Option (AV × AH)) : Prop :=
  ∀ A l az H v H', H.h.get A = some (.loop l) → l.fn = f → l.site = s → m A l az H = some (v, H') → SimYld PP A az H v H'
theorem round_ok {X : Cx} (hX : Ok PP X) {S : List (Nat × (List AV → AH → Option (AV × AH)))} {D : Dyn} (hD : DG D) (hS : SOk S) {f s : Nat} {n : Nat} {L ids : List Nat} {ha hb : Hint} (hs : (noRF ha && noRF hb) = true) {m : Nat → ALoop → List AV → AH → Option (AV × AH)} (he : m = rndK ⟨X, S⟩ D n f s L ids ha hb) : RS f s m := by
  subst he
  intro A l az H v H' hA hf hsi e
  rw [Bool.and_eq_true] at hs
  exact rndK_ok hX (good_of hD hS) (fun nt ps asg body _ => ⟨noRF_ok _ _ _ _ hs.1, noRF_ok _ _ _ _ hs.2⟩) hA hf hsi e
def ROk : List ((Nat × Nat) × (Nat → ALoop → List AV → AH → Option (AV × AH))) → Prop
  | [] => True
  | ((f, s), m) :: t => RS f s m ∧ ROk t
theorem ROk.nil : ROk [] := trivial
theorem ROk.cons {f s : Nat} {m : Nat → ALoop → List AV → AH → Option (AV × AH)} {t : List ((Nat × Nat) × (Nat → ALoop → List AV → AH → Option (AV × AH)))} (h : RS f s m) (k : ROk t) : ROk (((f, s), m) :: t) := ⟨h, k⟩
theorem rdOfT_ok {t : List ((Nat × Nat) × (Nat → ALoop → List AV → AH → Option (AV × AH)))} (ht : ROk t) {A : Nat} {az : List AV} {H H' : AH} {v : AV} (h : rdOfT t A az H = some (v, H')) : SimYld PP A az H v H' := by
  unfold rdOfT at h
  split at h
  · rename_i l hA
    induction t with
    | nil => simp [rdOfT.go] at h
    | cons x t ih =>
      obtain ⟨⟨f, s⟩, m⟩ := x
      simp only [rdOfT.go, cond_eq_ite] at h
      split at h
      · rename_i e
        simp only [Bool.and_eq_true, Nat.beq_eq] at e
        exact ht.1 A l az H v H' hA e.1.symm e.2.symm h
      · exact ih ht.2 h
  · simp at h

def dNone : Dyn := ⟨fun _ _ _ => none, fun _ _ _ => none⟩
theorem dNone_ok : DG dNone := ⟨fun _ _ _ _ _ h => by simp [dNone] at h, fun _ _ _ _ _ h => by simp [dNone] at h⟩
/-- Functions that are called by name or by value, to some depth. -/
noncomputable def dyOf (tab : Dyn → Nat → List (Nat × (List AV → AH → Option (AV × AH)))) (tabR : Dyn → Nat → List ((Nat × Nat) × (Nat → ALoop → List AV → AH → Option (AV × AH)))) (n : Nat) : Dyn :=
  Nat.rec dNone (fun m D => ⟨fun g vs H => callG (tab D m) dNone g vs H, rdOfT (tabR D m)⟩) n
theorem dyOf_ok {tab : Dyn → Nat → List (Nat × (List AV → AH → Option (AV × AH)))} {tabR : Dyn → Nat → List ((Nat × Nat) × (Nat → ALoop → List AV → AH → Option (AV × AH)))} (h1 : ∀ D n, DG D → SOk (tab D n)) (h2 : ∀ D n, DG D → ROk (tabR D n)) : ∀ n, DG (dyOf tab tabR n)
  | 0 => dNone_ok
  | n + 1 => by
    have ih := dyOf_ok h1 h2 n
    exact ⟨fun g az H v H' e => callG_ok dNone_ok (h1 _ n ih) g az H v H' e, fun A args H v H' e => rdOfT_ok (h2 _ n ih) e⟩

/-- Does the reckoning come to 'true'? -/
def saysT (x : Option (AV × AH)) : Bool := match x with
  | some (.bool true, _) => true
  | _ => false
theorem calls_of {f : FuncId} {m : List AV → AH → Option (AV × AH)} (hm : FI f m) (h : saysT (m [] ⟨.leaf, 0⟩) = true) (w : World) : Calls PP f #[] w fun e w' => e = .returned (.bool true) ∧ RowKit.Below w.heap.size w w' := by
  unfold saysT at h
  split at h
  · rename_i H' hc
    intro cs
    obtain ⟨_, _, hc⟩ := hm _ _ _ _ hc
    obtain ⟨R', w', z, fr', h1, h2, h3, h4, h5, h6⟩ := hc (fun _ _ _ _ => False) [] cs w rfl (Rel.empty w)
    simp only [VR] at h4; subst h4
    refine ⟨.returned (.bool true), w', fr', ⟨rfl, ?_⟩, h1, h2, h3⟩
    exact ⟨h6.os, h6.tape, h6.output, h6.size, fun k hk => h6.keep k hk (fun _ _ _ h => h)⟩
  · simp at h
end Go.Eng
end
section
namespace Go.Eng

theorem run_range_map {P : Program} {w : World} {t kt vt : TypeId} {m : Nat} {arr : Array MapEntry} {clock : Nat} (ht : (underlying t).run P w = .ok (.map kt vt) w) (hm : w.heap[m]? = some (.map arr clock)) :
    (Instr.range t (.map (some m))).run P w = .ok (.pointer (some ⟨w.heap.size, 0, none⟩)) (w.alloc (.mapIter (some m) clock #[] clock)) := by
  simp [Instr.range, Sem.run_bind, ht, getObj, Sem.run, hm, newObj, Result.andThen]
end Go.Eng
end
section
namespace Go.Eng

/-- A loop over a map, as it stands in a text. -/
structure ML where
  rA : Nat
  rB : Nat
  rC : Nat
  pre : List Oper
  oR : Oper
  oN : Oper
  oX : Oper
  oE : Oper
  rest : List Oper
  id : Nat
  id2 : Nat
  body : Code
  t : TypeId
  x : Operand
  it : Nat
  nx : Nat
  ok : Nat
  en : Nat
def ML.opsA (q : ML) : Array Oper := ⟨q.pre ++ [q.oR]⟩
def ML.opsB (q : ML) : Array Oper := ⟨[q.oN, q.oX]⟩
def ML.opsC (q : ML) : Array Oper := ⟨q.oE :: q.rest⟩
def ML.round (q : ML) : Code := .seq (.region q.rB q.opsB false) (.seq (.cond (.tmp q.ok) .skip (.exit q.id)) (.block q.id2 (.seq (.region q.rC q.opsC false) q.body)))
def ML.code (q : ML) : Code := .seq (.region q.rA q.opsA false) (.block q.id (.loop q.round))
structure ML.Fits (q : ML) (nt : Nat) : Prop where
  gR : q.oR.guard = none
  pR : q.oR.op = .range q.t q.x
  dR : q.oR.dst = some q.it
  gN : q.oN.guard = none
  pN : q.oN.op = .next (.tmp q.it) false
  dN : q.oN.dst = some q.nx
  gX : q.oX.guard = none
  pX : q.oX.op = .extract (.tmp q.nx) 0
  dX : q.oX.dst = some q.ok
  gE : q.oE.guard = none
  pE : q.oE.op = .entry (.tmp q.it)
  dE : q.oE.dst = some q.en
  it : q.it < nt
  nx : q.nx < nt
  ok : q.ok < nt
  en : q.en < nt
  itnx : q.it ≠ q.nx
  itok : q.it ≠ q.ok
  iten : q.it ≠ q.en
  nxok : q.nx ≠ q.ok

/-- A round's reckoning, behind 'entry'. -/
noncomputable def ML.roundK (q : ML) (B : Tb) (D : Dyn) (n nt : Nat) (hb : Hint) (L : List Nat) (I : Nat) (vs : List AV) (k v : AV) (H : AH) : Rs :=
  unp (q.it :: L) (.ptr I 0 :: vs) env0 fun e =>
    opsK B D nt q.opsC none (Nat.succ q.rest.length) (fun env H => codeK B D n nt [] 0 true q.body hb [] (fun env H => pck (q.it :: L) env fun vs => some (.norm vs, H)) env H) (idx q.rest 1) [] (upd e q.en (.tuple [k, v])) H

/-- Blocks that are told otherwise, though the world stays. -/
theorem Rel.told {R : Ren} {H : AH} {w : World} (h : Rel R H w) {A b d c : Nat} {o o' : AObj} {t' : T AObj} (hR : R A b d c) (hA : H.h.get A = some o) (hl : Live H A) (hs : T.set 40 H.h A o' = some t') (ho : ORel R o' d c w.heap[b]?) : Rel R ⟨t', H.next⟩ w := by
  have hg := T.get_set _ _ _ _ _ hs
  have hlv : ∀ A', Live ⟨t', H.next⟩ A' → Live H A' := fun A' ⟨p, hp, hd⟩ => by
    simp only [hg] at hp
    by_cases e : A' = A
    · subst e; exact hl
    · rw [if_neg e] at hp; exact ⟨p, hp, hd⟩
  refine ⟨h.fn, fun A1 A2 b d c d' c' r r' l l' => h.inj _ _ _ _ _ _ _ r r' (hlv _ l) (hlv _ l'), fun A1 b1 d1 c1 p r hp => ?_, h.lt⟩
  simp only [hg] at hp
  by_cases e : A1 = A
  · subst e
    rw [if_pos rfl] at hp; injection hp with hp; subst hp
    obtain ⟨rfl, rfl, rfl⟩ := h.fn _ _ _ _ _ _ _ r hR
    exact ho
  · rw [if_neg e] at hp; exact h.obj _ _ _ _ _ r hp

section
variable {P : Program} {fr : Frame} {k : List Item} {cs : List Frame} {w : World}
theorem st_next_map {ops : Array Oper} {i : Nat} {rest : List Nat} {o : Oper} {it d : Nat} {v : Value} {w' : World} (hm : fr.mode = .run) (ht : fr.todo = .inRegion ops (i :: rest) :: k) (ho : ops[i]? = some o)
    (hg : o.guard = none) (hop : o.op = .next (.tmp it) false) (hd : o.dst = some d) (hr : (Instr.next (fr.tmps.getD it undef) false o.type).run P w = .ok v w') :
    step P (lone fr cs w) = .next (lone { fr with tmps := fr.tmps.setIfInBounds d v, todo := .inRegion ops rest :: k } cs w') := by
  have h1 : (execOp fr.eval o).run P w = .ok (.value v) w' := by
    have he : fr.eval (.tmp it) = fr.tmps.getD it undef := rfl
    simp only [execOp, hop, he, Sem.run_bind, hr, Result.andThen_ok]
    rfl
  have h2 := st_value (cs := cs) hm ht ho (by simp [Region.wanted, hg]) (by intro c; rw [hop]; simp) h1
  rw [h2, finish_region ht ho, hd]; rfl
theorem st_entry_map {ops : Array Oper} {i : Nat} {rest : List Nat} {o : Oper} {it d : Nat} {v : Value} {w' : World} (hm : fr.mode = .run) (ht : fr.todo = .inRegion ops (i :: rest) :: k) (ho : ops[i]? = some o)
    (hg : o.guard = none) (hop : o.op = .entry (.tmp it)) (hd : o.dst = some d) (hr : (Instr.entry (fr.tmps.getD it undef)).run P w = .ok v w') :
    step P (lone fr cs w) = .next (lone { fr with tmps := fr.tmps.setIfInBounds d v, todo := .inRegion ops rest :: k } cs w') := by
  have h1 : (execOp fr.eval o).run P w = .ok (.value v) w' := by
    have he : fr.eval (.tmp it) = fr.tmps.getD it undef := rfl
    simp only [execOp, hop, he, Sem.run_bind, hr, Result.andThen_ok]
    rfl
  have h2 := st_value (cs := cs) hm ht ho (by simp [Region.wanted, hg]) (by intro c; rw [hop]; simp) h1
  rw [h2, finish_region ht ho, hd]; rfl
theorem st_range_map {ops : Array Oper} {i : Nat} {rest : List Nat} {o : Oper} {t : TypeId} {x : Operand} {d : Nat} {v : Value} {w' : World} (hm : fr.mode = .run) (ht : fr.todo = .inRegion ops (i :: rest) :: k) (ho : ops[i]? = some o)
    (hg : o.guard = none) (hop : o.op = .range t x) (hd : o.dst = some d) (hr : (Instr.range t (fr.eval x)).run P w = .ok v w') :
    step P (lone fr cs w) = .next (lone { fr with tmps := fr.tmps.setIfInBounds d v, todo := .inRegion ops rest :: k } cs w') := by
  have h1 : (execOp fr.eval o).run P w = .ok (.value v) w' := by
    simp [execOp, hop, Sem.run_bind, hr, Result.andThen]
  have h2 := st_value (cs := cs) hm ht ho (by simp [Region.wanted, hg]) (by intro c; rw [hop]; simp) h1
  rw [h2, finish_region ht ho, hd]; rfl
theorem st_extract {ops : Array Oper} {i : Nat} {rest : List Nat} {o : Oper} {nx d j : Nat} {v : Value} {a : Array Value} (hm : fr.mode = .run) (ht : fr.todo = .inRegion ops (i :: rest) :: k) (ho : ops[i]? = some o)
    (hg : o.guard = none) (hop : o.op = .extract (.tmp nx) j) (hd : o.dst = some d) (hr : fr.tmps.getD nx undef = .tuple a) (ha : a[j]? = some v) :
    step P (lone fr cs w) = .next (lone { fr with tmps := fr.tmps.setIfInBounds d v, todo := .inRegion ops rest :: k } cs w) := by
  have h1 : (execOp fr.eval o).run P w = .ok (.value v) w := by
    have he : fr.eval (.tmp nx) = .tuple a := hr
    simp [execOp, hop, he, ha, Instr.extract, Sem.run_bind, Result.andThen]
  have h2 := st_value (cs := cs) hm ht ho (by simp [Region.wanted, hg]) (by intro c; rw [hop]; simp) h1
  rw [h2, finish_region ht ho, hd]; rfl
end

theorem EnvR.slot {R : Ren} {env : Env} {n : Nat} {tmps : Array Value} (h : EnvR R env n tmps) {d : Nat} (hd : d < n) (z : Value) : EnvR R (fun t => bif Nat.beq t d then none else env t) n (tmps.setIfInBounds d z) := by
  refine ⟨by rw [Array.size_setIfInBounds]; exact h.size, fun t x hx => ?_, fun t ht => ?_⟩
  · simp only [look, cond_eq_ite, Nat.beq_eq] at hx
    split at hx
    · simp at hx
    · rename_i hne
      have := h.get t x hx
      rw [Array.getD_eq_getD_getElem?, Array.getElem?_setIfInBounds_ne (fun e => hne e.symm), ← Array.getD_eq_getD_getElem?]; exact this
  · simp only [look, cond_eq_ite]
    split
    · rfl
    · exact h.out t ht

/-- The loop's state ahead of a round: the iterator lies in the block r of the model's, the map in m. -/
structure AtHead (q : ML) (nt : Nat) (L : List Nat) (I M r m : Nat) (vs : List AV) (arr : Array MapEntry) (clock : Nat) (seen : Array Nat) (R : Ren) (H : AH) (tmps : Array Value) (w : World) : Prop where
  rel : Rel R H w
  env : ∃ e, PK e (q.it :: L) (.ptr I 0 :: vs) ∧ EnvR R e nt tmps
  ri : R I r 0 0
  rm : ∃ d c, R M m d c
  gi : H.h.get I = some (.raw (.mapIter (some m) clock seen clock))
  gm : H.h.get M = some (.raw (.map arr clock))
  bo : Born arr.toList clock

theorem PK_drop {e : Env} {d : Nat} : ∀ {L : List Nat} {vs : List AV}, PK e L vs → (∀ l ∈ L, l ≠ d) → PK (fun t => bif Nat.beq t d then none else e t) L vs
  | [], vs, h, _ => h
  | l :: L, vs, ⟨v, vs', h1, h2, h3⟩, hd => by
    refine ⟨v, vs', h1, ?_, PK_drop h3 (fun x hx => hd x (List.mem_cons_of_mem _ hx))⟩
    have := hd l (List.mem_cons_self ..)
    simp only [look, cond_eq_ite, Nat.beq_eq, if_neg this]; exact h2

theorem getD_set_same (t : Array Value) (d : Nat) (z : Value) (h : d < t.size) : (t.setIfInBounds d z).getD d undef = z := by
  rw [Array.getD_eq_getD_getElem?, Array.getElem?_setIfInBounds_self_of_lt h]; rfl
theorem getD_set_ne (t : Array Value) (d j : Nat) (z : Value) (h : d ≠ j) : (t.setIfInBounds d z).getD j undef = t.getD j undef := by
  rw [Array.getD_eq_getD_getElem?, Array.getElem?_setIfInBounds_ne h, ← Array.getD_eq_getD_getElem?]

theorem head_step {P : Program} {q : ML} {nt : Nat} (hq : q.Fits nt) {L : List Nat} (hLd : ∀ l ∈ q.it :: L, l ≠ q.nx ∧ l ≠ q.ok ∧ l ≠ q.en) {I M r m : Nat} {vs : List AV} {arr : Array MapEntry} {clock : Nat} {seen : Array Nat} {R : Ren} {H : AH} {fr : Frame} {w : World} {k : List Item} {cs : List Frame}
    (h : AtHead q nt L I M r m vs arr clock seen R H fr.tmps w) (hm : fr.mode = .run) (ht : fr.todo = .code q.round :: .inLoop q.round :: .inBlock q.id :: k) :
    ((∀ e ∈ arr.toList, e.born ∈ seen.toList) ∧ ∃ tmps', Steps P (lone fr cs w) (lone { fr with tmps := tmps', todo := k } cs w) ∧ ∃ e, PK e (q.it :: L) (.ptr I 0 :: vs) ∧ EnvR R e nt tmps') ∨
    (∃ e ∈ arr.toList, e.born ∉ seen.toList ∧ ∃ tmps' d', Steps P (lone fr cs w) (lone { fr with tmps := tmps', todo := .inRegion q.opsC ((List.range q.rest.length).map Nat.succ) :: .code q.body :: .inBlock q.id2 :: .inLoop q.round :: .inBlock q.id :: k } cs (wput { w with drawn := d' } r (.mapIter (some m) clock (seen.push e.born) clock))) ∧
      (∃ en, PK en (q.it :: L) (.ptr I 0 :: vs) ∧ EnvR R en nt tmps') ∧ tmps'.getD q.en undef = .tuple #[e.key, e.val]) := by
  obtain ⟨e0, hp, hE⟩ := h.env
  obtain ⟨v0, vs0, hv0, hlk, hp'⟩ := id hp
  obtain ⟨rfl, rfl⟩ : v0 = .ptr I 0 ∧ vs0 = vs := by injection hv0 with a b; exact ⟨a.symm, b.symm⟩
  obtain ⟨b, d, c, hR, hz⟩ := hE.get _ _ hlk
  obtain ⟨rfl, rfl, rfl⟩ := h.rel.fn _ _ _ _ _ _ _ hR h.ri
  have hz' : fr.tmps.getD q.it undef = .pointer (some ⟨b, 0, none⟩) := by rw [hz]
  have hri : w.heap[b]? = some (.mapIter (some m) clock seen clock) := h.rel.obj _ _ _ _ _ h.ri h.gi
  obtain ⟨dm, cm, hRm⟩ := h.rm
  have hrm : w.heap[m]? = some (.map arr clock) := h.rel.obj _ _ _ _ _ hRm h.gm
  have hblt : b < w.heap.size := (h.rel.lt _ _ _ _ h.ri).1
  have hmb : m ≠ b := fun e => by rw [e] at hrm; rw [hri] at hrm; simp at hrm
  have hsz := hE.size
  have s0 : Steps P (lone fr cs w) (lone { fr with todo := .inRegion q.opsB [0, 1] :: .code (.seq (.cond (.tmp q.ok) .skip (.exit q.id)) (.block q.id2 (.seq (.region q.rC q.opsC false) q.body))) :: .inLoop q.round :: .inBlock q.id :: k } cs w) :=
    (Steps.one (st_seq hm ht)).trans (.one (st_region (fr := { fr with todo := .code (.region q.rB q.opsB false) :: .code (.seq (.cond (.tmp q.ok) .skip (.exit q.id)) (.block q.id2 (.seq (.region q.rC q.opsC false) q.body))) :: .inLoop q.round :: .inBlock q.id :: k }) hm rfl))
  rcases run_next_at (P := P) w q.oN.type b m clock clock seen arr clock hri hrm h.bo.2 (Nat.le_refl _) with ⟨hl0, hrun⟩ | ⟨e, he, w1, hw1, hrun⟩
  · left
    refine ⟨fun e he => ?_, ?_⟩
    · apply Classical.byContradiction
      intro hne
      have : e ∈ (leftOf arr seen).toList := by
        simp only [leftOf, Array.toList_filter, List.mem_filter]
        refine ⟨he, ?_⟩
        simpa using hne
      have h2 : 0 < (leftOf arr seen).size := by
        have := List.length_pos_of_mem this
        simpa using this
      omega
    · have s1 := st_next_map (P := P) (cs := cs) (fr := { fr with todo := .inRegion q.opsB [0, 1] :: .code (.seq (.cond (.tmp q.ok) .skip (.exit q.id)) (.block q.id2 (.seq (.region q.rC q.opsC false) q.body))) :: .inLoop q.round :: .inBlock q.id :: k }) (w := w) hm rfl (o := q.oN) rfl hq.gN hq.pN hq.dN (by rw [hz']; exact hrun)
      have s2 := st_extract (P := P) (cs := cs) (w := w) (fr := { fr with tmps := fr.tmps.setIfInBounds q.nx (.tuple #[.bool false]), todo := .inRegion q.opsB [1] :: .code (.seq (.cond (.tmp q.ok) .skip (.exit q.id)) (.block q.id2 (.seq (.region q.rC q.opsC false) q.body))) :: .inLoop q.round :: .inBlock q.id :: k }) hm rfl (o := q.oX) rfl hq.gX hq.pX hq.dX (getD_set_same _ _ _ (by have := hq.nx; omega)) (v := .bool false) rfl
      have s3 := st_region_end (P := P) (cs := cs) (w := w) (fr := { fr with tmps := (fr.tmps.setIfInBounds q.nx (.tuple #[.bool false])).setIfInBounds q.ok (.bool false), todo := .inRegion q.opsB [] :: .code (.seq (.cond (.tmp q.ok) .skip (.exit q.id)) (.block q.id2 (.seq (.region q.rC q.opsC false) q.body))) :: .inLoop q.round :: .inBlock q.id :: k }) hm rfl
      have s4 := st_seq (P := P) (cs := cs) (w := w) (fr := { fr with tmps := (fr.tmps.setIfInBounds q.nx (.tuple #[.bool false])).setIfInBounds q.ok (.bool false), todo := .code (.seq (.cond (.tmp q.ok) .skip (.exit q.id)) (.block q.id2 (.seq (.region q.rC q.opsC false) q.body))) :: .inLoop q.round :: .inBlock q.id :: k }) hm rfl
      have s5 := st_cond (P := P) (cs := cs) (w := w) (fr := { fr with tmps := (fr.tmps.setIfInBounds q.nx (.tuple #[.bool false])).setIfInBounds q.ok (.bool false), todo := .code (.cond (.tmp q.ok) .skip (.exit q.id)) :: .code (.block q.id2 (.seq (.region q.rC q.opsC false) q.body)) :: .inLoop q.round :: .inBlock q.id :: k }) (t := false) hm rfl (getD_set_same _ _ _ (by have := hq.ok; rw [Array.size_setIfInBounds]; omega))
      have s6 := st_exit (P := P) (cs := cs) (w := w) (fr := { fr with tmps := (fr.tmps.setIfInBounds q.nx (.tuple #[.bool false])).setIfInBounds q.ok (.bool false), todo := .code (.exit q.id) :: .code (.block q.id2 (.seq (.region q.rC q.opsC false) q.body)) :: .inLoop q.round :: .inBlock q.id :: k }) (k' := k) hm rfl (by simp [exitTo])
      refine ⟨_, s0.trans ((Steps.one s1).trans ((Steps.one s2).trans ((Steps.one s3).trans ((Steps.one s4).trans ((Steps.one s5).trans (.one s6)))))), _, PK_drop (PK_drop hp (fun l hl => (hLd l hl).1)) (fun l hl => (hLd l hl).2.1), (hE.slot hq.nx _).slot hq.ok _⟩
  · right
    obtain ⟨d', rfl⟩ : ∃ d', w1 = { w with drawn := d' } := by
      rcases hw1 with rfl | rfl
      · exact ⟨w1.drawn, rfl⟩
      · exact ⟨w.drawn + 1, rfl⟩
    have he' : e ∈ arr.toList ∧ e.born ∉ seen.toList := by
      simp only [leftOf, Array.toList_filter, List.mem_filter] at he
      exact ⟨he.1, by simpa using he.2⟩
    refine ⟨e, he'.1, he'.2, ?_⟩
    have hrun' : (Instr.next (.pointer (some ⟨b, 0, none⟩)) false q.oN.type).run P w = .ok (.tuple #[.bool true, e.key, e.val]) (wput { w with drawn := d' } b (.mapIter (some m) clock (seen.push e.born) clock)) := hrun
    generalize hw2 : wput { w with drawn := d' } b (.mapIter (some m) clock (seen.push e.born) clock) = w2 at hrun'
    have hi2 : w2.heap[b]? = some (.mapIter (some m) clock (seen.push e.born) clock) := by rw [← hw2]; exact wput_same _ _ _ hblt
    have hm2 : w2.heap[m]? = some (.map arr clock) := by rw [← hw2, wput_other _ _ _ _ hmb]; exact hrm
    have s1 := st_next_map (P := P) (cs := cs) (fr := { fr with todo := .inRegion q.opsB [0, 1] :: .code (.seq (.cond (.tmp q.ok) .skip (.exit q.id)) (.block q.id2 (.seq (.region q.rC q.opsC false) q.body))) :: .inLoop q.round :: .inBlock q.id :: k }) (w := w) hm rfl (o := q.oN) rfl hq.gN hq.pN hq.dN (by rw [hz']; exact hrun')
    have s2 := st_extract (P := P) (cs := cs) (w := w2) (fr := { fr with tmps := fr.tmps.setIfInBounds q.nx (.tuple #[.bool true, e.key, e.val]), todo := .inRegion q.opsB [1] :: .code (.seq (.cond (.tmp q.ok) .skip (.exit q.id)) (.block q.id2 (.seq (.region q.rC q.opsC false) q.body))) :: .inLoop q.round :: .inBlock q.id :: k }) hm rfl (o := q.oX) rfl hq.gX hq.pX hq.dX (getD_set_same _ _ _ (by have := hq.nx; omega)) (v := .bool true) rfl
    generalize ht2 : (fr.tmps.setIfInBounds q.nx (.tuple #[.bool true, e.key, e.val])).setIfInBounds q.ok (.bool true) = t2 at s2
    have hE2 : EnvR R (fun t => bif Nat.beq t q.ok then none else (fun t => bif Nat.beq t q.nx then none else e0 t) t) nt t2 := by rw [← ht2]; exact (hE.slot hq.nx _).slot hq.ok _
    have hok2 : t2.getD q.ok undef = .bool true := by rw [← ht2]; exact getD_set_same _ _ _ (by have := hq.ok; rw [Array.size_setIfInBounds]; omega)
    have hit2 : t2.getD q.it undef = .pointer (some ⟨b, 0, none⟩) := by rw [← ht2, getD_set_ne _ _ _ _ (fun x => hq.itok x.symm), getD_set_ne _ _ _ _ (fun x => hq.itnx x.symm)]; exact hz'
    have s3 := st_region_end (P := P) (cs := cs) (w := w2) (fr := { fr with tmps := t2, todo := .inRegion q.opsB [] :: .code (.seq (.cond (.tmp q.ok) .skip (.exit q.id)) (.block q.id2 (.seq (.region q.rC q.opsC false) q.body))) :: .inLoop q.round :: .inBlock q.id :: k }) hm rfl
    have s4 := st_seq (P := P) (cs := cs) (w := w2) (fr := { fr with tmps := t2, todo := .code (.seq (.cond (.tmp q.ok) .skip (.exit q.id)) (.block q.id2 (.seq (.region q.rC q.opsC false) q.body))) :: .inLoop q.round :: .inBlock q.id :: k }) hm rfl
    have s5 := st_cond (P := P) (cs := cs) (w := w2) (fr := { fr with tmps := t2, todo := .code (.cond (.tmp q.ok) .skip (.exit q.id)) :: .code (.block q.id2 (.seq (.region q.rC q.opsC false) q.body)) :: .inLoop q.round :: .inBlock q.id :: k }) (t := true) hm rfl hok2
    have s6 := st_skip (P := P) (cs := cs) (w := w2) (fr := { fr with tmps := t2, todo := .code .skip :: .code (.block q.id2 (.seq (.region q.rC q.opsC false) q.body)) :: .inLoop q.round :: .inBlock q.id :: k }) hm rfl
    have s7 := st_block (P := P) (cs := cs) (w := w2) (fr := { fr with tmps := t2, todo := .code (.block q.id2 (.seq (.region q.rC q.opsC false) q.body)) :: .inLoop q.round :: .inBlock q.id :: k }) hm rfl
    have s8 := st_seq (P := P) (cs := cs) (w := w2) (fr := { fr with tmps := t2, todo := .code (.seq (.region q.rC q.opsC false) q.body) :: .inBlock q.id2 :: .inLoop q.round :: .inBlock q.id :: k }) hm rfl
    have s9 := st_region (P := P) (cs := cs) (w := w2) (fr := { fr with tmps := t2, todo := .code (.region q.rC q.opsC false) :: .code q.body :: .inBlock q.id2 :: .inLoop q.round :: .inBlock q.id :: k }) hm rfl
    have hrg : List.range q.opsC.size = 0 :: (List.range q.rest.length).map Nat.succ := by
      rw [← List.range_succ_eq_map]; rfl
    rw [hrg] at s9
    have s10 := st_entry_map (P := P) (cs := cs) (w := w2) (fr := { fr with tmps := t2, todo := .inRegion q.opsC (0 :: (List.range q.rest.length).map Nat.succ) :: .code q.body :: .inBlock q.id2 :: .inLoop q.round :: .inBlock q.id :: k }) hm rfl (o := q.oE) rfl hq.gE hq.pE hq.dE (by
      rw [hit2]; exact run_entry_at w2 b m clock seen arr clock e hi2 hm2 he'.1 h.bo.1)
    refine ⟨_, d', ?_, ⟨_, PK_drop (PK_drop (PK_drop hp (fun l hl => (hLd l hl).1)) (fun l hl => (hLd l hl).2.1)) (fun l hl => (hLd l hl).2.2), hE2.slot hq.en _⟩, getD_set_same _ _ _ (by have := hq.en; rw [hE2.size]; exact this)⟩
    rw [hw2]
    exact s0.trans ((Steps.one s1).trans ((Steps.one s2).trans ((Steps.one s3).trans ((Steps.one s4).trans ((Steps.one s5).trans ((Steps.one s6).trans ((Steps.one s7).trans ((Steps.one s8).trans ((Steps.one s9).trans (.one s10))))))))))
end Go.Eng
end
section
namespace Go.Eng

theorem EnvR.know {R : Ren} {env : Env} {n : Nat} {tmps : Array Value} (h : EnvR R env n tmps) {d : Nat} (hd : d < n) {x : AV} (hx : VR R x (tmps.getD d undef)) : EnvR R (upd env d x) n tmps := by
  refine ⟨h.size, fun t y hy => ?_, fun t ht => ?_⟩
  · simp only [look, upd_at] at hy
    split at hy
    · rename_i e; subst e; injection hy with hy; subst hy; exact hx
    · exact h.get t y hy
  · simp only [look, upd_at]
    rw [if_neg (by omega)]; exact h.out t ht
section
variable {P : Program} {B : Tb} {D : Dyn} (hX : Ok P B.X) (hr : Good P (rOf B D))
include hX hr in
theorem round_step {q : ML} {nt : Nat} (hq : q.Fits nt) {L : List Nat} {hb : Hint} (hsb : SitesP P 0 nt q.body hb) {n : Nat} {I M r m : Nat} {vs : List AV} {arr : Array MapEntry} {clock : Nat} {seen : Array Nat} {R : Ren} {H H3 : AH} {tmps : Array Value} {w : World} {kA vA : AV} {e : MapEntry} {d' : Nat} {t' : T AObj}
    (h : AtHead q nt L I M r m vs arr clock seen R H tmps w) (hset : T.set 40 H.h I (.raw (.mapIter (some m) clock (seen.push e.born) clock)) = some t')
    (hk : VR R kA e.key) (hv : VR R vA e.val) (hrd : q.roundK B D n nt hb L I vs kA vA ⟨t', H.next⟩ = some (.norm (.ptr I 0 :: vs), H3)) (hgi : H3.h.get I = t'.get I) (hgm : H3.h.get M = t'.get M) (hIM : M ≠ I)
    {fr : Frame} {k : List Item} {cs : List Frame} {lo : Nat} (hm : fr.mode = .run) (ht : fr.todo = .inRegion q.opsC ((List.range q.rest.length).map Nat.succ) :: .code q.body :: .inBlock q.id2 :: .inLoop q.round :: .inBlock q.id :: k)
    (hE : ∃ en, PK en (q.it :: L) (.ptr I 0 :: vs) ∧ EnvR R en nt fr.tmps) (hen : fr.tmps.getD q.en undef = .tuple #[e.key, e.val]) (hM : Marks lo R w fr.defers) (hlo : lo ≤ w.heap.size) :
    ∃ R' w' tmps' ds, Steps P (lone fr cs (wput { w with drawn := d' } r (.mapIter (some m) clock (seen.push e.born) clock))) (lone { fr with tmps := tmps', todo := .code q.round :: .inLoop q.round :: .inBlock q.id :: k, defers := ds } cs w') ∧
      AtHead q nt L I M r m vs arr clock (seen.push e.born) R' H3 tmps' w' ∧ Ext R H w R' H3 w' ∧ Marks lo R' w' ds ∧ H.next ≤ H3.next := by
  have hLi : Live H I := ⟨_, h.gi, trivial⟩
  have hRel2 : Rel R ⟨t', H.next⟩ (wput { w with drawn := d' } r (.mapIter (some m) clock (seen.push e.born) clock)) := (h.rel.drew d').put h.ri hLi hset rfl
  have hExt2 : Ext R H w R ⟨t', H.next⟩ (wput { w with drawn := d' } r (.mapIter (some m) clock (seen.push e.born) clock)) := (Ext.drew R H w d').trans (Ext.put h.ri hset)
  obtain ⟨en, hp, hEn⟩ := hE
  unfold ML.roundK at hrd
  obtain ⟨e', hops, hle⟩ := unp_le hrd hp
  have htup : VR R (.tuple [kA, vA]) (fr.tmps.getD q.en undef) := by
    rw [hen]; exact ⟨[e.key, e.val], rfl, _, _, rfl, hk, _, _, rfl, hv, rfl⟩
  have hE1 : EnvR R (upd e' q.en (.tuple [kA, vA])) nt fr.tmps := (hEn.know hq.en htup).le (hle.upd _ _)
  obtain ⟨es, envF, HF, env', c1, c2, c3, c4, _⟩ := opsK_chain _ _ [] _ _ _ [] hops (Le.refl _) (fun ms hms => by simp at hms)
  obtain ⟨i1, i2⟩ := idx_get q.rest 1
  have hi : es.map (·.i) = (List.range q.rest.length).map Nat.succ := by
    have : es.map (·.i) = (idx q.rest 1).map (·.1) := by rw [← c2]; simp
    rw [this, i1]
    apply List.map_congr_left
    intro x _; omega
  have hmem : ∀ e ∈ es, q.opsC[e.i]? = some e.o := by
    intro e he
    have h1 : (e.i, e.o) ∈ idx q.rest 1 := by rw [← c2]; exact List.mem_map.2 ⟨e, he, rfl⟩
    obtain ⟨h2, h3⟩ := i2 _ h1
    show (q.oE :: q.rest).toArray[e.i]? = some e.o
    have h2' : 1 ≤ e.i := h2
    rw [show e.i = (e.i - 1) + 1 from by omega, List.getElem?_toArray, List.getElem?_cons_succ]
    exact h3
  obtain ⟨R1, w1, t1, s1, e1, l1, x1⟩ := chain_run hX hr c1 hmem R fr (.code q.body :: .inBlock q.id2 :: .inLoop q.round :: .inBlock q.id :: k) cs _ hm (by rw [hi]; exact ht) hE1 hRel2
  have hst := codeK_ok hX hr (ro := true) (f0 := 0) (rs := []) (nt := nt) (n := n) q.body hb [] _ env' HF _ hsb c4
  have hM1 : Marks lo R1 w1 fr.defers := (hM.ext hExt2).ext x1
  obtain ⟨R2, w2, t2, td2, ds2, env2, H2, s2, e2, l2, x2, n2, m2, o2⟩ := hst lo R1 { fr with tmps := t1, todo := .code q.body :: .inBlock q.id2 :: .inLoop q.round :: .inBlock q.id :: k } (.inBlock q.id2 :: .inLoop q.round :: .inBlock q.id :: k) cs w1 hm (fun h => by simp at h) rfl (e1.le c3) l1 hM1 (Nat.le_trans hlo (hExt2.trans x1).size)
  have hnx := (chain_next hr.mono c1).1
  rcases o2 with ⟨rfl, b2⟩ | ⟨id, k', rfl, b2, L', vs', b3, _⟩ | ⟨k', rfl, b2⟩
  · obtain ⟨vs2, p1, p2⟩ := pck_some b2
    simp only [Option.some.injEq, Prod.mk.injEq, Ex.norm.injEq] at p2
    obtain ⟨rfl, rfl⟩ := p2
    have hx := hExt2.trans (x1.trans x2)
    refine ⟨R2, w2, t2, ds2, ?_, ⟨l2, ⟨env2, p1, e2⟩, hx.sub _ _ _ _ h.ri, ?_, ?_, ?_, h.bo⟩, hx, m2, Nat.le_trans (show H.next ≤ HF.next from hnx) n2⟩
    · refine s1.trans ((Steps.one (st_region_end (fr := { fr with tmps := t1, todo := .inRegion q.opsC [] :: .code q.body :: .inBlock q.id2 :: .inLoop q.round :: .inBlock q.id :: k }) hm rfl)).trans (s2.trans ?_))
      refine (Steps.one (st_inBlock (fr := { fr with tmps := t2, todo := .inBlock q.id2 :: .inLoop q.round :: .inBlock q.id :: k, defers := ds2 }) hm rfl)).trans ?_
      exact .one (st_inLoop (fr := { fr with tmps := t2, todo := .inLoop q.round :: .inBlock q.id :: k, defers := ds2 }) hm rfl)
    · obtain ⟨d, c, hr⟩ := h.rm
      exact ⟨d, c, hx.sub _ _ _ _ hr⟩
    · rw [hgi, T.get_set _ _ _ _ _ hset, if_pos rfl]
    · rw [hgm, T.get_set _ _ _ _ _ hset, if_neg hIM]; exact h.gm
  · simp [liveOf] at b3
  · obtain ⟨u, e⟩ := retE_form b2
    simp at e
end
end Go.Eng
end
section
namespace Go.Eng
section
variable {P : Program} {B : Tb} {D : Dyn} (hX : Ok P B.X) (hr : Good P (rOf B D))
include hX hr in
theorem loop_run {q : ML} {nt : Nat} (hq : q.Fits nt) {L : List Nat} (hLd : ∀ l ∈ q.it :: L, l ≠ q.nx ∧ l ≠ q.ok ∧ l ≠ q.en) {hb : Hint} (hsb : SitesP P 0 nt q.body hb) {n : Nat} {I M r m : Nat} (hIM : M ≠ I) (hI : I + 1 < 2 ^ 40) {vs : List AV} {arr : Array MapEntry} {clock : Nat} {es : List (AV × AV)}
    {inv : List (AV × AV) → AH → Prop}
    (hstep : ∀ vis k v rest Hk, inv vis Hk → (vis ++ (k, v) :: rest).Perm es → ∃ H3, q.roundK B D n nt hb L I vs k v Hk = some (.norm (.ptr I 0 :: vs), H3) ∧ H3.h.get I = Hk.h.get I ∧ H3.h.get M = Hk.h.get M ∧ inv (vis ++ [(k, v)]) H3)
    (hraw : ∀ vis Hk y t', inv vis Hk → T.set 40 Hk.h I (.raw y) = some t' → inv vis ⟨t', Hk.next⟩)
    {ps : List ((AV × AV) × MapEntry)} (hps1 : ps.map (·.1) = es) (hps2 : (ps.map (·.2)).Perm arr.toList) :
    ∀ (N : Nat) (rp vp : List ((AV × AV) × MapEntry)) (seen : Array Nat) (R : Ren) (H : AH) (fr : Frame) (k : List Item) (cs : List Frame) (w : World) (lo : Nat), rp.length = N → (vp ++ rp).Perm ps → seen.toList = vp.map (·.2.born) → inv (vp.map (·.1)) H →
      (∀ p ∈ ps, VR R p.1.1 p.2.key ∧ VR R p.1.2 p.2.val) → AtHead q nt L I M r m vs arr clock seen R H fr.tmps w → fr.mode = .run → fr.todo = .code q.round :: .inLoop q.round :: .inBlock q.id :: k → Marks lo R w fr.defers → lo ≤ w.heap.size →
      ∃ (R' : Ren) (w' : World) (tmps' : Array Value) (ds : List Deferred) (H' : AH) (vp' : List ((AV × AV) × MapEntry)) (seen' : Array Nat), Steps P (lone fr cs w) (lone { fr with tmps := tmps', todo := k, defers := ds } cs w') ∧ vp'.Perm ps ∧ inv (vp'.map (·.1)) H' ∧ AtHead q nt L I M r m vs arr clock seen' R' H' tmps' w' ∧ Ext R H w R' H' w' ∧ Marks lo R' w' ds ∧ H.next ≤ H'.next := by
  have find : ∀ e ∈ arr.toList, ∃ p ∈ ps, p.2 = e := fun e he => by
    have := hps2.symm.subset he
    obtain ⟨p, h1, h2⟩ := List.mem_map.1 this
    exact ⟨p, h1, h2⟩
  intro N
  induction N with
  | zero =>
    intro rp vp seen R H fr k cs w lo hN hperm hseen hinv hvr hA hm ht hM hlo
    have : rp = [] := List.eq_nil_of_length_eq_zero hN
    subst this
    rw [List.append_nil] at hperm
    rcases head_step (P := P) (cs := cs) hq hLd hA hm ht with ⟨_, tmps', s1, he⟩ | ⟨e, he, hns, _⟩
    · exact ⟨R, w, tmps', fr.defers, H, vp, seen, s1, hperm, hinv, ⟨hA.rel, he, hA.ri, hA.rm, hA.gi, hA.gm, hA.bo⟩, Ext.refl R H w, hM, Nat.le_refl _⟩
    · obtain ⟨p, hp, rfl⟩ := find e he
      exact absurd (by rw [hseen]; exact List.mem_map.2 ⟨p, hperm.symm.subset hp, rfl⟩) hns
  | succ N ih =>
    intro rp vp seen R H fr k cs w lo hN hperm hseen hinv hvr hA hm ht hM hlo
    rcases head_step (P := P) (cs := cs) hq hLd hA hm ht with ⟨hall, _⟩ | ⟨e, he, hns, tmps', d', s1, hE, hen⟩
    · exfalso
      obtain ⟨p, rp', rfl⟩ : ∃ p rp', rp = p :: rp' := by
        cases rp with
        | nil => simp at hN
        | cons p rp' => exact ⟨p, rp', rfl⟩
      have hin : p ∈ ps := hperm.subset (by simp)
      have h1 := hall p.2 (hps2.subset (List.mem_map.2 ⟨p, hin, rfl⟩))
      rw [hseen] at h1
      have hnd : ((vp ++ p :: rp').map (·.2.born)).Nodup := by
        have h2 : ((vp ++ p :: rp').map (·.2.born)).Perm (arr.toList.map (·.born)) := by
          have := (hperm.map (·.2)).trans hps2
          have := this.map (·.born)
          rw [List.map_map] at this
          exact this
        exact h2.symm.nodup hA.bo.1
      rw [List.map_append, List.nodup_append] at hnd
      exact hnd.2.2 _ h1 _ (by simp) rfl
    · obtain ⟨p, hp, rfl⟩ := find e he
      have hin : p ∈ vp ++ rp := hperm.symm.subset hp
      have hrp : p ∈ rp := by
        rcases List.mem_append.1 hin with h1 | h1
        · exact absurd (by rw [hseen]; exact List.mem_map.2 ⟨p, h1, rfl⟩) hns
        · exact h1
      obtain ⟨r1, r2, rfl⟩ := List.append_of_mem hrp
      obtain ⟨⟨kA, vA⟩, e⟩ := p
      have hperm2 : (vp ++ [((kA, vA), e)] ++ (r1 ++ r2)).Perm ps := by
        refine List.Perm.trans ?_ hperm
        rw [List.append_assoc]
        refine List.Perm.append_left _ ?_
        exact (List.perm_middle (a := ((kA, vA), e)) (l₁ := r1) (l₂ := r2)).symm
      obtain ⟨t', hset⟩ := Option.isSome_iff_exists.1 (T.set_isSome 40 H.h I (.raw (.mapIter (some m) clock (seen.push e.born) clock)) hI)
      have hinv2 := hraw _ _ _ _ hinv hset
      obtain ⟨H3, g1, g2, g3, g4⟩ := hstep (vp.map (·.1)) kA vA ((r1 ++ r2).map (·.1)) ⟨t', H.next⟩ hinv2 (by
        have := hperm2.map (·.1)
        rw [hps1] at this
        simpa using this)
      obtain ⟨hk, hv⟩ := hvr _ hp
      obtain ⟨R1, w1, t1, ds1, s2, a2, x2, m2, n2⟩ := round_step hX hr (d' := d') (cs := cs) (lo := lo) (k := k) (fr := { fr with tmps := tmps', todo := .inRegion q.opsC ((List.range q.rest.length).map Nat.succ) :: .code q.body :: .inBlock q.id2 :: .inLoop q.round :: .inBlock q.id :: k }) hq hsb hA hset hk hv g1 g2 g3 hIM hm rfl hE hen hM hlo
      obtain ⟨R2, w2, t2, ds2, H4, vp', seen', s3, p3, i3, a3, x3, m3, n3⟩ := ih (r1 ++ r2) (vp ++ [((kA, vA), e)]) (seen.push e.born) R1 H3 { fr with tmps := t1, todo := .code q.round :: .inLoop q.round :: .inBlock q.id :: k, defers := ds1 } k cs w1 lo (by simp at hN ⊢; omega) hperm2 (by simp [hseen]) (by simpa using g4)
        (fun p hp => ⟨VR.mono x2.sub _ _ (hvr p hp).1, VR.mono x2.sub _ _ (hvr p hp).2⟩) a2 hm rfl m2 (Nat.le_trans hlo x2.size)
      exact ⟨R2, w2, t2, ds2, H4, vp', seen', s1.trans (s2.trans s3), p3, i3, a3, x2.trans x3, m3, Nat.le_trans n2 n3⟩
end
end Go.Eng
end
section
namespace Go.Eng
section
variable {P : Program} {B : Tb} {D : Dyn} (hX : Ok P B.X) (hr : Good P (rOf B D))
/-- A map's entries, pair by pair. -/
theorem MR.pairs {R : Ren} {es : List (AV × AV)} {l : List MapEntry} (h : MR R es l) : ∃ ps : List ((AV × AV) × MapEntry), ps.map (·.1) = es ∧ (ps.map (·.2)).Perm l ∧ ∀ p ∈ ps, VR R p.1.1 p.2.key ∧ VR R p.1.2 p.2.val := by
  obtain ⟨m, hp, h1, h2⟩ := h
  have key : ∀ (es : List (AV × AV)) (m : List MapEntry), VRL R (es.map (·.1)) (m.map (·.key)) → VRL R (es.map (·.2)) (m.map (·.val)) → ∃ ps : List ((AV × AV) × MapEntry), ps.map (·.1) = es ∧ ps.map (·.2) = m ∧ ∀ p ∈ ps, VR R p.1.1 p.2.key ∧ VR R p.1.2 p.2.val := by
    intro es
    induction es with
    | nil =>
      intro m h1 _
      simp only [List.map_nil, VRL, List.map_eq_nil_iff] at h1
      subst h1
      exact ⟨[], rfl, rfl, by simp⟩
    | cons e es ih =>
      intro m h1 h2
      obtain ⟨x, xs, hx, h3, h4⟩ := h1
      obtain ⟨y, ys, hy, h5, h6⟩ := h2
      cases m with
      | nil => simp at hx
      | cons a m =>
        simp only [List.map_cons, List.cons.injEq] at hx hy
        obtain ⟨rfl, rfl⟩ := hx
        obtain ⟨rfl, rfl⟩ := hy
        obtain ⟨ps, i1, i2, i3⟩ := ih m h4 h6
        refine ⟨(e, a) :: ps, by simp [i1], by simp [i2], fun p hp => ?_⟩
        rcases List.mem_cons.1 hp with rfl | hp
        · exact ⟨h3, h5⟩
        · exact i3 p hp
  obtain ⟨ps, i1, i2, i3⟩ := key es m h1 h2
  exact ⟨ps, i1, by rw [i2]; exact hp, i3⟩
variable {nt : Nat}
include hX hr in
/-- A chain, gone through in the text's order. -/
theorem chain_runT {ops : Array Oper} : ∀ {es : List Ent} {env : Env} {H : AH} {envF : Env} {HF : AH}, Chain B.X (rOf B D) nt ops env H es envF HF → (∀ e ∈ es, ops[e.i]? = some e.o) →
    ∀ (R : Ren) (fr : Frame) (tl : List Nat) (k : List Item) (cs : List Frame) (w : World), fr.mode = .run → fr.todo = .inRegion ops (es.map (·.i) ++ tl) :: k → EnvR R env nt fr.tmps → Rel R H w →
    ∃ R' w' tmps', Steps P (lone fr cs w) (lone { fr with tmps := tmps', todo := .inRegion ops tl :: k } cs w') ∧ EnvR R' envF nt tmps' ∧ Rel R' HF w' ∧ Ext R H w R' HF w'
  | [], env, H, envF, HF, ⟨h1, h2⟩, _, R, fr, tl, k, cs, w, hm, ht, hE, hL => by
    subst h1 h2
    refine ⟨R, w, fr.tmps, ?_, hE, hL, Ext.refl R H w⟩
    have : ({ fr with tmps := fr.tmps, todo := .inRegion ops tl :: k } : Frame) = fr := by
      have ht' : fr.todo = .inRegion ops tl :: k := ht
      rw [← ht']
    rw [this]; exact .refl _ _
  | e :: es, env, H, envF, HF, ⟨h1, h2, h3, env', h4, h5⟩, hmem, R, fr, tl, k, cs, w, hm, ht, hE, hL => by
    have ho := hmem e (List.mem_cons_self ..)
    obtain ⟨hw, hyes, hno⟩ := ent_ok _ _ _ h3
    have hwd := want_ok hE hw
    have ht' : fr.todo = .inRegion ops (e.i :: (es.map (·.i) ++ tl)) :: k := ht
    have key : ∃ R1 w1 z, Steps P (lone fr cs w) (lone { fr with tmps := putT fr.tmps e.o.dst z, todo := .inRegion ops (es.map (·.i) ++ tl) :: k } cs w1) ∧ VR R1 e.v z ∧ Rel R1 e.H' w1 ∧ Ext R H w R1 e.H' w1 := by
      cases hwe : e.want with
      | true =>
        rw [hwe] at hwd
        exact opF_ok hX hr (cs := cs) hm ht' ho hwd hE hL (hyes hwe)
      | false =>
        rw [hwe] at hwd
        obtain ⟨e1, e2⟩ := hno hwe
        refine ⟨R, w, undef, ?_, by rw [e1]; exact VR_undef R, by rw [e2]; exact hL, by rw [e2]; exact Ext.refl R H w⟩
        rw [← finish_region ht' ho]; exact .one (st_passed hm ht' ho hwd)
    obtain ⟨R1, w1, z, s1, v1, l1, x1⟩ := key
    obtain ⟨R2, w2, t2, s2, e2, l2, x2⟩ := chain_runT h5 (fun q hq => hmem q (List.mem_cons_of_mem _ hq)) R1 { fr with tmps := putT fr.tmps e.o.dst z, todo := .inRegion ops (es.map (·.i) ++ tl) :: k } tl k cs w1 hm rfl ((hE.mono x1.sub).put v1 h4) l1
    exact ⟨R2, w2, t2, s1.trans s2, e2, l2, x1.trans x2⟩


/-- What is reckoned ahead of the range. -/
noncomputable def ML.preK (q : ML) (B : Tb) (D : Dyn) (nt : Nat) (L : List Nat) (vs : List AV) (H : AH) : Rs :=
  unp L vs env0 fun e => opsK B D nt q.opsA none (Nat.succ q.pre.length) (fun e H => pck L e fun vs => bV (opd e q.x) fun v => some (.norm (v :: vs), H)) (idx q.pre 0) [] e H

/-- What an instance has to show. -/
structure ML.Plan (q : ML) (B : Tb) (D : Dyn) (n nt : Nat) (hb : Hint) (L : List Nat) (vs : List AV) (H H' : AH) where
  M : Nat
  ks : List Nat
  es : List (AV × AV)
  inv : List (AV × AV) → AH → Prop
  pre : q.preK B D nt L vs H = some (.norm (.map M :: vs), H)
  room : H.next + 1 < 2 ^ 40
  map : H.h.get M = some (.map ks es)
  start : ∀ x y t1 t2, T.set 40 H.h M (.raw x) = some t1 → T.set 40 t1 H.next (.raw y) = some t2 → inv [] ⟨t2, H.next + 1⟩
  step : ∀ vis k v rest Hk, inv vis Hk → (vis ++ (k, v) :: rest).Perm es → ∃ H3, q.roundK B D n nt hb L H.next vs k v Hk = some (.norm (.ptr H.next 0 :: vs), H3) ∧ H3.h.get H.next = Hk.h.get H.next ∧ H3.h.get M = Hk.h.get M ∧ inv (vis ++ [(k, v)]) H3
  raw : ∀ vis Hk y t', inv vis Hk → T.set 40 Hk.h H.next (.raw y) = some t' → inv vis ⟨t', Hk.next⟩
  fin : ∀ vis Hk t1 t2, inv vis Hk → vis.Perm es → T.set 40 Hk.h M (.map ks es) = some t1 → T.set 40 t1 H.next .dead = some t2 → ∀ R0 w0 R w, Rel R0 H w0 → (∀ v ∈ vs, ∃ z, VR R0 v z) → (∃ b d c, R0 M b d c) → Sub R0 R → Rel R ⟨t2, Hk.next⟩ w → Rel R H' w ∧ H'.next = Hk.next ∧ ∀ A, A < H.next → (∀ b d c, ¬ R0 A b d c) → H'.h.get A = H.h.get A
end
end Go.Eng
end
section
namespace Go.Eng
section
variable {P : Program} {B : Tb} {D : Dyn} (hX : Ok P B.X) (hr : Good P (rOf B D)) {nt : Nat}
theorem Ext.told {R : Ren} {H : AH} {w : World} {A b d c : Nat} {o' : AObj} {t' : T AObj} (hR : R A b d c) (hs : T.set 40 H.h A o' = some t') : Ext R H w R ⟨t', H.next⟩ w :=
  ⟨Sub.refl R, fun _ _ _ _ h => .inl h, fun _ _ _ _ h => .inl h, Nat.le_refl _, fun A1 _ hk => by
    have : A1 ≠ A := fun e => by subst e; exact hk _ _ _ hR
    simp only [T.get_set _ _ _ _ _ hs, if_neg this], rfl, rfl, rfl, Nat.le_refl _, fun _ _ _ => rfl⟩
theorem Ext.same {R : Ren} {H H' : AH} {w : World} (hn : H'.next = H.next) (hk : ∀ A, (∀ b d c, ¬ R A b d c) → H'.h.get A = H.h.get A) : Ext R H w R H' w :=
  ⟨Sub.refl R, fun _ _ _ _ h => .inl h, fun _ _ _ _ h => .inl h, by omega, fun A1 _ h => hk A1 h, rfl, rfl, rfl, Nat.le_refl _, fun _ _ _ => rfl⟩
include hX hr in
theorem mapLoop_ok {q : ML} (hq : q.Fits nt) {L : List Nat} (hLd : ∀ l ∈ q.it :: L, l ≠ q.nx ∧ l ≠ q.ok ∧ l ≠ q.en) (hit : ∀ l ∈ L, l ≠ q.it) {hb : Hint} (hsb : SitesP P 0 nt q.body hb) {n : Nat} {f0 : FuncId} {kt vt : TypeId} (hty : B.X.und q.t = some (.map kt vt)) {mf : List AV → AH → Option AH}
    (hpl : ∀ vs H H', mf vs H = some H' → Nonempty (q.Plan B D n nt hb L vs H H')) : ToldOk P nt f0 q.code L mf := by
  intro ro env vs H H' hp hmf hle lo R fr k cs w hm hro htd hE hL hM hlo
  obtain ⟨pl⟩ := hpl vs H H' hmf
  have hpre := pl.pre
  unfold ML.preK at hpre
  obtain ⟨e1, hops, hle1⟩ := unp_le hpre hp
  obtain ⟨es, envF, HF, env', c1, c2, c3, c4, _⟩ := opsK_chain _ _ [] _ _ _ [] hops (Le.refl _) (fun ms hms => by simp at hms)
  obtain ⟨vs1, p1, c4⟩ := pck_some c4
  obtain ⟨v1, o1, c4⟩ := bV_some c4
  simp only [Option.some.injEq, Prod.mk.injEq, Ex.norm.injEq, List.cons.injEq] at c4
  obtain ⟨⟨rfl, rfl⟩, rfl⟩ := c4
  obtain ⟨i1, i2⟩ := idx_get q.pre 0
  have hi : es.map (·.i) = List.range q.pre.length := by
    have : es.map (·.i) = (idx q.pre 0).map (·.1) := by rw [← c2]; simp
    rw [this, i1]; simp
  have hmem : ∀ e ∈ es, q.opsA[e.i]? = some e.o := by
    intro e he
    have h1 : (e.i, e.o) ∈ idx q.pre 0 := by rw [← c2]; exact List.mem_map.2 ⟨e, he, rfl⟩
    have h3 := (i2 _ h1).2
    rw [Nat.sub_zero] at h3
    show (q.pre ++ [q.oR]).toArray[e.i]? = some e.o
    rw [List.getElem?_toArray, List.getElem?_append_left (List.getElem?_eq_some_iff.1 h3).1]
    exact h3
  have hrg : List.range q.opsA.size = es.map (·.i) ++ [q.pre.length] := by
    rw [hi, ← List.range_succ]
    show List.range (q.pre ++ [q.oR]).toArray.size = _
    simp
  obtain ⟨R1, w1, t1, s1, e1', l1, x1⟩ := chain_runT hX hr c1 hmem R { fr with todo := .inRegion q.opsA (es.map (·.i) ++ [q.pre.length]) :: .code (.block q.id (.loop q.round)) :: k } [q.pre.length] (.code (.block q.id (.loop q.round)) :: k) cs w hm rfl (hE.le hle1) hL
  have hE1 : EnvR R1 env' nt t1 := e1'.le c3
  obtain ⟨m, dm, cm, hRM, hev⟩ := opd_ok (fr := { fr with tmps := t1, todo := .inRegion q.opsA [q.pre.length] :: .code (.block q.id (.loop q.round)) :: k }) hE1 _ _ o1
  obtain ⟨arr, clock, hbm, hmr, hks, hdd, hbo⟩ := l1.mapAt pl.map hRM
  have hlast : q.opsA[q.pre.length]? = some q.oR := by
    show (q.pre ++ [q.oR]).toArray[q.pre.length]? = some q.oR
    simp
  have s2 := st_range_map (P := P) (cs := cs) (w := w1) (fr := { fr with tmps := t1, todo := .inRegion q.opsA [q.pre.length] :: .code (.block q.id (.loop q.round)) :: k }) hm rfl hlast hq.gR hq.pR hq.dR (by rw [hev]; exact run_range_map (hX.run_und hty w1) hbm)
  have hMn : pl.M < HF.next := (l1.lt _ _ _ _ hRM).2
  have hroom := pl.room
  obtain ⟨ta, hta⟩ := Option.isSome_iff_exists.1 (T.set_isSome 40 HF.h pl.M (.raw (.map arr clock)) (by omega))
  obtain ⟨tb, htb⟩ := Option.isSome_iff_exists.1 (T.set_isSome 40 ta HF.next (.raw (.mapIter (some m) clock #[] clock)) hroom)
  have lM : Rel R1 ⟨ta, HF.next⟩ w1 := l1.told hRM pl.map ⟨_, pl.map, trivial⟩ hta hbm
  have l2 : Rel (R1.add HF.next w1.heap.size 0 0) ⟨tb, HF.next + 1⟩ (w1.alloc (.mapIter (some m) clock #[] clock)) := lM.new (c := 0) (x := .mapIter (some m) clock #[] clock) (H := ⟨ta, HF.next⟩) htb rfl
  have x2 : Ext R HF w (R1.add HF.next w1.heap.size 0 0) ⟨tb, HF.next + 1⟩ (w1.alloc (.mapIter (some m) clock #[] clock)) := (x1.trans (Ext.told hRM hta)).trans (Ext.add (H := ⟨ta, HF.next⟩) htb)
  obtain ⟨ps, hps1, hps2, hps3⟩ := hmr.pairs
  have hsub : Sub R1 (R1.add HF.next w1.heap.size 0 0) := R1.sub_add _ _ _ _
  have hvr : ∀ p ∈ ps, VR (R1.add HF.next w1.heap.size 0 0) p.1.1 p.2.key ∧ VR (R1.add HF.next w1.heap.size 0 0) p.1.2 p.2.val := fun p hp => ⟨VR.mono hsub _ _ (hps3 p hp).1, VR.mono hsub _ _ (hps3 p hp).2⟩
  have hIM : pl.M ≠ HF.next := by omega
  have hEh : EnvR (R1.add HF.next w1.heap.size 0 0) (upd env' q.it (.ptr HF.next 0)) nt (t1.setIfInBounds q.it (.pointer (some ⟨w1.heap.size, 0, none⟩))) :=
    (hE1.mono hsub).put (dst := some q.it) (x := .ptr HF.next 0) ⟨w1.heap.size, 0, 0, R1.add_self _ _ _ _, rfl⟩ (by have hb := hq.it; rw [← Nat.blt_eq] at hb; simp only [setD, hb, cond_true])
  have hPh : PK (upd env' q.it (.ptr HF.next 0)) (q.it :: L) (.ptr HF.next 0 :: vs1) := by
    refine ⟨_, _, rfl, by simp [look, upd_at], ?_⟩
    have key : ∀ (L : List Nat) (vs : List AV), (∀ l ∈ L, l ≠ q.it) → PK env' L vs → PK (upd env' q.it (.ptr HF.next 0)) L vs := by
      intro L
      induction L with
      | nil => intro vs _ h; exact h
      | cons l L ih =>
        intro vs hd h
        obtain ⟨v, vs', h1, h2, h3⟩ := h
        refine ⟨v, vs', h1, ?_, ih vs' (fun x hx => hd x (List.mem_cons_of_mem _ hx)) h3⟩
        have := hd l (List.mem_cons_self ..)
        simp only [look, upd_at, if_neg this]; exact h2
    exact key L vs1 hit p1
  have hAH : AtHead q nt L HF.next pl.M w1.heap.size m vs1 arr clock #[] (R1.add HF.next w1.heap.size 0 0) ⟨tb, HF.next + 1⟩ (t1.setIfInBounds q.it (.pointer (some ⟨w1.heap.size, 0, none⟩))) (w1.alloc (.mapIter (some m) clock #[] clock)) :=
    ⟨l2, ⟨_, hPh, hEh⟩, R1.add_self _ _ _ _, ⟨dm, cm, hsub _ _ _ _ hRM⟩, by simp only [T.get_set _ _ _ _ _ htb, if_true], by simp only [T.get_set _ _ _ _ _ htb, if_neg hIM, T.get_set _ _ _ _ _ hta, if_true], hbo⟩
  have hM2 : Marks lo (R1.add HF.next w1.heap.size 0 0) (w1.alloc (.mapIter (some m) clock #[] clock)) fr.defers := hM.ext x2
  obtain ⟨R3, w3, t3, ds3, H3, vp, seen, s3, v3, i3, a3, x3, m3, n3⟩ := loop_run hX hr hq hLd hsb hIM hroom pl.step pl.raw hps1 hps2 ps.length ps [] #[] _ ⟨tb, HF.next + 1⟩ { fr with tmps := t1.setIfInBounds q.it (.pointer (some ⟨w1.heap.size, 0, none⟩)), todo := .code q.round :: .inLoop q.round :: .inBlock q.id :: k } k cs _ lo rfl (by simp) rfl (pl.start _ _ _ _ hta htb) hvr hAH hm rfl hM2 (Nat.le_trans hlo x2.size)
  obtain ⟨d3, c3', hRm3⟩ := a3.rm
  obtain ⟨tc, htc⟩ := Option.isSome_iff_exists.1 (T.set_isSome 40 H3.h pl.M (.map pl.ks pl.es) (by omega))
  obtain ⟨td, htd'⟩ := Option.isSome_iff_exists.1 (T.set_isSome 40 tc HF.next .dead hroom)
  have hmid : w3.heap[m]? = some (.map arr clock) := a3.rel.obj _ _ _ _ _ hRm3 a3.gm
  have hRm3' : R3 pl.M m dm cm := x3.sub _ _ _ _ (hsub _ _ _ _ hRM)
  have l4 : Rel R3 ⟨tc, H3.next⟩ w3 := a3.rel.told hRm3' a3.gm ⟨_, a3.gm, trivial⟩ htc ⟨arr, clock, hmid, hmr.mono (fun A b d c h => x3.sub _ _ _ _ (hsub _ _ _ _ h)), hks, hdd, hbo⟩
  have l5 : Rel R3 ⟨td, H3.next⟩ w3 := l4.kill (H := ⟨tc, H3.next⟩) htd'
  have hvs : ∀ v ∈ vs1, ∃ z, VR R v z := by
    have key : ∀ (L : List Nat) (vs : List AV), PK env L vs → ∀ v ∈ vs, ∃ z, VR R v z := by
      intro L
      induction L with
      | nil => intro vs h v hv; simp only [PK] at h; subst h; simp at hv
      | cons l L ih =>
        intro vs h v hv
        obtain ⟨v0, vs', h1, h2, h3⟩ := h
        subst h1
        rcases List.mem_cons.1 hv with rfl | hv
        · exact ⟨_, hE.get _ _ h2⟩
        · exact ih vs' h3 v hv
    exact key L vs1 hp
  have hMR : ∃ b d c, R pl.M b d c := by
    rcases x1.newA _ _ _ _ hRM with h | h
    · exact ⟨_, _, _, h⟩
    · omega
  have hs03 : Sub R R3 := (x2.trans x3).sub
  obtain ⟨l6, hnx, hkp⟩ := pl.fin _ H3 tc td i3 (by rw [← hps1]; exact v3.map _) htc htd' R w R3 w3 hL hvs hMR hs03 l5
  have x23 := x2.trans x3
  have x4 : Ext R HF w R3 H' w3 := ⟨x23.sub, x23.new, x23.newA, by have := x23.next; omega, hkp, x23.os, x23.tape, x23.output, x23.size, x23.keep⟩
  obtain ⟨e3, pk3, er3⟩ := a3.env
  obtain ⟨_, _, hq1, _, pk3'⟩ := pk3
  injection hq1 with _ hq1; subst hq1
  refine ⟨R3, w3, t3, k, ds3, e3, H', ?_, er3, l6, x4, hle, m3, .inl ⟨rfl, pk3', rfl⟩⟩
  refine (Steps.one (st_seq hm htd)).trans ?_
  refine (Steps.one (st_region (fr := { fr with todo := .code (.region q.rA q.opsA false) :: .code (.block q.id (.loop q.round)) :: k }) hm rfl)).trans ?_
  rw [hrg]
  refine s1.trans ((Steps.one s2).trans ?_)
  refine (Steps.one (st_region_end (fr := { fr with tmps := t1.setIfInBounds q.it (.pointer (some ⟨w1.heap.size, 0, none⟩)), todo := .inRegion q.opsA [] :: .code (.block q.id (.loop q.round)) :: k }) hm rfl)).trans ?_
  refine (Steps.one (st_block (fr := { fr with tmps := t1.setIfInBounds q.it (.pointer (some ⟨w1.heap.size, 0, none⟩)), todo := .code (.block q.id (.loop q.round)) :: k }) hm rfl)).trans ?_
  refine (Steps.one (st_loop (fr := { fr with tmps := t1.setIfInBounds q.it (.pointer (some ⟨w1.heap.size, 0, none⟩)), todo := .code (.loop q.round) :: .inBlock q.id :: k }) hm rfl)).trans ?_
  exact s3
end
end Go.Eng
end
section
namespace Go.Eng

def ups (e : List (AV × AV)) (x : AV × AV) : List (AV × AV) := match setA x.1 x.2 e with
  | some r => r
  | none => e ++ [x]
def upsL : List (AV × AV) → List (AV × AV) → List (AV × AV)
  | e, [] => e
  | e, x :: l => upsL (ups e x) l
noncomputable def freeN (t : T AObj) : Nat → Nat → Bool
  | _, 0 => true
  | A, n + 1 => match T.get t A with
    | none => fN (Nat.succ A) fun A => freeN t A n
    | some _ => false
theorem freeN_ok {t : T AObj} : ∀ {n A : Nat}, freeN t A n = true → ∀ C, A ≤ C → C < A + n → t.get C = none
  | 0, _, _, C, h1, h2 => by omega
  | n + 1, A, h, C, h1, h2 => by
    simp only [freeN] at h
    split at h
    · rename_i e
      rw [fN_eq] at h
      by_cases hc : C = A
      · subst hc; exact e
      · exact freeN_ok h C (by simp only [Nat.succ_eq_add_one]; omega) (by simp only [Nat.succ_eq_add_one]; omega)
    · simp at h

noncomputable def upLp (kk : List Nat) (nb : Nat) (ok : AV → Bool) (x y : AV) (H : AH) : Option AH := match x with
  | .map M => match y with
    | .map A => match H.h.get M with
      | some (.map ks es) => match H.h.get A with
        | some (.map ks' es') => bif eqNL kk ks && eqNL ks ks' && !Nat.beq M A && es.all (fun e => keyOk ks e.1 && ok e.2) then
            fN (H.next + 1 + nb * es.length) fun N => bif Nat.blt (N + 1) 1099511627776 && freeN H.h H.next (1 + nb * es.length) then
              match putA H A (.map ks (upsL es' es)) with
              | some H1 => some ⟨H1.h, N⟩
              | none => none
            else none
          else none
        | _ => none
      | _ => none
    | _ => none
  | _ => none

theorem upsL_snoc (x : AV × AV) : ∀ (l e : List (AV × AV)), upsL e (l ++ [x]) = ups (upsL e l) x
  | [], e => rfl
  | y :: l, e => by simp only [List.cons_append, upsL]; exact upsL_snoc x l (ups e y)

open Classical in
theorem ups_perm {ks : List Nat} {e : List (AV × AV)} {x : AV × AV} (hk : keyOk ks x.1 = true) (hd : e.Pairwise (fun a b => a.1 ≠ b.1)) : (ups e x).Perm (x :: e.filter (fun y => decide (y.1 ≠ x.1))) := by
  obtain ⟨k, v⟩ := x
  unfold ups
  split
  · rename_i r hr
    obtain ⟨e1, v0, e2, rfl, rfl⟩ := setA_some hr
    rw [List.pairwise_append, List.pairwise_cons] at hd
    have h1 : e1.filter (fun y => decide (y.1 ≠ k)) = e1 := List.filter_eq_self.2 fun y hy => by
      simpa using hd.2.2 y hy (k, v0) (List.mem_cons_self ..)
    have h2 : e2.filter (fun y => decide (y.1 ≠ k)) = e2 := List.filter_eq_self.2 fun y hy => by
      have := hd.2.1.1 y hy
      simpa using fun h => this h.symm
    rw [List.filter_append, List.filter_cons]
    simp only [ne_eq, not_true_eq_false, decide_false, Bool.false_eq_true, if_false]
    simp only [ne_eq] at h1 h2
    rw [h1, h2]
    exact List.perm_middle
  · rename_i hr
    have hn := setA_none hk hr
    have h1 : e.filter (fun y => decide (y.1 ≠ k)) = e := List.filter_eq_self.2 fun y hy => by simpa using hn y hy
    simp only [ne_eq] at h1 ⊢
    rw [h1]
    exact List.perm_append_comm

theorem pw_perm {l m : List (AV × AV)} (h : l.Perm m) (hl : l.Pairwise (fun a b => a.1 ≠ b.1)) : m.Pairwise (fun a b => a.1 ≠ b.1) :=
  (List.Perm.pairwise_iff (fun h e => h e.symm) h).1 hl

open Classical in
theorem upsL_perm {ks : List Nat} {e : List (AV × AV)} (hd : e.Pairwise (fun a b => a.1 ≠ b.1)) : ∀ (n : Nat) (l : List (AV × AV)), l.length = n → (∀ x ∈ l, keyOk ks x.1 = true) → l.Pairwise (fun a b => a.1 ≠ b.1) →
    (upsL e l).Perm (l ++ e.filter (fun y => decide (∀ x ∈ l, y.1 ≠ x.1))) ∧ (upsL e l).Pairwise (fun a b => a.1 ≠ b.1) := by
  intro n
  induction n with
  | zero =>
    intro l hl hk hp
    have : l = [] := List.eq_nil_of_length_eq_zero hl
    subst this
    refine ⟨?_, hd⟩
    rw [List.filter_eq_self.2 (fun y _ => by simp)]
    simp [upsL]
  | succ n ih =>
    intro l hl hk hp
    rcases List.eq_nil_or_concat l with rfl | ⟨l, x, rfl⟩
    · simp at hl
    · simp only [List.concat_eq_append] at hl hk hp ⊢
      rw [List.pairwise_append] at hp
      obtain ⟨i1, i2⟩ := ih l (by simp at hl; omega) (fun y hy => hk y (by simp [hy])) hp.1
      have h1 := ups_perm (hk x (by simp)) i2
      rw [upsL_snoc]
      have h2 : (upsL e l).filter (fun y => decide (y.1 ≠ x.1)) |>.Perm ((l ++ e.filter (fun y => decide (∀ z ∈ l, y.1 ≠ z.1))).filter (fun y => decide (y.1 ≠ x.1))) := i1.filter _
      have h3 : (l ++ e.filter (fun y => decide (∀ z ∈ l, y.1 ≠ z.1))).filter (fun y => decide (y.1 ≠ x.1)) = l ++ e.filter (fun y => decide (∀ z ∈ l ++ [x], y.1 ≠ z.1)) := by
        rw [List.filter_append, List.filter_filter]
        congr 1
        · exact List.filter_eq_self.2 fun y hy => by simpa using hp.2.2 y hy x (by simp)
        · apply List.filter_congr
          intro y _
          rw [Bool.eq_iff_iff]
          simp only [Bool.and_eq_true, decide_eq_true_eq, List.mem_append, List.mem_singleton]
          constructor
          · rintro ⟨h1, h2⟩ z (hz | rfl)
            · exact h2 z hz
            · exact h1
          · intro h
            exact ⟨h x (.inr rfl), fun z hz => h z (.inl hz)⟩
      have h4 : (ups (upsL e l) x).Perm ((l ++ [x]) ++ e.filter (fun y => decide (∀ z ∈ l ++ [x], y.1 ≠ z.1))) := by
        refine h1.trans ?_
        refine ((h2.trans (List.Perm.of_eq h3)).cons x).trans ?_
        rw [List.append_assoc]
        exact List.perm_middle.symm
      refine ⟨h4, ?_⟩
      refine pw_perm h1.symm ?_
      rw [List.pairwise_cons]
      refine ⟨fun y hy => ?_, List.Pairwise.filter _ i2⟩
      have := (List.mem_filter.1 hy).2
      simp only [ne_eq, decide_eq_true_eq] at this
      exact fun h => this h.symm

open Classical in
theorem upsL_same {ks : List Nat} {e l m : List (AV × AV)} (hd : e.Pairwise (fun a b => a.1 ≠ b.1)) (hk : ∀ x ∈ l, keyOk ks x.1 = true) (hl : l.Pairwise (fun a b => a.1 ≠ b.1)) (h : l.Perm m) : (upsL e l).Perm (upsL e m) := by
  obtain ⟨h1, _⟩ := upsL_perm hd _ l rfl hk hl
  obtain ⟨h2, _⟩ := upsL_perm (ks := ks) hd _ m rfl (fun x hx => hk x (h.symm.subset hx)) (pw_perm h hl)
  refine h1.trans (List.Perm.trans ?_ h2.symm)
  have : e.filter (fun y => decide (∀ x ∈ l, y.1 ≠ x.1)) = e.filter (fun y => decide (∀ x ∈ m, y.1 ≠ x.1)) := by
    apply List.filter_congr
    intro y _
    congr 1
    apply propext
    exact ⟨fun a x hx => a x (h.symm.subset hx), fun a x hx => a x (h.subset hx)⟩
  rw [this]
  exact h.append_right _

theorem MR.perm {R : Ren} {es es' : List (AV × AV)} {l : List MapEntry} (h : MR R es l) (hp : es.Perm es') : MR R es' l := by
  obtain ⟨ps, h1, h2, h3⟩ := h.pairs
  subst h1
  have key : ∀ {a b : List (AV × AV)}, a.Perm b → ∀ ps : List ((AV × AV) × MapEntry), ps.map (·.1) = a → ∃ qs : List ((AV × AV) × MapEntry), qs.map (·.1) = b ∧ qs.Perm ps := by
    intro a b hab
    induction hab with
    | nil => intro ps h; exact ⟨ps, h, .refl _⟩
    | cons x _ ih =>
      intro ps h
      cases ps with
      | nil => simp at h
      | cons p ps =>
        simp only [List.map_cons, List.cons.injEq] at h
        obtain ⟨qs, a1, a2⟩ := ih ps h.2
        exact ⟨p :: qs, by simp [a1, h.1], a2.cons p⟩
    | swap x y l =>
      intro ps h
      match ps, h with
      | p :: q :: ps, h =>
        simp only [List.map_cons, List.cons.injEq] at h
        exact ⟨q :: p :: ps, by simp [h.1, h.2.1, h.2.2], List.Perm.swap ..⟩
    | trans _ _ ih1 ih2 =>
      intro ps h
      obtain ⟨qs, a1, a2⟩ := ih1 ps h
      obtain ⟨rs, b1, b2⟩ := ih2 qs a1
      exact ⟨rs, b1, b2.trans a2⟩
  obtain ⟨qs, a1, a2⟩ := key hp ps rfl
  refine ⟨qs.map (·.2), (a2.map _).trans h2, ?_⟩
  subst a1
  have h3' : ∀ p ∈ qs, VR R p.1.1 p.2.key ∧ VR R p.1.2 p.2.val := fun p hp => h3 p (a2.subset hp)
  clear a2 h3 h2 hp key h
  induction qs with
  | nil => simp [VRL]
  | cons q qs ih =>
    obtain ⟨i1, i2⟩ := ih (fun p hp => h3' p (List.mem_cons_of_mem _ hp))
    obtain ⟨j1, j2⟩ := h3' q (List.mem_cons_self ..)
    exact ⟨⟨_, _, rfl, j1, i1⟩, ⟨_, _, rfl, j2, i2⟩⟩

theorem putA_eq {H H' : AH} {A : Nat} {o : AObj} (h : putA H A o = some H') : ∃ t, T.set 40 H.h A o = some t ∧ H' = ⟨t, H.next⟩ := by
  unfold putA at h
  split at h
  · rename_i t ht
    injection h with h
    exact ⟨t, ht, h.symm⟩
  · simp at h

/-- What a round has to do. -/
def UpRound (q : ML) (B : Tb) (D : Dyn) (n nt : Nat) (hb : Hint) (L : List Nat) (vs : List AV) (H : AH) (ks : List Nat) (nb : Nat) (ok : AV → Bool) (M A : Nat) : Prop :=
  ∀ k v Hk e0, ok v = true → (∀ C, C < H.next → C ≠ M → C ≠ A → Hk.h.get C = H.h.get C) → Hk.h.get A = some (.map ks e0) → keyOk ks k = true → H.next < Hk.next → (∀ C, Hk.next ≤ C → C < Hk.next + nb → Hk.h.get C = none) → Hk.next + nb + 1 < 1099511627776 → A < H.next →
    ∃ H3, q.roundK B D n nt hb L H.next vs k v Hk = some (.norm (.ptr H.next 0 :: vs), H3) ∧ H3.next = Hk.next + nb ∧ H3.h.get A = some (.map ks (ups e0 (k, v))) ∧ ∀ C, C ≠ A → (C < Hk.next ∨ Hk.next + nb ≤ C) → H3.h.get C = Hk.h.get C

theorem up_plan {q : ML} {B : Tb} {D : Dyn} {n nt : Nat} {hb : Hint} {L : List Nat} {vs : List AV} {H H' : AH} {kk : List Nat} {nb : Nat} {ok : AV → Bool} {M A : Nat} (h : upLp kk nb ok (.map M) (.map A) H = some H') (hpre : q.preK B D nt L vs H = some (.norm (.map M :: vs), H))
    (hrd : UpRound q B D n nt hb L vs H kk nb ok M A) (hlt : M < H.next) (hlA : A < H.next) (hin : ∀ R0 w0, Rel R0 H w0 → (∀ v ∈ vs, ∃ z, VR R0 v z) → ∃ b d c, R0 A b d c) : Nonempty (q.Plan B D n nt hb L vs H H') := by
  unfold upLp at h
  simp only at h
  split at h
  · rename_i ks es hM
    split at h
    · rename_i ks' es' hA
      rw [cond_eq_ite] at h
      split at h
      · rename_i hc
        simp only [Bool.and_eq_true, Bool.not_eq_true', List.all_eq_true] at hc
        obtain ⟨⟨⟨hkk, hks⟩, hne⟩, hkeys⟩ := hc
        have hkk := eqNL_eq _ _ hkk
        subst hkk
        have hks := eqNL_eq _ _ hks
        subst hks
        have hne : M ≠ A := fun e => by rw [e] at hne; simp at hne
        rw [fN_eq, cond_eq_ite] at h
        split at h
        · rename_i hc2
          simp only [Bool.and_eq_true, Nat.blt_eq] at hc2
          obtain ⟨hroom, hfree⟩ := hc2
          have hfree := freeN_ok hfree
          split at h
          · rename_i H1 hput
            injection h with h
            obtain ⟨t1, ht1, rfl⟩ := putA_eq hput
            have hg1 := T.get_set _ _ _ _ _ ht1
            have hnx : H'.next = H.next + 1 + nb * es.length := by rw [← h]
            have hgt : ∀ C, H'.h.get C = if C = A then some (.map kk (upsL es' es)) else H.h.get C := by rw [← h]; exact hg1
            refine ⟨{ M := M, ks := kk, es := es, inv := fun vis Hk => Hk.next = H.next + 1 + nb * vis.length ∧ Hk.h.get A = some (.map kk (upsL es' vis)) ∧ (∀ C, C < H.next → C ≠ M → C ≠ A → Hk.h.get C = H.h.get C) ∧ ∀ C, Hk.next ≤ C → Hk.h.get C = H.h.get C, pre := hpre, room := by omega, map := hM, start := ?_, step := ?_, raw := ?_, fin := ?_ }⟩
            · intro x y s1 s2 hs1 hs2
              have g1 := T.get_set _ _ _ _ _ hs1
              have g2 := T.get_set _ _ _ _ _ hs2
              refine ⟨by simp, ?_, fun C h1 h2 h3 => ?_, fun C h1 => ?_⟩
              · simp only [g2, g1]
                rw [if_neg (by omega), if_neg (Ne.symm hne)]; exact hA
              · simp only [g2, g1]
                rw [if_neg (by omega), if_neg h2]
              · simp only at h1
                simp only [g2, g1]
                rw [if_neg (by omega), if_neg (by omega)]
            · intro vis k v rest Hk ⟨i1, i2, i3, i4⟩ hperm
              have hlen : vis.length + 1 + rest.length = es.length := by have := hperm.length_eq; simp at this; omega
              have hmul : nb * (vis.length + 1) ≤ nb * es.length := Nat.mul_le_mul_left _ (by omega)
              rw [Nat.mul_add, Nat.mul_one] at hmul
              obtain ⟨H3, r1, r2, r3, r4⟩ := hrd k v Hk (upsL es' vis) (hkeys (k, v) (hperm.subset (by simp))).2 i3 i2 (hkeys (k, v) (hperm.subset (by simp))).1 (by omega) (fun C h1 h2 => by rw [i4 C h1]; exact hfree C (by omega) (by omega)) (by omega) hlA
              refine ⟨H3, r1, r4 _ (by omega) (.inl (by omega)), r4 _ hne (.inl (by omega)), ?_, ?_, fun C h1 h2 h3 => ?_, fun C h1 => ?_⟩
              · rw [r2, i1, List.length_append, List.length_singleton, Nat.mul_add, Nat.mul_one]; omega
              · rw [r3, upsL_snoc]
              · rw [r4 C h3 (.inl (by omega))]; exact i3 C h1 h2 h3
              · rw [r4 C (by omega) (.inr (by omega))]; exact i4 C (by omega)
            · intro vis Hk y t' ⟨i1, i2, i3, i4⟩ hs
              have g1 := T.get_set _ _ _ _ _ hs
              refine ⟨i1, ?_, fun C h1 h2 h3 => ?_, fun C h1 => ?_⟩
              · simp only [g1]; rw [if_neg (by omega)]; exact i2
              · simp only [g1]; rw [if_neg (by omega)]; exact i3 C h1 h2 h3
              · simp only at h1
                simp only [g1]; rw [if_neg (by omega)]; exact i4 C h1
            · intro vis Hk t1' t2 ⟨i1, i2, i3, i4⟩ hperm hs1 hs2 R0 w0 R w hR0 hvs hMR hsub hR
              have g1 := T.get_set _ _ _ _ _ hs1
              have g2 := T.get_set _ _ _ _ _ hs2
              have hlen : vis.length = es.length := hperm.length_eq
              obtain ⟨bA, dA, cA, hAR⟩ := hin R0 w0 hR0 hvs
              obtain ⟨bM, dM, cM, hMR⟩ := hMR
              have e0 : ∀ C, C ≠ A → ∀ o, H'.h.get C = some o → t2.get C = some o := by
                intro C hC o ho
                rw [hgt, if_neg hC] at ho
                rw [g2, g1]
                by_cases c1 : C = H.next
                · subst c1
                  rw [hfree _ (Nat.le_refl _) (by omega)] at ho; simp at ho
                · rw [if_neg c1]
                  by_cases c2 : C = M
                  · subst c2; rw [if_pos rfl]; rw [hM] at ho; exact ho
                  · rw [if_neg c2]
                    by_cases c3 : C < H.next
                    · rw [i3 C c3 c2 hC]; exact ho
                    · by_cases c4 : C < H.next + (1 + nb * es.length)
                      · rw [hfree C (by omega) c4] at ho; simp at ho
                      · rw [i4 C (by rw [i1, hlen]; omega)]; exact ho
              have eA : t2.get A = some (.map kk (upsL es' vis)) := by
                rw [g2, g1, if_neg (by omega), if_neg (Ne.symm hne)]; exact i2
              have hlive : ∀ C, Live H' C → Live ⟨t2, Hk.next⟩ C := by
                intro C ⟨o, ho, hd⟩
                by_cases c : C = A
                · subst c; exact ⟨_, eA, trivial⟩
                · exact ⟨o, e0 C c o ho, hd⟩
              refine ⟨⟨hR.fn, fun A1 A2 b d c d' c' r r' l l' => hR.inj _ _ _ _ _ _ _ r r' (hlive _ l) (hlive _ l'), fun C b d c o r ho => ?_, fun C b d c r => ⟨(hR.lt _ _ _ _ r).1, by have := (hR.lt _ _ _ _ r).2; simp only at this; rw [hnx]; rw [i1, hlen] at this; exact this⟩⟩, by rw [hnx, i1, hlen], fun C hC hn => ?_⟩
              · by_cases c0 : C = A
                · subst c0
                  rw [hgt, if_pos rfl] at ho; injection ho with ho; subst ho
                  obtain ⟨arr, clock, o1, o2, o3, o4, o5⟩ := hR.obj _ _ _ _ _ r eA
                  obtain ⟨_, _, _, _, _, pwA, _⟩ := hR0.obj _ _ _ _ _ hAR hA
                  obtain ⟨_, _, _, _, kM, pwM, _⟩ := hR0.obj _ _ _ _ _ hMR hM
                  have hp := upsL_same (ks := kk) pwA (fun x hx => kM x (hperm.subset hx)) (pw_perm hperm.symm pwM) hperm
                  exact ⟨arr, clock, o1, o2.perm hp, fun e he => o3 e (hp.symm.subset he), pw_perm hp o4, o5⟩
                · exact hR.obj _ _ _ _ _ r (e0 C c0 o ho)
              · rw [hgt, if_neg (fun e => by subst e; exact hn _ _ _ hAR)]
          · simp at h
        · simp at h
      · simp at h
    · simp at h
  · simp at h
end Go.Eng
end
section
namespace Go.Eng

def subC : List Nat → Code → Code
  | [], c => c
  | 0 :: p, .seq a _ => subC p a
  | _ :: p, .seq _ b => subC p b
  | 0 :: p, .cond _ a _ => subC p a
  | _ :: p, .cond _ _ b => subC p b
  | _ :: p, .block _ b => subC p b
  | _ :: p, .loop b => subC p b
  | _, c => c
def bodyAt (fn : Func) (p : List Nat) : Code := match fn.body with
  | some b => subC p b
  | none => .skip
def initL {α : Type} : List α → List α
  | [] => []
  | [_] => []
  | a :: l => a :: initL l
def lastL {α : Type} (d : α) : List α → α
  | [] => d
  | [a] => a
  | _ :: l => lastL d l
def op0 : Oper := ⟨none, .alloc 0, 0, "", #[], none⟩
def ml0 : ML := ⟨0, 0, 0, [], op0, op0, op0, op0, [], 0, 0, .skip, 0, .tmp 0, 0, 0, 0, 0⟩
def rangeOf : Op → TypeId × Operand
  | .range t x => (t, x)
  | _ => (0, .tmp 0)
/-- A loop over a map, read off a text. -/
def mlOf : Code → ML
  | .seq (.region rA opsA _) (.block id (.loop (.seq (.region rB opsB _) (.seq (.cond (.tmp ok) .skip (.exit _)) (.block id2 (.seq (.region rC opsC _) body)))))) =>
    match opsB.toList, opsC.toList with
    | [oN, oX], oE :: rest =>
      let oR := lastL op0 opsA.toList
      ⟨rA, rB, rC, initL opsA.toList, oR, oN, oX, oE, rest, id, id2, body, (rangeOf oR.op).1, (rangeOf oR.op).2, oR.dst.getD 0, oN.dst.getD 0, ok, oE.dst.getD 0⟩
    | _, _ => ml0
  | _ => ml0

/-- Where code is told. -/
def tolds : Code → Hint → List (Code × List Nat × (List AV → AH → Option AH))
  | .seq a b, .t L m => [(.seq a b, L, m)]
  | .seq a b, .s ha hb => tolds a ha ++ tolds b hb
  | .cond _ a b, .c _ ha hb => tolds a ha ++ tolds b hb
  | .cond _ a b, .cl ha hb => tolds a ha ++ tolds b hb
  | .cond _ a b, .cr ha hb => tolds a ha ++ tolds b hb
  | .block _ b, .b _ hb => tolds b hb
  | .block _ b, .b0 hb => tolds b hb
  | .loop b, .l _ hb => tolds b hb
  | _, _ => []
def noRT : Hint → Bool
  | .o => true
  | .s a b => noRT a && noRT b
  | .c _ a b => noRT a && noRT b
  | .cl a b => noRT a && noRT b
  | .cr a b => noRT a && noRT b
  | .b _ a => noRT a
  | .b0 a => noRT a
  | .l _ a => noRT a
  | .rf _ _ => false
  | .t _ _ => true
theorem noRT_ok {P : Program} (f0 : FuncId) (nt : Nat) : ∀ (c : Code) (h : Hint), noRT h = true → (∀ x ∈ tolds c h, ToldOk P nt f0 x.1 x.2.1 x.2.2) → SitesP P f0 nt c h := by
  intro c
  induction c with
  | seq a b iha ihb =>
    intro h hh ht
    cases h <;> simp only [SitesP]
    · simp only [noRT, Bool.and_eq_true] at hh
      simp only [tolds, List.mem_append] at ht
      exact ⟨iha _ hh.1 (fun x hx => ht x (.inl hx)), ihb _ hh.2 (fun x hx => ht x (.inr hx))⟩
    · exact ht (.seq a b, _, _) (by simp [tolds])
  | cond c a b iha ihb =>
    intro h hh ht
    cases h <;> simp only [SitesP] <;>
      (simp only [noRT, Bool.and_eq_true] at hh
       simp only [tolds, List.mem_append] at ht
       exact ⟨iha _ hh.1 (fun x hx => ht x (.inl hx)), ihb _ hh.2 (fun x hx => ht x (.inr hx))⟩)
  | block id b ih =>
    intro h hh ht
    cases h <;> simp only [SitesP] <;> first | exact ih _ hh ht | trivial
  | loop b ih =>
    intro h hh ht
    cases h <;> simp only [SitesP]
    exact ih _ hh ht
  | rangeFunc f ps a b _ _ => intro h hh ht; cases h <;> simp_all [SitesP, noRT]
  | _ => intro h hh ht; simp [SitesP]
def toldsF (fn : Func) (h : Hint) : List (Code × List Nat × (List AV → AH → Option AH)) := match fn.body with
  | some b => tolds b h
  | none => []
theorem sitesT_ok {f : FuncId} {fn : Func} {h : Hint} (hn : noRT h = true) (ht : ∀ x ∈ toldsF fn h, ToldOk PP fn.ntmps f x.1 x.2.1 x.2.2) : ∀ body, fn.body = some body → SitesP PP f fn.ntmps body h := by
  intro body hb
  refine noRT_ok _ _ _ _ hn (fun x hx => ht x ?_)
  unfold toldsF
  rw [hb]; exact hx

theorem up_told {X : Cx} (hX : Ok PP X) {q : ML} {nt : Nat} (hq : q.Fits nt) {L : List Nat} (hLd : ∀ l ∈ q.it :: L, l ≠ q.nx ∧ l ≠ q.ok ∧ l ≠ q.en) (hit : ∀ l ∈ L, l ≠ q.it) {hb : Hint} (hsb : noRF hb = true) {f0 : FuncId} {kt vt : TypeId} (hty : X.und q.t = some (.map kt vt)) {mf : List AV → AH → Option AH}
    (hpl : ∀ vs H H', mf vs H = some H' → Nonempty (q.Plan ⟨X, []⟩ dNone 0 nt hb L vs H H')) : ToldOk PP nt f0 q.code L mf :=
  mapLoop_ok (B := ⟨X, []⟩) (D := dNone) hX (good_of dNone_ok SOk.nil) hq hLd hit (noRF_ok _ _ _ _ hsb) hty hpl

/- What a round's reckoning comes to. -/
theorem newB_free {H : AH} (o : AObj) (h : H.h.get H.next = none) : ∃ t, T.set 40 H.h H.next o = some t ∧ ∀ K, newB H o K = K H.next ⟨t, H.next + 1⟩ := by
  obtain ⟨t, ht⟩ := Option.isSome_iff_exists.1 (T.set_some 40 H.h H.next o)
  exact ⟨t, ht, fun K => by simp only [newB, h, ht, fN_eq]⟩
theorem ld1_some {A o : Nat} {H : AH} {v : AV} (h : ld1 (.ptr A o) H = some v) : ∃ l e sz g, H.h.get A = some (.cells l e sz g) ∧ nth l o = some v := by
  unfold ld1 at h
  simp only at h
  split at h
  · rename_i l e sz g hA; exact ⟨l, e, sz, g, hA, h⟩
  · simp at h
theorem ld1_at {A o : Nat} {H : AH} {v : AV} {l : List AV} {e : TypeId} {sz : Nat} {g : Bool} (hA : H.h.get A = some (.cells l e sz g)) (h : nth l o = some v) : ld1 (.ptr A o) H = some v := by
  simp only [ld1, hA, h]
theorem in_cells {R : Ren} {H : AH} {w : World} (hR : Rel R H w) {A b d c : Nat} (hr : R A b d c) {l : List AV} {e : TypeId} {sz : Nat} {g : Bool} (hA : H.h.get A = some (.cells l e sz g)) {o M : Nat} (hn : nth l o = some (.map M)) : ∃ b d c, R M b d c := by
  obtain ⟨_, _, _, l', _, _, _, _, hl, _⟩ := hR.obj _ _ _ _ _ hr hA
  rw [nth_eq] at hn
  obtain ⟨v, _, hv⟩ := VRL.get _ _ hl _ _ hn
  obtain ⟨b, d, c, h, _⟩ := hv
  exact ⟨b, d, c, h⟩
theorem upLp_maps {kk : List Nat} {nb : Nat} {ok : AV → Bool} {M A : Nat} {H H' : AH} (h : upLp kk nb ok (.map M) (.map A) H = some H') : (∃ ks es, H.h.get M = some (.map ks es)) ∧ ∃ ks es, H.h.get A = some (.map ks es) := by
  unfold upLp at h
  simp only at h
  split at h
  · rename_i hM
    split at h
    · rename_i hA; exact ⟨⟨_, _, hM⟩, _, _, hA⟩
    · simp at h
  · simp at h
theorem upM_put {ks : List Nat} {A : Nat} {k v : AV} {H : AH} {e0 : List (AV × AV)} (hk : keyOk ks k = true) (hA : H.h.get A = some (.map ks e0)) : ∃ t, T.set 40 H.h A (.map ks (ups e0 (k, v))) = some t ∧ upM ks (.map A) k v H = some (undefA, ⟨t, H.next⟩) := by
  obtain ⟨t, ht⟩ := Option.isSome_iff_exists.1 (T.set_some 40 H.h A (.map ks (ups e0 (k, v))))
  refine ⟨t, ht, ?_⟩
  have he : eqNL ks ks = true := by
    clear ht hA hk
    induction ks with
    | nil => rfl
    | cons a l ih => simp [eqNL, ih]
  simp only [upM, hk, hA, he, cond_true]
  unfold ups at ht
  simp only at ht
  cases hs : setA k v e0 with
  | some r => rw [hs] at ht; simp only [putA, ht]
  | none => rw [hs] at ht; simp only [putA, ht]
/-- A struct of so many cells. -/
def isAg (n : Nat) (v : AV) : Bool := match v with
  | .agg l => Nat.beq (lenL l 0) n && allCells l
  | _ => false
def anyV (_ : AV) : Bool := true
theorem isAg_some {n : Nat} {v : AV} (h : isAg n v = true) : ∃ l, v = .agg l ∧ l.length = n ∧ allCells l = true := by
  unfold isAg at h
  split at h
  · rename_i l
    simp only [Bool.and_eq_true, Nat.beq_eq, lenL_zero] at h
    exact ⟨l, rfl, h.1, h.2⟩
  · simp at h
theorem takeN_all : ∀ (l : List AV), takeN l.length l = some l
  | [] => rfl
  | a :: l => by simp [takeN, takeN_all l]
theorem setAt_all {l c : List AV} (h : c.length = l.length) : setAt c 0 l = some l := by
  have : ∀ (c l : List AV), c.length = l.length → over c l = some l := by
    intro c
    induction c with
    | nil => intro l h; cases l with
      | nil => rfl
      | cons => simp at h
    | cons a c ih => intro l h; cases l with
      | nil => simp at h
      | cons b l => simp only [List.length_cons, Nat.add_right_cancel_iff] at h; simp [over, ih l h]
  cases c with
  | nil => cases l with
    | nil => rfl
    | cons => simp at h
  | cons a c => simpa [setAt] using this (a :: c) l h
theorem stN_own {n A : Nat} {H : AH} {cs l : List AV} {e : TypeId} {sz : Nat} {g : Bool} (hA : H.h.get A = some (.cells l e sz g)) (hl : l.length = n) (hc : cs.length = n) (ha : allCells cs = true) (hz : Nat.blt 0 sz = true) : ∃ t, T.set 40 H.h A (.cells cs e sz g) = some t ∧ stN n (.ptr A 0) (.agg cs) H = some (undefA, ⟨t, H.next⟩) := by
  obtain ⟨t, ht⟩ := Option.isSome_iff_exists.1 (T.set_some 40 H.h A (.cells cs e sz g))
  refine ⟨t, ht, ?_⟩
  have hb : (cs.length.beq n) = true := by rw [Nat.beq_eq]; exact hc
  simp only [stN, hA, cellsA, lenL_zero, hb, ha, hz, Bool.and_true, cond_true, setAt_all (show l.length = cs.length by omega), putA, ht]
theorem ldN_own {n A : Nat} {H : AH} {cs : List AV} {e : TypeId} {sz : Nat} {g : Bool} (hA : H.h.get A = some (.cells cs e sz g)) (hc : cs.length = n) : ldN n (.ptr A 0) H = some (.agg cs) := by
  subst hc
  have : subN cs 0 cs.length = some cs := by
    cases cs with
    | nil => rfl
    | cons a l => simpa [subN] using takeN_all (a :: l)
  simp only [ldN, hA, this]
end Go.Eng
end
section
namespace Go.Proofs
open Go.Shelf
def Try.laysInsert_ren : Go.Shelf.Ren := ⟨fun | 22 => 45 | 29 => 58 | 30 => 59 | 36 => 62 | 17 => 63 | n => n, fun | 24 => 25 | 9 => 9 | 3 => 3 | 4 => 4 | 0 => 0 | n => n, fun | n => n⟩
theorem Try.laysInsert : Go.Proofs.Lays2.n22 Try.prog Try.laysInsert_ren := {
  mixed := by kernel_rfl
  f17 := Try.func63.trans (congrArg some (by kernel_rfl))
  f22 := Try.func45.trans (congrArg some (by kernel_rfl))
  f29 := Try.func58.trans (congrArg some (by kernel_rfl))
  f30 := Try.func59.trans (congrArg some (by kernel_rfl))
  f36 := Try.func62.trans (congrArg some (by kernel_rfl))
  t0 := Try.underlying0
  a0 := Try.isAgg0
  z0 := Try.sizeOf0
  v0 := Try.zeroValue0
  t3 := Try.underlying3
  a3 := Try.isAgg3
  z3 := Try.sizeOf3
  v3 := Try.zeroValue3
  t4 := Try.underlying4
  a4 := Try.isAgg4
  z4 := Try.sizeOf4
  v4 := Try.zeroValue4
  t9 := Try.underlying9
  a9 := Try.isAgg9
  z9 := Try.sizeOf9
  v9 := Try.zeroValue9
  t24 := Try.underlying25
  a24 := Try.isAgg25
  z24 := Try.sizeOf25
  v24 := Try.zeroValue25
  i9 := by kernel_rfl }
end Go.Proofs
end
section
namespace Go.Eng
open Go.Proofs

/-- An insertion into a row that grows. -/
noncomputable def insT (e : Nat) (vs : List AV) (H : AH) : Option (AV × AH) :=
  match vs with
  | [.slice A off len cc, .int .i64 (.ofNat i), .slice B o2 m _] =>
    match H.h.get A, H.h.get B with
    | some (.cells l e' sz g), some (.cells lB _ sB gB) =>
      bif g && (!gB && Nat.blt 0 sB) && Nat.beq off 0 && Nat.beq cc 1 && Nat.beq sz 1 && Nat.beq e' e && Nat.blt i len && Nat.blt 0 m && Nat.beq (lenL l 0) len && Nat.ble ((len + m) * 16) 140737488355328 && allCells l then
        match subN lB o2 m with
        | some new => bif allCells new then
            match putA H A .dead with
            | some H1 => agrow (len + m) e 1 (l.take i ++ new ++ l.drop i) H1
            | none => none
          else none
        | none => none
      else none
    | _, _ => none
  | _ => none

theorem setCells_wput (b : Nat) (e : TypeId) (fz : Nat × Nat) : ∀ (vs : List Value) (o : Nat) (w : World) (arr : Array Value), w.heap[b]? = some (.cells arr e fz) → w.setCells b o vs = wput w b (.cells (arrSet arr o vs) e fz)
  | [], o, w, arr, h => by simp only [World.setCells, arrSet]; exact (wput_self w b _ h).symm
  | v :: vs, o, w, arr, h => by
    have hb : b < w.heap.size := (Array.getElem?_eq_some_iff.1 h).1
    have h1 : w.setCell ⟨b, o, none⟩ v = wput w b (.cells (arr.setIfInBounds o v) e fz) := by
      have hg : w.heap[b] = .cells arr e fz := by
        have := (Array.getElem?_eq_some_iff.1 h).2; exact this
      unfold World.setCell wput
      congr 1
      apply Array.ext
      · simp
      · intro j h2 h3
        simp only [Array.size_modify] at h2
        rw [Array.getElem_modify, Array.getElem_setIfInBounds]
        · by_cases hj : b = j
          · subst hj; simp [hg]
          · simp [hj]
        · exact h2
    rw [World.setCells, h1, setCells_wput b e fz vs (o + 1) _ (arr.setIfInBounds o v) (wput_same _ _ _ hb), wput_wput]
    rfl
theorem wput_alloc (w : World) (o x : Obj) : wput (w.alloc o) w.heap.size x = w.alloc x := by
  unfold wput World.alloc
  congr 1
  apply Array.ext
  · simp
  · intro j h2 h3
    simp at h2 h3
    rw [Array.getElem_setIfInBounds]
    · by_cases hj : w.heap.size = j
      · subst hj; simp
      · have : j < w.heap.size := by omega
        simp only [if_neg hj]
        rw [Array.getElem_push, Array.getElem_push, dif_pos this, dif_pos this]
    · simp; omega
theorem oneCell_of {v : Value} (h : oneV v) : v.oneCell' = true := by cases v <;> simp_all [oneV, Value.oneCell']

theorem shiftL {α : Type} {pre l spare vs : List α} {d i m n : Nat} (hd : pre.length = d) (hn : l.length = n) (hi : i ≤ n) (hv : vs.length = m) (hs : m ≤ spare.length) :
    ((pre ++ (l ++ spare)).take (d + (i + m)) ++ l.drop i ++ (pre ++ (l ++ spare)).drop (d + (i + m) + (l.drop i).length)).take (d + i) ++ vs ++ ((pre ++ (l ++ spare)).take (d + (i + m)) ++ l.drop i ++ (pre ++ (l ++ spare)).drop (d + (i + m) + (l.drop i).length)).drop (d + i + vs.length) = pre ++ ((l.take i ++ vs ++ l.drop i) ++ spare.drop m) := by
  have hY : ((pre ++ (l ++ spare)).take (d + (i + m))).length = d + i + m := by simp; omega
  have e1 : ((pre ++ (l ++ spare)).take (d + (i + m)) ++ l.drop i ++ (pre ++ (l ++ spare)).drop (d + (i + m) + (l.drop i).length)).take (d + i) = pre ++ l.take i := by
    rw [List.append_assoc, List.take_append_of_le_length (by omega), List.take_take, Nat.min_eq_left (by omega), List.take_append, List.take_of_length_le (by omega), List.take_append, show d + i - pre.length = i from by omega, show i - l.length = 0 from by omega]
    simp
  have e2 : ((pre ++ (l ++ spare)).take (d + (i + m)) ++ l.drop i ++ (pre ++ (l ++ spare)).drop (d + (i + m) + (l.drop i).length)).drop (d + i + vs.length) = l.drop i ++ spare.drop m := by
    rw [List.append_assoc, List.drop_left' (by omega)]
    congr 1
    rw [List.length_drop, List.drop_append, List.drop_eq_nil_of_le (by omega), List.drop_append, List.drop_eq_nil_of_le (by omega), show d + (i + m) + (l.length - i) - pre.length - l.length = m from by omega]
    simp
  rw [e1, e2]; simp
theorem growL {α : Type} {a z1 z2 vs r : List α} {i m k : Nat} (ha : a.length = i) (hz : z1.length = m + k) (hv : vs.length = m) (hr : r.length = k) :
    ((a ++ z1 ++ z2).take i ++ vs ++ (a ++ z1 ++ z2).drop (i + vs.length)).take (i + m) ++ r ++ ((a ++ z1 ++ z2).take i ++ vs ++ (a ++ z1 ++ z2).drop (i + vs.length)).drop (i + m + r.length) = (a ++ vs ++ r) ++ z2 := by
  have e0 : (a ++ z1 ++ z2).take i = a := by rw [List.append_assoc, List.take_left' ha]
  have e3 : (a ++ z1 ++ z2).drop (i + vs.length) = z1.drop m ++ z2 := by
    rw [List.append_assoc, List.drop_append, List.drop_eq_nil_of_le (by omega), List.drop_append, show i + vs.length - a.length = m from by omega, show m - z1.length = 0 from by omega]; simp
  rw [e0, e3]
  have e1 : (a ++ vs ++ (z1.drop m ++ z2)).take (i + m) = a ++ vs := List.take_left' (by simp; omega)
  have e2 : (a ++ vs ++ (z1.drop m ++ z2)).drop (i + m + r.length) = z2 := by
    rw [← List.append_assoc, List.drop_left' (by simp; omega)]
  rw [e1, e2]

theorem insT_ok {R : Ren} {H H' : AH} {w : World} {args : List AV} {az : List Value} {v : AV} (h : insT (Try.laysInsert_ren.t 9) args H = some (v, H')) (hv : VRL R args az) (hL : Rel R H w) :
    H.next ≤ H'.next ∧ ∃ (z : Value) (w' : World) (R' : Ren), Calls PP (Try.laysInsert_ren.f 22) ⟨az⟩ w (fun e w1 => e = .returned z ∧ w1 = w') ∧ VR R' v z ∧ Rel R' H' w' ∧ Ext R H w R' H' w' := by
  unfold insT at h
  split at h
  · rename_i A off len cc i B o2 m c2
    split at h
    · rename_i l e' sz g lB eB szB gB hA hB
      rw [cond_eq_ite] at h
      split at h
      · rename_i hc
        simp only [Bool.and_eq_true, Nat.beq_eq, Nat.blt_eq, Nat.ble_eq, Bool.not_eq_true'] at hc
        obtain ⟨⟨⟨⟨⟨⟨⟨⟨⟨⟨rfl, rfl, hsB⟩, rfl⟩, rfl⟩, rfl⟩, rfl⟩, hi⟩, hm⟩, hll⟩, hbig⟩, hcl⟩ := hc
        rw [lenL_zero] at hll
        split at h
        · rename_i new hnew
          rw [cond_eq_ite] at h
          split at h
          · rename_i hcn
            split at h
            · rename_i H1 hput
              obtain ⟨t1, ht1, rfl⟩ : ∃ t1, T.set 40 H.h A .dead = some t1 ∧ H1 = ⟨t1, H.next⟩ := by
                unfold putA at hput
                split at hput
                · rename_i t1 ht1; simp only [Option.some.injEq] at hput; exact ⟨t1, ht1, hput.symm⟩
                · simp at hput
              unfold agrow at h
              split at h
              · rename_i A2 H2 hnw
                obtain ⟨t2, ht2, rfl, rfl, _⟩ := newA_eq hnw
                simp only [fN_eq, Option.some.injEq, Prod.mk.injEq] at h
                obtain ⟨rfl, rfl⟩ := h
                refine ⟨Nat.le_succ _, ?_⟩
                obtain ⟨v1, az1, rfl, hv1, hv⟩ := hv
                obtain ⟨v2, az2, rfl, hv2, hv⟩ := hv
                obtain ⟨v3, az3, rfl, hv3, hv⟩ := hv
                simp only [VRL] at hv; subst hv
                obtain ⟨b, d, c, hR, rfl⟩ := hv1
                simp only [VR] at hv2; subst hv2
                obtain ⟨b2, d2, c2', hR2, rfl⟩ := hv3
                obtain ⟨arr, fz, pre, l', spare, a1, a2, a3, a4, a5, a6, a7, sp, a8⟩ := hL.cellsAt hA hR
                obtain ⟨arr2, fz2, pre2, lB', spare2, b1, b2', b3, b4, b5, b6, b7, _⟩ := hL.cellsAt hB hR2
                obtain ⟨rfl, hin⟩ := subN_eq _ _ _ _ hnew
                obtain ⟨a6, hc63⟩ := a6 rfl
                obtain ⟨rfl, hfz2⟩ := b5 rfl
                obtain rfl := hfz2.1 hsB
                have hdec : decap 1 c = c := by rw [decap_odd c (by omega)]; simp
                rw [hdec]
                have hne : b2 ≠ b := fun e => by
                  subst e
                  have := hL.inj _ _ _ _ _ _ _ hR hR2 (Rel.live hA) (Rel.live hB)
                  subst this; rw [hA] at hB; simp at hB
                have hl' := VRL.length _ _ a4
                have hlB := VRL.length _ _ b4
                have hvsR : VRL R ((lB.drop o2).take m) ((lB'.drop o2).take m) := (b4.drop o2).take m
                generalize hvs' : (lB'.drop o2).take m = vs' at hvsR
                have hvl : vs'.length = m := by rw [← hvs']; simp; omega
                have hal : arr.size = d + l'.length + spare.length := by
                  have := congrArg List.length a2
                  simp at this; omega
                have hget : ∀ j v, l'[j]? = some v → w.cell? ⟨b, d + 0 + j, none⟩ = some v := fun j v hj => by
                  simp only [World.cell?, a1]
                  have hj' := (List.getElem?_eq_some_iff.1 hj).1
                  rw [← Array.getElem?_toList, a2, List.getElem?_append_right (by omega), show d + 0 + j - pre.length = j from by omega, List.getElem?_append_left hj']
                  simpa using hj
                have hvs : ∀ j v, vs'[j]? = some v → w.cell? ⟨b2, d2 + o2 + j, none⟩ = some v := fun j v hj => by
                  simp only [World.cell?, b1]
                  have hj' := (List.getElem?_eq_some_iff.1 hj).1
                  rw [← hvs', List.getElem?_take, List.getElem?_drop] at hj
                  rw [← Array.getElem?_toList, b2', List.getElem?_append_right (by omega), show d2 + o2 + j - pre2.length = o2 + j from by omega, List.append_nil]
                  split at hj
                  · simpa using hj
                  · simp at hj
                have h1c : ∀ v ∈ l', v.oneCell' = true := fun v hv => oneCell_of (allCells_ok a4 hcl v hv)
                have h1v : ∀ v ∈ vs', v.oneCell' = true := fun v hv => oneCell_of (allCells_ok hvsR hcn v hv)
                have hcells : VRL R (l.take i ++ (lB.drop o2).take m ++ l.drop i) (l'.take i ++ vs' ++ l'.drop i) := ((a4.take i).append hvsR).append (a4.drop i)
                by_cases hroom : len + m ≤ c
                · have hcall := Any2.slices_Insert_string_shift Try.laysInsert b (d + 0) len c i b2 (d2 + o2) m (decap c2 c2') l' vs' w hi hm hroom (by omega) hne (by omega) hvl hget
                    (fun j hj => by
                      simp only [World.cell?, a1]
                      simp; omega)
                    (fun j hj => by
                      have := a7 (by decide) (d + 0 + j) (by omega)
                      simp only [World.frozen?, a1]
                      simp only [Bool.and_eq_false_iff, decide_eq_false_iff_not]
                      by_cases h0 : fz.1 ≤ d + 0 + j
                      · exact .inr fun h1 => this ⟨h0, h1⟩
                      · exact .inl h0)
                    hvs h1c h1v eB (Try.laysInsert_ren.t 9) arr2.size arr.size (by simp only [World.shape?, b1]) (by simp only [World.shape?, a1]) (by omega) (by simp only [World.frozen?, b1]; simp) (by simp only [World.frozen?, b1]; simp)
                  have hw1 : (w.drew).heap[b]? = some (.cells arr (Try.laysInsert_ren.t 9) fz) := a1
                  have hblt : b < w.heap.size := (hL.lt _ _ _ _ hR).1
                  rw [setCells_wput b _ fz _ _ _ _ hw1, setCells_wput b _ fz _ _ _ _ (wput_same w.drew _ _ hblt), wput_wput] at hcall
                  refine ⟨_, _, R.add H.next b d c, hcall, ⟨b, d, c, R.add_self _ _ _ _, by simp [hdec]⟩, ?_, ?_⟩
                  · refine (hL.drew (w.drawn + 1)).move hR (Rel.live hA) ht1 ht2 ?_
                    refine ⟨_, fz, pre, l'.take i ++ vs' ++ l'.drop i, spare.drop m, rfl, ?_, a3, VRL.mono (R.sub_add _ _ _ _) _ _ hcells, fun h => by simp at h, fun _ => ⟨?_, hc63⟩, fun hz j hj => ?_, _, VRL.mono (R.sub_add _ _ _ _) _ _ (a8.drop m)⟩
                    · rw [arrSet_toList _ _ _ (by rw [arrSet_size]; omega), arrSet_toList _ _ _ (by simp; omega), a2, Nat.add_zero]
                      exact shiftL a3 (by omega) (by omega) hvl (by omega)
                    · simp; omega
                    · rw [arrSet_size, arrSet_size] at hj; exact a7 hz j hj
                  · exact (Ext.drew R H w (w.drawn + 1)).trans (Ext.move (w := w.drew) hR ht1 ht2)
                · have hcall := Any2.slices_Insert_string_grow Try.laysInsert b (d + 0) len c i b2 (d2 + o2) m (decap c2 c2') l' vs' w hi hm (by omega) (by omega) hbig (by omega) hvl hget hvs h1c h1v
                  generalize hG : grownCap w (len + m) c (Try.laysInsert_ren.t 9) = G at hcall
                  have hG1 : len + m ≤ G := by rw [← hG]; simp only [grownCap, Question.cut]; omega
                  have hG2 : G < 9223372036854775808 := by
                    rw [← hG]; simp only [grownCap, Question.cut]
                    have := Nat.mod_lt (w.tape w.drawn (.appendCap (len + m) c (Try.laysInsert_ren.t 9))) (show 2 ^ 63 - (len + m) > 0 by omega)
                    omega
                  generalize hROW : ((l'.take i).toArray ++ Builtin.zeroCells (Value.string ⟨#[]⟩).cells (len + m - i) ++ Builtin.zeroCells (Value.string ⟨#[]⟩).cells (G - (len + m))) = ROW at hcall
                  have hRl : ROW.toList = l'.take i ++ (Builtin.zeroCells (Value.string ⟨#[]⟩).cells (len + m - i)).toList ++ (Builtin.zeroCells (Value.string ⟨#[]⟩).cells (G - (len + m))).toList := by rw [← hROW]; simp
                  have hz1 : (Builtin.zeroCells (Value.string ⟨#[]⟩).cells (len + m - i)).toList.length = m + (len - i) := by
                    rw [Array.length_toList, zeroCells_size]; simp [Value.cells]; omega
                  have hz2 : (Builtin.zeroCells (Value.string ⟨#[]⟩).cells (G - (len + m))).toList.length = G - (len + m) := by
                    rw [Array.length_toList, zeroCells_size]; simp [Value.cells]
                  have hRs : ROW.size = G := by
                    have := congrArg List.length hRl
                    simp only [List.length_append, hz1, hz2, List.length_take, Array.length_toList] at this
                    omega
                  have hw1 : ((w.alloc (.cells ROW (Try.laysInsert_ren.t 9))).drew).heap[w.heap.size]? = some (.cells ROW (Try.laysInsert_ren.t 9)) := heap_alloc_same w _
                  have hblt : w.heap.size < ((w.alloc (.cells ROW (Try.laysInsert_ren.t 9))).drew).heap.size := by
                    have := heap_alloc_size w (.cells ROW (Try.laysInsert_ren.t 9))
                    show w.heap.size < (w.alloc (.cells ROW (Try.laysInsert_ren.t 9))).heap.size
                    omega
                  rw [setCells_wput _ _ (0, 0) _ _ _ _ hw1] at hcall
                  have hw2 : ((wput (w.alloc (.cells ROW (Try.laysInsert_ren.t 9))).drew w.heap.size (.cells (arrSet ROW i vs') (Try.laysInsert_ren.t 9))).drew).heap[w.heap.size]? = some (.cells (arrSet ROW i vs') (Try.laysInsert_ren.t 9)) := wput_same _ _ _ hblt
                  rw [setCells_wput _ _ (0, 0) _ _ _ _ hw2] at hcall
                  have hwe : wput ((wput (w.alloc (.cells ROW (Try.laysInsert_ren.t 9))).drew w.heap.size (.cells (arrSet ROW i vs') (Try.laysInsert_ren.t 9))).drew) w.heap.size (.cells (arrSet (arrSet ROW i vs') (i + m) (l'.drop i)) (Try.laysInsert_ren.t 9))
                      = (w.drew.drew).alloc (.cells (arrSet (arrSet ROW i vs') (i + m) (l'.drop i)) (Try.laysInsert_ren.t 9)) := by
                    have e1 : (wput (w.alloc (.cells ROW (Try.laysInsert_ren.t 9))).drew w.heap.size (.cells (arrSet ROW i vs') (Try.laysInsert_ren.t 9))).drew = wput ((w.drew.drew).alloc (.cells ROW (Try.laysInsert_ren.t 9))) w.heap.size (.cells (arrSet ROW i vs') (Try.laysInsert_ren.t 9)) := rfl
                    rw [e1, wput_wput]
                    exact wput_alloc (w.drew.drew) _ _
                  rw [hwe] at hcall
                  refine ⟨_, _, R.add H.next w.heap.size 0 G, hcall, ⟨w.heap.size, 0, G, R.add_self _ _ _ _, by rw [decap_odd G (by omega)]; simp⟩, ?_, ?_⟩
                  · have hk : Rel R ⟨t1, H.next⟩ w.drew.drew := (hL.kill ht1).drew _
                    refine hk.new ht2 ?_
                    refine ⟨_, (0, 0), [], l'.take i ++ vs' ++ l'.drop i, (Builtin.zeroCells (Value.string ⟨#[]⟩).cells (G - (len + m))).toList, rfl, ?_, rfl, VRL.mono (R.sub_add _ _ _ _) _ _ hcells, fun h => by simp at h, fun _ => ⟨?_, hG2⟩, fun _ j _ => by simp, _, zeroCells_ok (ofV_ok _ (.string ⟨#[]⟩) (.str 0 0) rfl) _⟩
                    · rw [arrSet_toList _ _ _ (by rw [arrSet_size]; simp; omega), arrSet_toList _ _ _ (by omega), hRl, List.nil_append]
                      exact growL (by simp; omega) hz1 hvl (by simp; omega)
                    · rw [hz2]; simp; omega
                  · exact (Ext.kill hR ht1).trans ((Ext.drew R ⟨t1, H.next⟩ w (w.drawn + 2)).trans (Ext.add (w := w.drew.drew) ht2))
              · simp at h
            · simp at h
          · simp at h
        · simp at h
      · simp at h
    · simp at h
  · simp at h

/-- slices.Insert: its own text where that suffices; else the insertion into a row that grows. -/
noncomputable def insK (m : List AV → AH → Option (AV × AH)) (vs : List AV) (H : AH) : Option (AV × AH) := match m vs H with
  | some r => some r
  | none => insT (Try.laysInsert_ren.t 9) vs H
theorem insK_ok {f : FuncId} {m : List AV → AH → Option (AV × AH)} (hf : f = Try.laysInsert_ren.f 22) (hm : FI f m) : FI f (insK m) := by
  intro az H v H' h
  unfold insK at h
  split at h
  · rename_i r hr
    injection h with h; subst h
    exact hm az H v H' hr
  · have hnx : H.next ≤ H'.next := by
      unfold insT at h
      split at h
      · split at h
        · rw [cond_eq_ite] at h
          split at h
          · split at h
            · rw [cond_eq_ite] at h
              split at h
              · split at h
                · rename_i H1 hput
                  have e1 := putA_next hput
                  unfold agrow at h
                  split at h
                  · rename_i A2 H2 hnw
                    obtain ⟨t2, ht2, rfl, rfl, _⟩ := newA_eq hnw
                    simp only [fN_eq, Option.some.injEq, Prod.mk.injEq] at h
                    rw [← h.2]
                    show H.next ≤ H1.next + 1
                    omega
                  · simp at h
                · simp at h
              · simp at h
            · simp at h
          · simp at h
        · simp at h
      · simp at h
    subst hf
    refine ⟨hnx, ⟨_, Try.laysInsert.f22, rfl⟩, fun R zs cs w hv hL => ?_⟩
    obtain ⟨_, z, w', R', hc, h1, h2, h3⟩ := insT_ok h hv hL
    obtain ⟨e, w1, fr', ⟨rfl, rfl⟩, s1, s2, s3⟩ := hc cs
    exact ⟨R', w1, z, fr', s1, s2, s3, h1, h2, h3⟩
end Go.Eng
end
section
namespace Go.Eng
open Go.Proofs

/-- A map's copy. -/
noncomputable def clnK (m : List AV → AH → Option (AV × AH)) (vs : List AV) (H : AH) : Option (AV × AH) := match vs with
  | [.map M] => match H.h.get M with
    | some (.map ks es) => match T.get H.h H.next with
      | none => match T.set 40 H.h H.next (.map ks es) with
        | some t => fN (Nat.succ H.next) fun k => some (.map H.next, ⟨t, k⟩)
        | none => none
      | some _ => none
    | _ => none
  | vs => m vs H

theorem clnK_ok {f : FuncId} {m : List AV → AH → Option (AV × AH)} (hf : ∃ fn, PP.funcs[f]? = some fn ∧ fn.body.isSome = true)
    (hc : ∀ (b : Nat) (es : Array MapEntry) (clock : Nat) (w : World), w.heap[b]? = some (.map es clock) → Calls PP f #[.map (some b)] w fun e w' => e = .returned (.map (some w.heap.size)) ∧ w' = w.alloc (.map es clock))
    (hm : FI f m) : FI f (clnK m) := by
  intro az H v H' h
  unfold clnK at h
  split at h
  · rename_i M
    split at h
    · rename_i ks es hM
      split at h
      · split at h
        · rename_i t ht
          rw [fN_eq] at h
          simp only [Option.some.injEq, Prod.mk.injEq] at h
          obtain ⟨rfl, rfl⟩ := h
          refine ⟨Nat.le_succ _, hf, fun R zs cs w hv hL => ?_⟩
          obtain ⟨z, zs', rfl, hz, hn⟩ := hv
          simp only [VRL] at hn
          subst hn
          obtain ⟨b, d, c, hR, rfl⟩ := hz
          obtain ⟨arr, clock, hb, h1, h2, h3, h4⟩ := hL.mapAt hM hR
          obtain ⟨e, w1, fr', ⟨rfl, rfl⟩, s1, s2, s3⟩ := hc b arr clock w hb cs
          refine ⟨R.add H.next w.heap.size 0 0, _, _, fr', s1, s2, s3, ⟨w.heap.size, 0, 0, R.add_self _ _ _ _, rfl⟩, ?_, ?_⟩
          · exact hL.new ht ⟨arr, clock, rfl, h1.mono (R.sub_add _ _ _ _), h2, h3, h4⟩
          · exact Ext.add ht
        · simp at h
      · simp at h
    · simp at h
  · exact hm _ _ _ _ h
end Go.Eng
end
