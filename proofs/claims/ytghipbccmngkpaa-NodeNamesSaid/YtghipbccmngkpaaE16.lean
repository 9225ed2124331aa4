/- Engine, part 16: all operations with effects. No condition. -/
import Derived.Test.YtghipbccmngkpaaE15
namespace Go.Eng

/-- What an operation comes to. -/
def DoesN (P : Program) (s : Sem Next) (R : Ren) (H : AH) (w : World) (v : AV) (H' : AH) : Prop :=
  ∃ (R' : Ren) (w' : World) (z : Value), (s.run P w = .ok (.value z) w' ∨ (s.run P w = .ok .skip w' ∧ z = undef)) ∧ VR R' v z ∧ Rel R' H' w' ∧ Ext R H w R' H' w'

theorem Does.next {P : Program} {s : Sem Value} {R : Ren} {H H' : AH} {w : World} {v : AV} (h : Does P s R H w v H') : DoesN P (do pure (Next.value (← s))) R H w v H' := by
  obtain ⟨R', w', z, h1, h2⟩ := h
  exact ⟨R', w', z, .inl (run_val h1), h2⟩

section
variable {P : Program} {X : Cx} (hX : Ok P X) {R : Ren} {H : AH} {w : World} (hL : Rel R H w)
include hX hL

theorem astore_ok {t : TypeId} {p y : AV} {pv yv : Value} {H' : AH} (h : astore X t p y H = some H') (hp : VR R p pv) (hy : VR R y yv) :
    ∃ w', (Instr.storeAt t pv yv).run P w = .ok () w' ∧ Rel R H' w' ∧ Ext R H w R H' w' := by
  unfold astore at h
  split at h
  · rename_i A off
    split at h
    · rename_i l e sz g hA
      split at h
      · rename_i n hn
        simp only [cond_eq_ite] at h
        split at h
        · rename_i hc
          simp only [Bool.and_eq_true, Nat.beq_eq, lenL_zero] at hc
          split at h
          · rename_i l' hset
            unfold putA at h
            split at h
            · rename_i t' ht'
              simp only [Option.some.injEq] at h; subst h
              obtain ⟨b, d, c, hr, rfl⟩ := hp
              have hcl := VRL.length _ _ (cells_ok hy)
              rw [Array.length_toList] at hcl
              obtain ⟨w', h1, h2, h3⟩ := hL.stores hA hr (P := P) hset (cells_ok hy) hc.2 ht'
              refine ⟨w', ?_, h2, h3⟩
              simp only [Instr.storeAt, Instr.sureAddr, storeVar, Sem.run_bind, Sem.run_pure, Result.andThen, hX.run_size hn]
              rw [if_neg (by simp; omega)]
              exact h1
            · simp at h
          · simp at h
        · simp at h
      · simp at h
    · simp at h
  · simp at h

theorem acopy_ok {t ty : TypeId} {ts : Array TypeId} {s x v : AV} {sv xv : Value} {H' : AH} (ht : ts[0]? = some t) (h : acopy X t s x H = some (v, H')) (hs : VR R s sv) (hx : VR R x xv) : Does P (Builtin.copy_ ts ty #[sv, xv]) R H w v H' := by
  unfold acopy at h
  split at h
  · rename_i e hd
    have hund := hX.run_und hd w
    split at h
    · rename_i sz hsz
      have hsize := hX.run_size hsz w
      split at h
      · simp only [VR] at hs; subst hs
        split at h
        · simp only [Option.some.injEq, Prod.mk.injEq] at h
          obtain ⟨rfl, rfl⟩ := h
          simp only [VR] at hx; subst hx
          refine ⟨R, w, goInt 0, ?_, rfl, hL, Ext.refl R H w⟩
          simp [Builtin.copy_, ht, Sem.run_bind, hund, hsize, Builtin.lenOf, Builtin.firstCells, Sem.run_pure]
        · simp only [Option.some.injEq, Prod.mk.injEq] at h
          obtain ⟨rfl, rfl⟩ := h
          obtain ⟨b, d, c, hr, rfl⟩ := hx
          refine ⟨R, w, goInt 0, ?_, rfl, hL, Ext.refl R H w⟩
          have : ∀ a : Addr, (loadCells a 0).run P w = .ok #[] w := fun a => rfl
          simp [Builtin.copy_, ht, Sem.run_bind, hund, hsize, Builtin.lenOf, Builtin.firstCells, Sem.run_pure, this]
        · simp only [Option.some.injEq, Prod.mk.injEq] at h
          obtain ⟨rfl, rfl⟩ := h
          obtain ⟨s', rfl, h1, h2⟩ := hx
          refine ⟨R, w, goInt 0, ?_, rfl, hL, Ext.refl R H w⟩
          simp [Builtin.copy_, ht, Sem.run_bind, hund, hsize, Builtin.lenOf, Builtin.firstCells, Sem.run_pure]
        · simp at h
      · rename_i A off len cc
        split at h
        · rename_i n new hsrc
          obtain ⟨hlen, hnl, hfirst⟩ := srcOf_ok (P := P) hL hsrc hx
          simp only at h
          split at h
          · rename_i new' htake
            obtain ⟨e1, e2⟩ := takeN_eq _ _ _ htake
            simp only [cond_eq_ite] at h
            split at h
            · rename_i hcells
              split at h
              · rename_i l e' sz' g hA
                split at h
                · rename_i l' hset
                  split at h
                  · rename_i H1 hput
                    simp only [fN_eq, Option.some.injEq, Prod.mk.injEq] at h
                    obtain ⟨rfl, rfl⟩ := h
                    unfold putA at hput
                    split at hput
                    · rename_i t' ht'
                      simp only [Option.some.injEq] at hput; subst hput
                      obtain ⟨b, d, c, hr, rfl⟩ := hs
                      obtain ⟨vs, hv1, hv2⟩ := hfirst (Nat.min n len) (Nat.min_le_left _ _)
                      rw [← e1] at hv2
                      obtain ⟨w', h1, h2, h3⟩ := hL.stores hA hr (P := P) hset hv2 hcells ht'
                      refine ⟨R, w', goInt (Nat.min n len : Nat), ?_, rfl, h2, h3⟩
                      have hv1' := hv1 w rfl
                      simp only [Builtin.copy_, ht, Sem.run_bind, hund, hsize, Result.andThen, List.getElem?_toArray, List.getElem?_cons_zero, List.getElem?_cons_succ, hlen, hv1', h1, Sem.run_pure]
                    · simp at hput
                  · simp at h
                · simp at h
              · simp at h
            · simp at h
          · simp at h
        · simp at h
      · simp at h
    · simp at h
  · simp at h

/-- Whatever has effects, but for calls of functions, does as the evaluator says. -/
theorem simE {env : T AV} {n : Nat} {fr : Frame} (hE : EnvR R env n fr.tmps) {o : Oper} {v : AV} {H' : AH} (h : aE X env H o.op = some (v, H')) : DoesN P (execOp fr.eval o) R H w v H' := by
  obtain ⟨dst, op, ty, pos, after, guard⟩ := o
  simp only at h
  unfold aE at h
  split at h
  · rename_i t a x
    unfold eStore at h
    split at h
    · rename_i p hp
      split at h
      · rename_i y hy
        split at h
        · rename_i H1 hst
          simp only [Option.some.injEq, Prod.mk.injEq] at h
          obtain ⟨rfl, rfl⟩ := h
          obtain ⟨w', h1, h2, h3⟩ := astore_ok hX hL hst (opd_ok hE _ _ hp) (opd_ok hE _ _ hy)
          refine ⟨R, w', undef, .inr ⟨?_, rfl⟩, ⟨[], rfl, rfl⟩, h2, h3⟩
          simp only [execOp, Sem.run_bind, h1, Result.andThen]; rfl
        · simp at h
      · simp at h
    · simp at h
  · rename_i c
    split at h
    · rename_i b hc
      obtain ⟨callee, args, types⟩ := c
      simp only at hc h; subst hc
      unfold eBuiltin at h
      split at h
      · split at h
        · rename_i s x hargs
          split at h
          · rename_i t u htypes
            unfold eAppend at h
            split at h
            · rename_i a ha
              split at h
              · rename_i b hb
                have hea : args.map fr.eval = #[fr.eval s, fr.eval x] := by apply Array.toList_inj.1; simp [hargs]
                have het : types = #[t, u] := by apply Array.toList_inj.1; simp [htypes]
                have hfin : ∀ du, X.und u = some du → (∀ k, du ≠ .int k) → aappend X t a b H = some (v, H') → DoesN P (execOp fr.eval { dst, op := .call { callee := .builtin .append, args, argTypes := types }, type := ty, pos, after, guard }) R H w v H' := by
                  intro du hdu hne hap
                  obtain ⟨R', w', z, h1, h2⟩ := aappend_ok (P := P) (ty := ty) hX hL hap hdu hne (opd_ok hE _ _ ha) (opd_ok hE _ _ hb)
                  refine ⟨R', w', z, .inl ?_, h2⟩
                  simp only [execOp, resolve, invoke, builtin, hea, het, Sem.run_bind, Sem.run_pure, Result.andThen, h1]
                split at h
                · rename_i du hdu
                  exact hfin _ hdu (by simp) h
                · rename_i hdu
                  exact hfin _ hdu (by simp) h
                · simp at h
              · simp at h
            · simp at h
          · simp at h
        · simp at h
      · split at h
        · rename_i s x hargs
          split at h
          · rename_i t ts htypes
            unfold eCopy at h
            split at h
            · rename_i a ha
              split at h
              · rename_i b hb
                have hea : args.map fr.eval = #[fr.eval s, fr.eval x] := by apply Array.toList_inj.1; simp [hargs]
                have ht' : types[0]? = some t := by rw [← Array.getElem?_toList, htypes]; rfl
                obtain ⟨R', w', z, h1, h2⟩ := acopy_ok (P := P) (ty := ty) hX hL ht' h (opd_ok hE _ _ ha) (opd_ok hE _ _ hb)
                refine ⟨R', w', z, .inl ?_, h2⟩
                simp only [execOp, resolve, invoke, builtin, hea, Sem.run_bind, Sem.run_pure, Result.andThen, h1]
              · simp at h
            · simp at h
          · simp at h
        · simp at h
      · simp at h
    · simp at h
  · simp at h
end
end Go.Eng
