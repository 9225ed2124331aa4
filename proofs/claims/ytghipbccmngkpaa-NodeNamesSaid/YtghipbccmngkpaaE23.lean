/- Engine, part 23: blocks are never taken back. No condition. -/
import Derived.Test.YtghipbccmngkpaaE22
namespace Go.Eng

structure Mono (r : Fns) : Prop where
  code : ∀ nt c env H ex env' H', r.code nt c env H = some (ex, env', H') → H.next ≤ H'.next
  ops : ∀ nt ops l env H env' H', r.ops nt ops l env H = some (env', H') → H.next ≤ H'.next
  call : ∀ f args H v H', r.call f args H = some (v, H') → H.next ≤ H'.next

theorem putA_next {H H' : AH} {A : Nat} {o : AObj} (h : putA H A o = some H') : H'.next = H.next := by
  unfold putA at h
  split at h
  · simp only [Option.some.injEq] at h; rw [← h]
  · simp at h
theorem agrow_next {need e sz : Nat} {cells : List AV} {H H' : AH} {v : AV} (h : agrow need e sz cells H = some (v, H')) : H.next ≤ H'.next := by
  unfold agrow at h
  split at h
  · rename_i A H1 hn
    obtain ⟨t', _, _, rfl, _⟩ := newA_eq hn
    simp only [fN_eq, Option.some.injEq, Prod.mk.injEq] at h
    rw [← h.2]; exact Nat.le_succ _
  · simp at h
theorem appGrow_next {need e sz bytes : Nat} {old : Option (List AV)} {new : List AV} {H H' : AH} {v : AV} (h : appGrow need e sz bytes old new H = some (v, H')) : H.next ≤ H'.next := by
  unfold appGrow at h
  rw [cond_eq_ite] at h
  split at h
  · split at h
    · exact agrow_next h
    · simp at h
  · simp at h

theorem aE_next {X : Cx} {env : T AV} {H H' : AH} {o : Op} {v : AV} (h : aE X env H o = some (v, H')) : H.next ≤ H'.next := by
  unfold aE at h
  split at h
  · unfold eStore at h
    split at h
    · split at h
      · split at h
        · rename_i H1 hst
          simp only [Option.some.injEq, Prod.mk.injEq] at h
          rw [← h.2]
          unfold astore at hst
          split at hst
          · split at hst
            · split at hst
              · rw [cond_eq_ite] at hst
                split at hst
                · split at hst
                  · rw [putA_next hst]; exact Nat.le_refl _
                  · simp at hst
                · simp at hst
              · simp at hst
            · simp at hst
          · simp at hst
        · simp at h
      · simp at h
    · simp at h
  · split at h
    · unfold eBuiltin at h
      split at h
      · split at h
        · split at h
          · unfold eAppend at h
            have key : ∀ t a b, aappend X t a b H = some (v, H') → H.next ≤ H'.next := by
              intro t a b h
              unfold aappend at h
              split at h
              · split at h
                · rw [cond_eq_ite] at h
                  split at h
                  · split at h
                    · rw [cond_eq_ite] at h
                      split at h
                      · unfold app1 at h
                        split at h
                        · rw [cond_eq_ite] at h
                          split at h
                          · simp only [Option.some.injEq, Prod.mk.injEq] at h; rw [← h.2]; exact Nat.le_refl _
                          · exact appGrow_next h
                        · rw [cond_eq_ite] at h
                          split at h
                          · simp only [Option.some.injEq, Prod.mk.injEq] at h; rw [← h.2]; exact Nat.le_refl _
                          · simp at h
                        · split at h
                          · unfold app2 at h
                            rw [cond_eq_ite] at h
                            split at h
                            · unfold appIn at h
                              split at h
                              · split at h
                                · rename_i H1 hp
                                  simp only [fN_eq, Option.some.injEq, Prod.mk.injEq] at h
                                  rw [← h.2, putA_next hp]; exact Nat.le_refl _
                                · simp at h
                              · simp at h
                            · rw [cond_eq_ite] at h
                              split at h
                              · exact appGrow_next h
                              · rw [cond_eq_ite] at h
                                split at h
                                · split at h
                                  · rename_i H1 hp
                                    have := appGrow_next h
                                    rw [putA_next hp] at this; exact this
                                  · simp at h
                                · simp at h
                          · simp at h
                        · simp at h
                      · simp at h
                    · simp at h
                  · simp at h
                · simp at h
              · simp at h
            split at h
            · split at h
              · split at h
                · exact key _ _ _ h
                · exact key _ _ _ h
                · simp at h
              · simp at h
            · simp at h
          · simp at h
        · simp at h
      · split at h
        · split at h
          · unfold eCopy at h
            split at h
            · split at h
              · unfold acopy at h
                split at h
                · split at h
                  · split at h
                    · split at h <;> first | (simp at h; done) | (simp only [Option.some.injEq, Prod.mk.injEq] at h; rw [← h.2]; exact Nat.le_refl _)
                    · split at h
                      · simp only at h
                        split at h
                        · rw [cond_eq_ite] at h
                          split at h
                          · split at h
                            · split at h
                              · split at h
                                · rename_i H1 hp
                                  simp only [fN_eq, Option.some.injEq, Prod.mk.injEq] at h
                                  rw [← h.2, putA_next hp]; exact Nat.le_refl _
                                · simp at h
                              · simp at h
                            · simp at h
                          · simp at h
                        · simp at h
                      · simp at h
                    · simp at h
                  · simp at h
                · simp at h
              · simp at h
            · simp at h
          · simp at h
        · simp at h
      · simp at h
    · simp at h
  · simp at h

section
variable {X : Cx} {r : Fns} (hm : Mono r)
include hm

theorem opF_next {env : T AV} {H H' : AH} {o : Op} {v : AV} (h : opF X r env H o = some (v, H')) : H.next ≤ H'.next := by
  unfold opF at h
  split at h
  · unfold wV at h
    split at h
    · simp only [Option.some.injEq, Prod.mk.injEq] at h; rw [← h.2]; exact Nat.le_refl _
    · simp at h
  · unfold wV at h
    split at h
    · simp only [Option.some.injEq, Prod.mk.injEq] at h; rw [← h.2]; exact Nat.le_refl _
    · simp at h
  · unfold wA at h
    split at h
    · split at h
      · rename_i A H1 hn
        obtain ⟨t', _, _, rfl, _⟩ := newA_eq hn
        simp only [Option.some.injEq, Prod.mk.injEq] at h
        rw [← h.2]; exact Nat.le_succ _
      · simp at h
    · simp at h
  · exact aE_next h
  · unfold opF.callO at h
    split at h
    · split at h
      · unfold opF.callV at h
        split at h
        · split at h
          · exact hm.call _ _ _ _ _ h
          · simp at h
        · simp at h
      · simp at h
    · simp at h

theorem opsF_next {nt : Nat} {ops : Array Oper} {l : List Oper} {env env' : T AV} {H H' : AH} (h : opsF X r nt ops l env H = some (env', H')) : H.next ≤ H'.next := by
  unfold opsF at h
  split at h
  · simp only [Option.some.injEq, Prod.mk.injEq] at h; rw [← h.2]; exact Nat.le_refl _
  · rw [cond_eq_ite] at h
    split at h
    · split at h
      · rename_i v H1 ho
        unfold setK at h
        split at h
        · exact Nat.le_trans (opF_next hm ho) (hm.ops _ _ _ _ _ _ _ h)
        · simp at h
      · simp at h
    · unfold setK at h
      split at h
      · exact hm.ops _ _ _ _ _ _ _ h
      · simp at h

theorem ent_next {ops : Array Oper} {env : T AV} {H : AH} {e : Ent} (h : entD X r ops env H e.i e.o = some e) : H.next ≤ e.H'.next := by
  obtain ⟨_, h1, h2⟩ := ent_ok X r ops h
  cases hw : e.want with
  | false => rw [(h2 hw).2]; exact Nat.le_refl _
  | true => exact opF_next hm (h1 hw)

theorem chain_next {nt : Nat} {ops : Array Oper} : ∀ {es : List Ent} {env : T AV} {H : AH} {envF : T AV} {HF : AH}, Chain X r nt ops env H es envF HF → H.next ≤ HF.next ∧ ∀ e ∈ es, H.next ≤ e.H.next
  | [], _, _, _, _, h => by obtain ⟨_, rfl⟩ := h; exact ⟨Nat.le_refl _, by simp⟩
  | e :: es, env, H, envF, HF, ⟨h1, h2, h3, env', h4, h5⟩ => by
    obtain ⟨i1, i2⟩ := chain_next h5
    have := ent_next hm h3
    refine ⟨Nat.le_trans this i1, fun q hq => ?_⟩
    rcases List.mem_cons.1 hq with rfl | hq
    · rw [h2]; exact Nat.le_refl _
    · exact Nat.le_trans this (i2 q hq)

theorem drawF_next {nt : Nat} {ops : Array Oper} {env env' : T AV} {H H' : AH} (h : drawF X r nt ops env H = some (env', H')) : H.next ≤ H'.next := by
  unfold drawF at h
  split at h
  · split at h
    · rename_i es envF HF hrun
      rw [cond_eq_ite] at h
      split at h
      · simp only [Option.some.injEq, Prod.mk.injEq] at h
        obtain ⟨rfl, rfl⟩ := h
        exact (chain_next hm (runD_chain X r nt ops _ _ _ _ _ _ hrun).1).1
      · simp at h
    · simp at h
  · simp at h

theorem codeF_next {nt : Nat} {c : Code} {env env' : T AV} {H H' : AH} {ex : AExit} (h : codeF X r nt c env H = some (ex, env', H')) : H.next ≤ H'.next := by
  unfold codeF at h
  split at h
  · simp only [Option.some.injEq, Prod.mk.injEq] at h; rw [← h.2.2]; exact Nat.le_refl _
  · simp only [Option.some.injEq, Prod.mk.injEq] at h; rw [← h.2.2]; exact Nat.le_refl _
  · unfold thenF at h
    split at h
    · rename_i ha; exact Nat.le_trans (hm.code _ _ _ _ _ _ _ ha) (hm.code _ _ _ _ _ _ _ h)
    · exact hm.code _ _ _ _ _ _ _ h
  · unfold condF at h
    split at h
    · exact hm.code _ _ _ _ _ _ _ h
    · exact hm.code _ _ _ _ _ _ _ h
    · simp at h
  · unfold blockF at h
    split at h
    · rename_i ha
      rw [cond_eq_ite] at h
      split at h <;> (simp only [Option.some.injEq, Prod.mk.injEq] at h; rw [← h.2.2]; exact hm.code _ _ _ _ _ _ _ ha)
    · exact hm.code _ _ _ _ _ _ _ h
  · unfold thenF at h
    split at h
    · rename_i ha; exact Nat.le_trans (hm.code _ _ _ _ _ _ _ ha) (hm.code _ _ _ _ _ _ _ h)
    · exact hm.code _ _ _ _ _ _ _ h
  · simp only [Option.some.injEq, Prod.mk.injEq] at h; rw [← h.2.2]; exact Nat.le_refl _
  · simp only [Option.some.injEq, Prod.mk.injEq] at h; rw [← h.2.2]; exact Nat.le_refl _
  · rw [cond_eq_ite] at h
    split at h
    · unfold normalF at h
      split at h
      · rename_i hd
        simp only [Option.some.injEq, Prod.mk.injEq] at h
        rw [← h.2.2]; exact drawF_next hm hd
      · simp at h
    · unfold normalF at h
      split at h
      · rename_i ho
        simp only [Option.some.injEq, Prod.mk.injEq] at h
        rw [← h.2.2]; exact hm.ops _ _ _ _ _ _ _ ho
      · simp at h
  · simp at h

theorem callF_next (hS : ∀ f g, X.sm.get f = some g → ∀ args H v H', g args H = some (v, H') → H.next ≤ H'.next) {f : FuncId} {args : List AV} {H H' : AH} {v : AV} (h : callF X r f args H = some (v, H')) : H.next ≤ H'.next := by
  unfold callF at h
  split at h
  · rename_i g hg; exact hS f g hg _ _ _ _ h
  · split at h
    · unfold enterF at h
      split at h
      · split at h
        · rw [cond_eq_ite] at h
          split at h
          · unfold retF at h
            split at h
            · simp at h
            · rename_i hc
              split at h <;> first | (simp at h; done) | (simp only [Option.some.injEq, Prod.mk.injEq] at h; rw [← h.2]; exact hm.code _ _ _ _ _ _ _ hc)
            · simp at h
          · simp at h
        · simp at h
      · simp at h
    · simp at h
end

theorem ev_mono {X : Cx} (hS : ∀ f g, X.sm.get f = some g → ∀ args H v H', g args H = some (v, H') → H.next ≤ H'.next) : ∀ n, Mono (ev X n)
  | 0 => by
    rw [ev_zero]
    exact ⟨fun _ _ _ _ _ _ _ h => by simp at h, fun _ _ _ _ _ _ _ h => by simp at h, fun _ _ _ _ _ h => by simp at h⟩
  | n + 1 => by
    have ih := ev_mono hS n
    rw [ev_succ]
    exact ⟨fun _ _ _ _ _ _ _ h => codeF_next ih h, fun _ _ _ _ _ _ _ h => opsF_next ih h, fun _ _ _ _ _ h => callF_next ih hS h⟩
end Go.Eng
