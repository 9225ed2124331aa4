/- Engine, part 27: the evaluator is right. -/
import Derived.Test.YtghipbccmngkpaaE26
namespace Go.Eng

section
variable {P : Program} {X : Cx} (hX : Ok P X) {r : Fns} (hr : Good P r) (hmo : Mono r)

/-- The steps of two pieces, one behind the other, in one frame. -/
theorem frame_again (fr : Frame) (t : Array Value) (td : List Item) (t' : Array Value) (td' : List Item) : ({ ({ fr with tmps := t, todo := td } : Frame) with tmps := t', todo := td' } : Frame) = { fr with tmps := t', todo := td' } := rfl

include hX hr hmo in
theorem codeF_ok {nt : Nat} {c : Code} {env env' : T AV} {H H' : AH} {ex : AExit} (h : codeF X r nt c env H = some (ex, env', H')) : SimCode P nt c env H ex env' H' := by
  intro R fr k cs w hm ht hE hL
  unfold codeF at h
  split at h
  · simp only [Option.some.injEq, Prod.mk.injEq] at h
    obtain ⟨rfl, rfl, rfl⟩ := h
    exact ⟨R, w, fr.tmps, k, .one (st_skip hm ht), rfl, hE, hL, Ext.refl R H w⟩
  · simp only [Option.some.injEq, Prod.mk.injEq] at h
    obtain ⟨rfl, rfl, rfl⟩ := h
    exact ⟨R, w, fr.tmps, k, .one (st_label hm ht), rfl, hE, hL, Ext.refl R H w⟩
  · rename_i a b
    unfold thenF at h
    split at h
    · rename_i env1 H1 ha
      obtain ⟨R1, w1, t1, td1, hs1, ho1, hE1, hL1, hx1⟩ := hr.code _ _ _ _ _ _ _ ha R { fr with todo := .code a :: .code b :: k } (.code b :: k) cs w hm rfl hE hL
      simp only [Out] at ho1; subst ho1
      obtain ⟨R2, w2, t2, td2, hs2, ho2, hE2, hL2, hx2⟩ := hr.code _ _ _ _ _ _ _ h R1 { fr with tmps := t1, todo := .code b :: k } k cs w1 hm rfl hE1 hL1
      exact ⟨R2, w2, t2, td2, (Steps.one (st_seq hm ht)).trans (hs1.trans hs2), ho2, hE2, hL2, hx1.trans hx2⟩
    · rename_i hne
      obtain ⟨R1, w1, t1, td1, hs1, ho1, hE1, hL1, hx1⟩ := hr.code _ _ _ _ _ _ _ h R { fr with todo := .code a :: .code b :: k } (.code b :: k) cs w hm rfl hE hL
      refine ⟨R1, w1, t1, td1, (Steps.one (st_seq hm ht)).trans hs1, ?_, hE1, hL1, hx1⟩
      cases ex with
      | normal => exact absurd h (hne _ _)
      | exit id => obtain ⟨k', e1, e2⟩ := ho1; exact ⟨k', e1, by rw [e2]; rfl⟩
      | ret => exact ho1
  · rename_i c a b
    unfold condF at h
    split at h
    · rename_i hc
      have hv := opd_ok hE _ _ hc
      simp only [VR] at hv
      obtain ⟨R1, w1, t1, td1, hs1, ho1, hE1, hL1, hx1⟩ := hr.code _ _ _ _ _ _ _ h R { fr with todo := .code a :: k } k cs w hm rfl hE hL
      exact ⟨R1, w1, t1, td1, (Steps.one (st_cond hm ht hv)).trans hs1, ho1, hE1, hL1, hx1⟩
    · rename_i hc
      have hv := opd_ok hE _ _ hc
      simp only [VR] at hv
      obtain ⟨R1, w1, t1, td1, hs1, ho1, hE1, hL1, hx1⟩ := hr.code _ _ _ _ _ _ _ h R { fr with todo := .code b :: k } k cs w hm rfl hE hL
      exact ⟨R1, w1, t1, td1, (Steps.one (st_cond hm ht hv)).trans hs1, ho1, hE1, hL1, hx1⟩
    · simp at h
  · rename_i id b
    have key : ∀ ex1 env1 H1, r.code nt b env H = some (ex1, env1, H1) → ∃ R' w' tmps' td, Steps P (lone fr cs w) (lone { fr with tmps := tmps', todo := td } cs w') ∧ Out (.inBlock id :: k) ex1 td ∧ EnvR R' env1 nt tmps' ∧ Rel R' H1 w' ∧ Ext R H w R' H1 w' := by
      intro ex1 env1 H1 hb
      obtain ⟨R1, w1, t1, td1, hs1, ho1, hE1, hL1, hx1⟩ := hr.code _ _ _ _ _ _ _ hb R { fr with todo := .code b :: .inBlock id :: k } (.inBlock id :: k) cs w hm rfl hE hL
      exact ⟨R1, w1, t1, td1, (Steps.one (st_block hm ht)).trans hs1, ho1, hE1, hL1, hx1⟩
    unfold blockF at h
    split at h
    · rename_i id' env1 H1 hb
      obtain ⟨R1, w1, t1, td1, hs1, ⟨k', rfl, e2⟩, hE1, hL1, hx1⟩ := key _ _ _ hb
      rw [cond_eq_ite] at h
      split at h
      · rename_i hid
        rw [Nat.beq_eq] at hid; subst hid
        simp only [Option.some.injEq, Prod.mk.injEq] at h
        obtain ⟨rfl, rfl, rfl⟩ := h
        have e3 : exitTo id' k' = some k := by rw [e2]; simp [exitTo]
        exact ⟨R1, w1, t1, k, hs1.trans (.one (st_exit (fr := { fr with tmps := t1, todo := .code (.exit id') :: k' }) hm rfl e3)), rfl, hE1, hL1, hx1⟩
      · rename_i hid
        rw [Nat.beq_eq] at hid
        simp only [Option.some.injEq, Prod.mk.injEq] at h
        obtain ⟨rfl, rfl, rfl⟩ := h
        refine ⟨R1, w1, t1, _, hs1, ⟨k', rfl, ?_⟩, hE1, hL1, hx1⟩
        rw [e2]
        have : (id == id') = false := by simpa using Ne.symm hid
        simp [exitTo, this]
    · rename_i hne
      obtain ⟨R1, w1, t1, td1, hs1, ho1, hE1, hL1, hx1⟩ := key _ _ _ h
      cases ex with
      | normal =>
        simp only [Out] at ho1; subst ho1
        exact ⟨R1, w1, t1, k, hs1.trans (.one (st_inBlock (fr := { fr with tmps := t1, todo := .inBlock id :: k }) hm rfl)), rfl, hE1, hL1, hx1⟩
      | exit id' => exact absurd h (hne _ _ _)
      | ret => exact ⟨R1, w1, t1, td1, hs1, ho1, hE1, hL1, hx1⟩
  · rename_i b
    have key : ∀ ex1 env1 H1, r.code nt b env H = some (ex1, env1, H1) → ∃ R' w' tmps' td, Steps P (lone fr cs w) (lone { fr with tmps := tmps', todo := td } cs w') ∧ Out (.inLoop b :: k) ex1 td ∧ EnvR R' env1 nt tmps' ∧ Rel R' H1 w' ∧ Ext R H w R' H1 w' := by
      intro ex1 env1 H1 hb
      obtain ⟨R1, w1, t1, td1, hs1, ho1, hE1, hL1, hx1⟩ := hr.code _ _ _ _ _ _ _ hb R { fr with todo := .code b :: .inLoop b :: k } (.inLoop b :: k) cs w hm rfl hE hL
      exact ⟨R1, w1, t1, td1, (Steps.one (st_loop hm ht)).trans hs1, ho1, hE1, hL1, hx1⟩
    unfold thenF at h
    split at h
    · rename_i env1 H1 hb
      obtain ⟨R1, w1, t1, td1, hs1, ho1, hE1, hL1, hx1⟩ := key _ _ _ hb
      simp only [Out] at ho1; subst ho1
      obtain ⟨R2, w2, t2, td2, hs2, ho2, hE2, hL2, hx2⟩ := hr.code _ _ _ _ _ _ _ h R1 { fr with tmps := t1, todo := .code (.loop b) :: k } k cs w1 hm rfl hE1 hL1
      -- the machine stands at 'inLoop b': one step from there and one from 'loop b' come to the same
      have e1 : step P (lone { fr with tmps := t1, todo := .inLoop b :: k } cs w1) = .next (lone { fr with tmps := t1, todo := .code b :: .inLoop b :: k } cs w1) := st_inLoop (fr := { fr with tmps := t1, todo := .inLoop b :: k }) hm rfl
      have e2 : step P (lone { fr with tmps := t1, todo := .code (.loop b) :: k } cs w1) = .next (lone { fr with tmps := t1, todo := .code b :: .inLoop b :: k } cs w1) := st_loop (fr := { fr with tmps := t1, todo := .code (.loop b) :: k }) hm rfl
      refine ⟨R2, w2, t2, td2, hs1.trans ?_, ho2, hE2, hL2, hx1.trans hx2⟩
      obtain ⟨n, hn⟩ := hs2
      cases n with
      | zero =>
        exfalso
        simp only [runN, Stepped.next.injEq] at hn
        have htd := congrArg (fun m : Machine => (m.gs[0]?).map (·.frame.todo)) hn
        simp [lone] at htd
        subst htd
        cases ex with
        | normal =>
          simp only [Out] at ho2
          have := congrArg List.length ho2
          simp at this
        | exit id => obtain ⟨k', e, _⟩ := ho2; simp at e
        | ret => obtain ⟨k', e⟩ := ho2; simp at e
      | succ n =>
        simp only [runN, e2] at hn
        exact ⟨n + 1, by simp only [runN, e1]; exact hn⟩
    · rename_i hne
      obtain ⟨R1, w1, t1, td1, hs1, ho1, hE1, hL1, hx1⟩ := key _ _ _ h
      refine ⟨R1, w1, t1, td1, hs1, ?_, hE1, hL1, hx1⟩
      cases ex with
      | normal => exact absurd h (hne _ _)
      | exit id => obtain ⟨k', e1, e2⟩ := ho1; exact ⟨k', e1, by rw [e2]; rfl⟩
      | ret => exact ho1
  · rename_i id
    simp only [Option.some.injEq, Prod.mk.injEq] at h
    obtain ⟨rfl, rfl, rfl⟩ := h
    refine ⟨R, w, fr.tmps, .code (.exit id) :: k, ?_, ⟨k, rfl, rfl⟩, hE, hL, Ext.refl R H w⟩
    rw [← ht]; exact .refl _ _
  · simp only [Option.some.injEq, Prod.mk.injEq] at h
    obtain ⟨rfl, rfl, rfl⟩ := h
    refine ⟨R, w, fr.tmps, .code .ret :: k, ?_, ⟨k, rfl⟩, hE, hL, Ext.refl R H w⟩
    rw [← ht]; exact .refl _ _
  · rename_i id ops draw
    rw [cond_eq_ite] at h
    split at h
    · rename_i hd
      have hd' : draw = true := hd
      subst hd'
      unfold normalF at h
      split at h
      · rename_i env1 H1 ho
        simp only [Option.some.injEq, Prod.mk.injEq] at h
        obtain ⟨rfl, rfl, rfl⟩ := h
        exact drawF_ok hX hr hmo ho R fr k cs w hm ht hE hL
      · simp at h
    · rename_i hd
      have hd' : draw = false := by simpa using hd
      subst hd'
      unfold normalF at h
      split at h
      · rename_i env1 H1 ho
        simp only [Option.some.injEq, Prod.mk.injEq] at h
        obtain ⟨rfl, rfl, rfl⟩ := h
        obtain ⟨R1, w1, t1, hs1, hE1, hL1, hx1⟩ := hr.ops _ _ _ _ _ _ _ ho R { fr with todo := .inRegion ops (List.range ops.size) :: k } k cs w (List.range ops.size) hm rfl (by
          apply List.ext_getElem?
          intro i
          by_cases hi : i < ops.size
          · simp [hi]
          · simp [hi]) hE hL
        exact ⟨R1, w1, t1, k, (Steps.one (st_region hm ht)).trans (hs1.trans (.one (st_region_end (fr := { fr with tmps := t1, todo := .inRegion ops [] :: k }) hm rfl))), rfl, hE1, hL1, hx1⟩
      · simp at h
  · simp at h

theorem argsAt_ok {R : Ren} : ∀ (args : List AV) (as : List Value) (i : Nat) (t t' : T AV), argsAt i args t = some t' → VRL R args as → (∀ j, (t'.get j = if i ≤ j ∧ j < i + args.length then args[j - i]? else t.get j))
  | [], _, i, t, t', h, _, j => by simp only [argsAt, Option.some.injEq] at h; subst h; simp; omega
  | x :: xs, as, i, t, t', h, hv, j => by
    simp only [argsAt] at h
    split at h
    · rename_i t1 h1
      obtain ⟨v, as', rfl, _, hv2⟩ := hv
      rw [argsAt_ok xs as' (i + 1) t1 t' h hv2 j, T.get_set _ _ _ _ _ h1]
      simp only [List.length_cons]
      by_cases e : j = i
      · subst e; rw [if_neg (by omega), if_pos rfl, if_pos (by omega)]; simp
      · by_cases h2 : i ≤ j ∧ j < i + (xs.length + 1)
        · rw [if_pos (by omega), if_pos h2, show j - i = (j - (i + 1)) + 1 from by omega, List.getElem?_cons_succ]
        · rw [if_neg (by omega), if_neg e, if_neg h2]
    · simp at h

include hX in
theorem results_ok {R : Ren} {H : AH} {w : World} (hL : Rel R H w) {env : T AV} {nt : Nat} {tmps : Array Value} (hE : EnvR R env nt tmps) : ∀ (rs : List ResultVar) (vs : List AV), aresults X env H rs = some vs →
    ∃ zs : List Value, (rs.mapM (fun | .tmp t => pure (tmps.getD t undef) | .cell a t => do loadVar t (← asAddr (tmps.getD a undef)) : ResultVar → Sem Value)).run P w = .ok zs w ∧ VRL R vs zs
  | [], vs, h => by simp only [aresults, Option.some.injEq] at h; subst h; exact ⟨[], rfl, rfl⟩
  | r :: rs, vs, h => by
    simp only [aresults] at h
    split at h
    · rename_i v hv
      split at h
      · rename_i vs' hvs
        simp only [Option.some.injEq] at h; subst h
        obtain ⟨zs, h1, h2⟩ := results_ok hL hE rs vs' hvs
        have hone : ∃ z, (match r with | .tmp t => pure (tmps.getD t undef) | .cell a t => do loadVar t (← asAddr (tmps.getD a undef)) : Sem Value).run P w = .ok z w ∧ VR R v z := by
          cases r with
          | tmp t =>
            simp only [aresult, Option.some.injEq] at hv; subst hv
            exact ⟨_, rfl, hE.at_ t⟩
          | cell a t =>
            simp only [aresult] at hv
            have hp := hE.at_ a
            obtain ⟨z, h3, h4⟩ := aload_ok (P := P) hX hL hv hp
            refine ⟨z, ?_, h4⟩
            unfold aload at hv
            split at hv
            · rename_i A off hlk
              rw [hlk] at hp
              obtain ⟨b, d, c, hr, e⟩ := hp
              show (do loadVar t (← asAddr (tmps.getD a undef)) : Sem Value).run P w = .ok z w
              rw [e] at h3 ⊢
              simp only [Instr.loadAt, Instr.sureAddr, Sem.run_bind, Sem.run_pure, Result.andThen] at h3
              simp only [asAddr, Sem.run_bind, Sem.run_pure, Result.andThen]
              exact h3
            · simp at hv
        obtain ⟨z, hz1, hz2⟩ := hone
        refine ⟨z :: zs, ?_, z, zs, rfl, hz2, h2⟩
        rw [List.mapM_cons]
        simp only [Sem.run_bind, hz1, Result.andThen, h1]; rfl
      · simp at h
    · simp at h

include hX hr in
theorem enterF_ok {f : FuncId} {fn : Func} (hfn : P.funcs[f]? = some fn) {args : List AV} {H H' : AH} {v : AV} (h : enterF X r fn args H = some (v, H')) : SimCall P f args H v H' := by
  unfold enterF at h
  split at h
  · rename_i body hbody
    refine ⟨⟨fn, hfn, by simp [hbody]⟩, fun R as cs w hv hL => ?_⟩
    split at h
    · rename_i env0 harg
      rw [cond_eq_ite] at h
      split at h
      · rename_i hle
        rw [Nat.ble_eq, lenL_zero] at hle
        have hlas := VRL.length _ _ hv
        have hg := argsAt_ok args as 0 .leaf env0 harg hv
        have hE : EnvR R env0 fn.ntmps (Frame.enter P f ⟨as⟩ .normal).tmps := by
          have htm : (Frame.enter P f ⟨as⟩ .normal).tmps = (⟨as⟩ : Array Value) ++ Array.replicate (fn.ntmps - as.length) undef := by
            simp [Frame.enter, hfn]
          rw [htm]
          refine ⟨by simp; omega, fun t ht => ?_, fun t ht => ?_⟩
          · have hl : look env0 t = if t < args.length then (args[t]?).getD undefA else undefA := by
              unfold look; rw [hg t]
              by_cases ht2 : t < args.length
              · rw [if_pos (by omega), if_pos ht2]; simp [ht2]
              · rw [if_neg (by omega), if_neg ht2]; rfl
            rw [hl, Array.getD_eq_getD_getElem?]
            by_cases ht2 : t < args.length
            · rw [if_pos ht2]
              obtain ⟨z, hz1, hz2⟩ := VRL.get _ _ hv t args[t] (List.getElem?_eq_getElem ht2)
              have : ((⟨as⟩ : Array Value) ++ Array.replicate (fn.ntmps - as.length) undef)[t]? = some z := by
                rw [Array.getElem?_append_left (by simp; omega)]; simpa using hz1
              rw [this, List.getElem?_eq_getElem ht2]; exact hz2
            · rw [if_neg ht2]
              have : ((⟨as⟩ : Array Value) ++ Array.replicate (fn.ntmps - as.length) undef)[t]? = some undef := by
                rw [Array.getElem?_append_right (by simp; omega)]
                rw [Array.getElem?_replicate]; simp; omega
              rw [this]; exact VR_undef R
          · rw [hg t, if_neg (by omega)]; rfl
        have htd : (Frame.enter P f ⟨as⟩ .normal).todo = .code body :: [] := by simp [Frame.enter, hfn, hbody]
        unfold retF at h
        split at h
        · simp at h
        · rename_i ex env1 H1 hne hc
          obtain ⟨R1, w1, t1, td1, hs1, ho1, hE1, hL1, hx1⟩ := hr.code _ _ _ _ _ _ _ hc R (Frame.enter P f ⟨as⟩ .normal) [] cs w rfl htd hE hL
          have hfin : ∃ fr' : Frame, Steps P (lone (Frame.enter P f ⟨as⟩ .normal) cs w) (lone fr' cs w1) ∧ fr'.fn = f ∧ fr'.mode = .returning ∧ fr'.defers = [] ∧ fr'.kind = .normal ∧ fr'.tmps = t1 := by
            cases ex with
            | normal =>
              simp only [Out] at ho1; subst ho1
              exact ⟨_, hs1.trans (.one (st_end (fr := { Frame.enter P f ⟨as⟩ .normal with tmps := t1, todo := [] }) rfl rfl rfl)), rfl, rfl, rfl, rfl, rfl⟩
            | exit id => exact (hne id rfl).elim
            | ret =>
              obtain ⟨k', rfl⟩ := ho1
              exact ⟨_, hs1.trans (.one (st_ret (fr := { Frame.enter P f ⟨as⟩ .normal with tmps := t1, todo := .code .ret :: k' }) rfl rfl rfl)), rfl, rfl, rfl, rfl, rfl⟩
          obtain ⟨fr', hsteps, hf1, hf2, hf3, hf4, hf5⟩ := hfin
          have hres : ∀ vs : List AV, aresults X env1 H1 fn.results.toList = some vs → ∃ zs : List Value, VRL R1 vs zs ∧ (results fn t1).run P w1 = .ok (if h : zs.toArray.size = 1 then zs.toArray[0] else .tuple zs.toArray) w1 := by
            intro vs hvs
            obtain ⟨zs, h1, h2⟩ := results_ok hX hL1 hE1 _ _ hvs
            refine ⟨zs, h2, ?_⟩
            simp only [results, Array.mapM_eq_mapM_toList, Sem.run_bind, Sem.run_map]
            erw [h1]
            rfl
          have hleave : ∀ z, (results fn t1).run P w1 = .ok z w1 → fr'.leaving P w1 (.returned z) := by
            intro z hz
            exact ⟨hf2, hf3, hf4, fn, by rw [hf1]; exact hfn, by rw [hf5]; exact hz⟩
          split at h
          · rename_i v1 hvs
            simp only [Option.some.injEq, Prod.mk.injEq] at h
            obtain ⟨rfl, rfl⟩ := h
            obtain ⟨zs, hz1, hz2⟩ := hres _ hvs
            obtain ⟨z, zs', rfl, hz3, hz4⟩ := hz1
            simp only [VRL] at hz4; subst hz4
            exact ⟨R1, w1, z, fr', hsteps, hf1, hleave _ (by rw [hz2]; rfl), hz3, hL1, hx1⟩
          · rename_i vs hne2 hvs
            simp only [Option.some.injEq, Prod.mk.injEq] at h
            obtain ⟨rfl, rfl⟩ := h
            obtain ⟨zs, hz1, hz2⟩ := hres _ hvs
            have hl := VRL.length _ _ hz1
            have hn1 : ¬ zs.toArray.size = 1 := by
              intro h1
              simp only [List.size_toArray] at h1
              rw [hl] at h1
              match vs, h1 with
              | [x], _ => exact hne2 x rfl
            exact ⟨R1, w1, .tuple zs.toArray, fr', hsteps, hf1, hleave _ (by rw [hz2, dif_neg hn1]), ⟨zs, rfl, hz1⟩, hL1, hx1⟩
          · simp at h
        · simp at h
      · simp at h
    · simp at h
  · simp at h

include hX hr in
theorem callF_ok (hS : ∀ f g, X.sm.get f = some g → ∀ args H v H', g args H = some (v, H') → SimCall P f args H v H') {f : FuncId} {args : List AV} {H H' : AH} {v : AV} (h : callF X r f args H = some (v, H')) : SimCall P f args H v H' := by
  unfold callF at h
  split at h
  · rename_i g hg; exact hS f g hg args H v H' h
  · split at h
    · rename_i fn hfn; exact enterF_ok hX hr (hX.fn _ _ hfn) h
    · simp at h
end

theorem ev_good {P : Program} {X : Cx} (hX : Ok P X) (hS : ∀ f g, X.sm.get f = some g → ∀ args H v H', g args H = some (v, H') → SimCall P f args H v H') (hN : ∀ f g, X.sm.get f = some g → ∀ args H v H', g args H = some (v, H') → H.next ≤ H'.next) : ∀ n, Good P (ev X n)
  | 0 => by
    rw [ev_zero]
    exact ⟨fun _ _ _ _ _ _ _ h => by simp at h, fun _ _ _ _ _ _ _ h => by simp at h, fun _ _ _ _ _ h => by simp at h⟩
  | n + 1 => by
    have ih := ev_good hX hS hN n
    rw [ev_succ]
    exact ⟨fun _ _ _ _ _ _ _ h => codeF_ok hX ih (ev_mono hN n) h, fun _ _ _ _ _ _ _ h => opsF_ok hX ih h, fun _ _ _ _ _ h => callF_ok hX ih hS h⟩

/-- What the evaluator reckons of a call without arguments, the machine does, whatever the world. -/
theorem calls_of_ev {P : Program} {X : Cx} (hX : Ok P X) (hS : ∀ f g, X.sm.get f = some g → ∀ args H v H', g args H = some (v, H') → SimCall P f args H v H') (hN : ∀ f g, X.sm.get f = some g → ∀ args H v H', g args H = some (v, H') → H.next ≤ H'.next) {n : Nat} {f : FuncId} {b : Bool} {H' : AH}
    (h : (ev X n).call f [] ⟨.leaf, 0⟩ = some (.bool b, H')) (w : World) : Calls P f #[] w fun e w' => e = .returned (.bool b) ∧ RowKit.Below w.heap.size w w' := by
  intro cs
  obtain ⟨_, hc⟩ := (ev_good hX hS hN n).call _ _ _ _ _ h
  obtain ⟨R', w', z, fr', h1, h2, h3, h4, h5, h6⟩ := hc (fun _ _ _ _ => False) [] cs w rfl (Rel.empty w)
  simp only [VR] at h4; subst h4
  refine ⟨.returned (.bool b), w', fr', ⟨rfl, ?_⟩, h1, h2, h3⟩
  exact ⟨h6.os, h6.tape, h6.output, h6.size, fun k hk => h6.keep k hk (fun _ _ _ h => h)⟩
end Go.Eng
