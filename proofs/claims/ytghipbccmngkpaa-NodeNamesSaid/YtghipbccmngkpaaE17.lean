/- Engine, part 17: code, regions in the text's order, and calls. No condition. -/
import Derived.Test.YtghipbccmngkpaaE16
namespace Go.Eng

theorem VR_undef (R : Ren) : VR R undefA undef := by
  simp only [undefA, VR]; exact ⟨[], rfl, rfl⟩

/-- Where the machine stands behind a piece of code. -/
def Out (k : List Item) : AExit → List Item → Prop
  | .normal, td => td = k
  | .exit id, td => ∃ k', td = .code (.exit id) :: k' ∧ exitTo id k' = exitTo id k
  | .ret, td => ∃ k', td = .code .ret :: k'

def SimCode (P : Program) (nt : Nat) (c : Code) (env : T AV) (H : AH) (ex : AExit) (env' : T AV) (H' : AH) : Prop :=
  ∀ (R : Ren) (fr : Frame) (k : List Item) (cs : List Frame) (w : World), fr.mode = .run → fr.todo = .code c :: k → EnvR R env nt fr.tmps → Rel R H w →
    ∃ R' w' tmps' td, Steps P (lone fr cs w) (lone { fr with tmps := tmps', todo := td } cs w') ∧ Out k ex td ∧ EnvR R' env' nt tmps' ∧ Rel R' H' w' ∧ Ext R H w R' H' w'

def SimOps (P : Program) (nt : Nat) (ops : Array Oper) (l : List Oper) (env : T AV) (H : AH) (env' : T AV) (H' : AH) : Prop :=
  ∀ (R : Ren) (fr : Frame) (k : List Item) (cs : List Frame) (w : World) (ix : List Nat), fr.mode = .run → fr.todo = .inRegion ops ix :: k → ix.map (ops[·]?) = l.map some → EnvR R env nt fr.tmps → Rel R H w →
    ∃ R' w' tmps', Steps P (lone fr cs w) (lone { fr with tmps := tmps', todo := .inRegion ops [] :: k } cs w') ∧ EnvR R' env' nt tmps' ∧ Rel R' H' w' ∧ Ext R H w R' H' w'

def SimCall (P : Program) (f : FuncId) (args : List AV) (H : AH) (v : AV) (H' : AH) : Prop :=
  (∃ fn, P.funcs[f]? = some fn ∧ fn.body.isSome = true) ∧
  ∀ (R : Ren) (as : List Value) (cs : List Frame) (w : World), VRL R args as → Rel R H w →
    ∃ R' w' z fr', Steps P (lone (Frame.enter P f ⟨as⟩ .normal) cs w) (lone fr' cs w') ∧ fr'.fn = f ∧ fr'.leaving P w' (.returned z) ∧ VR R' v z ∧ Rel R' H' w' ∧ Ext R H w R' H' w'

structure Good (P : Program) (r : Fns) : Prop where
  code : ∀ nt c env H ex env' H', r.code nt c env H = some (ex, env', H') → SimCode P nt c env H ex env' H'
  ops : ∀ nt ops l env H env' H', r.ops nt ops l env H = some (env', H') → SimOps P nt ops l env H env' H'
  call : ∀ f args H v H', r.call f args H = some (v, H') → SimCall P f args H v H'

theorem want_ok {R : Ren} {env : T AV} {n : Nat} {tmps : Array Value} {ops : Array Oper} {o : Oper} (h : EnvR R env n tmps) : wantA ops env o = Region.wanted o (yielded ops tmps) := by
  unfold wantA Region.wanted
  split
  · rename_i hg; simp [hg]
  · rename_i j want hg
    simp only [hg, wantG, yielded, nthO_eq, Array.getElem?_toList]
    cases ho : ops[j]? with
    | none => simp
    | some p =>
      simp only [Option.bind_some]
      cases hpd : p.dst with
      | none => simp
      | some d =>
        by_cases hlt : d < n
        · have hs : d < tmps.size := by rw [h.size]; exact hlt
          simp only [Option.bind_some, Array.getElem?_eq_getElem hs]
          have hv := h.get d hlt
          have hgd : tmps.getD d undef = tmps[d] := by
            rw [Array.getD_eq_getD_getElem?, Array.getElem?_eq_getElem hs]; rfl
          rw [hgd] at hv
          generalize look env d = x at hv
          generalize tmps[d] = v at hv
          cases x <;> first
            | (simp only [VR] at hv; subst hv; simp; done)
            | (simp only [VR] at hv; subst hv; cases want <;> simp [BEq.beq]; done)
            | (obtain ⟨_, rfl, _⟩ := hv; simp; done)
            | (obtain ⟨_, _, rfl⟩ := hv; simp; done)
            | (obtain ⟨_, _, _, _, rfl⟩ := hv; simp; done)
            | (obtain ⟨_, _, rfl, _⟩ := hv; simp; done)
        · have h1 : look env d = undefA := by simp [look, h.out d (Nat.le_of_not_lt hlt)]
          have h2 : tmps[d]? = none := Array.getElem?_eq_none (by rw [h.size]; exact Nat.le_of_not_lt hlt)
          simp only [Option.bind_some, h1, h2, undefA]; simp

/-- An operation that makes a block, met in the text's order. -/
theorem wA_ok {P : Program} {R : Ren} {H H' : AH} {w : World} (hL : Rel R H w) {s : Sem Value} {ob : AObj} {mk : Nat → AV} {v : AV} (hm : MakesA R P s ob mk w) (h : wA H (some (ob, mk)) = some (v, H')) : Does P s R H w v H' := by
  unfold wA at h
  simp only at h
  split at h
  · rename_i A H1 hnew
    obtain ⟨t', ht, rfl, rfl, _⟩ := newA_eq hnew
    · simp only [Option.some.injEq, Prod.mk.injEq] at h
      obtain ⟨rfl, rfl⟩ := h
      obtain ⟨x, c, k, z, h1, h2⟩ := hm
      obtain ⟨h3, h4⟩ := h2 H.next
      refine ⟨_, _, z, h1, h4, (hL.drew k).new ht h3, ?_⟩
      exact (Ext.drew R H w k).trans (Ext.add (w := { w with drawn := k }) ht)
  · simp at h

section
variable {P : Program} {X : Cx} (hX : Ok P X) {r : Fns} (hr : Good P r)

/-- What stands behind an operation: the machine has gone on to the next. -/
def StepO (P : Program) (fr : Frame) (ops : Array Oper) (rest : List Nat) (k : List Item) (cs : List Frame) (o : Oper) (R : Ren) (H : AH) (w : World) (v : AV) (H' : AH) : Prop :=
  ∃ R' w' z, Steps P (lone fr cs w) (lone { fr with tmps := putT fr.tmps o.dst z, todo := .inRegion ops rest :: k } cs w') ∧ VR R' v z ∧ Rel R' H' w' ∧ Ext R H w R' H' w'

theorem stepO_of_does {fr : Frame} {k : List Item} {cs : List Frame} {ops : Array Oper} {i : Nat} {rest : List Nat} {o : Oper} {R : Ren} {H H' : AH} {w : World} {v : AV}
    (hm : fr.mode = .run) (ht : fr.todo = .inRegion ops (i :: rest) :: k) (ho : ops[i]? = some o) (hw : Region.wanted o (yielded ops fr.tmps) = true) (hd : ∀ c, o.op ≠ .defer c) (h : DoesN P (execOp fr.eval o) R H w v H') : StepO P fr ops rest k cs o R H w v H' := by
  obtain ⟨R', w', z, h1, h2⟩ := h
  refine ⟨R', w', z, ?_, h2⟩
  rw [← finish_region ht ho]
  rcases h1 with h1 | ⟨h1, rfl⟩
  · exact .one (st_value hm ht ho hw hd h1)
  · exact .one (st_skipped hm ht ho hw hd h1)

include hX hr in
theorem opF_ok {fr : Frame} {k : List Item} {cs : List Frame} {ops : Array Oper} {i : Nat} {rest : List Nat} {o : Oper} {R : Ren} {H H' : AH} {w : World} {v : AV} {env : T AV} {nt : Nat}
    (hm : fr.mode = .run) (ht : fr.todo = .inRegion ops (i :: rest) :: k) (ho : ops[i]? = some o) (hw : Region.wanted o (yielded ops fr.tmps) = true) (hE : EnvR R env nt fr.tmps) (hL : Rel R H w)
    (h : opF X r env H o.op = some (v, H')) : StepO P fr ops rest k cs o R H w v H' := by
  have hd : ∀ c, o.op ≠ .defer c := by
    intro c hc
    rw [hc] at h
    simp [opF, cls, aE] at h
  unfold opF at h
  split at h
  · unfold wV at h
    split at h
    · rename_i x hx
      simp only [Option.some.injEq, Prod.mk.injEq] at h
      obtain ⟨rfl, rfl⟩ := h
      obtain ⟨z, h1, h2⟩ := simP hX hL.fn (w := w) hE hx
      exact stepO_of_does hm ht ho hw hd ⟨R, w, z, .inl h1, h2, hL, Ext.refl R H w⟩
    · simp at h
  · unfold wV at h
    split at h
    · rename_i x hx
      simp only [Option.some.injEq, Prod.mk.injEq] at h
      obtain ⟨rfl, rfl⟩ := h
      obtain ⟨z, h1, h2⟩ := simL hX hL hE hx
      exact stepO_of_does hm ht ho hw hd ⟨R, w, z, .inl h1, h2, hL, Ext.refl R H w⟩
    · simp at h
  · have h' := h
    unfold wA at h'
    split at h'
    · rename_i ob mk hA
      obtain ⟨s, hs, hmk⟩ := simA hX (w := w) hE hA
      rw [hA] at h
      have := (wA_ok hL hmk h).next
      rw [← hs] at this
      exact stepO_of_does hm ht ho hw hd this
    · simp at h'
  · exact stepO_of_does hm ht ho hw hd (simE hX hL hE h)
  · unfold opF.callO at h
    split at h
    · rename_i c hop
      split at h
      · rename_i f hc
        unfold opF.callV at h
        split at h
        · rename_i g first cap hf
          split at h
          · rename_i as has
            obtain ⟨⟨fn, hfn, hbody⟩, hcall⟩ := hr.call _ _ _ _ _ h
            obtain ⟨first', cap', hfv, h1, h2⟩ := opd_ok hE _ _ hf
            have h3 := opds_ok hE _ _ has
            have hargs : VRL R (first ++ as ++ cap) ((first' ++ c.args.toList.map fr.eval) ++ cap') := (h1.append h3).append h2
            obtain ⟨R', w', z, fr', hsteps, hfrfn, hleave, hv, hrel, hext⟩ := hcall R _ (fr :: cs) w hargs hL
            have hrun : (execOp fr.eval o).run P w = .ok (.enter g ⟨(first' ++ c.args.toList.map fr.eval) ++ cap'⟩) w := by
              obtain ⟨dst, op, ty, pos, after, guard⟩ := o
              obtain ⟨callee, args, types⟩ := c
              simp only at hop hc; subst hop hc
              have hnm := hX.nm g fn hfn
              have hb : fn.body.isNone = false := by cases hh : fn.body <;> simp_all
              have hea : (⟨first'⟩ : Array Value) ++ args.map fr.eval ++ ⟨cap'⟩ = ⟨(first' ++ args.toList.map fr.eval) ++ cap'⟩ := by
                apply Array.toList_inj.1; simp
              simp only [execOp, resolve, hfv, Deferred.ofValue, Sem.run_bind, Sem.run_pure, Result.andThen, invoke, callFunc, program, Sem.run, hfn, hnm, Bool.false_eq_true, if_false, hb, hea]
            refine ⟨R', w', z, ?_, hv, hrel, hext⟩
            rw [← finish_region ht ho]
            exact (Steps.one (st_enter hm ht ho hw hd hrun)).trans (hsteps.trans (.one (step_leave_returned hleave)))
          · simp at h
        · simp at h
      · simp at h
    · simp at h

include hX hr in
theorem opsF_ok {nt : Nat} {ops : Array Oper} {l : List Oper} {env env' : T AV} {H H' : AH} (h : opsF X r nt ops l env H = some (env', H')) : SimOps P nt ops l env H env' H' := by
  intro R fr k cs w ix hm ht hix hE hL
  unfold opsF at h
  split at h
  · simp only [Option.some.injEq, Prod.mk.injEq] at h
    obtain ⟨rfl, rfl⟩ := h
    have : ix = [] := by cases ix <;> simp_all
    subst this
    refine ⟨R, w, fr.tmps, ?_, hE, hL, Ext.refl R H w⟩
    have : ({ fr with tmps := fr.tmps, todo := .inRegion ops [] :: k } : Frame) = fr := by rw [← ht]
    rw [this]; exact .refl _ _
  · rename_i o rest
    obtain ⟨i, ix', rfl⟩ : ∃ i ix', ix = i :: ix' := by cases ix with | nil => simp at hix | cons i ix' => exact ⟨i, ix', rfl⟩
    simp only [List.map_cons, List.cons.injEq] at hix
    obtain ⟨ho, hrest⟩ := hix
    rw [want_ok hE, cond_eq_ite] at h
    split at h
    · rename_i hw
      split at h
      · rename_i v H1 hop
        unfold setK at h
        split at h
        · rename_i env1 hset
          obtain ⟨R1, w1, z, hst, hv, hL1, hX1⟩ := opF_ok hX hr (cs := cs) hm ht ho hw hE hL hop
          obtain ⟨R2, w2, t2, hst2, hE2, hL2, hX2⟩ := hr.ops _ _ _ _ _ _ _ h R1 { fr with tmps := putT fr.tmps o.dst z, todo := .inRegion ops ix' :: k } k cs w1 ix' hm rfl hrest ((hE.mono hX1.sub).put hv hset) hL1
          exact ⟨R2, w2, t2, hst.trans hst2, hE2, hL2, hX1.trans hX2⟩
        · simp at h
      · simp at h
    · rename_i hw
      have hw' : Region.wanted o (yielded ops fr.tmps) = false := by simpa using hw
      unfold setK at h
      split at h
      · rename_i env1 hset
        have hst : Steps P (lone fr cs w) (lone { fr with tmps := putT fr.tmps o.dst undef, todo := .inRegion ops ix' :: k } cs w) := by
          rw [← finish_region ht ho]; exact .one (st_passed hm ht ho hw')
        obtain ⟨R2, w2, t2, hst2, hE2, hL2, hX2⟩ := hr.ops _ _ _ _ _ _ _ h R { fr with tmps := putT fr.tmps o.dst undef, todo := .inRegion ops ix' :: k } k cs w ix' hm rfl hrest (hE.put (x := undefA) (v := undef) (VR_undef R) hset) hL
        exact ⟨R2, w2, t2, hst.trans hst2, hE2, hL2, hX2⟩
      · simp at h
end
end Go.Eng
