/- Engine, part 22: a region that draws its order. No condition. -/
import Derived.Test.YtghipbccmngkpaaE21
namespace Go.Eng

/-- Only new blocks. -/
def AO (H H2 : AH) : Prop := H.next ≤ H2.next ∧ (∀ A, A < H.next → H2.h.get A = H.h.get A) ∧ Grows H H2
theorem AO.refl (H : AH) : AO H H := ⟨Nat.le_refl _, fun _ _ => rfl, fun _ _ h => h⟩
theorem AO.trans {H H2 H3 : AH} (h : AO H H2) (k : AO H2 H3) : AO H H3 :=
  ⟨Nat.le_trans h.1 k.1, fun A hA => (k.2.1 A (Nat.lt_of_lt_of_le hA h.1)).trans (h.2.1 A hA), fun A o ho => k.2.2 A o (h.2.2 A o ho)⟩
theorem AO.new {H H' : AH} {o : AObj} {A : Nat} (h : newA H o = some (A, H')) : AO H H' ∧ H'.h.get H.next = some o ∧ H'.next = H.next + 1 := by
  obtain ⟨t', h1, rfl, rfl, h2⟩ := newA_eq h
  have hg := T.get_set _ _ _ _ _ h1
  refine ⟨⟨Nat.le_succ _, fun A hA => ?_, fun A o' ho => ?_⟩, ?_, rfl⟩
  · show t'.get A = _; rw [hg, if_neg (by omega)]
  · show t'.get A = _
    rw [hg]
    by_cases e : A = H.next
    · subst e; rw [h2] at ho; simp at ho
    · rw [if_neg e]; exact ho
  · show t'.get _ = _; rw [hg, if_pos rfl]

/-- A heap with more blocks, of which nothing stands anywhere yet. -/
theorem Rel.more {R : Ren} {H H2 : AH} {w : World} (h : Rel R H w) (ha : AO H H2) : Rel R H2 w := by
  have hl : ∀ A b d c, R A b d c → Live H2 A → Live H A := fun A b d c r ⟨o, ho, hd⟩ => ⟨o, by rw [← ha.2.1 A (h.lt _ _ _ _ r).2]; exact ho, hd⟩
  exact ⟨h.fn, fun A A' b d c d' c' r r' l l' => h.inj _ _ _ _ _ _ _ r r' (hl _ _ _ _ r l) (hl _ _ _ _ r' l'),
    fun A b d c o r ho => h.obj A b d c o r (by rw [← ha.2.1 A (h.lt _ _ _ _ r).2]; exact ho), fun A b d c r => ⟨(h.lt _ _ _ _ r).1, Nat.lt_of_lt_of_le (h.lt _ _ _ _ r).2 ha.1⟩⟩
theorem Ext.more {R R' : Ren} {H H' H2 : AH} {w w' : World} (h : Ext R H w R' H' w') (ha : AO H' H2) : Ext R H w R' H2 w' :=
  ⟨h.sub, h.new, h.newA, Nat.le_trans h.next ha.1, fun A hA hk => (ha.2.1 A (Nat.lt_of_lt_of_le hA h.next)).trans (h.keepA A hA hk), h.os, h.tape, h.output, h.size, h.keep⟩

section
variable (X : Cx) (r : Fns) (nt : Nat) (ops : Array Oper)

/-- The entries hang together. -/
def Chain : T AV → AH → List Ent → T AV → AH → Prop
  | env, H, [], envF, HF => env = envF ∧ H = HF
  | env, H, e :: es, envF, HF => e.env = env ∧ e.H = H ∧ entD X r ops env H e.i e.o = some e ∧ ∃ env', setD nt env e.o.dst e.v = some env' ∧ Chain env' e.H' es envF HF

theorem runD_chain : ∀ (row : List (Nat × Oper)) (env : T AV) (H : AH) (es : List Ent) (envF : T AV) (HF : AH), runD X r nt ops row env H = some (es, envF, HF) → Chain X r nt ops env H es envF HF ∧ es.map (fun e => (e.i, e.o)) = row
  | [], env, H, es, envF, HF, h => by
    simp only [runD, Option.some.injEq, Prod.mk.injEq] at h
    obtain ⟨rfl, rfl, rfl⟩ := h
    exact ⟨⟨rfl, rfl⟩, rfl⟩
  | (i, o) :: row, env, H, es, envF, HF, h => by
    simp only [runD] at h
    split at h
    · rename_i e he
      have hfld : e.i = i ∧ e.o = o ∧ e.env = env ∧ e.H = H := by
        unfold entD at he
        rw [cond_eq_ite] at he
        split at he
        · split at he
          · simp only [Option.some.injEq] at he; subst he; exact ⟨rfl, rfl, rfl, rfl⟩
          · simp at he
        · simp only [Option.some.injEq] at he; subst he; exact ⟨rfl, rfl, rfl, rfl⟩
      obtain ⟨rfl, rfl, h3, h4⟩ := hfld
      split at h
      · rename_i env' hset
        unfold consD at h
        split at h
        · rename_i es' envF' HF' hrest
          simp only [Option.some.injEq, Prod.mk.injEq] at h
          obtain ⟨rfl, rfl, rfl⟩ := h
          obtain ⟨h5, h6⟩ := runD_chain row env' e.H' es' envF' HF' hrest
          exact ⟨⟨h3, h4, he, env', hset, h5⟩, by simp [h6]⟩
        · simp at h
      · simp at h
    · simp at h

/-- What an entry says. -/
theorem ent_ok {env : T AV} {H : AH} {e : Ent} (h : entD X r ops env H e.i e.o = some e) : e.want = wantA ops env e.o ∧ (e.want = true → opF X r env H e.o.op = some (e.v, e.H')) ∧ (e.want = false → e.v = undefA ∧ e.H' = H) := by
  unfold entD at h
  rw [cond_eq_ite] at h
  split at h
  · rename_i hw
    split at h
    · rename_i v H' ho
      simp only [Option.some.injEq] at h
      have h1 : e.want = true := by rw [← h]
      have h2 : e.v = v := by rw [← h]
      have h3 : e.H' = H' := by rw [← h]
      rw [h1, h2, h3]
      exact ⟨hw.symm, fun _ => ho, fun h => by simp at h⟩
    · simp at h
  · rename_i hw
    simp only [Option.some.injEq] at h
    have h1 : e.want = false := by rw [← h]
    have h2 : e.v = undefA := by rw [← h]
    have h3 : e.H' = H := by rw [← h]
    rw [h1]
    exact ⟨by simpa using hw, fun h => by simp at h, fun _ => ⟨h2, h3⟩⟩

/-- An entry that is no effect makes new blocks alone. -/
theorem ent_ao {env : T AV} {H : AH} {e : Ent} (h : entD X r ops env H e.i e.o = some e) (hn : isEff (cls X e.o.op) = false) : AO H e.H' := by
  obtain ⟨_, h1, h2⟩ := ent_ok X r ops h
  cases hw : e.want with
  | false => rw [(h2 hw).2]; exact AO.refl H
  | true =>
    have ho := h1 hw
    unfold opF at ho
    split at ho
    · unfold wV at ho
      split at ho
      · simp only [Option.some.injEq, Prod.mk.injEq] at ho; rw [← ho.2]; exact AO.refl H
      · simp at ho
    · unfold wV at ho
      split at ho
      · simp only [Option.some.injEq, Prod.mk.injEq] at ho; rw [← ho.2]; exact AO.refl H
      · simp at ho
    · unfold wA at ho
      split at ho
      · split at ho
        · rename_i A H1 hnew
          simp only [Option.some.injEq, Prod.mk.injEq] at ho
          rw [← ho.2]; exact (AO.new hnew).1
        · simp at ho
      · simp at ho
    · rename_i hc; rw [hc] at hn; simp [isEff] at hn
    · rename_i hc; rw [hc] at hn; simp [isEff] at hn

/-- The heap as it stands ahead of the first effect that has not come up. -/
noncomputable def curH (D : List Nat) : List Ent → AH → AH
  | [], HF => HF
  | e :: es, HF => if isEff (cls X e.o.op) = true ∧ e.i ∉ D then e.H else curH D es HF

variable {X r nt ops}

/-- Where all effects in a stretch are still to come, up to the first of them there are new blocks alone. -/
theorem chain_ao : ∀ {es : List Ent} {env : T AV} {H : AH} {envF : T AV} {HF : AH} {D : List Nat}, Chain X r nt ops env H es envF HF → (∀ e ∈ es, isEff (cls X e.o.op) = true → e.i ∉ D) → AO H (curH X D es HF)
  | [], _, H, _, HF, D, h, _ => by obtain ⟨_, rfl⟩ := h; exact AO.refl _
  | e :: es, env, H, envF, HF, D, ⟨h1, h2, h3, env', h4, h5⟩, hD => by
    unfold curH
    split
    · rw [h2]; exact AO.refl H
    · rename_i hc
      have hn : isEff (cls X e.o.op) = false := by
        cases hh : isEff (cls X e.o.op) with
        | false => rfl
        | true => exact absurd ⟨hh, hD e (List.mem_cons_self ..) hh⟩ hc
      exact (ent_ao X r ops h3 hn).trans (chain_ao h5 (fun q hq => hD q (List.mem_cons_of_mem _ hq)))

theorem chain_at : ∀ {pre : List Ent} {e : Ent} {post : List Ent} {env : T AV} {H : AH} {envF : T AV} {HF : AH}, Chain X r nt ops env H (pre ++ e :: post) envF HF → Chain X r nt ops e.env e.H (e :: post) envF HF
  | [], e, post, env, H, envF, HF, h => by
    obtain ⟨h1, h2, h3, env', h4, h5⟩ := h
    subst h1 h2
    exact ⟨rfl, rfl, h3, env', h4, h5⟩
  | p :: pre, e, post, env, H, envF, HF, ⟨_, _, _, env', _, h5⟩ => chain_at (pre := pre) h5

theorem curH_pre : ∀ {pre l : List Ent} {HF : AH} {D : List Nat}, (∀ p ∈ pre, isEff (cls X p.o.op) = true → p.i ∈ D) → curH X D (pre ++ l) HF = curH X D l HF
  | [], _, _, _, _ => rfl
  | p :: pre, l, HF, D, h => by
    rw [List.cons_append, curH, if_neg (fun hc => hc.2 (h p (List.mem_cons_self ..) hc.1))]
    exact curH_pre (fun q hq => h q (List.mem_cons_of_mem _ hq))

theorem curH_add {D : List Nat} {j : Nat} : ∀ {es : List Ent} {HF : AH}, (∀ e ∈ es, e.i = j → isEff (cls X e.o.op) = false) → curH X (j :: D) es HF = curH X D es HF
  | [], _, _ => rfl
  | e :: es, HF, h => by
    simp only [curH]
    rw [curH_add (es := es) (fun q hq => h q (List.mem_cons_of_mem _ hq))]
    by_cases hj : e.i = j
    · have := h e (List.mem_cons_self ..) hj
      rw [if_neg (by simp [this]), if_neg (by simp [this])]
    · simp [hj]

/-- The slots as the entries have filled them. -/
theorem chain_env : ∀ {pre : List Ent} {e : Ent} {post : List Ent} {env : T AV} {H : AH} {envF : T AV} {HF : AH}, Chain X r nt ops env H (pre ++ e :: post) envF HF → (pre.map (·.o.dst)).Pairwise (fun a b => ∀ d, a = some d → b ≠ some d) →
    ∀ t, (∀ p ∈ pre, p.o.dst = some t → Eng.look e.env t = p.v) ∧ ((∀ p ∈ pre, p.o.dst ≠ some t) → Eng.look e.env t = Eng.look env t)
  | [], e, post, env, H, envF, HF, h, _, t => by
    obtain ⟨h1, _⟩ := h
    exact ⟨fun p hp => by simp at hp, fun _ => by rw [h1]⟩
  | p :: pre, e, post, env, H, envF, HF, ⟨h1, h2, h3, env', h4, h5⟩, hd, t => by
    simp only [List.map_cons, List.pairwise_cons] at hd
    obtain ⟨i1, i2⟩ := chain_env (pre := pre) h5 hd.2 t
    have hset : Eng.look env' t = if p.o.dst = some t then p.v else Eng.look env t := by
      cases hdst : p.o.dst with
      | none => rw [hdst] at h4; simp only [setD, Option.some.injEq] at h4; subst h4; simp
      | some d =>
        rw [hdst] at h4
        simp only [setD, cond_eq_ite] at h4
        split at h4
        · have hg := T.get_set _ _ _ _ _ h4
          unfold Eng.look; rw [hg]
          by_cases e : t = d
          · subst e; simp
          · rw [if_neg e, if_neg (by simpa using Ne.symm e)]
        · simp at h4
    refine ⟨fun q hq hqt => ?_, fun hno => ?_⟩
    · rcases List.mem_cons.1 hq with rfl | hq
      · rw [i2 (fun q' hq' hc => hd.1 _ (List.mem_map_of_mem hq') t hqt hc), hset, if_pos hqt]
      · exact i1 q hq hqt
    · rw [i2 (fun q hq => hno q (List.mem_cons_of_mem _ hq)), hset, if_neg (hno p (List.mem_cons_self ..))]
end
end Go.Eng
