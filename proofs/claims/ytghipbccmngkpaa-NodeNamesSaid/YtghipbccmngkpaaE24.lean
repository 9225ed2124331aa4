/- Engine, part 24: a region that draws its order does what its row does. No condition. -/
import Derived.Test.YtghipbccmngkpaaE23
namespace Go.Eng

theorem T.set_any {α : Type} : ∀ (f : Nat) (t t2 : T α) (n : Nat) (a b : α) (t' : T α), T.set f t n a = some t' → ∃ t3, T.set f t2 n b = some t3 := by
  intro f
  induction f with
  | zero => intro t t2 n a b t' h; simp [T.set_zero] at h
  | succ f ih =>
    have key : ∀ (t : T α) (n : Nat) (a : α), (∃ t', T.set (f + 1) t n a = some t') ↔ (n = 0 ∨ (n ≠ 0 ∧ n % 2 = 1 ∧ ∃ t', T.set f .leaf (n / 2) a = some t') ∨ (n ≠ 0 ∧ n % 2 ≠ 1 ∧ ∃ t', T.set f .leaf (n / 2 - 1) a = some t')) := by
      intro t n a
      have hl : ∀ (s : T α) (m : Nat), (∃ t', T.set f s m a = some t') ↔ ∃ t', T.set f .leaf m a = some t' := fun s m => ⟨fun ⟨t', h⟩ => ih _ _ _ _ _ _ h, fun ⟨t', h⟩ => ih _ _ _ _ _ _ h⟩
      by_cases h0 : n = 0
      · subst h0
        cases t with
        | leaf => simp [T.set_leaf]
        | node l v r => simp [T.set_node]
      · by_cases h1 : n % 2 = 1
        · cases t with
          | leaf =>
            rw [T.set_leaf, if_neg h0, if_pos h1]
            simp only [h0, h1, false_or, ne_eq, not_false_eq_true, true_and, not_true, false_and, or_false]
            cases hs : T.set f .leaf (n / 2) a <;> simp
          | node l v r =>
            rw [T.set_node, if_neg h0, if_pos h1, ← hl l]
            simp only [h0, h1, false_or, ne_eq, not_false_eq_true, true_and, not_true, false_and, or_false]
            cases hs : T.set f l (n / 2) a <;> simp
        · cases t with
          | leaf =>
            rw [T.set_leaf, if_neg h0, if_neg h1]
            simp only [h0, h1, false_or, ne_eq, not_false_eq_true, true_and, false_and]
            cases hs : T.set f .leaf (n / 2 - 1) a <;> simp
          | node l v r =>
            rw [T.set_node, if_neg h0, if_neg h1, ← hl r (n / 2 - 1)]
            simp only [h0, h1, false_or, ne_eq, not_false_eq_true, true_and, false_and]
            cases hs : T.set f r (n / 2 - 1) a <;> simp
    intro t t2 n a b t' h
    rw [key]
    rcases (key t n a).1 ⟨t', h⟩ with h | ⟨h1, h2, t3, h3⟩ | ⟨h1, h2, t3, h3⟩
    · exact .inl h
    · exact .inr (.inl ⟨h1, h2, ih _ _ _ _ _ _ h3⟩)
    · exact .inr (.inr ⟨h1, h2, ih _ _ _ _ _ _ h3⟩)

theorem setD_any {nt : Nat} {env env2 env' : T AV} {dst : Option Tmp} {v v2 : AV} (h : setD nt env dst v = some env') : ∃ e3, setD nt env2 dst v2 = some e3 := by
  cases dst with
  | none => exact ⟨_, rfl⟩
  | some d =>
    simp only [setD, cond_eq_ite] at h ⊢
    split at h
    · rename_i hd; rw [if_pos hd]; exact T.set_any _ _ _ _ _ _ _ h
    · simp at h
theorem setD_look {nt : Nat} {env env' : T AV} {dst : Option Tmp} {v : AV} (h : setD nt env dst v = some env') (t : Nat) : Eng.look env' t = if dst = some t then v else Eng.look env t := by
  cases dst with
  | none => simp only [setD, Option.some.injEq] at h; subst h; simp
  | some d =>
    simp only [setD, cond_eq_ite] at h
    split at h
    · have hg := T.get_set _ _ _ _ _ h
      unfold Eng.look; rw [hg]
      by_cases e : t = d
      · subst e; simp
      · rw [if_neg e, if_neg (by simpa using Ne.symm e)]
    · simp at h

theorem want_congr {ops : Array Oper} {env env' : T AV} {o : Oper} (h : ∀ t ∈ namesOf ops o, Eng.look env t = Eng.look env' t) : wantA ops env o = wantA ops env' o := by
  unfold wantA
  split
  · rfl
  · rename_i j want hg
    unfold wantG
    split
    · rename_i p hp
      split
      · rename_i d hd
        rw [h d (by simp [namesOf, hg, hp, hd])]
      · rfl
    · rfl
theorem opd_congr {ops : Array Oper} {env env' : T AV} {o : Oper} (h : ∀ t ∈ namesOf ops o, Eng.look env t = Eng.look env' t) : ∀ x ∈ o.op.operands.toList, opd env x = opd env' x := by
  intro x hx
  cases x with
  | tmp t => simp only [opd]; rw [h t (by simp only [namesOf, List.mem_append, List.mem_filterMap]; exact .inl ⟨.tmp t, hx, rfl⟩)]
  | _ => rfl

/-- It must come up ahead. -/
def Bef (ops : Array Oper) (j i : Nat) : Prop := ((befores ops.toList []).getD j 0).testBit i = true

/-- A row that was gone through, and what was looked after. -/
structure Row (X : Cx) (r : Fns) (nt : Nat) (ops : Array Oper) (env0 : T AV) (H0 : AH) (es : List Ent) (envF : T AV) (HF : AH) : Prop where
  chain : Chain X r nt ops env0 H0 es envF HF
  mem : ∀ e ∈ es, ops[e.i]? = some e.o
  nd : (es.map (·.i)).Nodup
  pair : es.Pairwise fun a b => (∀ d, a.o.dst = some d → b.o.dst ≠ some d) ∧ (isEff (cls X a.o.op) = true ∨ slotsMeet ops a.o b.o = true → Bef ops b.i a.i)
  see : es.Pairwise fun a b => a.want = true → isEff (cls X b.o.op) = true → ¬ Bef ops b.i a.i → cls X a.o.op = .L → aL X a.env b.H' a.o.op = some a.v

structure Inv (X : Cx) (nt : Nat) (env0 : T AV) (H0 : AH) (es : List Ent) (HF : AH) (R0 : Ren) (w0 : World) (D : List Nat) (R : Ren) (tmps : Array Value) (w : World) : Prop where
  env : ∃ envS, EnvR R envS nt tmps ∧ ∀ t, (∀ e ∈ es, e.i ∈ D → e.o.dst = some t → Eng.look envS t = e.v) ∧ ((∀ e ∈ es, e.i ∈ D → e.o.dst ≠ some t) → Eng.look envS t = Eng.look env0 t)
  rel : Rel R (curH X D es HF) w
  no : ∀ e ∈ es, e.want = true → cls X e.o.op = .A → e.i ∉ D → ∀ b d c, ¬ R e.H.next b d c
  ob : ∀ pre e post, es = pre ++ e :: post → (∀ p ∈ pre, isEff (cls X p.o.op) = true → p.i ∈ D) → e.want = true → cls X e.o.op = .A → e.i ∉ D → ∀ o mk, aA X e.env e.o.op = some (o, mk) → (curH X D es HF).h.get e.H.next = some o ∧ e.H.next < (curH X D es HF).next
  ext : Ext R0 H0 w0 R (curH X D es HF) w

section
variable {P : Program} {X : Cx} {r : Fns} {nt : Nat} {ops : Array Oper} {env0 : T AV} {H0 : AH} {es : List Ent} {envF : T AV} {HF : AH}

/-- An entry that makes a block. -/
theorem ent_new {env : T AV} {H : AH} {e : Ent} (h : entD X r ops env H e.i e.o = some e) (hw : e.want = true) (hc : cls X e.o.op = .A) : ∃ o mk, aA X env e.o.op = some (o, mk) ∧ e.v = mk H.next ∧ AO H e.H' ∧ e.H'.h.get H.next = some o ∧ e.H'.next = H.next + 1 := by
  have ho := (ent_ok X r ops h).2.1 hw
  unfold opF at ho
  rw [hc] at ho
  simp only at ho
  unfold wA at ho
  split at ho
  · rename_i o mk hA
    split at ho
    · rename_i A H1 hnew
      simp only [Option.some.injEq, Prod.mk.injEq] at ho
      obtain ⟨h1, h2⟩ := ho
      have hA' : A = H.next := by obtain ⟨t', _, e, _⟩ := newA_eq hnew; exact e
      obtain ⟨h3, h4, h5⟩ := AO.new hnew
      exact ⟨o, mk, hA, by rw [← h1, hA'], by rw [← h2]; exact h3, by rw [← h2]; exact h4, by rw [← h2]; exact h5⟩
    · simp at ho
  · simp at ho

/-- A block that is made behind all effects that have come up, and is still to come. -/
theorem ob_fresh {pre post : List Ent} {e : Ent} {D : List Nat} (hc : Chain X r nt ops env0 H0 es envF HF) (hes : es = pre ++ e :: post) (h1 : ∀ p ∈ pre, isEff (cls X p.o.op) = true → p.i ∈ D) (h2 : ∀ p ∈ post, isEff (cls X p.o.op) = true → p.i ∉ D)
    (hw : e.want = true) (hA : cls X e.o.op = .A) {o : AObj} {mk : Nat → AV} (ho : aA X e.env e.o.op = some (o, mk)) : (curH X D es HF).h.get e.H.next = some o ∧ e.H.next < (curH X D es HF).next := by
  subst hes
  rw [curH_pre h1]
  have hch := chain_at hc
  obtain ⟨_, _, h3, env', _, h5⟩ := hch
  rw [curH, if_neg (by rw [hA]; simp [isEff])]
  obtain ⟨o', mk', h6, _, h7, h8, h9⟩ := ent_new h3 hw hA
  rw [ho] at h6
  simp only [Option.some.injEq, Prod.mk.injEq] at h6
  obtain ⟨rfl, rfl⟩ := h6
  have hao := chain_ao h5 h2
  exact ⟨hao.2.2 _ _ h8, by have := hao.1; omega⟩

/-- What is read stays so up to the heap as it stands. -/
theorem see_cur {D : List Nat} {env : T AV} {o : Op} {v : AV} : ∀ {post : List Ent} {env1 : T AV} {H : AH}, Chain X r nt ops env1 H post envF HF → aL X env H o = some v →
    (∀ q ∈ post, isEff (cls X q.o.op) = true → q.i ∈ D → aL X env q.H' o = some v) → aL X env (curH X D post HF) o = some v
  | [], _, H, ⟨_, h⟩, hv, _ => by rw [curH, ← h]; exact hv
  | q :: post, env1, H, ⟨h1, h2, h3, env', h4, h5⟩, hv, hq => by
    rw [curH]
    split
    · rw [h2]; exact hv
    · rename_i hn
      refine see_cur h5 ?_ (fun p hp => hq p (List.mem_cons_of_mem _ hp))
      cases he : isEff (cls X q.o.op) with
      | false => exact aL_grows (ent_ao X r ops h3 he).2.2 _ hv
      | true =>
        refine hq q (List.mem_cons_self ..) he (Classical.byContradiction fun hc => hn ⟨he, hc⟩)

theorem Row.inj (hR : Row X r nt ops env0 H0 es envF HF) {e q : Ent} (he : e ∈ es) (hq : q ∈ es) (h : e.i = q.i) : e = q := by
  have := hR.nd
  clear hR
  induction es with
  | nil => simp at he
  | cons a l ih =>
    simp only [List.map_cons, List.nodup_cons, List.mem_map, not_exists, not_and] at this
    rcases List.mem_cons.1 he with rfl | he2
    · rcases List.mem_cons.1 hq with rfl | hq2
      · rfl
      · exact absurd h.symm (this.1 q hq2)
    · rcases List.mem_cons.1 hq with rfl | hq2
      · exact absurd h (this.1 e he2)
      · exact ih he2 hq2 this.2

theorem Row.dst (hR : Row X r nt ops env0 H0 es envF HF) {e q : Ent} (he : e ∈ es) (hq : q ∈ es) {t : Tmp} (h1 : e.o.dst = some t) (h2 : q.o.dst = some t) : e = q := by
  have := hR.pair
  clear hR
  induction es with
  | nil => simp at he
  | cons a l ih =>
    simp only [List.pairwise_cons] at this
    rcases List.mem_cons.1 he with rfl | he2
    · rcases List.mem_cons.1 hq with rfl | hq2
      · rfl
      · exact absurd h2 ((this.1 q hq2).1 t h1)
    · rcases List.mem_cons.1 hq with rfl | hq2
      · exact absurd h1 ((this.1 e he2).1 t h2)
      · exact ih he2 hq2 this.2

/-- The slots at the end. -/
theorem chain_last : ∀ {es : List Ent} {env : T AV} {H : AH} {envF : T AV} {HF : AH}, Chain X r nt ops env H es envF HF → (es.map (·.o.dst)).Pairwise (fun a b => ∀ d, a = some d → b ≠ some d) →
    ∀ t, (∀ p ∈ es, p.o.dst = some t → Eng.look envF t = p.v) ∧ ((∀ p ∈ es, p.o.dst ≠ some t) → Eng.look envF t = Eng.look env t)
  | [], env, H, envF, HF, h, _, t => by
    obtain ⟨h1, _⟩ := h
    exact ⟨fun p hp => by simp at hp, fun _ => by rw [h1]⟩
  | p :: pre, env, H, envF, HF, ⟨h1, h2, h3, env', h4, h5⟩, hd, t => by
    simp only [List.map_cons, List.pairwise_cons] at hd
    obtain ⟨i1, i2⟩ := chain_last h5 hd.2 t
    have hset := setD_look h4 t
    refine ⟨fun q hq hqt => ?_, fun hno => ?_⟩
    · rcases List.mem_cons.1 hq with rfl | hq
      · rw [i2 (fun q' hq' hc => hd.1 _ (List.mem_map_of_mem hq') t hqt hc), hset, if_pos hqt]
      · exact i1 q hq hqt
    · rw [i2 (fun q hq => hno q (List.mem_cons_of_mem _ hq)), hset, if_neg (hno p (List.mem_cons_self ..))]
theorem chain_out : ∀ {es : List Ent} {env : T AV} {H : AH} {envF : T AV} {HF : AH}, Chain X r nt ops env H es envF HF → (∀ t, nt ≤ t → env.get t = none) → ∀ t, nt ≤ t → envF.get t = none
  | [], env, H, envF, HF, h, ho, t, ht => by rw [← h.1]; exact ho t ht
  | p :: pre, env, H, envF, HF, ⟨h1, h2, h3, env', h4, h5⟩, ho, t, ht => by
    refine chain_out h5 (fun t ht => ?_) t ht
    cases hd : p.o.dst with
    | none => rw [hd] at h4; simp only [setD, Option.some.injEq] at h4; rw [← h4]; exact ho t ht
    | some d =>
      rw [hd] at h4
      simp only [setD, cond_eq_ite, Nat.blt_eq] at h4
      split at h4
      · rw [T.get_set _ _ _ _ _ h4, if_neg (by omega)]; exact ho t ht
      · simp at h4

theorem curH_all {D : List Nat} : ∀ {es : List Ent} {HF : AH}, (∀ e ∈ es, e.i ∈ D) → curH X D es HF = HF
  | [], _, _ => rfl
  | e :: es, HF, h => by
    rw [curH, if_neg (fun hc => hc.2 (h e (List.mem_cons_self ..)))]
    exact curH_all (fun q hq => h q (List.mem_cons_of_mem _ hq))
end
end Go.Eng
