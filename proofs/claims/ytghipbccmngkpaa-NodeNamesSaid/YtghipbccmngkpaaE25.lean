/- Engine, part 25: one operation of a region that draws its order, and the region. No condition. -/
import Derived.Test.YtghipbccmngkpaaE24
namespace Go.Eng

section
variable {P : Program} {X : Cx} (hX : Ok P X) {r : Fns} (hr : Good P r) (hm : Mono r) {nt : Nat} {ops : Array Oper} {env0 : T AV} {H0 : AH} {es : List Ent} {envF : T AV} {HF : AH}

include hX hr hm in
theorem inv_step (hR : Row X r nt ops env0 H0 es envF HF) {R0 R : Ren} {w0 w : World} {D : List Nat} {fr : Frame} {k : List Item} {cs : List Frame} {j : Nat} {rest : List Nat} (hmode : fr.mode = .run) (ht : fr.todo = .inRegion ops (j :: rest) :: k)
    (hI : Inv X nt env0 H0 es HF R0 w0 D R fr.tmps w) (hj : j ∉ D) {e : Ent} (he : e ∈ es) (hej : e.i = j) (hbef : ∀ i, Bef ops j i → i ∈ D) (hcl : ∀ q ∈ es, q.i ∈ D → ∀ i, Bef ops q.i i → i ∈ D) :
    ∃ R' w' z, Steps P (lone fr cs w) (lone { fr with tmps := putT fr.tmps e.o.dst z, todo := .inRegion ops rest :: k } cs w') ∧ Inv X nt env0 H0 es HF R0 w0 (j :: D) R' (putT fr.tmps e.o.dst z) w' := by
  obtain ⟨pre, post, hes⟩ := List.append_of_mem he
  obtain ⟨envS, hE, hlk⟩ := hI.env
  have hpw := hR.pair
  rw [hes, List.pairwise_append, List.pairwise_cons] at hpw
  obtain ⟨hpw1, ⟨hpw2, hpw3⟩, hpw4⟩ := hpw
  have hnd := hR.nd
  rw [hes, List.map_append, List.map_cons, List.nodup_append, List.nodup_cons] at hnd
  have hne : ∀ q ∈ post, q.i ≠ e.i := fun q hq h => hnd.2.1.1 (List.mem_map.2 ⟨q, hq, h⟩)
  have hpre : ∀ p ∈ pre, isEff (cls X p.o.op) = true → p.i ∈ D := fun p hp hpe => hbef _ (by rw [← hej]; exact (hpw4 p hp e (List.mem_cons_self ..)).2 (.inl hpe))
  have hinpre : ∀ p ∈ pre, p ∈ es := fun p hp => by rw [hes]; exact List.mem_append_left _ hp
  have hinpost : ∀ p ∈ post, p ∈ es := fun p hp => by rw [hes]; exact List.mem_append_right _ (List.mem_cons_of_mem _ hp)
  have hpost : isEff (cls X e.o.op) = true → ∀ q ∈ post, q.i ∉ D := fun hee q hq hc => hj (by rw [← hej]; exact hcl q (hinpost q hq) hc _ ((hpw2 q hq).2 (.inl hee)))
  have hch := hR.chain
  rw [hes] at hch
  have hpd : (pre.map (·.o.dst)).Pairwise (fun a b => ∀ d, a = some d → b ≠ some d) := List.pairwise_map.2 (hpw1.imp fun h => h.1)
  have hnames : ∀ t ∈ namesOf ops e.o, Eng.look envS t = Eng.look e.env t := by
    intro t htn
    obtain ⟨h1, h2⟩ := chain_env hch hpd t
    obtain ⟨h3, h4⟩ := hlk t
    by_cases hex : ∃ p ∈ pre, p.o.dst = some t
    · obtain ⟨p, hp, hpt⟩ := hex
      have hmeet : slotsMeet ops p.o e.o = true := by
        simp only [slotsMeet, hpt, Bool.or_eq_true]
        exact .inl (by simpa using htn)
      rw [h1 p hp hpt, h3 p (hinpre p hp) (hbef _ (by rw [← hej]; exact (hpw4 p hp e (List.mem_cons_self ..)).2 (.inr hmeet))) hpt]
    · have hno : ∀ p ∈ pre, p.o.dst ≠ some t := fun p hp h => hex ⟨p, hp, h⟩
      rw [h2 hno, h4 (fun q hq hqD hqt => ?_)]
      rw [hes] at hq
      rcases List.mem_append.1 hq with hq | hq
      · exact hno q hq hqt
      · rcases List.mem_cons.1 hq with rfl | hq
        · exact hj (hej ▸ hqD)
        · have hmeet : slotsMeet ops e.o q.o = true := by
            simp only [slotsMeet, hqt, Bool.or_eq_true]
            exact .inr (by simpa using htn)
          exact hj (by rw [← hej]; exact hcl q (hinpost q hq) hqD _ ((hpw2 q hq).2 (.inr hmeet)))
  have hopds := opd_congr hnames
  have hcur : curH X D es HF = curH X D (e :: post) HF := by rw [hes]; exact curH_pre hpre
  obtain ⟨_, _, hent, env1, hset, hch1⟩ := chain_at hch
  obtain ⟨hwant, hyes, hnot⟩ := ent_ok X r ops hent
  have hw : Region.wanted e.o (yielded ops fr.tmps) = e.want := by rw [← want_ok hE, hwant, want_congr hnames]
  have hoe : ops[j]? = some e.o := by rw [← hej]; exact hR.mem e he
  have hD' : ∀ q ∈ es, q.i ∈ j :: D → q = e ∨ q.i ∈ D := fun q hq h => by
    rcases List.mem_cons.1 h with h | h
    · exact .inl (hR.inj hq he (h.trans hej.symm))
    · exact .inr h
  have heD : e.i ∈ j :: D := by rw [hej]; exact List.mem_cons_self ..
  -- the slots
  have henv : ∀ R' z, Sub R R' → VR R' e.v z → ∃ envS', EnvR R' envS' nt (putT fr.tmps e.o.dst z) ∧ ∀ t, (∀ q ∈ es, q.i ∈ j :: D → q.o.dst = some t → Eng.look envS' t = q.v) ∧ ((∀ q ∈ es, q.i ∈ j :: D → q.o.dst ≠ some t) → Eng.look envS' t = Eng.look env0 t) := by
    intro R' z hsub hv
    obtain ⟨envS', hs'⟩ := setD_any (env2 := envS) (v2 := e.v) hset
    refine ⟨envS', (hE.mono hsub).put hv hs', fun t => ⟨fun q hq hqD hqt => ?_, fun hno => ?_⟩⟩
    · rw [setD_look hs']
      by_cases het : e.o.dst = some t
      · rw [if_pos het, hR.dst hq he hqt het]
      · rw [if_neg het]
        rcases hD' q hq hqD with rfl | h
        · exact absurd hqt het
        · exact (hlk t).1 q hq h hqt
    · rw [setD_look hs', if_neg (hno e he heD)]
      exact (hlk t).2 (fun q hq h => hno q hq (List.mem_cons_of_mem _ h))
  -- no effect
  have hnon : isEff (cls X e.o.op) = false → ∀ R' w' z, Sub R R' → VR R' e.v z → Rel R' (curH X D es HF) w' → (∀ q ∈ es, q.want = true → cls X q.o.op = .A → q.i ∉ j :: D → ∀ b d c, ¬ R' q.H.next b d c) → Ext R0 H0 w0 R' (curH X D es HF) w' → Inv X nt env0 H0 es HF R0 w0 (j :: D) R' (putT fr.tmps e.o.dst z) w' := by
    intro hn R' w' z hsub hv hrel hno hext
    have hc : curH X (j :: D) es HF = curH X D es HF := curH_add (fun q hq hqj => by rw [hR.inj hq he (hqj.trans hej.symm)]; exact hn)
    refine ⟨henv R' z hsub hv, by rw [hc]; exact hrel, hno, fun p q po hq h1 hqw hqA hqD o mk ho => ?_, by rw [hc]; exact hext⟩
    rw [hc]
    refine hI.ob p q po hq (fun x hx hxe => ?_) hqw hqA (fun h => hqD (List.mem_cons_of_mem _ h)) o mk ho
    rcases hD' x (by rw [hq]; exact List.mem_append_left _ hx) (h1 x hx hxe) with rfl | h
    · rw [hn] at hxe; simp at hxe
    · exact h
  -- an effect
  have heff : isEff (cls X e.o.op) = true → ∀ R' w' z, VR R' e.v z → Rel R' e.H' w' → Ext R e.H w R' e.H' w' → Inv X nt env0 H0 es HF R0 w0 (j :: D) R' (putT fr.tmps e.o.dst z) w' := by
    intro hee R' w' z hv hrel hext
    have hcD : curH X D es HF = e.H := by rw [hcur, curH, if_pos ⟨hee, by rw [hej]; exact hj⟩]
    have hcD' : curH X (j :: D) es HF = curH X (j :: D) post HF := by
      rw [hes, curH_pre (fun p hp h => List.mem_cons_of_mem _ (hpre p hp h)), curH, if_neg (fun hc => hc.2 heD)]
    have hpD : ∀ q ∈ post, q.i ∉ j :: D := fun q hq h => by
      rcases List.mem_cons.1 h with h | h
      · exact hne q hq (h.trans hej.symm)
      · exact hpost hee q hq h
    have hao : AO e.H' (curH X (j :: D) post HF) := chain_ao hch1 (fun q hq _ => hpD q hq)
    refine ⟨henv R' z hext.sub hv, by rw [hcD']; exact hrel.more hao, fun q hq hqw hqA hqD b d c hr' => ?_, fun p q po hq h1 hqw hqA hqD o mk ho => ?_, ?_⟩
    · rw [hes] at hq
      rcases List.mem_append.1 hq with hq | hq
      · rcases hext.newA _ _ _ _ hr' with h | h
        · exact hI.no q (hinpre q hq) hqw hqA (fun h => hqD (List.mem_cons_of_mem _ h)) _ _ _ h
        · obtain ⟨p1, p2, hp⟩ := List.append_of_mem hq
          have hch2 := hch
          rw [hp, List.append_assoc, List.cons_append] at hch2
          obtain ⟨_, _, hq3, env2, _, hq5⟩ := chain_at hch2
          obtain ⟨_, _, _, _, _, _, h9⟩ := ent_new hq3 hqw hqA
          have := (chain_next hm hq5).2 e (by simp)
          omega
      · rcases List.mem_cons.1 hq with rfl | hq
        · exact hqD heD
        · have := (hrel.lt _ _ _ _ hr').2
          have := (chain_next hm hch1).2 q hq
          omega
    · rcases List.append_eq_append_iff.1 (hes.symm.trans hq) with ⟨a, ha1, ha2⟩ | ⟨a, ha1, ha2⟩
      · cases a with
        | nil =>
          simp only [List.nil_append, List.cons.injEq] at ha2
          exact absurd heD (by rw [ha2.1]; exact hqD)
        | cons x a =>
          simp only [List.cons_append, List.cons.injEq] at ha2
          exact ob_fresh hR.chain hq h1 (fun x hx _ => hpD x (by rw [ha2.2]; simp [hx])) hqw hqA ho
      · cases a with
        | nil =>
          simp only [List.nil_append, List.cons.injEq] at ha2
          exact absurd heD (by rw [← ha2.1]; exact hqD)
        | cons x a =>
          simp only [List.cons_append, List.cons.injEq] at ha2
          have hxq := ha2.1
          subst hxq
          have hqpre : q ∈ pre := by rw [ha1]; simp
          have hqD' : q.i ∉ D := fun h => hqD (List.mem_cons_of_mem _ h)
          obtain ⟨h2, h3⟩ := hI.ob p q po hq (fun x hx hxe => hpre x (by rw [ha1]; simp [hx]) hxe) hqw hqA hqD' o mk ho
          rw [hcD] at h2 h3
          rw [hcD', hao.2.1 _ (Nat.lt_of_lt_of_le h3 hext.next), hext.keepA _ h3 (hI.no q (hinpre q hqpre) hqw hqA hqD')]
          exact ⟨h2, Nat.lt_of_lt_of_le h3 (Nat.le_trans hext.next hao.1)⟩
    · rw [hcD']
      have := hI.ext
      rw [hcD] at this
      exact (this.trans hext).more hao
  have hnoD : ∀ q ∈ es, q.want = true → cls X q.o.op = .A → q.i ∉ j :: D → ∀ b d c, ¬ R q.H.next b d c := fun q hq hqw hqA hqD => hI.no q hq hqw hqA (fun h => hqD (List.mem_cons_of_mem _ h))
  cases hwe : e.want with
  | false =>
    rw [hwe] at hw
    obtain ⟨hv, hH'⟩ := hnot hwe
    refine ⟨R, w, undef, by rw [← finish_region ht hoe]; exact .one (st_passed hmode ht hoe hw), ?_⟩
    have hvr : VR R e.v undef := by rw [hv]; exact VR_undef R
    cases hee : isEff (cls X e.o.op) with
    | false => exact hnon hee R w undef (Sub.refl R) hvr hI.rel hnoD hI.ext
    | true =>
      have hcD : curH X D es HF = e.H := by rw [hcur, curH, if_pos ⟨hee, by rw [hej]; exact hj⟩]
      refine heff hee R w undef hvr ?_ ?_
      · rw [hH', ← hcD]; exact hI.rel
      · rw [hH']; exact Ext.refl _ _ _
  | true =>
    rw [hwe] at hw
    have hop := hyes hwe
    have hd : ∀ c, e.o.op ≠ .defer c := by
      intro c hc
      rw [hc] at hop
      simp [opF, cls, aE] at hop
    cases hcl' : cls X e.o.op with
    | P =>
      have ho := hop
      unfold opF at ho
      rw [hcl'] at ho
      simp only at ho
      unfold wV at ho
      split at ho
      · rename_i x hx
        simp only [Option.some.injEq, Prod.mk.injEq] at ho
        rw [← aP_congr _ hopds] at hx
        obtain ⟨z, h1, h2⟩ := simP hX hI.rel.fn (w := w) hE hx
        refine ⟨R, w, z, by rw [← finish_region ht hoe]; exact .one (st_value hmode ht hoe hw hd h1), hnon (by rw [hcl']; rfl) R w z (Sub.refl R) (by rw [← ho.1]; exact h2) hI.rel hnoD hI.ext⟩
      · simp at ho
    | L =>
      have ho := hop
      unfold opF at ho
      rw [hcl'] at ho
      simp only at ho
      unfold wV at ho
      split at ho
      · rename_i x hx
        simp only [Option.some.injEq, Prod.mk.injEq] at ho
        have hx2 : aL X e.env (curH X D es HF) e.o.op = some x := by
          rw [hcur, curH, if_neg (by rw [hcl']; simp [isEff])]
          refine see_cur hch1 (by rw [← ho.2]; exact hx) (fun q hq hqe hqD => ?_)
          have hse := hR.see
          rw [hes, List.pairwise_append, List.pairwise_cons] at hse
          rw [ho.1]
          exact hse.2.1.1 q hq hwe hqe (fun hb => hj (by rw [← hej]; exact hcl q (hinpost q hq) hqD _ hb)) hcl'
        rw [← aL_congr _ hopds] at hx2
        obtain ⟨z, h1, h2⟩ := simL hX hI.rel hE hx2
        refine ⟨R, w, z, by rw [← finish_region ht hoe]; exact .one (st_value hmode ht hoe hw hd h1), hnon (by rw [hcl']; rfl) R w z (Sub.refl R) (by rw [← ho.1]; exact h2) hI.rel hnoD hI.ext⟩
      · simp at ho
    | A =>
      obtain ⟨o, mk, hA, hv, h3, h4, h5⟩ := ent_new hent hwe hcl'
      obtain ⟨hob1, hob2⟩ := hI.ob pre e post hes hpre hwe hcl' (by rw [hej]; exact hj) o mk hA
      have hA2 := hA
      rw [← aA_congr _ hopds] at hA2
      obtain ⟨s, hs, x, c, kk, z, hz1, hz2⟩ := simA hX (w := w) hE hA2
      obtain ⟨hz3, hz4⟩ := hz2 e.H.next
      have hno := hI.no e he hwe hcl' (by rw [hej]; exact hj)
      refine ⟨R.add e.H.next w.heap.size 0 c, World.alloc { w with drawn := kk } x, z, ?_, ?_⟩
      · rw [← finish_region ht hoe]
        refine .one (st_value hmode ht hoe hw hd ?_)
        rw [hs]
        simp only [Sem.run_bind, hz1, Result.andThen]; rfl
      · refine hnon (by rw [hcl']; rfl) _ _ z (R.sub_add _ _ _ _) (by rw [hv]; exact hz4) ?_ ?_ ?_
        · exact (hI.rel.drew kk).add (w := { w with drawn := kk }) hob1 hob2 hno hz3
        · intro q hq hqw hqA hqD b d c'
          rintro (h | ⟨h, _⟩)
          · exact hnoD q hq hqw hqA hqD _ _ _ h
          · rw [hes] at hq
            rcases List.mem_append.1 hq with hq | hq
            · obtain ⟨p1, p2, hp⟩ := List.append_of_mem hq
              have hch2 := hch
              rw [hp, List.append_assoc, List.cons_append] at hch2
              obtain ⟨_, _, hq3, env2, _, hq5⟩ := chain_at hch2
              obtain ⟨_, _, _, _, _, _, h9⟩ := ent_new hq3 hqw hqA
              have := (chain_next hm hq5).2 e (by simp)
              omega
            · rcases List.mem_cons.1 hq with rfl | hq
              · exact hqD heD
              · have := (chain_next hm hch1).2 q hq
                omega
        · have hx := hI.ext
          have hn0 : H0.next ≤ e.H.next := (chain_next hm hR.chain).2 e he
          refine ⟨hx.sub.trans (R.sub_add _ _ _ _), ?_, ?_, hx.next, hx.keepA, hx.os, hx.tape, hx.output, ?_, ?_⟩
          · rintro A b d c' (h | ⟨rfl, rfl, rfl, rfl⟩)
            · exact hx.new _ _ _ _ h
            · exact .inr (.inl hx.size)
          · rintro A b d c' (h | ⟨rfl, rfl, rfl, rfl⟩)
            · exact hx.newA _ _ _ _ h
            · exact .inr hn0
          · rw [heap_alloc_size]; exact Nat.le_succ_of_le hx.size
          · intro b hb hk
            exact (heap_alloc_old { w with drawn := kk } x b (Nat.lt_of_lt_of_le hb hx.size)).trans (hx.keep b hb hk)
    | E =>
      have hcD : curH X D es HF = e.H := by rw [hcur, curH, if_pos ⟨by rw [hcl']; rfl, by rw [hej]; exact hj⟩]
      have hL := hI.rel
      rw [hcD] at hL
      rw [← opF_congr _ hopds] at hop
      obtain ⟨R', w', z, h1, h2, h3, h4⟩ := opF_ok hX hr (cs := cs) hmode ht hoe hw hE hL hop
      exact ⟨R', w', z, h1, heff (by rw [hcl']; rfl) R' w' z h2 h3 h4⟩
    | C =>
      have hcD : curH X D es HF = e.H := by rw [hcur, curH, if_pos ⟨by rw [hcl']; rfl, by rw [hej]; exact hj⟩]
      have hL := hI.rel
      rw [hcD] at hL
      rw [← opF_congr _ hopds] at hop
      obtain ⟨R', w', z, h1, h2, h3, h4⟩ := opF_ok hX hr (cs := cs) hmode ht hoe hw hE hL hop
      exact ⟨R', w', z, h1, heff (by rw [hcl']; rfl) R' w' z h2 h3 h4⟩
end
end Go.Eng
