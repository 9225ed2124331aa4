/- Engine, part 26: a region that draws its order. No condition. -/
import Derived.Test.YtghipbccmngkpaaE25
namespace Go.Eng

section
variable {P : Program} {X : Cx} (hX : Ok P X) {r : Fns} (hr : Good P r) (hm : Mono r) {nt : Nat} {ops : Array Oper} {env0 : T AV} {H0 : AH} {es : List Ent} {envF : T AV} {HF : AH}

include hX hr hm in
theorem inv_run (hR : Row X r nt ops env0 H0 es envF HF) (hall : ∀ j, j < ops.size → ∃ e ∈ es, e.i = j) {R0 : Ren} {w0 : World} {fr : Frame} {k : List Item} {cs : List Frame} (hmode : fr.mode = .run) : ∀ (rest D : List Nat) (R : Ren) (tmps : Array Value) (w : World),
    Valid .any ops D rest → (∀ j ∈ D, ∀ o, ops[j]? = some o → ∀ e ∈ o.after.toList, Region.binds .any e = true → e.on ∈ D) → Inv X nt env0 H0 es HF R0 w0 D R tmps w →
    ∃ R' w' tmps' D', Steps P (lone { fr with tmps := tmps, todo := .inRegion ops rest :: k } cs w) (lone { fr with tmps := tmps', todo := .inRegion ops [] :: k } cs w') ∧ Inv X nt env0 H0 es HF R0 w0 D' R' tmps' w' ∧ (∀ j, j ∈ D ∨ j ∈ rest → j ∈ D')
  | [], D, R, tmps, w, _, _, hI => ⟨R, w, tmps, D, .refl _ _, hI, fun j hj => by simpa using hj⟩
  | j :: rest, D, R, tmps, w, hv, hcl, hI => by
    obtain ⟨h1, h2, h3, h4⟩ := hv
    obtain ⟨e, he, hej⟩ := hall j h2
    have hb : ∀ i, Bef ops j i → i ∈ D := fun i hi => mask_before hcl j j (Nat.le_refl _) h3 i hi
    obtain ⟨R1, w1, z, hs1, hI1⟩ := inv_step hX hr hm hR (fr := { fr with tmps := tmps, todo := .inRegion ops (j :: rest) :: k }) (k := k) (cs := cs) hmode rfl hI h1 he hej hb
      (fun q hq hqD i hi => mask_before hcl q.i q.i (Nat.le_refl _) (fun o ho => hcl q.i hqD o ho) i hi)
    obtain ⟨R2, w2, t2, D2, hs2, hI2, hD2⟩ := inv_run hR hall hmode rest (j :: D) R1 (putT tmps e.o.dst z) w1 h4 (fun q hq o ho x hx hxb => by
      rcases List.mem_cons.1 hq with rfl | hq
      · exact List.mem_cons_of_mem _ (h3 o ho x hx hxb)
      · exact List.mem_cons_of_mem _ (hcl q hq o ho x hx hxb)) hI1
    refine ⟨R2, w2, t2, D2, hs1.trans hs2, hI2, fun i hi => hD2 i ?_⟩
    rcases hi with hi | hi
    · exact .inl (List.mem_cons_of_mem _ hi)
    · rcases List.mem_cons.1 hi with rfl | hi
      · exact .inl (List.mem_cons_self ..)
      · exact .inr hi

include hm in
theorem inv_first (hR : Row X r nt ops env0 H0 es envF HF) {R : Ren} {tmps : Array Value} {w : World} (hE : EnvR R env0 nt tmps) (hL : Rel R H0 w) : Inv X nt env0 H0 es HF R w [] R tmps w := by
  have hao : AO H0 (curH X [] es HF) := chain_ao hR.chain (fun _ _ _ => by simp)
  refine ⟨⟨env0, hE, fun t => ⟨fun e _ h => by simp at h, fun _ => rfl⟩⟩, hL.more hao, fun e he hw hA _ b d c h => ?_, fun pre e post hes h1 hw hA _ o mk ho => ?_, (Ext.refl R H0 w).more hao⟩
  · have := (hL.lt _ _ _ _ h).2
    have := (chain_next hm hR.chain).2 e he
    omega
  · exact ob_fresh hR.chain hes h1 (fun _ _ _ => by simp) hw hA ho

theorem nodupB_ok : ∀ (l : List Nat), nodupB l = true → l.Nodup
  | [], _ => List.nodup_nil
  | x :: l, h => by
    simp only [nodupB, Bool.and_eq_true, Bool.not_eq_true', List.contains_eq_mem, decide_eq_false_iff_not] at h
    exact List.nodup_cons.2 ⟨h.1, nodupB_ok l h.2⟩
theorem pairsOk_ok {masks : List Nat} : ∀ (l : List (Nat × Oper)), pairsOk X ops masks l = true → l.Pairwise fun a b => pairOk X ops masks a b = true
  | [], _ => List.Pairwise.nil
  | a :: l, h => by
    simp only [pairsOk, Bool.and_eq_true, List.all_eq_true] at h
    exact List.pairwise_cons.2 ⟨h.1, pairsOk_ok l h.2⟩
theorem seesOk_ok {masks : List Nat} : ∀ (l : List Ent), seesOk X masks l = true → l.Pairwise fun a b => seeOk X masks a b = true
  | [], _ => List.Pairwise.nil
  | a :: l, h => by
    simp only [seesOk, Bool.and_eq_true, List.all_eq_true] at h
    exact List.pairwise_cons.2 ⟨h.1, seesOk_ok l h.2⟩

theorem rowOf_mem {masks : List Nat} {a : Nat × Oper} (h : a ∈ rowOf X ops masks) : ops[a.1]? = some a.2 := by
  have base : ∀ a ∈ (List.range ops.size).filterMap (fun i => match nthO ops.toList i with | some o => some (i, o) | none => none), ops[a.1]? = some a.2 := by
    intro a ha
    obtain ⟨i, _, hi⟩ := List.mem_filterMap.1 ha
    split at hi
    · rename_i o ho
      simp only [Option.some.injEq] at hi
      subst hi
      rw [nthO_eq] at ho
      simpa using ho
    · simp at hi
  unfold rowOf at h
  simp only at h
  obtain ⟨s, _, hs⟩ := List.mem_flatMap.1 h
  rcases List.mem_append.1 hs with hs | hs
  · exact base a (List.mem_filter.1 (List.mem_filter.1 hs).1).1
  · split at hs
    · rename_i e he
      simp only [List.mem_singleton] at hs
      subst hs
      exact base a (List.mem_filter.1 (List.mem_of_getElem? he)).1
    · simp at hs

include hX hr hm in
theorem drawF_ok {id : Nat} {env env' : T AV} {H H' : AH} (h : drawF X r nt ops env H = some (env', H')) : SimCode P nt (.region id ops true) env H .normal env' H' := by
  intro R fr k cs w hmode ht hE hL
  unfold drawF at h
  split at h
  · rename_i row masks hplan
    split at h
    · rename_i es envF HF hrun
      rw [cond_eq_ite] at h
      split at h
      · rename_i hsee
        simp only [Option.some.injEq, Prod.mk.injEq] at h
        obtain ⟨rfl, rfl⟩ := h
        unfold plan at hplan
        simp only [cond_eq_ite] at hplan
        split at hplan
        · rename_i hok
          simp only [Option.some.injEq, Prod.mk.injEq] at hplan
          obtain ⟨hrow, hmasks⟩ := hplan
          obtain ⟨hchain, hmap⟩ := runD_chain X r nt ops _ _ _ _ _ _ hrun
          rw [← hrow] at hmap
          simp only [rowOk, Bool.and_eq_true] at hok
          obtain ⟨⟨⟨⟨hmodes, hnd⟩, hpairs⟩, hallB⟩, _⟩ := hok
          have hi : es.map (·.i) = (rowOf X ops (befores ops.toList [])).map (·.1) := by rw [← hmap]; simp
          have hmem : ∀ e ∈ es, ops[e.i]? = some e.o := fun e he => rowOf_mem (a := (e.i, e.o)) (by rw [← hmap]; exact List.mem_map.2 ⟨e, he, rfl⟩)
          have hpw := pairsOk_ok _ hpairs
          rw [← hmap, List.pairwise_map] at hpw
          have hse := seesOk_ok _ hsee
          have hR : Row X r nt ops env H es envF HF := by
            refine ⟨hchain, hmem, by rw [hi]; exact nodupB_ok _ hnd, hpw.imp ?_, hse.imp ?_⟩
            · intro a b hab
              simp only [pairOk, Bool.and_eq_true, Bool.or_eq_true, Bool.not_eq_true', Bool.or_eq_false_iff] at hab
              refine ⟨fun d h1 h2 => ?_, fun h3 => ?_⟩
              · simp [h1, h2] at hab
              · rcases hab.2 with h4 | h4
                · rcases h3 with h3 | h3
                  · rw [h4.1] at h3; simp at h3
                  · rw [h4.2] at h3; simp at h3
                · exact h4
            · intro a b hab hw hb hnb hL
              rw [← hmasks] at hab
              have hnb' : ((befores ops.toList []).getD b.i 0).testBit a.i = false := by
                cases hh : ((befores ops.toList []).getD b.i 0).testBit a.i with
                | false => rfl
                | true => exact absurd hh hnb
              simp only [seeOk, hw, hb, hnb', hL, Bool.not_false, Bool.and_self, cond_true] at hab
              split at hab
              · rename_i v hv; rw [hv, aveq_eq _ _ hab]
              · simp at hab
          have hall : ∀ j, j < ops.size → ∃ e ∈ es, e.i = j := by
            intro j hj
            simp only [List.all_eq_true, List.mem_range] at hallB
            have h1 := hallB j hj
            rw [← hi] at h1
            simp only [List.contains_eq_mem, decide_eq_true_eq, List.mem_map] at h1
            exact h1
          obtain ⟨hval, hcov⟩ := schedule_ok hmodes (P.follows .mixedOrders) (w.tape w.drawn (.order fr.fn id))
          have hI0 := inv_first hm hR hE (hL.drew (w.drawn + 1))
          obtain ⟨R1, w1, t1, D1, hs1, hI1, hD1⟩ := inv_run hX hr hm hR hall (fr := fr) (k := k) (cs := cs) hmode _ [] R fr.tmps _ hval (by simp) hI0
          have hallD : ∀ e ∈ es, e.i ∈ D1 := fun e he => hD1 _ (.inr (hcov _ (by
            have := hmem e he
            exact (Array.getElem?_eq_some_iff.1 this).1)))
          have hcF : curH X D1 es HF = HF := curH_all hallD
          have hrel := hI1.rel
          have hext := hI1.ext
          rw [hcF] at hrel hext
          refine ⟨R1, w1, t1, k, (Steps.one (st_draw hmode ht)).trans (hs1.trans (.one (st_region_end (fr := { fr with tmps := t1, todo := .inRegion ops [] :: k }) hmode rfl))), rfl, ?_, hrel, (Ext.drew R H w _).trans hext⟩
          obtain ⟨envS, hES, hlk⟩ := hI1.env
          have hpd : (es.map (·.o.dst)).Pairwise (fun a b => ∀ d, a = some d → b ≠ some d) := List.pairwise_map.2 (hR.pair.imp fun h => h.1)
          refine ⟨hES.size, fun t ht => ?_, chain_out hchain hE.out⟩
          have : Eng.look envF t = Eng.look envS t := by
            obtain ⟨h1, h2⟩ := chain_last hchain hpd t
            obtain ⟨h3, h4⟩ := hlk t
            by_cases hex : ∃ e ∈ es, e.o.dst = some t
            · obtain ⟨e, he, het⟩ := hex
              rw [h1 e he het, h3 e he (hallD e he) het]
            · rw [h2 (fun p hp hc => hex ⟨p, hp, hc⟩), h4 (fun p hp _ hc => hex ⟨p, hp, hc⟩)]
          rw [this]; exact hES.get t ht
        · simp at hplan
      · simp at h
    · simp at h
  · simp at h
end
end Go.Eng
