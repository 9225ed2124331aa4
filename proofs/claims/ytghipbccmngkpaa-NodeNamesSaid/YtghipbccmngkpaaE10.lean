/- Engine, part 10: the operations that touch no memory, all together. No condition. -/
import Derived.Test.YtghipbccmngkpaaE9
namespace Go.Eng

theorem run_val {P : Program} {s : Sem Value} {v : Value} {w w' : World} (h : s.run P w = .ok v w') : (do pure (Next.value (← s)) : Sem Next).run P w = .ok (.value v) w' := by
  simp only [Sem.run_bind, h, Result.andThen]; rfl

/-- Parts laid over cells, on both sides. -/
theorem foldl_arrSet (off : Nat) : ∀ (l : List Value) (k : Nat) (arr : Array Value), (l.zipIdx k).foldl (fun cs (x : Value × Nat) => cs.setIfInBounds (off + x.2) x.1) arr = arrSet arr (off + k) l
  | [], _, _ => rfl
  | v :: l, k, arr => by
    simp only [List.zipIdx_cons, List.foldl_cons, arrSet]
    rw [foldl_arrSet off l (k + 1)]; rfl

inductive PR (R : Ren) : List (Nat × AV) → List (Nat × Value) → Prop
  | nil : PR R [] []
  | cons {i : Nat} {x : AV} {v : Value} {l : List (Nat × AV)} {m : List (Nat × Value)} (h : VR R x v) (t : PR R l m) : PR R ((i, x) :: l) ((i, v) :: m)

theorem fill_ok {R : Ren} {place place' : Nat → Option (Nat × Nat)} (hp : ∀ i x, place i = some x → place' i = some x) : ∀ {ps : List (Nat × AV)} {qs : List (Nat × Value)}, PR R ps qs → ∀ {cells r : List AV} {arr : Array Value}, fillA place cells ps = some r → VRL R cells arr.toList →
    ∃ arr', Instr.fill place' arr qs = some arr' ∧ VRL R r arr'.toList := by
  intro ps qs h
  induction h with
  | nil => intro cells r arr h1 h2; simp only [fillA, Option.some.injEq] at h1; subst h1; exact ⟨arr, rfl, h2⟩
  | @cons i x v l m hx ht ih =>
    intro cells r arr h1 h2
    simp only [fillA] at h1
    split at h1
    · simp at h1
    · rename_i off size hpl
      simp only [cond_eq_ite, lenL_zero, Nat.beq_eq] at h1
      split at h1
      · rename_i hsz
        split at h1
        · rename_i cells' hs
          obtain ⟨e1, e2⟩ := setAt_eq _ _ _ _ hs
          have hc := cells_ok hx
          have hcl := VRL.length _ _ hc
          have hal := VRL.length _ _ h2
          rw [Array.length_toList] at hcl hal
          have hnew : VRL R cells' (arrSet arr off v.cells.toList).toList := by
            rw [arrSet_toList _ _ _ (by rw [Array.length_toList]; omega), e1]
            refine (VRL.append ((h2.take off).append hc) ?_)
            have e3 : v.cells.toList.length = (cellsA x).length := by rw [Array.length_toList]; exact hcl
            rw [e3]
            exact h2.drop _
          obtain ⟨arr', h3, h4⟩ := ih h1 hnew
          refine ⟨arr', ?_, h4⟩
          rw [Instr.fill, hp _ _ hpl]
          simp only
          rw [if_neg (by simp; omega)]
          have ef : v.cells.zipIdx.foldl (fun cs (x : Value × Nat) => cs.setIfInBounds (off + x.2) x.1) arr = arrSet arr off v.cells.toList := by
            rw [← Array.foldl_toList, Array.toList_zipIdx, foldl_arrSet]; rfl
          exact (congrArg (fun z => Instr.fill place' z m) ef).trans h3
        · simp at h1
      · simp at h1

theorem natOf_ok {R : Ren} {x : AV} {v : Value} {n : Nat} (h : natOf x = some n) (hv : VR R x v) : ∃ k, v = .int k (n : Int) := by
  unfold natOf at h
  split at h
  · rename_i k m
    simp only [Option.some.injEq] at h; subst h
    simp only [VR] at hv
    exact ⟨k, hv⟩
  · simp at h

theorem parts_ok {R : Ren} {env : T AV} {n : Nat} {fr : Frame} (h : EnvR R env n fr.tmps) : ∀ (ps : List (Nat × Operand)) (qs : List (Nat × AV)), partsA env ps = some qs → PR R qs (ps.map fun (i, x) => (i, fr.eval x))
  | [], qs, e => by simp only [partsA, Option.some.injEq] at e; subst e; exact .nil
  | (i, x) :: ps, qs, e => by
    simp only [partsA] at e
    split at e
    · rename_i v vs hv hvs
      simp only [Option.some.injEq] at e; subst e
      exact .cons (opd_ok h x v hv) (parts_ok h ps vs hvs)
    · simp at e

section
variable {P : Program} {X : Cx} (hX : Ok P X) {R : Ren} (hR : RFn R) {w : World}
include hX

theorem places_ok : ∀ (fs : List Field) (pl : List (Nat × Nat)), placesA X fs = some pl → fs.mapM (fun f => (P.info? f.type).map fun i => (f.offset, i.size)) = some pl
  | [], pl, h => by simp only [placesA, Option.some.injEq] at h; subst h; rfl
  | f :: fs, pl, h => by
    simp only [placesA] at h
    split at h
    · rename_i n r hn hr
      simp only [Option.some.injEq] at h; subst h
      obtain ⟨i, h1, h2⟩ := hX.size hn
      simp [List.mapM_cons, h1, h2, places_ok fs r hr]
    · simp at h

theorem part_ok {t : TypeId} {d : TypeDesc} {n off : Nat} {cs : List AV} {r : AV} {l : List Value} (hd : X.und t = some d) (hn : X.size t = some n) (hl : VRL R cs l)
    (h : (bif isAggD d then (match subN cs off n with | some c => some (.agg c) | none => none) else nth cs off) = some r) : ∃ v, (part t ⟨l⟩ off).run P w = .ok v w ∧ VR R r v := by
  rw [cond_eq_ite] at h
  split at h
  · rename_i ha
    split at h
    · rename_i c hc
      simp only [Option.some.injEq] at h; subst h
      obtain ⟨e1, e2⟩ := subN_eq _ _ _ _ hc
      refine ⟨.agg ((⟨l⟩ : Array Value).extract off (off + n)), ?_, ?_⟩
      · simp only [part, Sem.run_bind, hX.run_isAgg hd, hX.run_size hn, Result.andThen, ha, if_true]; rfl
      · refine ⟨((⟨l⟩ : Array Value).extract off (off + n)).toList, rfl, ?_⟩
        rw [e1, Array.toList_extract]
        have := (hl.drop off).take n
        simpa [List.extract, List.take_drop] using this
    · simp at h
  · rename_i ha
    rw [nth_eq] at h
    obtain ⟨v, hv, hxv⟩ := VRL.get _ _ hl _ _ h
    refine ⟨v, ?_, hxv⟩
    have ha' : isAggD d = false := by simpa using ha
    have hv' : (⟨l⟩ : Array Value)[off]? = some v := by simpa using hv
    simp only [part, Sem.run_bind, hX.run_isAgg hd, Result.andThen, ha', Bool.false_eq_true, if_false, hv']; rfl

theorem afield_ok {t : TypeId} {f : Nat} {x r : AV} {v : Value} (h : afield X t x f = some r) (hv : VR R x v) : ∃ z, (Instr.field t v f).run P w = .ok z w ∧ VR R r z := by
  unfold afield at h
  split at h
  · rename_i fs cs hd
    split at h
    · rename_i fl hf
      split at h
      · rename_i d n hd2 hn
        obtain ⟨l, rfl, hl⟩ := hv
        obtain ⟨z, hz, hrz⟩ := part_ok hX (w := w) hd2 hn hl h
        refine ⟨z, ?_, hrz⟩
        rw [nthF_eq] at hf
        have hf' : fs[f]? = some fl := by simpa using hf
        simp only [Instr.field, Sem.run_bind, hX.run_und hd, Result.andThen, hf']
        exact hz
      · simp at h
    · simp at h
  · simp at h

theorem aindex_ok {t : TypeId} {x i r : AV} {v u : Value} (h : aindex X t x i = some r) (hv : VR R x v) (hu : VR R i u) : ∃ z, (Instr.index t v u).run P w = .ok z w ∧ VR R r z := by
  unfold aindex at h
  split at h
  · rename_i m hm
    obtain ⟨k, rfl⟩ := natOf_ok hm hu
    split at h
    · rename_i len bits hd
      obtain ⟨s, rfl, rfl, rfl⟩ := hv
      simp only [cond_eq_ite, Nat.blt_eq] at h
      split at h
      · rename_i hlt
        rw [fN_eq, Option.some.injEq] at h; subst h
        refine ⟨.int .u8 s[m].toNat, ?_, ?_⟩
        · have e : (if 0 ≤ (m : Int) then s[(m : Int).toNat]? else none) = some s[m] := by
            rw [if_pos (by omega), Int.toNat_natCast]
            exact getElem?_pos s m hlt
          simp only [Instr.index, asIntOf, Sem.run_bind, Sem.run_pure, hX.run_und hd, Result.andThen, e]
        · simp only [VR]
          congr 1
          have := pack_get s.data.toList m (by rw [size_data]; exact hlt)
          rw [pow8]
          have e2 : s.data.toList[m]'(by rw [size_data]; exact hlt) = s[m] := by simp; rfl
          rw [← e2, this]; rfl
      · simp at h
    · rename_i n e cs hd
      obtain ⟨l, rfl, hl⟩ := hv
      split at h
      · rename_i d sz hd2 hsz
        simp only [cond_eq_ite, Nat.blt_eq] at h
        split at h
        · rename_i hlt
          obtain ⟨z, hz, hrz⟩ := part_ok hX (w := w) (off := m * sz) hd2 hsz hl (by rw [cond_eq_ite]; exact h)
          refine ⟨z, ?_, hrz⟩
          simp only [Instr.index, asIntOf, Sem.run_bind, Sem.run_pure, hX.run_und hd, Result.andThen]
          rw [if_pos (by omega)]
          simp only [Sem.run_bind, hX.run_size hsz, Result.andThen, Int.toNat_natCast]
          exact hz
        · simp at h
      · simp at h
    · simp at h
  · simp at h

theorem aindexAddr_ok {t : TypeId} {x i r : AV} {v u : Value} (h : aindexAddr X t x i = some r) (hv : VR R x v) (hu : VR R i u) : ∃ z, (Instr.indexAt t v u).run P w = .ok z w ∧ VR R r z := by
  unfold aindexAddr at h
  split at h
  · rename_i m hm
    obtain ⟨k, rfl⟩ := natOf_ok hm hu
    split at h
    · rename_i n e A off hd
      obtain ⟨b, d, c, hr, rfl⟩ := hv
      split at h
      · rename_i sz hsz
        simp only [cond_eq_ite, Nat.blt_eq] at h
        split at h
        · rename_i hlt
          rw [fN_eq, Option.some.injEq] at h; subst h
          refine ⟨.pointer (some ⟨b, d + (off + m * sz), none⟩), ?_, b, d, c, hr, rfl⟩
          simp only [Instr.indexAt, asIntOf, Sem.run_bind, Sem.run_pure, hX.run_und hd, Result.andThen, Instr.sureAddr]
          rw [if_pos (by omega)]
          simp only [Sem.run_bind, hX.run_size hsz, Result.andThen, Int.toNat_natCast, add_none, Nat.add_assoc, Sem.run_pure]
        · simp at h
      · simp at h
    · rename_i e A off len cc hd
      obtain ⟨b, d, c, hr, rfl⟩ := hv
      split at h
      · rename_i sz hsz
        simp only [cond_eq_ite, Nat.blt_eq] at h
        split at h
        · rename_i hlt
          rw [fN_eq, Option.some.injEq] at h; subst h
          refine ⟨.pointer (some ⟨b, d + (off + m * sz), none⟩), ?_, b, d, c, hr, rfl⟩
          simp only [Instr.indexAt, asIntOf, Sem.run_bind, Sem.run_pure, hX.run_und hd, Result.andThen]
          rw [if_pos (by omega)]
          simp only [Sem.run_bind, hX.run_size hsz, Result.andThen, Int.toNat_natCast, add_none, Nat.add_assoc, Sem.run_pure]
        · simp at h
      · simp at h
    · simp at h
  · simp at h

theorem afieldAddr_ok {t : TypeId} {f : Nat} {x r : AV} {v : Value} (h : afieldAddr X t x f = some r) (hv : VR R x v) : ∃ z, (Instr.fieldAt t v f).run P w = .ok z w ∧ VR R r z := by
  unfold afieldAddr at h
  split at h
  · rename_i fs A off hd
    split at h
    · rename_i fl hf
      rw [nthF_eq] at hf
      have hf' : fs[f]? = some fl := by simpa using hf
      split at h
      · simp at h
      · rename_i sz hne hsz
        rw [fN_eq, Option.some.injEq] at h; subst h
        obtain ⟨b, d, c, hr, rfl⟩ := hv
        have hz : ¬ sz = 0 := fun e => hne (by rw [e])
        refine ⟨.pointer (some ⟨b, d + (off + fl.offset), none⟩), ?_, b, d, c, hr, rfl⟩
        simp only [Instr.fieldAt, Sem.run_bind, hX.run_und hd, Result.andThen, hf', Instr.sureAddr, Sem.run_pure, fieldPlace, hX.run_size hsz, if_neg hz, add_none, Nat.add_assoc]
      · simp at h
    · simp at h
  · simp at h

theorem acap_ok {t ty : TypeId} {x r : AV} {v : Value} {ts : Array TypeId} (ht : ts[0]? = some t) (h : acap X t x = some r) (hv : VR R x v) : ∃ z, (Builtin.cap_ ts ty #[v]).run P w = .ok z w ∧ VR R r z := by
  unfold acap at h
  split at h
  · rename_i e hd
    simp only [Option.some.injEq] at h; subst h
    simp only [VR] at hv; subst hv
    exact ⟨goInt 0, by simp [Builtin.cap_, ht, Sem.run_bind, hX.run_und hd, Sem.run_pure], rfl⟩
  · rename_i e A off len cc hd
    simp only [cond_eq_ite, Nat.beq_eq] at h
    split at h
    · rename_i hc
      rw [fN_eq, Option.some.injEq] at h; subst h
      obtain ⟨b, d, c, hr, rfl⟩ := hv
      refine ⟨goInt (cc / 2 : Nat), ?_, rfl⟩
      have : decap cc c = cc / 2 := by simp [decap, hc]
      simp [Builtin.cap_, ht, Sem.run_bind, hX.run_und hd, Sem.run_pure, this]
    · simp at h
  · simp at h

theorem aconvP_ok {s d : TypeId} {x r : AV} {v : Value} (h : aconvP X s d x = some r) (hv : VR R x v) : ∃ z, (convert s d v).run P w = .ok z w ∧ VR R r z := by
  unfold aconvP at h
  split at h
  · simp at h
  · rename_i ds hs
    split at h
    · rename_i k hd
      split at h
      · rename_i k' n
        rw [mkI_eq, Option.some.injEq] at h; subst h
        simp only [VR] at hv; subst hv
        exact ⟨.int k (k.wrap n), by simp [convert, Sem.run_bind, hX.run_und hs, hX.run_und hd, Conv.intToInt, Sem.run_pure], rfl⟩
      · simp at h
    · rename_i hd
      split at h
      · rename_i l b
        simp only [Option.some.injEq] at h; subst h
        obtain ⟨s', rfl, h1, h2⟩ := hv
        exact ⟨.string s', by simp [convert, Sem.run_bind, hX.run_und hs, hX.run_und hd, Sem.run_pure], s', rfl, h1, h2⟩
      · simp at h
    · simp at h

theorem aun_ok {op : UnOp} {x r : AV} {v : Value} (h : aun op x = some r) (hv : VR R x v) : ∃ z, (Op.unary op v).run P w = .ok z w ∧ VR R r z := by
  have _ := hX
  unfold aun at h
  split at h
  · rename_i k n
    rw [mkI_eq, Option.some.injEq] at h; subst h
    simp only [VR] at hv; subst hv
    exact ⟨_, rfl, rfl⟩
  · rename_i b
    rw [mkB_eq, Option.some.injEq] at h; subst h
    simp only [VR] at hv; subst hv
    exact ⟨_, rfl, rfl⟩
  · simp at h

theorem pBuild_ok {env : T AV} {n : Nat} {fr : Frame} (hE : EnvR R env n fr.tmps) {t : TypeId} {ps : Array (Nat × Operand)} {r : AV} (h : pBuild X env t ps = some r) :
    ∃ z, (Instr.build t (ps.map fun (i, x) => (i, fr.eval x))).run P w = .ok z w ∧ VR R r z := by
  unfold pBuild at h
  split at h
  · rename_i z hz
    obtain ⟨zv, hzv, hzr⟩ := hX.run_zero R hz w
    split at h
    · rename_i parts hp
      have hpr := parts_ok hE _ _ hp
      rw [← Array.toList_map] at hpr
      split at h
      · rename_i fs hd
        split at h
        · rename_i pl hpl
          split at h
          · rename_i c hc
            simp only [Option.some.injEq] at h; subst h
            obtain ⟨arr', h1, h2⟩ := fill_ok (place' := (pl.toArray[·]?)) (fun i x hx => by rw [nthP_eq] at hx; simpa using hx) hpr hc (cells_ok hzr)
            have hrun := run_places w _ _ (places_ok hX _ _ hpl)
            refine ⟨.agg arr', ?_, arr'.toList, rfl, h2⟩
            simp at h1
            simp [Instr.build, Sem.run_bind, hzv, hX.run_und hd, Array.mapM_eq_mapM_toList, hrun, h1, Sem.run_pure]
          · simp at h
        · simp at h
      · rename_i len e hd
        split at h
        · rename_i sz hsz
          split at h
          · rename_i c hc
            simp only [Option.some.injEq] at h; subst h
            obtain ⟨arr', h1, h2⟩ := fill_ok (place' := fun i => some (i * sz, sz)) (fun i x hx => hx) hpr hc (cells_ok hzr)
            refine ⟨.agg arr', ?_, arr'.toList, rfl, h2⟩
            simp at h1
            simp [Instr.build, Sem.run_bind, hzv, hX.run_und hd, hX.run_size hsz, h1, Sem.run_pure]
          · simp at h
        · simp at h
      · simp at h
    · simp at h
  · simp at h

theorem pArr_ok {arr : TypeId} {x r : AV} {v : Value} (h : pArr X arr x = some r) (hv : VR R x v) : ∃ z, (Instr.arrayAt arr v).run P w = .ok z w ∧ VR R r z := by
  unfold pArr at h
  split at h
  · rename_i A off len cc
    split at h
    · rename_i n e hd
      simp only [cond_eq_ite, Nat.ble_eq] at h
      split at h
      · rename_i hle
        simp only [Option.some.injEq] at h; subst h
        obtain ⟨b, d, c, hr, rfl⟩ := hv
        refine ⟨.pointer (some ⟨b, d + off, none⟩), ?_, b, d, c, hr, rfl⟩
        simp only [Instr.arrayAt, Sem.run_bind, hX.run_und hd, Result.andThen]
        rw [if_neg (by omega)]; rfl
      · simp at h
    · simp at h
  · simp at h

include hR in
/-- Whatever touches no memory does as the evaluator says. -/
theorem simP {env : T AV} {n : Nat} {fr : Frame} (hE : EnvR R env n fr.tmps) {o : Oper} {r : AV} (h : aP X env o.op = some r) : ∃ z, (execOp fr.eval o).run P w = .ok (.value z) w ∧ VR R r z := by
  have H1 : ∀ {x : Operand} {f : AV → Option AV}, b1 (opd env x) f = some r → ∃ a, VR R a (fr.eval x) ∧ f a = some r := by
    intro x f hb
    unfold b1 at hb
    split at hb
    · rename_i a ha; exact ⟨a, opd_ok hE x a ha, hb⟩
    · simp at hb
  have H2 : ∀ {x y : Operand} {f : AV → AV → Option AV}, b2 (opd env x) (opd env y) f = some r → ∃ a b, VR R a (fr.eval x) ∧ VR R b (fr.eval y) ∧ f a b = some r := by
    intro x y f hb
    unfold b2 at hb
    split at hb
    · rename_i a ha
      split at hb
      · rename_i b hb'; exact ⟨a, b, opd_ok hE x a ha, opd_ok hE y b hb', hb⟩
      · simp at hb
    · simp at hb
  obtain ⟨dst, op, ty, pos, after, guard⟩ := o
  simp only at h
  unfold aP at h
  split at h
  · exact ⟨_, rfl, opd_ok hE _ _ h⟩
  · exact ⟨_, rfl, opd_ok hE _ _ h⟩
  · rename_i c a b
    unfold pPick at h
    split at h
    · rename_i hc
      have hb := opd_ok hE _ _ hc
      simp only [VR] at hb
      exact ⟨_, by simp [execOp, hb, asBool, Sem.run_bind, Sem.run_pure], opd_ok hE _ _ h⟩
    · rename_i hc
      have hb := opd_ok hE _ _ hc
      simp only [VR] at hb
      exact ⟨_, by simp [execOp, hb, asBool, Sem.run_bind, Sem.run_pure], opd_ok hE _ _ h⟩
    · simp at h
  · obtain ⟨z, h1, h2⟩ := pBuild_ok hX (w := w) hE h
    exact ⟨z, run_val h1, h2⟩
  · rename_i x
    obtain ⟨a, ha, hf⟩ := H1 h
    unfold pNil at hf
    split at hf <;> first | (simp at hf; done) | skip
    · simp only [Option.some.injEq] at hf; subst hf
      obtain ⟨b, d, c, hr, e⟩ := id ha
      exact ⟨_, by simp [execOp, e, Sem.run_pure]; rfl, by rw [← e]; exact ha⟩
    · simp only [Option.some.injEq] at hf; subst hf
      obtain ⟨xs, ys, e, _⟩ := id ha
      exact ⟨_, by simp [execOp, e, Sem.run_pure]; rfl, by rw [← e]; exact ha⟩
    · simp only [Option.some.injEq] at hf; subst hf
      obtain ⟨b, d, c, hr, e⟩ := id ha
      exact ⟨_, by simp [execOp, e, Sem.run_pure]; rfl, by rw [← e]; exact ha⟩
  · rename_i op' t x y _
    obtain ⟨a, b, ha, hb, hf⟩ := H2 h
    obtain ⟨h1, z, h2, h3⟩ := abin_ok hX hR (w := w) (ox := x) (oy := y) hf ha hb
    refine ⟨z, run_val ?_, h3⟩
    simp only [Sem.run_bind, h1, Result.andThen, h2]
  · obtain ⟨a, ha, hf⟩ := H1 h
    obtain ⟨z, h1, h2⟩ := aun_ok hX (w := w) hf ha
    exact ⟨z, run_val h1, h2⟩
  · obtain ⟨a, ha, hf⟩ := H1 h
    obtain ⟨z, h1, h2⟩ := aconvP_ok hX (w := w) hf ha
    exact ⟨z, run_val h1, h2⟩
  · rename_i f first cap
    unfold pFunc at h
    split at h
    · rename_i a ha
      split at h
      · rename_i b hb
        simp only [Option.some.injEq] at h; subst h
        refine ⟨_, run_val rfl, ?_⟩
        exact ⟨(first.map fr.eval).toList, (cap.map fr.eval).toList, rfl, by simpa using opds_ok hE _ _ ha, by simpa using opds_ok hE _ _ hb⟩
      · simp at h
    · simp at h
  · obtain ⟨a, ha, hf⟩ := H1 h
    obtain ⟨z, h1, h2⟩ := afieldAddr_ok hX (w := w) hf ha
    exact ⟨z, run_val h1, h2⟩
  · obtain ⟨a, ha, hf⟩ := H1 h
    obtain ⟨z, h1, h2⟩ := afield_ok hX (w := w) hf ha
    exact ⟨z, run_val h1, h2⟩
  · obtain ⟨a, b, ha, hb, hf⟩ := H2 h
    obtain ⟨z, h1, h2⟩ := aindexAddr_ok hX (w := w) hf ha hb
    exact ⟨z, run_val h1, h2⟩
  · obtain ⟨a, b, ha, hb, hf⟩ := H2 h
    obtain ⟨z, h1, h2⟩ := aindex_ok hX (w := w) hf ha hb
    exact ⟨z, run_val h1, h2⟩
  · obtain ⟨a, ha, hf⟩ := H1 h
    obtain ⟨z, h1, h2⟩ := pArr_ok hX (w := w) hf ha
    exact ⟨z, run_val h1, h2⟩
  · rename_i xx ix
    obtain ⟨a, ha, hf⟩ := H1 h
    unfold pExtract at hf
    split at hf
    · rename_i vs
      rw [nth_eq] at hf
      obtain ⟨l, e, hl⟩ := ha
      obtain ⟨z, h1, h2⟩ := VRL.get _ _ hl _ _ hf
      refine ⟨z, run_val ?_, h2⟩
      have h1' : (⟨l⟩ : Array Value)[ix]? = some z := by simpa using h1
      simp only [Instr.extract, e, h1']; rfl
    · simp at hf
  · rename_i c
    split at h
    · rename_i hc
      split at h
      · rename_i x hx
        split at h
        · rename_i t ts ht
          obtain ⟨a, ha, hf⟩ := H1 h
          obtain ⟨callee, args, types⟩ := c
          simp only at hc hx ht; subst hc
          have ht' : types[0]? = some t := by rw [← Array.getElem?_toList, ht]; rfl
          obtain ⟨z, h1, h2⟩ := acap_ok hX (w := w) (ty := ty) ht' hf ha
          have ea : args.map fr.eval = #[fr.eval x] := by
            apply Array.toList_inj.1; simp [hx]
          refine ⟨z, ?_, h2⟩
          simp only [execOp, resolve, invoke, builtin, ea, Sem.run_bind, Sem.run_pure, Result.andThen, h1]
        · simp at h
      · simp at h
    · simp at h
  · simp at h
end
end Go.Eng
