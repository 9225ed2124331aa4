/- Engine: a closed function reckoned piece by piece; what is no longer asked for is forgotten in between. No condition. -/
import Derived.Test.YthckidjjcakabaaGreatMY4
set_option linter.all false
noncomputable section
namespace Go.Eng

/-- Are two objects the same? -/
def eqE : List (AV × AV) → List (AV × AV) → Bool
  | [], [] => true
  | (a, b) :: l, (c, d) :: m => aveq a c && aveq b d && eqE l m
  | _, _ => false
theorem eqE_eq : ∀ (x y : List (AV × AV)), eqE x y = true → x = y
  | [], [], _ => rfl
  | (a, b) :: l, (c, d) :: m, h => by
    simp only [eqE, Bool.and_eq_true] at h
    rw [aveq_eq _ _ h.1.1, aveq_eq _ _ h.1.2, eqE_eq l m h.2]
  | [], _ :: _, h => by simp [eqE] at h
  | _ :: _, [], h => by simp [eqE] at h
theorem eqNL_eq' : ∀ (x y : List Nat), eqNL x y = true → x = y
  | [], [], _ => rfl
  | a :: l, b :: m, h => by
    simp only [eqNL, Bool.and_eq_true, Nat.beq_eq] at h
    rw [h.1, eqNL_eq' l m h.2]
  | [], _ :: _, h => by simp [eqNL] at h
  | _ :: _, [], h => by simp [eqNL] at h
def oeq : AObj → AObj → Bool
  | .cells c e s g, .cells c' e' s' g' => aveqL c c' && Nat.beq e e' && Nat.beq s s' && (bif g then g' else !g')
  | .map k e, .map k' e' => eqNL k k' && eqE e e'
  | .dead, .dead => true
  | _, _ => false
theorem oeq_eq (x y : AObj) (h : oeq x y = true) : x = y := by
  cases x with
  | cells c e s g => cases y with
    | cells c' e' s' g' =>
      simp only [oeq, Bool.and_eq_true, Nat.beq_eq] at h
      rw [aveqL_eq _ _ h.1.1.1, h.1.1.2, h.1.2, show g = g' from by have := h.2; cases g <;> cases g' <;> simp_all]
    | _ => simp [oeq] at h
  | map k e => cases y with
    | map k' e' =>
      simp only [oeq, Bool.and_eq_true] at h
      rw [eqNL_eq' _ _ h.1, eqE_eq _ _ h.2]
    | _ => simp [oeq] at h
  | dead => cases y with
    | dead => rfl
    | _ => simp [oeq] at h
  | _ => cases y <;> simp [oeq] at h
/-- Does a list's objects stand in a heap? -/
def chkL (H : T AObj) : List (Nat × AObj) → Bool
  | [] => true
  | (A, o) :: l => (match H.get A with | some o' => oeq o' o | none => false) && chkL H l
def litL : List (Nat × AObj) → T AObj
  | [] => .leaf
  | (A, o) :: l => (T.set 40 (litL l) A o).getD .leaf
def keepL (H : T AObj) : List (Nat × AObj) → T AObj
  | [] => .leaf
  | (A, _) :: l => match H.get A with
    | some o => (T.set 40 (keepL H l) A o).getD .leaf
    | none => keepL H l
def inA (B : Nat) : List (Nat × AObj) → Bool
  | [] => false
  | (A, _) :: l => Nat.beq B A || inA B l
theorem setD_get {t : T AObj} {A : Nat} {o : AObj} (B : Nat) : ((T.set 40 t A o).getD .leaf).get B = if B = A then some o else t.get B := by
  obtain ⟨t', h⟩ := Option.isSome_iff_exists.1 (T.set_some 40 t A o)
  rw [h]; exact T.get_set _ _ _ _ _ h B
theorem litL_get {H : T AObj} : ∀ (l : List (Nat × AObj)), chkL H l = true → ∀ B, (litL l).get B = if inA B l = true then H.get B else none
  | [], _, B => by simp [litL, T.get_leaf, inA]
  | (A, o) :: l, h, B => by
    simp only [chkL, Bool.and_eq_true] at h
    obtain ⟨h1, h2⟩ := h
    split at h1
    · rename_i o' ho
      have := oeq_eq _ _ h1; subst this
      simp only [litL, setD_get, litL_get l h2 B]
      by_cases e : B = A
      · subst e; simp [ho, inA, Nat.beq_refl]
      · rw [if_neg e]; simp only [inA, show Nat.beq B A = false from by rw [Bool.eq_false_iff, ne_eq, Nat.beq_eq]; exact e, Bool.false_or]
    · simp at h1
theorem keepL_get {H : T AObj} : ∀ (l : List (Nat × AObj)) (B : Nat), (keepL H l).get B = if inA B l = true then H.get B else none
  | [], B => by simp [keepL, T.get_leaf, inA]
  | (A, o) :: l, B => by
    simp only [keepL]
    split
    · rename_i o' ho
      simp only [setD_get, keepL_get l B]
      by_cases e : B = A
      · subst e; simp [ho, inA]
      · simp [e, inA]
    · rename_i ho
      rw [keepL_get l B]
      by_cases e : B = A
      · subst e; simp [ho, inA]
      · simp [e, inA]
def keepH (l : List (Nat × AObj)) (H : AH) : AH := ⟨keepL H.h l, H.next⟩
def litH (l : List (Nat × AObj)) (N : Nat) : AH := ⟨litL l, N⟩
theorem HR.keep {H Hx : AH} (h : HR H Hx) {l : List (Nat × AObj)} (hc : chkL H.h l = true) : HR (litH l H.next) (keepH l Hx) where
  next := h.next
  get A := by
    show (keepL Hx.h l).get A = ((litL l).get A).map exO
    rw [keepL_get, litL_get l hc]
    split
    · exact h.get A
    · rfl
  ok A o ho := by
    have ho' : (litL l).get A = some o := ho
    rw [litL_get l hc] at ho'
    split at ho'
    · exact h.ok A o ho'
    · simp at ho'
theorem keepH_get {l : List (Nat × AObj)} {H : AH} {A : Nat} {o : AObj} (h : (keepH l H).h.get A = some o) : H.h.get A = some o := by
  have h' : (keepL H.h l).get A = some o := h
  rw [keepL_get] at h'
  split at h'
  · exact h'
  · simp at h'
theorem Rel.keep {R : Ren} {H : AH} {w : World} (h : Rel R H w) (l : List (Nat × AObj)) : Rel R (keepH l H) w :=
  ⟨h.fn, fun A A' b d c d' c' r r' ⟨o, h1, h2⟩ ⟨o', h3, h4⟩ => h.inj A A' b d c d' c' r r' ⟨o, keepH_get h1, h2⟩ ⟨o', keepH_get h3, h4⟩,
    fun A b d c o r ho => h.obj A b d c o r (keepH_get ho), h.lt, h.tb⟩
abbrev R0 : Ren := fun _ _ _ _ => False
theorem Ext.keep0 {w0 w : World} {R : Ren} {H : AH} (h : Ext R0 ⟨.leaf, 0⟩ w0 R H w) (l : List (Nat × AObj)) : Ext R0 ⟨.leaf, 0⟩ w0 R (keepH l H) w :=
  ⟨h.sub, h.new, h.newA, Nat.zero_le _, fun A hA => absurd hA (Nat.not_lt_zero A), h.os, h.tape, h.output, h.size, h.keep⟩

/-- A code's first pieces, what is behind them. -/
def prefC : Nat → Code → Code
  | 0, _ => .skip
  | m + 1, .seq a b => .seq a (prefC m b)
  | _ + 1, _ => .refuse ""
def restC : Nat → Code → Code
  | 0, c => c
  | m + 1, .seq _ b => restC m b
  | _ + 1, _ => .skip
def prefH : Nat → Hint → Hint
  | 0, _ => .o
  | m + 1, .s a b => .s a (prefH m b)
  | _ + 1, _ => .o
def restH : Nat → Hint → Hint
  | 0, h => h
  | m + 1, .s _ b => restH m b
  | _ + 1, _ => .o

/-- A frame of the function that has these items to do goes to its end and tells 'true'. -/
def W1 (f : FuncId) (nt : Nat) (its : List Item) (env : Env) (H : AH) : Prop :=
  ∀ (w0 : World) (R : Ren) (fr : Frame) (cs : List Frame) (w : World), fr.mode = .run → fr.roundOf = none → fr.fn = f → fr.kind = .normal → fr.todo = its → EnvR R env nt fr.tmps → Rel R H w → Marks w0.heap.size R w fr.defers → Ext R0 ⟨.leaf, 0⟩ w0 R H w →
    ∃ R' H' w' fr', Steps PP (lone fr cs w) (lone fr' cs w') ∧ fr'.fn = f ∧ fr'.leaving PP w' (.returned (.bool true)) ∧ Ext R0 ⟨.leaf, 0⟩ w0 R' H' w'

section
variable {B : Tb} {D : Dyn} (hX : Ok PP B.X) (hr : Good PP (rOf B D)) (hQ : GoodQ PP B D)
include hX hr hQ
theorem W1.last {f : FuncId} {fn : Func} (hfn : PP.funcs[f]? = some fn) {n : Nat} {c : Code} {h : Hint} (hs : SitesP PP f fn.ntmps c h) {env : Env} {H H1 : AH}
    (hc : codeK B D n fn.ntmps fn.results.toList f false c h [] (fun env H => retE B.X fn.results.toList env H) env H = some (.ret (.bool true), H1)) : W1 f fn.ntmps [.code c] env H := by
  intro w0 R fr cs w hm hro hf hk ht hE hL hM hx
  obtain ⟨R1, w1, t1, td1, ds1, env1, H2, s1, e1, l1, x1, n1, m1, o1⟩ := codeK_ok hX hr hQ c h [] _ env H _ hs hc w0.heap.size R fr [] cs w hm (fun _ => ⟨hro, hf⟩) ht hE hL hM hx.size
  have hfin : ∃ fr' : Frame, Steps PP (lone fr cs w) (lone fr' cs w1) ∧ fr'.fn = f ∧ fr'.mode = .returning ∧ fr'.defers = ds1 ∧ fr'.kind = .normal ∧ fr'.tmps = t1 ∧ retE B.X fn.results.toList env1 H2 = some (.ret (.bool true), H1) := by
    rcases o1 with ⟨rfl, b2⟩ | ⟨id, k', b1, b2, L, vs, b3, _⟩ | ⟨k', rfl, b2⟩ | ⟨x, z, b1, b2, b3⟩
    · exact ⟨_, s1.trans (.one (st_end (fr := { fr with tmps := t1, todo := [], defers := ds1 }) hm hro rfl)), hf, rfl, rfl, hk, rfl, b2⟩
    · simp [liveOf] at b3
    · exact ⟨_, s1.trans (.one (st_ret (fr := { fr with tmps := t1, todo := .code .ret :: k', defers := ds1 }) hm hro rfl)), hf, rfl, rfl, hk, rfl, b2⟩
    · simp [QP] at b3
  obtain ⟨fr', hst, f1, f2, f3, f4, f5, hret⟩ := hfin
  obtain ⟨vs, hvs, hg⟩ := retK_some _ _ _ hret
  simp only [Option.some.injEq, Prod.mk.injEq, Ex.ret.injEq] at hg
  obtain ⟨hg1, rfl⟩ := hg
  obtain ⟨w2, u1, u2, u3⟩ := unwind_marks (P := PP) (cs := cs) ds1 fr' w1 R1 H2 (by simp [f2]) f3 m1 l1 (hx.trans x1)
  obtain ⟨zs, z1, z2⟩ := results_ok hX u2 e1 _ _ hvs
  have hz := tupV_ok z2
  rw [hg1] at hz
  simp only [VR] at hz
  refine ⟨R1, H2, w2, { fr' with defers := [] }, hst.trans u1, f1, ⟨f2, rfl, f4, fn, by rw [f1]; exact hfn, ?_⟩, u3⟩
  simp only [f5, results, Array.mapM_eq_mapM_toList, Sem.run_bind, Sem.run_map]
  erw [z1]
  rw [← hz]
  rfl
theorem pref_ok {f : FuncId} {nt n : Nat} {rs : List ResultVar} {L : List Nat} {vs1 : List AV} {H1 : AH} {k : List Item} : ∀ (m : Nat) (c : Code) (h : Hint) (env : Env) (H : AH), noRF h = true →
    codeK B D n nt rs f false (prefC m c) h [] (pkN L) env H = some (.norm vs1, H1) →
    ∀ (lo : Nat) (R : Ren) (fr : Frame) (cs : List Frame) (w : World), fr.mode = .run → fr.roundOf = none → fr.fn = f → fr.todo = .code c :: k → EnvR R env nt fr.tmps → Rel R H w → Marks lo R w fr.defers → lo ≤ w.heap.size →
      ∃ R' w' tmps' ds env', Steps PP (lone fr cs w) (lone { fr with tmps := tmps', todo := .code (restC m c) :: k, defers := ds } cs w') ∧ EnvR R' env' nt tmps' ∧ PK env' L vs1 ∧ Rel R' H1 w' ∧ Ext R H w R' H1 w' ∧ Marks lo R' w' ds
  | 0, c, h, env, H, hn, hk, lo, R, fr, cs, w, hm, hro, hf, ht, hE, hL, hM, hlo => by
    have hk' : codeK B D n nt rs f false .skip h [] (pkN L) env H = some (.norm vs1, H1) := hk
    simp only [codeK, pkN] at hk'
    obtain ⟨vs, h1, h2⟩ := pck_some hk'
    simp only [Option.some.injEq, Prod.mk.injEq, Ex.norm.injEq] at h2
    obtain ⟨rfl, rfl⟩ := h2
    refine ⟨R, w, fr.tmps, fr.defers, env, ?_, hE, h1, hL, Ext.refl R H w, hM⟩
    have : ({ fr with tmps := fr.tmps, todo := .code (restC 0 c) :: k, defers := fr.defers } : Frame) = fr := by
      simp only [restC, ← ht]
    rw [this]; exact .refl _ _
  | m + 1, c, h, env, H, hn, hk, lo, R, fr, cs, w, hm, hro, hf, ht, hE, hL, hM, hlo => by
    cases c with
    | seq a b =>
      cases h with
      | s ha hb =>
        have hk' : codeK B D n nt rs f false (.seq a (prefC m b)) (.s ha hb) [] (pkN L) env H = some (.norm vs1, H1) := hk
        simp only [codeK] at hk'
        simp only [noRF, Bool.and_eq_true] at hn
        obtain ⟨R1, w1, t1, td1, ds1, env1, H2, s1, e1, l1, x1, n1, m1, o1⟩ := codeK_ok hX hr hQ a ha [] _ env H _ (noRF_ok _ _ _ _ hn.1) hk' lo R { fr with todo := .code a :: .code b :: k } (.code b :: k) cs w hm (fun _ => ⟨hro, hf⟩) rfl hE hL hM hlo
        have s0 := Steps.one (st_seq (P := PP) (cs := cs) (w := w) hm ht)
        rcases o1 with ⟨rfl, b2⟩ | ⟨id, k', b1, b2, L', vs, b3, _⟩ | ⟨k', rfl, b2⟩ | ⟨x, z, b1, b2, b3⟩
        · obtain ⟨R', w', t', ds, env', c1, c2, c3, c4, c5, c6⟩ := pref_ok m b hb env1 H2 hn.2 b2 lo R1 { fr with tmps := t1, todo := .code b :: k, defers := ds1 } cs w1 hm hro hf rfl e1 l1 m1 (Nat.le_trans hlo x1.size)
          exact ⟨R', w', t', ds, env', s0.trans (s1.trans c1), c2, c3, c4, x1.trans c5, c6⟩
        · simp [liveOf] at b3
        · obtain ⟨v, hv⟩ := retE_form b2
          simp at hv
        · simp [QP] at b3
      | t L m => simp [noRF] at hn
      | _ => simp [prefC, codeK] at hk
    | _ => simp [prefC, codeK] at hk
theorem W1.pre {f : FuncId} {nt n : Nat} {rs : List ResultVar} {L : List Nat} {vs1 : List AV} {H H1 : AH} {m : Nat} {c : Code} {h : Hint} {env : Env} (hn : noRF h = true)
    (hk : codeK B D n nt rs f false (prefC m c) h [] (pkN L) env H = some (.norm vs1, H1)) (l : List (Nat × AObj)) {k : List Item} (hw : W1 f nt (.code (restC m c) :: k) (envL L vs1) (keepH l H1)) : W1 f nt (.code c :: k) env H := by
  intro w0 R fr cs w hm hro hf hkd ht hE hL hM hx
  obtain ⟨R1, w1, t1, ds1, env1, s1, e1, p1, l1, x1, m1⟩ := pref_ok hX hr hQ m c h env H hn hk w0.heap.size R fr cs w hm hro hf ht hE hL hM hx.size
  obtain ⟨R2, H2, w2, fr2, a1, a2, a3, a4⟩ := hw w0 R1 { fr with tmps := t1, todo := .code (restC m c) :: k, defers := ds1 } cs w1 hm hro hf hkd rfl (e1.le (envL_le p1)) (l1.keep l) m1 ((hx.trans x1).keep0 l)
  exact ⟨R2, H2, w2, fr2, s1.trans a1, a2, a3, a4⟩
theorem W1.norm {f : FuncId} {nt n : Nat} {rs : List ResultVar} {L : List Nat} {vs1 : List AV} {H H1 : AH} {c : Code} {h : Hint} {env : Env} {Bk : List (Nat × List Nat)} (hn : noRF h = true)
    (hk : codeK B D n nt rs f false c h Bk (pkN L) env H = some (.norm vs1, H1)) (l : List (Nat × AObj)) {k : List Item} (hw : W1 f nt k (envL L vs1) (keepH l H1)) : W1 f nt (.code c :: k) env H := by
  intro w0 R fr cs w hm hro hf hkd ht hE hL hM hx
  obtain ⟨R1, w1, t1, td1, ds1, env1, H2, s1, e1, l1, x1, n1, m1, o1⟩ := codeK_ok hX hr hQ c h Bk _ env H _ (noRF_ok _ _ _ _ hn) hk w0.heap.size R fr k cs w hm (fun _ => ⟨hro, hf⟩) ht hE hL hM hx.size
  rcases o1 with ⟨rfl, b2⟩ | ⟨id, k', b1, b2, L', vs, _, _, b5⟩ | ⟨k', rfl, b2⟩ | ⟨x, z, b1, b2, b3⟩
  · simp only [pkN] at b2
    obtain ⟨vs, c1, c2⟩ := pck_some b2
    simp only [Option.some.injEq, Prod.mk.injEq, Ex.norm.injEq] at c2
    obtain ⟨rfl, rfl⟩ := c2
    obtain ⟨R2, H3, w2, fr2, a1, a2, a3, a4⟩ := hw w0 R1 { fr with tmps := t1, todo := k, defers := ds1 } cs w1 hm hro hf hkd rfl (e1.le (envL_le c1)) (l1.keep l) m1 ((hx.trans x1).keep0 l)
    exact ⟨R2, H3, w2, fr2, s1.trans a1, a2, a3, a4⟩
  · simp at b5
  · obtain ⟨v, hv⟩ := retE_form b2
    simp at hv
  · simp [QP] at b3
theorem W1.exit {f : FuncId} {nt n : Nat} {rs : List ResultVar} {L L2 : List Nat} {vs1 : List AV} {H H1 : AH} {c : Code} {h : Hint} {env : Env} {Bk : List (Nat × List Nat)} (hn : noRF h = true) {id : Nat}
    (hk : codeK B D n nt rs f false c h Bk (pkN L) env H = some (.exit id vs1, H1)) (h2 : liveOf Bk id = some L2) (l : List (Nat × AObj)) {k k2 : List Item} (he : exitTo id k = some k2) (hw : W1 f nt k2 (envL L2 vs1) (keepH l H1)) : W1 f nt (.code c :: k) env H := by
  intro w0 R fr cs w hm hro hf hkd ht hE hL hM hx
  obtain ⟨R1, w1, t1, td1, ds1, env1, H2, s1, e1, l1, x1, n1, m1, o1⟩ := codeK_ok hX hr hQ c h Bk _ env H _ (noRF_ok _ _ _ _ hn) hk w0.heap.size R fr k cs w hm (fun _ => ⟨hro, hf⟩) ht hE hL hM hx.size
  rcases o1 with ⟨rfl, b2⟩ | ⟨i, k', rfl, b2, L', vs, b3, b4, b5⟩ | ⟨k', rfl, b2⟩ | ⟨x, z, b1, b2, b3⟩
  · simp only [pkN] at b2
    obtain ⟨vs, c1, c2⟩ := pck_some b2
    simp at c2
  · simp only [Prod.mk.injEq, Ex.exit.injEq] at b5
    obtain ⟨⟨rfl, rfl⟩, rfl⟩ := b5
    rw [h2] at b3
    injection b3 with b3
    subst b3
    have s2 := Steps.one (st_exit (P := PP) (cs := cs) (w := w1) (fr := { fr with tmps := t1, todo := .code (.exit id) :: k', defers := ds1 }) hm rfl (b2.trans he))
    obtain ⟨R2, H3, w2, fr2, a1, a2, a3, a4⟩ := hw w0 R1 { fr with tmps := t1, todo := k2, defers := ds1 } cs w1 hm hro hf hkd rfl (e1.le (envL_le b4)) (l1.keep l) m1 ((hx.trans x1).keep0 l)
    exact ⟨R2, H3, w2, fr2, s1.trans (s2.trans a1), a2, a3, a4⟩
  · obtain ⟨v, hv⟩ := retE_form b2
    simp at hv
  · simp [QP] at b3
end
theorem W1.go {f : FuncId} {nt : Nat} {its its' : List Item} {env : Env} {H : AH} (hs : ∀ (fr : Frame) (cs : List Frame) (w : World), fr.mode = .run → fr.todo = its → step PP (lone fr cs w) = .next (lone { fr with todo := its' } cs w)) (hw : W1 f nt its' env H) : W1 f nt its env H := by
  intro w0 R fr cs w hm hro hf hkd ht hE hL hM hx
  obtain ⟨R2, H3, w2, fr2, a1, a2, a3, a4⟩ := hw w0 R { fr with todo := its' } cs w hm hro hf hkd rfl hE hL hM hx
  exact ⟨R2, H3, w2, fr2, (Steps.one (hs fr cs w hm ht)).trans a1, a2, a3, a4⟩
theorem unp_envA {K : Env → Rs} {out : Ex × AH} : ∀ (L : List Nat) {vs : List AV} {base : Env}, unp L vs base K = some out → K (envA L vs base) = some out
  | [], _, _, h => h
  | l :: L, vs, base, h => by
    simp only [unp] at h
    obtain ⟨v, vs', rfl, h1⟩ := hd_some h
    exact unp_envA L h1

/-- Likewise over packed memory: the slots that are asked for, and what they hold. -/
def GP (f : FuncId) (nt : Nat) (L : List Nat) (its : List Item) (vs : List AV) (H : AH) : Prop := ∀ Hx, HR H Hx → W1 f nt its (envL L (exM vs)) Hx
theorem GP.seq {f : FuncId} {nt : Nat} {L : List Nat} {a b : Code} {k : List Item} {vs : List AV} {H : AH} (h : GP f nt L (.code a :: .code b :: k) vs H) : GP f nt L (.code (.seq a b) :: k) vs H :=
  fun Hx hR => W1.go (fun _ _ _ hm ht => st_seq hm ht) (h Hx hR)
theorem GP.block {f : FuncId} {nt : Nat} {L : List Nat} {id : Nat} {b : Code} {k : List Item} {vs : List AV} {H : AH} (h : GP f nt L (.code b :: .inBlock id :: k) vs H) : GP f nt L (.code (.block id b) :: k) vs H :=
  fun Hx hR => W1.go (fun _ _ _ hm ht => st_block hm ht) (h Hx hR)
theorem GP.loop {f : FuncId} {nt : Nat} {L : List Nat} {b : Code} {k : List Item} {vs : List AV} {H : AH} (h : GP f nt L (.code b :: .inLoop b :: k) vs H) : GP f nt L (.code (.loop b) :: k) vs H :=
  fun Hx hR => W1.go (fun _ _ _ hm ht => st_loop hm ht) (h Hx hR)
theorem GP.inLoop {f : FuncId} {nt : Nat} {L : List Nat} {b : Code} {k : List Item} {vs : List AV} {H : AH} (h : GP f nt L (.code b :: .inLoop b :: k) vs H) : GP f nt L (.inLoop b :: k) vs H :=
  fun Hx hR => W1.go (fun _ _ _ hm ht => st_inLoop hm ht) (h Hx hR)
/-- A piece of code, reckoned; the last one. -/
def segP (B : Tb) (D : Dyn) (n : Nat) (f0 : FuncId) (fn : Func) (L : List Nat) (k m : Nat) (h : Hint) (L' : List Nat) (vs : List AV) (H : AH) : Rs :=
  match fn.body with
  | some body => unp L vs env0 fun env => codeKp B D n fn.ntmps fn.results.toList f0 false (prefC m (restC k body)) h [] (pkN L') env H
  | none => none
def segZ (B : Tb) (D : Dyn) (n : Nat) (f0 : FuncId) (fn : Func) (L : List Nat) (k : Nat) (h : Hint) (vs : List AV) (H : AH) : Rs :=
  match fn.body with
  | some body => unp L vs env0 fun env => codeKp B D n fn.ntmps fn.results.toList f0 false (restC k body) h [] (fun env H => retEp B.X fn.results.toList env H) env H
  | none => none
/-- Does a piece end normally, with these slots and these objects? -/
def segOk (x : Rs) (vs : List AV) (l : List (Nat × AObj)) (N : Nat) : Bool := match x with
  | some (.norm vs', H) => aveqL vs' vs && Nat.beq H.next N && chkL H.h l
  | _ => false
def segT (x : Rs) : Bool := match x with
  | some (.ret (.bool true), _) => true
  | _ => false
section
variable {X : Cx} (hX : Ok PP X) {D : Dyn} (hD : DP D) {S : List (Nat × FnT)} (hS : SP S)
include hX hD hS
theorem GP.last {f : FuncId} {fn : Func} (hfn : PP.funcs[f]? = some fn) {body : Code} (hb : fn.body = some body) {n k : Nat} {h : Hint} (hn : noRF h = true) {L : List Nat} {vs : List AV} {H : AH} {g : List AV → AH → Rs}
    (hg : g = segZ ⟨X, S⟩ D n f fn L k h) (hc : segT (g vs H) = true) : GP f fn.ntmps L [.code (restC k body)] vs H := by
  intro Hx hR
  obtain ⟨Dx, hDx, hDs⟩ := hD
  obtain ⟨Sx, hSx, hLs⟩ := hS.plain
  subst hg
  unfold segT at hc
  split at hc
  · rename_i H1 he
    unfold segZ at he
    simp only [hb] at he
    have hsim := unp_s (fun e e' hE => codeK_s hDs hLs (n := n) (nt := fn.ntmps) (rs := fn.results.toList) (f0 := f) (ro := false) (restC k body) (HS_refl h (noRF_noT h hn)) [] (fun e e' H Hx hE hR => retE_s hE hR fn.results.toList) _ _ _ _ hE hR) L vs ES_0 _ _ he
    obtain ⟨Hx1, h1, _⟩ := hsim
    exact W1.last hX (good_of hDx hSx) (goodQ_of hDx hSx) hfn (noRF_ok _ _ _ _ hn) (unp_envA _ h1)
  · simp at hc
theorem GP.step {f : FuncId} {fn : Func} {body : Code} (hb : fn.body = some body) {n k m : Nat} {h : Hint} (hn : noRF h = true) {L L' : List Nat} {vs vs' : List AV} {H : AH} {l : List (Nat × AObj)} {N : Nat} {g : List AV → AH → Rs}
    (hg : g = segP ⟨X, S⟩ D n f fn L k m h L') (hc : segOk (g vs H) vs' l N = true) {its : List Item} (hw : GP f fn.ntmps L' (.code (restC m (restC k body)) :: its) vs' (litH l N)) : GP f fn.ntmps L (.code (restC k body) :: its) vs H := by
  intro Hx hR
  obtain ⟨Dx, hDx, hDs⟩ := hD
  obtain ⟨Sx, hSx, hLs⟩ := hS.plain
  subst hg
  unfold segOk at hc
  split at hc
  · rename_i vs1 H1 he
    simp only [Bool.and_eq_true, Nat.beq_eq] at hc
    obtain ⟨⟨h1, rfl⟩, h3⟩ := hc
    have := aveqL_eq _ _ h1; subst this
    unfold segP at he
    simp only [hb] at he
    have hsim := unp_s (fun e e' hE => codeK_s hDs hLs (n := n) (nt := fn.ntmps) (rs := fn.results.toList) (f0 := f) (ro := false) (prefC m (restC k body)) (HS_refl h (noRF_noT h hn)) [] (K := pkN L') (Kx := pkN L') (fun e e' H Hx hE hR => pck_s hE _ fun vs => SS_some hR) _ _ _ _ hE hR) L vs ES_0 _ _ he
    obtain ⟨Hx1, k1, k2⟩ := hsim
    exact W1.pre hX (good_of hDx hSx) (goodQ_of hDx hSx) hn (unp_envA _ k1) l (hw _ (k2.keep h3))
  · simp at hc
end
theorem GP.rounds {f : FuncId} {nt : Nat} {L : List Nat} {vs : List AV} {H : AH} {c a b r : Code} {id : Nat} (he : c = .seq (.seq a (.block id (.loop b))) r) (h : GP f nt L [.code a, .code (.block id (.loop b)), .code r] vs H) : GP f nt L [.code c] vs H := by
  subst he; exact GP.seq (GP.seq h)
theorem exit_lb {id : Nat} {b : Code} {k : List Item} : exitTo id (.inLoop b :: .inBlock id :: k) = some k := by simp [exitTo]
/-- A part of a code. -/
def atC : List Nat → Code → Code
  | [], c => c
  | 0 :: p, .seq a _ => atC p a
  | 1 :: p, .seq _ b => atC p b
  | 2 :: p, .block _ b => atC p b
  | 3 :: p, .loop b => atC p b
  | _, _ => .skip
def atH : List Nat → Hint → Hint
  | [], h => h
  | 0 :: p, .s a _ => atH p a
  | 1 :: p, .s _ b => atH p b
  | 2 :: p, .b _ b => atH p b
  | 3 :: p, .l _ b => atH p b
  | _, _ => .o
def segQ (B : Tb) (D : Dyn) (n : Nat) (f0 : FuncId) (fn : Func) (L p : List Nat) (h : Hint) (Bk : List (Nat × List Nat)) (L' : List Nat) (vs : List AV) (H : AH) : Rs :=
  match fn.body with
  | some body => unp L vs env0 fun env => codeKp B D n fn.ntmps fn.results.toList f0 false (atC p body) h Bk (pkN L') env H
  | none => none
def segX (id : Nat) (x : Rs) (vs : List AV) (l : List (Nat × AObj)) (N : Nat) : Bool := match x with
  | some (.exit i vs', H) => Nat.beq i id && aveqL vs' vs && Nat.beq H.next N && chkL H.h l
  | _ => false
section
variable {X : Cx} (hX : Ok PP X) {D : Dyn} (hD : DP D) {S : List (Nat × FnT)} (hS : SP S)
include hX hD hS
theorem GP.norm {f : FuncId} {fn : Func} {body : Code} (hb : fn.body = some body) {n : Nat} {p : List Nat} {h : Hint} {Bk : List (Nat × List Nat)} (hn : noRF h = true) {L L' : List Nat} {vs vs' : List AV} {H : AH} {l : List (Nat × AObj)} {N : Nat} {g : List AV → AH → Rs}
    (hg : g = segQ ⟨X, S⟩ D n f fn L p h Bk L') (hc : segOk (g vs H) vs' l N = true) {its : List Item} (hw : GP f fn.ntmps L' its vs' (litH l N)) : GP f fn.ntmps L (.code (atC p body) :: its) vs H := by
  intro Hx hR
  obtain ⟨Dx, hDx, hDs⟩ := hD
  obtain ⟨Sx, hSx, hLs⟩ := hS.plain
  subst hg
  unfold segOk at hc
  split at hc
  · rename_i vs1 H1 he
    simp only [Bool.and_eq_true, Nat.beq_eq] at hc
    obtain ⟨⟨h1, rfl⟩, h3⟩ := hc
    have := aveqL_eq _ _ h1; subst this
    unfold segQ at he
    simp only [hb] at he
    have hsim := unp_s (fun e e' hE => codeK_s hDs hLs (n := n) (nt := fn.ntmps) (rs := fn.results.toList) (f0 := f) (ro := false) (atC p body) (HS_refl h (noRF_noT h hn)) Bk (K := pkN L') (Kx := pkN L') (fun e e' H Hx hE hR => pck_s hE _ fun vs => SS_some hR) _ _ _ _ hE hR) L vs ES_0 _ _ he
    obtain ⟨Hx1, k1, k2⟩ := hsim
    exact W1.norm hX (good_of hDx hSx) (goodQ_of hDx hSx) hn (unp_envA _ k1) l (hw _ (k2.keep h3))
  · simp at hc
theorem GP.exit {f : FuncId} {fn : Func} {body : Code} (hb : fn.body = some body) {n : Nat} {p : List Nat} {h : Hint} {Bk : List (Nat × List Nat)} (hn : noRF h = true) {L L' L2 : List Nat} {vs vs' : List AV} {H : AH} {l : List (Nat × AObj)} {N : Nat} {g : List AV → AH → Rs} {id : Nat}
    (hg : g = segQ ⟨X, S⟩ D n f fn L p h Bk L') (hc : segX id (g vs H) vs' l N = true) (h2 : liveOf Bk id = some L2) {its its2 : List Item} (he : exitTo id its = some its2) (hw : GP f fn.ntmps L2 its2 vs' (litH l N)) : GP f fn.ntmps L (.code (atC p body) :: its) vs H := by
  intro Hx hR
  obtain ⟨Dx, hDx, hDs⟩ := hD
  obtain ⟨Sx, hSx, hLs⟩ := hS.plain
  subst hg
  unfold segX at hc
  split at hc
  · rename_i i vs1 H1 hee
    simp only [Bool.and_eq_true, Nat.beq_eq] at hc
    obtain ⟨⟨⟨rfl, h1⟩, rfl⟩, h3⟩ := hc
    have := aveqL_eq _ _ h1; subst this
    unfold segQ at hee
    simp only [hb] at hee
    have hsim := unp_s (fun e e' hE => codeK_s hDs hLs (n := n) (nt := fn.ntmps) (rs := fn.results.toList) (f0 := f) (ro := false) (atC p body) (HS_refl h (noRF_noT h hn)) Bk (K := pkN L') (Kx := pkN L') (fun e e' H Hx hE hR => pck_s hE _ fun vs => SS_some hR) _ _ _ _ hE hR) L vs ES_0 _ _ hee
    obtain ⟨Hx1, k1, k2⟩ := hsim
    exact W1.exit hX (good_of hDx hSx) (goodQ_of hDx hSx) hn (unp_envA _ k1) h2 l he (hw _ (k2.keep h3))
  · simp at hc
end
theorem restC_add (k m : Nat) : ∀ (c : Code), restC m (restC k c) = restC (k + m) c := by
  induction k with
  | zero => intro c; simp [restC]
  | succ k ih =>
    intro c
    rw [Nat.succ_add]
    cases c with
    | seq a b => exact ih b
    | _ => cases m <;> simp [restC]
theorem GP.step2 {X : Cx} (hX : Ok PP X) {D : Dyn} (hD : DP D) {S : List (Nat × FnT)} (hS : SP S) {f : FuncId} {fn : Func} {body : Code} (hb : fn.body = some body) {n k m k2 : Nat} (hk : k + m = k2) {h : Hint} (hn : noRF h = true) {L L' : List Nat} {vs vs' : List AV} {H : AH} {l : List (Nat × AObj)} {N : Nat} {g : List AV → AH → Rs}
    (hg : g = segP ⟨X, S⟩ D n f fn L k m h L') (hc : segOk (g vs H) vs' l N = true) {its : List Item} (hw : GP f fn.ntmps L' (.code (restC k2 body) :: its) vs' (litH l N)) : GP f fn.ntmps L (.code (restC k body) :: its) vs H :=
  GP.step hX hD hS hb hn hg hc (by rw [restC_add, hk]; exact hw)
theorem calls_seg {f : FuncId} {fn : Func} (hfn : PP.funcs[f]? = some fn) {body : Code} (hb : fn.body = some body) (hw : GP f fn.ntmps [] [.code (restC 0 body)] [] ⟨.leaf, 0⟩) {w : World} (ht : Tabs (fun _ _ _ _ => False) w) :
    Calls PP f #[] w fun e w' => e = .returned (.bool true) ∧ RowKit.Below w.heap.size w w' := by
  intro cs
  have hE : EnvR R0 (envL [] []) fn.ntmps (Frame.enter PP f #[] .normal).tmps := by
    have htm : (Frame.enter PP f #[] .normal).tmps = Array.replicate fn.ntmps undef := by simp [Frame.enter, hfn]
    rw [htm]
    exact ⟨by simp, fun t x hx => by simp [look, envL, envA, env0] at hx, fun t _ => rfl⟩
  obtain ⟨R', H', w', fr', h1, h2, h3, h4⟩ := hw _ HR.empty w R0 (Frame.enter PP f #[] .normal) cs w rfl rfl rfl rfl (by simp [Frame.enter, hfn, hb, restC]) hE (Rel.empty ht) (Marks.nil _ _ _) (Ext.refl _ _ _)
  exact ⟨.returned (.bool true), w', fr', ⟨rfl, h4.os, h4.tape, h4.output, h4.size, fun k hk => h4.keep k hk (fun _ _ _ h => h)⟩, h1, h2, h3⟩

/- What is reduced. -/
def segS (B : Tb) (D : Dyn) (n : Nat) (f0 : FuncId) (fn : Func) (N : Nms) (L : List Nat) (k m : Nat) (h : Hint) (L' : List Nat) (vs : List AV) (H : AH) : Rs :=
  match fn.body with
  | some body => unp L vs env0 fun env => codeS B D n fn.ntmps fn.results.toList f0 false N (prefC m (restC k body)) (prefH m (restH k h)) [] (pkN L') env H
  | none => none
def segR (B : Tb) (D : Dyn) (n : Nat) (f0 : FuncId) (fn : Func) (N : Nms) (L p : List Nat) (h : Hint) (Bk : List (Nat × List Nat)) (L' : List Nat) (vs : List AV) (H : AH) : Rs :=
  match fn.body with
  | some body => unp L vs env0 fun env => codeS B D n fn.ntmps fn.results.toList f0 false N (atC p body) (atH p h) Bk (pkN L') env H
  | none => none
def segY (B : Tb) (D : Dyn) (n : Nat) (f0 : FuncId) (fn : Func) (N : Nms) (L : List Nat) (k : Nat) (h : Hint) (vs : List AV) (H : AH) : Rs :=
  match fn.body with
  | some body => unp L vs env0 fun env => codeS B D n fn.ntmps fn.results.toList f0 false N (restC k body) (restH k h) [] (fun env H => retEp B.X fn.results.toList env H) env H
  | none => none
end Go.Eng
