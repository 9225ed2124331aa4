/- Engine, part 12: cuts, and all that reads memory. No condition. -/
import Derived.Test.YtghipbccmngkpaaE11
namespace Go.Eng

theorem decap_even {cc : Nat} (c : Nat) (h : cc % 2 = 0) : decap cc c = cc / 2 := by
  have : (cc % 2).beq 0 = true := by rw [Nat.beq_eq]; exact h
  simp only [decap, this, cond_true]
theorem decap_odd {cc : Nat} (c : Nat) (h : ¬ cc % 2 = 0) : decap cc c = c - cc / 2 := by
  have : (cc % 2).beq 0 = false := by rw [Bool.eq_false_iff, ne_eq, Nat.beq_eq]; exact h
  simp only [decap, this, cond_false]

theorem acut_ok {P : Program} {w : World} {R : Ren} {A b d c off len cc sz room cp : Nat} {lo hi mx : Option Nat} {lv hv mv : Option Value} {r : AV} {is : Bool} (hR : R A b d c) (hcp : cp = decap cc c) (hroom : room ≤ cp)
    (h : acut A off len cc sz room lo hi mx = some r) (h1 : OR lo lv) (h2 : OR hi hv) (h3 : OR mx mv) :
    ∃ l h m, (Instr.sliceBounds is len cp lv hv mv).run P w = .ok (l, h, m) w ∧ VR R r (.slice (some (if m = l then (⟨b, d + off, none⟩ : Addr) else (⟨b, d + off, none⟩ : Addr).add (l * sz))) (h - l) (m - l)) := by
  unfold acut at h
  simp only at h
  split at h
  · rename_i m
    split at h
    · rename_i hh
      simp only [cond_eq_ite] at h
      split at h
      · rename_i hc
        simp only [Bool.and_eq_true, Nat.ble_eq] at hc
        simp only [fN_eq, Option.some.injEq] at h
        subst h
        refine ⟨lo.getD 0, hh, m, bounds_max h1 h2 h3 rfl (by omega) hc.1.2 hc.2, b, d, c, hR, ?_⟩
        have e1 : decap (2 * (m - lo.getD 0)) c = m - lo.getD 0 := by simp [decap]
        rw [e1, add_none]
        by_cases e : m = lo.getD 0
        · rw [if_pos e]; simp [Nat.beq_eq, e]
        · rw [if_neg e]; simp [Nat.beq_eq, e, Nat.add_assoc]
      · simp at h
    · simp at h
  · cases h3
    simp only [cond_eq_ite] at h
    split at h
    · rename_i hc
      simp only [Bool.and_eq_true, Nat.ble_eq] at hc
      have hb := bounds_plain (P := P) (w := w) (is := is) (cap := cp) h1 h2 rfl rfl (by omega) hc.2
      refine ⟨_, _, _, hb, ?_⟩
      split at h
      · rename_i he
        rw [Nat.beq_eq] at he
        simp only [fN_eq, Option.some.injEq] at h
        subst h
        have e0 : cp = cc / 2 := by rw [hcp]; simp [decap, he]
        refine ⟨b, d, c, hR, ?_⟩
        have e1 : decap (2 * (cc / 2 - lo.getD 0)) c = cp - lo.getD 0 := by simp [decap, e0]
        rw [e1, add_none]
        by_cases e : cp = lo.getD 0
        · rw [if_pos e]; rw [e0] at e; simp [Nat.beq_eq, e]
        · rw [if_neg e]; rw [e0] at e; simp [Nat.beq_eq, e, Nat.add_assoc]
      · rename_i he
        rw [Nat.beq_eq] at he
        have e0 : cp = c - cc / 2 := by rw [hcp, decap_odd c he]
        split at h
        · rename_i hl0
          rw [Nat.beq_eq] at hl0
          simp only [fN_eq, Option.some.injEq] at h
          subst h
          refine ⟨b, d, c, hR, ?_⟩
          rw [hl0, Nat.sub_zero, Nat.sub_zero, ← hcp, Nat.zero_mul, add_none, Nat.add_zero]
          split <;> rfl
        · rename_i hl0
          split at h
          · rename_i hlt
            rw [Nat.blt_eq] at hlt
            simp only [fN_eq, Option.some.injEq] at h
            subst h
            refine ⟨b, d, c, hR, ?_⟩
            rw [if_neg (by omega), add_none, Nat.add_assoc]
            have e1 : decap (cc + 2 * lo.getD 0) c = cp - lo.getD 0 := by
              rw [decap_odd c (by omega), e0]
              omega
            rw [e1]
          · rename_i hlt
            rw [Nat.blt_eq] at hlt
            simp only [Option.some.injEq] at h
            subst h
            exact ⟨_, _, by rw [show hi.getD len - lo.getD 0 = 0 from by omega]⟩
    · simp at h

theorem roomOf_ok {R : Ren} {H : AH} {w : World} (hL : Rel R H w) {A b d c : Nat} {l : List AV} {e sz' off cc sz : Nat} {g : Bool} (hA : H.h.get A = some (.cells l e sz' g)) (hR : R A b d c) (hsz : 0 < sz) : roomOf l g sz' off cc sz ≤ decap cc c := by
  unfold roomOf
  rw [cond_eq_ite]
  split
  · rename_i he
    rw [Nat.beq_eq] at he
    rw [decap_even c he]
    exact Nat.le_refl _
  · rename_i he
    rw [Nat.beq_eq] at he
    rw [decap_odd c he, cond_eq_ite]
    split
    · rename_i hc
      simp only [Bool.and_eq_true, Nat.beq_eq] at hc
      obtain ⟨⟨hg, rfl⟩, rfl⟩ := hc
      obtain ⟨arr, fz, pre, l', spare, h1, h2, h3, h4, h5, h6, h7⟩ := hL.cellsAt hA hR
      have hll := VRL.length l l' h4
      have hcs := h6 hg
      rw [lenL_zero]
      have hle : l.length ≤ c * sz' := by omega
      have : l.length - cc / 2 * sz' ≤ (c - cc / 2) * sz' := by rw [Nat.sub_mul]; omega
      exact Nat.div_le_of_le_mul (by rw [Nat.mul_comm sz']; exact this)
    · exact Nat.zero_le _

section
variable {P : Program} {X : Cx} (hX : Ok P X) {R : Ren} {H : AH} {w : World} (hL : Rel R H w)
include hX hL

theorem aslice_ok {t : TypeId} {x r : AV} {v : Value} {lo hi mx : Option AV} {lv hv mv : Option Value} (h : aslice X t x lo hi mx H = some r) (hx : VR R x v)
    (h1 : (lo = none ∧ lv = none) ∨ ∃ a u, lo = some a ∧ lv = some u ∧ VR R a u) (h2 : (hi = none ∧ hv = none) ∨ ∃ a u, hi = some a ∧ hv = some u ∧ VR R a u) (h3 : (mx = none ∧ mv = none) ∨ ∃ a u, mx = some a ∧ mv = some u ∧ VR R a u) :
    ∃ z, (Instr.sliceAt t v lv hv mv).run P w = .ok z w ∧ VR R r z := by
  unfold aslice at h
  split at h
  · rename_i lo' hi' mx' e1 e2 e3
    have o1 := natOpt_ok e1 h1
    have o2 := natOpt_ok e2 h2
    have o3 := natOpt_ok e3 h3
    split at h
    · rename_i len bits hd
      split at h
      · unfold acutS at h
        simp only [cond_eq_ite] at h
        split at h
        · rename_i hc
          simp only [Bool.and_eq_true, Nat.ble_eq] at hc
          rw [mkS_eq, Option.some.injEq] at h; subst h
          obtain ⟨s, rfl, rfl, rfl⟩ := hx
          cases o3
          have hb := bounds_plain (P := P) (w := w) (is := false) (len := s.size) (cap := s.size) o1 o2 rfl rfl hc.1 hc.2
          refine ⟨.string (s.extract (lo'.getD 0) (hi'.getD s.size)), ?_, _, rfl, ?_, ?_⟩
          · simp only [Instr.sliceAt, Instr.slice, Sem.run_bind, hX.run_und hd, Result.andThen]
            simp [hb, Sem.run_bind, Sem.run_pure]
          · rw [ByteArray.size_extract]; omega
          · rw [Lib.extract_data, pack_take, pack_drop, pow8, pow8]
        · simp at h
      · simp at h
    · rename_i e hd
      split at h
      · rename_i sz hsz
        simp only [cond_eq_ite] at h
        split at h
        · rename_i hc
          simp only [Bool.and_eq_true, Nat.beq_eq] at hc
          obtain ⟨⟨⟨c1, c2⟩, c3⟩, c4⟩ := hc
          simp only [Option.some.injEq] at h; subst h
          simp only [VR] at hx; subst hx
          refine ⟨.slice none 0 0, ?_, rfl⟩
          cases mx' with
          | none =>
            cases o3
            have hb := bounds_plain (P := P) (w := w) (is := true) (len := 0) (cap := 0) o1 o2 rfl rfl (by omega) (by omega)
            simp [Instr.sliceAt, Instr.slice, Sem.run_bind, hX.run_und hd, hb, hX.run_size hsz, Sem.run_pure, c1, c2]
          | some m =>
            cases hi' with
            | none => simp at c4
            | some hh =>
              simp only [Option.getD_some] at c2 c3
              subst c2 c3
              have hb := bounds_max (P := P) (w := w) (is := true) (len := 0) (cap := 0) o1 o2 o3 rfl (Nat.le_refl _) (Nat.le_refl _) (by omega)
              simp [Instr.sliceAt, Instr.slice, Sem.run_bind, hX.run_und hd, hb, hX.run_size hsz, Sem.run_pure, c1]
        · simp at h
      · simp at h
    · rename_i e A off len cc hd
      split at h
      · rename_i sz hsz
        split at h
        · rename_i l e' sz' g hA
          simp only [cond_eq_ite, Nat.blt_eq] at h
          split at h
          · rename_i hpos
            obtain ⟨b, d, c, hr, rfl⟩ := hx
            obtain ⟨ll, hh, mm, hb, hvr⟩ := acut_ok (P := P) (w := w) (is := true) hr rfl (roomOf_ok hL hA hr hpos) h o1 o2 o3
            refine ⟨_, ?_, hvr⟩
            simp only [Instr.sliceAt, Instr.slice, Sem.run_bind, hX.run_und hd, Result.andThen, hb, hX.run_size hsz, Sem.run_pure]
            congr 1
            split <;> simp_all
          · simp at h
        · simp at h
      · simp at h
    · rename_i e hd
      split at h
      · rename_i sz hsz
        split at h
        · simp only [cond_eq_ite] at h
          split at h
          · rename_i hc
            simp only [Bool.and_eq_true, Nat.beq_eq] at hc
            obtain ⟨c1, c2⟩ := hc
            simp only [Option.some.injEq] at h; subst h
            obtain ⟨a, cp, rfl⟩ := hx
            cases o3
            have hb := bounds_plain (P := P) (w := w) (is := true) (len := 0) (cap := cp) o1 o2 rfl rfl (by omega) (by omega)
            rw [c1, c2] at hb
            refine ⟨.slice (some a) 0 cp, ?_, a, cp, rfl⟩
            simp [Instr.sliceAt, Instr.slice, Sem.run_bind, hX.run_und hd, hb, hX.run_size hsz, Sem.run_pure, Addr.add]
          · simp at h
        · simp at h
      · simp at h
    · rename_i n e A off hd
      split at h
      · rename_i sz hsz
        simp only [cond_eq_ite, Nat.blt_eq] at h
        split at h
        · rename_i hpos
          obtain ⟨b, d, c, hr, rfl⟩ := hx
          obtain ⟨ll, hh, mm, hb, hvr⟩ := acut_ok (P := P) (w := w) (is := false) (cp := n) hr (by simp [decap]) (Nat.le_refl _) h o1 o2 o3
          refine ⟨_, ?_, hvr⟩
          simp only [Instr.sliceAt, Instr.sureAddr, Sem.run_bind, hX.run_und hd, Result.andThen, hb, hX.run_size hsz, Sem.run_pure]
        · simp at h
      · simp at h
    · rename_i arr A off hd
      split at h
      · rename_i n e hd2
        split at h
        · rename_i sz hsz
          simp only [cond_eq_ite, Nat.blt_eq] at h
          split at h
          · rename_i hpos
            obtain ⟨b, d, c, hr, rfl⟩ := hx
            obtain ⟨ll, hh, mm, hb, hvr⟩ := acut_ok (P := P) (w := w) (is := false) (cp := n) hr (by simp [decap]) (Nat.le_refl _) h o1 o2 o3
            refine ⟨_, ?_, hvr⟩
            simp only [Instr.sliceAt, Instr.slice, asAddr, Sem.run_bind, hX.run_und hd, hX.run_und hd2, Result.andThen, hb, hX.run_size hsz, Sem.run_pure]
          · simp at h
        · simp at h
      · simp at h
    · simp at h
  · simp at h

/-- Whatever reads memory does as the evaluator says. -/
theorem simL {env : T AV} {n : Nat} {fr : Frame} (hE : EnvR R env n fr.tmps) {o : Oper} {r : AV} (h : aL X env H o.op = some r) : ∃ z, (execOp fr.eval o).run P w = .ok (.value z) w ∧ VR R r z := by
  have H1 : ∀ {x : Operand} {f : AV → Option AV}, b1 (opd env x) f = some r → ∃ a, VR R a (fr.eval x) ∧ f a = some r := by
    intro x f hb
    unfold b1 at hb
    split at hb
    · rename_i a ha; exact ⟨a, opd_ok hE x a ha, hb⟩
    · simp at hb
  have HO : ∀ {x : Option Operand} {y : Option AV}, optOf env x = some y → (y = none ∧ x.map fr.eval = none) ∨ ∃ a u, y = some a ∧ x.map fr.eval = some u ∧ VR R a u := by
    intro x y hb
    cases x with
    | none => simp only [optOf, Option.some.injEq] at hb; exact .inl ⟨hb.symm, rfl⟩
    | some x =>
      simp only [optOf] at hb
      split at hb
      · rename_i b hb'
        simp only [Option.some.injEq] at hb
        exact .inr ⟨b, _, hb.symm, rfl, opd_ok hE x b hb'⟩
      · simp at hb
  obtain ⟨dst, op, ty, pos, after, guard⟩ := o
  simp only at h
  unfold aL at h
  split at h
  · obtain ⟨a, ha, hf⟩ := H1 h
    obtain ⟨z, h1, h2⟩ := aload_ok hX hL hf ha
    exact ⟨z, run_val h1, h2⟩
  · unfold lSlice at h
    split at h
    · rename_i a ha
      split at h
      · rename_i lo' hlo
        split at h
        · rename_i hi' hhi
          split at h
          · rename_i mx' hmx
            obtain ⟨z, h1, h2⟩ := aslice_ok hX hL h (opd_ok hE _ _ ha) (HO hlo) (HO hhi) (HO hmx)
            exact ⟨z, run_val h1, h2⟩
          · simp at h
        · simp at h
      · simp at h
    · simp at h
  · obtain ⟨a, ha, hf⟩ := H1 h
    obtain ⟨z, h1, h2⟩ := aconvL_ok hX hL hf ha
    exact ⟨z, run_val h1, h2⟩
  · rename_i c
    split at h
    · rename_i hc
      split at h
      · rename_i x hx
        split at h
        · rename_i t ts ht
          obtain ⟨a, ha, hf⟩ := H1 h
          obtain ⟨callee, args, types⟩ := c
          simp only at hc hx ht; subst hc
          have ht' : types[0]? = some t := by rw [← Array.getElem?_toList, ht]; rfl
          obtain ⟨z, h1, h2⟩ := alen_ok hX hL (ty := ty) ht' hf ha
          have ea : args.map fr.eval = #[fr.eval x] := by
            apply Array.toList_inj.1; simp [hx]
          refine ⟨z, ?_, h2⟩
          simp only [execOp, resolve, invoke, builtin, ea, Sem.run_bind, Sem.run_pure, Result.andThen, h1]
        · simp at h
      · simp at h
    · simp at h
  · simp at h
end
end Go.Eng
