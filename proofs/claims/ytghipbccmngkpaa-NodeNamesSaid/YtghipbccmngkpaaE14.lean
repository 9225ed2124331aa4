/- Engine, part 14: stores, appends and copies. No condition. -/
import Derived.Test.YtghipbccmngkpaaE13
namespace Go.Eng

theorem run_append_in {P : Program} {w w' : World} {t u ty e : TypeId} {du : TypeDesc} {sz n sLen sCap : Nat} {base : Option Addr} {xv : Value} {vs : Array Value} (ht : (underlying t).run P w = .ok (.slice e) w) (hu : (underlying u).run P w = .ok du w) (hdu : ∀ k, du ≠ .int k)
    (hsz : (sizeOf e).run P w = .ok sz w) (hn : (Builtin.lenOf xv).run P w = .ok n w) (hf : (Builtin.firstCells sz n xv).run P w = .ok vs w) (hle : sLen + n ≤ sCap)
    (hs : (match base with | some a => storeCells (a.add (sLen * sz)) vs.toList | none => pure ()).run P w = .ok () w') :
    (Builtin.append_ #[t, u] ty #[.slice base sLen sCap, xv]).run P w = .ok (.slice base (sLen + n) sCap) w' := by
  have hz : (match du with | .int _ => true | _ => false) = false := by
    cases du <;> first | rfl | exact absurd rfl (hdu _)
  cases base with
  | none =>
    simp only [Sem.run_pure, Result.ok.injEq, true_and] at hs; subst hs
    simp [Builtin.append_, Sem.run_bind, ht, hu, hsz, hz, hn, hle, hf, Sem.run_pure]
  | some a =>
    simp [Builtin.append_, Sem.run_bind, ht, hu, hsz, hz, hn, hle, hf, hs, Sem.run_pure]

theorem run_append_grow {P : Program} {w : World} {t u ty e : TypeId} {du : TypeDesc} {ti : TypeInfo} {zv : Value} {n sLen sCap : Nat} {base : Option Addr} {xv : Value} {vs old : Array Value} (ht : (underlying t).run P w = .ok (.slice e) w) (hu : (underlying u).run P w = .ok du w) (hdu : ∀ k, du ≠ .int k)
    (hi : P.info? e = some ti) (hz : ti.zero = some zv) (hn : (Builtin.lenOf xv).run P w = .ok n w) (hf : ∀ w', w'.heap = w.heap → (Builtin.firstCells ti.size n xv).run P w' = .ok vs w')
    (ho : ∀ w', w'.heap = w.heap → (Builtin.firstCells ti.size sLen (.slice base sLen sCap)).run P w' = .ok old w') (hlt : sCap < sLen + n) (hb : (sLen + n + (sLen + n) / 4 + 192) * ti.bytes ≤ 281474976710656) (h63 : sLen + n < 4611686018427387904) :
    ∃ cap, sLen + n ≤ cap ∧ (Builtin.append_ #[t, u] ty #[.slice base sLen sCap, xv]).run P w =
      .ok (.slice (some ⟨w.heap.size, 0, none⟩) (sLen + n) cap) (World.alloc w.drew (.cells (old ++ vs ++ Builtin.zeroCells zv.cells (cap - (sLen + n))) e)) := by
  have hzz : (match du with | .int _ => true | _ => false) = false := by
    cases du <;> first | rfl | exact absurd rfl (hdu _)
  have hfit := growslice_fits_wide (bytes := ti.bytes) hlt hb
  refine ⟨Question.cut (.appendCap (sLen + n) sCap e) (w.tape w.drawn (.appendCap (sLen + n) sCap e)), by simp only [Question.cut]; omega, ?_⟩
  generalize hcap : Question.cut (.appendCap (sLen + n) sCap e) (w.tape w.drawn (.appendCap (sLen + n) sCap e)) = cap
  have hq : (choose (.appendCap (sLen + n) sCap e)).run P w = .ok cap { w with drawn := w.drawn + 1 } := by
    simp only [choose, Sem.run, Question.forced, Bool.false_eq_true, if_false, hcap]
  have hsz : ∀ w', (sizeOf e).run P w' = .ok ti.size w' := fun w' => by simp [sizeOf, typeInfo, hi]
  have hti : ∀ w', (typeInfo e).run P w' = .ok ti w' := fun w' => by simp [typeInfo, hi]
  have hzv : ∀ w', (zeroValue e).run P w' = .ok zv w' := fun w' => by simp [zeroValue, typeInfo, hi, hz]
  have hle : ¬ sLen + n ≤ sCap := by omega
  have hbig : ¬ ((sLen + n : Nat) : Int) > IntKind.i64.max := by
    simp only [IntKind.max, IntKind.signed, IntKind.bits]; simp; omega
  have hroom : ∀ (b : Nat) w', (askRoom b).run P w' = .ok () w' := fun b w' => by unfold askRoom; split <;> rfl
  have hnf : ¬ Builtin.nextslicecap (sLen + n) sCap * ti.bytes > 2 ^ 48 := by omega
  have hf' := hf w.drew rfl
  have ho' := ho w.drew rfl
  have hbig' : ¬ (((sLen : Int) + (n : Int)) > IntKind.i64.max) := by simpa using hbig
  have hb2 : ¬ (9223372036854775807 < (sLen : Int) + (n : Int) ∧ ti.bytes = 0) := by omega
  have hforced : (Question.appendCap (sLen + n) sCap e).forced = false := rfl
  have hnf' : ¬ 281474976710656 < Builtin.nextslicecap (sLen + n) sCap * ti.bytes := by omega
  simp [Builtin.append_, Sem.run_bind, ht, hu, hsz, hzz, hn, hle, hti, hb2, hnf', hforced, hcap, hroom, ho', hf', hzv, newRow, newObj, Sem.run, Sem.run_pure]

/-- A block that is not looked at any more. -/
theorem Rel.kill {R : Ren} {H : AH} {w : World} (h : Rel R H w) {A : Nat} {t' : T AObj} (hs : T.set 40 H.h A .dead = some t') : Rel R ⟨t', H.next⟩ w := by
  have hg := T.get_set _ _ _ _ _ hs
  have hl : ∀ A', Live ⟨t', H.next⟩ A' → Live H A' := fun A' ⟨o, ho, hd⟩ => by
    simp only [hg] at ho
    by_cases e : A' = A
    · rw [if_pos e] at ho; injection ho with ho; subst ho; exact hd.elim
    · rw [if_neg e] at ho; exact ⟨o, ho, hd⟩
  refine ⟨h.fn, fun A1 A2 b d c d' c' r r' l l' => h.inj _ _ _ _ _ _ _ r r' (hl _ l) (hl _ l'), fun A1 b d c o r ho => ?_, h.lt⟩
  simp only [hg] at ho
  by_cases e : A1 = A
  · rw [if_pos e] at ho; injection ho with ho; subst ho; trivial
  · rw [if_neg e] at ho; exact h.obj _ _ _ _ _ r ho
theorem Ext.kill {R : Ren} {H : AH} {w : World} {A b d c : Nat} (hR : R A b d c) {t' : T AObj} (hs : T.set 40 H.h A .dead = some t') : Ext R H w R ⟨t', H.next⟩ w :=
  ⟨Sub.refl R, fun _ _ _ _ h => .inl h, fun _ _ _ _ h => .inl h, Nat.le_refl _, fun A1 _ hk => by
    show t'.get A1 = _
    rw [T.get_set _ _ _ _ _ hs, if_neg (fun e => by subst e; exact hk _ _ _ hR)], rfl, rfl, rfl, Nat.le_refl _, fun _ _ _ => rfl⟩

/-- A new block of the engine's takes the place of one that is dead now. -/
theorem Rel.move {R : Ren} {H : AH} {w : World} (h : Rel R H w) {A b d c d' c' : Nat} {o' : AObj} {x : Obj} {t1 t2 : T AObj} (hR : R A b d c) (hl : Live H A) (h1 : T.set 40 H.h A .dead = some t1) (h2 : T.set 40 t1 H.next o' = some t2)
    (ho : ORel (R.add H.next b d' c') o' d' c' (some x)) : Rel (R.add H.next b d' c') ⟨t2, H.next + 1⟩ (wput w b x) := by
  have g1 := T.get_set _ _ _ _ _ h1
  have g2 := T.get_set _ _ _ _ _ h2
  have hno : ∀ b d c, ¬ R H.next b d c := fun b d c r => by have := (h.lt _ _ _ _ r).2; omega
  have hlive : ∀ A', Live ⟨t2, H.next + 1⟩ A' → A' ≠ H.next → Live H A' ∧ A' ≠ A := fun A' ⟨o, ho, hd⟩ hne => by
    simp only [g2, if_neg hne, g1] at ho
    by_cases e : A' = A
    · rw [if_pos e] at ho; injection ho with ho; subst ho; exact hd.elim
    · rw [if_neg e] at ho; exact ⟨⟨o, ho, hd⟩, e⟩
  refine ⟨?_, ?_, ?_, ?_⟩
  · rintro A1 b1 d1 c1 b2 d2 c2 (r | ⟨rfl, rfl, rfl, rfl⟩) (r' | ⟨e1, rfl, rfl, rfl⟩)
    · exact h.fn _ _ _ _ _ _ _ r r'
    · subst e1; exact absurd r (hno _ _ _)
    · exact absurd r' (hno _ _ _)
    · exact ⟨rfl, rfl, rfl⟩
  · rintro A1 A2 b1 d1 c1 d2 c2 (r | ⟨rfl, rfl, rfl, rfl⟩) (r' | ⟨rfl, e2, rfl, rfl⟩) l l'
    · have n1 : A1 ≠ H.next := fun e => by subst e; exact hno _ _ _ r
      have n2 : A2 ≠ H.next := fun e => by subst e; exact hno _ _ _ r'
      exact h.inj _ _ _ _ _ _ _ r r' (hlive _ l n1).1 (hlive _ l' n2).1
    · subst e2
      have n1 : A1 ≠ H.next := fun e => by subst e; exact hno _ _ _ r
      obtain ⟨l1, l2⟩ := hlive _ l n1
      exact absurd (h.inj _ _ _ _ _ _ _ r hR l1 hl) l2
    · have n1 : A2 ≠ H.next := fun e => by subst e; exact hno _ _ _ r'
      obtain ⟨l1, l2⟩ := hlive _ l' n1
      exact absurd (h.inj _ _ _ _ _ _ _ r' hR l1 hl) l2
    · rfl
  · rintro A1 b1 d1 c1 o1 (r | ⟨rfl, rfl, rfl, rfl⟩) ho1
    · have n1 : A1 ≠ H.next := fun e => by subst e; exact hno _ _ _ r
      simp only [g2, if_neg n1, g1] at ho1
      by_cases e : A1 = A
      · rw [if_pos e] at ho1; injection ho1 with ho1; subst ho1; trivial
      · rw [if_neg e] at ho1
        by_cases eb : b1 = b
        · subst eb
          have hd1 : ¬ Live H A1 := fun l1 => e (h.inj _ _ _ _ _ _ _ r hR l1 hl)
          cases o1 with
          | dead => trivial
          | _ => exact absurd ⟨_, ho1, trivial⟩ hd1
        · rw [wput_other _ _ _ _ eb]
          exact (h.obj _ _ _ _ _ r ho1).mono (R.sub_add _ _ _ _)
    · simp only [g2, if_pos] at ho1
      injection ho1 with ho1; subst ho1
      rw [wput_same _ _ _ (h.lt _ _ _ _ hR).1]
      exact ho
  · rintro A1 b1 d1 c1 (r | ⟨rfl, rfl, rfl, rfl⟩)
    · rw [wput_size]; exact ⟨(h.lt _ _ _ _ r).1, Nat.lt_succ_of_lt (h.lt _ _ _ _ r).2⟩
    · rw [wput_size]; exact ⟨(h.lt _ _ _ _ hR).1, Nat.lt_succ_self _⟩

theorem Ext.move {R : Ren} {H : AH} {w : World} {A b d c d' c' : Nat} {o' : AObj} {x : Obj} {t1 t2 : T AObj} (hR : R A b d c) (h1 : T.set 40 H.h A .dead = some t1) (h2 : T.set 40 t1 H.next o' = some t2) :
    Ext R H w (R.add H.next b d' c') ⟨t2, H.next + 1⟩ (wput w b x) where
  sub := R.sub_add _ _ _ _
  new A1 b1 d1 c1 := by
    rintro (r | ⟨rfl, rfl, rfl, rfl⟩)
    · exact .inl r
    · exact .inr (.inr ⟨_, _, _, hR⟩)
  newA A1 b1 d1 c1 := by
    rintro (r | ⟨rfl, rfl, rfl, rfl⟩)
    · exact .inl r
    · exact .inr (Nat.le_refl _)
  next := Nat.le_succ _
  keepA A1 hA hk := by
    show t2.get A1 = _
    rw [T.get_set _ _ _ _ _ h2, if_neg (by omega), T.get_set _ _ _ _ _ h1, if_neg (fun e => by subst e; exact hk _ _ _ hR)]
  os := rfl
  tape := rfl
  output := rfl
  size := by rw [wput_size]; omega
  keep k _ hk := wput_other _ _ _ _ (fun e => by subst e; exact hk _ _ _ hR)
end Go.Eng
