/- Engine, part 11: the operations that read memory. No condition. -/
import Derived.Test.YtghipbccmngkpaaE10
namespace Go.Eng

section
variable {P : Program} {X : Cx} (hX : Ok P X) {R : Ren} {H : AH} {w : World} (hL : Rel R H w)
include hX hL

theorem aload_ok {t : TypeId} {p r : AV} {v : Value} (h : aload X t p H = some r) (hv : VR R p v) : ∃ z, (Instr.loadAt t v).run P w = .ok z w ∧ VR R r z := by
  unfold aload at h
  split at h
  · rename_i A off
    split at h
    · rename_i l e sz g hA
      obtain ⟨b, d, c, hr, rfl⟩ := hv
      split at h
      · rename_i td hd
        rw [cond_eq_ite] at h
        split at h
        · rename_i ha
          split at h
          · rename_i n hn
            split at h
            · rename_i cs hc
              simp only [Option.some.injEq] at h; subst h
              obtain ⟨vs, h1, h2, h3⟩ := hL.loads hA hr (P := P) hc
              refine ⟨.agg vs.toArray, ?_, vs, rfl, h2⟩
              simp only [Instr.loadAt, Instr.sureAddr, loadVar, Sem.run_bind, Sem.run_pure, Result.andThen, hX.run_isAgg hd, ha, if_true, hX.run_size hn, h1]
            · simp at h
          · simp at h
        · rename_i ha
          have ha' : isAggD td = false := by simpa using ha
          rw [nth_eq] at h
          obtain ⟨z, h1, h2⟩ := hL.cell hA hr h
          refine ⟨z, ?_, h2⟩
          simp only [Instr.loadAt, Instr.sureAddr, loadVar, Sem.run_bind, Sem.run_pure, Result.andThen, hX.run_isAgg hd, ha', Bool.false_eq_true, if_false]
          simp [load, Sem.run, h1]
      · simp at h
    · simp at h
  · simp at h

theorem alen_ok {t ty : TypeId} {x r : AV} {v : Value} {ts : Array TypeId} (ht : ts[0]? = some t) (h : alen X t x H = some r) (hv : VR R x v) : ∃ z, (Builtin.len_ ts ty #[v]).run P w = .ok z w ∧ VR R r z := by
  unfold alen at h
  split at h
  · rename_i l b hd
    simp only [Option.some.injEq] at h; subst h
    obtain ⟨s, rfl, rfl, rfl⟩ := hv
    exact ⟨goInt s.size, by simp [Builtin.len_, ht, Sem.run_bind, hX.run_und hd, Sem.run_pure], rfl⟩
  · rename_i e hd
    simp only [Option.some.injEq] at h; subst h
    simp only [VR] at hv; subst hv
    exact ⟨goInt 0, by simp [Builtin.len_, ht, Sem.run_bind, hX.run_und hd, Sem.run_pure], rfl⟩
  · rename_i e A off n cc hd
    simp only [Option.some.injEq] at h; subst h
    obtain ⟨b, d, c, hr, rfl⟩ := hv
    exact ⟨goInt n, by simp [Builtin.len_, ht, Sem.run_bind, hX.run_und hd, Sem.run_pure], rfl⟩
  · rename_i e hd
    simp only [Option.some.injEq] at h; subst h
    obtain ⟨a, c, rfl⟩ := hv
    exact ⟨goInt 0, by simp [Builtin.len_, ht, Sem.run_bind, hX.run_und hd, Sem.run_pure], rfl⟩
  · rename_i n e hd
    simp only [Option.some.injEq] at h; subst h
    exact ⟨goInt n, by simp [Builtin.len_, ht, Sem.run_bind, hX.run_und hd, Sem.run_pure], rfl⟩
  · rename_i k e hd
    simp only [Option.some.injEq] at h; subst h
    simp only [VR] at hv; subst hv
    exact ⟨goInt 0, by simp [Builtin.len_, ht, Sem.run_bind, hX.run_und hd, Sem.run_pure], rfl⟩
  · rename_i k e A hd
    split at h
    · rename_i es hA
      simp only [Option.some.injEq] at h; subst h
      obtain ⟨b, d, c, hr, rfl⟩ := hv
      obtain ⟨arr, clock, h1, m, hp, h2, h3⟩ := hL.obj _ _ _ _ _ hr hA
      have hlen : arr.size = es.length := by
        have e1 := hp.length_eq
        have e2 := VRL.length _ _ h2
        simp at e1 e2; omega
      have hg : (getObj b).run P w = .ok (.map arr clock) w := by simp [getObj, Sem.run, h1]
      exact ⟨goInt arr.size, by simp [Builtin.len_, ht, Sem.run_bind, hX.run_und hd, hg, Sem.run_pure], by rw [hlen]; rfl⟩
    · simp at h
  · simp at h

omit hX hL in
theorem textOf_ok : ∀ {l : List AV} {m : List Value} {n b : Nat}, textOf l = some (n, b) → VRL R l m → ∃ bs : List UInt8, m = bs.map (fun c => Value.int .u8 (c.toNat : Int)) ∧ bs.length = n ∧ pack bs = b
  | [], m, n, b, h, hv => by
    simp only [textOf, Option.some.injEq, Prod.mk.injEq] at h
    simp only [VRL] at hv; subst hv
    exact ⟨[], rfl, h.1, h.2⟩
  | x :: l, m, n, b, h, hv => by
    unfold textOf at h
    split at h
    · rename_i heq; simp at heq
    · rename_i k rest heq
      simp only [List.cons.injEq] at heq
      obtain ⟨rfl, rfl⟩ := heq
      simp only [cond_eq_ite, Nat.blt_eq] at h
      split at h
      · rename_i hk
        split at h
        · rename_i n' b' hr
          simp only [fN_eq, Option.some.injEq, Prod.mk.injEq] at h
          obtain ⟨x', m', rfl, h1, h2⟩ := hv
          obtain ⟨bs, rfl, h3, h4⟩ := textOf_ok hr h2
          simp only [VR] at h1; subst h1
          refine ⟨UInt8.ofNat k :: bs, ?_, by simp [h3, ← h.1], ?_⟩
          · simp only [List.map_cons, UInt8.toNat_ofNat', List.cons.injEq, and_true]
            congr 1; rw [Nat.mod_eq_of_lt hk]; rfl
          · simp only [pack, UInt8.toNat_ofNat', h4, ← h.2]
            rw [Nat.mod_eq_of_lt hk]
        · simp at h
      · simp at h
    · simp at h

theorem aconvL_ok {s d : TypeId} {x r : AV} {v : Value} (h : aconvL X s d x H = some r) (hv : VR R x v) : ∃ z, (convert s d v).run P w = .ok z w ∧ VR R r z := by
  unfold aconvL at h
  split at h
  · rename_i e hs
    split at h
    · rename_i hd
      split at h
      · rename_i he
        split at h
        · simp only [Option.some.injEq] at h; subst h
          simp only [VR] at hv; subst hv
          refine ⟨.string .empty, ?_, .empty, rfl, rfl, rfl⟩
          rw [run_convert_bytes_string w s d e none 0 0 (hX.und hs) (hX.und he) (hX.und hd)]
          rfl
        · rename_i A off len cc
          split at h
          · rename_i l e' sz g hA
            split at h
            · rename_i cs hc
              split at h
              · rename_i n b ht
                rw [mkS_eq, Option.some.injEq] at h; subst h
                obtain ⟨bl, dd, c, hr, rfl⟩ := hv
                obtain ⟨vs, h1, h2, h3⟩ := hL.loads hA hr (P := P) hc
                obtain ⟨bs, rfl, h4, h5⟩ := textOf_ok ht h2
                refine ⟨.string ⟨bs.toArray⟩, ?_, ⟨bs.toArray⟩, rfl, by simpa [ByteArray.size] using h4, by simpa using h5⟩
                rw [run_convert_bytes_string w s d e _ _ _ (hX.und hs) (hX.und he) (hX.und hd)]
                have h1' : (loadCells ⟨bl, dd + off, none⟩ len).run P w = .ok ((bs.map (fun b => (b.toNat : Int))).map (Value.int .u8)).toArray w := by
                  rw [h1]; simp [List.map_map, Function.comp_def]
                rw [run_bytesToString w _ _ _ _ h1', foldl_push_byteCells]
                have he0 : ByteArray.empty.data = #[] := rfl
                rw [he0]; simp
              · simp at h
            · simp at h
          · simp at h
        · simp at h
      · simp at h
    · simp at h
  · simp at h
end

/-- Bounds of a cut. -/
inductive OR : Option Nat → Option Value → Prop
  | none : OR none none
  | some {n : Nat} {k : IntKind} : OR (some n) (some (.int k (n : Int)))

theorem natOpt_ok {R : Ren} {x : Option AV} {n : Option Nat} {v : Option Value} (h : natOpt x = some n) (hv : (x = none ∧ v = none) ∨ ∃ a u, x = some a ∧ v = some u ∧ VR R a u) : OR n v := by
  rcases hv with ⟨rfl, rfl⟩ | ⟨a, u, rfl, rfl, hu⟩
  · simp only [natOpt, Option.some.injEq] at h; subst h; exact .none
  · simp only [natOpt] at h
    split at h
    · rename_i m hm
      simp only [Option.some.injEq] at h; subst h
      obtain ⟨k, rfl⟩ := natOf_ok hm hu
      exact .some
    · simp at h

theorem sliceBound_ok {P : Program} {w : World} {k : IntKind} {n y : Nat} {code : BoundsCode} (h : n ≤ y) : (Instr.sliceBound (.int k (n : Int)) y code).run P w = .ok n w := by
  simp only [Instr.sliceBound, asIntOf, Sem.run_bind, Sem.run_pure, Result.andThen]
  rw [if_pos (by omega)]
  simp [Sem.run_pure]

theorem bounds_max {P : Program} {w : World} {is : Bool} {len cap l h m : Nat} {lo : Option Nat} {lv hv mv : Option Value} (h1 : OR lo lv) (h2 : OR (some h) hv) (h3 : OR (some m) mv) (hl : l = lo.getD 0) (hm : m ≤ cap) (hh : h ≤ m) (hlh : l ≤ h) :
    (Instr.sliceBounds is len cap lv hv mv).run P w = .ok (l, h, m) w := by
  subst hl
  cases h2; cases h3; cases h1
  · simp only [Instr.sliceBounds, Sem.run_bind, sliceBound_ok hm, sliceBound_ok hh, Sem.run_pure, Result.andThen]; rfl
  · simp only [Option.getD_some] at hlh
    simp only [Instr.sliceBounds, Sem.run_bind, sliceBound_ok hm, sliceBound_ok hh, sliceBound_ok hlh, Sem.run_pure, Result.andThen]; rfl

theorem bounds_plain {P : Program} {w : World} {is : Bool} {len cap l h : Nat} {lo hi : Option Nat} {lv hv : Option Value} (h1 : OR lo lv) (h2 : OR hi hv) (hl : l = lo.getD 0) (hh : h = hi.getD len) (hc : h ≤ cap) (hlh : l ≤ h) :
    (Instr.sliceBounds is len cap lv hv none).run P w = .ok (l, h, cap) w := by
  subst hl hh
  cases h2 <;> cases h1
  · simp only [Instr.sliceBounds, Sem.run_bind, Sem.run_pure, Result.andThen]; rfl
  · simp only [Option.getD_some, Option.getD_none] at hlh
    simp only [Instr.sliceBounds, Sem.run_bind, sliceBound_ok hlh, Sem.run_pure, Result.andThen]; rfl
  · simp only [Option.getD_some] at hc
    simp only [Instr.sliceBounds, Sem.run_bind, sliceBound_ok hc, Sem.run_pure, Result.andThen]; rfl
  · simp only [Option.getD_some] at hc hlh
    simp only [Instr.sliceBounds, Sem.run_bind, sliceBound_ok hc, sliceBound_ok hlh, Sem.run_pure, Result.andThen]; rfl
end Go.Eng
