/- Shallow functions, by program (gen.py). -/
import Derived.Test.YtnbpjfmfopgomaaGreatMZ4
import Derived.Test.YtnbpjfmfopgomaaGreatProg
import Derived.KernelRfl
namespace Go.Proofs
open Go.Shelf
def Tryz.clone128_ren : Go.Shelf.Ren := ⟨fun | 5 => 128 | 7 => 200 | n => n, fun | 23 => 79 | 25 => 33 | 3 => 46 | 4 => 4 | 20 => 20 | n => n, fun | n => n⟩
theorem Tryz.clone128 : Go.Proofs.SlLaysW.n5 Tryz.prog Tryz.clone128_ren := {
  mixed := by kernel_rfl
  f5 := ⟨Tryz.f128.name, by decide, Tryz.func128.trans (congrArg some (by kernel_rfl))⟩
  f7 := Tryz.func200.trans (congrArg some (by kernel_rfl))
  t4 := Tryz.underlying4
  a4 := Tryz.isAgg4
  z4 := Tryz.sizeOf4
  v4 := Tryz.zeroValue4
  t20 := Tryz.underlying20
  a20 := Tryz.isAgg20
  z20 := Tryz.sizeOf20
  v20 := Tryz.zeroValue20
  t23 := Tryz.underlying79
  a23 := Tryz.isAgg79
  z23 := Tryz.sizeOf79
  v23 := Tryz.zeroValue79 }
def Tryz.clone130_ren : Go.Shelf.Ren := ⟨fun | 5 => 130 | 7 => 200 | n => n, fun | 23 => 70 | 25 => 3 | 3 => 100 | 4 => 4 | 20 => 20 | n => n, fun | n => n⟩
theorem Tryz.clone130 : Go.Proofs.SlLaysW.n5 Tryz.prog Tryz.clone130_ren := {
  mixed := by kernel_rfl
  f5 := ⟨Tryz.f130.name, by decide, Tryz.func130.trans (congrArg some (by kernel_rfl))⟩
  f7 := Tryz.func200.trans (congrArg some (by kernel_rfl))
  t4 := Tryz.underlying4
  a4 := Tryz.isAgg4
  z4 := Tryz.sizeOf4
  v4 := Tryz.zeroValue4
  t20 := Tryz.underlying20
  a20 := Tryz.isAgg20
  z20 := Tryz.sizeOf20
  v20 := Tryz.zeroValue20
  t23 := Tryz.underlying70
  a23 := Tryz.isAgg70
  z23 := Tryz.sizeOf70
  v23 := Tryz.zeroValue70 }
end Go.Proofs
noncomputable section
namespace Go.Eng.Sh
open Go.Proofs
set_option maxRecDepth 100000
set_option linter.all false
def X : Cx := ⟨(T.ofList 0 Tryz.prog.types.toList .leaf).getD .leaf, [(35, [6, 6, 10]), (59, [6, 2, 6, 6, 6, 10]), (100, (List.replicate 512 7))]⟩
theorem X_ok : Ok PP X := cx_ok (by kernel_rfl) (by kernel_rfl)


noncomputable def q118_0 : ML := mlOf (bodyAt Tryz.f118 [1, 1, 1, 0])
theorem q118_0_fits : q118_0.Fits 69 := by constructor <;> first | kernel_rfl | exact of_decide_eq_true (by kernel_rfl)
noncomputable def hb118_0 : Hint := .o
noncomputable def pre118_0 (vs : List AV) (H : AH) : Rs :=
  hd vs fun x0 vs => hd vs fun x3 vs => hd vs fun x4 vs => 
  bV (pNil x0) fun x43 => 
  bV (fAd 2 x43) fun x44 => 
  bV (ld1 x44 H) fun x45 => 
  some (.norm (x45 :: [x0, x3, x4]), H)
theorem pre118_0_eq : q118_0.preK ⟨X, []⟩ dNone 69 [0, 3, 4] = pre118_0 := by kernel_rfl
noncomputable def rd118_0 (I : Nat) (vs : List AV) (k v : AV) (H : AH) : Rs :=
  hd vs fun x0 vs => hd vs fun x3 vs => hd vs fun x4 vs => 
  bV (pExtract (.tuple [k, v]) 0) fun x50 => 
  bV (pExtract (.tuple [k, v]) 1) fun x51 => 
  bA (bxV 46 (.agg [(.bool false), .nilSlice, .nilSlice, .nilSlice])) H fun x8 H => 
  bR (stN 4 x8 x51 H) fun x9999 H => 
  bV (pNil x4) fun x53 => 
  bV (fAd 5 x53) fun x54 => 
  bV (ld1 x54 H) fun x55 => 
  bV (ldN 4 x8 H) fun x57 => 
  bR (upM [10] x55 x50 x57 H) fun x9999_2 H => 
  some (.norm [(.ptr I 0), x0, x3, x4], H)
theorem rd118_0_eq : q118_0.roundK ⟨X, []⟩ dNone 0 69 hb118_0 [0, 3, 4] = rd118_0 := by kernel_rfl
noncomputable def mt118_0 (vs : List AV) (H : AH) : Option AH := match vs with
  | [.ptr C p, x3, .ptr E o] => match ld1 (.ptr C (p + 2)) H with
    | some (.map M) => match ld1 (.ptr E (o + 5)) H with
      | some (.map A) => bif Nat.blt M H.next && Nat.blt A H.next && Nat.blt E H.next then upLp [10] 1 (isAg 4) (.map M) (.map A) H else none
      | _ => none
    | _ => none
  | _ => none
theorem mt118_0_plan : ∀ vs H H', mt118_0 vs H = some H' → Nonempty (q118_0.Plan ⟨X, []⟩ dNone 0 69 hb118_0 [0, 3, 4] vs H H') := by
  intro vs H H' h
  unfold mt118_0 at h
  split at h
  · rename_i C p x3 E o
    split at h
    · rename_i M hld0
      split at h
      · rename_i A hld
        rw [cond_eq_ite] at h
        split at h
        · rename_i hc
          simp only [Bool.and_eq_true, Nat.blt_eq] at hc
          obtain ⟨⟨hM, hA⟩, hE⟩ := hc
          obtain ⟨l, e, sz, g, hgE, hnth⟩ := ld1_some hld
          have hmaps := upLp_maps h
          refine up_plan h ?_ ?_ hM hA ?_
          · rw [pre118_0_eq]
            simp only [pre118_0, hd, bV, pNil, fAd, fN_eq, hld0]
          · intro k v Hk e0 hok hframe hAk hk hlt hfree _ _
            obtain ⟨cs, rfl, hl, hcl⟩ := isAg_some hok
            have hEM : E ≠ M := fun e => by subst e; obtain ⟨⟨_, _, h1⟩, _⟩ := hmaps; rw [hgE] at h1; simp at h1
            have hEA : E ≠ A := fun e => by subst e; obtain ⟨_, _, _, h1⟩ := hmaps; rw [hgE] at h1; simp at h1
            have hgk : Hk.h.get E = some (.cells l e sz g) := by rw [hframe E hE hEM hEA]; exact hgE
            obtain ⟨t1, ht1, hnew⟩ := newB_free (.cells [(.bool false), .nilSlice, .nilSlice, .nilSlice] 46 1 false) (hfree Hk.next (Nat.le_refl _) (by omega))
            have g1 := T.get_set _ _ _ _ _ ht1
            obtain ⟨t2, ht2, hst⟩ := stN_own (n := 4) (H := ⟨t1, Hk.next + 1⟩) (A := Hk.next) (cs := cs) (by rw [g1, if_pos rfl]) rfl hl hcl
            have g2 := T.get_set _ _ _ _ _ ht2
            simp only at g2 hst
            have hgA : t2.get A = some (.map [10] e0) := by rw [g2, if_neg (by omega), g1, if_neg (by omega)]; exact hAk
            obtain ⟨t3, ht3, hup⟩ := upM_put (v := .agg cs) (H := ⟨t2, Hk.next + 1⟩) hk hgA
            have g3 := T.get_set _ _ _ _ _ ht3
            simp only at g3 hup
            have hldE : ld1 (.ptr E (o + 5)) ⟨t2, Hk.next + 1⟩ = some (.map A) := ld1_at (l := l) (e := e) (sz := sz) (g := g) (by simp only [g2, g1]; rw [if_neg (by omega), if_neg (by omega)]; exact hgk) hnth
            have hldo : ldN 4 (.ptr Hk.next 0) ⟨t2, Hk.next + 1⟩ = some (.agg cs) := ldN_own (by show t2.get Hk.next = _; rw [g2, if_pos rfl]) hl
            refine ⟨⟨t3, Hk.next + 1⟩, ?_, rfl, ?_, fun C hC hlt => ?_⟩
            · rw [rd118_0_eq]
              simp only [rd118_0, hd, bV, bR, pExtract, nth, bA, bxV, cellsA, hnew, hst, pNil, fAd, fN_eq, hldE, hldo, hup]
            · simp only [g3, if_true]
            · simp only [g3, if_neg hC, g2, g1]
              rw [if_neg (by omega), if_neg (by omega)]
          · intro R0 w0 hR hv
            obtain ⟨z, hz⟩ := hv (.ptr E o) (by simp)
            obtain ⟨b, d, c, hr, _⟩ := hz
            exact in_cells hR hr hgE hnth
        · simp at h
      · simp at h
    · simp at h
  · simp at h
noncomputable def mtp118_0 (vs : List AV) (H : AH) : Option AH := match vs with
  | [.ptr C p, x3, .ptr E o] => match ld1p (.ptr C (p + 2)) H with
    | some (.map M) => match ld1p (.ptr E (o + 5)) H with
      | some (.map A) => bif Nat.blt M H.next && Nat.blt A H.next && Nat.blt E H.next then upLp [10] 1 (isAgp 4) (.map M) (.map A) H else none
      | _ => none
    | _ => none
  | _ => none
theorem mtp118_0_sim : MS mtp118_0 mt118_0 := by
  intro vs H H' Hx h hR
  unfold mtp118_0 at h
  split at h
  · rename_i C p x3 E o
    split at h
    · rename_i M hld0
      split at h
      · rename_i A hld
        have e1 := ld1_s hR hld0
        have e2 := ld1_s hR hld
        simp only [ex] at e1 e2
        rw [cond_eq_ite] at h
        split at h
        · rename_i hc
          obtain ⟨Hx', h1, h2⟩ := upLp_s hR (fun v hv => isAgp_ok hv) h
          refine ⟨Hx', ?_, h2⟩
          simp only [exM, ex, mt118_0, e1, e2, hR.next, hc, cond_true, h1]
        · simp at h
      · simp at h
    · simp at h
  · simp at h
theorem told118_0 : ToldOk PP 69 118 q118_0.code [0, 3, 4] mt118_0 := up_told X_ok q118_0_fits (by decide +kernel) (by decide +kernel) (hb := hb118_0) (by kernel_rfl) (kt := 33) (vt := 46) (by kernel_rfl) mt118_0_plan


/-- (jetty/dead.needs).has, over plain rows -/
def p170 (vs : List AV) (H : AH) : Option (AV × AH) :=
  outR (hd vs fun x0 vs => hd vs fun x1 vs => nl vs <|
  bV (bInt .shr x0 x1) fun x7 => 
  bV (bInt .and x7 (.int .u8 (.ofNat 1))) fun x8 => 
  bV (bInt .eql x8 (.int .u8 (.ofNat 1))) fun x9 => 
  bV (some x9) fun x4 => some (.ret x4, H))
def ph170 : Hint := (.s .o (.s .o .o))
theorem p170_eq : p170 = funK ⟨X, []⟩ dNone 0 170 Tryz.f170 ph170 := by kernel_rfl
theorem p170_ok : FI 170 p170 := fun_ok X_ok dNone_ok (SOk.nil) Tryz.func170 (by kernel_rfl) p170_eq
/-- (*jetty/dead.Table).Of$1, over plain rows -/
def p211 (vs : List AV) (H : AH) : Option (AV × AH) :=
  outR (hd vs fun x0 vs => hd vs fun x1 vs => nl vs <|
  bV (ld1 x1 H) fun x5 => 
  bR (noPan (p170 [x0, x5] H)) fun x6 H => 
  bV (some x6) fun x3 => some (.ret x3, H))
def ph211 : Hint := (.s .o (.s .o .o))
theorem p211_eq : p211 = funK ⟨X, [(170, p170)]⟩ dNone 0 211 Tryz.f211 ph211 := by kernel_rfl
theorem p211_ok : FI 211 p211 := fun_ok X_ok dNone_ok (SOk.cons p170_ok.fs (SOk.nil)) Tryz.func211 (by kernel_rfl) p211_eq

end Go.Eng.Sh
