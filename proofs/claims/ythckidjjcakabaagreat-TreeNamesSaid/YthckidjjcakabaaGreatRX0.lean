/- Shallow functions, by program (gent4.py). -/
import Derived.Test.YthckidjjcakabaaGreatFP
import Derived.Test.YthckidjjcakabaaGreatProg
import Derived.KernelRfl
namespace Go.Proofs
open Go.Shelf
def Tryz.clone76_ren : Go.Shelf.Ren := ⟨fun | 5 => 76 | 7 => 110 | n => n, fun | 23 => 66 | 25 => 33 | 3 => 46 | 4 => 4 | 20 => 20 | n => n, fun | n => n⟩
theorem Tryz.clone76 : Go.Proofs.SlLaysW.n5 Tryz.prog Tryz.clone76_ren := {
  mixed := by kernel_rfl
  f5 := ⟨Tryz.f76.name, by decide, Tryz.func76.trans (congrArg some (by kernel_rfl))⟩
  f7 := Tryz.func110.trans (congrArg some (by kernel_rfl))
  t4 := Tryz.underlying4
  a4 := Tryz.isAgg4
  z4 := Tryz.sizeOf4
  v4 := Tryz.zeroValue4
  t20 := Tryz.underlying20
  a20 := Tryz.isAgg20
  z20 := Tryz.sizeOf20
  v20 := Tryz.zeroValue20
  t23 := Tryz.underlying66
  a23 := Tryz.isAgg66
  z23 := Tryz.sizeOf66
  v23 := Tryz.zeroValue66 }
def Tryz.clone78_ren : Go.Shelf.Ren := ⟨fun | 5 => 78 | 7 => 110 | n => n, fun | 23 => 57 | 25 => 3 | 3 => 87 | 4 => 4 | 20 => 20 | n => n, fun | n => n⟩
theorem Tryz.clone78 : Go.Proofs.SlLaysW.n5 Tryz.prog Tryz.clone78_ren := {
  mixed := by kernel_rfl
  f5 := ⟨Tryz.f78.name, by decide, Tryz.func78.trans (congrArg some (by kernel_rfl))⟩
  f7 := Tryz.func110.trans (congrArg some (by kernel_rfl))
  t4 := Tryz.underlying4
  a4 := Tryz.isAgg4
  z4 := Tryz.sizeOf4
  v4 := Tryz.zeroValue4
  t20 := Tryz.underlying20
  a20 := Tryz.isAgg20
  z20 := Tryz.sizeOf20
  v20 := Tryz.zeroValue20
  t23 := Tryz.underlying57
  a23 := Tryz.isAgg57
  z23 := Tryz.sizeOf57
  v23 := Tryz.zeroValue57 }
end Go.Proofs
noncomputable section
namespace Go.Eng.Sh
open Go.Proofs
set_option maxRecDepth 100000
set_option maxHeartbeats 4000000
set_option linter.all false
def y (l : U TypeInfo) (v : TypeInfo) (r : U TypeInfo) : U TypeInfo := .node l (some v) r
abbrev o : U TypeInfo := .leaf
noncomputable def TX : U TypeInfo := (y (y (y (y (y (y (y (y o Tryz.t127 o) Tryz.t63 (y o Tryz.t191 o)) Tryz.t31 (y (y o Tryz.t159 o) Tryz.t95 o)) Tryz.t15 (y (y (y o Tryz.t143 o) Tryz.t79 (y o Tryz.t207 o)) Tryz.t47 (y (y o Tryz.t175 o) Tryz.t111 o))) Tryz.t7 (y (y (y (y o Tryz.t135 o) Tryz.t71 (y o Tryz.t199 o)) Tryz.t39 (y (y o Tryz.t167 o) Tryz.t103 o)) Tryz.t23 (y (y (y o Tryz.t151 o) Tryz.t87 (y o Tryz.t215 o)) Tryz.t55 (y (y o Tryz.t183 o) Tryz.t119 o)))) Tryz.t3 (y (y (y (y (y o Tryz.t131 o) Tryz.t67 (y o Tryz.t195 o)) Tryz.t35 (y (y o Tryz.t163 o) Tryz.t99 o)) Tryz.t19 (y (y (y o Tryz.t147 o) Tryz.t83 (y o Tryz.t211 o)) Tryz.t51 (y (y o Tryz.t179 o) Tryz.t115 o))) Tryz.t11 (y (y (y (y o Tryz.t139 o) Tryz.t75 (y o Tryz.t203 o)) Tryz.t43 (y (y o Tryz.t171 o) Tryz.t107 o)) Tryz.t27 (y (y (y o Tryz.t155 o) Tryz.t91 o) Tryz.t59 (y (y o Tryz.t187 o) Tryz.t123 o))))) Tryz.t1 (y (y (y (y (y (y o Tryz.t129 o) Tryz.t65 (y o Tryz.t193 o)) Tryz.t33 (y (y o Tryz.t161 o) Tryz.t97 o)) Tryz.t17 (y (y (y o Tryz.t145 o) Tryz.t81 (y o Tryz.t209 o)) Tryz.t49 (y (y o Tryz.t177 o) Tryz.t113 o))) Tryz.t9 (y (y (y (y o Tryz.t137 o) Tryz.t73 (y o Tryz.t201 o)) Tryz.t41 (y (y o Tryz.t169 o) Tryz.t105 o)) Tryz.t25 (y (y (y o Tryz.t153 o) Tryz.t89 (y o Tryz.t217 o)) Tryz.t57 (y (y o Tryz.t185 o) Tryz.t121 o)))) Tryz.t5 (y (y (y (y (y o Tryz.t133 o) Tryz.t69 (y o Tryz.t197 o)) Tryz.t37 (y (y o Tryz.t165 o) Tryz.t101 o)) Tryz.t21 (y (y (y o Tryz.t149 o) Tryz.t85 (y o Tryz.t213 o)) Tryz.t53 (y (y o Tryz.t181 o) Tryz.t117 o))) Tryz.t13 (y (y (y (y o Tryz.t141 o) Tryz.t77 (y o Tryz.t205 o)) Tryz.t45 (y (y o Tryz.t173 o) Tryz.t109 o)) Tryz.t29 (y (y (y o Tryz.t157 o) Tryz.t93 o) Tryz.t61 (y (y o Tryz.t189 o) Tryz.t125 o)))))) Tryz.t0 (y (y (y (y (y (y (y o Tryz.t128 o) Tryz.t64 (y o Tryz.t192 o)) Tryz.t32 (y (y o Tryz.t160 o) Tryz.t96 o)) Tryz.t16 (y (y (y o Tryz.t144 o) Tryz.t80 (y o Tryz.t208 o)) Tryz.t48 (y (y o Tryz.t176 o) Tryz.t112 o))) Tryz.t8 (y (y (y (y o Tryz.t136 o) Tryz.t72 (y o Tryz.t200 o)) Tryz.t40 (y (y o Tryz.t168 o) Tryz.t104 o)) Tryz.t24 (y (y (y o Tryz.t152 o) Tryz.t88 (y o Tryz.t216 o)) Tryz.t56 (y (y o Tryz.t184 o) Tryz.t120 o)))) Tryz.t4 (y (y (y (y (y o Tryz.t132 o) Tryz.t68 (y o Tryz.t196 o)) Tryz.t36 (y (y o Tryz.t164 o) Tryz.t100 o)) Tryz.t20 (y (y (y o Tryz.t148 o) Tryz.t84 (y o Tryz.t212 o)) Tryz.t52 (y (y o Tryz.t180 o) Tryz.t116 o))) Tryz.t12 (y (y (y (y o Tryz.t140 o) Tryz.t76 (y o Tryz.t204 o)) Tryz.t44 (y (y o Tryz.t172 o) Tryz.t108 o)) Tryz.t28 (y (y (y o Tryz.t156 o) Tryz.t92 o) Tryz.t60 (y (y o Tryz.t188 o) Tryz.t124 o))))) Tryz.t2 (y (y (y (y (y (y o Tryz.t130 o) Tryz.t66 (y o Tryz.t194 o)) Tryz.t34 (y (y o Tryz.t162 o) Tryz.t98 o)) Tryz.t18 (y (y (y o Tryz.t146 o) Tryz.t82 (y o Tryz.t210 o)) Tryz.t50 (y (y o Tryz.t178 o) Tryz.t114 o))) Tryz.t10 (y (y (y (y o Tryz.t138 o) Tryz.t74 (y o Tryz.t202 o)) Tryz.t42 (y (y o Tryz.t170 o) Tryz.t106 o)) Tryz.t26 (y (y (y o Tryz.t154 o) Tryz.t90 (y o Tryz.t218 o)) Tryz.t58 (y (y o Tryz.t186 o) Tryz.t122 o)))) Tryz.t6 (y (y (y (y (y o Tryz.t134 o) Tryz.t70 (y o Tryz.t198 o)) Tryz.t38 (y (y o Tryz.t166 o) Tryz.t102 o)) Tryz.t22 (y (y (y o Tryz.t150 o) Tryz.t86 (y o Tryz.t214 o)) Tryz.t54 (y (y o Tryz.t182 o) Tryz.t118 o))) Tryz.t14 (y (y (y (y o Tryz.t142 o) Tryz.t78 (y o Tryz.t206 o)) Tryz.t46 (y (y o Tryz.t174 o) Tryz.t110 o)) Tryz.t30 (y (y (y o Tryz.t158 o) Tryz.t94 o) Tryz.t62 (y (y o Tryz.t190 o) Tryz.t126 o)))))))
def X : Cx := ⟨TX, [(35, [6, 6, 10]), (40, [2, 2]), (87, (List.replicate 512 7))]⟩
theorem TX_eq : TX = (U.ofList 0 PP.types.toList .leaf).getD .leaf := by kernel_rfl
theorem X_ok : Ok PP X := by
  have h := cx_ok (P := PP) (fl := X.fl) (by kernel_rfl) (by kernel_rfl)
  rw [← TX_eq] at h
  exact h
def nN : List AV → AH → Rs := fun _ _ => none


noncomputable def q66_0 : ML := mlOf (bodyAt Tryz.f66 [1, 1, 1, 0])
theorem q66_0_fits : q66_0.Fits 69 := by constructor <;> first | kernel_rfl | exact of_decide_eq_true (by kernel_rfl)
noncomputable def hb66_0 : Hint := .o
noncomputable def pre66_0 (vs : List AV) (H : AH) : Rs :=
  hd vs fun x0 vs => hd vs fun x3 vs => hd vs fun x4 vs => 
  bV (pNil x0) fun x43 => 
  bV (fAd 2 x43) fun x44 => 
  bV (ld1 x44 H) fun x45 => 
  some (.norm (x45 :: [x0, x3, x4]), H)
theorem pre66_0_eq : q66_0.preK ⟨X, []⟩ dNone 69 [0, 3, 4] = pre66_0 := by kernel_rfl
noncomputable def rd66_0 (I : Nat) (vs : List AV) (k v : AV) (H : AH) : Rs :=
  hd vs fun x0 vs => hd vs fun x3 vs => hd vs fun x4 vs => 
  bV (pExtract (.tuple [k, v]) 0) fun x50 => 
  bV (pExtract (.tuple [k, v]) 1) fun x51 => 
  bA (bxV 46 (.agg [(.bool false), .nilSlice, .nilSlice, .nilSlice])) H fun x8 H => 
  bR (stN 4 x8 x51 H) fun x9999 H => 
  bV (pNil x4) fun x53 => 
  bV (fAd 5 x53) fun x54 => 
  bV (ld1 x54 H) fun x55 => 
  bV (ldN 4 x8 H) fun x57 => 
  bR (upM [10] x55 x50 x57 H) fun x9999_2 H => 
  some (.norm [(.ptr I 0), x0, x3, x4], H)
theorem rd66_0_eq : q66_0.roundK ⟨X, []⟩ dNone 0 69 hb66_0 [0, 3, 4] = rd66_0 := by kernel_rfl
noncomputable def mt66_0 (vs : List AV) (H : AH) : Option AH := match vs with
  | [.ptr C p, x3, .ptr E o] => match ld1 (.ptr C (p + 2)) H with
    | some (.map M) => match ld1 (.ptr E (o + 5)) H with
      | some (.map A) => bif Nat.blt M H.next && Nat.blt A H.next && Nat.blt E H.next then upLp [10] 1 (isAg 4) (.map M) (.map A) H else none
      | _ => none
    | _ => none
  | _ => none
theorem mt66_0_plan : ∀ vs H H', mt66_0 vs H = some H' → Nonempty (q66_0.Plan ⟨X, []⟩ dNone 0 69 hb66_0 [0, 3, 4] vs H H') := by
  intro vs H H' h
  unfold mt66_0 at h
  split at h
  · rename_i C p x3 E o
    split at h
    · rename_i M hld0
      split at h
      · rename_i A hld
        rw [cond_eq_ite] at h
        split at h
        · rename_i hc
          simp only [Bool.and_eq_true, Nat.blt_eq] at hc
          obtain ⟨⟨hM, hA⟩, hE⟩ := hc
          obtain ⟨l, e, sz, g, hgE, hnth⟩ := ld1_some hld
          have hmaps := upLp_maps h
          refine up_plan h ?_ ?_ hM hA ?_
          · rw [pre66_0_eq]
            simp only [pre66_0, hd, bV, pNil, fAd, fN_eq, hld0]
          · intro k v Hk e0 hok hframe hAk hk hlt hfree _ _
            obtain ⟨cs, rfl, hl, hcl⟩ := isAg_some hok
            have hEM : E ≠ M := fun e => by subst e; obtain ⟨⟨_, _, h1⟩, _⟩ := hmaps; rw [hgE] at h1; simp at h1
            have hEA : E ≠ A := fun e => by subst e; obtain ⟨_, _, _, h1⟩ := hmaps; rw [hgE] at h1; simp at h1
            have hgk : Hk.h.get E = some (.cells l e sz g) := by rw [hframe E hE hEM hEA]; exact hgE
            obtain ⟨t1, ht1, hnew⟩ := newB_free (.cells [(.bool false), .nilSlice, .nilSlice, .nilSlice] 46 1 false) (hfree Hk.next (Nat.le_refl _) (by omega))
            have g1 := T.get_set _ _ _ _ _ ht1
            obtain ⟨t2, ht2, hst⟩ := stN_own (n := 4) (H := ⟨t1, Hk.next + 1⟩) (A := Hk.next) (cs := cs) (by rw [g1, if_pos rfl]) rfl hl hcl
            have g2 := T.get_set _ _ _ _ _ ht2
            simp only at g2 hst
            have hgA : t2.get A = some (.map [10] e0) := by rw [g2, if_neg (by omega), g1, if_neg (by omega)]; exact hAk
            obtain ⟨t3, ht3, hup⟩ := upM_put (v := .agg cs) (H := ⟨t2, Hk.next + 1⟩) hk hgA
            have g3 := T.get_set _ _ _ _ _ ht3
            simp only at g3 hup
            have hldE : ld1 (.ptr E (o + 5)) ⟨t2, Hk.next + 1⟩ = some (.map A) := ld1_at (l := l) (e := e) (sz := sz) (g := g) (by simp only [g2, g1]; rw [if_neg (by omega), if_neg (by omega)]; exact hgk) hnth
            have hldo : ldN 4 (.ptr Hk.next 0) ⟨t2, Hk.next + 1⟩ = some (.agg cs) := ldN_own (by show t2.get Hk.next = _; rw [g2, if_pos rfl]) hl
            refine ⟨⟨t3, Hk.next + 1⟩, ?_, rfl, ?_, fun C hC hlt => ?_⟩
            · rw [rd66_0_eq]
              simp only [rd66_0, hd, bV, bR, pExtract, nth, bA, bxV, cellsA, hnew, hst, pNil, fAd, fN_eq, hldE, hldo, hup]
            · simp only [g3, if_true]
            · simp only [g3, if_neg hC, g2, g1]
              rw [if_neg (by omega), if_neg (by omega)]
          · intro R0 w0 hR hv
            obtain ⟨z, hz⟩ := hv (.ptr E o) (by simp)
            obtain ⟨b, d, c, hr, _⟩ := hz
            exact in_cells hR hr hgE hnth
        · simp at h
      · simp at h
    · simp at h
  · simp at h
noncomputable def mtp66_0 (vs : List AV) (H : AH) : Option AH := match vs with
  | [.ptr C p, x3, .ptr E o] => match ld1p (.ptr C (p + 2)) H with
    | some (.map M) => match ld1p (.ptr E (o + 5)) H with
      | some (.map A) => bif Nat.blt M H.next && Nat.blt A H.next && Nat.blt E H.next then upLp [10] 1 (isAgp 4) (.map M) (.map A) H else none
      | _ => none
    | _ => none
  | _ => none
theorem mtp66_0_sim : MS mtp66_0 mt66_0 := by
  intro vs H H' Hx h hR
  unfold mtp66_0 at h
  split at h
  · rename_i C p x3 E o
    split at h
    · rename_i M hld0
      split at h
      · rename_i A hld
        have e1 := ld1_s hR hld0
        have e2 := ld1_s hR hld
        simp only [ex] at e1 e2
        rw [cond_eq_ite] at h
        split at h
        · rename_i hc
          obtain ⟨Hx', h1, h2⟩ := upLp_s hR (fun v hv => isAgp_ok hv) h
          refine ⟨Hx', ?_, h2⟩
          simp only [exM, ex, mt66_0, e1, e2, hR.next, hc, cond_true, h1]
        · simp at h
      · simp at h
    · simp at h
  · simp at h
theorem told66_0 : ToldOk PP 69 66 q66_0.code [0, 3, 4] mt66_0 := up_told X_ok q66_0_fits (by decide +kernel) (by decide +kernel) (hb := hb66_0) (by kernel_rfl) (kt := 33) (vt := 46) (by kernel_rfl) mt66_0_plan


noncomputable def q80_0 : ML := mlOf (bodyAt Tryz.f80 [])
theorem q80_0_fits : q80_0.Fits 16 := by constructor <;> first | kernel_rfl | exact of_decide_eq_true (by kernel_rfl)
noncomputable def hb80_0 : Hint := .o
noncomputable def pre80_0 (vs : List AV) (H : AH) : Rs :=
  hd vs fun x0 vs => hd vs fun x1 vs => 
  some (.norm (x1 :: [x0, x1]), H)
theorem pre80_0_eq : q80_0.preK ⟨X, []⟩ dNone 16 [0, 1] = pre80_0 := by kernel_rfl
noncomputable def rd80_0 (I : Nat) (vs : List AV) (k v : AV) (H : AH) : Rs :=
  hd vs fun x0 vs => hd vs fun x1 vs => 
  bV (pExtract (.tuple [k, v]) 0) fun x11 => 
  bV (pExtract (.tuple [k, v]) 1) fun x12 => 
  bR (upM [6] x0 x11 x12 H) fun x9999 H => 
  some (.norm [(.ptr I 0), x0, x1], H)
theorem rd80_0_eq : q80_0.roundK ⟨X, []⟩ dNone 0 16 hb80_0 [0, 1] = rd80_0 := by kernel_rfl
noncomputable def mt80_0 (vs : List AV) (H : AH) : Option AH := match vs with
  | [.map A, .map M] => bif Nat.blt M H.next && Nat.blt A H.next then upLp [6] 0 anyV (.map M) (.map A) H else none
  | _ => none
theorem mt80_0_plan : ∀ vs H H', mt80_0 vs H = some H' → Nonempty (q80_0.Plan ⟨X, []⟩ dNone 0 16 hb80_0 [0, 1] vs H H') := by
  intro vs H H' h
  unfold mt80_0 at h
  split at h
  · rename_i A M
    rw [cond_eq_ite] at h
    split at h
    · rename_i hc
      simp only [Bool.and_eq_true, Nat.blt_eq] at hc
      obtain ⟨hM, hA⟩ := hc
      refine up_plan h ?_ ?_ hM hA ?_
      · rw [pre80_0_eq]
        simp only [pre80_0, hd, bV]
      · intro k v Hk e0 hok hframe hAk hk hlt hfree _ _
        obtain ⟨t3, ht3, hup⟩ := upM_put (v := v) (H := Hk) hk hAk
        have g3 := T.get_set _ _ _ _ _ ht3
        refine ⟨⟨t3, Hk.next⟩, ?_, rfl, ?_, fun C hC hlt => ?_⟩
        · rw [rd80_0_eq]
          simp only [rd80_0, hd, bV, bR, pExtract, nth, hup]
        · simp only [g3, if_true]
        · simp only [g3, if_neg hC]
      · intro R0 w0 hR hv
        obtain ⟨z, hz⟩ := hv (.map A) (by simp)
        obtain ⟨b, d, c, hr, _⟩ := hz
        exact ⟨b, d, c, hr⟩
    · simp at h
  · simp at h
noncomputable def mtp80_0 (vs : List AV) (H : AH) : Option AH := match vs with
  | [.map A, .map M] => bif Nat.blt M H.next && Nat.blt A H.next then upLp [6] 0 anyV (.map M) (.map A) H else none
  | _ => none
theorem mtp80_0_sim : MS mtp80_0 mt80_0 := by
  intro vs H H' Hx h hR
  unfold mtp80_0 at h
  split at h
  · rename_i A M
    rw [cond_eq_ite] at h
    split at h
    · rename_i hc
      obtain ⟨Hx', h1, h2⟩ := upLp_s (okp := anyV) (ok := anyV) hR (fun v hv => rfl) h
      refine ⟨Hx', ?_, h2⟩
      simp only [exM, ex, mt80_0, hR.next, hc, cond_true, h1]
    · simp at h
  · simp at h
theorem told80_0 : ToldOk PP 16 80 q80_0.code [0, 1] mt80_0 := up_told X_ok q80_0_fits (by decide +kernel) (by decide +kernel) (hb := hb80_0) (by kernel_rfl) (kt := 3) (vt := 3) (by kernel_rfl) mt80_0_plan

end Go.Eng.Sh
