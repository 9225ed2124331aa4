/- Shallow functions, by program (gent4.py). -/
import Derived.Test.YtnbpjfmfopgomaaGreatDoorMV4
import Derived.Test.YtnbpjfmfopgomaaGreatDoorProg
import Derived.KernelRfl
namespace Go.Proofs
open Go.Shelf
def Tryz.clone179_ren : Go.Shelf.Ren := ⟨fun | 5 => 179 | 7 => 255 | n => n, fun | 23 => 173 | 25 => 58 | 3 => 269 | 4 => 4 | 20 => 20 | n => n, fun | n => n⟩
theorem Tryz.clone179 : Go.Proofs.SlLaysW.n5 Tryz.prog Tryz.clone179_ren := {
  mixed := by kernel_rfl
  f5 := ⟨Tryz.f179.name, by decide, Tryz.func179.trans (congrArg some (by kernel_rfl))⟩
  f7 := Tryz.func255.trans (congrArg some (by kernel_rfl))
  t4 := Tryz.underlying4
  a4 := Tryz.isAgg4
  z4 := Tryz.sizeOf4
  v4 := Tryz.zeroValue4
  t20 := Tryz.underlying20
  a20 := Tryz.isAgg20
  z20 := Tryz.sizeOf20
  v20 := Tryz.zeroValue20
  t23 := Tryz.underlying173
  a23 := Tryz.isAgg173
  z23 := Tryz.sizeOf173
  v23 := Tryz.zeroValue173 }
end Go.Proofs
noncomputable section
namespace Go.Eng.Sh
open Go.Proofs
set_option maxRecDepth 100000
set_option maxHeartbeats 4000000
set_option linter.all false
def y (l : T TypeInfo) (v : TypeInfo) (r : T TypeInfo) : T TypeInfo := .node l (some v) r
abbrev o : T TypeInfo := .leaf
noncomputable def TX : T TypeInfo := (y (y (y (y (y (y (y (y (y (y o Tryz.t511 o) Tryz.t255 o) Tryz.t127 (y o Tryz.t383 o)) Tryz.t63 (y (y o Tryz.t319 o) Tryz.t191 (y o Tryz.t447 o))) Tryz.t31 (y (y (y (y o Tryz.t543 o) Tryz.t287 o) Tryz.t159 (y o Tryz.t415 o)) Tryz.t95 (y (y o Tryz.t351 o) Tryz.t223 (y o Tryz.t479 o)))) Tryz.t15 (y (y (y (y (y o Tryz.t527 o) Tryz.t271 o) Tryz.t143 (y o Tryz.t399 o)) Tryz.t79 (y (y o Tryz.t335 o) Tryz.t207 (y o Tryz.t463 o))) Tryz.t47 (y (y (y o Tryz.t303 o) Tryz.t175 (y o Tryz.t431 o)) Tryz.t111 (y (y o Tryz.t367 o) Tryz.t239 (y o Tryz.t495 o))))) Tryz.t7 (y (y (y (y (y (y o Tryz.t519 o) Tryz.t263 o) Tryz.t135 (y o Tryz.t391 o)) Tryz.t71 (y (y o Tryz.t327 o) Tryz.t199 (y o Tryz.t455 o))) Tryz.t39 (y (y (y o Tryz.t295 o) Tryz.t167 (y o Tryz.t423 o)) Tryz.t103 (y (y o Tryz.t359 o) Tryz.t231 (y o Tryz.t487 o)))) Tryz.t23 (y (y (y (y (y o Tryz.t535 o) Tryz.t279 o) Tryz.t151 (y o Tryz.t407 o)) Tryz.t87 (y (y o Tryz.t343 o) Tryz.t215 (y o Tryz.t471 o))) Tryz.t55 (y (y (y o Tryz.t311 o) Tryz.t183 (y o Tryz.t439 o)) Tryz.t119 (y (y o Tryz.t375 o) Tryz.t247 (y o Tryz.t503 o)))))) Tryz.t3 (y (y (y (y (y (y (y o Tryz.t515 o) Tryz.t259 o) Tryz.t131 (y o Tryz.t387 o)) Tryz.t67 (y (y o Tryz.t323 o) Tryz.t195 (y o Tryz.t451 o))) Tryz.t35 (y (y (y (y o Tryz.t547 o) Tryz.t291 o) Tryz.t163 (y o Tryz.t419 o)) Tryz.t99 (y (y o Tryz.t355 o) Tryz.t227 (y o Tryz.t483 o)))) Tryz.t19 (y (y (y (y (y o Tryz.t531 o) Tryz.t275 o) Tryz.t147 (y o Tryz.t403 o)) Tryz.t83 (y (y o Tryz.t339 o) Tryz.t211 (y o Tryz.t467 o))) Tryz.t51 (y (y (y o Tryz.t307 o) Tryz.t179 (y o Tryz.t435 o)) Tryz.t115 (y (y o Tryz.t371 o) Tryz.t243 (y o Tryz.t499 o))))) Tryz.t11 (y (y (y (y (y (y o Tryz.t523 o) Tryz.t267 o) Tryz.t139 (y o Tryz.t395 o)) Tryz.t75 (y (y o Tryz.t331 o) Tryz.t203 (y o Tryz.t459 o))) Tryz.t43 (y (y (y o Tryz.t299 o) Tryz.t171 (y o Tryz.t427 o)) Tryz.t107 (y (y o Tryz.t363 o) Tryz.t235 (y o Tryz.t491 o)))) Tryz.t27 (y (y (y (y (y o Tryz.t539 o) Tryz.t283 o) Tryz.t155 (y o Tryz.t411 o)) Tryz.t91 (y (y o Tryz.t347 o) Tryz.t219 (y o Tryz.t475 o))) Tryz.t59 (y (y (y o Tryz.t315 o) Tryz.t187 (y o Tryz.t443 o)) Tryz.t123 (y (y o Tryz.t379 o) Tryz.t251 (y o Tryz.t507 o))))))) Tryz.t1 (y (y (y (y (y (y (y (y o Tryz.t513 o) Tryz.t257 o) Tryz.t129 (y o Tryz.t385 o)) Tryz.t65 (y (y o Tryz.t321 o) Tryz.t193 (y o Tryz.t449 o))) Tryz.t33 (y (y (y (y o Tryz.t545 o) Tryz.t289 o) Tryz.t161 (y o Tryz.t417 o)) Tryz.t97 (y (y o Tryz.t353 o) Tryz.t225 (y o Tryz.t481 o)))) Tryz.t17 (y (y (y (y (y o Tryz.t529 o) Tryz.t273 o) Tryz.t145 (y o Tryz.t401 o)) Tryz.t81 (y (y o Tryz.t337 o) Tryz.t209 (y o Tryz.t465 o))) Tryz.t49 (y (y (y o Tryz.t305 o) Tryz.t177 (y o Tryz.t433 o)) Tryz.t113 (y (y o Tryz.t369 o) Tryz.t241 (y o Tryz.t497 o))))) Tryz.t9 (y (y (y (y (y (y o Tryz.t521 o) Tryz.t265 o) Tryz.t137 (y o Tryz.t393 o)) Tryz.t73 (y (y o Tryz.t329 o) Tryz.t201 (y o Tryz.t457 o))) Tryz.t41 (y (y (y o Tryz.t297 o) Tryz.t169 (y o Tryz.t425 o)) Tryz.t105 (y (y o Tryz.t361 o) Tryz.t233 (y o Tryz.t489 o)))) Tryz.t25 (y (y (y (y (y o Tryz.t537 o) Tryz.t281 o) Tryz.t153 (y o Tryz.t409 o)) Tryz.t89 (y (y o Tryz.t345 o) Tryz.t217 (y o Tryz.t473 o))) Tryz.t57 (y (y (y o Tryz.t313 o) Tryz.t185 (y o Tryz.t441 o)) Tryz.t121 (y (y o Tryz.t377 o) Tryz.t249 (y o Tryz.t505 o)))))) Tryz.t5 (y (y (y (y (y (y (y o Tryz.t517 o) Tryz.t261 o) Tryz.t133 (y o Tryz.t389 o)) Tryz.t69 (y (y o Tryz.t325 o) Tryz.t197 (y o Tryz.t453 o))) Tryz.t37 (y (y (y o Tryz.t293 o) Tryz.t165 (y o Tryz.t421 o)) Tryz.t101 (y (y o Tryz.t357 o) Tryz.t229 (y o Tryz.t485 o)))) Tryz.t21 (y (y (y (y (y o Tryz.t533 o) Tryz.t277 o) Tryz.t149 (y o Tryz.t405 o)) Tryz.t85 (y (y o Tryz.t341 o) Tryz.t213 (y o Tryz.t469 o))) Tryz.t53 (y (y (y o Tryz.t309 o) Tryz.t181 (y o Tryz.t437 o)) Tryz.t117 (y (y o Tryz.t373 o) Tryz.t245 (y o Tryz.t501 o))))) Tryz.t13 (y (y (y (y (y (y o Tryz.t525 o) Tryz.t269 o) Tryz.t141 (y o Tryz.t397 o)) Tryz.t77 (y (y o Tryz.t333 o) Tryz.t205 (y o Tryz.t461 o))) Tryz.t45 (y (y (y o Tryz.t301 o) Tryz.t173 (y o Tryz.t429 o)) Tryz.t109 (y (y o Tryz.t365 o) Tryz.t237 (y o Tryz.t493 o)))) Tryz.t29 (y (y (y (y (y o Tryz.t541 o) Tryz.t285 o) Tryz.t157 (y o Tryz.t413 o)) Tryz.t93 (y (y o Tryz.t349 o) Tryz.t221 (y o Tryz.t477 o))) Tryz.t61 (y (y (y o Tryz.t317 o) Tryz.t189 (y o Tryz.t445 o)) Tryz.t125 (y (y o Tryz.t381 o) Tryz.t253 (y o Tryz.t509 o)))))))) Tryz.t0 (y (y (y (y (y (y (y (y (y o Tryz.t512 o) Tryz.t256 o) Tryz.t128 (y o Tryz.t384 o)) Tryz.t64 (y (y o Tryz.t320 o) Tryz.t192 (y o Tryz.t448 o))) Tryz.t32 (y (y (y (y o Tryz.t544 o) Tryz.t288 o) Tryz.t160 (y o Tryz.t416 o)) Tryz.t96 (y (y o Tryz.t352 o) Tryz.t224 (y o Tryz.t480 o)))) Tryz.t16 (y (y (y (y (y o Tryz.t528 o) Tryz.t272 o) Tryz.t144 (y o Tryz.t400 o)) Tryz.t80 (y (y o Tryz.t336 o) Tryz.t208 (y o Tryz.t464 o))) Tryz.t48 (y (y (y o Tryz.t304 o) Tryz.t176 (y o Tryz.t432 o)) Tryz.t112 (y (y o Tryz.t368 o) Tryz.t240 (y o Tryz.t496 o))))) Tryz.t8 (y (y (y (y (y (y o Tryz.t520 o) Tryz.t264 o) Tryz.t136 (y o Tryz.t392 o)) Tryz.t72 (y (y o Tryz.t328 o) Tryz.t200 (y o Tryz.t456 o))) Tryz.t40 (y (y (y o Tryz.t296 o) Tryz.t168 (y o Tryz.t424 o)) Tryz.t104 (y (y o Tryz.t360 o) Tryz.t232 (y o Tryz.t488 o)))) Tryz.t24 (y (y (y (y (y o Tryz.t536 o) Tryz.t280 o) Tryz.t152 (y o Tryz.t408 o)) Tryz.t88 (y (y o Tryz.t344 o) Tryz.t216 (y o Tryz.t472 o))) Tryz.t56 (y (y (y o Tryz.t312 o) Tryz.t184 (y o Tryz.t440 o)) Tryz.t120 (y (y o Tryz.t376 o) Tryz.t248 (y o Tryz.t504 o)))))) Tryz.t4 (y (y (y (y (y (y (y o Tryz.t516 o) Tryz.t260 o) Tryz.t132 (y o Tryz.t388 o)) Tryz.t68 (y (y o Tryz.t324 o) Tryz.t196 (y o Tryz.t452 o))) Tryz.t36 (y (y (y o Tryz.t292 o) Tryz.t164 (y o Tryz.t420 o)) Tryz.t100 (y (y o Tryz.t356 o) Tryz.t228 (y o Tryz.t484 o)))) Tryz.t20 (y (y (y (y (y o Tryz.t532 o) Tryz.t276 o) Tryz.t148 (y o Tryz.t404 o)) Tryz.t84 (y (y o Tryz.t340 o) Tryz.t212 (y o Tryz.t468 o))) Tryz.t52 (y (y (y o Tryz.t308 o) Tryz.t180 (y o Tryz.t436 o)) Tryz.t116 (y (y o Tryz.t372 o) Tryz.t244 (y o Tryz.t500 o))))) Tryz.t12 (y (y (y (y (y (y o Tryz.t524 o) Tryz.t268 o) Tryz.t140 (y o Tryz.t396 o)) Tryz.t76 (y (y o Tryz.t332 o) Tryz.t204 (y o Tryz.t460 o))) Tryz.t44 (y (y (y o Tryz.t300 o) Tryz.t172 (y o Tryz.t428 o)) Tryz.t108 (y (y o Tryz.t364 o) Tryz.t236 (y o Tryz.t492 o)))) Tryz.t28 (y (y (y (y (y o Tryz.t540 o) Tryz.t284 o) Tryz.t156 (y o Tryz.t412 o)) Tryz.t92 (y (y o Tryz.t348 o) Tryz.t220 (y o Tryz.t476 o))) Tryz.t60 (y (y (y o Tryz.t316 o) Tryz.t188 (y o Tryz.t444 o)) Tryz.t124 (y (y o Tryz.t380 o) Tryz.t252 (y o Tryz.t508 o))))))) Tryz.t2 (y (y (y (y (y (y (y (y o Tryz.t514 o) Tryz.t258 o) Tryz.t130 (y o Tryz.t386 o)) Tryz.t66 (y (y o Tryz.t322 o) Tryz.t194 (y o Tryz.t450 o))) Tryz.t34 (y (y (y (y o Tryz.t546 o) Tryz.t290 o) Tryz.t162 (y o Tryz.t418 o)) Tryz.t98 (y (y o Tryz.t354 o) Tryz.t226 (y o Tryz.t482 o)))) Tryz.t18 (y (y (y (y (y o Tryz.t530 o) Tryz.t274 o) Tryz.t146 (y o Tryz.t402 o)) Tryz.t82 (y (y o Tryz.t338 o) Tryz.t210 (y o Tryz.t466 o))) Tryz.t50 (y (y (y o Tryz.t306 o) Tryz.t178 (y o Tryz.t434 o)) Tryz.t114 (y (y o Tryz.t370 o) Tryz.t242 (y o Tryz.t498 o))))) Tryz.t10 (y (y (y (y (y (y o Tryz.t522 o) Tryz.t266 o) Tryz.t138 (y o Tryz.t394 o)) Tryz.t74 (y (y o Tryz.t330 o) Tryz.t202 (y o Tryz.t458 o))) Tryz.t42 (y (y (y o Tryz.t298 o) Tryz.t170 (y o Tryz.t426 o)) Tryz.t106 (y (y o Tryz.t362 o) Tryz.t234 (y o Tryz.t490 o)))) Tryz.t26 (y (y (y (y (y o Tryz.t538 o) Tryz.t282 o) Tryz.t154 (y o Tryz.t410 o)) Tryz.t90 (y (y o Tryz.t346 o) Tryz.t218 (y o Tryz.t474 o))) Tryz.t58 (y (y (y o Tryz.t314 o) Tryz.t186 (y o Tryz.t442 o)) Tryz.t122 (y (y o Tryz.t378 o) Tryz.t250 (y o Tryz.t506 o)))))) Tryz.t6 (y (y (y (y (y (y (y o Tryz.t518 o) Tryz.t262 o) Tryz.t134 (y o Tryz.t390 o)) Tryz.t70 (y (y o Tryz.t326 o) Tryz.t198 (y o Tryz.t454 o))) Tryz.t38 (y (y (y o Tryz.t294 o) Tryz.t166 (y o Tryz.t422 o)) Tryz.t102 (y (y o Tryz.t358 o) Tryz.t230 (y o Tryz.t486 o)))) Tryz.t22 (y (y (y (y (y o Tryz.t534 o) Tryz.t278 o) Tryz.t150 (y o Tryz.t406 o)) Tryz.t86 (y (y o Tryz.t342 o) Tryz.t214 (y o Tryz.t470 o))) Tryz.t54 (y (y (y o Tryz.t310 o) Tryz.t182 (y o Tryz.t438 o)) Tryz.t118 (y (y o Tryz.t374 o) Tryz.t246 (y o Tryz.t502 o))))) Tryz.t14 (y (y (y (y (y (y o Tryz.t526 o) Tryz.t270 o) Tryz.t142 (y o Tryz.t398 o)) Tryz.t78 (y (y o Tryz.t334 o) Tryz.t206 (y o Tryz.t462 o))) Tryz.t46 (y (y (y o Tryz.t302 o) Tryz.t174 (y o Tryz.t430 o)) Tryz.t110 (y (y o Tryz.t366 o) Tryz.t238 (y o Tryz.t494 o)))) Tryz.t30 (y (y (y (y (y o Tryz.t542 o) Tryz.t286 o) Tryz.t158 (y o Tryz.t414 o)) Tryz.t94 (y (y o Tryz.t350 o) Tryz.t222 (y o Tryz.t478 o))) Tryz.t62 (y (y (y o Tryz.t318 o) Tryz.t190 (y o Tryz.t446 o)) Tryz.t126 (y (y o Tryz.t382 o) Tryz.t254 (y o Tryz.t510 o)))))))))
def X : Cx := ⟨TX, [(23, [7, 6, 6, 6, 6, 6, 6, 6]), (29, [6, 6, 6]), (119, [6, 6, 10]), (322, (List.replicate 512 7))]⟩
theorem TX_eq : TX = (T.ofList 0 PP.types.toList .leaf).getD .leaf := by kernel_rfl
theorem X_ok : Ok PP X := by
  have h := cx_ok (P := PP) (fl := X.fl) (by kernel_rfl) (by kernel_rfl)
  rw [← TX_eq] at h
  exact h
def nN : List AV → AH → Rs := fun _ _ => none


noncomputable def q260_0 : ML := mlOf (bodyAt Tryz.f260 [1, 1, 1, 0])
theorem q260_0_fits : q260_0.Fits 69 := by constructor <;> first | kernel_rfl | exact of_decide_eq_true (by kernel_rfl)
noncomputable def hb260_0 : Hint := .o
noncomputable def pre260_0 (vs : List AV) (H : AH) : Rs :=
  hd vs fun x0 vs => hd vs fun x3 vs => hd vs fun x4 vs => 
  bV (pNil x0) fun x43 => 
  bV (fAd 2 x43) fun x44 => 
  bV (ld1 x44 H) fun x45 => 
  some (.norm (x45 :: [x0, x3, x4]), H)
theorem pre260_0_eq : q260_0.preK ⟨X, []⟩ dNone 69 [0, 3, 4] = pre260_0 := by kernel_rfl
noncomputable def rd260_0 (I : Nat) (vs : List AV) (k v : AV) (H : AH) : Rs :=
  hd vs fun x0 vs => hd vs fun x3 vs => hd vs fun x4 vs => 
  bV (pExtract (.tuple [k, v]) 0) fun x50 => 
  bV (pExtract (.tuple [k, v]) 1) fun x51 => 
  bA (bxV 269 (.agg [(.bool false), .nilSlice, .nilSlice, .nilSlice])) H fun x8 H => 
  bR (stN 4 x8 x51 H) fun x9999 H => 
  bV (pNil x4) fun x53 => 
  bV (fAd 5 x53) fun x54 => 
  bV (ld1 x54 H) fun x55 => 
  bV (ldN 4 x8 H) fun x57 => 
  bR (upM [10] x55 x50 x57 H) fun x9999_2 H => 
  some (.norm [(.ptr I 0), x0, x3, x4], H)
theorem rd260_0_eq : q260_0.roundK ⟨X, []⟩ dNone 0 69 hb260_0 [0, 3, 4] = rd260_0 := by kernel_rfl
noncomputable def mt260_0 (vs : List AV) (H : AH) : Option AH := match vs with
  | [.ptr C p, x3, .ptr E o] => match ld1 (.ptr C (p + 2)) H with
    | some (.map M) => match ld1 (.ptr E (o + 5)) H with
      | some (.map A) => bif Nat.blt M H.next && Nat.blt A H.next && Nat.blt E H.next then upLp [10] 1 (isAg 4) (.map M) (.map A) H else none
      | _ => none
    | _ => none
  | _ => none
theorem mt260_0_plan : ∀ vs H H', mt260_0 vs H = some H' → Nonempty (q260_0.Plan ⟨X, []⟩ dNone 0 69 hb260_0 [0, 3, 4] vs H H') := by
  intro vs H H' h
  unfold mt260_0 at h
  split at h
  · rename_i C p x3 E o
    split at h
    · rename_i M hld0
      split at h
      · rename_i A hld
        rw [cond_eq_ite] at h
        split at h
        · rename_i hc
          simp only [Bool.and_eq_true, Nat.blt_eq] at hc
          obtain ⟨⟨hM, hA⟩, hE⟩ := hc
          obtain ⟨l, e, sz, g, hgE, hnth⟩ := ld1_some hld
          have hmaps := upLp_maps h
          refine up_plan h ?_ ?_ hM hA ?_
          · rw [pre260_0_eq]
            simp only [pre260_0, hd, bV, pNil, fAd, fN_eq, hld0]
          · intro k v Hk e0 hok hframe hAk hk hlt hfree _ _
            obtain ⟨cs, rfl, hl, hcl⟩ := isAg_some hok
            have hEM : E ≠ M := fun e => by subst e; obtain ⟨⟨_, _, h1⟩, _⟩ := hmaps; rw [hgE] at h1; simp at h1
            have hEA : E ≠ A := fun e => by subst e; obtain ⟨_, _, _, h1⟩ := hmaps; rw [hgE] at h1; simp at h1
            have hgk : Hk.h.get E = some (.cells l e sz g) := by rw [hframe E hE hEM hEA]; exact hgE
            obtain ⟨t1, ht1, hnew⟩ := newB_free (.cells [(.bool false), .nilSlice, .nilSlice, .nilSlice] 269 1 false) (hfree Hk.next (Nat.le_refl _) (by omega))
            have g1 := T.get_set _ _ _ _ _ ht1
            obtain ⟨t2, ht2, hst⟩ := stN_own (n := 4) (H := ⟨t1, Hk.next + 1⟩) (A := Hk.next) (cs := cs) (by rw [g1, if_pos rfl]) rfl hl hcl
            have g2 := T.get_set _ _ _ _ _ ht2
            simp only at g2 hst
            have hgA : t2.get A = some (.map [10] e0) := by rw [g2, if_neg (by omega), g1, if_neg (by omega)]; exact hAk
            obtain ⟨t3, ht3, hup⟩ := upM_put (v := .agg cs) (H := ⟨t2, Hk.next + 1⟩) hk hgA
            have g3 := T.get_set _ _ _ _ _ ht3
            simp only at g3 hup
            have hldE : ld1 (.ptr E (o + 5)) ⟨t2, Hk.next + 1⟩ = some (.map A) := ld1_at (l := l) (e := e) (sz := sz) (g := g) (by simp only [g2, g1]; rw [if_neg (by omega), if_neg (by omega)]; exact hgk) hnth
            have hldo : ldN 4 (.ptr Hk.next 0) ⟨t2, Hk.next + 1⟩ = some (.agg cs) := ldN_own (by show t2.get Hk.next = _; rw [g2, if_pos rfl]) hl
            refine ⟨⟨t3, Hk.next + 1⟩, ?_, rfl, ?_, fun C hC hlt => ?_⟩
            · rw [rd260_0_eq]
              simp only [rd260_0, hd, bV, bR, pExtract, nth, bA, bxV, cellsA, hnew, hst, pNil, fAd, fN_eq, hldE, hldo, hup]
            · simp only [g3, if_true]
            · simp only [g3, if_neg hC, g2, g1]
              rw [if_neg (by omega), if_neg (by omega)]
          · intro R0 w0 hR hv
            obtain ⟨z, hz⟩ := hv (.ptr E o) (by simp)
            obtain ⟨b, d, c, hr, _⟩ := hz
            exact in_cells hR hr hgE hnth
        · simp at h
      · simp at h
    · simp at h
  · simp at h
noncomputable def mtp260_0 (vs : List AV) (H : AH) : Option AH := match vs with
  | [.ptr C p, x3, .ptr E o] => match ld1p (.ptr C (p + 2)) H with
    | some (.map M) => match ld1p (.ptr E (o + 5)) H with
      | some (.map A) => bif Nat.blt M H.next && Nat.blt A H.next && Nat.blt E H.next then upLp [10] 1 (isAgp 4) (.map M) (.map A) H else none
      | _ => none
    | _ => none
  | _ => none
theorem mtp260_0_sim : MS mtp260_0 mt260_0 := by
  intro vs H H' Hx h hR
  unfold mtp260_0 at h
  split at h
  · rename_i C p x3 E o
    split at h
    · rename_i M hld0
      split at h
      · rename_i A hld
        have e1 := ld1_s hR hld0
        have e2 := ld1_s hR hld
        simp only [ex] at e1 e2
        rw [cond_eq_ite] at h
        split at h
        · rename_i hc
          obtain ⟨Hx', h1, h2⟩ := upLp_s hR (fun v hv => isAgp_ok hv) h
          refine ⟨Hx', ?_, h2⟩
          simp only [exM, ex, mt260_0, e1, e2, hR.next, hc, cond_true, h1]
        · simp at h
      · simp at h
    · simp at h
  · simp at h
theorem told260_0 : ToldOk PP 69 260 q260_0.code [0, 3, 4] mt260_0 := up_told X_ok q260_0_fits (by decide +kernel) (by decide +kernel) (hb := hb260_0) (by kernel_rfl) (kt := 58) (vt := 269) (by kernel_rfl) mt260_0_plan


def p298 (vs : List AV) (H : AH) : Option (AV × AH) :=
  outR (hd vs fun x0 vs => hd vs fun x1 vs => nl vs <|
  bV (bInt .shr x0 x1) fun x7 => 
  bV (bInt .and x7 (.int .u8 (.ofNat 1))) fun x8 => 
  bV (bInt .eql x8 (.int .u8 (.ofNat 1))) fun x9 => 
  bV (some x9) fun x4 => some (.ret x4, H))
def ph298 : Hint := (.s .o (.s .o .o))
theorem p298_eq : p298 = funK ⟨X, []⟩ dNone 0 298 Tryz.f298 ph298 := by kernel_rfl
theorem p298_ok : FI 298 p298 := fun_ok X_ok dNone_ok (SOk.nil) Tryz.func298 (by kernel_rfl) p298_eq
def p311 (vs : List AV) (H : AH) : Option (AV × AH) :=
  outR (hd vs fun x0 vs => hd vs fun x1 vs => nl vs <|
  bV (ld1 x1 H) fun x5 => 
  bR (noPan (p298 [x0, x5] H)) fun x6 H => 
  bV (some x6) fun x3 => some (.ret x3, H))
def ph311 : Hint := (.s .o (.s .o .o))
theorem p311_eq : p311 = funK ⟨X, [(298, p298)]⟩ dNone 0 311 Tryz.f311 ph311 := by kernel_rfl
theorem p311_ok : FI 311 p311 := fun_ok X_ok dNone_ok (SOk.cons p298_ok.fs (SOk.nil)) Tryz.func311 (by kernel_rfl) p311_eq

end Go.Eng.Sh
