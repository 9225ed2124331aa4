/- Shallow functions, by program (gent4.py). -/
import Derived.Test.YtnjljebicihpaaaGreatDoorMW4
import Derived.Test.YtnjljebicihpaaaGreatDoorProg
import Derived.KernelRfl
namespace Go.Proofs
open Go.Shelf
def Tryz.clone184_ren : Go.Shelf.Ren := ⟨fun | 5 => 184 | 7 => 160 | n => n, fun | 23 => 252 | 25 => 32 | 3 => 332 | 4 => 4 | 20 => 20 | n => n, fun | n => n⟩
theorem Tryz.clone184 : Go.Proofs.SlLaysW.n5 Tryz.prog Tryz.clone184_ren := {
  mixed := by kernel_rfl
  f5 := ⟨Tryz.f184.name, by decide, Tryz.func184.trans (congrArg some (by kernel_rfl))⟩
  f7 := Tryz.func160.trans (congrArg some (by kernel_rfl))
  t4 := Tryz.underlying4
  a4 := Tryz.isAgg4
  z4 := Tryz.sizeOf4
  v4 := Tryz.zeroValue4
  t20 := Tryz.underlying20
  a20 := Tryz.isAgg20
  z20 := Tryz.sizeOf20
  v20 := Tryz.zeroValue20
  t23 := Tryz.underlying252
  a23 := Tryz.isAgg252
  z23 := Tryz.sizeOf252
  v23 := Tryz.zeroValue252 }
end Go.Proofs
noncomputable section
namespace Go.Eng.Sh
open Go.Proofs
set_option maxRecDepth 100000
set_option maxHeartbeats 4000000
set_option linter.all false
def y (l : U TypeInfo) (v : TypeInfo) (r : U TypeInfo) : U TypeInfo := .node l (some v) r
abbrev o : U TypeInfo := .leaf
noncomputable def TX : U TypeInfo := (y (y (y (y (y (y (y (y (y (y o Tryz.t511 o) Tryz.t255 (y o Tryz.t767 o)) Tryz.t127 (y (y o Tryz.t639 o) Tryz.t383 o)) Tryz.t63 (y (y (y o Tryz.t575 o) Tryz.t319 o) Tryz.t191 (y (y o Tryz.t703 o) Tryz.t447 o))) Tryz.t31 (y (y (y (y o Tryz.t543 o) Tryz.t287 o) Tryz.t159 (y (y o Tryz.t671 o) Tryz.t415 o)) Tryz.t95 (y (y (y o Tryz.t607 o) Tryz.t351 o) Tryz.t223 (y (y o Tryz.t735 o) Tryz.t479 o)))) Tryz.t15 (y (y (y (y (y o Tryz.t527 o) Tryz.t271 (y o Tryz.t783 o)) Tryz.t143 (y (y o Tryz.t655 o) Tryz.t399 o)) Tryz.t79 (y (y (y o Tryz.t591 o) Tryz.t335 o) Tryz.t207 (y (y o Tryz.t719 o) Tryz.t463 o))) Tryz.t47 (y (y (y (y o Tryz.t559 o) Tryz.t303 o) Tryz.t175 (y (y o Tryz.t687 o) Tryz.t431 o)) Tryz.t111 (y (y (y o Tryz.t623 o) Tryz.t367 o) Tryz.t239 (y (y o Tryz.t751 o) Tryz.t495 o))))) Tryz.t7 (y (y (y (y (y (y o Tryz.t519 o) Tryz.t263 (y o Tryz.t775 o)) Tryz.t135 (y (y o Tryz.t647 o) Tryz.t391 o)) Tryz.t71 (y (y (y o Tryz.t583 o) Tryz.t327 o) Tryz.t199 (y (y o Tryz.t711 o) Tryz.t455 o))) Tryz.t39 (y (y (y (y o Tryz.t551 o) Tryz.t295 o) Tryz.t167 (y (y o Tryz.t679 o) Tryz.t423 o)) Tryz.t103 (y (y (y o Tryz.t615 o) Tryz.t359 o) Tryz.t231 (y (y o Tryz.t743 o) Tryz.t487 o)))) Tryz.t23 (y (y (y (y (y o Tryz.t535 o) Tryz.t279 (y o Tryz.t791 o)) Tryz.t151 (y (y o Tryz.t663 o) Tryz.t407 o)) Tryz.t87 (y (y (y o Tryz.t599 o) Tryz.t343 o) Tryz.t215 (y (y o Tryz.t727 o) Tryz.t471 o))) Tryz.t55 (y (y (y (y o Tryz.t567 o) Tryz.t311 o) Tryz.t183 (y (y o Tryz.t695 o) Tryz.t439 o)) Tryz.t119 (y (y (y o Tryz.t631 o) Tryz.t375 o) Tryz.t247 (y (y o Tryz.t759 o) Tryz.t503 o)))))) Tryz.t3 (y (y (y (y (y (y (y o Tryz.t515 o) Tryz.t259 (y o Tryz.t771 o)) Tryz.t131 (y (y o Tryz.t643 o) Tryz.t387 o)) Tryz.t67 (y (y (y o Tryz.t579 o) Tryz.t323 o) Tryz.t195 (y (y o Tryz.t707 o) Tryz.t451 o))) Tryz.t35 (y (y (y (y o Tryz.t547 o) Tryz.t291 o) Tryz.t163 (y (y o Tryz.t675 o) Tryz.t419 o)) Tryz.t99 (y (y (y o Tryz.t611 o) Tryz.t355 o) Tryz.t227 (y (y o Tryz.t739 o) Tryz.t483 o)))) Tryz.t19 (y (y (y (y (y o Tryz.t531 o) Tryz.t275 (y o Tryz.t787 o)) Tryz.t147 (y (y o Tryz.t659 o) Tryz.t403 o)) Tryz.t83 (y (y (y o Tryz.t595 o) Tryz.t339 o) Tryz.t211 (y (y o Tryz.t723 o) Tryz.t467 o))) Tryz.t51 (y (y (y (y o Tryz.t563 o) Tryz.t307 o) Tryz.t179 (y (y o Tryz.t691 o) Tryz.t435 o)) Tryz.t115 (y (y (y o Tryz.t627 o) Tryz.t371 o) Tryz.t243 (y (y o Tryz.t755 o) Tryz.t499 o))))) Tryz.t11 (y (y (y (y (y (y o Tryz.t523 o) Tryz.t267 (y o Tryz.t779 o)) Tryz.t139 (y (y o Tryz.t651 o) Tryz.t395 o)) Tryz.t75 (y (y (y o Tryz.t587 o) Tryz.t331 o) Tryz.t203 (y (y o Tryz.t715 o) Tryz.t459 o))) Tryz.t43 (y (y (y (y o Tryz.t555 o) Tryz.t299 o) Tryz.t171 (y (y o Tryz.t683 o) Tryz.t427 o)) Tryz.t107 (y (y (y o Tryz.t619 o) Tryz.t363 o) Tryz.t235 (y (y o Tryz.t747 o) Tryz.t491 o)))) Tryz.t27 (y (y (y (y (y o Tryz.t539 o) Tryz.t283 (y o Tryz.t795 o)) Tryz.t155 (y (y o Tryz.t667 o) Tryz.t411 o)) Tryz.t91 (y (y (y o Tryz.t603 o) Tryz.t347 o) Tryz.t219 (y (y o Tryz.t731 o) Tryz.t475 o))) Tryz.t59 (y (y (y (y o Tryz.t571 o) Tryz.t315 o) Tryz.t187 (y (y o Tryz.t699 o) Tryz.t443 o)) Tryz.t123 (y (y (y o Tryz.t635 o) Tryz.t379 o) Tryz.t251 (y (y o Tryz.t763 o) Tryz.t507 o))))))) Tryz.t1 (y (y (y (y (y (y (y (y o Tryz.t513 o) Tryz.t257 (y o Tryz.t769 o)) Tryz.t129 (y (y o Tryz.t641 o) Tryz.t385 o)) Tryz.t65 (y (y (y o Tryz.t577 o) Tryz.t321 o) Tryz.t193 (y (y o Tryz.t705 o) Tryz.t449 o))) Tryz.t33 (y (y (y (y o Tryz.t545 o) Tryz.t289 o) Tryz.t161 (y (y o Tryz.t673 o) Tryz.t417 o)) Tryz.t97 (y (y (y o Tryz.t609 o) Tryz.t353 o) Tryz.t225 (y (y o Tryz.t737 o) Tryz.t481 o)))) Tryz.t17 (y (y (y (y (y o Tryz.t529 o) Tryz.t273 (y o Tryz.t785 o)) Tryz.t145 (y (y o Tryz.t657 o) Tryz.t401 o)) Tryz.t81 (y (y (y o Tryz.t593 o) Tryz.t337 o) Tryz.t209 (y (y o Tryz.t721 o) Tryz.t465 o))) Tryz.t49 (y (y (y (y o Tryz.t561 o) Tryz.t305 o) Tryz.t177 (y (y o Tryz.t689 o) Tryz.t433 o)) Tryz.t113 (y (y (y o Tryz.t625 o) Tryz.t369 o) Tryz.t241 (y (y o Tryz.t753 o) Tryz.t497 o))))) Tryz.t9 (y (y (y (y (y (y o Tryz.t521 o) Tryz.t265 (y o Tryz.t777 o)) Tryz.t137 (y (y o Tryz.t649 o) Tryz.t393 o)) Tryz.t73 (y (y (y o Tryz.t585 o) Tryz.t329 o) Tryz.t201 (y (y o Tryz.t713 o) Tryz.t457 o))) Tryz.t41 (y (y (y (y o Tryz.t553 o) Tryz.t297 o) Tryz.t169 (y (y o Tryz.t681 o) Tryz.t425 o)) Tryz.t105 (y (y (y o Tryz.t617 o) Tryz.t361 o) Tryz.t233 (y (y o Tryz.t745 o) Tryz.t489 o)))) Tryz.t25 (y (y (y (y (y o Tryz.t537 o) Tryz.t281 (y o Tryz.t793 o)) Tryz.t153 (y (y o Tryz.t665 o) Tryz.t409 o)) Tryz.t89 (y (y (y o Tryz.t601 o) Tryz.t345 o) Tryz.t217 (y (y o Tryz.t729 o) Tryz.t473 o))) Tryz.t57 (y (y (y (y o Tryz.t569 o) Tryz.t313 o) Tryz.t185 (y (y o Tryz.t697 o) Tryz.t441 o)) Tryz.t121 (y (y (y o Tryz.t633 o) Tryz.t377 o) Tryz.t249 (y (y o Tryz.t761 o) Tryz.t505 o)))))) Tryz.t5 (y (y (y (y (y (y (y o Tryz.t517 o) Tryz.t261 (y o Tryz.t773 o)) Tryz.t133 (y (y o Tryz.t645 o) Tryz.t389 o)) Tryz.t69 (y (y (y o Tryz.t581 o) Tryz.t325 o) Tryz.t197 (y (y o Tryz.t709 o) Tryz.t453 o))) Tryz.t37 (y (y (y (y o Tryz.t549 o) Tryz.t293 o) Tryz.t165 (y (y o Tryz.t677 o) Tryz.t421 o)) Tryz.t101 (y (y (y o Tryz.t613 o) Tryz.t357 o) Tryz.t229 (y (y o Tryz.t741 o) Tryz.t485 o)))) Tryz.t21 (y (y (y (y (y o Tryz.t533 o) Tryz.t277 (y o Tryz.t789 o)) Tryz.t149 (y (y o Tryz.t661 o) Tryz.t405 o)) Tryz.t85 (y (y (y o Tryz.t597 o) Tryz.t341 o) Tryz.t213 (y (y o Tryz.t725 o) Tryz.t469 o))) Tryz.t53 (y (y (y (y o Tryz.t565 o) Tryz.t309 o) Tryz.t181 (y (y o Tryz.t693 o) Tryz.t437 o)) Tryz.t117 (y (y (y o Tryz.t629 o) Tryz.t373 o) Tryz.t245 (y (y o Tryz.t757 o) Tryz.t501 o))))) Tryz.t13 (y (y (y (y (y (y o Tryz.t525 o) Tryz.t269 (y o Tryz.t781 o)) Tryz.t141 (y (y o Tryz.t653 o) Tryz.t397 o)) Tryz.t77 (y (y (y o Tryz.t589 o) Tryz.t333 o) Tryz.t205 (y (y o Tryz.t717 o) Tryz.t461 o))) Tryz.t45 (y (y (y (y o Tryz.t557 o) Tryz.t301 o) Tryz.t173 (y (y o Tryz.t685 o) Tryz.t429 o)) Tryz.t109 (y (y (y o Tryz.t621 o) Tryz.t365 o) Tryz.t237 (y (y o Tryz.t749 o) Tryz.t493 o)))) Tryz.t29 (y (y (y (y (y o Tryz.t541 o) Tryz.t285 (y o Tryz.t797 o)) Tryz.t157 (y (y o Tryz.t669 o) Tryz.t413 o)) Tryz.t93 (y (y (y o Tryz.t605 o) Tryz.t349 o) Tryz.t221 (y (y o Tryz.t733 o) Tryz.t477 o))) Tryz.t61 (y (y (y (y o Tryz.t573 o) Tryz.t317 o) Tryz.t189 (y (y o Tryz.t701 o) Tryz.t445 o)) Tryz.t125 (y (y (y o Tryz.t637 o) Tryz.t381 o) Tryz.t253 (y (y o Tryz.t765 o) Tryz.t509 o)))))))) Tryz.t0 (y (y (y (y (y (y (y (y (y o Tryz.t512 o) Tryz.t256 (y o Tryz.t768 o)) Tryz.t128 (y (y o Tryz.t640 o) Tryz.t384 o)) Tryz.t64 (y (y (y o Tryz.t576 o) Tryz.t320 o) Tryz.t192 (y (y o Tryz.t704 o) Tryz.t448 o))) Tryz.t32 (y (y (y (y o Tryz.t544 o) Tryz.t288 o) Tryz.t160 (y (y o Tryz.t672 o) Tryz.t416 o)) Tryz.t96 (y (y (y o Tryz.t608 o) Tryz.t352 o) Tryz.t224 (y (y o Tryz.t736 o) Tryz.t480 o)))) Tryz.t16 (y (y (y (y (y o Tryz.t528 o) Tryz.t272 (y o Tryz.t784 o)) Tryz.t144 (y (y o Tryz.t656 o) Tryz.t400 o)) Tryz.t80 (y (y (y o Tryz.t592 o) Tryz.t336 o) Tryz.t208 (y (y o Tryz.t720 o) Tryz.t464 o))) Tryz.t48 (y (y (y (y o Tryz.t560 o) Tryz.t304 o) Tryz.t176 (y (y o Tryz.t688 o) Tryz.t432 o)) Tryz.t112 (y (y (y o Tryz.t624 o) Tryz.t368 o) Tryz.t240 (y (y o Tryz.t752 o) Tryz.t496 o))))) Tryz.t8 (y (y (y (y (y (y o Tryz.t520 o) Tryz.t264 (y o Tryz.t776 o)) Tryz.t136 (y (y o Tryz.t648 o) Tryz.t392 o)) Tryz.t72 (y (y (y o Tryz.t584 o) Tryz.t328 o) Tryz.t200 (y (y o Tryz.t712 o) Tryz.t456 o))) Tryz.t40 (y (y (y (y o Tryz.t552 o) Tryz.t296 o) Tryz.t168 (y (y o Tryz.t680 o) Tryz.t424 o)) Tryz.t104 (y (y (y o Tryz.t616 o) Tryz.t360 o) Tryz.t232 (y (y o Tryz.t744 o) Tryz.t488 o)))) Tryz.t24 (y (y (y (y (y o Tryz.t536 o) Tryz.t280 (y o Tryz.t792 o)) Tryz.t152 (y (y o Tryz.t664 o) Tryz.t408 o)) Tryz.t88 (y (y (y o Tryz.t600 o) Tryz.t344 o) Tryz.t216 (y (y o Tryz.t728 o) Tryz.t472 o))) Tryz.t56 (y (y (y (y o Tryz.t568 o) Tryz.t312 o) Tryz.t184 (y (y o Tryz.t696 o) Tryz.t440 o)) Tryz.t120 (y (y (y o Tryz.t632 o) Tryz.t376 o) Tryz.t248 (y (y o Tryz.t760 o) Tryz.t504 o)))))) Tryz.t4 (y (y (y (y (y (y (y o Tryz.t516 o) Tryz.t260 (y o Tryz.t772 o)) Tryz.t132 (y (y o Tryz.t644 o) Tryz.t388 o)) Tryz.t68 (y (y (y o Tryz.t580 o) Tryz.t324 o) Tryz.t196 (y (y o Tryz.t708 o) Tryz.t452 o))) Tryz.t36 (y (y (y (y o Tryz.t548 o) Tryz.t292 o) Tryz.t164 (y (y o Tryz.t676 o) Tryz.t420 o)) Tryz.t100 (y (y (y o Tryz.t612 o) Tryz.t356 o) Tryz.t228 (y (y o Tryz.t740 o) Tryz.t484 o)))) Tryz.t20 (y (y (y (y (y o Tryz.t532 o) Tryz.t276 (y o Tryz.t788 o)) Tryz.t148 (y (y o Tryz.t660 o) Tryz.t404 o)) Tryz.t84 (y (y (y o Tryz.t596 o) Tryz.t340 o) Tryz.t212 (y (y o Tryz.t724 o) Tryz.t468 o))) Tryz.t52 (y (y (y (y o Tryz.t564 o) Tryz.t308 o) Tryz.t180 (y (y o Tryz.t692 o) Tryz.t436 o)) Tryz.t116 (y (y (y o Tryz.t628 o) Tryz.t372 o) Tryz.t244 (y (y o Tryz.t756 o) Tryz.t500 o))))) Tryz.t12 (y (y (y (y (y (y o Tryz.t524 o) Tryz.t268 (y o Tryz.t780 o)) Tryz.t140 (y (y o Tryz.t652 o) Tryz.t396 o)) Tryz.t76 (y (y (y o Tryz.t588 o) Tryz.t332 o) Tryz.t204 (y (y o Tryz.t716 o) Tryz.t460 o))) Tryz.t44 (y (y (y (y o Tryz.t556 o) Tryz.t300 o) Tryz.t172 (y (y o Tryz.t684 o) Tryz.t428 o)) Tryz.t108 (y (y (y o Tryz.t620 o) Tryz.t364 o) Tryz.t236 (y (y o Tryz.t748 o) Tryz.t492 o)))) Tryz.t28 (y (y (y (y (y o Tryz.t540 o) Tryz.t284 (y o Tryz.t796 o)) Tryz.t156 (y (y o Tryz.t668 o) Tryz.t412 o)) Tryz.t92 (y (y (y o Tryz.t604 o) Tryz.t348 o) Tryz.t220 (y (y o Tryz.t732 o) Tryz.t476 o))) Tryz.t60 (y (y (y (y o Tryz.t572 o) Tryz.t316 o) Tryz.t188 (y (y o Tryz.t700 o) Tryz.t444 o)) Tryz.t124 (y (y (y o Tryz.t636 o) Tryz.t380 o) Tryz.t252 (y (y o Tryz.t764 o) Tryz.t508 o))))))) Tryz.t2 (y (y (y (y (y (y (y (y o Tryz.t514 o) Tryz.t258 (y o Tryz.t770 o)) Tryz.t130 (y (y o Tryz.t642 o) Tryz.t386 o)) Tryz.t66 (y (y (y o Tryz.t578 o) Tryz.t322 o) Tryz.t194 (y (y o Tryz.t706 o) Tryz.t450 o))) Tryz.t34 (y (y (y (y o Tryz.t546 o) Tryz.t290 o) Tryz.t162 (y (y o Tryz.t674 o) Tryz.t418 o)) Tryz.t98 (y (y (y o Tryz.t610 o) Tryz.t354 o) Tryz.t226 (y (y o Tryz.t738 o) Tryz.t482 o)))) Tryz.t18 (y (y (y (y (y o Tryz.t530 o) Tryz.t274 (y o Tryz.t786 o)) Tryz.t146 (y (y o Tryz.t658 o) Tryz.t402 o)) Tryz.t82 (y (y (y o Tryz.t594 o) Tryz.t338 o) Tryz.t210 (y (y o Tryz.t722 o) Tryz.t466 o))) Tryz.t50 (y (y (y (y o Tryz.t562 o) Tryz.t306 o) Tryz.t178 (y (y o Tryz.t690 o) Tryz.t434 o)) Tryz.t114 (y (y (y o Tryz.t626 o) Tryz.t370 o) Tryz.t242 (y (y o Tryz.t754 o) Tryz.t498 o))))) Tryz.t10 (y (y (y (y (y (y o Tryz.t522 o) Tryz.t266 (y o Tryz.t778 o)) Tryz.t138 (y (y o Tryz.t650 o) Tryz.t394 o)) Tryz.t74 (y (y (y o Tryz.t586 o) Tryz.t330 o) Tryz.t202 (y (y o Tryz.t714 o) Tryz.t458 o))) Tryz.t42 (y (y (y (y o Tryz.t554 o) Tryz.t298 o) Tryz.t170 (y (y o Tryz.t682 o) Tryz.t426 o)) Tryz.t106 (y (y (y o Tryz.t618 o) Tryz.t362 o) Tryz.t234 (y (y o Tryz.t746 o) Tryz.t490 o)))) Tryz.t26 (y (y (y (y (y o Tryz.t538 o) Tryz.t282 (y o Tryz.t794 o)) Tryz.t154 (y (y o Tryz.t666 o) Tryz.t410 o)) Tryz.t90 (y (y (y o Tryz.t602 o) Tryz.t346 o) Tryz.t218 (y (y o Tryz.t730 o) Tryz.t474 o))) Tryz.t58 (y (y (y (y o Tryz.t570 o) Tryz.t314 o) Tryz.t186 (y (y o Tryz.t698 o) Tryz.t442 o)) Tryz.t122 (y (y (y o Tryz.t634 o) Tryz.t378 o) Tryz.t250 (y (y o Tryz.t762 o) Tryz.t506 o)))))) Tryz.t6 (y (y (y (y (y (y (y o Tryz.t518 o) Tryz.t262 (y o Tryz.t774 o)) Tryz.t134 (y (y o Tryz.t646 o) Tryz.t390 o)) Tryz.t70 (y (y (y o Tryz.t582 o) Tryz.t326 o) Tryz.t198 (y (y o Tryz.t710 o) Tryz.t454 o))) Tryz.t38 (y (y (y (y o Tryz.t550 o) Tryz.t294 o) Tryz.t166 (y (y o Tryz.t678 o) Tryz.t422 o)) Tryz.t102 (y (y (y o Tryz.t614 o) Tryz.t358 o) Tryz.t230 (y (y o Tryz.t742 o) Tryz.t486 o)))) Tryz.t22 (y (y (y (y (y o Tryz.t534 o) Tryz.t278 (y o Tryz.t790 o)) Tryz.t150 (y (y o Tryz.t662 o) Tryz.t406 o)) Tryz.t86 (y (y (y o Tryz.t598 o) Tryz.t342 o) Tryz.t214 (y (y o Tryz.t726 o) Tryz.t470 o))) Tryz.t54 (y (y (y (y o Tryz.t566 o) Tryz.t310 o) Tryz.t182 (y (y o Tryz.t694 o) Tryz.t438 o)) Tryz.t118 (y (y (y o Tryz.t630 o) Tryz.t374 o) Tryz.t246 (y (y o Tryz.t758 o) Tryz.t502 o))))) Tryz.t14 (y (y (y (y (y (y o Tryz.t526 o) Tryz.t270 (y o Tryz.t782 o)) Tryz.t142 (y (y o Tryz.t654 o) Tryz.t398 o)) Tryz.t78 (y (y (y o Tryz.t590 o) Tryz.t334 o) Tryz.t206 (y (y o Tryz.t718 o) Tryz.t462 o))) Tryz.t46 (y (y (y (y o Tryz.t558 o) Tryz.t302 o) Tryz.t174 (y (y o Tryz.t686 o) Tryz.t430 o)) Tryz.t110 (y (y (y o Tryz.t622 o) Tryz.t366 o) Tryz.t238 (y (y o Tryz.t750 o) Tryz.t494 o)))) Tryz.t30 (y (y (y (y (y o Tryz.t542 o) Tryz.t286 (y o Tryz.t798 o)) Tryz.t158 (y (y o Tryz.t670 o) Tryz.t414 o)) Tryz.t94 (y (y (y o Tryz.t606 o) Tryz.t350 o) Tryz.t222 (y (y o Tryz.t734 o) Tryz.t478 o))) Tryz.t62 (y (y (y (y o Tryz.t574 o) Tryz.t318 o) Tryz.t190 (y (y o Tryz.t702 o) Tryz.t446 o)) Tryz.t126 (y (y (y o Tryz.t638 o) Tryz.t382 o) Tryz.t254 (y (y o Tryz.t766 o) Tryz.t510 o)))))))))
def X : Cx := ⟨TX, [(31, [6, 6, 6]), (34, (List.replicate 6 6 ++ List.replicate 3 2 ++ List.replicate 6 6 ++ List.replicate 1 10)), (63, [7, 6, 6, 6, 6, 6, 6, 6]), (130, (List.replicate 512 7)), (137, [6, 6, 10]), (285, [6, 0])]⟩
theorem TX_eq : TX = (U.ofList 0 PP.types.toList .leaf).getD .leaf := by kernel_rfl
theorem X_ok : Ok PP X := by
  have h := cx_ok (P := PP) (fl := X.fl) (by kernel_rfl) (by kernel_rfl)
  rw [← TX_eq] at h
  exact h
def nN : List AV → AH → Rs := fun _ _ => none


noncomputable def q358_0 : ML := mlOf (bodyAt Tryz.f358 [1, 1, 1, 0])
theorem q358_0_fits : q358_0.Fits 69 := by constructor <;> first | kernel_rfl | exact of_decide_eq_true (by kernel_rfl)
noncomputable def hb358_0 : Hint := .o
noncomputable def pre358_0 (vs : List AV) (H : AH) : Rs :=
  hd vs fun x0 vs => hd vs fun x3 vs => hd vs fun x4 vs => 
  bV (pNil x0) fun x43 => 
  bV (fAd 2 x43) fun x44 => 
  bV (ld1 x44 H) fun x45 => 
  some (.norm (x45 :: [x0, x3, x4]), H)
theorem pre358_0_eq : q358_0.preK ⟨X, []⟩ dNone 69 [0, 3, 4] = pre358_0 := by kernel_rfl
noncomputable def rd358_0 (I : Nat) (vs : List AV) (k v : AV) (H : AH) : Rs :=
  hd vs fun x0 vs => hd vs fun x3 vs => hd vs fun x4 vs => 
  bV (pExtract (.tuple [k, v]) 0) fun x50 => 
  bV (pExtract (.tuple [k, v]) 1) fun x51 => 
  bA (bxV 332 (.agg [(.bool false), .nilSlice, .nilSlice, .nilSlice])) H fun x8 H => 
  bR (stN 4 x8 x51 H) fun x9999 H => 
  bV (pNil x4) fun x53 => 
  bV (fAd 5 x53) fun x54 => 
  bV (ld1 x54 H) fun x55 => 
  bV (ldN 4 x8 H) fun x57 => 
  bR (upM [10] x55 x50 x57 H) fun x9999_2 H => 
  some (.norm [(.ptr I 0), x0, x3, x4], H)
theorem rd358_0_eq : q358_0.roundK ⟨X, []⟩ dNone 0 69 hb358_0 [0, 3, 4] = rd358_0 := by kernel_rfl
noncomputable def mt358_0 (vs : List AV) (H : AH) : Option AH := match vs with
  | [.ptr C p, x3, .ptr E o] => match ld1 (.ptr C (p + 2)) H with
    | some (.map M) => match ld1 (.ptr E (o + 5)) H with
      | some (.map A) => bif Nat.blt M H.next && Nat.blt A H.next && Nat.blt E H.next then upLp [10] 1 (isAg 4) (.map M) (.map A) H else none
      | _ => none
    | _ => none
  | _ => none
theorem mt358_0_plan : ∀ vs H H', mt358_0 vs H = some H' → Nonempty (q358_0.Plan ⟨X, []⟩ dNone 0 69 hb358_0 [0, 3, 4] vs H H') := by
  intro vs H H' h
  unfold mt358_0 at h
  split at h
  · rename_i C p x3 E o
    split at h
    · rename_i M hld0
      split at h
      · rename_i A hld
        rw [cond_eq_ite] at h
        split at h
        · rename_i hc
          simp only [Bool.and_eq_true, Nat.blt_eq] at hc
          obtain ⟨⟨hM, hA⟩, hE⟩ := hc
          obtain ⟨l, e, sz, g, hgE, hnth⟩ := ld1_some hld
          have hmaps := upLp_maps h
          refine up_plan h ?_ ?_ hM hA ?_
          · rw [pre358_0_eq]
            simp only [pre358_0, hd, bV, pNil, fAd, fN_eq, hld0]
          · intro k v Hk e0 hok hframe hAk hk hlt hfree _ _
            obtain ⟨cs, rfl, hl, hcl⟩ := isAg_some hok
            have hEM : E ≠ M := fun e => by subst e; obtain ⟨⟨_, _, h1⟩, _⟩ := hmaps; rw [hgE] at h1; simp at h1
            have hEA : E ≠ A := fun e => by subst e; obtain ⟨_, _, _, h1⟩ := hmaps; rw [hgE] at h1; simp at h1
            have hgk : Hk.h.get E = some (.cells l e sz g) := by rw [hframe E hE hEM hEA]; exact hgE
            obtain ⟨t1, ht1, hnew⟩ := newB_free (.cells [(.bool false), .nilSlice, .nilSlice, .nilSlice] 332 1 false) (hfree Hk.next (Nat.le_refl _) (by omega))
            have g1 := T.get_set _ _ _ _ _ ht1
            obtain ⟨t2, ht2, hst⟩ := stN_own (n := 4) (H := ⟨t1, Hk.next + 1⟩) (A := Hk.next) (cs := cs) (by rw [g1, if_pos rfl]) rfl hl hcl
            have g2 := T.get_set _ _ _ _ _ ht2
            simp only at g2 hst
            have hgA : t2.get A = some (.map [10] e0) := by rw [g2, if_neg (by omega), g1, if_neg (by omega)]; exact hAk
            obtain ⟨t3, ht3, hup⟩ := upM_put (v := .agg cs) (H := ⟨t2, Hk.next + 1⟩) hk hgA
            have g3 := T.get_set _ _ _ _ _ ht3
            simp only at g3 hup
            have hldE : ld1 (.ptr E (o + 5)) ⟨t2, Hk.next + 1⟩ = some (.map A) := ld1_at (l := l) (e := e) (sz := sz) (g := g) (by simp only [g2, g1]; rw [if_neg (by omega), if_neg (by omega)]; exact hgk) hnth
            have hldo : ldN 4 (.ptr Hk.next 0) ⟨t2, Hk.next + 1⟩ = some (.agg cs) := ldN_own (by show t2.get Hk.next = _; rw [g2, if_pos rfl]) hl
            refine ⟨⟨t3, Hk.next + 1⟩, ?_, rfl, ?_, fun C hC hlt => ?_⟩
            · rw [rd358_0_eq]
              simp only [rd358_0, hd, bV, bR, pExtract, nth, bA, bxV, cellsA, hnew, hst, pNil, fAd, fN_eq, hldE, hldo, hup]
            · simp only [g3, if_true]
            · simp only [g3, if_neg hC, g2, g1]
              rw [if_neg (by omega), if_neg (by omega)]
          · intro R0 w0 hR hv
            obtain ⟨z, hz⟩ := hv (.ptr E o) (by simp)
            obtain ⟨b, d, c, hr, _⟩ := hz
            exact in_cells hR hr hgE hnth
        · simp at h
      · simp at h
    · simp at h
  · simp at h
noncomputable def mtp358_0 (vs : List AV) (H : AH) : Option AH := match vs with
  | [.ptr C p, x3, .ptr E o] => match ld1p (.ptr C (p + 2)) H with
    | some (.map M) => match ld1p (.ptr E (o + 5)) H with
      | some (.map A) => bif Nat.blt M H.next && Nat.blt A H.next && Nat.blt E H.next then upLp [10] 1 (isAgp 4) (.map M) (.map A) H else none
      | _ => none
    | _ => none
  | _ => none
theorem mtp358_0_sim : MS mtp358_0 mt358_0 := by
  intro vs H H' Hx h hR
  unfold mtp358_0 at h
  split at h
  · rename_i C p x3 E o
    split at h
    · rename_i M hld0
      split at h
      · rename_i A hld
        have e1 := ld1_s hR hld0
        have e2 := ld1_s hR hld
        simp only [ex] at e1 e2
        rw [cond_eq_ite] at h
        split at h
        · rename_i hc
          obtain ⟨Hx', h1, h2⟩ := upLp_s hR (fun v hv => isAgp_ok hv) h
          refine ⟨Hx', ?_, h2⟩
          simp only [exM, ex, mt358_0, e1, e2, hR.next, hc, cond_true, h1]
        · simp at h
      · simp at h
    · simp at h
  · simp at h
theorem told358_0 : ToldOk PP 69 358 q358_0.code [0, 3, 4] mt358_0 := up_told X_ok q358_0_fits (by decide +kernel) (by decide +kernel) (hb := hb358_0) (by kernel_rfl) (kt := 32) (vt := 332) (by kernel_rfl) mt358_0_plan


noncomputable def q295_0 : ML := mlOf (bodyAt Tryz.f295 [1, 1, 1, 0])
theorem q295_0_fits : q295_0.Fits 38 := by constructor <;> first | kernel_rfl | exact of_decide_eq_true (by kernel_rfl)
noncomputable def hb295_0 : Hint := .o
noncomputable def pre295_0 (vs : List AV) (H : AH) : Rs :=
  hd vs fun x0 vs => hd vs fun x3 vs => 
  bV (pNil x0) fun x21 => 
  bV (fAd 0 x21) fun x22 => 
  bV (ld1 x22 H) fun x23 => 
  some (.norm (x23 :: [x0, x3]), H)
theorem pre295_0_eq : q295_0.preK ⟨X, []⟩ dNone 38 [0, 3] = pre295_0 := by kernel_rfl
noncomputable def mt295_0 (vs : List AV) (H : AH) : Option AH := match vs with
  | [.ptr C p, x3] => match ld1 (.ptr C (p + 0)) H with
    | some x => empM x H
    | none => none
  | _ => none
theorem mt295_0_plan : ∀ vs H H', mt295_0 vs H = some H' → Nonempty (q295_0.Plan ⟨X, []⟩ dNone 0 38 hb295_0 [0, 3] vs H H') := by
  intro vs H H' h
  unfold mt295_0 at h
  split at h
  · rename_i C p x3
    split at h
    · rename_i x hld
      refine emp_plan h ?_
      rw [pre295_0_eq]
      simp only [pre295_0, hd, bV, pNil, fAd, fN_eq, hld]
    · simp at h
  · simp at h
noncomputable def mtp295_0 (vs : List AV) (H : AH) : Option AH := match vs with
  | [.ptr C p, x3] => match ld1p (.ptr C (p + 0)) H with
    | some x => empM x H
    | none => none
  | _ => none
theorem mtp295_0_sim : MS mtp295_0 mt295_0 := by
  intro vs H H' Hx h hR
  unfold mtp295_0 at h
  split at h
  · rename_i C p x3
    split at h
    · rename_i x hld
      have e1 := ld1_s hR hld
      simp only [ex] at e1
      obtain ⟨Hx', h1, h2⟩ := empM_s hR h
      exact ⟨Hx', by simp only [exM, ex, mt295_0, e1, h1], h2⟩
    · simp at h
  · simp at h
theorem told295_0 : ToldOk PP 38 295 q295_0.code [0, 3] mt295_0 := up_told X_ok q295_0_fits (by decide +kernel) (by decide +kernel) (hb := hb295_0) (by kernel_rfl) (kt := 3) (vt := 438) (by kernel_rfl) mt295_0_plan


noncomputable def q297_0 : ML := mlOf (bodyAt Tryz.f297 [1, 1, 1, 0])
theorem q297_0_fits : q297_0.Fits 23 := by constructor <;> first | kernel_rfl | exact of_decide_eq_true (by kernel_rfl)
noncomputable def hb297_0 : Hint := .o
noncomputable def pre297_0 (vs : List AV) (H : AH) : Rs :=
  hd vs fun x0 vs => hd vs fun x3 vs => 
  bV (pNil x0) fun x8 => 
  bV (fAd 0 x8) fun x9 => 
  bV (ld1 x9 H) fun x10 => 
  some (.norm (x10 :: [x0, x3]), H)
theorem pre297_0_eq : q297_0.preK ⟨X, []⟩ dNone 23 [0, 3] = pre297_0 := by kernel_rfl
noncomputable def mt297_0 (vs : List AV) (H : AH) : Option AH := match vs with
  | [.ptr C p, x3] => match ld1 (.ptr C (p + 0)) H with
    | some x => empM x H
    | none => none
  | _ => none
theorem mt297_0_plan : ∀ vs H H', mt297_0 vs H = some H' → Nonempty (q297_0.Plan ⟨X, []⟩ dNone 0 23 hb297_0 [0, 3] vs H H') := by
  intro vs H H' h
  unfold mt297_0 at h
  split at h
  · rename_i C p x3
    split at h
    · rename_i x hld
      refine emp_plan h ?_
      rw [pre297_0_eq]
      simp only [pre297_0, hd, bV, pNil, fAd, fN_eq, hld]
    · simp at h
  · simp at h
noncomputable def mtp297_0 (vs : List AV) (H : AH) : Option AH := match vs with
  | [.ptr C p, x3] => match ld1p (.ptr C (p + 0)) H with
    | some x => empM x H
    | none => none
  | _ => none
theorem mtp297_0_sim : MS mtp297_0 mt297_0 := by
  intro vs H H' Hx h hR
  unfold mtp297_0 at h
  split at h
  · rename_i C p x3
    split at h
    · rename_i x hld
      have e1 := ld1_s hR hld
      simp only [ex] at e1
      obtain ⟨Hx', h1, h2⟩ := empM_s hR h
      exact ⟨Hx', by simp only [exM, ex, mt297_0, e1, h1], h2⟩
    · simp at h
  · simp at h
theorem told297_0 : ToldOk PP 23 297 q297_0.code [0, 3] mt297_0 := up_told X_ok q297_0_fits (by decide +kernel) (by decide +kernel) (hb := hb297_0) (by kernel_rfl) (kt := 3) (vt := 438) (by kernel_rfl) mt297_0_plan

end Go.Eng.Sh
