/- Shallow functions, by program (gent4.py). -/
import Derived.Test.YtnjljebicihpaaaGreatDoorWX8
import Derived.Test.YtnjljebicihpaaaGreatDoorProg
import Derived.KernelRfl
noncomputable section
namespace Go.Eng.Sh
open Go.Proofs
set_option maxRecDepth 100000
set_option maxHeartbeats 4000000
set_option linter.all false
attribute [local irreducible] bV bR hd cnd jn jb loopK wnt chk newB bA bInt bStr bBool cmpO eqP eqS eqM eqF eqPL cvI cvSS slStr slArr ixArr ixSl ixStr fAd lnStr lnSl lnMap pk3 s2a bxV lkM upM dlM mkM callV nl outR tld endQ beginK endR endLp jmpK rfC mn2 mx2 aun pExtract pNil undefA isW aveq ldNp ld1p stNp cvBSp cvSBp slSlp ixAg1p ixAgNp fd1p fdNp apPp apZp cpyp bldSp bldAp bldLp mkSlp eqAp clSp bC pnK ifNil asrK noPan mkR clM acap mtp358_0 mtp295_0 mtp297_0 f33 f11 f98 f102 f58 f161l0 f161b1 f161 f167l0 f167b1 f167 f162 f103 f163 f104 f210 f141l0 f141b1 f141 f164 f105 f165l0 f165b1 f165 m165 f106 f59 f60 f34j0 f34l1 f34b2 f34 f166 f107 f266 f267 f237 f168 f109 f169 f108 f61 f110 f62l0 f62b1 f62 f35 f111 f112 f114 f170 f113l0 f113b1 f113 f115 f240 f369 f422 f425j0 f425 f421j0 f421j1 f421j2 f421j3 f421 f424j0 f424j1 f424 f370j0 f370j1 f370 f350 f407 f351 f318 f300j0 f300j1 f300j2 f300 f352 f365 f364l0 f364l1 f364b2 f364l3 f364b4 f364b5 f364 f409l0 f409l1 f409b2 f409b3 f409 f356 f408 f353 f355 f301l0 f301b1 f301l2 f301b3 f301j4 f301 f241 f242 f185 f183 f238l0 f238b1 f238 r238_0 f171 f116 r116_0 f63j0 f63 f119 f65 f66 f64l0 f64b1 f64l2 f64b3 f64 f67 f120 f175 m121 f121 f176 f177 f178 f179 f180j0 f180 f181 f122 f68j0 f68l1 f68b2 f68 f36l0 f36b1 f36 f71 f126 f72 f184 m184 f127 f73 f128 f302j0 f302j1 rc302 f243 f186 f303 f357l0 f357b1 f357 f304 f305j0 f305l1 f305b2 f305 f244l0 f244b1 f244 f191j0 f191 f188 f306 f307 f308 f245l0 f245b1 f245 f190j0 f190 f309 f310 f246l0 f246b1 f246 f359 f358j0 f358l1 f358b2 f358 f411l0 f411b1 f411 f414l0 f414b1 f414 f363j0 f363j1 f363 f362 f360j0 f360j1 f360 f311 f366 m366 f313 f312 f249 f194 f192 f247l0 f247b1 f247 f248 f193 f195 f187j0 f187 f129 f314l0 f314b1 f314 f250l0 f250b1 f250 f197j0 f197 f196j0 f196 f130 f253 f316 f417 f367j0 f367l1 f367b2 f367j3 f367 f426l0 f426b1 f426 f371 f419l0 f419b1 f419 r419_0 f420 f368 f317l0 f317j1 f317b2 f317 f239 f261j0 f261 f254l0 f254b1 f254l2 f254b3 f254j4 f254 f255 f319 r319_0 f257j0 f257 f199j0 f199l1 f199l2 f199b3 f199b4 f199 f258 f201 f259l0 f259b1 f259 f260 f202 f200 m131 f131l0 f131j1 f131l2 f131b3 f131b4 f131j5 f131 f131j5q f131q f74 f37 f38 f76 f39 f12j0 f12 f13 f40 f14 f4l0 f4b1 f4 f27 f41 f132 f320l0 f320b1 f320 f372l0 f372b1 f372 f373l0 f373b1 f373 f321l0 f321b1 f321 f262 f323 f322l0 f322b1 f322 f263 f203 f264 f204 f265 f205 f133j0 f133j1 f133j2 f133j3 f133j4 f133j5 f133j6 f133j7 f133j8 f133j9 f133j10 f133j11 f133 f77l0 f77b1 f77 f134 f135 f207 f136l0 f136b1 f136 f78 f79 f42 f93 f80 f43 f15j0 f15 f208l0 f208b1 f208 f137 f138 f81 f44 f16j0 f16 f82 f139 f83 f45 f84j0 f84 f85 f152b0 f152b1 f152b2 f152b3 f152b4 f152 f142 f86j0 f86 f270l0 f270b1 f270 f269l0 f269b1 f269l2 f269b3 f269 f212j0 f212 f271 f213 f214 f211j0 f211j1 f211j2 f211j3 f211j4 f211j5 f211j6 f211j7 f211j8 f211j9 f211j10 f211j11 f211 f143 f144 f145 f87l0 f87b1 f87 f220j0 f220j1 f220j2 f220j3 f220j4 f220j5 f220j6 f220j7 f220j8 f220 f147 f148 f221l0 f221b1 f221 f149 f285j0 f285j1 f285j2 f285 f223 f276l0 f276b1 f276l2 f276b3 f276 f222j0 f222j1 f222j2 f222j3 f222b4 f222l5 f222 f150 f89j0 f89l1 f89b2 f89j3 f89 f324l0 f324b1 f324 f273 f215l0 f215b1 f215 f216l0 f216b1 f216 f218 f219 f146j0 f146 f88 f46j0 f46j1 f46 f90 f153 f286 f287 f225l0 f225b1 f225 f224j0 f224j1 f224j2 f224j3 f224j4 f224j5 f224j6 f224j7 f224j8 f224 f154 f91l0 f91b1 f91j2 f91 f155 f92 f47j0 f47 f18j0 f18 f48 f19 f288 f228 f332 f289 f229 f156j0 f156j1 f156j2 f156j3 f156l4 f156j5 f156b6 f156 f97l0 f97b1 f97j2 f97 f562 f595j0 f595j1 rc595 f541 f471 f596l0 f596b1 f596 f542 f449 f604 f603j0 f603 f563 f556j0 f556j1 f556 f557 f495 f437j0 f437 f431 f430j0 f430 f378 f496 f432 f446j0 f446 f295 f434 f436 f474 f473j0 f473 f512j0 f512 f587 m587 f531j0 f531j1 f531j2 f531 f513j0 f513 f612
def s613 (D : Dyn) (n : Nat) : Tb := ⟨X, [(587, m587 D n)]⟩
def h613 : Hint := (.s .o (.s (.s .o (.b0 (.s (.s .o (.c [2,0,4] .o (.s .o (.c [1,0,4] .o (.s .o (.c [0,0,4] .o .o)))))) (.cl (.s .o .o) .o)))) (.s .o .o)))
def f613j0 (D : Dyn) (n : Nat) := (⟨_, by conv => rhs; reduce⟩ : {g // some g = prtF (s613 D n) D n 613 Tryz.f613 h613 [] 0}).1
attribute [local irreducible] f613j0
def f613j1 (D : Dyn) (n : Nat) := (⟨_, by conv => rhs; reduce⟩ : {g // some g = prtF (s613 D n) D n 613 Tryz.f613 h613 [f613j0 D n] 1}).1
attribute [local irreducible] f613j1
def f613j2 (D : Dyn) (n : Nat) := (⟨_, by conv => rhs; reduce⟩ : {g // some g = prtF (s613 D n) D n 613 Tryz.f613 h613 [f613j0 D n, f613j1 D n] 2}).1
attribute [local irreducible] f613j2
def f613 (D : Dyn) (n : Nat) := (⟨_, by conv => rhs; reduce⟩ : {g // g = fun vs H => funS (s613 D n) D n 613 Tryz.f613 h613 [f613j0 D n, f613j1 D n, f613j2 D n] vs H}).1
theorem f613_eq (D : Dyn) (n : Nat) : f613 D n = funKp (s613 D n) D n 613 Tryz.f613 (ms h613) := by kernel_rfl
theorem f613_ok {D : Dyn} (hD : DP D) (n : Nat) : FP 613 (f613 D n) := fun_okP X_ok hD (SP.cons (m587_ok hD n) (SP.nil)) Tryz.func613 (by kernel_rfl) (by kernel_rfl) (f613_eq D n)
attribute [local irreducible] f613

def s614 (D : Dyn) (n : Nat) : Tb := ⟨X, [(106, f106 D n)]⟩
def h614 : Hint := (.s .o (.s .o .o))
def f614 (D : Dyn) (n : Nat) := (⟨_, by conv => rhs; reduce⟩ : {g // g = fun vs H => funS (s614 D n) D n 614 Tryz.f614 h614 [] vs H}).1
theorem f614_eq (D : Dyn) (n : Nat) : f614 D n = funKp (s614 D n) D n 614 Tryz.f614 (ms h614) := by kernel_rfl
theorem f614_ok {D : Dyn} (hD : DP D) (n : Nat) : FP 614 (f614 D n) := fun_okP X_ok hD (SP.cons (f106_ok hD n) (SP.nil)) Tryz.func614 (by kernel_rfl) (by kernel_rfl) (f614_eq D n)
attribute [local irreducible] f614

def s618 (D : Dyn) (n : Nat) : Tb := ⟨X, []⟩
def h618 : Hint := (.s .o (.s .o (.s (.s .o (.b [1,3] (.l [0,0,3,5] (.s .o (.s (.cr .o .o) (.s (.b0 (.s .o .o)) .o)))))) (.s .o .o))))
def f618l0 (D : Dyn) (n : Nat) := (⟨_, by conv => rhs; reduce⟩ : {g // some g = prtF (s618 D n) D n 618 Tryz.f618 h618 [] 0}).1
attribute [local irreducible] f618l0
def f618b1 (D : Dyn) (n : Nat) := (⟨_, by conv => rhs; reduce⟩ : {g // some g = prtF (s618 D n) D n 618 Tryz.f618 h618 [f618l0 D n] 1}).1
attribute [local irreducible] f618b1
def f618 (D : Dyn) (n : Nat) := (⟨_, by conv => rhs; reduce⟩ : {g // g = fun vs H => funS (s618 D n) D n 618 Tryz.f618 h618 [f618l0 D n, f618b1 D n] vs H}).1
theorem f618_eq (D : Dyn) (n : Nat) : f618 D n = funKp (s618 D n) D n 618 Tryz.f618 (ms h618) := by kernel_rfl
theorem f618_ok {D : Dyn} (hD : DP D) (n : Nat) : FP 618 (f618 D n) := fun_okP X_ok hD (SP.nil) Tryz.func618 (by kernel_rfl) (by kernel_rfl) (f618_eq D n)
attribute [local irreducible] f618

def s617 (D : Dyn) (n : Nat) : Tb := ⟨X, [(618, f618 D n)]⟩
def h617 : Hint := (.s .o (.s .o .o))
def f617 (D : Dyn) (n : Nat) := (⟨_, by conv => rhs; reduce⟩ : {g // g = fun vs H => funS (s617 D n) D n 617 Tryz.f617 h617 [] vs H}).1
theorem f617_eq (D : Dyn) (n : Nat) : f617 D n = funKp (s617 D n) D n 617 Tryz.f617 (ms h617) := by kernel_rfl
theorem f617_ok {D : Dyn} (hD : DP D) (n : Nat) : FP 617 (f617 D n) := fun_okP X_ok hD (SP.cons (f618_ok hD n) (SP.nil)) Tryz.func617 (by kernel_rfl) (by kernel_rfl) (f617_eq D n)
attribute [local irreducible] f617

def s470 (D : Dyn) (n : Nat) : Tb := ⟨X, [(240, f240 D n)]⟩
def h470 : Hint := (.s .o (.s (.s .o (.cl (.s .o .o) .o)) (.s .o .o)))
def f470 (D : Dyn) (n : Nat) := (⟨_, by conv => rhs; reduce⟩ : {g // g = fun vs H => funS (s470 D n) D n 470 Tryz.f470 h470 [] vs H}).1
theorem f470_eq (D : Dyn) (n : Nat) : f470 D n = funKp (s470 D n) D n 470 Tryz.f470 (ms h470) := by kernel_rfl
theorem f470_ok {D : Dyn} (hD : DP D) (n : Nat) : FP 470 (f470 D n) := fun_okP X_ok hD (SP.cons (f240_ok hD n) (SP.nil)) Tryz.func470 (by kernel_rfl) (by kernel_rfl) (f470_eq D n)
attribute [local irreducible] f470

def s538 (D : Dyn) (n : Nat) : Tb := ⟨X, [(470, f470 D n)]⟩
def h538 : Hint := (.s .o (.s .o .o))
def f538 (D : Dyn) (n : Nat) := (⟨_, by conv => rhs; reduce⟩ : {g // g = fun vs H => funS (s538 D n) D n 538 Tryz.f538 h538 [] vs H}).1
theorem f538_eq (D : Dyn) (n : Nat) : f538 D n = funKp (s538 D n) D n 538 Tryz.f538 (ms h538) := by kernel_rfl
theorem f538_ok {D : Dyn} (hD : DP D) (n : Nat) : FP 538 (f538 D n) := fun_okP X_ok hD (SP.cons (f470_ok hD n) (SP.nil)) Tryz.func538 (by kernel_rfl) (by kernel_rfl) (f538_eq D n)
attribute [local irreducible] f538

def s625 (D : Dyn) (n : Nat) : Tb := ⟨X, [(240, f240 D n)]⟩
def h625 : Hint := (.s .o (.s (.s .o (.cl (.s .o .o) .o)) (.s .o .o)))
def f625 (D : Dyn) (n : Nat) := (⟨_, by conv => rhs; reduce⟩ : {g // g = fun vs H => funS (s625 D n) D n 625 Tryz.f625 h625 [] vs H}).1
theorem f625_eq (D : Dyn) (n : Nat) : f625 D n = funKp (s625 D n) D n 625 Tryz.f625 (ms h625) := by kernel_rfl
theorem f625_ok {D : Dyn} (hD : DP D) (n : Nat) : FP 625 (f625 D n) := fun_okP X_ok hD (SP.cons (f240_ok hD n) (SP.nil)) Tryz.func625 (by kernel_rfl) (by kernel_rfl) (f625_eq D n)
attribute [local irreducible] f625

def s626 (D : Dyn) (n : Nat) : Tb := ⟨X, [(183, f183 D n), (305, f305 D n)]⟩
def h626 : Hint := (.s .o (.s (.s .o (.cl (.s .o .o) .o)) (.s (.s .o (.s .o (.cl (.s .o (.s .o .o)) .o))) (.s (.b [10,767] .o) (.s (.s .o (.c [2,0,2,3,4,5,7,13] (.b [6,62,10,510,13,8191] .o) .o)) (.s (.s .o (.cl (.s .o .o) .o)) (.s (.s .o (.cl (.s .o .o) .o)) (.s .o (.s (.s .o (.b [1] (.l [0,0,2,3,4,5,13,15,16] (.s (.s .o (.cr .o .o)) (.s (.b0 (.s (.s .o (.cl .o .o)) (.s .o (.cl (.s .o .o) .o)))) .o))))) (.s .o .o))))))))))
def f626l0 (D : Dyn) (n : Nat) := (⟨_, by conv => rhs; reduce⟩ : {g // some g = prtF (s626 D n) D n 626 Tryz.f626 h626 [] 0}).1
attribute [local irreducible] f626l0
def f626b1 (D : Dyn) (n : Nat) := (⟨_, by conv => rhs; reduce⟩ : {g // some g = prtF (s626 D n) D n 626 Tryz.f626 h626 [f626l0 D n] 1}).1
attribute [local irreducible] f626b1
def f626j2 (D : Dyn) (n : Nat) := (⟨_, by conv => rhs; reduce⟩ : {g // some g = prtF (s626 D n) D n 626 Tryz.f626 h626 [f626l0 D n, f626b1 D n] 2}).1
attribute [local irreducible] f626j2
def f626 (D : Dyn) (n : Nat) := (⟨_, by conv => rhs; reduce⟩ : {g // g = fun vs H => funS (s626 D n) D n 626 Tryz.f626 h626 [f626l0 D n, f626b1 D n, f626j2 D n] vs H}).1
theorem f626_eq (D : Dyn) (n : Nat) : f626 D n = funKp (s626 D n) D n 626 Tryz.f626 (ms h626) := by kernel_rfl
theorem f626_ok {D : Dyn} (hD : DP D) (n : Nat) : FP 626 (f626 D n) := fun_okP X_ok hD (SP.cons (f183_ok hD n) (SP.cons (f305_ok hD n) (SP.nil))) Tryz.func626 (by kernel_rfl) (by kernel_rfl) (f626_eq D n)
attribute [local irreducible] f626

def s624 (D : Dyn) (n : Nat) : Tb := ⟨X, [(625, f625 D n), (626, f626 D n)]⟩
def h624 : Hint := (.s .o (.s .o (.c [0] .o .o)))
def f624j0 (D : Dyn) (n : Nat) := (⟨_, by conv => rhs; reduce⟩ : {g // some g = prtF (s624 D n) D n 624 Tryz.f624 h624 [] 0}).1
attribute [local irreducible] f624j0
def f624 (D : Dyn) (n : Nat) := (⟨_, by conv => rhs; reduce⟩ : {g // g = fun vs H => funS (s624 D n) D n 624 Tryz.f624 h624 [f624j0 D n] vs H}).1
theorem f624_eq (D : Dyn) (n : Nat) : f624 D n = funKp (s624 D n) D n 624 Tryz.f624 (ms h624) := by kernel_rfl
theorem f624_ok {D : Dyn} (hD : DP D) (n : Nat) : FP 624 (f624 D n) := fun_okP X_ok hD (SP.cons (f625_ok hD n) (SP.cons (f626_ok hD n) (SP.nil))) Tryz.func624 (by kernel_rfl) (by kernel_rfl) (f624_eq D n)
attribute [local irreducible] f624

def s594 (D : Dyn) (n : Nat) : Tb := ⟨X, []⟩
def h594 : Hint := (.s .o (.s .o .o))
def f594 (D : Dyn) (n : Nat) := (⟨_, by conv => rhs; reduce⟩ : {g // g = fun vs H => funS (s594 D n) D n 594 Tryz.f594 h594 [] vs H}).1
theorem f594_eq (D : Dyn) (n : Nat) : f594 D n = funKp (s594 D n) D n 594 Tryz.f594 (ms h594) := by kernel_rfl
theorem f594_ok {D : Dyn} (hD : DP D) (n : Nat) : FP 594 (f594 D n) := fun_okP X_ok hD (SP.nil) Tryz.func594 (by kernel_rfl) (by kernel_rfl) (f594_eq D n)
attribute [local irreducible] f594

def s593 (D : Dyn) (n : Nat) : Tb := ⟨X, [(594, f594 D n), (305, f305 D n)]⟩
def h593 : Hint := (.s .o (.s .o (.b0 (.rf 0 [2,3,5]))))
def f593 (D : Dyn) (n : Nat) := (⟨_, by conv => rhs; reduce⟩ : {g // g = fun vs H => funS (s593 D n) D n 593 Tryz.f593 h593 [] vs H}).1
theorem f593_eq (D : Dyn) (n : Nat) : f593 D n = funKp (s593 D n) D n 593 Tryz.f593 (ms h593) := by kernel_rfl
theorem f593_ok {D : Dyn} (hD : DP D) (n : Nat) : FP 593 (f593 D n) := fun_okP X_ok hD (SP.cons (f594_ok hD n) (SP.cons (f305_ok hD n) (SP.nil))) Tryz.func593 (by kernel_rfl) (by kernel_rfl) (f593_eq D n)
def r593_0a : Hint := .o
def r593_0b : Hint := (.b [2] (.s (.s .o (.cl .o .o)) (.s .o (.b [1] (.l [0,3,5,7,8] (.s (.s .o (.cr .o .o)) (.s (.b0 (.s (.b [24,16777215] .o) (.cl .o .o))) .o)))))))
def f593l0 (D : Dyn) (n : Nat) := (⟨_, by conv => rhs; reduce⟩ : {g // some g = prtR (s593 D n) D n 593 0 [] r593_0b [] 0}).1
attribute [local irreducible] f593l0
def f593b1 (D : Dyn) (n : Nat) := (⟨_, by conv => rhs; reduce⟩ : {g // some g = prtR (s593 D n) D n 593 0 [] r593_0b [f593l0 D n] 1}).1
attribute [local irreducible] f593b1
def f593b2 (D : Dyn) (n : Nat) := (⟨_, by conv => rhs; reduce⟩ : {g // some g = prtR (s593 D n) D n 593 0 [] r593_0b [f593l0 D n, f593b1 D n] 2}).1
attribute [local irreducible] f593b2
def r593_0 (D : Dyn) (n : Nat) := (⟨_, by conv => rhs; reduce⟩ : {g // g = fun A l az H => rndS (s593 D n) D n 593 0 [2, 3, 5] [] r593_0a r593_0b [f593l0 D n, f593b1 D n, f593b2 D n] A l az H}).1
theorem r593_0_eq (D : Dyn) (n : Nat) : r593_0 D n = rndKp (s593 D n) D n 593 0 [2, 3, 5] [] (ms r593_0a) (ms r593_0b) := by kernel_rfl
theorem r593_0_ok {D : Dyn} (hD : DP D) (n : Nat) : RdP 593 0 (r593_0 D n) := round_okP X_ok hD (SP.cons (f594_ok hD n) (SP.cons (f305_ok hD n) (SP.nil))) (by kernel_rfl) (r593_0_eq D n)
attribute [local irreducible] f593 r593_0

def s539 (D : Dyn) (n : Nat) : Tb := ⟨X, []⟩
def h539 : Hint := (.s .o (.s .o .o))
def f539 (D : Dyn) (n : Nat) := (⟨_, by conv => rhs; reduce⟩ : {g // g = fun vs H => funS (s539 D n) D n 539 Tryz.f539 h539 [] vs H}).1
theorem f539_eq (D : Dyn) (n : Nat) : f539 D n = funKp (s539 D n) D n 539 Tryz.f539 (ms h539) := by kernel_rfl
theorem f539_ok {D : Dyn} (hD : DP D) (n : Nat) : FP 539 (f539 D n) := fun_okP X_ok hD (SP.nil) Tryz.func539 (by kernel_rfl) (by kernel_rfl) (f539_eq D n)
attribute [local irreducible] f539

def s540 (D : Dyn) (n : Nat) : Tb := ⟨X, []⟩
def h540 : Hint := (.s .o (.s .o .o))
def f540 (D : Dyn) (n : Nat) := (⟨_, by conv => rhs; reduce⟩ : {g // g = fun vs H => funS (s540 D n) D n 540 Tryz.f540 h540 [] vs H}).1
theorem f540_eq (D : Dyn) (n : Nat) : f540 D n = funKp (s540 D n) D n 540 Tryz.f540 (ms h540) := by kernel_rfl
theorem f540_ok {D : Dyn} (hD : DP D) (n : Nat) : FP 540 (f540 D n) := fun_okP X_ok hD (SP.nil) Tryz.func540 (by kernel_rfl) (by kernel_rfl) (f540_eq D n)
attribute [local irreducible] f540

def s463 (D : Dyn) (n : Nat) : Tb := ⟨X, [(538, f538 D n), (539, f539 D n)]⟩
def h463 : Hint := (.s .o (.s (.s .o (.cl (.s .o .o) .o)) (.s (.s .o (.cl (.s .o .o) .o)) (.s .o (.s .o (.s .o (.s (.s .o (.b [0,11,12,13] (.rf 0 [7,12,13]))) (.s (.s .o (.cl (.s (.b [] .o) .o) .o)) (.s (.b [] .o) .o)))))))))
def f463b0 (D : Dyn) (n : Nat) := (⟨_, by conv => rhs; reduce⟩ : {g // some g = prtF (s463 D n) D n 463 Tryz.f463 h463 [] 0}).1
attribute [local irreducible] f463b0
def f463 (D : Dyn) (n : Nat) := (⟨_, by conv => rhs; reduce⟩ : {g // g = fun vs H => funS (s463 D n) D n 463 Tryz.f463 h463 [f463b0 D n] vs H}).1
theorem f463_eq (D : Dyn) (n : Nat) : f463 D n = funKp (s463 D n) D n 463 Tryz.f463 (ms h463) := by kernel_rfl
theorem f463_ok {D : Dyn} (hD : DP D) (n : Nat) : FP 463 (f463 D n) := fun_okP X_ok hD (SP.cons (f538_ok hD n) (SP.cons (f539_ok hD n) (SP.nil))) Tryz.func463 (by kernel_rfl) (by kernel_rfl) (f463_eq D n)
def r463_0a : Hint := .o
def r463_0b : Hint := (.b0 (.s (.s .o (.cl (.s .o .o) .o)) .o))
def r463_0 (D : Dyn) (n : Nat) := (⟨_, by conv => rhs; reduce⟩ : {g // g = fun A l az H => rndS (s463 D n) D n 463 0 [7, 12, 13] [0] r463_0a r463_0b [] A l az H}).1
theorem r463_0_eq (D : Dyn) (n : Nat) : r463_0 D n = rndKp (s463 D n) D n 463 0 [7, 12, 13] [0] (ms r463_0a) (ms r463_0b) := by kernel_rfl
theorem r463_0_ok {D : Dyn} (hD : DP D) (n : Nat) : RdP 463 0 (r463_0 D n) := round_okP X_ok hD (SP.cons (f538_ok hD n) (SP.cons (f539_ok hD n) (SP.nil))) (by kernel_rfl) (r463_0_eq D n)
attribute [local irreducible] f463 r463_0

def s615 (D : Dyn) (n : Nat) : Tb := ⟨X, [(617, f617 D n), (463, f463 D n)]⟩
def h615 : Hint := (.s .o (.s .o (.s .o (.s (.s .o (.cl (.s .o .o) .o)) (.s (.s .o (.b [1] (.l [0,3,36,37,38] (.s .o (.s (.cr .o .o) (.s (.b0 (.s .o (.s .o (.s .o (.cl .o .o))))) .o)))))) (.s .o .o))))))
def f615l0 (D : Dyn) (n : Nat) := (⟨_, by conv => rhs; reduce⟩ : {g // some g = prtF (s615 D n) D n 615 Tryz.f615 h615 [] 0}).1
attribute [local irreducible] f615l0
def f615b1 (D : Dyn) (n : Nat) := (⟨_, by conv => rhs; reduce⟩ : {g // some g = prtF (s615 D n) D n 615 Tryz.f615 h615 [f615l0 D n] 1}).1
attribute [local irreducible] f615b1
def f615 (D : Dyn) (n : Nat) := (⟨_, by conv => rhs; reduce⟩ : {g // g = fun vs H => funS (s615 D n) D n 615 Tryz.f615 h615 [f615l0 D n, f615b1 D n] vs H}).1
theorem f615_eq (D : Dyn) (n : Nat) : f615 D n = funKp (s615 D n) D n 615 Tryz.f615 (ms h615) := by kernel_rfl
theorem f615_ok {D : Dyn} (hD : DP D) (n : Nat) : FP 615 (f615 D n) := fun_okP X_ok hD (SP.cons (f617_ok hD n) (SP.cons (f463_ok hD n) (SP.nil))) Tryz.func615 (by kernel_rfl) (by kernel_rfl) (f615_eq D n)
attribute [local irreducible] f615

def s610 (D : Dyn) (n : Nat) : Tb := ⟨X, [(612, f612 D n), (613, f613 D n), (614, f614 D n), (615, f615 D n)]⟩
def h610 : Hint := (.s .o (.s (.s .o (.cl (.s .o .o) .o)) (.s (.s .o (.cl (.s .o .o) .o)) (.s (.s .o (.cl (.s .o .o) .o)) (.s .o (.s .o (.s (.s .o (.cl (.s .o .o) .o)) (.s (.s .o (.cl (.s .o .o) .o)) (.s .o .o)))))))))
def f610 (D : Dyn) (n : Nat) := (⟨_, by conv => rhs; reduce⟩ : {g // g = fun vs H => funS (s610 D n) D n 610 Tryz.f610 h610 [] vs H}).1
theorem f610_eq (D : Dyn) (n : Nat) : f610 D n = funKp (s610 D n) D n 610 Tryz.f610 (ms h610) := by kernel_rfl
theorem f610_ok {D : Dyn} (hD : DP D) (n : Nat) : FP 610 (f610 D n) := fun_okP X_ok hD (SP.cons (f612_ok hD n) (SP.cons (f613_ok hD n) (SP.cons (f614_ok hD n) (SP.cons (f615_ok hD n) (SP.nil))))) Tryz.func610 (by kernel_rfl) (by kernel_rfl) (f610_eq D n)
attribute [local irreducible] f610

def s577 (D : Dyn) (n : Nat) : Tb := ⟨X, [(610, f610 D n)]⟩
def h577 : Hint := (.s .o (.s .o (.s (.b [] .o) .o)))
def f577 (D : Dyn) (n : Nat) := (⟨_, by conv => rhs; reduce⟩ : {g // g = fun vs H => funS (s577 D n) D n 577 Tryz.f577 h577 [] vs H}).1
theorem f577_eq (D : Dyn) (n : Nat) : f577 D n = funKp (s577 D n) D n 577 Tryz.f577 (ms h577) := by kernel_rfl
theorem f577_ok {D : Dyn} (hD : DP D) (n : Nat) : FP 577 (f577 D n) := fun_okP X_ok hD (SP.cons (f610_ok hD n) (SP.nil)) Tryz.func577 (by kernel_rfl) (by kernel_rfl) (f577_eq D n)
attribute [local irreducible] f577

def s519 (D : Dyn) (n : Nat) : Tb := ⟨X, [(577, f577 D n), (191, f191 D n)]⟩
def h519 : Hint := (.s .o (.s .o (.s (.s .o (.cl (.s .o .o) .o)) (.s .pc (.s .o .o)))))
def f519 (D : Dyn) (n : Nat) := (⟨_, by conv => rhs; reduce⟩ : {g // g = fun vs H => funS (s519 D n) D n 519 Tryz.f519 h519 [] vs H}).1
theorem f519_eq (D : Dyn) (n : Nat) : f519 D n = funKp (s519 D n) D n 519 Tryz.f519 (ms h519) := by kernel_rfl
theorem f519_ok {D : Dyn} (hD : DP D) (n : Nat) : FP 519 (f519 D n) := fun_okP X_ok hD (SP.cons (f577_ok hD n) (SP.cons (f191_ok hD n) (SP.nil))) Tryz.func519 (by kernel_rfl) (by kernel_rfl) (f519_eq D n)
attribute [local irreducible] f519

def s525 (D : Dyn) (n : Nat) : Tb := ⟨X, [(513, f513 D n), (519, f519 D n)]⟩
def h525 : Hint := (.s .o (.s .pc (.s .pc (.s .o (.c [0] .pc .o)))))
def f525j0 (D : Dyn) (n : Nat) := (⟨_, by conv => rhs; reduce⟩ : {g // some g = prtF (s525 D n) D n 525 Tryz.f525 h525 [] 0}).1
attribute [local irreducible] f525j0
def f525 (D : Dyn) (n : Nat) := (⟨_, by conv => rhs; reduce⟩ : {g // g = fun vs H => funS (s525 D n) D n 525 Tryz.f525 h525 [f525j0 D n] vs H}).1
theorem f525_eq (D : Dyn) (n : Nat) : f525 D n = funKp (s525 D n) D n 525 Tryz.f525 (ms h525) := by kernel_rfl
theorem f525_ok {D : Dyn} (hD : DP D) (n : Nat) : FP 525 (f525 D n) := fun_okP X_ok hD (SP.cons (f513_ok hD n) (SP.cons (f519_ok hD n) (SP.nil))) Tryz.func525 (by kernel_rfl) (by kernel_rfl) (f525_eq D n)
attribute [local irreducible] f525

def s573 (D : Dyn) (n : Nat) : Tb := ⟨X, [(248, f248 D n), (463, f463 D n), (191, f191 D n)]⟩
def h573 : Hint := (.s .o (.s .o (.s .o (.b0 (.l [3,1,3,4] (.b0 (.s (.b [3,0,4,15] .o) (.s .pc (.s (.s .o (.b [2,1,3,5,6] (.l [1,1,3,5,6,24,25,26] (.s .o (.s (.cr .o .o) (.s (.b0 (.s .o (.s .o (.s .o (.c [0,1,3,5,6,24,25,26] .o (.s .o (.cl (.s .o .o) .o))))))) .o)))))) (.s (.s .o (.cl (.s .o .o) .o)) .o))))))))))
def f573j0 (D : Dyn) (n : Nat) := (⟨_, by conv => rhs; reduce⟩ : {g // some g = prtF (s573 D n) D n 573 Tryz.f573 h573 [] 0}).1
attribute [local irreducible] f573j0
def f573l1 (D : Dyn) (n : Nat) := (⟨_, by conv => rhs; reduce⟩ : {g // some g = prtF (s573 D n) D n 573 Tryz.f573 h573 [f573j0 D n] 1}).1
attribute [local irreducible] f573l1
def f573b2 (D : Dyn) (n : Nat) := (⟨_, by conv => rhs; reduce⟩ : {g // some g = prtF (s573 D n) D n 573 Tryz.f573 h573 [f573j0 D n, f573l1 D n] 2}).1
attribute [local irreducible] f573b2
def f573l3 (D : Dyn) (n : Nat) := (⟨_, by conv => rhs; reduce⟩ : {g // some g = prtF (s573 D n) D n 573 Tryz.f573 h573 [f573j0 D n, f573l1 D n, f573b2 D n] 3}).1
attribute [local irreducible] f573l3
def f573 (D : Dyn) (n : Nat) := (⟨_, by conv => rhs; reduce⟩ : {g // g = fun vs H => funS (s573 D n) D n 573 Tryz.f573 h573 [f573j0 D n, f573l1 D n, f573b2 D n, f573l3 D n] vs H}).1
theorem f573_eq (D : Dyn) (n : Nat) : f573 D n = funKp (s573 D n) D n 573 Tryz.f573 (ms h573) := by kernel_rfl
theorem f573_ok {D : Dyn} (hD : DP D) (n : Nat) : FP 573 (f573 D n) := fun_okP X_ok hD (SP.cons (f248_ok hD n) (SP.cons (f463_ok hD n) (SP.cons (f191_ok hD n) (SP.nil)))) Tryz.func573 (by kernel_rfl) (by kernel_rfl) (f573_eq D n)
attribute [local irreducible] f573

def s580 (D : Dyn) (n : Nat) : Tb := ⟨X, [(612, f612 D n), (613, f613 D n), (614, f614 D n), (615, f615 D n), (617, f617 D n), (618, f618 D n), (249, f249 D n)]⟩
def f580l0 (D : Dyn) (n : Nat) (vs : List AV) (H : AH) : Rs :=
  hd vs fun x0_2 vs => hd vs fun x1_2 vs => hd vs fun x3_2 vs => hd vs fun x6_2 vs => hd vs fun x10_2 vs => hd vs fun x12 vs => hd vs fun x14 vs => 
  bV (bInt .lss x14 (.int .i64 (.ofNat 256))) fun x42 => 
  jn (wnt x42 true (bV (ixArr 256 1 x10_2 x14) fun x45 => 
  bV (ld1p x45 H) fun x46 => 
  some (.norm [x46], H)) (some (.norm [undefA], H))) fun vs H => hd vs fun x46_2 vs => 
  bV (pk3 (some x42) (some x46_2) (some (.bool false))) fun x47 => 
  cnd x47 (bV (bInt .add x14 (.int .i64 (.ofNat 1))) fun x49 => 
  some (.norm [x0_2, x1_2, x3_2, x6_2, x10_2, x12, x49], H))
  (some (.exit 0 [x0_2, x1_2, x3_2, x6_2, x12, x14], H))
def f580b1 (D : Dyn) (n : Nat) (vs : List AV) (H : AH) : Rs :=
  hd vs fun x0_3 vs => hd vs fun x1_3 vs => hd vs fun x3_3 vs => hd vs fun x6_3 vs => hd vs fun x12_2 vs => hd vs fun x14_2 vs => 
  bV (bInt .eql x14_2 (.int .i64 (.ofNat 256))) fun x51 => 
  cnd x51 (bV (some (.int .i64 (.ofNat 0))) fun x8_6 => bV (some (.int .i64 (.ofNat 3))) fun x9_6 => some (.ret (.tuple [x8_6, x9_6]), H))
  (bV (bInt .mul x12_2 (.int .i64 (.ofNat 256))) fun x53 => 
  bV (bInt .add x53 x14_2) fun x55 => 
  bV (bInt .add x55 (.int .i64 (.ofNat 1))) fun x56 => 
  bV (ld1p x6_3 H) fun x63 => 
  bR (noPan (f617 D n [x1_3, x56] H)) fun x60 H => chk (ld1p x6_3 H) x63 <| 
  bR (noPan (f618 D n [x3_3] H)) fun x62 H => chk (ld1p x6_3 H) x63 <| 
  bV (bStr .add x62 x63) fun x64 => 
  bR (noPan (f249 D n [x0_3, x60, x64] H)) fun x65 H => 
  bV (bInt .neq x65 (.int .i64 (.ofNat 0))) fun x67 => 
  cnd x67 (bV (some (.int .i64 (.ofNat 0))) fun x8_7 => bV (some x65) fun x9_7 => some (.ret (.tuple [x8_7, x9_7]), H))
  (bV (some x56) fun x8_8 => bV (some (.int .i64 (.ofNat 0))) fun x9_8 => some (.ret (.tuple [x8_8, x9_8]), H)))
def f580 (D : Dyn) (n : Nat) (vs : List AV) (H : AH) : Option (AV × AH) :=
  outR (hd vs fun x0 vs => hd vs fun x1 vs => hd vs fun x2 vs => hd vs fun x3 vs => nl vs <|
  bA (bxV 9 x2) H fun x6 H => 
  bV (cmpO .eql (eqP x0 .nilPtr)) fun x18 => 
  cnd x18 (bV (some (.int .i64 (.ofNat 0))) fun x8 => bV (some (.int .i64 (.ofNat 2))) fun x9 => some (.ret (.tuple [x8, x9]), H))
  (bR (noPan (f612 D n [x1] H)) fun x20 H => 
  bV (aun .not x20) fun x21 => 
  jn (wnt x21 false (bR (noPan (f612 D n [x3] H)) fun x24 H => 
  bV (aun .not x24) fun x25 => 
  some (.norm [x25], H)) (some (.norm [undefA], H))) fun vs H => hd vs fun x25_2 vs => 
  bV (pk3 (some x21) (some (.bool true)) (some x25_2)) fun x26 => 
  cnd x26 (bV (some (.int .i64 (.ofNat 0))) fun x8_2 => bV (some (.int .i64 (.ofNat 1))) fun x9_2 => some (.ret (.tuple [x8_2, x9_2]), H))
  (bV (ld1p x6 H) fun x27 => 
  bR (noPan (f613 D n [x27] H)) fun x28 H => 
  bV (aun .not x28) fun x29 => 
  cnd x29 (bV (some (.int .i64 (.ofNat 0))) fun x8_3 => bV (some (.int .i64 (.ofNat 56))) fun x9_3 => some (.ret (.tuple [x8_3, x9_3]), H))
  (bA (bxV 745 (.agg (rep 256 [(.bool false)]))) H fun x10 H => 
  bA (bxV 4 (.bool false)) H fun x11 H => 
  bR (stNp 1 x11 (.bool false) H) fun x9999 H => 
  bV (ld1p x6 H) fun x30 => 
  bR (noPan (f614 D n [x30] H)) fun x31 H => 
  bR (noPan (f615 D n [x0, x1, x31, (.func 616 [] [x10, x11, x6])] H)) fun x36 H => 
  bV (bInt .neq x36 (.int .i64 (.ofNat 0))) fun x38 => 
  cnd x38 (bV (some (.int .i64 (.ofNat 0))) fun x8_4 => bV (some x36) fun x9_4 => some (.ret (.tuple [x8_4, x9_4]), H))
  (bV (ld1p x11 H) fun x40 => 
  cnd x40 (bV (some (.int .i64 (.ofNat 0))) fun x8_5 => bV (some (.int .i64 (.ofNat 6))) fun x9_5 => some (.ret (.tuple [x8_5, x9_5]), H))
  (jb 0 (loopK n (f580l0 D n) [x0, x1, x3, x6, x10, x31, (.int .i64 (.ofNat 0))] H) (f580b1 D n)))))))
def h580 : Hint := (.s .o (.s (.s .o (.cl (.s .o .o) .o)) (.s (.s .o (.cl (.s .o .o) .o)) (.s (.s .o (.cl (.s .o .o) .o)) (.s .o (.s .o (.s .o (.s .o (.s (.s .o (.cl (.s .o .o) .o)) (.s (.s .o (.cl (.s .o .o) .o)) (.s .o (.s (.b [0, 1, 3, 6, 12, 14] (.l [0, 1, 3, 6, 10, 12, 14] (.s (.s .o (.cr .o .o)) (.b0 .o)))) (.s (.s .o (.cl (.s .o .o) .o)) (.s .o (.s (.s .o (.s .o (.cl (.s .o .o) .o))) (.s .o .o))))))))))))))))
theorem f580_eq (D : Dyn) (n : Nat) : f580 D n = funKp (s580 D n) D n 580 Tryz.f580 h580 := by kernel_rfl
theorem f580_ok {D : Dyn} (hD : DP D) (n : Nat) : FP 580 (f580 D n) := fun_okP X_ok hD (SP.cons (f612_ok hD n) (SP.cons (f613_ok hD n) (SP.cons (f614_ok hD n) (SP.cons (f615_ok hD n) (SP.cons (f617_ok hD n) (SP.cons (f618_ok hD n) (SP.cons (f249_ok hD n) (SP.nil)))))))) Tryz.func580 (by kernel_rfl) (by kernel_rfl) (f580_eq D n)
attribute [local irreducible] f580l0 f580b1 f580

def s581 (D : Dyn) (n : Nat) : Tb := ⟨X, [(512, f512 D n), (193, f193 D n)]⟩
def h581 : Hint := (.s .o (.s .pc (.s .o (.s (.b [5,19,7,127] .o) (.s (.s .o (.c [0,4,8] .o .o)) .pc)))))
def f581j0 (D : Dyn) (n : Nat) := (⟨_, by conv => rhs; reduce⟩ : {g // some g = prtF (s581 D n) D n 581 Tryz.f581 h581 [] 0}).1
attribute [local irreducible] f581j0
def f581 (D : Dyn) (n : Nat) := (⟨_, by conv => rhs; reduce⟩ : {g // g = fun vs H => funS (s581 D n) D n 581 Tryz.f581 h581 [f581j0 D n] vs H}).1
theorem f581_eq (D : Dyn) (n : Nat) : f581 D n = funKp (s581 D n) D n 581 Tryz.f581 (ms h581) := by kernel_rfl
theorem f581_ok {D : Dyn} (hD : DP D) (n : Nat) : FP 581 (f581 D n) := fun_okP X_ok hD (SP.cons (f512_ok hD n) (SP.cons (f193_ok hD n) (SP.nil))) Tryz.func581 (by kernel_rfl) (by kernel_rfl) (f581_eq D n)
attribute [local irreducible] f581

def s522 (D : Dyn) (n : Nat) : Tb := ⟨X, [(580, f580 D n), (191, f191 D n), (581, f581 D n)]⟩
def h522 : Hint := (.s .o (.s .o (.s .pc .pc)))
def f522 (D : Dyn) (n : Nat) := (⟨_, by conv => rhs; reduce⟩ : {g // g = fun vs H => funS (s522 D n) D n 522 Tryz.f522 h522 [] vs H}).1
theorem f522_eq (D : Dyn) (n : Nat) : f522 D n = funKp (s522 D n) D n 522 Tryz.f522 (ms h522) := by kernel_rfl
theorem f522_ok {D : Dyn} (hD : DP D) (n : Nat) : FP 522 (f522 D n) := fun_okP X_ok hD (SP.cons (f580_ok hD n) (SP.cons (f191_ok hD n) (SP.cons (f581_ok hD n) (SP.nil)))) Tryz.func522 (by kernel_rfl) (by kernel_rfl) (f522_eq D n)
attribute [local irreducible] f522

def s572 (D : Dyn) (n : Nat) : Tb := ⟨X, [(512, f512 D n), (525, f525 D n), (197, f197 D n), (573, f573 D n), (190, f190 D n), (191, f191 D n), (192, f192 D n), (193, f193 D n), (195, f195 D n), (194, f194 D n), (522, f522 D n)]⟩
def h572 : Hint := (.s .o (.s .pc (.s (.s .o (.c [4,1,2,3,4,5,6,7] .pc .o)) (.s (.s .o (.c [3,1,2,3,4,5,6,7] .pc .o)) (.s .pc (.s .pc (.s (.s .o (.c [2,1,2,3,4,5,6,7,8] .pc .o)) (.s .o (.s (.c [3,4,8,255,13,6143] (.l [0,1,2,4,5,6,7,12,3,8,9,10,11,13,14] .o) .o) (.s .pc (.s .o (.s .pc (.s .pc (.s (.s .o (.b0 (.s .o (.c [1,1,5,6,7,9] (.c [3,6,6,63] (.l [0,1,2,5,3,4,6] .o) .o) (.s .o (.c [0,1,5,6,7,9] (.c [3,6,6,46,7,127] (.l [0,1,2,5,3,4,6,7] .o) .o) .o)))))) (.s .pc (.s .o .o))))))))))))))))
def f572j0 (D : Dyn) (n : Nat) := (⟨_, by conv => rhs; reduce⟩ : {g // some g = prtF (s572 D n) D n 572 Tryz.f572 h572 [] 0}).1
attribute [local irreducible] f572j0
def f572j1 (D : Dyn) (n : Nat) := (⟨_, by conv => rhs; reduce⟩ : {g // some g = prtF (s572 D n) D n 572 Tryz.f572 h572 [f572j0 D n] 1}).1
attribute [local irreducible] f572j1
def f572j2 (D : Dyn) (n : Nat) := (⟨_, by conv => rhs; reduce⟩ : {g // some g = prtF (s572 D n) D n 572 Tryz.f572 h572 [f572j0 D n, f572j1 D n] 2}).1
attribute [local irreducible] f572j2
def f572j3 (D : Dyn) (n : Nat) := (⟨_, by conv => rhs; reduce⟩ : {g // some g = prtF (s572 D n) D n 572 Tryz.f572 h572 [f572j0 D n, f572j1 D n, f572j2 D n] 3}).1
attribute [local irreducible] f572j3
def f572j4 (D : Dyn) (n : Nat) := (⟨_, by conv => rhs; reduce⟩ : {g // some g = prtF (s572 D n) D n 572 Tryz.f572 h572 [f572j0 D n, f572j1 D n, f572j2 D n, f572j3 D n] 4}).1
attribute [local irreducible] f572j4
def f572 (D : Dyn) (n : Nat) := (⟨_, by conv => rhs; reduce⟩ : {g // g = fun vs H => funS (s572 D n) D n 572 Tryz.f572 h572 [f572j0 D n, f572j1 D n, f572j2 D n, f572j3 D n, f572j4 D n] vs H}).1
theorem f572_eq (D : Dyn) (n : Nat) : f572 D n = funKp (s572 D n) D n 572 Tryz.f572 (ms h572) := by kernel_rfl
theorem f572_ok {D : Dyn} (hD : DP D) (n : Nat) : FP 572 (f572 D n) := fun_okP X_ok hD (SP.cons (f512_ok hD n) (SP.cons (f525_ok hD n) (SP.cons (f197_ok hD n) (SP.cons (f573_ok hD n) (SP.cons (f190_ok hD n) (SP.cons (f191_ok hD n) (SP.cons (f192_ok hD n) (SP.cons (f193_ok hD n) (SP.cons (f195_ok hD n) (SP.cons (f194_ok hD n) (SP.cons (f522_ok hD n) (SP.nil)))))))))))) Tryz.func572 (by kernel_rfl) (by kernel_rfl) (f572_eq D n)
attribute [local irreducible] f572

def s515 (D : Dyn) (n : Nat) : Tb := ⟨X, [(474, f474 D n)]⟩
def h515 : Hint := (.s .o (.s .o .o))
def f515 (D : Dyn) (n : Nat) := (⟨_, by conv => rhs; reduce⟩ : {g // g = fun vs H => funS (s515 D n) D n 515 Tryz.f515 h515 [] vs H}).1
theorem f515_eq (D : Dyn) (n : Nat) : f515 D n = funKp (s515 D n) D n 515 Tryz.f515 (ms h515) := by kernel_rfl
theorem f515_ok {D : Dyn} (hD : DP D) (n : Nat) : FP 515 (f515 D n) := fun_okP X_ok hD (SP.cons (f474_ok hD n) (SP.nil)) Tryz.func515 (by kernel_rfl) (by kernel_rfl) (f515_eq D n)
attribute [local irreducible] f515

def s469 (D : Dyn) (n : Nat) : Tb := ⟨X, []⟩
def h469 : Hint := (.s .o (.s (.s .o (.cl (.s .o .o) .o)) (.s .o .o)))
def f469 (D : Dyn) (n : Nat) := (⟨_, by conv => rhs; reduce⟩ : {g // g = fun vs H => funS (s469 D n) D n 469 Tryz.f469 h469 [] vs H}).1
theorem f469_eq (D : Dyn) (n : Nat) : f469 D n = funKp (s469 D n) D n 469 Tryz.f469 (ms h469) := by kernel_rfl
theorem f469_ok {D : Dyn} (hD : DP D) (n : Nat) : FP 469 (f469 D n) := fun_okP X_ok hD (SP.nil) Tryz.func469 (by kernel_rfl) (by kernel_rfl) (f469_eq D n)
attribute [local irreducible] f469

def s478 (D : Dyn) (n : Nat) : Tb := ⟨X, []⟩
def h478 : Hint := (.s .o (.b [3] (.l [2,0,1,2,6] (.s (.s .o (.cr .o .o)) (.s (.b0 (.s .o (.b [1,0,1,2,6] (.l [0,0,1,2,6,7] (.s (.s (.b [13,8191] .o) (.cr .o .o)) (.s (.b0 (.b [15,32739,17,131071] .o)) .o)))))) .o)))))
def f478l0 (D : Dyn) (n : Nat) := (⟨_, by conv => rhs; reduce⟩ : {g // some g = prtF (s478 D n) D n 478 Tryz.f478 h478 [] 0}).1
attribute [local irreducible] f478l0
def f478b1 (D : Dyn) (n : Nat) := (⟨_, by conv => rhs; reduce⟩ : {g // some g = prtF (s478 D n) D n 478 Tryz.f478 h478 [f478l0 D n] 1}).1
attribute [local irreducible] f478b1
def f478l2 (D : Dyn) (n : Nat) := (⟨_, by conv => rhs; reduce⟩ : {g // some g = prtF (s478 D n) D n 478 Tryz.f478 h478 [f478l0 D n, f478b1 D n] 2}).1
attribute [local irreducible] f478l2
def f478b3 (D : Dyn) (n : Nat) := (⟨_, by conv => rhs; reduce⟩ : {g // some g = prtF (s478 D n) D n 478 Tryz.f478 h478 [f478l0 D n, f478b1 D n, f478l2 D n] 3}).1
attribute [local irreducible] f478b3
def f478 (D : Dyn) (n : Nat) := (⟨_, by conv => rhs; reduce⟩ : {g // g = fun vs H => funS (s478 D n) D n 478 Tryz.f478 h478 [f478l0 D n, f478b1 D n, f478l2 D n, f478b3 D n] vs H}).1
theorem f478_eq (D : Dyn) (n : Nat) : f478 D n = funKp (s478 D n) D n 478 Tryz.f478 (ms h478) := by kernel_rfl
theorem f478_ok {D : Dyn} (hD : DP D) (n : Nat) : FP 478 (f478 D n) := fun_okP X_ok hD (SP.nil) Tryz.func478 (by kernel_rfl) (by kernel_rfl) (f478_eq D n)
attribute [local irreducible] f478

def s406 (D : Dyn) (n : Nat) : Tb := ⟨X, [(478, f478 D n)]⟩
def h406 : Hint := (.s .o (.s .o (.b0 (.l [5,0,1,2,3,8,9] (.b [4,0,1,2,3,8,9] (.s .o (.s (.s .o (.cl (.s .o .o) .o)) (.s (.s .o (.cl (.s .o .o) .o)) (.s (.s .o (.c [3,0,1,2,3,8,9,10] (.s .o .o) .o)) (.s .o (.s (.s .o (.c [2,0,1,2,3,8,9,10,11,12] (.s .o (.s .o .o)) .o)) (.s (.s .o (.c [1,0,1,2,3,8,9,10,11] (.s .o (.cl .o .o)) .o)) (.s (.s (.b [12,4095] .o) (.cl (.s .o (.s .o .o)) .o)) (.s .o (.s .o (.s .o (.s .o (.s .o (.c [0,0,1,2,3,8,9] (.s .o (.s .o .o)) (.s .o (.s .o .o)))))))))))))))))))))
def f406j0 (D : Dyn) (n : Nat) := (⟨_, by conv => rhs; reduce⟩ : {g // some g = prtF (s406 D n) D n 406 Tryz.f406 h406 [] 0}).1
attribute [local irreducible] f406j0
def f406j1 (D : Dyn) (n : Nat) := (⟨_, by conv => rhs; reduce⟩ : {g // some g = prtF (s406 D n) D n 406 Tryz.f406 h406 [f406j0 D n] 1}).1
attribute [local irreducible] f406j1
def f406j2 (D : Dyn) (n : Nat) := (⟨_, by conv => rhs; reduce⟩ : {g // some g = prtF (s406 D n) D n 406 Tryz.f406 h406 [f406j0 D n, f406j1 D n] 2}).1
attribute [local irreducible] f406j2
def f406j3 (D : Dyn) (n : Nat) := (⟨_, by conv => rhs; reduce⟩ : {g // some g = prtF (s406 D n) D n 406 Tryz.f406 h406 [f406j0 D n, f406j1 D n, f406j2 D n] 3}).1
attribute [local irreducible] f406j3
def f406b4 (D : Dyn) (n : Nat) := (⟨_, by conv => rhs; reduce⟩ : {g // some g = prtF (s406 D n) D n 406 Tryz.f406 h406 [f406j0 D n, f406j1 D n, f406j2 D n, f406j3 D n] 4}).1
attribute [local irreducible] f406b4
def f406l5 (D : Dyn) (n : Nat) := (⟨_, by conv => rhs; reduce⟩ : {g // some g = prtF (s406 D n) D n 406 Tryz.f406 h406 [f406j0 D n, f406j1 D n, f406j2 D n, f406j3 D n, f406b4 D n] 5}).1
attribute [local irreducible] f406l5
def f406 (D : Dyn) (n : Nat) := (⟨_, by conv => rhs; reduce⟩ : {g // g = fun vs H => funS (s406 D n) D n 406 Tryz.f406 h406 [f406j0 D n, f406j1 D n, f406j2 D n, f406j3 D n, f406b4 D n, f406l5 D n] vs H}).1
theorem f406_eq (D : Dyn) (n : Nat) : f406 D n = funKp (s406 D n) D n 406 Tryz.f406 (ms h406) := by kernel_rfl
theorem f406_ok {D : Dyn} (hD : DP D) (n : Nat) : FP 406 (f406 D n) := fun_okP X_ok hD (SP.cons (f478_ok hD n) (SP.nil)) Tryz.func406 (by kernel_rfl) (by kernel_rfl) (f406_eq D n)
attribute [local irreducible] f406

def s348 (D : Dyn) (n : Nat) : Tb := ⟨X, [(223, f223 D n), (406, f406 D n)]⟩
def h348 : Hint := (.s .o .o)
def f348 (D : Dyn) (n : Nat) := (⟨_, by conv => rhs; reduce⟩ : {g // g = fun vs H => funS (s348 D n) D n 348 Tryz.f348 h348 [] vs H}).1
theorem f348_eq (D : Dyn) (n : Nat) : f348 D n = funKp (s348 D n) D n 348 Tryz.f348 (ms h348) := by kernel_rfl
theorem f348_ok {D : Dyn} (hD : DP D) (n : Nat) : FP 348 (f348 D n) := fun_okP X_ok hD (SP.cons (f223_ok hD n) (SP.cons (f406_ok hD n) (SP.nil))) Tryz.func348 (by kernel_rfl) (by kernel_rfl) (f348_eq D n)
attribute [local irreducible] f348

def s297 (D : Dyn) (n : Nat) : Tb := ⟨X, [(348, f348 D n)]⟩
def f297 (D : Dyn) (n : Nat) (vs : List AV) (H : AH) : Option (AV × AH) :=
  outR (hd vs fun x0 vs => nl vs <|
  bV (cmpO .eql (eqP x0 .nilPtr)) fun x6 => 
  cnd x6 (bV (some .nilSlice) fun x2 => some (.ret x2, H))
  (tld (mtp297_0 [x0, .nilSlice] H) H.next fun H => 
  bR (noPan (f348 D n [.nilSlice] H)) fun x21 H => 
  bV (some .nilSlice) fun x2_2 => some (.ret x2_2, H)))
def h297 : Hint := (.s .o (.s (.s .o (.cl (.s .o .o) .o)) (.s .o (.s (.t [0, 3] mtp297_0) (.s .o (.s .o .o))))))
def ho297 : Hint := (.s .o (.s (.s .o (.cl (.s .o .o) .o)) (.s .o (.s (.t [0, 3] mt297_0) (.s .o (.s .o .o))))))
theorem f297_eq (D : Dyn) (n : Nat) : f297 D n = funKp (s297 D n) D n 297 Tryz.f297 h297 := by kernel_rfl
theorem f297_tolds : toldsF Tryz.f297 ho297 = [(q297_0.code, [0, 3], mt297_0)] := by kernel_rfl
theorem f297_told : ∀ x ∈ toldsF Tryz.f297 ho297, ToldOk PP Tryz.f297.ntmps 297 x.1 x.2.1 x.2.2 := by
  rw [f297_tolds]; intro x hx
  simp only [List.mem_cons, List.not_mem_nil, or_false] at hx
  subst hx; exact told297_0
theorem f297_hs : HS h297 ho297 := by
  unfold h297 ho297
  repeat (first | exact HS.t mtp297_0_sim | constructor)
theorem f297_ok {D : Dyn} (hD : DP D) (n : Nat) : FP 297 (f297 D n) := fun_okPT X_ok hD (SP.cons (f348_ok hD n) (SP.nil)) Tryz.func297 (sitesT_ok (by kernel_rfl) f297_told) f297_hs (f297_eq D n)
attribute [local irreducible] f297

def s296 (D : Dyn) (n : Nat) : Tb := ⟨X, [(297, f297 D n)]⟩
def h296 : Hint := (.s .o (.s (.s .o (.b [1] (.l [0,0,1,2,11,12,13] (.s .o (.s (.cr .o .o) (.s (.b0 (.s .o (.s .o (.s .o (.cl (.s .o .o) .o))))) .o)))))) (.s .o .o)))
def f296l0 (D : Dyn) (n : Nat) := (⟨_, by conv => rhs; reduce⟩ : {g // some g = prtF (s296 D n) D n 296 Tryz.f296 h296 [] 0}).1
attribute [local irreducible] f296l0
def f296b1 (D : Dyn) (n : Nat) := (⟨_, by conv => rhs; reduce⟩ : {g // some g = prtF (s296 D n) D n 296 Tryz.f296 h296 [f296l0 D n] 1}).1
attribute [local irreducible] f296b1
def f296 (D : Dyn) (n : Nat) := (⟨_, by conv => rhs; reduce⟩ : {g // g = fun vs H => funS (s296 D n) D n 296 Tryz.f296 h296 [f296l0 D n, f296b1 D n] vs H}).1
theorem f296_eq (D : Dyn) (n : Nat) : f296 D n = funKp (s296 D n) D n 296 Tryz.f296 (ms h296) := by kernel_rfl
theorem f296_ok {D : Dyn} (hD : DP D) (n : Nat) : FP 296 (f296 D n) := fun_okP X_ok hD (SP.cons (f297_ok hD n) (SP.nil)) Tryz.func296 (by kernel_rfl) (by kernel_rfl) (f296_eq D n)
attribute [local irreducible] f296

def s457 (D : Dyn) (n : Nat) : Tb := ⟨X, [(119, f119 D n), (316, f316 D n)]⟩
def h457 : Hint := (.s .o (.s (.s .o (.cl (.s .o .o) .o)) (.s .o .o)))
def f457 (D : Dyn) (n : Nat) := (⟨_, by conv => rhs; reduce⟩ : {g // g = fun vs H => funS (s457 D n) D n 457 Tryz.f457 h457 [] vs H}).1
theorem f457_eq (D : Dyn) (n : Nat) : f457 D n = funKp (s457 D n) D n 457 Tryz.f457 (ms h457) := by kernel_rfl
theorem f457_ok {D : Dyn} (hD : DP D) (n : Nat) : FP 457 (f457 D n) := fun_okP X_ok hD (SP.cons (f119_ok hD n) (SP.cons (f316_ok hD n) (SP.nil))) Tryz.func457 (by kernel_rfl) (by kernel_rfl) (f457_eq D n)
attribute [local irreducible] f457

def s403 (D : Dyn) (n : Nat) : Tb := ⟨X, [(72, f72 D n), (128, f128 D n), (469, f469 D n), (127, f127 D n), (295, f295 D n), (296, f296 D n), (470, f470 D n), (457, f457 D n)]⟩
def h403 : Hint := (.s .o (.s .o (.s .o (.s (.s .o (.c [4,2,8,9] (.s .o (.s .o (.s .o (.cl (.s .o .o) .o)))) .o)) (.s .o (.s (.s .o (.b0 (.s (.s .o (.c [3,8,9,11,29] .o (.s .o (.c [1,8,9,11,29] .o (.s .o (.c [0,8,9,11,29] .o .o)))))) (.c [2,8,9,11] .o .o)))) (.s .o .o)))))))
def f403j0 (D : Dyn) (n : Nat) := (⟨_, by conv => rhs; reduce⟩ : {g // some g = prtF (s403 D n) D n 403 Tryz.f403 h403 [] 0}).1
attribute [local irreducible] f403j0
def f403j1 (D : Dyn) (n : Nat) := (⟨_, by conv => rhs; reduce⟩ : {g // some g = prtF (s403 D n) D n 403 Tryz.f403 h403 [f403j0 D n] 1}).1
attribute [local irreducible] f403j1
def f403j2 (D : Dyn) (n : Nat) := (⟨_, by conv => rhs; reduce⟩ : {g // some g = prtF (s403 D n) D n 403 Tryz.f403 h403 [f403j0 D n, f403j1 D n] 2}).1
attribute [local irreducible] f403j2
def f403j3 (D : Dyn) (n : Nat) := (⟨_, by conv => rhs; reduce⟩ : {g // some g = prtF (s403 D n) D n 403 Tryz.f403 h403 [f403j0 D n, f403j1 D n, f403j2 D n] 3}).1
attribute [local irreducible] f403j3
def f403j4 (D : Dyn) (n : Nat) := (⟨_, by conv => rhs; reduce⟩ : {g // some g = prtF (s403 D n) D n 403 Tryz.f403 h403 [f403j0 D n, f403j1 D n, f403j2 D n, f403j3 D n] 4}).1
attribute [local irreducible] f403j4
def f403 (D : Dyn) (n : Nat) := (⟨_, by conv => rhs; reduce⟩ : {g // g = fun vs H => funS (s403 D n) D n 403 Tryz.f403 h403 [f403j0 D n, f403j1 D n, f403j2 D n, f403j3 D n, f403j4 D n] vs H}).1
theorem f403_eq (D : Dyn) (n : Nat) : f403 D n = funKp (s403 D n) D n 403 Tryz.f403 (ms h403) := by kernel_rfl
theorem f403_ok {D : Dyn} (hD : DP D) (n : Nat) : FP 403 (f403 D n) := fun_okP X_ok hD (SP.cons (f72_ok hD n) (SP.cons (f128_ok hD n) (SP.cons (f469_ok hD n) (SP.cons (f127_ok hD n) (SP.cons (f295_ok hD n) (SP.cons (f296_ok hD n) (SP.cons (f470_ok hD n) (SP.cons (f457_ok hD n) (SP.nil))))))))) Tryz.func403 (by kernel_rfl) (by kernel_rfl) (f403_eq D n)
attribute [local irreducible] f403

def s439 (D : Dyn) (n : Nat) : Tb := ⟨X, [(403, f403 D n), (437, f437 D n)]⟩
def h439 : Hint := (.s (.b [9,511] .o) (.s .pc (.s .o (.c [0] .pc .o))))
def f439j0 (D : Dyn) (n : Nat) := (⟨_, by conv => rhs; reduce⟩ : {g // some g = prtF (s439 D n) D n 439 Tryz.f439 h439 [] 0}).1
attribute [local irreducible] f439j0
def f439 (D : Dyn) (n : Nat) := (⟨_, by conv => rhs; reduce⟩ : {g // g = fun vs H => funS (s439 D n) D n 439 Tryz.f439 h439 [f439j0 D n] vs H}).1
theorem f439_eq (D : Dyn) (n : Nat) : f439 D n = funKp (s439 D n) D n 439 Tryz.f439 (ms h439) := by kernel_rfl
theorem f439_ok {D : Dyn} (hD : DP D) (n : Nat) : FP 439 (f439 D n) := fun_okP X_ok hD (SP.cons (f403_ok hD n) (SP.cons (f437_ok hD n) (SP.nil))) Tryz.func439 (by kernel_rfl) (by kernel_rfl) (f439_eq D n)
attribute [local irreducible] f439

def s450 (D : Dyn) (n : Nat) : Tb := ⟨X, [(434, f434 D n), (436, f436 D n), (515, f515 D n), (437, f437 D n), (439, f439 D n), (449, f449 D n), (430, f430 D n)]⟩
def h450 : Hint := (.s .o (.s .o (.s (.c [1,1,15,32767,20,786431] (.l [0,2,3,4,5,6,7,8,9,10,11,12,13,14,19,1,15,16,17,18,20,21] .o) .o) (.s .pc (.s .pc (.s (.c [1,1,4,15,6,63] (.l [0,2,3,1,4,5,6] .o) .o) .o))))))
def f450 (D : Dyn) (n : Nat) := (⟨_, by conv => rhs; reduce⟩ : {g // g = fun vs H => funS (s450 D n) D n 450 Tryz.f450 h450 [] vs H}).1
theorem f450_eq (D : Dyn) (n : Nat) : f450 D n = funKp (s450 D n) D n 450 Tryz.f450 (ms h450) := by kernel_rfl
theorem f450_ok {D : Dyn} (hD : DP D) (n : Nat) : FP 450 (f450 D n) := fun_okP X_ok hD (SP.cons (f434_ok hD n) (SP.cons (f436_ok hD n) (SP.cons (f515_ok hD n) (SP.cons (f437_ok hD n) (SP.cons (f439_ok hD n) (SP.cons (f449_ok hD n) (SP.cons (f430_ok hD n) (SP.nil)))))))) Tryz.func450 (by kernel_rfl) (by kernel_rfl) (f450_eq D n)
attribute [local irreducible] f450

def s385 (D : Dyn) (n : Nat) : Tb := ⟨X, [(446, f446 D n), (450, f450 D n)]⟩
def h385 : Hint := (.s .o (.s .pc (.s (.b [8,255,9,511] .o) .o)))
def f385 (D : Dyn) (n : Nat) := (⟨_, by conv => rhs; reduce⟩ : {g // g = fun vs H => funS (s385 D n) D n 385 Tryz.f385 h385 [] vs H}).1
theorem f385_eq (D : Dyn) (n : Nat) : f385 D n = funKp (s385 D n) D n 385 Tryz.f385 (ms h385) := by kernel_rfl
theorem f385_ok {D : Dyn} (hD : DP D) (n : Nat) : FP 385 (f385 D n) := fun_okP X_ok hD (SP.cons (f446_ok hD n) (SP.cons (f450_ok hD n) (SP.nil))) Tryz.func385 (by kernel_rfl) (by kernel_rfl) (f385_eq D n)
attribute [local irreducible] f385

def s334 (D : Dyn) (n : Nat) : Tb := ⟨X, []⟩
def h334 : Hint := (.s .o (.s .o .o))
def f334 (D : Dyn) (n : Nat) := (⟨_, by conv => rhs; reduce⟩ : {g // g = fun vs H => funS (s334 D n) D n 334 Tryz.f334 h334 [] vs H}).1
theorem f334_eq (D : Dyn) (n : Nat) : f334 D n = funKp (s334 D n) D n 334 Tryz.f334 (ms h334) := by kernel_rfl
theorem f334_ok {D : Dyn} (hD : DP D) (n : Nat) : FP 334 (f334 D n) := fun_okP X_ok hD (SP.nil) Tryz.func334 (by kernel_rfl) (by kernel_rfl) (f334_eq D n)
attribute [local irreducible] f334

def s396 (D : Dyn) (n : Nat) : Tb := ⟨X, []⟩
def f396j0 (D : Dyn) (n : Nat) (vs : List AV) (H : AH) : Rs :=
  
  some (.norm [], H)
def f396j1 (D : Dyn) (n : Nat) (vs : List AV) (H : AH) : Rs :=
  
  some (.ret (.tuple []), H)
def rc396 (D : Dyn) (n : Nat) (rv : AV) (vs : List AV) (H : AH) : Option (AV × AH) :=
  noPan (outR (hd vs fun x0 vs => nl vs <|
  bV (ifNil .neq rv) fun x6 => 
  jn (cnd x6 (bV (bldSp [(0, 1), (1, 3), (4, 8), (12, 1), (13, 1), (14, 1), (15, 1), (16, 1), (17, 1), (18, 1)] [(.int .i64 (.ofNat 0)), (.int .i64 (.ofNat 0)), (.int .i64 (.ofNat 0)), (.int .i64 (.ofNat 0)), (.int .u8 (.ofNat 0)), (.int .i64 (.ofNat 0)), (.int .i64 (.ofNat 0)), (.int .i64 (.ofNat 0)), (.int .i64 (.ofNat 0)), (.int .i64 (.ofNat 0)), (.int .i64 (.ofNat 0)), (.int .i64 (.ofNat 0)), (.str 0 0), (.int .i64 (.ofNat 0)), (.int .i64 (.ofNat 0)), (.int .u64 (.ofNat 0)), (.bool false), .nilSlice, (.int .u64 (.ofNat 0))] [(0, (.int .i64 (.ofNat 50)))]) fun x7 => 
  bR (stNp 19 x0 x7 H) fun x9999 H => 
  bV (asrK 534 (.agg [(.int .i64 (.ofNat 0))]) rv) fun x10 => 
  bV (pExtract x10 0) fun x11 => 
  bV (pExtract x10 1) fun x12 => 
  bA (bxV 534 (.agg [(.int .i64 (.ofNat 0))])) H fun x2 H => 
  bR (stNp 1 x2 x11 H) fun x9999_2 H => 
  jn (cnd x12 (bV (fAd 0 x2) fun x14 => 
  bV (ld1p x14 H) fun x15 => 
  bV (fAd 0 x0) fun x16 => 
  bR (stNp 1 x16 x15 H) fun x9999_3 H => 
  some (.norm [], H))
  (some (.norm [], H))) (f396j0 D n))
  (some (.norm [], H))) (f396j1 D n)))
def h396 : Hint := (.s .pc (.c [] (.s .pc (.s .pc (.s .pc (.c [] .pc .o)))) .o))
theorem rc396_eq (D : Dyn) (n : Nat) : rc396 D n = funRp (s396 D n) D n 396 Tryz.f396 h396 := by kernel_rfl
theorem rc396_ok {D : Dyn} (hD : DP D) (n : Nat) : RcP 396 (rc396 D n) := funR_okP X_ok hD (SP.nil) Tryz.func396 (by kernel_rfl) (by kernel_rfl) (by kernel_rfl) (rc396_eq D n)
attribute [local irreducible] f396j0 f396j1 rc396

def s335 (D : Dyn) (n : Nat) : Tb := ⟨X, []⟩
def f335 (D : Dyn) (n : Nat) (vs : List AV) (H : AH) : Option (AV × AH) :=
  noPan (outR (hd vs fun x0 vs => hd vs fun x1 vs => nl vs <|
  bA (bxV 66 (.agg [(.int .i64 (.ofNat 0)), (.int .i64 (.ofNat 0)), (.int .i64 (.ofNat 0)), (.int .i64 (.ofNat 0)), (.int .u8 (.ofNat 0)), (.int .i64 (.ofNat 0)), (.int .i64 (.ofNat 0)), (.int .i64 (.ofNat 0)), (.int .i64 (.ofNat 0)), (.int .i64 (.ofNat 0)), (.int .i64 (.ofNat 0)), (.int .i64 (.ofNat 0)), (.str 0 0), (.int .i64 (.ofNat 0)), (.int .i64 (.ofNat 0)), (.int .u64 (.ofNat 0)), (.bool false), .nilSlice, (.int .u64 (.ofNat 0))])) H fun x4 H => 
  bC (callV (s335 D n).S D x1 [x0] H) (fun x H => bR (rc396 D n x [x4] H) fun _ H => bV (ldNp 19 x4 H) fun x9004_3 => some (.ret x9004_3, H)) fun x8 H => 
  bR (stNp 19 x4 x8 H) fun x9999 H => 
  bR (rc396 D n .nilIface [x4] H) fun _ H => bV (ldNp 19 x4 H) fun x9004_5 => some (.ret x9004_5, H)))
theorem f335_eq (D : Dyn) (n : Nat) : f335 D n = dfunKp (s335 D n) D Tryz.f335 396 (rc396 D n) := by kernel_rfl
theorem f335_ok {D : Dyn} (hD : DP D) (n : Nat) : FP 335 (f335 D n) := dfun_okP X_ok hD (SP.nil) Tryz.func335 (rc396_ok hD n) (f335_eq D n)
attribute [local irreducible] f335

def s337 (D : Dyn) (n : Nat) : Tb := ⟨X, []⟩
def h337 : Hint := (.s (.s .o (.b [2,0,1] (.l [0,0,1,9,10,11] (.s .o (.s (.cr .o .o) (.s (.b0 (.s .o .o)) .o)))))) (.s .o (.c [1] (.b [17,131071] .o) .o)))
def f337l0 (D : Dyn) (n : Nat) := (⟨_, by conv => rhs; reduce⟩ : {g // some g = prtF (s337 D n) D n 337 Tryz.f337 h337 [] 0}).1
attribute [local irreducible] f337l0
def f337j1 (D : Dyn) (n : Nat) := (⟨_, by conv => rhs; reduce⟩ : {g // some g = prtF (s337 D n) D n 337 Tryz.f337 h337 [f337l0 D n] 1}).1
attribute [local irreducible] f337j1
def f337b2 (D : Dyn) (n : Nat) := (⟨_, by conv => rhs; reduce⟩ : {g // some g = prtF (s337 D n) D n 337 Tryz.f337 h337 [f337l0 D n, f337j1 D n] 2}).1
attribute [local irreducible] f337b2
def f337 (D : Dyn) (n : Nat) := (⟨_, by conv => rhs; reduce⟩ : {g // g = fun vs H => funS (s337 D n) D n 337 Tryz.f337 h337 [f337l0 D n, f337j1 D n, f337b2 D n] vs H}).1
theorem f337_eq (D : Dyn) (n : Nat) : f337 D n = funKp (s337 D n) D n 337 Tryz.f337 (ms h337) := by kernel_rfl
theorem f337_ok {D : Dyn} (hD : DP D) (n : Nat) : FP 337 (f337 D n) := fun_okP X_ok hD (SP.nil) Tryz.func337 (by kernel_rfl) (by kernel_rfl) (f337_eq D n)
attribute [local irreducible] f337

def s291 (D : Dyn) (n : Nat) : Tb := ⟨X, [(334, f334 D n), (71, f71 D n), (335, f335 D n), (337, f337 D n)]⟩
def h291 : Hint := (.s .o (.s (.s .o (.cl (.s .o .o) .o)) (.s .o (.s (.s .o (.cl (.s .o .o) .o)) (.s (.s .o (.cl (.s .o .o) .o)) (.s .o (.s .o (.s (.s .o (.cl (.s .o (.s .o .o)) .o)) (.s .o (.s .o .o))))))))))
def f291 (D : Dyn) (n : Nat) := (⟨_, by conv => rhs; reduce⟩ : {g // g = fun vs H => funS (s291 D n) D n 291 Tryz.f291 h291 [] vs H}).1
theorem f291_eq (D : Dyn) (n : Nat) : f291 D n = funKp (s291 D n) D n 291 Tryz.f291 (ms h291) := by kernel_rfl
theorem f291_ok {D : Dyn} (hD : DP D) (n : Nat) : FP 291 (f291 D n) := fun_okP X_ok hD (SP.cons (f334_ok hD n) (SP.cons (f71_ok hD n) (SP.cons (f335_ok hD n) (SP.cons (f337_ok hD n) (SP.nil))))) Tryz.func291 (by kernel_rfl) (by kernel_rfl) (f291_eq D n)
attribute [local irreducible] f291

def s427 (D : Dyn) (n : Nat) : Tb := ⟨X, [(286, f286 D n), (207, f207 D n), (287, f287 D n), (205, f205 D n)]⟩
def h427 : Hint := (.s (.s .o (.cl (.s .o .o) .o)) (.s (.b [10,1022,13,8191] .o) (.s (.s .o (.b [1,1] (.l [0,0,1,30,31,32] (.s .o (.s (.cr .o .o) (.s (.b0 (.s .o .o)) .o)))))) .o)))
def f427l0 (D : Dyn) (n : Nat) := (⟨_, by conv => rhs; reduce⟩ : {g // some g = prtF (s427 D n) D n 427 Tryz.f427 h427 [] 0}).1
attribute [local irreducible] f427l0
def f427b1 (D : Dyn) (n : Nat) := (⟨_, by conv => rhs; reduce⟩ : {g // some g = prtF (s427 D n) D n 427 Tryz.f427 h427 [f427l0 D n] 1}).1
attribute [local irreducible] f427b1
def f427 (D : Dyn) (n : Nat) := (⟨_, by conv => rhs; reduce⟩ : {g // g = fun vs H => funS (s427 D n) D n 427 Tryz.f427 h427 [f427l0 D n, f427b1 D n] vs H}).1
theorem f427_eq (D : Dyn) (n : Nat) : f427 D n = funKp (s427 D n) D n 427 Tryz.f427 (ms h427) := by kernel_rfl
theorem f427_ok {D : Dyn} (hD : DP D) (n : Nat) : FP 427 (f427 D n) := fun_okP X_ok hD (SP.cons (f286_ok hD n) (SP.cons (f207_ok hD n) (SP.cons (f287_ok hD n) (SP.cons (f205_ok hD n) (SP.nil))))) Tryz.func427 (by kernel_rfl) (by kernel_rfl) (f427_eq D n)
attribute [local irreducible] f427

def s375 (D : Dyn) (n : Nat) : Tb := ⟨X, [(203, f203 D n), (427, f427 D n), (204, f204 D n), (205, f205 D n)]⟩
def h375 : Hint := (.s .o (.b0 (.s .o (.c [8] .o (.s .o (.c [7] .o (.s .o (.c [6] .o (.s .o (.c [5] .o (.s .o (.c [4] .o (.s .o (.c [3] .o (.s .o (.c [2] (.s (.b [9,510,12,4095] .o) .o) (.s .o (.c [1] .o (.s .o (.c [0] .o .o))))))))))))))))))))
def f375j0 (D : Dyn) (n : Nat) := (⟨_, by conv => rhs; reduce⟩ : {g // some g = prtF (s375 D n) D n 375 Tryz.f375 h375 [] 0}).1
attribute [local irreducible] f375j0
def f375j1 (D : Dyn) (n : Nat) := (⟨_, by conv => rhs; reduce⟩ : {g // some g = prtF (s375 D n) D n 375 Tryz.f375 h375 [f375j0 D n] 1}).1
attribute [local irreducible] f375j1
def f375j2 (D : Dyn) (n : Nat) := (⟨_, by conv => rhs; reduce⟩ : {g // some g = prtF (s375 D n) D n 375 Tryz.f375 h375 [f375j0 D n, f375j1 D n] 2}).1
attribute [local irreducible] f375j2
def f375j3 (D : Dyn) (n : Nat) := (⟨_, by conv => rhs; reduce⟩ : {g // some g = prtF (s375 D n) D n 375 Tryz.f375 h375 [f375j0 D n, f375j1 D n, f375j2 D n] 3}).1
attribute [local irreducible] f375j3
def f375j4 (D : Dyn) (n : Nat) := (⟨_, by conv => rhs; reduce⟩ : {g // some g = prtF (s375 D n) D n 375 Tryz.f375 h375 [f375j0 D n, f375j1 D n, f375j2 D n, f375j3 D n] 4}).1
attribute [local irreducible] f375j4
def f375j5 (D : Dyn) (n : Nat) := (⟨_, by conv => rhs; reduce⟩ : {g // some g = prtF (s375 D n) D n 375 Tryz.f375 h375 [f375j0 D n, f375j1 D n, f375j2 D n, f375j3 D n, f375j4 D n] 5}).1
attribute [local irreducible] f375j5
def f375j6 (D : Dyn) (n : Nat) := (⟨_, by conv => rhs; reduce⟩ : {g // some g = prtF (s375 D n) D n 375 Tryz.f375 h375 [f375j0 D n, f375j1 D n, f375j2 D n, f375j3 D n, f375j4 D n, f375j5 D n] 6}).1
attribute [local irreducible] f375j6
def f375j7 (D : Dyn) (n : Nat) := (⟨_, by conv => rhs; reduce⟩ : {g // some g = prtF (s375 D n) D n 375 Tryz.f375 h375 [f375j0 D n, f375j1 D n, f375j2 D n, f375j3 D n, f375j4 D n, f375j5 D n, f375j6 D n] 7}).1
attribute [local irreducible] f375j7
def f375j8 (D : Dyn) (n : Nat) := (⟨_, by conv => rhs; reduce⟩ : {g // some g = prtF (s375 D n) D n 375 Tryz.f375 h375 [f375j0 D n, f375j1 D n, f375j2 D n, f375j3 D n, f375j4 D n, f375j5 D n, f375j6 D n, f375j7 D n] 8}).1
attribute [local irreducible] f375j8
def f375 (D : Dyn) (n : Nat) := (⟨_, by conv => rhs; reduce⟩ : {g // g = fun vs H => funS (s375 D n) D n 375 Tryz.f375 h375 [f375j0 D n, f375j1 D n, f375j2 D n, f375j3 D n, f375j4 D n, f375j5 D n, f375j6 D n, f375j7 D n, f375j8 D n] vs H}).1
theorem f375_eq (D : Dyn) (n : Nat) : f375 D n = funKp (s375 D n) D n 375 Tryz.f375 (ms h375) := by kernel_rfl
theorem f375_ok {D : Dyn} (hD : DP D) (n : Nat) : FP 375 (f375 D n) := fun_okP X_ok hD (SP.cons (f203_ok hD n) (SP.cons (f427_ok hD n) (SP.cons (f204_ok hD n) (SP.cons (f205_ok hD n) (SP.nil))))) Tryz.func375 (by kernel_rfl) (by kernel_rfl) (f375_eq D n)
attribute [local irreducible] f375

def s376 (D : Dyn) (n : Nat) : Tb := ⟨X, []⟩
def h376 : Hint := (.s .o (.s .o .o))
def f376 (D : Dyn) (n : Nat) := (⟨_, by conv => rhs; reduce⟩ : {g // g = fun vs H => funS (s376 D n) D n 376 Tryz.f376 h376 [] vs H}).1
theorem f376_eq (D : Dyn) (n : Nat) : f376 D n = funKp (s376 D n) D n 376 Tryz.f376 (ms h376) := by kernel_rfl
theorem f376_ok {D : Dyn} (hD : DP D) (n : Nat) : FP 376 (f376 D n) := fun_okP X_ok hD (SP.nil) Tryz.func376 (by kernel_rfl) (by kernel_rfl) (f376_eq D n)
attribute [local irreducible] f376

def s333 (D : Dyn) (n : Nat) : Tb := ⟨X, [(153, f153 D n), (207, f207 D n), (375, f375 D n), (376, f376 D n)]⟩
def h333 : Hint := (.s .o (.s .o (.s (.s .o (.cl (.s .o .o) .o)) (.s (.s .o (.cl (.s .o .o) .o)) (.s .o (.s (.s .o (.c [2,3,6,8] .o .o)) (.s .o (.s (.s .o (.b [1,3,8] (.l [0,3,8,36,37,38] (.s .o (.s (.cr .o .o) (.s (.b0 (.s .o (.s .o (.s .o (.cl (.s .o .o) .o))))) .o)))))) (.s (.s .o (.cl (.s .o .o) .o)) (.s .o .o))))))))))
def f333l0 (D : Dyn) (n : Nat) := (⟨_, by conv => rhs; reduce⟩ : {g // some g = prtF (s333 D n) D n 333 Tryz.f333 h333 [] 0}).1
attribute [local irreducible] f333l0
def f333b1 (D : Dyn) (n : Nat) := (⟨_, by conv => rhs; reduce⟩ : {g // some g = prtF (s333 D n) D n 333 Tryz.f333 h333 [f333l0 D n] 1}).1
attribute [local irreducible] f333b1
def f333j2 (D : Dyn) (n : Nat) := (⟨_, by conv => rhs; reduce⟩ : {g // some g = prtF (s333 D n) D n 333 Tryz.f333 h333 [f333l0 D n, f333b1 D n] 2}).1
attribute [local irreducible] f333j2
def f333 (D : Dyn) (n : Nat) := (⟨_, by conv => rhs; reduce⟩ : {g // g = fun vs H => funS (s333 D n) D n 333 Tryz.f333 h333 [f333l0 D n, f333b1 D n, f333j2 D n] vs H}).1
theorem f333_eq (D : Dyn) (n : Nat) : f333 D n = funKp (s333 D n) D n 333 Tryz.f333 (ms h333) := by kernel_rfl
theorem f333_ok {D : Dyn} (hD : DP D) (n : Nat) : FP 333 (f333 D n) := fun_okP X_ok hD (SP.cons (f153_ok hD n) (SP.cons (f207_ok hD n) (SP.cons (f375_ok hD n) (SP.cons (f376_ok hD n) (SP.nil))))) Tryz.func333 (by kernel_rfl) (by kernel_rfl) (f333_eq D n)
attribute [local irreducible] f333

def s290 (D : Dyn) (n : Nat) : Tb := ⟨X, [(333, f333 D n)]⟩
def h290 : Hint := (.s .o (.s (.b [6,63] .o) (.s (.s .o (.c [0,5] .o .o)) (.s .o .o))))
def f290j0 (D : Dyn) (n : Nat) := (⟨_, by conv => rhs; reduce⟩ : {g // some g = prtF (s290 D n) D n 290 Tryz.f290 h290 [] 0}).1
attribute [local irreducible] f290j0
def f290 (D : Dyn) (n : Nat) := (⟨_, by conv => rhs; reduce⟩ : {g // g = fun vs H => funS (s290 D n) D n 290 Tryz.f290 h290 [f290j0 D n] vs H}).1
theorem f290_eq (D : Dyn) (n : Nat) : f290 D n = funKp (s290 D n) D n 290 Tryz.f290 (ms h290) := by kernel_rfl
theorem f290_ok {D : Dyn} (hD : DP D) (n : Nat) : FP 290 (f290 D n) := fun_okP X_ok hD (SP.cons (f333_ok hD n) (SP.nil)) Tryz.func290 (by kernel_rfl) (by kernel_rfl) (f290_eq D n)
attribute [local irreducible] f290

def s230 (D : Dyn) (n : Nat) : Tb := ⟨X, [(291, f291 D n), (290, f290 D n)]⟩
def h230 : Hint := (.s .o (.s (.b [26,67108862,27,134217727] .o) .o))
def f230 (D : Dyn) (n : Nat) := (⟨_, by conv => rhs; reduce⟩ : {g // g = fun vs H => funS (s230 D n) D n 230 Tryz.f230 h230 [] vs H}).1
theorem f230_eq (D : Dyn) (n : Nat) : f230 D n = funKp (s230 D n) D n 230 Tryz.f230 (ms h230) := by kernel_rfl
theorem f230_ok {D : Dyn} (hD : DP D) (n : Nat) : FP 230 (f230 D n) := fun_okP X_ok hD (SP.cons (f291_ok hD n) (SP.cons (f290_ok hD n) (SP.nil))) Tryz.func230 (by kernel_rfl) (by kernel_rfl) (f230_eq D n)
attribute [local irreducible] f230

def s343 (D : Dyn) (n : Nat) : Tb := ⟨X, []⟩
def h343 : Hint := (.s .o (.s .o (.s (.s .o (.b [1,5] (.l [0,0,1,5,10,11] (.s .o (.s (.cr .o .o) (.s (.b0 (.s .o .o)) .o)))))) (.s .o .o))))
def f343l0 (D : Dyn) (n : Nat) := (⟨_, by conv => rhs; reduce⟩ : {g // some g = prtF (s343 D n) D n 343 Tryz.f343 h343 [] 0}).1
attribute [local irreducible] f343l0
def f343b1 (D : Dyn) (n : Nat) := (⟨_, by conv => rhs; reduce⟩ : {g // some g = prtF (s343 D n) D n 343 Tryz.f343 h343 [f343l0 D n] 1}).1
attribute [local irreducible] f343b1
def f343 (D : Dyn) (n : Nat) := (⟨_, by conv => rhs; reduce⟩ : {g // g = fun vs H => funS (s343 D n) D n 343 Tryz.f343 h343 [f343l0 D n, f343b1 D n] vs H}).1
theorem f343_eq (D : Dyn) (n : Nat) : f343 D n = funKp (s343 D n) D n 343 Tryz.f343 (ms h343) := by kernel_rfl
theorem f343_ok {D : Dyn} (hD : DP D) (n : Nat) : FP 343 (f343 D n) := fun_okP X_ok hD (SP.nil) Tryz.func343 (by kernel_rfl) (by kernel_rfl) (f343_eq D n)
attribute [local irreducible] f343

def s400 (D : Dyn) (n : Nat) : Tb := ⟨X, []⟩
def h400 : Hint := (.s .o (.s (.s .o (.b [1,0] (.l [0,0,1,7,8] (.s .o (.s (.cr .o .o) (.s (.b0 (.s .o .o)) .o)))))) (.s .o .o)))
def f400l0 (D : Dyn) (n : Nat) := (⟨_, by conv => rhs; reduce⟩ : {g // some g = prtF (s400 D n) D n 400 Tryz.f400 h400 [] 0}).1
attribute [local irreducible] f400l0
def f400b1 (D : Dyn) (n : Nat) := (⟨_, by conv => rhs; reduce⟩ : {g // some g = prtF (s400 D n) D n 400 Tryz.f400 h400 [f400l0 D n] 1}).1
attribute [local irreducible] f400b1
def f400 (D : Dyn) (n : Nat) := (⟨_, by conv => rhs; reduce⟩ : {g // g = fun vs H => funS (s400 D n) D n 400 Tryz.f400 h400 [f400l0 D n, f400b1 D n] vs H}).1
theorem f400_eq (D : Dyn) (n : Nat) : f400 D n = funKp (s400 D n) D n 400 Tryz.f400 (ms h400) := by kernel_rfl
theorem f400_ok {D : Dyn} (hD : DP D) (n : Nat) : FP 400 (f400 D n) := fun_okP X_ok hD (SP.nil) Tryz.func400 (by kernel_rfl) (by kernel_rfl) (f400_eq D n)
attribute [local irreducible] f400

def s342 (D : Dyn) (n : Nat) : Tb := ⟨X, [(400, f400 D n), (165, m165 D n)]⟩
def h342 : Hint := (.s .o (.s .o (.s (.s .o (.b [3,3] (.l [2,3,8,9,10] (.s .o (.s (.cr .o .o) (.s (.b0 (.s .o (.s .o (.s (.s .o (.b [1,3,5,6,8,9,10] (.l [0,3,5,6,8,9,10,14] (.s .o (.s (.cr .o .o) (.s (.b0 (.s .o .o)) .o)))))) .o)))) .o)))))) (.s .o .o))))
def f342l0 (D : Dyn) (n : Nat) := (⟨_, by conv => rhs; reduce⟩ : {g // some g = prtF (s342 D n) D n 342 Tryz.f342 h342 [] 0}).1
attribute [local irreducible] f342l0
def f342b1 (D : Dyn) (n : Nat) := (⟨_, by conv => rhs; reduce⟩ : {g // some g = prtF (s342 D n) D n 342 Tryz.f342 h342 [f342l0 D n] 1}).1
attribute [local irreducible] f342b1
def f342l2 (D : Dyn) (n : Nat) := (⟨_, by conv => rhs; reduce⟩ : {g // some g = prtF (s342 D n) D n 342 Tryz.f342 h342 [f342l0 D n, f342b1 D n] 2}).1
attribute [local irreducible] f342l2
def f342b3 (D : Dyn) (n : Nat) := (⟨_, by conv => rhs; reduce⟩ : {g // some g = prtF (s342 D n) D n 342 Tryz.f342 h342 [f342l0 D n, f342b1 D n, f342l2 D n] 3}).1
attribute [local irreducible] f342b3
def f342 (D : Dyn) (n : Nat) := (⟨_, by conv => rhs; reduce⟩ : {g // g = fun vs H => funS (s342 D n) D n 342 Tryz.f342 h342 [f342l0 D n, f342b1 D n, f342l2 D n, f342b3 D n] vs H}).1
theorem f342_eq (D : Dyn) (n : Nat) : f342 D n = funKp (s342 D n) D n 342 Tryz.f342 (ms h342) := by kernel_rfl
theorem f342_ok {D : Dyn} (hD : DP D) (n : Nat) : FP 342 (f342 D n) := fun_okP X_ok hD (SP.cons (f400_ok hD n) (SP.cons (m165_ok hD n) (SP.nil))) Tryz.func342 (by kernel_rfl) (by kernel_rfl) (f342_eq D n)
attribute [local irreducible] f342

def s293 (D : Dyn) (n : Nat) : Tb := ⟨X, [(343, f343 D n), (342, f342 D n)]⟩
def h293 : Hint := (.s .o (.s .o .o))
def f293 (D : Dyn) (n : Nat) := (⟨_, by conv => rhs; reduce⟩ : {g // g = fun vs H => funS (s293 D n) D n 293 Tryz.f293 h293 [] vs H}).1
theorem f293_eq (D : Dyn) (n : Nat) : f293 D n = funKp (s293 D n) D n 293 Tryz.f293 (ms h293) := by kernel_rfl
theorem f293_ok {D : Dyn} (hD : DP D) (n : Nat) : FP 293 (f293 D n) := fun_okP X_ok hD (SP.cons (f343_ok hD n) (SP.cons (f342_ok hD n) (SP.nil))) Tryz.func293 (by kernel_rfl) (by kernel_rfl) (f293_eq D n)
attribute [local irreducible] f293

def s464 (D : Dyn) (n : Nat) : Tb := ⟨X, []⟩
def h464 : Hint := (.s .o (.s .o .o))
def f464 (D : Dyn) (n : Nat) := (⟨_, by conv => rhs; reduce⟩ : {g // g = fun vs H => funS (s464 D n) D n 464 Tryz.f464 h464 [] vs H}).1
theorem f464_eq (D : Dyn) (n : Nat) : f464 D n = funKp (s464 D n) D n 464 Tryz.f464 (ms h464) := by kernel_rfl
theorem f464_ok {D : Dyn} (hD : DP D) (n : Nat) : FP 464 (f464 D n) := fun_okP X_ok hD (SP.nil) Tryz.func464 (by kernel_rfl) (by kernel_rfl) (f464_eq D n)
attribute [local irreducible] f464

def s465 (D : Dyn) (n : Nat) : Tb := ⟨X, []⟩
def h465 : Hint := (.s .o (.s (.s .o (.b [1] (.l [0,0,3] (.s (.s .o (.cr .o .o)) (.s (.b0 (.s .o (.cl (.s (.b [] .o) .o) .o))) .o))))) (.s .o .o)))
def f465l0 (D : Dyn) (n : Nat) := (⟨_, by conv => rhs; reduce⟩ : {g // some g = prtF (s465 D n) D n 465 Tryz.f465 h465 [] 0}).1
attribute [local irreducible] f465l0
def f465b1 (D : Dyn) (n : Nat) := (⟨_, by conv => rhs; reduce⟩ : {g // some g = prtF (s465 D n) D n 465 Tryz.f465 h465 [f465l0 D n] 1}).1
attribute [local irreducible] f465b1
def f465 (D : Dyn) (n : Nat) := (⟨_, by conv => rhs; reduce⟩ : {g // g = fun vs H => funS (s465 D n) D n 465 Tryz.f465 h465 [f465l0 D n, f465b1 D n] vs H}).1
theorem f465_eq (D : Dyn) (n : Nat) : f465 D n = funKp (s465 D n) D n 465 Tryz.f465 (ms h465) := by kernel_rfl
theorem f465_ok {D : Dyn} (hD : DP D) (n : Nat) : FP 465 (f465 D n) := fun_okP X_ok hD (SP.nil) Tryz.func465 (by kernel_rfl) (by kernel_rfl) (f465_eq D n)
attribute [local irreducible] f465
end Go.Eng.Sh
