/- Shallow functions, by program (gent4.py). -/
import Derived.Test.YtnjljebicihpaaaGreatDoorWX9
import Derived.Test.YtnjljebicihpaaaGreatDoorProg
import Derived.KernelRfl
noncomputable section
namespace Go.Eng.Sh
open Go.Proofs
set_option maxRecDepth 100000
set_option maxHeartbeats 4000000
set_option linter.all false
attribute [local irreducible] bV bR hd cnd jn jb loopK wnt chk newB bA bInt bStr bBool cmpO eqP eqS eqM eqF eqPL cvI cvSS slStr slArr ixArr ixSl ixStr fAd lnStr lnSl lnMap pk3 s2a bxV lkM upM dlM mkM callV nl outR tld endQ beginK endR endLp jmpK rfC mn2 mx2 aun pExtract pNil undefA isW aveq ldNp ld1p stNp cvBSp cvSBp slSlp ixAg1p ixAgNp fd1p fdNp apPp apZp cpyp bldSp bldAp bldLp mkSlp eqAp clSp bC pnK ifNil asrK noPan mkR clM acap mtp358_0 mtp295_0 mtp297_0 f33 f11 f98 f102 f58 f161l0 f161b1 f161 f167l0 f167b1 f167 f162 f103 f163 f104 f210 f141l0 f141b1 f141 f164 f105 f165l0 f165b1 f165 m165 f106 f59 f60 f34j0 f34l1 f34b2 f34 f166 f107 f266 f267 f237 f168 f109 f169 f108 f61 f110 f62l0 f62b1 f62 f35 f111 f112 f114 f170 f113l0 f113b1 f113 f115 f240 f369 f422 f425j0 f425 f421j0 f421j1 f421j2 f421j3 f421 f424j0 f424j1 f424 f370j0 f370j1 f370 f350 f407 f351 f318 f300j0 f300j1 f300j2 f300 f352 f365 f364l0 f364l1 f364b2 f364l3 f364b4 f364b5 f364 f409l0 f409l1 f409b2 f409b3 f409 f356 f408 f353 f355 f301l0 f301b1 f301l2 f301b3 f301j4 f301 f241 f242 f185 f183 f238l0 f238b1 f238 r238_0 f171 f116 r116_0 f63j0 f63 f119 f65 f66 f64l0 f64b1 f64l2 f64b3 f64 f67 f120 f175 m121 f121 f176 f177 f178 f179 f180j0 f180 f181 f122 f68j0 f68l1 f68b2 f68 f36l0 f36b1 f36 f71 f126 f72 f184 m184 f127 f73 f128 f302j0 f302j1 rc302 f243 f186 f303 f357l0 f357b1 f357 f304 f305j0 f305l1 f305b2 f305 f244l0 f244b1 f244 f191j0 f191 f188 f306 f307 f308 f245l0 f245b1 f245 f190j0 f190 f309 f310 f246l0 f246b1 f246 f359 f358j0 f358l1 f358b2 f358 f411l0 f411b1 f411 f414l0 f414b1 f414 f363j0 f363j1 f363 f362 f360j0 f360j1 f360 f311 f366 m366 f313 f312 f249 f194 f192 f247l0 f247b1 f247 f248 f193 f195 f187j0 f187 f129 f314l0 f314b1 f314 f250l0 f250b1 f250 f197j0 f197 f196j0 f196 f130 f253 f316 f417 f367j0 f367l1 f367b2 f367j3 f367 f426l0 f426b1 f426 f371 f419l0 f419b1 f419 r419_0 f420 f368 f317l0 f317j1 f317b2 f317 f239 f261j0 f261 f254l0 f254b1 f254l2 f254b3 f254j4 f254 f255 f319 r319_0 f257j0 f257 f199j0 f199l1 f199l2 f199b3 f199b4 f199 f258 f201 f259l0 f259b1 f259 f260 f202 f200 m131 f131l0 f131j1 f131l2 f131b3 f131b4 f131j5 f131 f131j5q f131q f74 f37 f38 f76 f39 f12j0 f12 f13 f40 f14 f4l0 f4b1 f4 f27 f41 f132 f320l0 f320b1 f320 f372l0 f372b1 f372 f373l0 f373b1 f373 f321l0 f321b1 f321 f262 f323 f322l0 f322b1 f322 f263 f203 f264 f204 f265 f205 f133j0 f133j1 f133j2 f133j3 f133j4 f133j5 f133j6 f133j7 f133j8 f133j9 f133j10 f133j11 f133 f77l0 f77b1 f77 f134 f135 f207 f136l0 f136b1 f136 f78 f79 f42 f93 f80 f43 f15j0 f15 f208l0 f208b1 f208 f137 f138 f81 f44 f16j0 f16 f82 f139 f83 f45 f84j0 f84 f85 f152b0 f152b1 f152b2 f152b3 f152b4 f152 f142 f86j0 f86 f270l0 f270b1 f270 f269l0 f269b1 f269l2 f269b3 f269 f212j0 f212 f271 f213 f214 f211j0 f211j1 f211j2 f211j3 f211j4 f211j5 f211j6 f211j7 f211j8 f211j9 f211j10 f211j11 f211 f143 f144 f145 f87l0 f87b1 f87 f220j0 f220j1 f220j2 f220j3 f220j4 f220j5 f220j6 f220j7 f220j8 f220 f147 f148 f221l0 f221b1 f221 f149 f285j0 f285j1 f285j2 f285 f223 f276l0 f276b1 f276l2 f276b3 f276 f222j0 f222j1 f222j2 f222j3 f222b4 f222l5 f222 f150 f89j0 f89l1 f89b2 f89j3 f89 f324l0 f324b1 f324 f273 f215l0 f215b1 f215 f216l0 f216b1 f216 f218 f219 f146j0 f146 f88 f46j0 f46j1 f46 f90 f153 f286 f287 f225l0 f225b1 f225 f224j0 f224j1 f224j2 f224j3 f224j4 f224j5 f224j6 f224j7 f224j8 f224 f154 f91l0 f91b1 f91j2 f91 f155 f92 f47j0 f47 f18j0 f18 f48 f19 f288 f228 f332 f289 f229 f156j0 f156j1 f156j2 f156j3 f156l4 f156j5 f156b6 f156 f97l0 f97b1 f97j2 f97 f562 f595j0 f595j1 rc595 f541 f471 f596l0 f596b1 f596 f542 f449 f604 f603j0 f603 f563 f556j0 f556j1 f556 f557 f495 f437j0 f437 f431 f430j0 f430 f378 f496 f432 f446j0 f446 f295 f434 f436 f474 f473j0 f473 f512j0 f512 f587 m587 f531j0 f531j1 f531j2 f531 f513j0 f513 f612 f613j0 f613j1 f613j2 f613 f614 f618l0 f618b1 f618 f617 f470 f538 f625 f626l0 f626b1 f626j2 f626 f624j0 f624 f594 f593 f593l0 f593b1 f593b2 r593_0 f539 f540 f463b0 f463 r463_0 f615l0 f615b1 f615 f610 f577 f519 f525j0 f525 f573j0 f573l1 f573b2 f573l3 f573 f580l0 f580b1 f580 f581j0 f581 f522 f572j0 f572j1 f572j2 f572j3 f572j4 f572 f515 f469 f478l0 f478b1 f478l2 f478b3 f478 f406j0 f406j1 f406j2 f406j3 f406b4 f406l5 f406 f348 f297 f296l0 f296b1 f296 f457 f403j0 f403j1 f403j2 f403j3 f403j4 f403 f439j0 f439 f450 f385 f334 f396j0 f396j1 rc396 f335 f337l0 f337j1 f337b2 f337 f291 f427l0 f427b1 f427 f375j0 f375j1 f375j2 f375j3 f375j4 f375j5 f375j6 f375j7 f375j8 f375 f376 f333l0 f333b1 f333j2 f333 f290j0 f290 f230 f343l0 f343b1 f343 f400l0 f400b1 f400 f342l0 f342b1 f342l2 f342b3 f342 f293 f464 f465l0 f465b1 f465
def s462 (D : Dyn) (n : Nat) : Tb := ⟨X, [(464, f464 D n), (465, f465 D n), (463, f463 D n)]⟩
def h462 : Hint := (.s (.c [2,2,4,14,5,30,6,63] (.l [0,1,3,2,4,5,6,7,8,9,10,11,12,13] .o) .o) (.s (.s .o (.cl (.s .o .o) .o)) (.s .o (.b [1] (.l [0,0,26,27,28] (.s .o (.s (.cr .o .o) (.s (.b0 (.s .o (.s .o (.cl .o .o)))) .o))))))))
def f462l0 (D : Dyn) (n : Nat) := (⟨_, by conv => rhs; reduce⟩ : {g // some g = prtF (s462 D n) D n 462 Tryz.f462 h462 [] 0}).1
attribute [local irreducible] f462l0
def f462b1 (D : Dyn) (n : Nat) := (⟨_, by conv => rhs; reduce⟩ : {g // some g = prtF (s462 D n) D n 462 Tryz.f462 h462 [f462l0 D n] 1}).1
attribute [local irreducible] f462b1
def f462 (D : Dyn) (n : Nat) := (⟨_, by conv => rhs; reduce⟩ : {g // g = fun vs H => funS (s462 D n) D n 462 Tryz.f462 h462 [f462l0 D n, f462b1 D n] vs H}).1
theorem f462_eq (D : Dyn) (n : Nat) : f462 D n = funKp (s462 D n) D n 462 Tryz.f462 (ms h462) := by kernel_rfl
theorem f462_ok {D : Dyn} (hD : DP D) (n : Nat) : FP 462 (f462 D n) := fun_okP X_ok hD (SP.cons (f464_ok hD n) (SP.cons (f465_ok hD n) (SP.cons (f463_ok hD n) (SP.nil)))) Tryz.func462 (by kernel_rfl) (by kernel_rfl) (f462_eq D n)
attribute [local irreducible] f462

def s398 (D : Dyn) (n : Nat) : Tb := ⟨X, []⟩
def h398 : Hint := (.s .o (.s .o .o))
def f398 (D : Dyn) (n : Nat) := (⟨_, by conv => rhs; reduce⟩ : {g // g = fun vs H => funS (s398 D n) D n 398 Tryz.f398 h398 [] vs H}).1
theorem f398_eq (D : Dyn) (n : Nat) : f398 D n = funKp (s398 D n) D n 398 Tryz.f398 (ms h398) := by kernel_rfl
theorem f398_ok {D : Dyn} (hD : DP D) (n : Nat) : FP 398 (f398 D n) := fun_okP X_ok hD (SP.nil) Tryz.func398 (by kernel_rfl) (by kernel_rfl) (f398_eq D n)
attribute [local irreducible] f398

def s466 (D : Dyn) (n : Nat) : Tb := ⟨X, []⟩
def h466 : Hint := (.s .o (.s .o (.s (.s .o (.b [1,3] (.l [0,0,3,6,7] (.s .o (.s (.cr .o .o) (.s (.b0 (.s .o .o)) .o)))))) (.s .o .o))))
def f466l0 (D : Dyn) (n : Nat) := (⟨_, by conv => rhs; reduce⟩ : {g // some g = prtF (s466 D n) D n 466 Tryz.f466 h466 [] 0}).1
attribute [local irreducible] f466l0
def f466b1 (D : Dyn) (n : Nat) := (⟨_, by conv => rhs; reduce⟩ : {g // some g = prtF (s466 D n) D n 466 Tryz.f466 h466 [f466l0 D n] 1}).1
attribute [local irreducible] f466b1
def f466 (D : Dyn) (n : Nat) := (⟨_, by conv => rhs; reduce⟩ : {g // g = fun vs H => funS (s466 D n) D n 466 Tryz.f466 h466 [f466l0 D n, f466b1 D n] vs H}).1
theorem f466_eq (D : Dyn) (n : Nat) : f466 D n = funKp (s466 D n) D n 466 Tryz.f466 (ms h466) := by kernel_rfl
theorem f466_ok {D : Dyn} (hD : DP D) (n : Nat) : FP 466 (f466 D n) := fun_okP X_ok hD (SP.nil) Tryz.func466 (by kernel_rfl) (by kernel_rfl) (f466_eq D n)
attribute [local irreducible] f466

def s399 (D : Dyn) (n : Nat) : Tb := ⟨X, [(466, f466 D n)]⟩
def h399 : Hint := (.s .o (.s (.s .o (.cl (.s .o .o) .o)) (.s .o (.s .o (.s .o (.s .o (.s .o (.s (.b [9,31] .o) .o))))))))
def f399 (D : Dyn) (n : Nat) := (⟨_, by conv => rhs; reduce⟩ : {g // g = fun vs H => funS (s399 D n) D n 399 Tryz.f399 h399 [] vs H}).1
theorem f399_eq (D : Dyn) (n : Nat) : f399 D n = funKp (s399 D n) D n 399 Tryz.f399 (ms h399) := by kernel_rfl
theorem f399_ok {D : Dyn} (hD : DP D) (n : Nat) : FP 399 (f399 D n) := fun_okP X_ok hD (SP.cons (f466_ok hD n) (SP.nil)) Tryz.func399 (by kernel_rfl) (by kernel_rfl) (f399_eq D n)
attribute [local irreducible] f399

def s338 (D : Dyn) (n : Nat) : Tb := ⟨X, [(398, f398 D n), (399, f399 D n)]⟩
def h338 : Hint := (.s .o (.s (.s .o (.cl (.s .o .o) .o)) (.s (.s .o (.cl (.s .o .o) .o)) (.s .o (.s (.s .o (.b0 (.rf 0 [4,5,6]))) (.s .o .o))))))
def f338 (D : Dyn) (n : Nat) := (⟨_, by conv => rhs; reduce⟩ : {g // g = fun vs H => funS (s338 D n) D n 338 Tryz.f338 h338 [] vs H}).1
theorem f338_eq (D : Dyn) (n : Nat) : f338 D n = funKp (s338 D n) D n 338 Tryz.f338 (ms h338) := by kernel_rfl
theorem f338_ok {D : Dyn} (hD : DP D) (n : Nat) : FP 338 (f338 D n) := fun_okP X_ok hD (SP.cons (f398_ok hD n) (SP.cons (f399_ok hD n) (SP.nil))) Tryz.func338 (by kernel_rfl) (by kernel_rfl) (f338_eq D n)
def r338_0a : Hint := (.s .o .o)
def r338_0b : Hint := (.b0 (.s (.s .o (.cl (.s .o .o) .o)) (.s .o (.s (.s .o (.cl (.s .o .o) .o)) .o))))
def r338_0 (D : Dyn) (n : Nat) := (⟨_, by conv => rhs; reduce⟩ : {g // g = fun A l az H => rndS (s338 D n) D n 338 0 [4, 5, 6] [] r338_0a r338_0b [] A l az H}).1
theorem r338_0_eq (D : Dyn) (n : Nat) : r338_0 D n = rndKp (s338 D n) D n 338 0 [4, 5, 6] [] (ms r338_0a) (ms r338_0b) := by kernel_rfl
theorem r338_0_ok {D : Dyn} (hD : DP D) (n : Nat) : RdP 338 0 (r338_0 D n) := round_okP X_ok hD (SP.cons (f398_ok hD n) (SP.cons (f399_ok hD n) (SP.nil))) (by kernel_rfl) (r338_0_eq D n)
attribute [local irreducible] f338 r338_0

def s339 (D : Dyn) (n : Nat) : Tb := ⟨X, []⟩
def h339 : Hint := (.s .o (.s .o .o))
def f339 (D : Dyn) (n : Nat) := (⟨_, by conv => rhs; reduce⟩ : {g // g = fun vs H => funS (s339 D n) D n 339 Tryz.f339 h339 [] vs H}).1
theorem f339_eq (D : Dyn) (n : Nat) : f339 D n = funKp (s339 D n) D n 339 Tryz.f339 (ms h339) := by kernel_rfl
theorem f339_ok {D : Dyn} (hD : DP D) (n : Nat) : FP 339 (f339 D n) := fun_okP X_ok hD (SP.nil) Tryz.func339 (by kernel_rfl) (by kernel_rfl) (f339_eq D n)
attribute [local irreducible] f339

def s340 (D : Dyn) (n : Nat) : Tb := ⟨X, []⟩
def h340 : Hint := (.s .o (.s (.s .o (.b [1,4] (.l [0,1,4,8,9,10] (.s .o (.s (.cr .o .o) (.s (.b0 (.s .o (.s .o (.cl (.s .o .o) .o)))) .o)))))) (.s .o .o)))
def f340l0 (D : Dyn) (n : Nat) := (⟨_, by conv => rhs; reduce⟩ : {g // some g = prtF (s340 D n) D n 340 Tryz.f340 h340 [] 0}).1
attribute [local irreducible] f340l0
def f340b1 (D : Dyn) (n : Nat) := (⟨_, by conv => rhs; reduce⟩ : {g // some g = prtF (s340 D n) D n 340 Tryz.f340 h340 [f340l0 D n] 1}).1
attribute [local irreducible] f340b1
def f340 (D : Dyn) (n : Nat) := (⟨_, by conv => rhs; reduce⟩ : {g // g = fun vs H => funS (s340 D n) D n 340 Tryz.f340 h340 [f340l0 D n, f340b1 D n] vs H}).1
theorem f340_eq (D : Dyn) (n : Nat) : f340 D n = funKp (s340 D n) D n 340 Tryz.f340 (ms h340) := by kernel_rfl
theorem f340_ok {D : Dyn} (hD : DP D) (n : Nat) : FP 340 (f340 D n) := fun_okP X_ok hD (SP.nil) Tryz.func340 (by kernel_rfl) (by kernel_rfl) (f340_eq D n)
attribute [local irreducible] f340

def s341 (D : Dyn) (n : Nat) : Tb := ⟨X, []⟩
def h341 : Hint := (.s .o (.s .o .o))
def f341 (D : Dyn) (n : Nat) := (⟨_, by conv => rhs; reduce⟩ : {g // g = fun vs H => funS (s341 D n) D n 341 Tryz.f341 h341 [] vs H}).1
theorem f341_eq (D : Dyn) (n : Nat) : f341 D n = funKp (s341 D n) D n 341 Tryz.f341 (ms h341) := by kernel_rfl
theorem f341_ok {D : Dyn} (hD : DP D) (n : Nat) : FP 341 (f341 D n) := fun_okP X_ok hD (SP.nil) Tryz.func341 (by kernel_rfl) (by kernel_rfl) (f341_eq D n)
attribute [local irreducible] f341

def s292 (D : Dyn) (n : Nat) : Tb := ⟨X, [(338, f338 D n), (339, f339 D n), (340, f340 D n)]⟩
def h292 : Hint := (.s .o (.s .o (.s (.s .o (.cl (.s .o .o) .o)) (.s (.s .o (.cl (.s .o .o) .o)) (.s .o (.s (.s .o (.cl (.s .o .o) .o)) (.s .o .o)))))))
def f292 (D : Dyn) (n : Nat) := (⟨_, by conv => rhs; reduce⟩ : {g // g = fun vs H => funS (s292 D n) D n 292 Tryz.f292 h292 [] vs H}).1
theorem f292_eq (D : Dyn) (n : Nat) : f292 D n = funKp (s292 D n) D n 292 Tryz.f292 (ms h292) := by kernel_rfl
theorem f292_ok {D : Dyn} (hD : DP D) (n : Nat) : FP 292 (f292 D n) := fun_okP X_ok hD (SP.cons (f338_ok hD n) (SP.cons (f339_ok hD n) (SP.cons (f340_ok hD n) (SP.nil)))) Tryz.func292 (by kernel_rfl) (by kernel_rfl) (f292_eq D n)
attribute [local irreducible] f292

def s231 (D : Dyn) (n : Nat) : Tb := ⟨X, [(72, f72 D n), (128, f128 D n), (293, f293 D n), (292, f292 D n)]⟩
def h231 : Hint := (.s .o (.s (.c [4,15,5,31,26,67043391,27,134217727] (.l [0,1,2,3,6,7,8,9,10,11,12,13,14,15,16,17,18,19,20,21,22,23,24,25,4,5,26,27,28,29,30,31,32] .o) .o) (.s (.s .o (.cl (.s .o .o) .o)) (.s .o (.s .o .o)))))
def f231 (D : Dyn) (n : Nat) := (⟨_, by conv => rhs; reduce⟩ : {g // g = fun vs H => funS (s231 D n) D n 231 Tryz.f231 h231 [] vs H}).1
theorem f231_eq (D : Dyn) (n : Nat) : f231 D n = funKp (s231 D n) D n 231 Tryz.f231 (ms h231) := by kernel_rfl
theorem f231_ok {D : Dyn} (hD : DP D) (n : Nat) : FP 231 (f231 D n) := fun_okP X_ok hD (SP.cons (f72_ok hD n) (SP.cons (f128_ok hD n) (SP.cons (f293_ok hD n) (SP.cons (f292_ok hD n) (SP.nil))))) Tryz.func231 (by kernel_rfl) (by kernel_rfl) (f231_eq D n)
attribute [local irreducible] f231

def s402 (D : Dyn) (n : Nat) : Tb := ⟨X, [(464, f464 D n), (343, f343 D n)]⟩
def h402 : Hint := (.s .o (.s .o .o))
def f402 (D : Dyn) (n : Nat) := (⟨_, by conv => rhs; reduce⟩ : {g // g = fun vs H => funS (s402 D n) D n 402 Tryz.f402 h402 [] vs H}).1
theorem f402_eq (D : Dyn) (n : Nat) : f402 D n = funKp (s402 D n) D n 402 Tryz.f402 (ms h402) := by kernel_rfl
theorem f402_ok {D : Dyn} (hD : DP D) (n : Nat) : FP 402 (f402 D n) := fun_okP X_ok hD (SP.cons (f464_ok hD n) (SP.cons (f343_ok hD n) (SP.nil))) Tryz.func402 (by kernel_rfl) (by kernel_rfl) (f402_eq D n)
attribute [local irreducible] f402

def s344 (D : Dyn) (n : Nat) : Tb := ⟨X, [(338, f338 D n), (339, f339 D n), (402, f402 D n), (343, f343 D n), (249, f249 D n)]⟩
def h344 : Hint := (.s .o (.s .o (.s (.s .o (.cl (.s .o .o) .o)) (.s (.s .o (.cl (.s .o .o) .o)) (.s (.s .o (.cl (.s .o .o) .o)) (.s .o (.s (.s .o (.c [6,0,1,2,3,4,11,13] (.s .o (.s (.s .o (.cl (.s .o .o) .o)) .o)) .o)) (.s .o (.s (.s .o (.b [5,0,1,2,3,4,13,15,16] (.l [1,0,1,2,3,4,13,15,16,52,53,54] (.s .o (.s (.cr .o .o) (.s (.b0 (.s .o (.s .o (.c [0,0,1,2,3,4,13,15,16,52,53,54] .o .o)))) .o)))))) (.s (.s .o (.s .o (.c [4,0,1,2,3,4,13,15] .o .o))) (.s (.s .o (.b [3,0,1,2,3,4,13] (.l [2,0,1,2,3,4,13,82,83,84] (.s .o (.s (.cr .o .o) (.s (.b0 (.s .o (.s .o (.s .o (.cl (.s .o .o) .o))))) .o)))))) (.s .o .o))))))))))))
def f344j0 (D : Dyn) (n : Nat) := (⟨_, by conv => rhs; reduce⟩ : {g // some g = prtF (s344 D n) D n 344 Tryz.f344 h344 [] 0}).1
attribute [local irreducible] f344j0
def f344l1 (D : Dyn) (n : Nat) := (⟨_, by conv => rhs; reduce⟩ : {g // some g = prtF (s344 D n) D n 344 Tryz.f344 h344 [f344j0 D n] 1}).1
attribute [local irreducible] f344l1
def f344l2 (D : Dyn) (n : Nat) := (⟨_, by conv => rhs; reduce⟩ : {g // some g = prtF (s344 D n) D n 344 Tryz.f344 h344 [f344j0 D n, f344l1 D n] 2}).1
attribute [local irreducible] f344l2
def f344b3 (D : Dyn) (n : Nat) := (⟨_, by conv => rhs; reduce⟩ : {g // some g = prtF (s344 D n) D n 344 Tryz.f344 h344 [f344j0 D n, f344l1 D n, f344l2 D n] 3}).1
attribute [local irreducible] f344b3
def f344j4 (D : Dyn) (n : Nat) := (⟨_, by conv => rhs; reduce⟩ : {g // some g = prtF (s344 D n) D n 344 Tryz.f344 h344 [f344j0 D n, f344l1 D n, f344l2 D n, f344b3 D n] 4}).1
attribute [local irreducible] f344j4
def f344b5 (D : Dyn) (n : Nat) := (⟨_, by conv => rhs; reduce⟩ : {g // some g = prtF (s344 D n) D n 344 Tryz.f344 h344 [f344j0 D n, f344l1 D n, f344l2 D n, f344b3 D n, f344j4 D n] 5}).1
attribute [local irreducible] f344b5
def f344j6 (D : Dyn) (n : Nat) := (⟨_, by conv => rhs; reduce⟩ : {g // some g = prtF (s344 D n) D n 344 Tryz.f344 h344 [f344j0 D n, f344l1 D n, f344l2 D n, f344b3 D n, f344j4 D n, f344b5 D n] 6}).1
attribute [local irreducible] f344j6
def f344 (D : Dyn) (n : Nat) := (⟨_, by conv => rhs; reduce⟩ : {g // g = fun vs H => funS (s344 D n) D n 344 Tryz.f344 h344 [f344j0 D n, f344l1 D n, f344l2 D n, f344b3 D n, f344j4 D n, f344b5 D n, f344j6 D n] vs H}).1
theorem f344_eq (D : Dyn) (n : Nat) : f344 D n = funKp (s344 D n) D n 344 Tryz.f344 (ms h344) := by kernel_rfl
theorem f344_ok {D : Dyn} (hD : DP D) (n : Nat) : FP 344 (f344 D n) := fun_okP X_ok hD (SP.cons (f338_ok hD n) (SP.cons (f339_ok hD n) (SP.cons (f402_ok hD n) (SP.cons (f343_ok hD n) (SP.cons (f249_ok hD n) (SP.nil)))))) Tryz.func344 (by kernel_rfl) (by kernel_rfl) (f344_eq D n)
attribute [local irreducible] f344

def s345 (D : Dyn) (n : Nat) : Tb := ⟨X, [(403, f403 D n)]⟩
def h345 : Hint := (.s .o (.s (.s .o (.cl (.s .o .o) .o)) (.s .o (.s .o .o))))
def f345 (D : Dyn) (n : Nat) := (⟨_, by conv => rhs; reduce⟩ : {g // g = fun vs H => funS (s345 D n) D n 345 Tryz.f345 h345 [] vs H}).1
theorem f345_eq (D : Dyn) (n : Nat) : f345 D n = funKp (s345 D n) D n 345 Tryz.f345 (ms h345) := by kernel_rfl
theorem f345_ok {D : Dyn} (hD : DP D) (n : Nat) : FP 345 (f345 D n) := fun_okP X_ok hD (SP.cons (f403_ok hD n) (SP.nil)) Tryz.func345 (by kernel_rfl) (by kernel_rfl) (f345_eq D n)
attribute [local irreducible] f345

def s294 (D : Dyn) (n : Nat) : Tb := ⟨X, [(293, f293 D n), (72, f72 D n), (128, f128 D n), (344, f344 D n), (345, f345 D n)]⟩
def h294 : Hint := (.s .o (.s (.b [10,1023] .o) (.s (.c [4,15,5,31,18,262143] (.l [0,1,2,3,6,7,8,9,10,11,12,13,14,15,16,17,4,5,18,19] .o) .o) (.s (.b [16,65535] .o) .o))))
def f294 (D : Dyn) (n : Nat) := (⟨_, by conv => rhs; reduce⟩ : {g // g = fun vs H => funS (s294 D n) D n 294 Tryz.f294 h294 [] vs H}).1
theorem f294_eq (D : Dyn) (n : Nat) : f294 D n = funKp (s294 D n) D n 294 Tryz.f294 (ms h294) := by kernel_rfl
theorem f294_ok {D : Dyn} (hD : DP D) (n : Nat) : FP 294 (f294 D n) := fun_okP X_ok hD (SP.cons (f293_ok hD n) (SP.cons (f72_ok hD n) (SP.cons (f128_ok hD n) (SP.cons (f344_ok hD n) (SP.cons (f345_ok hD n) (SP.nil)))))) Tryz.func294 (by kernel_rfl) (by kernel_rfl) (f294_eq D n)
attribute [local irreducible] f294

def s232 (D : Dyn) (n : Nat) : Tb := ⟨X, [(72, f72 D n), (290, f290 D n), (73, f73 D n), (294, f294 D n), (295, f295 D n), (230, f230 D n), (27, f27 D n)]⟩
def h232 : Hint := (.s .o (.s .o (.s (.s .o (.c [1,0,1,4,5] (.s .o (.s .o (.s .o (.s .o (.cl (.s .o .o) .o))))) .o)) (.s (.c [1,1,6,63] (.l [0,2,3,4,5,1,6,7,8] .o) .o) (.s .o (.s .o (.s (.s .o (.c [0,0,1,4,5,8,9,10] (.c [1,1,6,63] (.l [0,2,3,4,5,1,6,7,8] .o) .o) .o)) (.s (.s .o (.cl (.s .o .o) .o)) (.s .o (.s .o (.s (.s .o (.cl (.s .o .o) .o)) .o)))))))))))
def f232j0 (D : Dyn) (n : Nat) := (⟨_, by conv => rhs; reduce⟩ : {g // some g = prtF (s232 D n) D n 232 Tryz.f232 h232 [] 0}).1
attribute [local irreducible] f232j0
def f232j1 (D : Dyn) (n : Nat) := (⟨_, by conv => rhs; reduce⟩ : {g // some g = prtF (s232 D n) D n 232 Tryz.f232 h232 [f232j0 D n] 1}).1
attribute [local irreducible] f232j1
def f232 (D : Dyn) (n : Nat) := (⟨_, by conv => rhs; reduce⟩ : {g // g = fun vs H => funS (s232 D n) D n 232 Tryz.f232 h232 [f232j0 D n, f232j1 D n] vs H}).1
theorem f232_eq (D : Dyn) (n : Nat) : f232 D n = funKp (s232 D n) D n 232 Tryz.f232 (ms h232) := by kernel_rfl
theorem f232_ok {D : Dyn} (hD : DP D) (n : Nat) : FP 232 (f232 D n) := fun_okP X_ok hD (SP.cons (f72_ok hD n) (SP.cons (f290_ok hD n) (SP.cons (f73_ok hD n) (SP.cons (f294_ok hD n) (SP.cons (f295_ok hD n) (SP.cons (f230_ok hD n) (SP.cons (f27_ok hD n) (SP.nil)))))))) Tryz.func232 (by kernel_rfl) (by kernel_rfl) (f232_eq D n)
attribute [local irreducible] f232

def s233 (D : Dyn) (n : Nat) : Tb := ⟨X, [(229, f229 D n)]⟩
def h233 : Hint := (.s .o (.s (.s .o (.cl (.s .o .o) .o)) (.s .o (.s (.s .o (.cl (.s .o .o) .o)) (.s (.s .o (.cl (.s .o .o) .o)) (.s .o (.s (.s .o (.c [0] .o .o)) (.s .o .o))))))))
def f233j0 (D : Dyn) (n : Nat) := (⟨_, by conv => rhs; reduce⟩ : {g // some g = prtF (s233 D n) D n 233 Tryz.f233 h233 [] 0}).1
attribute [local irreducible] f233j0
def f233 (D : Dyn) (n : Nat) := (⟨_, by conv => rhs; reduce⟩ : {g // g = fun vs H => funS (s233 D n) D n 233 Tryz.f233 h233 [f233j0 D n] vs H}).1
theorem f233_eq (D : Dyn) (n : Nat) : f233 D n = funKp (s233 D n) D n 233 Tryz.f233 (ms h233) := by kernel_rfl
theorem f233_ok {D : Dyn} (hD : DP D) (n : Nat) : FP 233 (f233 D n) := fun_okP X_ok hD (SP.cons (f229_ok hD n) (SP.nil)) Tryz.func233 (by kernel_rfl) (by kernel_rfl) (f233_eq D n)
attribute [local irreducible] f233

def s157 (D : Dyn) (n : Nat) : Tb := ⟨X, [(220, f220 D n), (230, f230 D n), (147, f147 D n), (231, f231 D n), (232, f232 D n), (84, f84 D n), (233, f233 D n)]⟩
def h157 : Hint := (.s .o (.s (.b0 (.s (.b [9,511] .o) (.c [3,0,1] (.s .o (.s (.b [9,511] .o) (.c [0,0,1] .o .o))) (.s .o (.c [1,0,1] .o .o))))) (.s .o (.c [2] (.b [9,511] .o) .o))))
def f157j0 (D : Dyn) (n : Nat) := (⟨_, by conv => rhs; reduce⟩ : {g // some g = prtF (s157 D n) D n 157 Tryz.f157 h157 [] 0}).1
attribute [local irreducible] f157j0
def f157j1 (D : Dyn) (n : Nat) := (⟨_, by conv => rhs; reduce⟩ : {g // some g = prtF (s157 D n) D n 157 Tryz.f157 h157 [f157j0 D n] 1}).1
attribute [local irreducible] f157j1
def f157j2 (D : Dyn) (n : Nat) := (⟨_, by conv => rhs; reduce⟩ : {g // some g = prtF (s157 D n) D n 157 Tryz.f157 h157 [f157j0 D n, f157j1 D n] 2}).1
attribute [local irreducible] f157j2
def f157j3 (D : Dyn) (n : Nat) := (⟨_, by conv => rhs; reduce⟩ : {g // some g = prtF (s157 D n) D n 157 Tryz.f157 h157 [f157j0 D n, f157j1 D n, f157j2 D n] 3}).1
attribute [local irreducible] f157j3
def f157 (D : Dyn) (n : Nat) := (⟨_, by conv => rhs; reduce⟩ : {g // g = fun vs H => funS (s157 D n) D n 157 Tryz.f157 h157 [f157j0 D n, f157j1 D n, f157j2 D n, f157j3 D n] vs H}).1
theorem f157_eq (D : Dyn) (n : Nat) : f157 D n = funKp (s157 D n) D n 157 Tryz.f157 (ms h157) := by kernel_rfl
theorem f157_ok {D : Dyn} (hD : DP D) (n : Nat) : FP 157 (f157 D n) := fun_okP X_ok hD (SP.cons (f220_ok hD n) (SP.cons (f230_ok hD n) (SP.cons (f147_ok hD n) (SP.cons (f231_ok hD n) (SP.cons (f232_ok hD n) (SP.cons (f84_ok hD n) (SP.cons (f233_ok hD n) (SP.nil)))))))) Tryz.func157 (by kernel_rfl) (by kernel_rfl) (f157_eq D n)
attribute [local irreducible] f157

def s234 (D : Dyn) (n : Nat) : Tb := ⟨X, [(71, f71 D n), (72, f72 D n), (73, f73 D n), (128, f128 D n), (295, f295 D n), (296, f296 D n), (297, f297 D n)]⟩
def h234 : Hint := (.s .o (.s (.s .o (.cl (.s .o .o) .o)) (.s (.s .o (.cl (.s .o .o) .o)) (.s .o (.s .o (.s (.s .o (.s .o (.cl (.s .o (.s .o .o)) .o))) (.s (.s .o (.b [1] (.l [0,1,38,39,40] (.s .o (.s (.cr .o .o) (.s (.b0 (.s .o .o)) .o)))))) (.s .o .o))))))))
def f234l0 (D : Dyn) (n : Nat) := (⟨_, by conv => rhs; reduce⟩ : {g // some g = prtF (s234 D n) D n 234 Tryz.f234 h234 [] 0}).1
attribute [local irreducible] f234l0
def f234b1 (D : Dyn) (n : Nat) := (⟨_, by conv => rhs; reduce⟩ : {g // some g = prtF (s234 D n) D n 234 Tryz.f234 h234 [f234l0 D n] 1}).1
attribute [local irreducible] f234b1
def f234 (D : Dyn) (n : Nat) := (⟨_, by conv => rhs; reduce⟩ : {g // g = fun vs H => funS (s234 D n) D n 234 Tryz.f234 h234 [f234l0 D n, f234b1 D n] vs H}).1
theorem f234_eq (D : Dyn) (n : Nat) : f234 D n = funKp (s234 D n) D n 234 Tryz.f234 (ms h234) := by kernel_rfl
theorem f234_ok {D : Dyn} (hD : DP D) (n : Nat) : FP 234 (f234 D n) := fun_okP X_ok hD (SP.cons (f71_ok hD n) (SP.cons (f72_ok hD n) (SP.cons (f73_ok hD n) (SP.cons (f128_ok hD n) (SP.cons (f295_ok hD n) (SP.cons (f296_ok hD n) (SP.cons (f297_ok hD n) (SP.nil)))))))) Tryz.func234 (by kernel_rfl) (by kernel_rfl) (f234_eq D n)
attribute [local irreducible] f234

def s235 (D : Dyn) (n : Nat) : Tb := ⟨X, [(228, f228 D n)]⟩
def h235 : Hint := (.s .o (.s (.s .o (.cl (.s .o .o) .o)) (.s .o (.s (.s .o (.b [2,4] (.l [1,0,4,13,14,15] (.s .o (.s (.cr .o .o) (.s (.b0 (.s .o (.s .o (.c [0,0,4,13,14,15] (.s .o .o) .o)))) .o)))))) (.s (.s .o (.cl (.s .o .o) .o)) (.s .o .o))))))
def f235j0 (D : Dyn) (n : Nat) := (⟨_, by conv => rhs; reduce⟩ : {g // some g = prtF (s235 D n) D n 235 Tryz.f235 h235 [] 0}).1
attribute [local irreducible] f235j0
def f235l1 (D : Dyn) (n : Nat) := (⟨_, by conv => rhs; reduce⟩ : {g // some g = prtF (s235 D n) D n 235 Tryz.f235 h235 [f235j0 D n] 1}).1
attribute [local irreducible] f235l1
def f235b2 (D : Dyn) (n : Nat) := (⟨_, by conv => rhs; reduce⟩ : {g // some g = prtF (s235 D n) D n 235 Tryz.f235 h235 [f235j0 D n, f235l1 D n] 2}).1
attribute [local irreducible] f235b2
def f235 (D : Dyn) (n : Nat) := (⟨_, by conv => rhs; reduce⟩ : {g // g = fun vs H => funS (s235 D n) D n 235 Tryz.f235 h235 [f235j0 D n, f235l1 D n, f235b2 D n] vs H}).1
theorem f235_eq (D : Dyn) (n : Nat) : f235 D n = funKp (s235 D n) D n 235 Tryz.f235 (ms h235) := by kernel_rfl
theorem f235_ok {D : Dyn} (hD : DP D) (n : Nat) : FP 235 (f235 D n) := fun_okP X_ok hD (SP.cons (f228_ok hD n) (SP.nil)) Tryz.func235 (by kernel_rfl) (by kernel_rfl) (f235_eq D n)
attribute [local irreducible] f235

def s158 (D : Dyn) (n : Nat) : Tb := ⟨X, [(234, f234 D n), (131, m131 D n), (235, f235 D n)]⟩
def h158 : Hint := (.s (.s (.b [12,4095,19,524287] .o) (.cl (.s .o .o) .o)) (.s .o .o))
def f158 (D : Dyn) (n : Nat) := (⟨_, by conv => rhs; reduce⟩ : {g // g = fun vs H => funS (s158 D n) D n 158 Tryz.f158 h158 [] vs H}).1
theorem f158_eq (D : Dyn) (n : Nat) : f158 D n = funKp (s158 D n) D n 158 Tryz.f158 (ms h158) := by kernel_rfl
theorem f158_ok {D : Dyn} (hD : DP D) (n : Nat) : FP 158 (f158 D n) := fun_okP X_ok hD (SP.cons (f234_ok hD n) (SP.cons (m131_ok hD n) (SP.cons (f235_ok hD n) (SP.nil)))) Tryz.func158 (by kernel_rfl) (by kernel_rfl) (f158_eq D n)
attribute [local irreducible] f158

def s299 (D : Dyn) (n : Nat) : Tb := ⟨X, [(289, f289 D n), (216, f216 D n)]⟩
def h299 : Hint := (.s .o (.s (.s .o (.cl (.s .o .o) .o)) (.s .o (.s (.s .o (.cl (.s .o .o) .o)) (.s (.s .o (.c [0,2] (.b [7,127] .o) .o)) (.s .o (.s .o (.s .o .o))))))))
def f299j0 (D : Dyn) (n : Nat) := (⟨_, by conv => rhs; reduce⟩ : {g // some g = prtF (s299 D n) D n 299 Tryz.f299 h299 [] 0}).1
attribute [local irreducible] f299j0
def f299 (D : Dyn) (n : Nat) := (⟨_, by conv => rhs; reduce⟩ : {g // g = fun vs H => funS (s299 D n) D n 299 Tryz.f299 h299 [f299j0 D n] vs H}).1
theorem f299_eq (D : Dyn) (n : Nat) : f299 D n = funKp (s299 D n) D n 299 Tryz.f299 (ms h299) := by kernel_rfl
theorem f299_ok {D : Dyn} (hD : DP D) (n : Nat) : FP 299 (f299 D n) := fun_okP X_ok hD (SP.cons (f289_ok hD n) (SP.cons (f216_ok hD n) (SP.nil))) Tryz.func299 (by kernel_rfl) (by kernel_rfl) (f299_eq D n)
attribute [local irreducible] f299

def s236 (D : Dyn) (n : Nat) : Tb := ⟨X, [(299, f299 D n)]⟩
def h236 : Hint := (.s .o (.s (.s .o (.cl (.s .o .o) .o)) (.s .o (.s (.s .o (.cl (.s .o .o) .o)) (.s (.s .o (.cl (.s .o .o) .o)) (.s (.s .o (.s .o (.cl (.s .o .o) .o))) (.s .o (.s .o (.s .o .o)))))))))
def f236 (D : Dyn) (n : Nat) := (⟨_, by conv => rhs; reduce⟩ : {g // g = fun vs H => funS (s236 D n) D n 236 Tryz.f236 h236 [] vs H}).1
theorem f236_eq (D : Dyn) (n : Nat) : f236 D n = funKp (s236 D n) D n 236 Tryz.f236 (ms h236) := by kernel_rfl
theorem f236_ok {D : Dyn} (hD : DP D) (n : Nat) : FP 236 (f236 D n) := fun_okP X_ok hD (SP.cons (f299_ok hD n) (SP.nil)) Tryz.func236 (by kernel_rfl) (by kernel_rfl) (f236_eq D n)
attribute [local irreducible] f236

def s159 (D : Dyn) (n : Nat) : Tb := ⟨X, [(86, f86 D n), (236, f236 D n)]⟩
def h159 : Hint := (.s .o (.s (.b [9,511] .o) (.s .o .o)))
def f159 (D : Dyn) (n : Nat) := (⟨_, by conv => rhs; reduce⟩ : {g // g = fun vs H => funS (s159 D n) D n 159 Tryz.f159 h159 [] vs H}).1
theorem f159_eq (D : Dyn) (n : Nat) : f159 D n = funKp (s159 D n) D n 159 Tryz.f159 (ms h159) := by kernel_rfl
theorem f159_ok {D : Dyn} (hD : DP D) (n : Nat) : FP 159 (f159 D n) := fun_okP X_ok hD (SP.cons (f86_ok hD n) (SP.cons (f236_ok hD n) (SP.nil))) Tryz.func159 (by kernel_rfl) (by kernel_rfl) (f159_eq D n)
attribute [local irreducible] f159

def s95 (D : Dyn) (n : Nat) : Tb := ⟨X, []⟩
def h95 : Hint := (.s .o (.s .o .o))
def f95 (D : Dyn) (n : Nat) := (⟨_, by conv => rhs; reduce⟩ : {g // g = fun vs H => funS (s95 D n) D n 95 Tryz.f95 h95 [] vs H}).1
theorem f95_eq (D : Dyn) (n : Nat) : f95 D n = funKp (s95 D n) D n 95 Tryz.f95 (ms h95) := by kernel_rfl
theorem f95_ok {D : Dyn} (hD : DP D) (n : Nat) : FP 95 (f95 D n) := fun_okP X_ok hD (SP.nil) Tryz.func95 (by kernel_rfl) (by kernel_rfl) (f95_eq D n)
attribute [local irreducible] f95

def s96 (D : Dyn) (n : Nat) : Tb := ⟨X, []⟩
def h96 : Hint := (.s .o (.s .o (.s .o (.s .o .o))))
def f96 (D : Dyn) (n : Nat) := (⟨_, by conv => rhs; reduce⟩ : {g // g = fun vs H => funS (s96 D n) D n 96 Tryz.f96 h96 [] vs H}).1
theorem f96_eq (D : Dyn) (n : Nat) : f96 D n = funKp (s96 D n) D n 96 Tryz.f96 (ms h96) := by kernel_rfl
theorem f96_ok {D : Dyn} (hD : DP D) (n : Nat) : FP 96 (f96 D n) := fun_okP X_ok hD (SP.nil) Tryz.func96 (by kernel_rfl) (by kernel_rfl) (f96_eq D n)
attribute [local irreducible] f96

def s52 (D : Dyn) (n : Nat) : Tb := ⟨X, [(84, f84 D n), (97, f97 D n), (95, f95 D n), (96, f96 D n)]⟩
def h52 : Hint := (.s .o (.s (.s .o (.cl (.s .o .o) .o)) (.s (.b [1,0] (.l [0,0] (.s (.s .o (.cr .o .o)) (.b0 (.s .o (.s (.s .o (.cl .o .o)) .o)))))) (.s .o .o))))
def f52l0 (D : Dyn) (n : Nat) := (⟨_, by conv => rhs; reduce⟩ : {g // some g = prtF (s52 D n) D n 52 Tryz.f52 h52 [] 0}).1
attribute [local irreducible] f52l0
def f52b1 (D : Dyn) (n : Nat) := (⟨_, by conv => rhs; reduce⟩ : {g // some g = prtF (s52 D n) D n 52 Tryz.f52 h52 [f52l0 D n] 1}).1
attribute [local irreducible] f52b1
def f52 (D : Dyn) (n : Nat) := (⟨_, by conv => rhs; reduce⟩ : {g // g = fun vs H => funS (s52 D n) D n 52 Tryz.f52 h52 [f52l0 D n, f52b1 D n] vs H}).1
theorem f52_eq (D : Dyn) (n : Nat) : f52 D n = funKp (s52 D n) D n 52 Tryz.f52 (ms h52) := by kernel_rfl
theorem f52_ok {D : Dyn} (hD : DP D) (n : Nat) : FP 52 (f52 D n) := fun_okP X_ok hD (SP.cons (f84_ok hD n) (SP.cons (f97_ok hD n) (SP.cons (f95_ok hD n) (SP.cons (f96_ok hD n) (SP.nil))))) Tryz.func52 (by kernel_rfl) (by kernel_rfl) (f52_eq D n)
attribute [local irreducible] f52

def s50 (D : Dyn) (n : Nat) : Tb := ⟨X, [(80, f80 D n)]⟩
def h50 : Hint := (.s .o (.b [1] (.l [0,0,6,7,8] (.s .o (.s (.cr .o .o) (.s (.b0 (.s .o (.b [9,511] .o))) .o))))))
def f50l0 (D : Dyn) (n : Nat) := (⟨_, by conv => rhs; reduce⟩ : {g // some g = prtF (s50 D n) D n 50 Tryz.f50 h50 [] 0}).1
attribute [local irreducible] f50l0
def f50b1 (D : Dyn) (n : Nat) := (⟨_, by conv => rhs; reduce⟩ : {g // some g = prtF (s50 D n) D n 50 Tryz.f50 h50 [f50l0 D n] 1}).1
attribute [local irreducible] f50b1
def f50 (D : Dyn) (n : Nat) := (⟨_, by conv => rhs; reduce⟩ : {g // g = fun vs H => funS (s50 D n) D n 50 Tryz.f50 h50 [f50l0 D n, f50b1 D n] vs H}).1
theorem f50_eq (D : Dyn) (n : Nat) : f50 D n = funKp (s50 D n) D n 50 Tryz.f50 (ms h50) := by kernel_rfl
theorem f50_ok {D : Dyn} (hD : DP D) (n : Nat) : FP 50 (f50 D n) := fun_okP X_ok hD (SP.cons (f80_ok hD n) (SP.nil)) Tryz.func50 (by kernel_rfl) (by kernel_rfl) (f50_eq D n)
attribute [local irreducible] f50

def s22 (D : Dyn) (n : Nat) : Tb := ⟨X, [(52, f52 D n), (50, f50 D n)]⟩
def h22 : Hint := (.s .o .o)
def f22 (D : Dyn) (n : Nat) := (⟨_, by conv => rhs; reduce⟩ : {g // g = fun vs H => funS (s22 D n) D n 22 Tryz.f22 h22 [] vs H}).1
theorem f22_eq (D : Dyn) (n : Nat) : f22 D n = funKp (s22 D n) D n 22 Tryz.f22 (ms h22) := by kernel_rfl
theorem f22_ok {D : Dyn} (hD : DP D) (n : Nat) : FP 22 (f22 D n) := fun_okP X_ok hD (SP.cons (f52_ok hD n) (SP.cons (f50_ok hD n) (SP.nil))) Tryz.func22 (by kernel_rfl) (by kernel_rfl) (f22_eq D n)
attribute [local irreducible] f22

def s6 (D : Dyn) (n : Nat) : Tb := ⟨X, [(27, f27 D n)]⟩
def h6 : Hint := (.s .o (.s (.s .o (.cl (.s .o .o) .o)) (.s .o (.s (.s .o (.c [1,0] (.b [5,31] .o) .o)) (.s (.s .o (.c [0] .o .o)) (.s .o .o))))))
def f6j0 (D : Dyn) (n : Nat) := (⟨_, by conv => rhs; reduce⟩ : {g // some g = prtF (s6 D n) D n 6 Tryz.f6 h6 [] 0}).1
attribute [local irreducible] f6j0
def f6j1 (D : Dyn) (n : Nat) := (⟨_, by conv => rhs; reduce⟩ : {g // some g = prtF (s6 D n) D n 6 Tryz.f6 h6 [f6j0 D n] 1}).1
attribute [local irreducible] f6j1
def f6 (D : Dyn) (n : Nat) := (⟨_, by conv => rhs; reduce⟩ : {g // g = fun vs H => funS (s6 D n) D n 6 Tryz.f6 h6 [f6j0 D n, f6j1 D n] vs H}).1
theorem f6_eq (D : Dyn) (n : Nat) : f6 D n = funKp (s6 D n) D n 6 Tryz.f6 (ms h6) := by kernel_rfl
theorem f6_ok {D : Dyn} (hD : DP D) (n : Nat) : FP 6 (f6 D n) := fun_okP X_ok hD (SP.cons (f27_ok hD n) (SP.nil)) Tryz.func6 (by kernel_rfl) (by kernel_rfl) (f6_eq D n)
attribute [local irreducible] f6

def s28 (D : Dyn) (n : Nat) : Tb := ⟨X, []⟩
def h28 : Hint := (.s .o (.s (.s .o (.cl (.s .o .o) .o)) (.s .o .o)))
def f28 (D : Dyn) (n : Nat) := (⟨_, by conv => rhs; reduce⟩ : {g // g = fun vs H => funS (s28 D n) D n 28 Tryz.f28 h28 [] vs H}).1
theorem f28_eq (D : Dyn) (n : Nat) : f28 D n = funKp (s28 D n) D n 28 Tryz.f28 (ms h28) := by kernel_rfl
theorem f28_ok {D : Dyn} (hD : DP D) (n : Nat) : FP 28 (f28 D n) := fun_okP X_ok hD (SP.nil) Tryz.func28 (by kernel_rfl) (by kernel_rfl) (f28_eq D n)
attribute [local irreducible] f28

def s29 (D : Dyn) (n : Nat) : Tb := ⟨X, []⟩
def h29 : Hint := (.s .o (.s (.s .o (.cl (.s .o .o) .o)) (.s .o .o)))
def f29 (D : Dyn) (n : Nat) := (⟨_, by conv => rhs; reduce⟩ : {g // g = fun vs H => funS (s29 D n) D n 29 Tryz.f29 h29 [] vs H}).1
theorem f29_eq (D : Dyn) (n : Nat) : f29 D n = funKp (s29 D n) D n 29 Tryz.f29 (ms h29) := by kernel_rfl
theorem f29_ok {D : Dyn} (hD : DP D) (n : Nat) : FP 29 (f29 D n) := fun_okP X_ok hD (SP.nil) Tryz.func29 (by kernel_rfl) (by kernel_rfl) (f29_eq D n)
attribute [local irreducible] f29

def s7 (D : Dyn) (n : Nat) : Tb := ⟨X, [(28, f28 D n), (29, f29 D n)]⟩
def h7 : Hint := (.s .o (.s (.s .o (.cl (.s .o .o) .o)) (.s .o (.s (.s .o (.b [1,3] (.l [0,3,13,14] (.s .o (.s (.cr .o .o) (.s (.b0 (.s .o .o)) .o)))))) (.s .o .o)))))
def f7l0 (D : Dyn) (n : Nat) := (⟨_, by conv => rhs; reduce⟩ : {g // some g = prtF (s7 D n) D n 7 Tryz.f7 h7 [] 0}).1
attribute [local irreducible] f7l0
def f7b1 (D : Dyn) (n : Nat) := (⟨_, by conv => rhs; reduce⟩ : {g // some g = prtF (s7 D n) D n 7 Tryz.f7 h7 [f7l0 D n] 1}).1
attribute [local irreducible] f7b1
def f7 (D : Dyn) (n : Nat) := (⟨_, by conv => rhs; reduce⟩ : {g // g = fun vs H => funS (s7 D n) D n 7 Tryz.f7 h7 [f7l0 D n, f7b1 D n] vs H}).1
theorem f7_eq (D : Dyn) (n : Nat) : f7 D n = funKp (s7 D n) D n 7 Tryz.f7 (ms h7) := by kernel_rfl
theorem f7_ok {D : Dyn} (hD : DP D) (n : Nat) : FP 7 (f7 D n) := fun_okP X_ok hD (SP.cons (f28_ok hD n) (SP.cons (f29_ok hD n) (SP.nil))) Tryz.func7 (by kernel_rfl) (by kernel_rfl) (f7_eq D n)
attribute [local irreducible] f7

def s5 (D : Dyn) (n : Nat) : Tb := ⟨X, [(4, f4 D n), (6, f6 D n), (7, f7 D n)]⟩
def h5 : Hint := (.s .o (.s .o (.s (.s .o (.cl (.s .o .o) .o)) (.s (.s .o (.b [1,10] (.l [0,10,24,25,26] (.s .o (.s (.cr .o .o) (.s (.b0 (.s .o .o)) .o)))))) (.s .o .o)))))
def f5l0 (D : Dyn) (n : Nat) := (⟨_, by conv => rhs; reduce⟩ : {g // some g = prtF (s5 D n) D n 5 Tryz.f5 h5 [] 0}).1
attribute [local irreducible] f5l0
def f5b1 (D : Dyn) (n : Nat) := (⟨_, by conv => rhs; reduce⟩ : {g // some g = prtF (s5 D n) D n 5 Tryz.f5 h5 [f5l0 D n] 1}).1
attribute [local irreducible] f5b1
def f5 (D : Dyn) (n : Nat) := (⟨_, by conv => rhs; reduce⟩ : {g // g = fun vs H => funS (s5 D n) D n 5 Tryz.f5 h5 [f5l0 D n, f5b1 D n] vs H}).1
theorem f5_eq (D : Dyn) (n : Nat) : f5 D n = funKp (s5 D n) D n 5 Tryz.f5 (ms h5) := by kernel_rfl
theorem f5_ok {D : Dyn} (hD : DP D) (n : Nat) : FP 5 (f5 D n) := fun_okP X_ok hD (SP.cons (f4_ok hD n) (SP.cons (f6_ok hD n) (SP.cons (f7_ok hD n) (SP.nil)))) Tryz.func5 (by kernel_rfl) (by kernel_rfl) (f5_eq D n)
attribute [local irreducible] f5

def s57 (D : Dyn) (n : Nat) : Tb := ⟨X, []⟩
def h57 : Hint := (.s .o (.s (.s .o (.cl (.s .o .o) .o)) (.s .o .o)))
def f57 (D : Dyn) (n : Nat) := (⟨_, by conv => rhs; reduce⟩ : {g // g = fun vs H => funS (s57 D n) D n 57 Tryz.f57 h57 [] vs H}).1
theorem f57_eq (D : Dyn) (n : Nat) : f57 D n = funKp (s57 D n) D n 57 Tryz.f57 (ms h57) := by kernel_rfl
theorem f57_ok {D : Dyn} (hD : DP D) (n : Nat) : FP 57 (f57 D n) := fun_okP X_ok hD (SP.nil) Tryz.func57 (by kernel_rfl) (by kernel_rfl) (f57_eq D n)
attribute [local irreducible] f57

def s30 (D : Dyn) (n : Nat) : Tb := ⟨X, [(57, f57 D n)]⟩
def h30 : Hint := (.s .o (.s (.s .o (.cl (.s .o .o) .o)) (.s .o .o)))
def f30 (D : Dyn) (n : Nat) := (⟨_, by conv => rhs; reduce⟩ : {g // g = fun vs H => funS (s30 D n) D n 30 Tryz.f30 h30 [] vs H}).1
theorem f30_eq (D : Dyn) (n : Nat) : f30 D n = funKp (s30 D n) D n 30 Tryz.f30 (ms h30) := by kernel_rfl
theorem f30_ok {D : Dyn} (hD : DP D) (n : Nat) : FP 30 (f30 D n) := fun_okP X_ok hD (SP.cons (f57_ok hD n) (SP.nil)) Tryz.func30 (by kernel_rfl) (by kernel_rfl) (f30_eq D n)
attribute [local irreducible] f30

def s8 (D : Dyn) (n : Nat) : Tb := ⟨X, [(30, f30 D n)]⟩
def h8 : Hint := (.s .o (.s (.s .o (.cl (.s .o .o) .o)) (.s .o .o)))
def f8 (D : Dyn) (n : Nat) := (⟨_, by conv => rhs; reduce⟩ : {g // g = fun vs H => funS (s8 D n) D n 8 Tryz.f8 h8 [] vs H}).1
theorem f8_eq (D : Dyn) (n : Nat) : f8 D n = funKp (s8 D n) D n 8 Tryz.f8 (ms h8) := by kernel_rfl
theorem f8_ok {D : Dyn} (hD : DP D) (n : Nat) : FP 8 (f8 D n) := fun_okP X_ok hD (SP.cons (f30_ok hD n) (SP.nil)) Tryz.func8 (by kernel_rfl) (by kernel_rfl) (f8_eq D n)
attribute [local irreducible] f8

def s9 (D : Dyn) (n : Nat) : Tb := ⟨X, []⟩
def h9 : Hint := (.s .o (.s (.s .o (.cl (.s .o .o) .o)) (.s .o .o)))
def f9 (D : Dyn) (n : Nat) := (⟨_, by conv => rhs; reduce⟩ : {g // g = fun vs H => funS (s9 D n) D n 9 Tryz.f9 h9 [] vs H}).1
theorem f9_eq (D : Dyn) (n : Nat) : f9 D n = funKp (s9 D n) D n 9 Tryz.f9 (ms h9) := by kernel_rfl
theorem f9_ok {D : Dyn} (hD : DP D) (n : Nat) : FP 9 (f9 D n) := fun_okP X_ok hD (SP.nil) Tryz.func9 (by kernel_rfl) (by kernel_rfl) (f9_eq D n)
attribute [local irreducible] f9

def s32 (D : Dyn) (n : Nat) : Tb := ⟨X, []⟩
def h32 : Hint := (.s .o (.s .o .o))
def f32 (D : Dyn) (n : Nat) := (⟨_, by conv => rhs; reduce⟩ : {g // g = fun vs H => funS (s32 D n) D n 32 Tryz.f32 h32 [] vs H}).1
theorem f32_eq (D : Dyn) (n : Nat) : f32 D n = funKp (s32 D n) D n 32 Tryz.f32 (ms h32) := by kernel_rfl
theorem f32_ok {D : Dyn} (hD : DP D) (n : Nat) : FP 32 (f32 D n) := fun_okP X_ok hD (SP.nil) Tryz.func32 (by kernel_rfl) (by kernel_rfl) (f32_eq D n)
attribute [local irreducible] f32

def s31 (D : Dyn) (n : Nat) : Tb := ⟨X, []⟩
def h31 : Hint := (.s .o (.s .o .o))
def f31 (D : Dyn) (n : Nat) := (⟨_, by conv => rhs; reduce⟩ : {g // g = fun vs H => funS (s31 D n) D n 31 Tryz.f31 h31 [] vs H}).1
theorem f31_eq (D : Dyn) (n : Nat) : f31 D n = funKp (s31 D n) D n 31 Tryz.f31 (ms h31) := by kernel_rfl
theorem f31_ok {D : Dyn} (hD : DP D) (n : Nat) : FP 31 (f31 D n) := fun_okP X_ok hD (SP.nil) Tryz.func31 (by kernel_rfl) (by kernel_rfl) (f31_eq D n)
attribute [local irreducible] f31

def s10 (D : Dyn) (n : Nat) : Tb := ⟨X, [(32, f32 D n), (31, f31 D n), (5, f5 D n)]⟩
def h10 : Hint := (.s .o (.s .o (.s .o (.s .o (.s .o (.s .o .o))))))
def f10 (D : Dyn) (n : Nat) := (⟨_, by conv => rhs; reduce⟩ : {g // g = fun vs H => funS (s10 D n) D n 10 Tryz.f10 h10 [] vs H}).1
theorem f10_eq (D : Dyn) (n : Nat) : f10 D n = funKp (s10 D n) D n 10 Tryz.f10 (ms h10) := by kernel_rfl
theorem f10_ok {D : Dyn} (hD : DP D) (n : Nat) : FP 10 (f10 D n) := fun_okP X_ok hD (SP.cons (f32_ok hD n) (SP.cons (f31_ok hD n) (SP.cons (f5_ok hD n) (SP.nil)))) Tryz.func10 (by kernel_rfl) (by kernel_rfl) (f10_eq D n)
attribute [local irreducible] f10

def s3 (D : Dyn) (n : Nat) : Tb := ⟨X, [(4, f4 D n), (5, f5 D n), (6, f6 D n), (7, f7 D n), (8, f8 D n), (9, f9 D n), (10, f10 D n)]⟩
def h3 : Hint := (.s .o (.s .o (.s .o (.s .o (.s .o (.s .o (.s .o (.s .o (.s (.s .o (.cl (.s .o .o) .o)) (.s .o (.s .o (.s .o (.s .o .o)))))))))))))
def f3 (D : Dyn) (n : Nat) := (⟨_, by conv => rhs; reduce⟩ : {g // g = fun vs H => funS (s3 D n) D n 3 Tryz.f3 h3 [] vs H}).1
theorem f3_eq (D : Dyn) (n : Nat) : f3 D n = funKp (s3 D n) D n 3 Tryz.f3 (ms h3) := by kernel_rfl
theorem f3_ok {D : Dyn} (hD : DP D) (n : Nat) : FP 3 (f3 D n) := fun_okP X_ok hD (SP.cons (f4_ok hD n) (SP.cons (f5_ok hD n) (SP.cons (f6_ok hD n) (SP.cons (f7_ok hD n) (SP.cons (f8_ok hD n) (SP.cons (f9_ok hD n) (SP.cons (f10_ok hD n) (SP.nil)))))))) Tryz.func3 (by kernel_rfl) (by kernel_rfl) (f3_eq D n)
attribute [local irreducible] f3
end Go.Eng.Sh
