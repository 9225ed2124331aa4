/- Shallow functions, by program (gent4.py). -/
import Derived.Test.YtnjljebicihpaaaGreatDoorWX6
import Derived.Test.YtnjljebicihpaaaGreatDoorProg
import Derived.KernelRfl
noncomputable section
namespace Go.Eng.Sh
open Go.Proofs
set_option maxRecDepth 100000
set_option maxHeartbeats 4000000
set_option linter.all false
attribute [local irreducible] bV bR hd cnd jn jb loopK wnt chk newB bA bInt bStr bBool cmpO eqP eqS eqM eqF eqPL cvI cvSS slStr slArr ixArr ixSl ixStr fAd lnStr lnSl lnMap pk3 s2a bxV lkM upM dlM mkM callV nl outR tld endQ beginK endR endLp jmpK rfC mn2 mx2 aun pExtract pNil undefA isW aveq ldNp ld1p stNp cvBSp cvSBp slSlp ixAg1p ixAgNp fd1p fdNp apPp apZp cpyp bldSp bldAp bldLp mkSlp eqAp clSp bC pnK ifNil asrK noPan mkR clM acap mtp358_0 mtp295_0 mtp297_0 f33 f11 f98 f102 f58 f161l0 f161b1 f161 f167l0 f167b1 f167 f162 f103 f163 f104 f210 f141l0 f141b1 f141 f164 f105 f165l0 f165b1 f165 m165 f106 f59 f60 f34j0 f34l1 f34b2 f34 f166 f107 f266 f267 f237 f168 f109 f169 f108 f61 f110 f62l0 f62b1 f62 f35 f111 f112 f114 f170 f113l0 f113b1 f113 f115 f240 f369 f422 f425j0 f425 f421j0 f421j1 f421j2 f421j3 f421 f424j0 f424j1 f424 f370j0 f370j1 f370 f350 f407 f351 f318 f300j0 f300j1 f300j2 f300 f352 f365 f364l0 f364l1 f364b2 f364l3 f364b4 f364b5 f364 f409l0 f409l1 f409b2 f409b3 f409 f356 f408 f353 f355 f301l0 f301b1 f301l2 f301b3 f301j4 f301 f241 f242 f185 f183 f238l0 f238b1 f238 r238_0 f171 f116 r116_0 f63j0 f63 f119 f65 f66 f64l0 f64b1 f64l2 f64b3 f64 f67 f120 f175 m121 f121 f176 f177 f178 f179 f180j0 f180 f181 f122 f68j0 f68l1 f68b2 f68 f36l0 f36b1 f36 f71 f126 f72 f184 m184 f127 f73 f128 f302j0 f302j1 rc302 f243 f186 f303 f357l0 f357b1 f357 f304 f305j0 f305l1 f305b2 f305 f244l0 f244b1 f244 f191j0 f191 f188 f306 f307 f308 f245l0 f245b1 f245 f190j0 f190 f309 f310 f246l0 f246b1 f246 f359 f358j0 f358l1 f358b2 f358 f411l0 f411b1 f411 f414l0 f414b1 f414 f363j0 f363j1 f363 f362 f360j0 f360j1 f360 f311 f366 m366 f313 f312 f249 f194 f192 f247l0 f247b1 f247 f248 f193 f195 f187j0 f187 f129 f314l0 f314b1 f314 f250l0 f250b1 f250 f197j0 f197 f196j0 f196 f130 f253 f316 f417 f367j0 f367l1 f367b2 f367j3 f367 f426l0 f426b1 f426 f371 f419l0 f419b1 f419 r419_0 f420 f368 f317l0 f317j1 f317b2 f317 f239 f261j0 f261 f254l0 f254b1 f254l2 f254b3 f254j4 f254 f255 f319 r319_0 f257j0 f257 f199j0 f199l1 f199l2 f199b3 f199b4 f199 f258 f201 f259l0 f259b1 f259 f260 f202 f200 m131 f131l0 f131j1 f131l2 f131b3 f131b4 f131j5 f131 f131j5q f131q
def s74 (D : Dyn) (n : Nat) : Tb := ⟨X, [(72, f72 D n), (128, f128 D n), (129, f129 D n), (130, f130 D n), (131, m131 D n)]⟩
def h74 : Hint := (.s .o (.s .o (.s (.s .o (.s .o (.cl (.s .o .o) .o))) (.s .o (.s (.s .o (.cl (.s .o .o) .o)) (.s .o .o))))))
def f74 (D : Dyn) (n : Nat) := (⟨_, by conv => rhs; reduce⟩ : {g // g = fun vs H => funS (s74 D n) D n 74 Tryz.f74 h74 [] vs H}).1
theorem f74_eq (D : Dyn) (n : Nat) : f74 D n = funKp (s74 D n) D n 74 Tryz.f74 (ms h74) := by kernel_rfl
theorem f74_ok {D : Dyn} (hD : DP D) (n : Nat) : FP 74 (f74 D n) := fun_okP X_ok hD (SP.cons (f72_ok hD n) (SP.cons (f128_ok hD n) (SP.cons (f129_ok hD n) (SP.cons (f130_ok hD n) (SP.cons (m131_ok hD n) (SP.nil)))))) Tryz.func74 (by kernel_rfl) (by kernel_rfl) (f74_eq D n)
attribute [local irreducible] f74

def s37 (D : Dyn) (n : Nat) : Tb := ⟨X, [(71, f71 D n), (72, f72 D n), (73, f73 D n), (74, f74 D n)]⟩
def h37 : Hint := (.s .o (.s (.s .o (.cl (.s .o .o) .o)) (.s (.s .o (.cl (.s .o .o) .o)) (.s .o (.s .o (.s .o (.s (.s .o (.cl (.s .o (.s .o .o)) .o)) (.s .o .o))))))))
def f37 (D : Dyn) (n : Nat) := (⟨_, by conv => rhs; reduce⟩ : {g // g = fun vs H => funS (s37 D n) D n 37 Tryz.f37 h37 [] vs H}).1
theorem f37_eq (D : Dyn) (n : Nat) : f37 D n = funKp (s37 D n) D n 37 Tryz.f37 (ms h37) := by kernel_rfl
theorem f37_ok {D : Dyn} (hD : DP D) (n : Nat) : FP 37 (f37 D n) := fun_okP X_ok hD (SP.cons (f71_ok hD n) (SP.cons (f72_ok hD n) (SP.cons (f73_ok hD n) (SP.cons (f74_ok hD n) (SP.nil))))) Tryz.func37 (by kernel_rfl) (by kernel_rfl) (f37_eq D n)
attribute [local irreducible] f37

def s38 (D : Dyn) (n : Nat) : Tb := ⟨X, []⟩
def h38 : Hint := (.s .o (.s .o .o))
def f38 (D : Dyn) (n : Nat) := (⟨_, by conv => rhs; reduce⟩ : {g // g = fun vs H => funS (s38 D n) D n 38 Tryz.f38 h38 [] vs H}).1
theorem f38_eq (D : Dyn) (n : Nat) : f38 D n = funKp (s38 D n) D n 38 Tryz.f38 (ms h38) := by kernel_rfl
theorem f38_ok {D : Dyn} (hD : DP D) (n : Nat) : FP 38 (f38 D n) := fun_okP X_ok hD (SP.nil) Tryz.func38 (by kernel_rfl) (by kernel_rfl) (f38_eq D n)
attribute [local irreducible] f38

def s76 (D : Dyn) (n : Nat) : Tb := ⟨X, []⟩
def h76 : Hint := (.s .o (.s .o .o))
def f76 (D : Dyn) (n : Nat) := (⟨_, by conv => rhs; reduce⟩ : {g // g = fun vs H => funS (s76 D n) D n 76 Tryz.f76 h76 [] vs H}).1
theorem f76_eq (D : Dyn) (n : Nat) : f76 D n = funKp (s76 D n) D n 76 Tryz.f76 (ms h76) := by kernel_rfl
theorem f76_ok {D : Dyn} (hD : DP D) (n : Nat) : FP 76 (f76 D n) := fun_okP X_ok hD (SP.nil) Tryz.func76 (by kernel_rfl) (by kernel_rfl) (f76_eq D n)
attribute [local irreducible] f76

def s39 (D : Dyn) (n : Nat) : Tb := ⟨X, [(76, f76 D n)]⟩
def h39 : Hint := (.s .o (.s .o .o))
def f39 (D : Dyn) (n : Nat) := (⟨_, by conv => rhs; reduce⟩ : {g // g = fun vs H => funS (s39 D n) D n 39 Tryz.f39 h39 [] vs H}).1
theorem f39_eq (D : Dyn) (n : Nat) : f39 D n = funKp (s39 D n) D n 39 Tryz.f39 (ms h39) := by kernel_rfl
theorem f39_ok {D : Dyn} (hD : DP D) (n : Nat) : FP 39 (f39 D n) := fun_okP X_ok hD (SP.cons (f76_ok hD n) (SP.nil)) Tryz.func39 (by kernel_rfl) (by kernel_rfl) (f39_eq D n)
attribute [local irreducible] f39

def s12 (D : Dyn) (n : Nat) : Tb := ⟨X, [(34, f34 D n), (35, f35 D n), (36, f36 D n), (37, f37 D n), (38, f38 D n), (39, f39 D n)]⟩
def h12 : Hint := (.s .o (.s (.s .o (.cl (.s .o .o) .o)) (.s (.s .o (.cl (.s .o .o) .o)) (.s (.s .o (.s .o (.c [0,0,1] (.s .o (.s .o (.cl (.s .o .o) .o))) .o))) (.s .o (.s (.s .o (.cl (.s .o .o) .o)) (.s .o (.s (.s .o (.cl (.s .o .o) .o)) (.s .o .o)))))))))
def f12j0 (D : Dyn) (n : Nat) := (⟨_, by conv => rhs; reduce⟩ : {g // some g = prtF (s12 D n) D n 12 Tryz.f12 h12 [] 0}).1
attribute [local irreducible] f12j0
def f12 (D : Dyn) (n : Nat) := (⟨_, by conv => rhs; reduce⟩ : {g // g = fun vs H => funS (s12 D n) D n 12 Tryz.f12 h12 [f12j0 D n] vs H}).1
theorem f12_eq (D : Dyn) (n : Nat) : f12 D n = funKp (s12 D n) D n 12 Tryz.f12 (ms h12) := by kernel_rfl
theorem f12_ok {D : Dyn} (hD : DP D) (n : Nat) : FP 12 (f12 D n) := fun_okP X_ok hD (SP.cons (f34_ok hD n) (SP.cons (f35_ok hD n) (SP.cons (f36_ok hD n) (SP.cons (f37_ok hD n) (SP.cons (f38_ok hD n) (SP.cons (f39_ok hD n) (SP.nil))))))) Tryz.func12 (by kernel_rfl) (by kernel_rfl) (f12_eq D n)
attribute [local irreducible] f12

def s13 (D : Dyn) (n : Nat) : Tb := ⟨X, []⟩
def h13 : Hint := (.s .o (.s .o .o))
def f13 (D : Dyn) (n : Nat) := (⟨_, by conv => rhs; reduce⟩ : {g // g = fun vs H => funS (s13 D n) D n 13 Tryz.f13 h13 [] vs H}).1
theorem f13_eq (D : Dyn) (n : Nat) : f13 D n = funKp (s13 D n) D n 13 Tryz.f13 (ms h13) := by kernel_rfl
theorem f13_ok {D : Dyn} (hD : DP D) (n : Nat) : FP 13 (f13 D n) := fun_okP X_ok hD (SP.nil) Tryz.func13 (by kernel_rfl) (by kernel_rfl) (f13_eq D n)
attribute [local irreducible] f13

def s40 (D : Dyn) (n : Nat) : Tb := ⟨X, []⟩
def h40 : Hint := (.s .o (.s .o .o))
def f40 (D : Dyn) (n : Nat) := (⟨_, by conv => rhs; reduce⟩ : {g // g = fun vs H => funS (s40 D n) D n 40 Tryz.f40 h40 [] vs H}).1
theorem f40_eq (D : Dyn) (n : Nat) : f40 D n = funKp (s40 D n) D n 40 Tryz.f40 (ms h40) := by kernel_rfl
theorem f40_ok {D : Dyn} (hD : DP D) (n : Nat) : FP 40 (f40 D n) := fun_okP X_ok hD (SP.nil) Tryz.func40 (by kernel_rfl) (by kernel_rfl) (f40_eq D n)
attribute [local irreducible] f40

def s14 (D : Dyn) (n : Nat) : Tb := ⟨X, [(40, f40 D n)]⟩
def h14 : Hint := (.s .o (.s (.s .o (.cl (.s .o .o) .o)) (.s .o .o)))
def f14 (D : Dyn) (n : Nat) := (⟨_, by conv => rhs; reduce⟩ : {g // g = fun vs H => funS (s14 D n) D n 14 Tryz.f14 h14 [] vs H}).1
theorem f14_eq (D : Dyn) (n : Nat) : f14 D n = funKp (s14 D n) D n 14 Tryz.f14 (ms h14) := by kernel_rfl
theorem f14_ok {D : Dyn} (hD : DP D) (n : Nat) : FP 14 (f14 D n) := fun_okP X_ok hD (SP.cons (f40_ok hD n) (SP.nil)) Tryz.func14 (by kernel_rfl) (by kernel_rfl) (f14_eq D n)
attribute [local irreducible] f14

def s4 (D : Dyn) (n : Nat) : Tb := ⟨X, [(11, f11 D n), (12, f12 D n), (13, f13 D n), (14, f14 D n)]⟩
def h4 : Hint := (.s .o (.s (.s .o (.cl (.s .o .o) .o)) (.s .o (.s (.s .o (.cl (.s .o .o) .o)) (.s .o (.s (.s .o (.cl (.s .o .o) .o)) (.s .o (.s (.s .o (.b [1,11] (.l [0,11,44,45] (.s .o (.s (.cr .o .o) (.s (.b0 (.s .o (.s .o (.s (.s .o (.cl (.s .o .o) .o)) .o)))) .o)))))) (.s .o .o)))))))))
def f4l0 (D : Dyn) (n : Nat) := (⟨_, by conv => rhs; reduce⟩ : {g // some g = prtF (s4 D n) D n 4 Tryz.f4 h4 [] 0}).1
attribute [local irreducible] f4l0
def f4b1 (D : Dyn) (n : Nat) := (⟨_, by conv => rhs; reduce⟩ : {g // some g = prtF (s4 D n) D n 4 Tryz.f4 h4 [f4l0 D n] 1}).1
attribute [local irreducible] f4b1
def f4 (D : Dyn) (n : Nat) := (⟨_, by conv => rhs; reduce⟩ : {g // g = fun vs H => funS (s4 D n) D n 4 Tryz.f4 h4 [f4l0 D n, f4b1 D n] vs H}).1
theorem f4_eq (D : Dyn) (n : Nat) : f4 D n = funKp (s4 D n) D n 4 Tryz.f4 (ms h4) := by kernel_rfl
theorem f4_ok {D : Dyn} (hD : DP D) (n : Nat) : FP 4 (f4 D n) := fun_okP X_ok hD (SP.cons (f11_ok hD n) (SP.cons (f12_ok hD n) (SP.cons (f13_ok hD n) (SP.cons (f14_ok hD n) (SP.nil))))) Tryz.func4 (by kernel_rfl) (by kernel_rfl) (f4_eq D n)
attribute [local irreducible] f4

def s27 (D : Dyn) (n : Nat) : Tb := ⟨X, []⟩
def h27 : Hint := (.s .o (.s .o .o))
def f27 (D : Dyn) (n : Nat) := (⟨_, by conv => rhs; reduce⟩ : {g // g = fun vs H => funS (s27 D n) D n 27 Tryz.f27 h27 [] vs H}).1
theorem f27_eq (D : Dyn) (n : Nat) : f27 D n = funKp (s27 D n) D n 27 Tryz.f27 (ms h27) := by kernel_rfl
theorem f27_ok {D : Dyn} (hD : DP D) (n : Nat) : FP 27 (f27 D n) := fun_okP X_ok hD (SP.nil) Tryz.func27 (by kernel_rfl) (by kernel_rfl) (f27_eq D n)
attribute [local irreducible] f27

def s41 (D : Dyn) (n : Nat) : Tb := ⟨X, []⟩
def h41 : Hint := (.s .o (.s (.s .o (.cl (.s .o .o) .o)) (.s .o .o)))
def f41 (D : Dyn) (n : Nat) := (⟨_, by conv => rhs; reduce⟩ : {g // g = fun vs H => funS (s41 D n) D n 41 Tryz.f41 h41 [] vs H}).1
theorem f41_eq (D : Dyn) (n : Nat) : f41 D n = funKp (s41 D n) D n 41 Tryz.f41 (ms h41) := by kernel_rfl
theorem f41_ok {D : Dyn} (hD : DP D) (n : Nat) : FP 41 (f41 D n) := fun_okP X_ok hD (SP.nil) Tryz.func41 (by kernel_rfl) (by kernel_rfl) (f41_eq D n)
attribute [local irreducible] f41

def s132 (D : Dyn) (n : Nat) : Tb := ⟨X, []⟩
def h132 : Hint := (.s .o (.s .o .o))
def f132 (D : Dyn) (n : Nat) := (⟨_, by conv => rhs; reduce⟩ : {g // g = fun vs H => funS (s132 D n) D n 132 Tryz.f132 h132 [] vs H}).1
theorem f132_eq (D : Dyn) (n : Nat) : f132 D n = funKp (s132 D n) D n 132 Tryz.f132 (ms h132) := by kernel_rfl
theorem f132_ok {D : Dyn} (hD : DP D) (n : Nat) : FP 132 (f132 D n) := fun_okP X_ok hD (SP.nil) Tryz.func132 (by kernel_rfl) (by kernel_rfl) (f132_eq D n)
attribute [local irreducible] f132

def s320 (D : Dyn) (n : Nat) : Tb := ⟨X, []⟩
def h320 : Hint := (.s .o (.s .o (.s (.s .o (.b [1] (.l [0,3,13,14] (.s .o (.s (.cr .o .o) (.s (.b0 (.s .o (.s .o (.cl (.s .o .o) .o)))) .o)))))) (.s .o .o))))
def f320l0 (D : Dyn) (n : Nat) := (⟨_, by conv => rhs; reduce⟩ : {g // some g = prtF (s320 D n) D n 320 Tryz.f320 h320 [] 0}).1
attribute [local irreducible] f320l0
def f320b1 (D : Dyn) (n : Nat) := (⟨_, by conv => rhs; reduce⟩ : {g // some g = prtF (s320 D n) D n 320 Tryz.f320 h320 [f320l0 D n] 1}).1
attribute [local irreducible] f320b1
def f320 (D : Dyn) (n : Nat) := (⟨_, by conv => rhs; reduce⟩ : {g // g = fun vs H => funS (s320 D n) D n 320 Tryz.f320 h320 [f320l0 D n, f320b1 D n] vs H}).1
theorem f320_eq (D : Dyn) (n : Nat) : f320 D n = funKp (s320 D n) D n 320 Tryz.f320 (ms h320) := by kernel_rfl
theorem f320_ok {D : Dyn} (hD : DP D) (n : Nat) : FP 320 (f320 D n) := fun_okP X_ok hD (SP.nil) Tryz.func320 (by kernel_rfl) (by kernel_rfl) (f320_eq D n)
attribute [local irreducible] f320

def s372 (D : Dyn) (n : Nat) : Tb := ⟨X, []⟩
def h372 : Hint := (.s .o (.b [1] (.l [0,0,1,6,7] (.s .o (.s (.cr .o .o) (.s (.b0 (.s .o .o)) .o))))))
def f372l0 (D : Dyn) (n : Nat) := (⟨_, by conv => rhs; reduce⟩ : {g // some g = prtF (s372 D n) D n 372 Tryz.f372 h372 [] 0}).1
attribute [local irreducible] f372l0
def f372b1 (D : Dyn) (n : Nat) := (⟨_, by conv => rhs; reduce⟩ : {g // some g = prtF (s372 D n) D n 372 Tryz.f372 h372 [f372l0 D n] 1}).1
attribute [local irreducible] f372b1
def f372 (D : Dyn) (n : Nat) := (⟨_, by conv => rhs; reduce⟩ : {g // g = fun vs H => funS (s372 D n) D n 372 Tryz.f372 h372 [f372l0 D n, f372b1 D n] vs H}).1
theorem f372_eq (D : Dyn) (n : Nat) : f372 D n = funKp (s372 D n) D n 372 Tryz.f372 (ms h372) := by kernel_rfl
theorem f372_ok {D : Dyn} (hD : DP D) (n : Nat) : FP 372 (f372 D n) := fun_okP X_ok hD (SP.nil) Tryz.func372 (by kernel_rfl) (by kernel_rfl) (f372_eq D n)
attribute [local irreducible] f372

def s373 (D : Dyn) (n : Nat) : Tb := ⟨X, []⟩
def h373 : Hint := (.s .o (.s .o (.s (.s .o (.b [1,3] (.l [0,1,3,5] (.s .o (.s (.cr .o .o) (.s (.b0 (.s .o .o)) .o)))))) (.s .o .o))))
def f373l0 (D : Dyn) (n : Nat) := (⟨_, by conv => rhs; reduce⟩ : {g // some g = prtF (s373 D n) D n 373 Tryz.f373 h373 [] 0}).1
attribute [local irreducible] f373l0
def f373b1 (D : Dyn) (n : Nat) := (⟨_, by conv => rhs; reduce⟩ : {g // some g = prtF (s373 D n) D n 373 Tryz.f373 h373 [f373l0 D n] 1}).1
attribute [local irreducible] f373b1
def f373 (D : Dyn) (n : Nat) := (⟨_, by conv => rhs; reduce⟩ : {g // g = fun vs H => funS (s373 D n) D n 373 Tryz.f373 h373 [f373l0 D n, f373b1 D n] vs H}).1
theorem f373_eq (D : Dyn) (n : Nat) : f373 D n = funKp (s373 D n) D n 373 Tryz.f373 (ms h373) := by kernel_rfl
theorem f373_ok {D : Dyn} (hD : DP D) (n : Nat) : FP 373 (f373 D n) := fun_okP X_ok hD (SP.nil) Tryz.func373 (by kernel_rfl) (by kernel_rfl) (f373_eq D n)
attribute [local irreducible] f373

def s321 (D : Dyn) (n : Nat) : Tb := ⟨X, [(372, f372 D n), (373, f373 D n)]⟩
def h321 : Hint := (.s .o (.s .o (.s (.s .o (.b [1,2,3] (.l [0,2,3,12,13] (.s .o (.s (.cr .o .o) (.s (.b0 (.s .o .o)) .o)))))) (.s (.b [2,2,3,7] .o) (.s .o .o)))))
def f321l0 (D : Dyn) (n : Nat) := (⟨_, by conv => rhs; reduce⟩ : {g // some g = prtF (s321 D n) D n 321 Tryz.f321 h321 [] 0}).1
attribute [local irreducible] f321l0
def f321b1 (D : Dyn) (n : Nat) := (⟨_, by conv => rhs; reduce⟩ : {g // some g = prtF (s321 D n) D n 321 Tryz.f321 h321 [f321l0 D n] 1}).1
attribute [local irreducible] f321b1
def f321 (D : Dyn) (n : Nat) := (⟨_, by conv => rhs; reduce⟩ : {g // g = fun vs H => funS (s321 D n) D n 321 Tryz.f321 h321 [f321l0 D n, f321b1 D n] vs H}).1
theorem f321_eq (D : Dyn) (n : Nat) : f321 D n = funKp (s321 D n) D n 321 Tryz.f321 (ms h321) := by kernel_rfl
theorem f321_ok {D : Dyn} (hD : DP D) (n : Nat) : FP 321 (f321 D n) := fun_okP X_ok hD (SP.cons (f372_ok hD n) (SP.cons (f373_ok hD n) (SP.nil))) Tryz.func321 (by kernel_rfl) (by kernel_rfl) (f321_eq D n)
attribute [local irreducible] f321

def s262 (D : Dyn) (n : Nat) : Tb := ⟨X, [(320, f320 D n), (321, f321 D n)]⟩
def h262 : Hint := (.s .o (.s (.s .o (.cl (.s .o .o) .o)) (.s .o (.s .o .o))))
def f262 (D : Dyn) (n : Nat) := (⟨_, by conv => rhs; reduce⟩ : {g // g = fun vs H => funS (s262 D n) D n 262 Tryz.f262 h262 [] vs H}).1
theorem f262_eq (D : Dyn) (n : Nat) : f262 D n = funKp (s262 D n) D n 262 Tryz.f262 (ms h262) := by kernel_rfl
theorem f262_ok {D : Dyn} (hD : DP D) (n : Nat) : FP 262 (f262 D n) := fun_okP X_ok hD (SP.cons (f320_ok hD n) (SP.cons (f321_ok hD n) (SP.nil))) Tryz.func262 (by kernel_rfl) (by kernel_rfl) (f262_eq D n)
attribute [local irreducible] f262

def s323 (D : Dyn) (n : Nat) : Tb := ⟨X, []⟩
def h323 : Hint := (.s .o (.s .o .o))
def f323 (D : Dyn) (n : Nat) := (⟨_, by conv => rhs; reduce⟩ : {g // g = fun vs H => funS (s323 D n) D n 323 Tryz.f323 h323 [] vs H}).1
theorem f323_eq (D : Dyn) (n : Nat) : f323 D n = funKp (s323 D n) D n 323 Tryz.f323 (ms h323) := by kernel_rfl
theorem f323_ok {D : Dyn} (hD : DP D) (n : Nat) : FP 323 (f323 D n) := fun_okP X_ok hD (SP.nil) Tryz.func323 (by kernel_rfl) (by kernel_rfl) (f323_eq D n)
attribute [local irreducible] f323

def s322 (D : Dyn) (n : Nat) : Tb := ⟨X, [(323, f323 D n)]⟩
def h322 : Hint := (.s .o (.s (.s .o (.b [1,0] (.l [0,0,6,7] (.s .o (.s (.cr .o .o) (.s (.b0 .o) .o)))))) (.s .o .o)))
def f322l0 (D : Dyn) (n : Nat) := (⟨_, by conv => rhs; reduce⟩ : {g // some g = prtF (s322 D n) D n 322 Tryz.f322 h322 [] 0}).1
attribute [local irreducible] f322l0
def f322b1 (D : Dyn) (n : Nat) := (⟨_, by conv => rhs; reduce⟩ : {g // some g = prtF (s322 D n) D n 322 Tryz.f322 h322 [f322l0 D n] 1}).1
attribute [local irreducible] f322b1
def f322 (D : Dyn) (n : Nat) := (⟨_, by conv => rhs; reduce⟩ : {g // g = fun vs H => funS (s322 D n) D n 322 Tryz.f322 h322 [f322l0 D n, f322b1 D n] vs H}).1
theorem f322_eq (D : Dyn) (n : Nat) : f322 D n = funKp (s322 D n) D n 322 Tryz.f322 (ms h322) := by kernel_rfl
theorem f322_ok {D : Dyn} (hD : DP D) (n : Nat) : FP 322 (f322 D n) := fun_okP X_ok hD (SP.cons (f323_ok hD n) (SP.nil)) Tryz.func322 (by kernel_rfl) (by kernel_rfl) (f322_eq D n)
attribute [local irreducible] f322

def s263 (D : Dyn) (n : Nat) : Tb := ⟨X, [(323, f323 D n), (267, f267 D n), (322, f322 D n)]⟩
def h263 : Hint := (.s .o (.s .o .o))
def f263 (D : Dyn) (n : Nat) := (⟨_, by conv => rhs; reduce⟩ : {g // g = fun vs H => funS (s263 D n) D n 263 Tryz.f263 h263 [] vs H}).1
theorem f263_eq (D : Dyn) (n : Nat) : f263 D n = funKp (s263 D n) D n 263 Tryz.f263 (ms h263) := by kernel_rfl
theorem f263_ok {D : Dyn} (hD : DP D) (n : Nat) : FP 263 (f263 D n) := fun_okP X_ok hD (SP.cons (f323_ok hD n) (SP.cons (f267_ok hD n) (SP.cons (f322_ok hD n) (SP.nil)))) Tryz.func263 (by kernel_rfl) (by kernel_rfl) (f263_eq D n)
attribute [local irreducible] f263

def s203 (D : Dyn) (n : Nat) : Tb := ⟨X, [(262, f262 D n), (263, f263 D n)]⟩
def h203 : Hint := (.s .o (.s (.s .o (.cl (.s .o .o) .o)) (.s .o .o)))
def f203 (D : Dyn) (n : Nat) := (⟨_, by conv => rhs; reduce⟩ : {g // g = fun vs H => funS (s203 D n) D n 203 Tryz.f203 h203 [] vs H}).1
theorem f203_eq (D : Dyn) (n : Nat) : f203 D n = funKp (s203 D n) D n 203 Tryz.f203 (ms h203) := by kernel_rfl
theorem f203_ok {D : Dyn} (hD : DP D) (n : Nat) : FP 203 (f203 D n) := fun_okP X_ok hD (SP.cons (f262_ok hD n) (SP.cons (f263_ok hD n) (SP.nil))) Tryz.func203 (by kernel_rfl) (by kernel_rfl) (f203_eq D n)
attribute [local irreducible] f203

def s264 (D : Dyn) (n : Nat) : Tb := ⟨X, [(266, f266 D n), (323, f323 D n), (267, f267 D n), (322, f322 D n)]⟩
def h264 : Hint := (.s .o (.s .o (.s (.c [] (.l [0,1,2,3,4,5,9,6,7,8,10,11] .o) .o) (.s .o .o))))
def f264 (D : Dyn) (n : Nat) := (⟨_, by conv => rhs; reduce⟩ : {g // g = fun vs H => funS (s264 D n) D n 264 Tryz.f264 h264 [] vs H}).1
theorem f264_eq (D : Dyn) (n : Nat) : f264 D n = funKp (s264 D n) D n 264 Tryz.f264 (ms h264) := by kernel_rfl
theorem f264_ok {D : Dyn} (hD : DP D) (n : Nat) : FP 264 (f264 D n) := fun_okP X_ok hD (SP.cons (f266_ok hD n) (SP.cons (f323_ok hD n) (SP.cons (f267_ok hD n) (SP.cons (f322_ok hD n) (SP.nil))))) Tryz.func264 (by kernel_rfl) (by kernel_rfl) (f264_eq D n)
attribute [local irreducible] f264

def s204 (D : Dyn) (n : Nat) : Tb := ⟨X, [(264, f264 D n)]⟩
def h204 : Hint := (.s (.s .o (.cl (.s .o .o) .o)) (.s (.b [8,254,11,2047] .o) .o))
def f204 (D : Dyn) (n : Nat) := (⟨_, by conv => rhs; reduce⟩ : {g // g = fun vs H => funS (s204 D n) D n 204 Tryz.f204 h204 [] vs H}).1
theorem f204_eq (D : Dyn) (n : Nat) : f204 D n = funKp (s204 D n) D n 204 Tryz.f204 (ms h204) := by kernel_rfl
theorem f204_ok {D : Dyn} (hD : DP D) (n : Nat) : FP 204 (f204 D n) := fun_okP X_ok hD (SP.cons (f264_ok hD n) (SP.nil)) Tryz.func204 (by kernel_rfl) (by kernel_rfl) (f204_eq D n)
attribute [local irreducible] f204

def s265 (D : Dyn) (n : Nat) : Tb := ⟨X, [(237, f237 D n)]⟩
def h265 : Hint := (.s .o (.s .o .o))
def f265 (D : Dyn) (n : Nat) := (⟨_, by conv => rhs; reduce⟩ : {g // g = fun vs H => funS (s265 D n) D n 265 Tryz.f265 h265 [] vs H}).1
theorem f265_eq (D : Dyn) (n : Nat) : f265 D n = funKp (s265 D n) D n 265 Tryz.f265 (ms h265) := by kernel_rfl
theorem f265_ok {D : Dyn} (hD : DP D) (n : Nat) : FP 265 (f265 D n) := fun_okP X_ok hD (SP.cons (f237_ok hD n) (SP.nil)) Tryz.func265 (by kernel_rfl) (by kernel_rfl) (f265_eq D n)
attribute [local irreducible] f265

def s205 (D : Dyn) (n : Nat) : Tb := ⟨X, [(265, f265 D n)]⟩
def h205 : Hint := (.s (.b [8,254,11,2047] .o) .o)
def f205 (D : Dyn) (n : Nat) := (⟨_, by conv => rhs; reduce⟩ : {g // g = fun vs H => funS (s205 D n) D n 205 Tryz.f205 h205 [] vs H}).1
theorem f205_eq (D : Dyn) (n : Nat) : f205 D n = funKp (s205 D n) D n 205 Tryz.f205 (ms h205) := by kernel_rfl
theorem f205_ok {D : Dyn} (hD : DP D) (n : Nat) : FP 205 (f205 D n) := fun_okP X_ok hD (SP.cons (f265_ok hD n) (SP.nil)) Tryz.func205 (by kernel_rfl) (by kernel_rfl) (f205_eq D n)
attribute [local irreducible] f205

def s133 (D : Dyn) (n : Nat) : Tb := ⟨X, [(203, f203 D n), (204, f204 D n), (205, f205 D n)]⟩
def h133 : Hint := (.s .o (.b0 (.s .o (.c [11] .o (.s .o (.c [10] .o (.s .o (.c [9] .o (.s .o (.c [8] .o (.s .o (.c [7] .o (.s .o (.c [6] .o (.s .o (.c [5] .o (.s .o (.c [4] .o (.s .o (.c [3] .o (.s .o (.c [2] .o (.s .o (.c [1] .o (.s .o (.c [0] .o .o))))))))))))))))))))))))))
def f133j0 (D : Dyn) (n : Nat) := (⟨_, by conv => rhs; reduce⟩ : {g // some g = prtF (s133 D n) D n 133 Tryz.f133 h133 [] 0}).1
attribute [local irreducible] f133j0
def f133j1 (D : Dyn) (n : Nat) := (⟨_, by conv => rhs; reduce⟩ : {g // some g = prtF (s133 D n) D n 133 Tryz.f133 h133 [f133j0 D n] 1}).1
attribute [local irreducible] f133j1
def f133j2 (D : Dyn) (n : Nat) := (⟨_, by conv => rhs; reduce⟩ : {g // some g = prtF (s133 D n) D n 133 Tryz.f133 h133 [f133j0 D n, f133j1 D n] 2}).1
attribute [local irreducible] f133j2
def f133j3 (D : Dyn) (n : Nat) := (⟨_, by conv => rhs; reduce⟩ : {g // some g = prtF (s133 D n) D n 133 Tryz.f133 h133 [f133j0 D n, f133j1 D n, f133j2 D n] 3}).1
attribute [local irreducible] f133j3
def f133j4 (D : Dyn) (n : Nat) := (⟨_, by conv => rhs; reduce⟩ : {g // some g = prtF (s133 D n) D n 133 Tryz.f133 h133 [f133j0 D n, f133j1 D n, f133j2 D n, f133j3 D n] 4}).1
attribute [local irreducible] f133j4
def f133j5 (D : Dyn) (n : Nat) := (⟨_, by conv => rhs; reduce⟩ : {g // some g = prtF (s133 D n) D n 133 Tryz.f133 h133 [f133j0 D n, f133j1 D n, f133j2 D n, f133j3 D n, f133j4 D n] 5}).1
attribute [local irreducible] f133j5
def f133j6 (D : Dyn) (n : Nat) := (⟨_, by conv => rhs; reduce⟩ : {g // some g = prtF (s133 D n) D n 133 Tryz.f133 h133 [f133j0 D n, f133j1 D n, f133j2 D n, f133j3 D n, f133j4 D n, f133j5 D n] 6}).1
attribute [local irreducible] f133j6
def f133j7 (D : Dyn) (n : Nat) := (⟨_, by conv => rhs; reduce⟩ : {g // some g = prtF (s133 D n) D n 133 Tryz.f133 h133 [f133j0 D n, f133j1 D n, f133j2 D n, f133j3 D n, f133j4 D n, f133j5 D n, f133j6 D n] 7}).1
attribute [local irreducible] f133j7
def f133j8 (D : Dyn) (n : Nat) := (⟨_, by conv => rhs; reduce⟩ : {g // some g = prtF (s133 D n) D n 133 Tryz.f133 h133 [f133j0 D n, f133j1 D n, f133j2 D n, f133j3 D n, f133j4 D n, f133j5 D n, f133j6 D n, f133j7 D n] 8}).1
attribute [local irreducible] f133j8
def f133j9 (D : Dyn) (n : Nat) := (⟨_, by conv => rhs; reduce⟩ : {g // some g = prtF (s133 D n) D n 133 Tryz.f133 h133 [f133j0 D n, f133j1 D n, f133j2 D n, f133j3 D n, f133j4 D n, f133j5 D n, f133j6 D n, f133j7 D n, f133j8 D n] 9}).1
attribute [local irreducible] f133j9
def f133j10 (D : Dyn) (n : Nat) := (⟨_, by conv => rhs; reduce⟩ : {g // some g = prtF (s133 D n) D n 133 Tryz.f133 h133 [f133j0 D n, f133j1 D n, f133j2 D n, f133j3 D n, f133j4 D n, f133j5 D n, f133j6 D n, f133j7 D n, f133j8 D n, f133j9 D n] 10}).1
attribute [local irreducible] f133j10
def f133j11 (D : Dyn) (n : Nat) := (⟨_, by conv => rhs; reduce⟩ : {g // some g = prtF (s133 D n) D n 133 Tryz.f133 h133 [f133j0 D n, f133j1 D n, f133j2 D n, f133j3 D n, f133j4 D n, f133j5 D n, f133j6 D n, f133j7 D n, f133j8 D n, f133j9 D n, f133j10 D n] 11}).1
attribute [local irreducible] f133j11
def f133 (D : Dyn) (n : Nat) := (⟨_, by conv => rhs; reduce⟩ : {g // g = fun vs H => funS (s133 D n) D n 133 Tryz.f133 h133 [f133j0 D n, f133j1 D n, f133j2 D n, f133j3 D n, f133j4 D n, f133j5 D n, f133j6 D n, f133j7 D n, f133j8 D n, f133j9 D n, f133j10 D n, f133j11 D n] vs H}).1
theorem f133_eq (D : Dyn) (n : Nat) : f133 D n = funKp (s133 D n) D n 133 Tryz.f133 (ms h133) := by kernel_rfl
theorem f133_ok {D : Dyn} (hD : DP D) (n : Nat) : FP 133 (f133 D n) := fun_okP X_ok hD (SP.cons (f203_ok hD n) (SP.cons (f204_ok hD n) (SP.cons (f205_ok hD n) (SP.nil)))) Tryz.func133 (by kernel_rfl) (by kernel_rfl) (f133_eq D n)
attribute [local irreducible] f133

def s77 (D : Dyn) (n : Nat) : Tb := ⟨X, [(132, f132 D n), (133, f133 D n)]⟩
def h77 : Hint := (.s .o (.s .o (.s (.s .o (.cl (.s .o .o) .o)) (.s .o (.s (.s .o (.b [1,3,8] (.l [0,3,8,19,20,21] (.s .o (.s (.cr .o .o) (.s (.b0 (.s .o (.s .o (.s .o (.cl (.s .o .o) .o))))) .o)))))) (.s (.s .o (.cl (.s .o .o) .o)) (.s .o .o)))))))
def f77l0 (D : Dyn) (n : Nat) := (⟨_, by conv => rhs; reduce⟩ : {g // some g = prtF (s77 D n) D n 77 Tryz.f77 h77 [] 0}).1
attribute [local irreducible] f77l0
def f77b1 (D : Dyn) (n : Nat) := (⟨_, by conv => rhs; reduce⟩ : {g // some g = prtF (s77 D n) D n 77 Tryz.f77 h77 [f77l0 D n] 1}).1
attribute [local irreducible] f77b1
def f77 (D : Dyn) (n : Nat) := (⟨_, by conv => rhs; reduce⟩ : {g // g = fun vs H => funS (s77 D n) D n 77 Tryz.f77 h77 [f77l0 D n, f77b1 D n] vs H}).1
theorem f77_eq (D : Dyn) (n : Nat) : f77 D n = funKp (s77 D n) D n 77 Tryz.f77 (ms h77) := by kernel_rfl
theorem f77_ok {D : Dyn} (hD : DP D) (n : Nat) : FP 77 (f77 D n) := fun_okP X_ok hD (SP.cons (f132_ok hD n) (SP.cons (f133_ok hD n) (SP.nil))) Tryz.func77 (by kernel_rfl) (by kernel_rfl) (f77_eq D n)
attribute [local irreducible] f77

def s134 (D : Dyn) (n : Nat) : Tb := ⟨X, []⟩
def h134 : Hint := (.s .o (.s .o .o))
def f134 (D : Dyn) (n : Nat) := (⟨_, by conv => rhs; reduce⟩ : {g // g = fun vs H => funS (s134 D n) D n 134 Tryz.f134 h134 [] vs H}).1
theorem f134_eq (D : Dyn) (n : Nat) : f134 D n = funKp (s134 D n) D n 134 Tryz.f134 (ms h134) := by kernel_rfl
theorem f134_ok {D : Dyn} (hD : DP D) (n : Nat) : FP 134 (f134 D n) := fun_okP X_ok hD (SP.nil) Tryz.func134 (by kernel_rfl) (by kernel_rfl) (f134_eq D n)
attribute [local irreducible] f134

def s135 (D : Dyn) (n : Nat) : Tb := ⟨X, []⟩
def h135 : Hint := (.s .o (.s .o .o))
def f135 (D : Dyn) (n : Nat) := (⟨_, by conv => rhs; reduce⟩ : {g // g = fun vs H => funS (s135 D n) D n 135 Tryz.f135 h135 [] vs H}).1
theorem f135_eq (D : Dyn) (n : Nat) : f135 D n = funKp (s135 D n) D n 135 Tryz.f135 (ms h135) := by kernel_rfl
theorem f135_ok {D : Dyn} (hD : DP D) (n : Nat) : FP 135 (f135 D n) := fun_okP X_ok hD (SP.nil) Tryz.func135 (by kernel_rfl) (by kernel_rfl) (f135_eq D n)
attribute [local irreducible] f135

def s207 (D : Dyn) (n : Nat) : Tb := ⟨X, [(266, f266 D n), (267, f267 D n)]⟩
def h207 : Hint := (.s .o (.s .o (.s (.c [] (.l [0,2,1,3,4] .o) .o) .o)))
def f207 (D : Dyn) (n : Nat) := (⟨_, by conv => rhs; reduce⟩ : {g // g = fun vs H => funS (s207 D n) D n 207 Tryz.f207 h207 [] vs H}).1
theorem f207_eq (D : Dyn) (n : Nat) : f207 D n = funKp (s207 D n) D n 207 Tryz.f207 (ms h207) := by kernel_rfl
theorem f207_ok {D : Dyn} (hD : DP D) (n : Nat) : FP 207 (f207 D n) := fun_okP X_ok hD (SP.cons (f266_ok hD n) (SP.cons (f267_ok hD n) (SP.nil))) Tryz.func207 (by kernel_rfl) (by kernel_rfl) (f207_eq D n)
attribute [local irreducible] f207

def s136 (D : Dyn) (n : Nat) : Tb := ⟨X, [(207, f207 D n)]⟩
def h136 : Hint := (.s .o (.s .o (.s (.s .o (.b [1,0,5] (.l [0,0,5,8,9,10] (.s .o (.s (.cr .o .o) (.s (.b0 (.s .o .o)) .o)))))) (.s .o .o))))
def f136l0 (D : Dyn) (n : Nat) := (⟨_, by conv => rhs; reduce⟩ : {g // some g = prtF (s136 D n) D n 136 Tryz.f136 h136 [] 0}).1
attribute [local irreducible] f136l0
def f136b1 (D : Dyn) (n : Nat) := (⟨_, by conv => rhs; reduce⟩ : {g // some g = prtF (s136 D n) D n 136 Tryz.f136 h136 [f136l0 D n] 1}).1
attribute [local irreducible] f136b1
def f136 (D : Dyn) (n : Nat) := (⟨_, by conv => rhs; reduce⟩ : {g // g = fun vs H => funS (s136 D n) D n 136 Tryz.f136 h136 [f136l0 D n, f136b1 D n] vs H}).1
theorem f136_eq (D : Dyn) (n : Nat) : f136 D n = funKp (s136 D n) D n 136 Tryz.f136 (ms h136) := by kernel_rfl
theorem f136_ok {D : Dyn} (hD : DP D) (n : Nat) : FP 136 (f136 D n) := fun_okP X_ok hD (SP.cons (f207_ok hD n) (SP.nil)) Tryz.func136 (by kernel_rfl) (by kernel_rfl) (f136_eq D n)
attribute [local irreducible] f136

def s78 (D : Dyn) (n : Nat) : Tb := ⟨X, [(134, f134 D n), (135, f135 D n), (136, f136 D n)]⟩
def h78 : Hint := (.s .o (.s (.s .o (.cl (.s .o .o) .o)) (.s (.s .o (.cl (.s .o .o) .o)) (.s .o .o))))
def f78 (D : Dyn) (n : Nat) := (⟨_, by conv => rhs; reduce⟩ : {g // g = fun vs H => funS (s78 D n) D n 78 Tryz.f78 h78 [] vs H}).1
theorem f78_eq (D : Dyn) (n : Nat) : f78 D n = funKp (s78 D n) D n 78 Tryz.f78 (ms h78) := by kernel_rfl
theorem f78_ok {D : Dyn} (hD : DP D) (n : Nat) : FP 78 (f78 D n) := fun_okP X_ok hD (SP.cons (f134_ok hD n) (SP.cons (f135_ok hD n) (SP.cons (f136_ok hD n) (SP.nil)))) Tryz.func78 (by kernel_rfl) (by kernel_rfl) (f78_eq D n)
attribute [local irreducible] f78

def s79 (D : Dyn) (n : Nat) : Tb := ⟨X, []⟩
def h79 : Hint := (.s .o (.b [7,126,10,1023] .o))
def f79 (D : Dyn) (n : Nat) := (⟨_, by conv => rhs; reduce⟩ : {g // g = fun vs H => funS (s79 D n) D n 79 Tryz.f79 h79 [] vs H}).1
theorem f79_eq (D : Dyn) (n : Nat) : f79 D n = funKp (s79 D n) D n 79 Tryz.f79 (ms h79) := by kernel_rfl
theorem f79_ok {D : Dyn} (hD : DP D) (n : Nat) : FP 79 (f79 D n) := fun_okP X_ok hD (SP.nil) Tryz.func79 (by kernel_rfl) (by kernel_rfl) (f79_eq D n)
attribute [local irreducible] f79

def s42 (D : Dyn) (n : Nat) : Tb := ⟨X, [(77, f77 D n), (78, f78 D n), (79, f79 D n)]⟩
def h42 : Hint := (.s .o (.s (.s .o (.cl (.s .o .o) .o)) (.s .o (.s (.s .o (.cl (.s .o .o) .o)) (.s (.s .o (.cl (.s .o .o) .o)) (.s (.b [12,4095] .o) (.s (.s .o (.cl (.s .o .o) .o)) (.s .o (.s (.b [10,1023] .o) (.s .o .o))))))))))
def f42 (D : Dyn) (n : Nat) := (⟨_, by conv => rhs; reduce⟩ : {g // g = fun vs H => funS (s42 D n) D n 42 Tryz.f42 h42 [] vs H}).1
theorem f42_eq (D : Dyn) (n : Nat) : f42 D n = funKp (s42 D n) D n 42 Tryz.f42 (ms h42) := by kernel_rfl
theorem f42_ok {D : Dyn} (hD : DP D) (n : Nat) : FP 42 (f42 D n) := fun_okP X_ok hD (SP.cons (f77_ok hD n) (SP.cons (f78_ok hD n) (SP.cons (f79_ok hD n) (SP.nil)))) Tryz.func42 (by kernel_rfl) (by kernel_rfl) (f42_eq D n)
attribute [local irreducible] f42

def s93 (D : Dyn) (n : Nat) : Tb := ⟨X, []⟩
def h93 : Hint := (.s .o (.b [7,126,10,1023] .o))
def f93 (D : Dyn) (n : Nat) := (⟨_, by conv => rhs; reduce⟩ : {g // g = fun vs H => funS (s93 D n) D n 93 Tryz.f93 h93 [] vs H}).1
theorem f93_eq (D : Dyn) (n : Nat) : f93 D n = funKp (s93 D n) D n 93 Tryz.f93 (ms h93) := by kernel_rfl
theorem f93_ok {D : Dyn} (hD : DP D) (n : Nat) : FP 93 (f93 D n) := fun_okP X_ok hD (SP.nil) Tryz.func93 (by kernel_rfl) (by kernel_rfl) (f93_eq D n)
attribute [local irreducible] f93

def s80 (D : Dyn) (n : Nat) : Tb := ⟨X, [(40, f40 D n), (93, f93 D n)]⟩
def h80 : Hint := (.s .o (.s (.b0 (.s .o (.cl (.s .o .o) (.s .o (.cl (.s .o .o) (.s .o (.cl (.s .o .o) (.s .o (.cl (.s .o .o) .o))))))))) (.s (.b [4,15] .o) (.s .o .o))))
def f80 (D : Dyn) (n : Nat) := (⟨_, by conv => rhs; reduce⟩ : {g // g = fun vs H => funS (s80 D n) D n 80 Tryz.f80 h80 [] vs H}).1
theorem f80_eq (D : Dyn) (n : Nat) : f80 D n = funKp (s80 D n) D n 80 Tryz.f80 (ms h80) := by kernel_rfl
theorem f80_ok {D : Dyn} (hD : DP D) (n : Nat) : FP 80 (f80 D n) := fun_okP X_ok hD (SP.cons (f40_ok hD n) (SP.cons (f93_ok hD n) (SP.nil))) Tryz.func80 (by kernel_rfl) (by kernel_rfl) (f80_eq D n)
attribute [local irreducible] f80

def s43 (D : Dyn) (n : Nat) : Tb := ⟨X, [(80, f80 D n)]⟩
def h43 : Hint := .o
def f43 (D : Dyn) (n : Nat) := (⟨_, by conv => rhs; reduce⟩ : {g // g = fun vs H => funS (s43 D n) D n 43 Tryz.f43 h43 [] vs H}).1
theorem f43_eq (D : Dyn) (n : Nat) : f43 D n = funKp (s43 D n) D n 43 Tryz.f43 (ms h43) := by kernel_rfl
theorem f43_ok {D : Dyn} (hD : DP D) (n : Nat) : FP 43 (f43 D n) := fun_okP X_ok hD (SP.cons (f80_ok hD n) (SP.nil)) Tryz.func43 (by kernel_rfl) (by kernel_rfl) (f43_eq D n)
attribute [local irreducible] f43

def s15 (D : Dyn) (n : Nat) : Tb := ⟨X, [(41, f41 D n), (42, f42 D n), (43, f43 D n)]⟩
def h15 : Hint := (.s .o (.s (.c [3,7,8,255] (.l [0,1,2,4,5,6,7,3,8,9,10,11,12,13] .o) .o) (.s .o (.c [0] .o .o))))
def f15j0 (D : Dyn) (n : Nat) := (⟨_, by conv => rhs; reduce⟩ : {g // some g = prtF (s15 D n) D n 15 Tryz.f15 h15 [] 0}).1
attribute [local irreducible] f15j0
def f15 (D : Dyn) (n : Nat) := (⟨_, by conv => rhs; reduce⟩ : {g // g = fun vs H => funS (s15 D n) D n 15 Tryz.f15 h15 [f15j0 D n] vs H}).1
theorem f15_eq (D : Dyn) (n : Nat) : f15 D n = funKp (s15 D n) D n 15 Tryz.f15 (ms h15) := by kernel_rfl
theorem f15_ok {D : Dyn} (hD : DP D) (n : Nat) : FP 15 (f15 D n) := fun_okP X_ok hD (SP.cons (f41_ok hD n) (SP.cons (f42_ok hD n) (SP.cons (f43_ok hD n) (SP.nil)))) Tryz.func15 (by kernel_rfl) (by kernel_rfl) (f15_eq D n)
attribute [local irreducible] f15

def s208 (D : Dyn) (n : Nat) : Tb := ⟨X, []⟩
def h208 : Hint := (.s .o (.s (.s .o (.b [1] (.l [0,0,1,7,8] (.s .o (.s (.cr .o .o) (.s (.b0 (.s .o (.s .o (.cl (.s .o .o) .o)))) .o)))))) (.s .o .o)))
def f208l0 (D : Dyn) (n : Nat) := (⟨_, by conv => rhs; reduce⟩ : {g // some g = prtF (s208 D n) D n 208 Tryz.f208 h208 [] 0}).1
attribute [local irreducible] f208l0
def f208b1 (D : Dyn) (n : Nat) := (⟨_, by conv => rhs; reduce⟩ : {g // some g = prtF (s208 D n) D n 208 Tryz.f208 h208 [f208l0 D n] 1}).1
attribute [local irreducible] f208b1
def f208 (D : Dyn) (n : Nat) := (⟨_, by conv => rhs; reduce⟩ : {g // g = fun vs H => funS (s208 D n) D n 208 Tryz.f208 h208 [f208l0 D n, f208b1 D n] vs H}).1
theorem f208_eq (D : Dyn) (n : Nat) : f208 D n = funKp (s208 D n) D n 208 Tryz.f208 (ms h208) := by kernel_rfl
theorem f208_ok {D : Dyn} (hD : DP D) (n : Nat) : FP 208 (f208 D n) := fun_okP X_ok hD (SP.nil) Tryz.func208 (by kernel_rfl) (by kernel_rfl) (f208_eq D n)
attribute [local irreducible] f208

def s137 (D : Dyn) (n : Nat) : Tb := ⟨X, [(208, f208 D n)]⟩
def h137 : Hint := (.s .o (.s .o .o))
def f137 (D : Dyn) (n : Nat) := (⟨_, by conv => rhs; reduce⟩ : {g // g = fun vs H => funS (s137 D n) D n 137 Tryz.f137 h137 [] vs H}).1
theorem f137_eq (D : Dyn) (n : Nat) : f137 D n = funKp (s137 D n) D n 137 Tryz.f137 (ms h137) := by kernel_rfl
theorem f137_ok {D : Dyn} (hD : DP D) (n : Nat) : FP 137 (f137 D n) := fun_okP X_ok hD (SP.cons (f208_ok hD n) (SP.nil)) Tryz.func137 (by kernel_rfl) (by kernel_rfl) (f137_eq D n)
attribute [local irreducible] f137

def s138 (D : Dyn) (n : Nat) : Tb := ⟨X, []⟩
def h138 : Hint := (.s .o (.s .o .o))
def f138 (D : Dyn) (n : Nat) := (⟨_, by conv => rhs; reduce⟩ : {g // g = fun vs H => funS (s138 D n) D n 138 Tryz.f138 h138 [] vs H}).1
theorem f138_eq (D : Dyn) (n : Nat) : f138 D n = funKp (s138 D n) D n 138 Tryz.f138 (ms h138) := by kernel_rfl
theorem f138_ok {D : Dyn} (hD : DP D) (n : Nat) : FP 138 (f138 D n) := fun_okP X_ok hD (SP.nil) Tryz.func138 (by kernel_rfl) (by kernel_rfl) (f138_eq D n)
attribute [local irreducible] f138

def s81 (D : Dyn) (n : Nat) : Tb := ⟨X, [(137, f137 D n)]⟩
def h81 : Hint := (.s .o (.s .o .o))
def f81 (D : Dyn) (n : Nat) := (⟨_, by conv => rhs; reduce⟩ : {g // g = fun vs H => funS (s81 D n) D n 81 Tryz.f81 h81 [] vs H}).1
theorem f81_eq (D : Dyn) (n : Nat) : f81 D n = funKp (s81 D n) D n 81 Tryz.f81 (ms h81) := by kernel_rfl
theorem f81_ok {D : Dyn} (hD : DP D) (n : Nat) : FP 81 (f81 D n) := fun_okP X_ok hD (SP.cons (f137_ok hD n) (SP.nil)) Tryz.func81 (by kernel_rfl) (by kernel_rfl) (f81_eq D n)
attribute [local irreducible] f81

def s44 (D : Dyn) (n : Nat) : Tb := ⟨X, [(81, f81 D n)]⟩
def h44 : Hint := (.s .o (.s (.s .o (.cl (.s .o .o) .o)) (.s .o (.s (.s .o (.cl (.s .o .o) .o)) (.s .o .o)))))
def f44 (D : Dyn) (n : Nat) := (⟨_, by conv => rhs; reduce⟩ : {g // g = fun vs H => funS (s44 D n) D n 44 Tryz.f44 h44 [] vs H}).1
theorem f44_eq (D : Dyn) (n : Nat) : f44 D n = funKp (s44 D n) D n 44 Tryz.f44 (ms h44) := by kernel_rfl
theorem f44_ok {D : Dyn} (hD : DP D) (n : Nat) : FP 44 (f44 D n) := fun_okP X_ok hD (SP.cons (f81_ok hD n) (SP.nil)) Tryz.func44 (by kernel_rfl) (by kernel_rfl) (f44_eq D n)
attribute [local irreducible] f44

def s16 (D : Dyn) (n : Nat) : Tb := ⟨X, [(41, f41 D n), (44, f44 D n), (43, f43 D n)]⟩
def h16 : Hint := (.s .o (.s (.c [3,7,6,63] (.l [0,1,2,4,5,3,6,7,8,9,10,11] .o) .o) (.s .o (.c [0] .o .o))))
def f16j0 (D : Dyn) (n : Nat) := (⟨_, by conv => rhs; reduce⟩ : {g // some g = prtF (s16 D n) D n 16 Tryz.f16 h16 [] 0}).1
attribute [local irreducible] f16j0
def f16 (D : Dyn) (n : Nat) := (⟨_, by conv => rhs; reduce⟩ : {g // g = fun vs H => funS (s16 D n) D n 16 Tryz.f16 h16 [f16j0 D n] vs H}).1
theorem f16_eq (D : Dyn) (n : Nat) : f16 D n = funKp (s16 D n) D n 16 Tryz.f16 (ms h16) := by kernel_rfl
theorem f16_ok {D : Dyn} (hD : DP D) (n : Nat) : FP 16 (f16 D n) := fun_okP X_ok hD (SP.cons (f41_ok hD n) (SP.cons (f44_ok hD n) (SP.cons (f43_ok hD n) (SP.nil)))) Tryz.func16 (by kernel_rfl) (by kernel_rfl) (f16_eq D n)
attribute [local irreducible] f16

def s82 (D : Dyn) (n : Nat) : Tb := ⟨X, []⟩
def h82 : Hint := (.s .o (.s (.s .o (.cl (.s .o .o) .o)) (.s (.s .o (.cl (.s .o .o) .o)) (.s .o .o))))
def f82 (D : Dyn) (n : Nat) := (⟨_, by conv => rhs; reduce⟩ : {g // g = fun vs H => funS (s82 D n) D n 82 Tryz.f82 h82 [] vs H}).1
theorem f82_eq (D : Dyn) (n : Nat) : f82 D n = funKp (s82 D n) D n 82 Tryz.f82 (ms h82) := by kernel_rfl
theorem f82_ok {D : Dyn} (hD : DP D) (n : Nat) : FP 82 (f82 D n) := fun_okP X_ok hD (SP.nil) Tryz.func82 (by kernel_rfl) (by kernel_rfl) (f82_eq D n)
attribute [local irreducible] f82

def s139 (D : Dyn) (n : Nat) : Tb := ⟨X, []⟩
def h139 : Hint := (.s .o (.s .o (.s (.s .o (.cl (.s .o .o) .o)) (.s .o (.s (.b [6,63] .o) (.s .o (.s .o .o)))))))
def f139 (D : Dyn) (n : Nat) := (⟨_, by conv => rhs; reduce⟩ : {g // g = fun vs H => funS (s139 D n) D n 139 Tryz.f139 h139 [] vs H}).1
theorem f139_eq (D : Dyn) (n : Nat) : f139 D n = funKp (s139 D n) D n 139 Tryz.f139 (ms h139) := by kernel_rfl
theorem f139_ok {D : Dyn} (hD : DP D) (n : Nat) : FP 139 (f139 D n) := fun_okP X_ok hD (SP.nil) Tryz.func139 (by kernel_rfl) (by kernel_rfl) (f139_eq D n)
attribute [local irreducible] f139

def s83 (D : Dyn) (n : Nat) : Tb := ⟨X, [(139, f139 D n)]⟩
def h83 : Hint := (.s .o (.s .o (.s .o (.s .o .o))))
def f83 (D : Dyn) (n : Nat) := (⟨_, by conv => rhs; reduce⟩ : {g // g = fun vs H => funS (s83 D n) D n 83 Tryz.f83 h83 [] vs H}).1
theorem f83_eq (D : Dyn) (n : Nat) : f83 D n = funKp (s83 D n) D n 83 Tryz.f83 (ms h83) := by kernel_rfl
theorem f83_ok {D : Dyn} (hD : DP D) (n : Nat) : FP 83 (f83 D n) := fun_okP X_ok hD (SP.cons (f139_ok hD n) (SP.nil)) Tryz.func83 (by kernel_rfl) (by kernel_rfl) (f83_eq D n)
attribute [local irreducible] f83

def s45 (D : Dyn) (n : Nat) : Tb := ⟨X, [(82, f82 D n), (83, f83 D n)]⟩
def h45 : Hint := (.s .o (.s .o (.s (.s .o (.cl (.s .o .o) .o)) (.s .o .o))))
def f45 (D : Dyn) (n : Nat) := (⟨_, by conv => rhs; reduce⟩ : {g // g = fun vs H => funS (s45 D n) D n 45 Tryz.f45 h45 [] vs H}).1
theorem f45_eq (D : Dyn) (n : Nat) : f45 D n = funKp (s45 D n) D n 45 Tryz.f45 (ms h45) := by kernel_rfl
theorem f45_ok {D : Dyn} (hD : DP D) (n : Nat) : FP 45 (f45 D n) := fun_okP X_ok hD (SP.cons (f82_ok hD n) (SP.cons (f83_ok hD n) (SP.nil))) Tryz.func45 (by kernel_rfl) (by kernel_rfl) (f45_eq D n)
attribute [local irreducible] f45

def s84 (D : Dyn) (n : Nat) : Tb := ⟨X, [(27, f27 D n)]⟩
def h84 : Hint := (.s .o (.s (.s .o (.c [0,0] .o .o)) (.s .o .o)))
def f84j0 (D : Dyn) (n : Nat) := (⟨_, by conv => rhs; reduce⟩ : {g // some g = prtF (s84 D n) D n 84 Tryz.f84 h84 [] 0}).1
attribute [local irreducible] f84j0
def f84 (D : Dyn) (n : Nat) := (⟨_, by conv => rhs; reduce⟩ : {g // g = fun vs H => funS (s84 D n) D n 84 Tryz.f84 h84 [f84j0 D n] vs H}).1
theorem f84_eq (D : Dyn) (n : Nat) : f84 D n = funKp (s84 D n) D n 84 Tryz.f84 (ms h84) := by kernel_rfl
theorem f84_ok {D : Dyn} (hD : DP D) (n : Nat) : FP 84 (f84 D n) := fun_okP X_ok hD (SP.cons (f27_ok hD n) (SP.nil)) Tryz.func84 (by kernel_rfl) (by kernel_rfl) (f84_eq D n)
attribute [local irreducible] f84

def s85 (D : Dyn) (n : Nat) : Tb := ⟨X, [(135, f135 D n), (104, f104 D n), (141, f141 D n)]⟩
def h85 : Hint := (.s .o (.s (.s .o (.cl (.s .o .o) .o)) (.s .o (.s .o (.s .o (.s .o (.s (.s .o (.cl (.s .o .o) .o)) (.s .o (.s (.s .o (.cl (.s .o .o) .o)) (.s (.s .o (.cl (.s .o .o) .o)) (.s .o (.s .o .o))))))))))))
def f85 (D : Dyn) (n : Nat) := (⟨_, by conv => rhs; reduce⟩ : {g // g = fun vs H => funS (s85 D n) D n 85 Tryz.f85 h85 [] vs H}).1
theorem f85_eq (D : Dyn) (n : Nat) : f85 D n = funKp (s85 D n) D n 85 Tryz.f85 (ms h85) := by kernel_rfl
theorem f85_ok {D : Dyn} (hD : DP D) (n : Nat) : FP 85 (f85 D n) := fun_okP X_ok hD (SP.cons (f135_ok hD n) (SP.cons (f104_ok hD n) (SP.cons (f141_ok hD n) (SP.nil)))) Tryz.func85 (by kernel_rfl) (by kernel_rfl) (f85_eq D n)
attribute [local irreducible] f85

def s152 (D : Dyn) (n : Nat) : Tb := ⟨X, [(135, f135 D n)]⟩
def h152 : Hint := (.s .o (.s (.s .o (.b [4] (.s (.b [3,1] (.b [2,1] (.b [1,1] (.s (.b [0,1] (.s (.s (.s .o (.cl .o .o)) (.s (.s .o (.cl .o .o)) (.s (.s .o (.cl .o .o)) (.s .o (.cl .o .o))))) .o)) (.s (.s .o .o) .o))))) (.s (.s .o .o) .o)))) (.s .o .o)))
def f152b0 (D : Dyn) (n : Nat) := (⟨_, by conv => rhs; reduce⟩ : {g // some g = prtF (s152 D n) D n 152 Tryz.f152 h152 [] 0}).1
attribute [local irreducible] f152b0
def f152b1 (D : Dyn) (n : Nat) := (⟨_, by conv => rhs; reduce⟩ : {g // some g = prtF (s152 D n) D n 152 Tryz.f152 h152 [f152b0 D n] 1}).1
attribute [local irreducible] f152b1
def f152b2 (D : Dyn) (n : Nat) := (⟨_, by conv => rhs; reduce⟩ : {g // some g = prtF (s152 D n) D n 152 Tryz.f152 h152 [f152b0 D n, f152b1 D n] 2}).1
attribute [local irreducible] f152b2
def f152b3 (D : Dyn) (n : Nat) := (⟨_, by conv => rhs; reduce⟩ : {g // some g = prtF (s152 D n) D n 152 Tryz.f152 h152 [f152b0 D n, f152b1 D n, f152b2 D n] 3}).1
attribute [local irreducible] f152b3
def f152b4 (D : Dyn) (n : Nat) := (⟨_, by conv => rhs; reduce⟩ : {g // some g = prtF (s152 D n) D n 152 Tryz.f152 h152 [f152b0 D n, f152b1 D n, f152b2 D n, f152b3 D n] 4}).1
attribute [local irreducible] f152b4
def f152 (D : Dyn) (n : Nat) := (⟨_, by conv => rhs; reduce⟩ : {g // g = fun vs H => funS (s152 D n) D n 152 Tryz.f152 h152 [f152b0 D n, f152b1 D n, f152b2 D n, f152b3 D n, f152b4 D n] vs H}).1
theorem f152_eq (D : Dyn) (n : Nat) : f152 D n = funKp (s152 D n) D n 152 Tryz.f152 (ms h152) := by kernel_rfl
theorem f152_ok {D : Dyn} (hD : DP D) (n : Nat) : FP 152 (f152 D n) := fun_okP X_ok hD (SP.cons (f135_ok hD n) (SP.nil)) Tryz.func152 (by kernel_rfl) (by kernel_rfl) (f152_eq D n)
attribute [local irreducible] f152

def s142 (D : Dyn) (n : Nat) : Tb := ⟨X, [(134, f134 D n), (152, f152 D n), (136, f136 D n)]⟩
def h142 : Hint := (.s .o (.s (.s .o (.cl (.s .o .o) .o)) (.s .o .o)))
def f142 (D : Dyn) (n : Nat) := (⟨_, by conv => rhs; reduce⟩ : {g // g = fun vs H => funS (s142 D n) D n 142 Tryz.f142 h142 [] vs H}).1
theorem f142_eq (D : Dyn) (n : Nat) : f142 D n = funKp (s142 D n) D n 142 Tryz.f142 (ms h142) := by kernel_rfl
theorem f142_ok {D : Dyn} (hD : DP D) (n : Nat) : FP 142 (f142 D n) := fun_okP X_ok hD (SP.cons (f134_ok hD n) (SP.cons (f152_ok hD n) (SP.cons (f136_ok hD n) (SP.nil)))) Tryz.func142 (by kernel_rfl) (by kernel_rfl) (f142_eq D n)
attribute [local irreducible] f142

def s86 (D : Dyn) (n : Nat) : Tb := ⟨X, [(142, f142 D n)]⟩
def h86 : Hint := (.s .o (.s .o (.s .o (.c [0] (.b [12,4094,15,32767] .o) .o))))
def f86j0 (D : Dyn) (n : Nat) := (⟨_, by conv => rhs; reduce⟩ : {g // some g = prtF (s86 D n) D n 86 Tryz.f86 h86 [] 0}).1
attribute [local irreducible] f86j0
def f86 (D : Dyn) (n : Nat) := (⟨_, by conv => rhs; reduce⟩ : {g // g = fun vs H => funS (s86 D n) D n 86 Tryz.f86 h86 [f86j0 D n] vs H}).1
theorem f86_eq (D : Dyn) (n : Nat) : f86 D n = funKp (s86 D n) D n 86 Tryz.f86 (ms h86) := by kernel_rfl
theorem f86_ok {D : Dyn} (hD : DP D) (n : Nat) : FP 86 (f86 D n) := fun_okP X_ok hD (SP.cons (f142_ok hD n) (SP.nil)) Tryz.func86 (by kernel_rfl) (by kernel_rfl) (f86_eq D n)
attribute [local irreducible] f86

def s270 (D : Dyn) (n : Nat) : Tb := ⟨X, [(210, f210 D n), (323, f323 D n)]⟩
def h270 : Hint := (.s .o (.s .o (.s (.s .o (.cl (.s .o .o) .o)) (.s .o (.s (.s .o (.cl (.s .o .o) .o)) (.s (.s .o (.b [1,5] (.l [0,0,5,27,28,29] (.s .o (.s (.cr .o .o) (.s (.b0 (.s .o (.s .o (.cl (.s .o (.s .o .o)) .o)))) .o)))))) (.s .o .o)))))))
def f270l0 (D : Dyn) (n : Nat) := (⟨_, by conv => rhs; reduce⟩ : {g // some g = prtF (s270 D n) D n 270 Tryz.f270 h270 [] 0}).1
attribute [local irreducible] f270l0
def f270b1 (D : Dyn) (n : Nat) := (⟨_, by conv => rhs; reduce⟩ : {g // some g = prtF (s270 D n) D n 270 Tryz.f270 h270 [f270l0 D n] 1}).1
attribute [local irreducible] f270b1
def f270 (D : Dyn) (n : Nat) := (⟨_, by conv => rhs; reduce⟩ : {g // g = fun vs H => funS (s270 D n) D n 270 Tryz.f270 h270 [f270l0 D n, f270b1 D n] vs H}).1
theorem f270_eq (D : Dyn) (n : Nat) : f270 D n = funKp (s270 D n) D n 270 Tryz.f270 (ms h270) := by kernel_rfl
theorem f270_ok {D : Dyn} (hD : DP D) (n : Nat) : FP 270 (f270 D n) := fun_okP X_ok hD (SP.cons (f210_ok hD n) (SP.cons (f323_ok hD n) (SP.nil))) Tryz.func270 (by kernel_rfl) (by kernel_rfl) (f270_eq D n)
attribute [local irreducible] f270

def s269 (D : Dyn) (n : Nat) : Tb := ⟨X, [(320, f320 D n), (321, f321 D n)]⟩
def h269 : Hint := (.s .o (.s (.s .o (.cl (.s .o .o) .o)) (.s .o (.s (.s .o (.b [3,0,2,4] (.l [2,0,2,4,13] (.s .o (.s (.cr .o .o) (.s (.b0 (.s .o (.s .o (.b [1,0,2,4,13] (.l [0,0,2,4,5,13,16] (.s .o (.s (.cr .o .o) (.s (.b0 (.s .o (.b [14,16383] .o))) .o)))))))) .o)))))) (.s .o (.s (.s .o (.cl (.s .o .o) .o)) (.s (.s .o (.s .o (.cl (.s .o .o) .o))) (.s .o .o))))))))
def f269l0 (D : Dyn) (n : Nat) := (⟨_, by conv => rhs; reduce⟩ : {g // some g = prtF (s269 D n) D n 269 Tryz.f269 h269 [] 0}).1
attribute [local irreducible] f269l0
def f269b1 (D : Dyn) (n : Nat) := (⟨_, by conv => rhs; reduce⟩ : {g // some g = prtF (s269 D n) D n 269 Tryz.f269 h269 [f269l0 D n] 1}).1
attribute [local irreducible] f269b1
def f269l2 (D : Dyn) (n : Nat) := (⟨_, by conv => rhs; reduce⟩ : {g // some g = prtF (s269 D n) D n 269 Tryz.f269 h269 [f269l0 D n, f269b1 D n] 2}).1
attribute [local irreducible] f269l2
def f269b3 (D : Dyn) (n : Nat) := (⟨_, by conv => rhs; reduce⟩ : {g // some g = prtF (s269 D n) D n 269 Tryz.f269 h269 [f269l0 D n, f269b1 D n, f269l2 D n] 3}).1
attribute [local irreducible] f269b3
def f269 (D : Dyn) (n : Nat) := (⟨_, by conv => rhs; reduce⟩ : {g // g = fun vs H => funS (s269 D n) D n 269 Tryz.f269 h269 [f269l0 D n, f269b1 D n, f269l2 D n, f269b3 D n] vs H}).1
theorem f269_eq (D : Dyn) (n : Nat) : f269 D n = funKp (s269 D n) D n 269 Tryz.f269 (ms h269) := by kernel_rfl
theorem f269_ok {D : Dyn} (hD : DP D) (n : Nat) : FP 269 (f269 D n) := fun_okP X_ok hD (SP.cons (f320_ok hD n) (SP.cons (f321_ok hD n) (SP.nil))) Tryz.func269 (by kernel_rfl) (by kernel_rfl) (f269_eq D n)
attribute [local irreducible] f269

def s212 (D : Dyn) (n : Nat) : Tb := ⟨X, [(270, f270 D n), (269, f269 D n)]⟩
def h212 : Hint := (.s .o (.s .o (.s (.s .o (.c [0,2,3] .o .o)) (.s .o .o))))
def f212j0 (D : Dyn) (n : Nat) := (⟨_, by conv => rhs; reduce⟩ : {g // some g = prtF (s212 D n) D n 212 Tryz.f212 h212 [] 0}).1
attribute [local irreducible] f212j0
def f212 (D : Dyn) (n : Nat) := (⟨_, by conv => rhs; reduce⟩ : {g // g = fun vs H => funS (s212 D n) D n 212 Tryz.f212 h212 [f212j0 D n] vs H}).1
theorem f212_eq (D : Dyn) (n : Nat) : f212 D n = funKp (s212 D n) D n 212 Tryz.f212 (ms h212) := by kernel_rfl
theorem f212_ok {D : Dyn} (hD : DP D) (n : Nat) : FP 212 (f212 D n) := fun_okP X_ok hD (SP.cons (f270_ok hD n) (SP.cons (f269_ok hD n) (SP.nil))) Tryz.func212 (by kernel_rfl) (by kernel_rfl) (f212_eq D n)
attribute [local irreducible] f212

def s271 (D : Dyn) (n : Nat) : Tb := ⟨X, [(141, f141 D n)]⟩
def h271 : Hint := (.s .o (.s .o (.s (.s .o (.cl (.s .o (.s .o .o)) .o)) (.s .o .o))))
def f271 (D : Dyn) (n : Nat) := (⟨_, by conv => rhs; reduce⟩ : {g // g = fun vs H => funS (s271 D n) D n 271 Tryz.f271 h271 [] vs H}).1
theorem f271_eq (D : Dyn) (n : Nat) : f271 D n = funKp (s271 D n) D n 271 Tryz.f271 (ms h271) := by kernel_rfl
theorem f271_ok {D : Dyn} (hD : DP D) (n : Nat) : FP 271 (f271 D n) := fun_okP X_ok hD (SP.cons (f141_ok hD n) (SP.nil)) Tryz.func271 (by kernel_rfl) (by kernel_rfl) (f271_eq D n)
attribute [local irreducible] f271

def s213 (D : Dyn) (n : Nat) : Tb := ⟨X, [(271, f271 D n), (270, f270 D n)]⟩
def h213 : Hint := (.s .o (.s .o .o))
def f213 (D : Dyn) (n : Nat) := (⟨_, by conv => rhs; reduce⟩ : {g // g = fun vs H => funS (s213 D n) D n 213 Tryz.f213 h213 [] vs H}).1
theorem f213_eq (D : Dyn) (n : Nat) : f213 D n = funKp (s213 D n) D n 213 Tryz.f213 (ms h213) := by kernel_rfl
theorem f213_ok {D : Dyn} (hD : DP D) (n : Nat) : FP 213 (f213 D n) := fun_okP X_ok hD (SP.cons (f271_ok hD n) (SP.cons (f270_ok hD n) (SP.nil))) Tryz.func213 (by kernel_rfl) (by kernel_rfl) (f213_eq D n)
attribute [local irreducible] f213

def s214 (D : Dyn) (n : Nat) : Tb := ⟨X, [(105, f105 D n)]⟩
def h214 : Hint := (.s .o (.s .o .o))
def f214 (D : Dyn) (n : Nat) := (⟨_, by conv => rhs; reduce⟩ : {g // g = fun vs H => funS (s214 D n) D n 214 Tryz.f214 h214 [] vs H}).1
theorem f214_eq (D : Dyn) (n : Nat) : f214 D n = funKp (s214 D n) D n 214 Tryz.f214 (ms h214) := by kernel_rfl
theorem f214_ok {D : Dyn} (hD : DP D) (n : Nat) : FP 214 (f214 D n) := fun_okP X_ok hD (SP.cons (f105_ok hD n) (SP.nil)) Tryz.func214 (by kernel_rfl) (by kernel_rfl) (f214_eq D n)
attribute [local irreducible] f214

def s211 (D : Dyn) (n : Nat) : Tb := ⟨X, [(212, f212 D n), (213, f213 D n), (214, f214 D n), (105, f105 D n)]⟩
def h211 : Hint := (.s .o (.b0 (.s .o (.c [11] (.b [2,2,5,31] .o) (.s .o (.c [10] (.b [2,2,5,31] .o) (.s .o (.c [9] (.b [5,30,8,255] .o) (.s .o (.c [8] (.b [5,30,8,255] .o) (.s .o (.c [7] (.b [5,30,8,255] .o) (.s .o (.c [6] (.b [5,30,8,255] .o) (.s .o (.c [5] (.b [5,30,8,255] .o) (.s .o (.c [4] (.b [5,30,8,255] .o) (.s .o (.c [3] (.b [5,30,8,255] .o) (.s .o (.c [2] (.b [5,30,8,255] .o) (.s .o (.c [1] (.b [5,30,8,255] .o) (.s .o (.c [0] (.b [5,30,8,255] .o) .o))))))))))))))))))))))))))
def f211j0 (D : Dyn) (n : Nat) := (⟨_, by conv => rhs; reduce⟩ : {g // some g = prtF (s211 D n) D n 211 Tryz.f211 h211 [] 0}).1
attribute [local irreducible] f211j0
def f211j1 (D : Dyn) (n : Nat) := (⟨_, by conv => rhs; reduce⟩ : {g // some g = prtF (s211 D n) D n 211 Tryz.f211 h211 [f211j0 D n] 1}).1
attribute [local irreducible] f211j1
def f211j2 (D : Dyn) (n : Nat) := (⟨_, by conv => rhs; reduce⟩ : {g // some g = prtF (s211 D n) D n 211 Tryz.f211 h211 [f211j0 D n, f211j1 D n] 2}).1
attribute [local irreducible] f211j2
def f211j3 (D : Dyn) (n : Nat) := (⟨_, by conv => rhs; reduce⟩ : {g // some g = prtF (s211 D n) D n 211 Tryz.f211 h211 [f211j0 D n, f211j1 D n, f211j2 D n] 3}).1
attribute [local irreducible] f211j3
def f211j4 (D : Dyn) (n : Nat) := (⟨_, by conv => rhs; reduce⟩ : {g // some g = prtF (s211 D n) D n 211 Tryz.f211 h211 [f211j0 D n, f211j1 D n, f211j2 D n, f211j3 D n] 4}).1
attribute [local irreducible] f211j4
def f211j5 (D : Dyn) (n : Nat) := (⟨_, by conv => rhs; reduce⟩ : {g // some g = prtF (s211 D n) D n 211 Tryz.f211 h211 [f211j0 D n, f211j1 D n, f211j2 D n, f211j3 D n, f211j4 D n] 5}).1
attribute [local irreducible] f211j5
def f211j6 (D : Dyn) (n : Nat) := (⟨_, by conv => rhs; reduce⟩ : {g // some g = prtF (s211 D n) D n 211 Tryz.f211 h211 [f211j0 D n, f211j1 D n, f211j2 D n, f211j3 D n, f211j4 D n, f211j5 D n] 6}).1
attribute [local irreducible] f211j6
def f211j7 (D : Dyn) (n : Nat) := (⟨_, by conv => rhs; reduce⟩ : {g // some g = prtF (s211 D n) D n 211 Tryz.f211 h211 [f211j0 D n, f211j1 D n, f211j2 D n, f211j3 D n, f211j4 D n, f211j5 D n, f211j6 D n] 7}).1
attribute [local irreducible] f211j7
def f211j8 (D : Dyn) (n : Nat) := (⟨_, by conv => rhs; reduce⟩ : {g // some g = prtF (s211 D n) D n 211 Tryz.f211 h211 [f211j0 D n, f211j1 D n, f211j2 D n, f211j3 D n, f211j4 D n, f211j5 D n, f211j6 D n, f211j7 D n] 8}).1
attribute [local irreducible] f211j8
def f211j9 (D : Dyn) (n : Nat) := (⟨_, by conv => rhs; reduce⟩ : {g // some g = prtF (s211 D n) D n 211 Tryz.f211 h211 [f211j0 D n, f211j1 D n, f211j2 D n, f211j3 D n, f211j4 D n, f211j5 D n, f211j6 D n, f211j7 D n, f211j8 D n] 9}).1
attribute [local irreducible] f211j9
def f211j10 (D : Dyn) (n : Nat) := (⟨_, by conv => rhs; reduce⟩ : {g // some g = prtF (s211 D n) D n 211 Tryz.f211 h211 [f211j0 D n, f211j1 D n, f211j2 D n, f211j3 D n, f211j4 D n, f211j5 D n, f211j6 D n, f211j7 D n, f211j8 D n, f211j9 D n] 10}).1
attribute [local irreducible] f211j10
def f211j11 (D : Dyn) (n : Nat) := (⟨_, by conv => rhs; reduce⟩ : {g // some g = prtF (s211 D n) D n 211 Tryz.f211 h211 [f211j0 D n, f211j1 D n, f211j2 D n, f211j3 D n, f211j4 D n, f211j5 D n, f211j6 D n, f211j7 D n, f211j8 D n, f211j9 D n, f211j10 D n] 11}).1
attribute [local irreducible] f211j11
def f211 (D : Dyn) (n : Nat) := (⟨_, by conv => rhs; reduce⟩ : {g // g = fun vs H => funS (s211 D n) D n 211 Tryz.f211 h211 [f211j0 D n, f211j1 D n, f211j2 D n, f211j3 D n, f211j4 D n, f211j5 D n, f211j6 D n, f211j7 D n, f211j8 D n, f211j9 D n, f211j10 D n, f211j11 D n] vs H}).1
theorem f211_eq (D : Dyn) (n : Nat) : f211 D n = funKp (s211 D n) D n 211 Tryz.f211 (ms h211) := by kernel_rfl
theorem f211_ok {D : Dyn} (hD : DP D) (n : Nat) : FP 211 (f211 D n) := fun_okP X_ok hD (SP.cons (f212_ok hD n) (SP.cons (f213_ok hD n) (SP.cons (f214_ok hD n) (SP.cons (f105_ok hD n) (SP.nil))))) Tryz.func211 (by kernel_rfl) (by kernel_rfl) (f211_eq D n)
attribute [local irreducible] f211

def s143 (D : Dyn) (n : Nat) : Tb := ⟨X, []⟩
def h143 : Hint := (.s .o (.s .o .o))
def f143 (D : Dyn) (n : Nat) := (⟨_, by conv => rhs; reduce⟩ : {g // g = fun vs H => funS (s143 D n) D n 143 Tryz.f143 h143 [] vs H}).1
theorem f143_eq (D : Dyn) (n : Nat) : f143 D n = funKp (s143 D n) D n 143 Tryz.f143 (ms h143) := by kernel_rfl
theorem f143_ok {D : Dyn} (hD : DP D) (n : Nat) : FP 143 (f143 D n) := fun_okP X_ok hD (SP.nil) Tryz.func143 (by kernel_rfl) (by kernel_rfl) (f143_eq D n)
attribute [local irreducible] f143

def s144 (D : Dyn) (n : Nat) : Tb := ⟨X, [(164, f164 D n)]⟩
def h144 : Hint := (.s .o (.s .o .o))
def f144 (D : Dyn) (n : Nat) := (⟨_, by conv => rhs; reduce⟩ : {g // g = fun vs H => funS (s144 D n) D n 144 Tryz.f144 h144 [] vs H}).1
theorem f144_eq (D : Dyn) (n : Nat) : f144 D n = funKp (s144 D n) D n 144 Tryz.f144 (ms h144) := by kernel_rfl
theorem f144_ok {D : Dyn} (hD : DP D) (n : Nat) : FP 144 (f144 D n) := fun_okP X_ok hD (SP.cons (f164_ok hD n) (SP.nil)) Tryz.func144 (by kernel_rfl) (by kernel_rfl) (f144_eq D n)
attribute [local irreducible] f144

def s145 (D : Dyn) (n : Nat) : Tb := ⟨X, [(164, f164 D n)]⟩
def h145 : Hint := (.s .o (.s .o .o))
def f145 (D : Dyn) (n : Nat) := (⟨_, by conv => rhs; reduce⟩ : {g // g = fun vs H => funS (s145 D n) D n 145 Tryz.f145 h145 [] vs H}).1
theorem f145_eq (D : Dyn) (n : Nat) : f145 D n = funKp (s145 D n) D n 145 Tryz.f145 (ms h145) := by kernel_rfl
theorem f145_ok {D : Dyn} (hD : DP D) (n : Nat) : FP 145 (f145 D n) := fun_okP X_ok hD (SP.cons (f164_ok hD n) (SP.nil)) Tryz.func145 (by kernel_rfl) (by kernel_rfl) (f145_eq D n)
attribute [local irreducible] f145

def s87 (D : Dyn) (n : Nat) : Tb := ⟨X, [(132, f132 D n), (104, f104 D n), (143, f143 D n), (144, f144 D n), (145, f145 D n)]⟩
def h87 : Hint := (.s .o (.s .o (.s (.s .o (.cl (.s .o .o) .o)) (.s .o (.s .o (.s .o (.s (.s .o (.b [1,4,8,9] (.l [0,4,8,9,10,27,28,29] (.s .o (.s (.cr .o .o) (.s (.b0 (.s .o (.s .o (.s .o (.cl (.s .o .o) .o))))) .o)))))) (.s (.s .o (.cl (.s .o .o) .o)) (.s .o .o)))))))))
def f87l0 (D : Dyn) (n : Nat) := (⟨_, by conv => rhs; reduce⟩ : {g // some g = prtF (s87 D n) D n 87 Tryz.f87 h87 [] 0}).1
attribute [local irreducible] f87l0
def f87b1 (D : Dyn) (n : Nat) := (⟨_, by conv => rhs; reduce⟩ : {g // some g = prtF (s87 D n) D n 87 Tryz.f87 h87 [f87l0 D n] 1}).1
attribute [local irreducible] f87b1
def f87 (D : Dyn) (n : Nat) := (⟨_, by conv => rhs; reduce⟩ : {g // g = fun vs H => funS (s87 D n) D n 87 Tryz.f87 h87 [f87l0 D n, f87b1 D n] vs H}).1
theorem f87_eq (D : Dyn) (n : Nat) : f87 D n = funKp (s87 D n) D n 87 Tryz.f87 (ms h87) := by kernel_rfl
theorem f87_ok {D : Dyn} (hD : DP D) (n : Nat) : FP 87 (f87 D n) := fun_okP X_ok hD (SP.cons (f132_ok hD n) (SP.cons (f104_ok hD n) (SP.cons (f143_ok hD n) (SP.cons (f144_ok hD n) (SP.cons (f145_ok hD n) (SP.nil)))))) Tryz.func87 (by kernel_rfl) (by kernel_rfl) (f87_eq D n)
attribute [local irreducible] f87

def s220 (D : Dyn) (n : Nat) : Tb := ⟨X, []⟩
def h220 : Hint := (.s .o (.s (.s .o (.b0 (.s (.s .o (.c [8,3,5,6] .o (.s .o (.c [7,3,5,6] .o (.s .o (.c [6,3,5,6] .o (.s .o (.c [5,3,5,6] .o (.s .o (.c [4,3,5,6] .o (.s .o (.c [3,3,5,6] .o (.s .o (.c [2,3,5,6] .o (.s .o (.c [1,3,5,6] .o (.s .o (.c [0,3,5,6] .o .o)))))))))))))))))) (.cl (.s .o .o) (.s .o (.cl (.s .o .o) .o)))))) (.s .o .o)))
def f220j0 (D : Dyn) (n : Nat) := (⟨_, by conv => rhs; reduce⟩ : {g // some g = prtF (s220 D n) D n 220 Tryz.f220 h220 [] 0}).1
attribute [local irreducible] f220j0
def f220j1 (D : Dyn) (n : Nat) := (⟨_, by conv => rhs; reduce⟩ : {g // some g = prtF (s220 D n) D n 220 Tryz.f220 h220 [f220j0 D n] 1}).1
attribute [local irreducible] f220j1
def f220j2 (D : Dyn) (n : Nat) := (⟨_, by conv => rhs; reduce⟩ : {g // some g = prtF (s220 D n) D n 220 Tryz.f220 h220 [f220j0 D n, f220j1 D n] 2}).1
attribute [local irreducible] f220j2
def f220j3 (D : Dyn) (n : Nat) := (⟨_, by conv => rhs; reduce⟩ : {g // some g = prtF (s220 D n) D n 220 Tryz.f220 h220 [f220j0 D n, f220j1 D n, f220j2 D n] 3}).1
attribute [local irreducible] f220j3
def f220j4 (D : Dyn) (n : Nat) := (⟨_, by conv => rhs; reduce⟩ : {g // some g = prtF (s220 D n) D n 220 Tryz.f220 h220 [f220j0 D n, f220j1 D n, f220j2 D n, f220j3 D n] 4}).1
attribute [local irreducible] f220j4
def f220j5 (D : Dyn) (n : Nat) := (⟨_, by conv => rhs; reduce⟩ : {g // some g = prtF (s220 D n) D n 220 Tryz.f220 h220 [f220j0 D n, f220j1 D n, f220j2 D n, f220j3 D n, f220j4 D n] 5}).1
attribute [local irreducible] f220j5
def f220j6 (D : Dyn) (n : Nat) := (⟨_, by conv => rhs; reduce⟩ : {g // some g = prtF (s220 D n) D n 220 Tryz.f220 h220 [f220j0 D n, f220j1 D n, f220j2 D n, f220j3 D n, f220j4 D n, f220j5 D n] 6}).1
attribute [local irreducible] f220j6
def f220j7 (D : Dyn) (n : Nat) := (⟨_, by conv => rhs; reduce⟩ : {g // some g = prtF (s220 D n) D n 220 Tryz.f220 h220 [f220j0 D n, f220j1 D n, f220j2 D n, f220j3 D n, f220j4 D n, f220j5 D n, f220j6 D n] 7}).1
attribute [local irreducible] f220j7
def f220j8 (D : Dyn) (n : Nat) := (⟨_, by conv => rhs; reduce⟩ : {g // some g = prtF (s220 D n) D n 220 Tryz.f220 h220 [f220j0 D n, f220j1 D n, f220j2 D n, f220j3 D n, f220j4 D n, f220j5 D n, f220j6 D n, f220j7 D n] 8}).1
attribute [local irreducible] f220j8
def f220 (D : Dyn) (n : Nat) := (⟨_, by conv => rhs; reduce⟩ : {g // g = fun vs H => funS (s220 D n) D n 220 Tryz.f220 h220 [f220j0 D n, f220j1 D n, f220j2 D n, f220j3 D n, f220j4 D n, f220j5 D n, f220j6 D n, f220j7 D n, f220j8 D n] vs H}).1
theorem f220_eq (D : Dyn) (n : Nat) : f220 D n = funKp (s220 D n) D n 220 Tryz.f220 (ms h220) := by kernel_rfl
theorem f220_ok {D : Dyn} (hD : DP D) (n : Nat) : FP 220 (f220 D n) := fun_okP X_ok hD (SP.nil) Tryz.func220 (by kernel_rfl) (by kernel_rfl) (f220_eq D n)
attribute [local irreducible] f220

def s147 (D : Dyn) (n : Nat) : Tb := ⟨X, [(220, f220 D n)]⟩
def h147 : Hint := (.s .o (.s .o .o))
def f147 (D : Dyn) (n : Nat) := (⟨_, by conv => rhs; reduce⟩ : {g // g = fun vs H => funS (s147 D n) D n 147 Tryz.f147 h147 [] vs H}).1
theorem f147_eq (D : Dyn) (n : Nat) : f147 D n = funKp (s147 D n) D n 147 Tryz.f147 (ms h147) := by kernel_rfl
theorem f147_ok {D : Dyn} (hD : DP D) (n : Nat) : FP 147 (f147 D n) := fun_okP X_ok hD (SP.cons (f220_ok hD n) (SP.nil)) Tryz.func147 (by kernel_rfl) (by kernel_rfl) (f147_eq D n)
attribute [local irreducible] f147

def s148 (D : Dyn) (n : Nat) : Tb := ⟨X, []⟩
def h148 : Hint := (.s .o (.s .o .o))
def f148 (D : Dyn) (n : Nat) := (⟨_, by conv => rhs; reduce⟩ : {g // g = fun vs H => funS (s148 D n) D n 148 Tryz.f148 h148 [] vs H}).1
theorem f148_eq (D : Dyn) (n : Nat) : f148 D n = funKp (s148 D n) D n 148 Tryz.f148 (ms h148) := by kernel_rfl
theorem f148_ok {D : Dyn} (hD : DP D) (n : Nat) : FP 148 (f148 D n) := fun_okP X_ok hD (SP.nil) Tryz.func148 (by kernel_rfl) (by kernel_rfl) (f148_eq D n)
attribute [local irreducible] f148

def s221 (D : Dyn) (n : Nat) : Tb := ⟨X, []⟩
def h221 : Hint := (.s .o (.s (.s .o (.b [1] (.l [0,0,3,7,8] (.s .o (.s (.cr .o .o) (.s (.b0 (.s .o (.s (.b [] .o) (.cl (.s .o .o) .o)))) .o)))))) (.s .o .o)))
def f221l0 (D : Dyn) (n : Nat) := (⟨_, by conv => rhs; reduce⟩ : {g // some g = prtF (s221 D n) D n 221 Tryz.f221 h221 [] 0}).1
attribute [local irreducible] f221l0
def f221b1 (D : Dyn) (n : Nat) := (⟨_, by conv => rhs; reduce⟩ : {g // some g = prtF (s221 D n) D n 221 Tryz.f221 h221 [f221l0 D n] 1}).1
attribute [local irreducible] f221b1
def f221 (D : Dyn) (n : Nat) := (⟨_, by conv => rhs; reduce⟩ : {g // g = fun vs H => funS (s221 D n) D n 221 Tryz.f221 h221 [f221l0 D n, f221b1 D n] vs H}).1
theorem f221_eq (D : Dyn) (n : Nat) : f221 D n = funKp (s221 D n) D n 221 Tryz.f221 (ms h221) := by kernel_rfl
theorem f221_ok {D : Dyn} (hD : DP D) (n : Nat) : FP 221 (f221 D n) := fun_okP X_ok hD (SP.nil) Tryz.func221 (by kernel_rfl) (by kernel_rfl) (f221_eq D n)
attribute [local irreducible] f221

def s149 (D : Dyn) (n : Nat) : Tb := ⟨X, [(221, f221 D n)]⟩
def h149 : Hint := (.s .o (.s .o .o))
def f149 (D : Dyn) (n : Nat) := (⟨_, by conv => rhs; reduce⟩ : {g // g = fun vs H => funS (s149 D n) D n 149 Tryz.f149 h149 [] vs H}).1
theorem f149_eq (D : Dyn) (n : Nat) : f149 D n = funKp (s149 D n) D n 149 Tryz.f149 (ms h149) := by kernel_rfl
theorem f149_ok {D : Dyn} (hD : DP D) (n : Nat) : FP 149 (f149 D n) := fun_okP X_ok hD (SP.cons (f221_ok hD n) (SP.nil)) Tryz.func149 (by kernel_rfl) (by kernel_rfl) (f149_eq D n)
attribute [local irreducible] f149
end Go.Eng.Sh
