/- Shallow functions, by program (gent4.py). -/
import Derived.Test.YtnjljebicihpaaaGreatDoorWX7
import Derived.Test.YtnjljebicihpaaaGreatDoorProg
import Derived.KernelRfl
noncomputable section
namespace Go.Eng.Sh
open Go.Proofs
set_option maxRecDepth 100000
set_option maxHeartbeats 4000000
set_option linter.all false
attribute [local irreducible] bV bR hd cnd jn jb loopK wnt chk newB bA bInt bStr bBool cmpO eqP eqS eqM eqF eqPL cvI cvSS slStr slArr ixArr ixSl ixStr fAd lnStr lnSl lnMap pk3 s2a bxV lkM upM dlM mkM callV nl outR tld endQ beginK endR endLp jmpK rfC mn2 mx2 aun pExtract pNil undefA isW aveq ldNp ld1p stNp cvBSp cvSBp slSlp ixAg1p ixAgNp fd1p fdNp apPp apZp cpyp bldSp bldAp bldLp mkSlp eqAp clSp bC pnK ifNil asrK noPan mkR clM acap mtp358_0 mtp295_0 mtp297_0 f33 f11 f98 f102 f58 f161l0 f161b1 f161 f167l0 f167b1 f167 f162 f103 f163 f104 f210 f141l0 f141b1 f141 f164 f105 f165l0 f165b1 f165 m165 f106 f59 f60 f34j0 f34l1 f34b2 f34 f166 f107 f266 f267 f237 f168 f109 f169 f108 f61 f110 f62l0 f62b1 f62 f35 f111 f112 f114 f170 f113l0 f113b1 f113 f115 f240 f369 f422 f425j0 f425 f421j0 f421j1 f421j2 f421j3 f421 f424j0 f424j1 f424 f370j0 f370j1 f370 f350 f407 f351 f318 f300j0 f300j1 f300j2 f300 f352 f365 f364l0 f364l1 f364b2 f364l3 f364b4 f364b5 f364 f409l0 f409l1 f409b2 f409b3 f409 f356 f408 f353 f355 f301l0 f301b1 f301l2 f301b3 f301j4 f301 f241 f242 f185 f183 f238l0 f238b1 f238 r238_0 f171 f116 r116_0 f63j0 f63 f119 f65 f66 f64l0 f64b1 f64l2 f64b3 f64 f67 f120 f175 m121 f121 f176 f177 f178 f179 f180j0 f180 f181 f122 f68j0 f68l1 f68b2 f68 f36l0 f36b1 f36 f71 f126 f72 f184 m184 f127 f73 f128 f302j0 f302j1 rc302 f243 f186 f303 f357l0 f357b1 f357 f304 f305j0 f305l1 f305b2 f305 f244l0 f244b1 f244 f191j0 f191 f188 f306 f307 f308 f245l0 f245b1 f245 f190j0 f190 f309 f310 f246l0 f246b1 f246 f359 f358j0 f358l1 f358b2 f358 f411l0 f411b1 f411 f414l0 f414b1 f414 f363j0 f363j1 f363 f362 f360j0 f360j1 f360 f311 f366 m366 f313 f312 f249 f194 f192 f247l0 f247b1 f247 f248 f193 f195 f187j0 f187 f129 f314l0 f314b1 f314 f250l0 f250b1 f250 f197j0 f197 f196j0 f196 f130 f253 f316 f417 f367j0 f367l1 f367b2 f367j3 f367 f426l0 f426b1 f426 f371 f419l0 f419b1 f419 r419_0 f420 f368 f317l0 f317j1 f317b2 f317 f239 f261j0 f261 f254l0 f254b1 f254l2 f254b3 f254j4 f254 f255 f319 r319_0 f257j0 f257 f199j0 f199l1 f199l2 f199b3 f199b4 f199 f258 f201 f259l0 f259b1 f259 f260 f202 f200 m131 f131l0 f131j1 f131l2 f131b3 f131b4 f131j5 f131 f131j5q f131q f74 f37 f38 f76 f39 f12j0 f12 f13 f40 f14 f4l0 f4b1 f4 f27 f41 f132 f320l0 f320b1 f320 f372l0 f372b1 f372 f373l0 f373b1 f373 f321l0 f321b1 f321 f262 f323 f322l0 f322b1 f322 f263 f203 f264 f204 f265 f205 f133j0 f133j1 f133j2 f133j3 f133j4 f133j5 f133j6 f133j7 f133j8 f133j9 f133j10 f133j11 f133 f77l0 f77b1 f77 f134 f135 f207 f136l0 f136b1 f136 f78 f79 f42 f93 f80 f43 f15j0 f15 f208l0 f208b1 f208 f137 f138 f81 f44 f16j0 f16 f82 f139 f83 f45 f84j0 f84 f85 f152b0 f152b1 f152b2 f152b3 f152b4 f152 f142 f86j0 f86 f270l0 f270b1 f270 f269l0 f269b1 f269l2 f269b3 f269 f212j0 f212 f271 f213 f214 f211j0 f211j1 f211j2 f211j3 f211j4 f211j5 f211j6 f211j7 f211j8 f211j9 f211j10 f211j11 f211 f143 f144 f145 f87l0 f87b1 f87 f220j0 f220j1 f220j2 f220j3 f220j4 f220j5 f220j6 f220j7 f220j8 f220 f147 f148 f221l0 f221b1 f221 f149
def s285 (D : Dyn) (n : Nat) : Tb := ⟨X, []⟩
def h285 : Hint := (.s .o (.s (.s .o (.c [2,0,2] (.s .o .o) .o)) (.s (.s .o (.c [1,0,2] (.s .o .o) .o)) (.s (.s .o (.c [0,0,2] (.s .o .o) .o)) (.s .o .o)))))
def f285j0 (D : Dyn) (n : Nat) := (⟨_, by conv => rhs; reduce⟩ : {g // some g = prtF (s285 D n) D n 285 Tryz.f285 h285 [] 0}).1
attribute [local irreducible] f285j0
def f285j1 (D : Dyn) (n : Nat) := (⟨_, by conv => rhs; reduce⟩ : {g // some g = prtF (s285 D n) D n 285 Tryz.f285 h285 [f285j0 D n] 1}).1
attribute [local irreducible] f285j1
def f285j2 (D : Dyn) (n : Nat) := (⟨_, by conv => rhs; reduce⟩ : {g // some g = prtF (s285 D n) D n 285 Tryz.f285 h285 [f285j0 D n, f285j1 D n] 2}).1
attribute [local irreducible] f285j2
def f285 (D : Dyn) (n : Nat) := (⟨_, by conv => rhs; reduce⟩ : {g // g = fun vs H => funS (s285 D n) D n 285 Tryz.f285 h285 [f285j0 D n, f285j1 D n, f285j2 D n] vs H}).1
theorem f285_eq (D : Dyn) (n : Nat) : f285 D n = funKp (s285 D n) D n 285 Tryz.f285 (ms h285) := by kernel_rfl
theorem f285_ok {D : Dyn} (hD : DP D) (n : Nat) : FP 285 (f285 D n) := fun_okP X_ok hD (SP.nil) Tryz.func285 (by kernel_rfl) (by kernel_rfl) (f285_eq D n)
attribute [local irreducible] f285

def s223 (D : Dyn) (n : Nat) : Tb := ⟨X, [(285, f285 D n)]⟩
def h223 : Hint := (.s .o (.s (.cl (.s .o .o) .o) (.s .o .o)))
def f223 (D : Dyn) (n : Nat) := (⟨_, by conv => rhs; reduce⟩ : {g // g = fun vs H => funS (s223 D n) D n 223 Tryz.f223 h223 [] vs H}).1
theorem f223_eq (D : Dyn) (n : Nat) : f223 D n = funKp (s223 D n) D n 223 Tryz.f223 (ms h223) := by kernel_rfl
theorem f223_ok {D : Dyn} (hD : DP D) (n : Nat) : FP 223 (f223 D n) := fun_okP X_ok hD (SP.cons (f285_ok hD n) (SP.nil)) Tryz.func223 (by kernel_rfl) (by kernel_rfl) (f223_eq D n)
attribute [local irreducible] f223

def s276 (D : Dyn) (n : Nat) : Tb := ⟨X, []⟩
def h276 : Hint := (.s .o (.b [3] (.l [2,0,1,2,3,8] (.s (.s .o (.cr .o .o)) (.s (.b0 (.s .o (.b [1,0,1,2,3,8] (.l [0,0,1,2,3,8,9] (.s (.s (.b [14,16383] .o) (.cr .o .o)) (.s (.b0 (.b [15,32739,17,131071] .o)) .o)))))) .o)))))
def f276l0 (D : Dyn) (n : Nat) := (⟨_, by conv => rhs; reduce⟩ : {g // some g = prtF (s276 D n) D n 276 Tryz.f276 h276 [] 0}).1
attribute [local irreducible] f276l0
def f276b1 (D : Dyn) (n : Nat) := (⟨_, by conv => rhs; reduce⟩ : {g // some g = prtF (s276 D n) D n 276 Tryz.f276 h276 [f276l0 D n] 1}).1
attribute [local irreducible] f276b1
def f276l2 (D : Dyn) (n : Nat) := (⟨_, by conv => rhs; reduce⟩ : {g // some g = prtF (s276 D n) D n 276 Tryz.f276 h276 [f276l0 D n, f276b1 D n] 2}).1
attribute [local irreducible] f276l2
def f276b3 (D : Dyn) (n : Nat) := (⟨_, by conv => rhs; reduce⟩ : {g // some g = prtF (s276 D n) D n 276 Tryz.f276 h276 [f276l0 D n, f276b1 D n, f276l2 D n] 3}).1
attribute [local irreducible] f276b3
def f276 (D : Dyn) (n : Nat) := (⟨_, by conv => rhs; reduce⟩ : {g // g = fun vs H => funS (s276 D n) D n 276 Tryz.f276 h276 [f276l0 D n, f276b1 D n, f276l2 D n, f276b3 D n] vs H}).1
theorem f276_eq (D : Dyn) (n : Nat) : f276 D n = funKp (s276 D n) D n 276 Tryz.f276 (ms h276) := by kernel_rfl
theorem f276_ok {D : Dyn} (hD : DP D) (n : Nat) : FP 276 (f276 D n) := fun_okP X_ok hD (SP.nil) Tryz.func276 (by kernel_rfl) (by kernel_rfl) (f276_eq D n)
attribute [local irreducible] f276

def s222 (D : Dyn) (n : Nat) : Tb := ⟨X, [(276, f276 D n)]⟩
def h222 : Hint := (.s .o (.s .o (.b0 (.l [5,0,1,2,3,4,10,11] (.b [4,0,1,2,3,4,10,11] (.s .o (.s (.s .o (.cl (.s .o .o) .o)) (.s (.s .o (.cl (.s .o .o) .o)) (.s (.s .o (.c [3,0,1,2,3,4,10,11,12] (.s .o .o) .o)) (.s .o (.s (.s .o (.c [2,0,1,2,3,4,10,11,12,13,14] (.s .o (.s .o .o)) .o)) (.s (.s .o (.c [1,0,1,2,3,4,10,11,12,13] (.s .o (.cl .o .o)) .o)) (.s (.s (.b [13,8191] .o) (.cl (.s .o (.s .o .o)) .o)) (.s .o (.s .o (.s .o (.s .o (.s .o (.c [0,0,1,2,3,4,10,11] (.s .o (.s .o .o)) (.s .o (.s .o .o)))))))))))))))))))))
def f222j0 (D : Dyn) (n : Nat) := (⟨_, by conv => rhs; reduce⟩ : {g // some g = prtF (s222 D n) D n 222 Tryz.f222 h222 [] 0}).1
attribute [local irreducible] f222j0
def f222j1 (D : Dyn) (n : Nat) := (⟨_, by conv => rhs; reduce⟩ : {g // some g = prtF (s222 D n) D n 222 Tryz.f222 h222 [f222j0 D n] 1}).1
attribute [local irreducible] f222j1
def f222j2 (D : Dyn) (n : Nat) := (⟨_, by conv => rhs; reduce⟩ : {g // some g = prtF (s222 D n) D n 222 Tryz.f222 h222 [f222j0 D n, f222j1 D n] 2}).1
attribute [local irreducible] f222j2
def f222j3 (D : Dyn) (n : Nat) := (⟨_, by conv => rhs; reduce⟩ : {g // some g = prtF (s222 D n) D n 222 Tryz.f222 h222 [f222j0 D n, f222j1 D n, f222j2 D n] 3}).1
attribute [local irreducible] f222j3
def f222b4 (D : Dyn) (n : Nat) := (⟨_, by conv => rhs; reduce⟩ : {g // some g = prtF (s222 D n) D n 222 Tryz.f222 h222 [f222j0 D n, f222j1 D n, f222j2 D n, f222j3 D n] 4}).1
attribute [local irreducible] f222b4
def f222l5 (D : Dyn) (n : Nat) := (⟨_, by conv => rhs; reduce⟩ : {g // some g = prtF (s222 D n) D n 222 Tryz.f222 h222 [f222j0 D n, f222j1 D n, f222j2 D n, f222j3 D n, f222b4 D n] 5}).1
attribute [local irreducible] f222l5
def f222 (D : Dyn) (n : Nat) := (⟨_, by conv => rhs; reduce⟩ : {g // g = fun vs H => funS (s222 D n) D n 222 Tryz.f222 h222 [f222j0 D n, f222j1 D n, f222j2 D n, f222j3 D n, f222b4 D n, f222l5 D n] vs H}).1
theorem f222_eq (D : Dyn) (n : Nat) : f222 D n = funKp (s222 D n) D n 222 Tryz.f222 (ms h222) := by kernel_rfl
theorem f222_ok {D : Dyn} (hD : DP D) (n : Nat) : FP 222 (f222 D n) := fun_okP X_ok hD (SP.cons (f276_ok hD n) (SP.nil)) Tryz.func222 (by kernel_rfl) (by kernel_rfl) (f222_eq D n)
attribute [local irreducible] f222

def s150 (D : Dyn) (n : Nat) : Tb := ⟨X, [(223, f223 D n), (222, f222 D n)]⟩
def h150 : Hint := (.s .o .o)
def f150 (D : Dyn) (n : Nat) := (⟨_, by conv => rhs; reduce⟩ : {g // g = fun vs H => funS (s150 D n) D n 150 Tryz.f150 h150 [] vs H}).1
theorem f150_eq (D : Dyn) (n : Nat) : f150 D n = funKp (s150 D n) D n 150 Tryz.f150 (ms h150) := by kernel_rfl
theorem f150_ok {D : Dyn} (hD : DP D) (n : Nat) : FP 150 (f150 D n) := fun_okP X_ok hD (SP.cons (f223_ok hD n) (SP.cons (f222_ok hD n) (SP.nil))) Tryz.func150 (by kernel_rfl) (by kernel_rfl) (f150_eq D n)
attribute [local irreducible] f150

def s89 (D : Dyn) (n : Nat) : Tb := ⟨X, [(147, f147 D n), (148, f148 D n), (149, f149 D n), (150, f150 D n)]⟩
def h89 : Hint := (.s .o (.s (.s .o (.cl (.s .o .o) .o)) (.s .o (.s (.s .o (.c [3,0,3,5] .o .o)) (.s .o (.s (.s .o (.b [2,6] (.l [1,0,3,6,30,31,32] (.s .o (.s (.cr .o .o) (.s (.b0 (.s .o (.s (.c [4,12,7,127] (.l [0,1,2,3,6,4,5,7] .o) .o) (.s (.b [5,15,16,65535] .o) (.c [0,0,3,6,30,31,32] .o .o))))) .o)))))) (.s .o (.s .o .o))))))))
def f89j0 (D : Dyn) (n : Nat) := (⟨_, by conv => rhs; reduce⟩ : {g // some g = prtF (s89 D n) D n 89 Tryz.f89 h89 [] 0}).1
attribute [local irreducible] f89j0
def f89l1 (D : Dyn) (n : Nat) := (⟨_, by conv => rhs; reduce⟩ : {g // some g = prtF (s89 D n) D n 89 Tryz.f89 h89 [f89j0 D n] 1}).1
attribute [local irreducible] f89l1
def f89b2 (D : Dyn) (n : Nat) := (⟨_, by conv => rhs; reduce⟩ : {g // some g = prtF (s89 D n) D n 89 Tryz.f89 h89 [f89j0 D n, f89l1 D n] 2}).1
attribute [local irreducible] f89b2
def f89j3 (D : Dyn) (n : Nat) := (⟨_, by conv => rhs; reduce⟩ : {g // some g = prtF (s89 D n) D n 89 Tryz.f89 h89 [f89j0 D n, f89l1 D n, f89b2 D n] 3}).1
attribute [local irreducible] f89j3
def f89 (D : Dyn) (n : Nat) := (⟨_, by conv => rhs; reduce⟩ : {g // g = fun vs H => funS (s89 D n) D n 89 Tryz.f89 h89 [f89j0 D n, f89l1 D n, f89b2 D n, f89j3 D n] vs H}).1
theorem f89_eq (D : Dyn) (n : Nat) : f89 D n = funKp (s89 D n) D n 89 Tryz.f89 (ms h89) := by kernel_rfl
theorem f89_ok {D : Dyn} (hD : DP D) (n : Nat) : FP 89 (f89 D n) := fun_okP X_ok hD (SP.cons (f147_ok hD n) (SP.cons (f148_ok hD n) (SP.cons (f149_ok hD n) (SP.cons (f150_ok hD n) (SP.nil))))) Tryz.func89 (by kernel_rfl) (by kernel_rfl) (f89_eq D n)
attribute [local irreducible] f89

def s324 (D : Dyn) (n : Nat) : Tb := ⟨X, []⟩
def h324 : Hint := (.s .o (.s (.s .o (.b [1] (.l [0,0,1,7,8] (.s .o (.s (.cr .o .o) (.s (.b0 (.s .o (.s .o (.cl (.s .o .o) .o)))) .o)))))) (.s .o .o)))
def f324l0 (D : Dyn) (n : Nat) := (⟨_, by conv => rhs; reduce⟩ : {g // some g = prtF (s324 D n) D n 324 Tryz.f324 h324 [] 0}).1
attribute [local irreducible] f324l0
def f324b1 (D : Dyn) (n : Nat) := (⟨_, by conv => rhs; reduce⟩ : {g // some g = prtF (s324 D n) D n 324 Tryz.f324 h324 [f324l0 D n] 1}).1
attribute [local irreducible] f324b1
def f324 (D : Dyn) (n : Nat) := (⟨_, by conv => rhs; reduce⟩ : {g // g = fun vs H => funS (s324 D n) D n 324 Tryz.f324 h324 [f324l0 D n, f324b1 D n] vs H}).1
theorem f324_eq (D : Dyn) (n : Nat) : f324 D n = funKp (s324 D n) D n 324 Tryz.f324 (ms h324) := by kernel_rfl
theorem f324_ok {D : Dyn} (hD : DP D) (n : Nat) : FP 324 (f324 D n) := fun_okP X_ok hD (SP.nil) Tryz.func324 (by kernel_rfl) (by kernel_rfl) (f324_eq D n)
attribute [local irreducible] f324

def s273 (D : Dyn) (n : Nat) : Tb := ⟨X, [(324, f324 D n)]⟩
def h273 : Hint := (.s .o (.s .o .o))
def f273 (D : Dyn) (n : Nat) := (⟨_, by conv => rhs; reduce⟩ : {g // g = fun vs H => funS (s273 D n) D n 273 Tryz.f273 h273 [] vs H}).1
theorem f273_eq (D : Dyn) (n : Nat) : f273 D n = funKp (s273 D n) D n 273 Tryz.f273 (ms h273) := by kernel_rfl
theorem f273_ok {D : Dyn} (hD : DP D) (n : Nat) : FP 273 (f273 D n) := fun_okP X_ok hD (SP.cons (f324_ok hD n) (SP.nil)) Tryz.func273 (by kernel_rfl) (by kernel_rfl) (f273_eq D n)
attribute [local irreducible] f273

def s215 (D : Dyn) (n : Nat) : Tb := ⟨X, [(273, f273 D n)]⟩
def h215 : Hint := (.s .o (.s (.s .o (.cl (.s .o .o) .o)) (.s (.s .o (.b [1] (.l [0,0,9,10,11] (.s .o (.s (.cr .o .o) (.s (.b0 (.s .o (.s .o (.s .o (.cl (.s .o .o) .o))))) .o)))))) (.s .o .o))))
def f215l0 (D : Dyn) (n : Nat) := (⟨_, by conv => rhs; reduce⟩ : {g // some g = prtF (s215 D n) D n 215 Tryz.f215 h215 [] 0}).1
attribute [local irreducible] f215l0
def f215b1 (D : Dyn) (n : Nat) := (⟨_, by conv => rhs; reduce⟩ : {g // some g = prtF (s215 D n) D n 215 Tryz.f215 h215 [f215l0 D n] 1}).1
attribute [local irreducible] f215b1
def f215 (D : Dyn) (n : Nat) := (⟨_, by conv => rhs; reduce⟩ : {g // g = fun vs H => funS (s215 D n) D n 215 Tryz.f215 h215 [f215l0 D n, f215b1 D n] vs H}).1
theorem f215_eq (D : Dyn) (n : Nat) : f215 D n = funKp (s215 D n) D n 215 Tryz.f215 (ms h215) := by kernel_rfl
theorem f215_ok {D : Dyn} (hD : DP D) (n : Nat) : FP 215 (f215 D n) := fun_okP X_ok hD (SP.cons (f273_ok hD n) (SP.nil)) Tryz.func215 (by kernel_rfl) (by kernel_rfl) (f215_eq D n)
attribute [local irreducible] f215

def s216 (D : Dyn) (n : Nat) : Tb := ⟨X, []⟩
def h216 : Hint := (.s .o (.b [1] (.l [0,1,4] (.s (.s .o (.cr .o .o)) (.s (.b0 .o) .o)))))
def f216l0 (D : Dyn) (n : Nat) := (⟨_, by conv => rhs; reduce⟩ : {g // some g = prtF (s216 D n) D n 216 Tryz.f216 h216 [] 0}).1
attribute [local irreducible] f216l0
def f216b1 (D : Dyn) (n : Nat) := (⟨_, by conv => rhs; reduce⟩ : {g // some g = prtF (s216 D n) D n 216 Tryz.f216 h216 [f216l0 D n] 1}).1
attribute [local irreducible] f216b1
def f216 (D : Dyn) (n : Nat) := (⟨_, by conv => rhs; reduce⟩ : {g // g = fun vs H => funS (s216 D n) D n 216 Tryz.f216 h216 [f216l0 D n, f216b1 D n] vs H}).1
theorem f216_eq (D : Dyn) (n : Nat) : f216 D n = funKp (s216 D n) D n 216 Tryz.f216 (ms h216) := by kernel_rfl
theorem f216_ok {D : Dyn} (hD : DP D) (n : Nat) : FP 216 (f216 D n) := fun_okP X_ok hD (SP.nil) Tryz.func216 (by kernel_rfl) (by kernel_rfl) (f216_eq D n)
attribute [local irreducible] f216

def s218 (D : Dyn) (n : Nat) : Tb := ⟨X, []⟩
def h218 : Hint := (.s .o (.s (.s .o (.cl (.s .o .o) .o)) (.s .o .o)))
def f218 (D : Dyn) (n : Nat) := (⟨_, by conv => rhs; reduce⟩ : {g // g = fun vs H => funS (s218 D n) D n 218 Tryz.f218 h218 [] vs H}).1
theorem f218_eq (D : Dyn) (n : Nat) : f218 D n = funKp (s218 D n) D n 218 Tryz.f218 (ms h218) := by kernel_rfl
theorem f218_ok {D : Dyn} (hD : DP D) (n : Nat) : FP 218 (f218 D n) := fun_okP X_ok hD (SP.nil) Tryz.func218 (by kernel_rfl) (by kernel_rfl) (f218_eq D n)
attribute [local irreducible] f218

def s219 (D : Dyn) (n : Nat) : Tb := ⟨X, [(216, f216 D n)]⟩
def h219 : Hint := (.s .o (.s .o (.s .o (.s .o .o))))
def f219 (D : Dyn) (n : Nat) := (⟨_, by conv => rhs; reduce⟩ : {g // g = fun vs H => funS (s219 D n) D n 219 Tryz.f219 h219 [] vs H}).1
theorem f219_eq (D : Dyn) (n : Nat) : f219 D n = funKp (s219 D n) D n 219 Tryz.f219 (ms h219) := by kernel_rfl
theorem f219_ok {D : Dyn} (hD : DP D) (n : Nat) : FP 219 (f219 D n) := fun_okP X_ok hD (SP.cons (f216_ok hD n) (SP.nil)) Tryz.func219 (by kernel_rfl) (by kernel_rfl) (f219_eq D n)
attribute [local irreducible] f219

def s146 (D : Dyn) (n : Nat) : Tb := ⟨X, [(215, f215 D n), (216, f216 D n), (218, f218 D n), (219, f219 D n)]⟩
def h146 : Hint := (.s .o (.s (.s .o (.cl (.s .o .o) .o)) (.s (.s .o (.cl (.s .o .o) .o)) (.s .o (.s .o (.s .o (.s .o (.s (.s .o (.cl (.s .o .o) .o)) (.s (.s .o (.cl (.s .o .o) .o)) (.s (.b [2,2] .o) (.s .o (.s (.s .o (.c [0,11] .o .o)) (.s .o .o)))))))))))))
def f146j0 (D : Dyn) (n : Nat) := (⟨_, by conv => rhs; reduce⟩ : {g // some g = prtF (s146 D n) D n 146 Tryz.f146 h146 [] 0}).1
attribute [local irreducible] f146j0
def f146 (D : Dyn) (n : Nat) := (⟨_, by conv => rhs; reduce⟩ : {g // g = fun vs H => funS (s146 D n) D n 146 Tryz.f146 h146 [f146j0 D n] vs H}).1
theorem f146_eq (D : Dyn) (n : Nat) : f146 D n = funKp (s146 D n) D n 146 Tryz.f146 (ms h146) := by kernel_rfl
theorem f146_ok {D : Dyn} (hD : DP D) (n : Nat) : FP 146 (f146 D n) := fun_okP X_ok hD (SP.cons (f215_ok hD n) (SP.cons (f216_ok hD n) (SP.cons (f218_ok hD n) (SP.cons (f219_ok hD n) (SP.nil))))) Tryz.func146 (by kernel_rfl) (by kernel_rfl) (f146_eq D n)
attribute [local irreducible] f146

def s88 (D : Dyn) (n : Nat) : Tb := ⟨X, [(146, f146 D n)]⟩
def h88 : Hint := (.s .o (.s (.s .o (.cl (.s .o .o) .o)) (.s (.s .o (.s .o (.cl (.s .o .o) .o))) (.s .o (.s .o (.s (.b [9,511] .o) (.s .o .o)))))))
def f88 (D : Dyn) (n : Nat) := (⟨_, by conv => rhs; reduce⟩ : {g // g = fun vs H => funS (s88 D n) D n 88 Tryz.f88 h88 [] vs H}).1
theorem f88_eq (D : Dyn) (n : Nat) : f88 D n = funKp (s88 D n) D n 88 Tryz.f88 (ms h88) := by kernel_rfl
theorem f88_ok {D : Dyn} (hD : DP D) (n : Nat) : FP 88 (f88 D n) := fun_okP X_ok hD (SP.cons (f146_ok hD n) (SP.nil)) Tryz.func88 (by kernel_rfl) (by kernel_rfl) (f88_eq D n)
attribute [local irreducible] f88

def s46 (D : Dyn) (n : Nat) : Tb := ⟨X, [(84, f84 D n), (85, f85 D n), (86, f86 D n), (87, f87 D n), (89, f89 D n), (88, f88 D n)]⟩
def h46 : Hint := (.s .o (.s (.s .o (.cl (.s .o .o) .o)) (.s (.s .o (.cl (.s .o .o) .o)) (.s .o (.s (.s .o (.b0 (.s .o (.cr .o (.s (.s .o (.c [0,0,5,6,21] .o .o)) (.cl (.s .o (.s .o .o)) (.s .o .o))))))) (.s .o (.s (.s .o (.cl (.s .o (.s .o .o)) .o)) (.s (.s (.b [12,3584,13,8191] .o) (.s .o (.c [1] (.s .o (.b [12,4095] .o)) .o))) (.s .o .o)))))))))
def f46j0 (D : Dyn) (n : Nat) := (⟨_, by conv => rhs; reduce⟩ : {g // some g = prtF (s46 D n) D n 46 Tryz.f46 h46 [] 0}).1
attribute [local irreducible] f46j0
def f46j1 (D : Dyn) (n : Nat) := (⟨_, by conv => rhs; reduce⟩ : {g // some g = prtF (s46 D n) D n 46 Tryz.f46 h46 [f46j0 D n] 1}).1
attribute [local irreducible] f46j1
def f46 (D : Dyn) (n : Nat) := (⟨_, by conv => rhs; reduce⟩ : {g // g = fun vs H => funS (s46 D n) D n 46 Tryz.f46 h46 [f46j0 D n, f46j1 D n] vs H}).1
theorem f46_eq (D : Dyn) (n : Nat) : f46 D n = funKp (s46 D n) D n 46 Tryz.f46 (ms h46) := by kernel_rfl
theorem f46_ok {D : Dyn} (hD : DP D) (n : Nat) : FP 46 (f46 D n) := fun_okP X_ok hD (SP.cons (f84_ok hD n) (SP.cons (f85_ok hD n) (SP.cons (f86_ok hD n) (SP.cons (f87_ok hD n) (SP.cons (f89_ok hD n) (SP.cons (f88_ok hD n) (SP.nil))))))) Tryz.func46 (by kernel_rfl) (by kernel_rfl) (f46_eq D n)
attribute [local irreducible] f46

def s90 (D : Dyn) (n : Nat) : Tb := ⟨X, [(104, f104 D n), (141, f141 D n), (152, f152 D n)]⟩
def h90 : Hint := (.s .o (.s (.s .o (.cl (.s .o .o) .o)) (.s .o (.s .o (.s (.c [] (.l [0,1,4,5,7,2,3,6,8] .o) .o) (.s (.s .o (.cl (.s .o .o) .o)) (.s .o .o)))))))
def f90 (D : Dyn) (n : Nat) := (⟨_, by conv => rhs; reduce⟩ : {g // g = fun vs H => funS (s90 D n) D n 90 Tryz.f90 h90 [] vs H}).1
theorem f90_eq (D : Dyn) (n : Nat) : f90 D n = funKp (s90 D n) D n 90 Tryz.f90 (ms h90) := by kernel_rfl
theorem f90_ok {D : Dyn} (hD : DP D) (n : Nat) : FP 90 (f90 D n) := fun_okP X_ok hD (SP.cons (f104_ok hD n) (SP.cons (f141_ok hD n) (SP.cons (f152_ok hD n) (SP.nil)))) Tryz.func90 (by kernel_rfl) (by kernel_rfl) (f90_eq D n)
attribute [local irreducible] f90

def s153 (D : Dyn) (n : Nat) : Tb := ⟨X, []⟩
def h153 : Hint := (.s .o (.s .o .o))
def f153 (D : Dyn) (n : Nat) := (⟨_, by conv => rhs; reduce⟩ : {g // g = fun vs H => funS (s153 D n) D n 153 Tryz.f153 h153 [] vs H}).1
theorem f153_eq (D : Dyn) (n : Nat) : f153 D n = funKp (s153 D n) D n 153 Tryz.f153 (ms h153) := by kernel_rfl
theorem f153_ok {D : Dyn} (hD : DP D) (n : Nat) : FP 153 (f153 D n) := fun_okP X_ok hD (SP.nil) Tryz.func153 (by kernel_rfl) (by kernel_rfl) (f153_eq D n)
attribute [local irreducible] f153

def s286 (D : Dyn) (n : Nat) : Tb := ⟨X, []⟩
def h286 : Hint := (.s .o (.s .o .o))
def f286 (D : Dyn) (n : Nat) := (⟨_, by conv => rhs; reduce⟩ : {g // g = fun vs H => funS (s286 D n) D n 286 Tryz.f286 h286 [] vs H}).1
theorem f286_eq (D : Dyn) (n : Nat) : f286 D n = funKp (s286 D n) D n 286 Tryz.f286 (ms h286) := by kernel_rfl
theorem f286_ok {D : Dyn} (hD : DP D) (n : Nat) : FP 286 (f286 D n) := fun_okP X_ok hD (SP.nil) Tryz.func286 (by kernel_rfl) (by kernel_rfl) (f286_eq D n)
attribute [local irreducible] f286

def s287 (D : Dyn) (n : Nat) : Tb := ⟨X, []⟩
def h287 : Hint := (.s .o (.s (.b [] .o) .o))
def f287 (D : Dyn) (n : Nat) := (⟨_, by conv => rhs; reduce⟩ : {g // g = fun vs H => funS (s287 D n) D n 287 Tryz.f287 h287 [] vs H}).1
theorem f287_eq (D : Dyn) (n : Nat) : f287 D n = funKp (s287 D n) D n 287 Tryz.f287 (ms h287) := by kernel_rfl
theorem f287_ok {D : Dyn} (hD : DP D) (n : Nat) : FP 287 (f287 D n) := fun_okP X_ok hD (SP.nil) Tryz.func287 (by kernel_rfl) (by kernel_rfl) (f287_eq D n)
attribute [local irreducible] f287

def s225 (D : Dyn) (n : Nat) : Tb := ⟨X, [(141, f141 D n), (286, f286 D n), (287, f287 D n), (214, f214 D n)]⟩
def h225 : Hint := (.s .o (.s .o (.s (.s .o (.cl (.s .o (.s .o .o)) .o)) (.s .o (.s (.s .o (.b [1,2,4] (.l [0,0,2,4,22,23,24] (.s .o (.s (.cr .o .o) (.s (.b0 (.s .o .o)) .o)))))) (.s .o .o))))))
def f225l0 (D : Dyn) (n : Nat) := (⟨_, by conv => rhs; reduce⟩ : {g // some g = prtF (s225 D n) D n 225 Tryz.f225 h225 [] 0}).1
attribute [local irreducible] f225l0
def f225b1 (D : Dyn) (n : Nat) := (⟨_, by conv => rhs; reduce⟩ : {g // some g = prtF (s225 D n) D n 225 Tryz.f225 h225 [f225l0 D n] 1}).1
attribute [local irreducible] f225b1
def f225 (D : Dyn) (n : Nat) := (⟨_, by conv => rhs; reduce⟩ : {g // g = fun vs H => funS (s225 D n) D n 225 Tryz.f225 h225 [f225l0 D n, f225b1 D n] vs H}).1
theorem f225_eq (D : Dyn) (n : Nat) : f225 D n = funKp (s225 D n) D n 225 Tryz.f225 (ms h225) := by kernel_rfl
theorem f225_ok {D : Dyn} (hD : DP D) (n : Nat) : FP 225 (f225 D n) := fun_okP X_ok hD (SP.cons (f141_ok hD n) (SP.cons (f286_ok hD n) (SP.cons (f287_ok hD n) (SP.cons (f214_ok hD n) (SP.nil))))) Tryz.func225 (by kernel_rfl) (by kernel_rfl) (f225_eq D n)
attribute [local irreducible] f225

def s224 (D : Dyn) (n : Nat) : Tb := ⟨X, [(212, f212 D n), (225, f225 D n), (213, f213 D n), (214, f214 D n), (105, f105 D n)]⟩
def h224 : Hint := (.s .o (.b0 (.s .o (.c [8] (.b [2,2,5,31] .o) (.s .o (.c [7] (.b [2,2,5,31] .o) (.s .o (.c [6] (.b [5,30,8,255] .o) (.s .o (.c [5] (.b [5,30,8,255] .o) (.s .o (.c [4] (.b [5,30,8,255] .o) (.s .o (.c [3] (.b [5,30,8,255] .o) (.s .o (.c [2] (.b [5,30,8,255] .o) (.s .o (.c [1] (.b [2,2,5,31] .o) (.s .o (.c [0] (.b [5,30,8,255] .o) .o))))))))))))))))))))
def f224j0 (D : Dyn) (n : Nat) := (⟨_, by conv => rhs; reduce⟩ : {g // some g = prtF (s224 D n) D n 224 Tryz.f224 h224 [] 0}).1
attribute [local irreducible] f224j0
def f224j1 (D : Dyn) (n : Nat) := (⟨_, by conv => rhs; reduce⟩ : {g // some g = prtF (s224 D n) D n 224 Tryz.f224 h224 [f224j0 D n] 1}).1
attribute [local irreducible] f224j1
def f224j2 (D : Dyn) (n : Nat) := (⟨_, by conv => rhs; reduce⟩ : {g // some g = prtF (s224 D n) D n 224 Tryz.f224 h224 [f224j0 D n, f224j1 D n] 2}).1
attribute [local irreducible] f224j2
def f224j3 (D : Dyn) (n : Nat) := (⟨_, by conv => rhs; reduce⟩ : {g // some g = prtF (s224 D n) D n 224 Tryz.f224 h224 [f224j0 D n, f224j1 D n, f224j2 D n] 3}).1
attribute [local irreducible] f224j3
def f224j4 (D : Dyn) (n : Nat) := (⟨_, by conv => rhs; reduce⟩ : {g // some g = prtF (s224 D n) D n 224 Tryz.f224 h224 [f224j0 D n, f224j1 D n, f224j2 D n, f224j3 D n] 4}).1
attribute [local irreducible] f224j4
def f224j5 (D : Dyn) (n : Nat) := (⟨_, by conv => rhs; reduce⟩ : {g // some g = prtF (s224 D n) D n 224 Tryz.f224 h224 [f224j0 D n, f224j1 D n, f224j2 D n, f224j3 D n, f224j4 D n] 5}).1
attribute [local irreducible] f224j5
def f224j6 (D : Dyn) (n : Nat) := (⟨_, by conv => rhs; reduce⟩ : {g // some g = prtF (s224 D n) D n 224 Tryz.f224 h224 [f224j0 D n, f224j1 D n, f224j2 D n, f224j3 D n, f224j4 D n, f224j5 D n] 6}).1
attribute [local irreducible] f224j6
def f224j7 (D : Dyn) (n : Nat) := (⟨_, by conv => rhs; reduce⟩ : {g // some g = prtF (s224 D n) D n 224 Tryz.f224 h224 [f224j0 D n, f224j1 D n, f224j2 D n, f224j3 D n, f224j4 D n, f224j5 D n, f224j6 D n] 7}).1
attribute [local irreducible] f224j7
def f224j8 (D : Dyn) (n : Nat) := (⟨_, by conv => rhs; reduce⟩ : {g // some g = prtF (s224 D n) D n 224 Tryz.f224 h224 [f224j0 D n, f224j1 D n, f224j2 D n, f224j3 D n, f224j4 D n, f224j5 D n, f224j6 D n, f224j7 D n] 8}).1
attribute [local irreducible] f224j8
def f224 (D : Dyn) (n : Nat) := (⟨_, by conv => rhs; reduce⟩ : {g // g = fun vs H => funS (s224 D n) D n 224 Tryz.f224 h224 [f224j0 D n, f224j1 D n, f224j2 D n, f224j3 D n, f224j4 D n, f224j5 D n, f224j6 D n, f224j7 D n, f224j8 D n] vs H}).1
theorem f224_eq (D : Dyn) (n : Nat) : f224 D n = funKp (s224 D n) D n 224 Tryz.f224 (ms h224) := by kernel_rfl
theorem f224_ok {D : Dyn} (hD : DP D) (n : Nat) : FP 224 (f224 D n) := fun_okP X_ok hD (SP.cons (f212_ok hD n) (SP.cons (f225_ok hD n) (SP.cons (f213_ok hD n) (SP.cons (f214_ok hD n) (SP.cons (f105_ok hD n) (SP.nil)))))) Tryz.func224 (by kernel_rfl) (by kernel_rfl) (f224_eq D n)
attribute [local irreducible] f224

def s154 (D : Dyn) (n : Nat) : Tb := ⟨X, []⟩
def h154 : Hint := (.s .o (.s .o .o))
def f154 (D : Dyn) (n : Nat) := (⟨_, by conv => rhs; reduce⟩ : {g // g = fun vs H => funS (s154 D n) D n 154 Tryz.f154 h154 [] vs H}).1
theorem f154_eq (D : Dyn) (n : Nat) : f154 D n = funKp (s154 D n) D n 154 Tryz.f154 (ms h154) := by kernel_rfl
theorem f154_ok {D : Dyn} (hD : DP D) (n : Nat) : FP 154 (f154 D n) := fun_okP X_ok hD (SP.nil) Tryz.func154 (by kernel_rfl) (by kernel_rfl) (f154_eq D n)
attribute [local irreducible] f154

def s91 (D : Dyn) (n : Nat) : Tb := ⟨X, [(153, f153 D n), (104, f104 D n), (141, f141 D n), (144, f144 D n), (154, f154 D n), (145, f145 D n)]⟩
def h91 : Hint := (.s .o (.s .o (.s (.s .o (.cl (.s .o .o) .o)) (.s .o (.s .o (.s (.s .o (.cl (.s .o .o) .o)) (.s .o (.s (.s .o (.c [2,4,6,8,10] .o .o)) (.s .o (.s (.s .o (.b [1,4,8,10] (.l [0,4,8,10,11,44,45,46] (.s .o (.s (.cr .o .o) (.s (.b0 (.s .o (.s .o (.s .o (.cl (.s .o .o) .o))))) .o)))))) (.s (.s .o (.cl (.s .o .o) .o)) (.s .o .o))))))))))))
def f91l0 (D : Dyn) (n : Nat) := (⟨_, by conv => rhs; reduce⟩ : {g // some g = prtF (s91 D n) D n 91 Tryz.f91 h91 [] 0}).1
attribute [local irreducible] f91l0
def f91b1 (D : Dyn) (n : Nat) := (⟨_, by conv => rhs; reduce⟩ : {g // some g = prtF (s91 D n) D n 91 Tryz.f91 h91 [f91l0 D n] 1}).1
attribute [local irreducible] f91b1
def f91j2 (D : Dyn) (n : Nat) := (⟨_, by conv => rhs; reduce⟩ : {g // some g = prtF (s91 D n) D n 91 Tryz.f91 h91 [f91l0 D n, f91b1 D n] 2}).1
attribute [local irreducible] f91j2
def f91 (D : Dyn) (n : Nat) := (⟨_, by conv => rhs; reduce⟩ : {g // g = fun vs H => funS (s91 D n) D n 91 Tryz.f91 h91 [f91l0 D n, f91b1 D n, f91j2 D n] vs H}).1
theorem f91_eq (D : Dyn) (n : Nat) : f91 D n = funKp (s91 D n) D n 91 Tryz.f91 (ms h91) := by kernel_rfl
theorem f91_ok {D : Dyn} (hD : DP D) (n : Nat) : FP 91 (f91 D n) := fun_okP X_ok hD (SP.cons (f153_ok hD n) (SP.cons (f104_ok hD n) (SP.cons (f141_ok hD n) (SP.cons (f144_ok hD n) (SP.cons (f154_ok hD n) (SP.cons (f145_ok hD n) (SP.nil))))))) Tryz.func91 (by kernel_rfl) (by kernel_rfl) (f91_eq D n)
attribute [local irreducible] f91

def s155 (D : Dyn) (n : Nat) : Tb := ⟨X, []⟩
def h155 : Hint := (.s .o (.s .o (.s (.s .o (.cl (.s .o .o) .o)) (.s .o (.s (.b [6,63] .o) (.s .o (.s .o .o)))))))
def f155 (D : Dyn) (n : Nat) := (⟨_, by conv => rhs; reduce⟩ : {g // g = fun vs H => funS (s155 D n) D n 155 Tryz.f155 h155 [] vs H}).1
theorem f155_eq (D : Dyn) (n : Nat) : f155 D n = funKp (s155 D n) D n 155 Tryz.f155 (ms h155) := by kernel_rfl
theorem f155_ok {D : Dyn} (hD : DP D) (n : Nat) : FP 155 (f155 D n) := fun_okP X_ok hD (SP.nil) Tryz.func155 (by kernel_rfl) (by kernel_rfl) (f155_eq D n)
attribute [local irreducible] f155

def s92 (D : Dyn) (n : Nat) : Tb := ⟨X, [(155, f155 D n)]⟩
def h92 : Hint := (.s .o (.s .o (.s .o (.s .o .o))))
def f92 (D : Dyn) (n : Nat) := (⟨_, by conv => rhs; reduce⟩ : {g // g = fun vs H => funS (s92 D n) D n 92 Tryz.f92 h92 [] vs H}).1
theorem f92_eq (D : Dyn) (n : Nat) : f92 D n = funKp (s92 D n) D n 92 Tryz.f92 (ms h92) := by kernel_rfl
theorem f92_ok {D : Dyn} (hD : DP D) (n : Nat) : FP 92 (f92 D n) := fun_okP X_ok hD (SP.cons (f155_ok hD n) (SP.nil)) Tryz.func92 (by kernel_rfl) (by kernel_rfl) (f92_eq D n)
attribute [local irreducible] f92

def s47 (D : Dyn) (n : Nat) : Tb := ⟨X, [(90, f90 D n), (81, f81 D n), (91, f91 D n), (92, f92 D n)]⟩
def h47 : Hint := (.s .o (.s (.s .o (.cl (.s .o .o) .o)) (.s .o (.s (.s .o (.cl (.s .o .o) .o)) (.s .o (.s (.s .o (.cl (.s .o .o) .o)) (.s .o (.s (.s .o (.c [0,0,5,7,9,10] (.s (.b [11,2047,15,16383] .o) (.s .o (.cl (.s .o .o) .o))) .o)) (.s .o (.s (.b [4,15] .o) .o))))))))))
def f47j0 (D : Dyn) (n : Nat) := (⟨_, by conv => rhs; reduce⟩ : {g // some g = prtF (s47 D n) D n 47 Tryz.f47 h47 [] 0}).1
attribute [local irreducible] f47j0
def f47 (D : Dyn) (n : Nat) := (⟨_, by conv => rhs; reduce⟩ : {g // g = fun vs H => funS (s47 D n) D n 47 Tryz.f47 h47 [f47j0 D n] vs H}).1
theorem f47_eq (D : Dyn) (n : Nat) : f47 D n = funKp (s47 D n) D n 47 Tryz.f47 (ms h47) := by kernel_rfl
theorem f47_ok {D : Dyn} (hD : DP D) (n : Nat) : FP 47 (f47 D n) := fun_okP X_ok hD (SP.cons (f90_ok hD n) (SP.cons (f81_ok hD n) (SP.cons (f91_ok hD n) (SP.cons (f92_ok hD n) (SP.nil))))) Tryz.func47 (by kernel_rfl) (by kernel_rfl) (f47_eq D n)
attribute [local irreducible] f47

def s18 (D : Dyn) (n : Nat) : Tb := ⟨X, [(45, f45 D n), (46, f46 D n), (41, f41 D n), (47, f47 D n)]⟩
def h18 : Hint := (.s .o (.s (.c [6,63,11,1535] (.l [0,1,2,3,4,5,10,6,7,8,9,11,12] .o) .o) (.s (.s .o (.cl .o .o)) (.s (.s .o (.cl (.s (.b [6,63] .o) .o) .o)) (.s (.c [3,7,6,63,13,7167] (.l [0,1,2,4,5,11,3,6,7,8,9,10,12,13,14] .o) .o) (.s .o (.c [0] (.b [11,2046,14,16383] .o) .o)))))))
def f18j0 (D : Dyn) (n : Nat) := (⟨_, by conv => rhs; reduce⟩ : {g // some g = prtF (s18 D n) D n 18 Tryz.f18 h18 [] 0}).1
attribute [local irreducible] f18j0
def f18 (D : Dyn) (n : Nat) := (⟨_, by conv => rhs; reduce⟩ : {g // g = fun vs H => funS (s18 D n) D n 18 Tryz.f18 h18 [f18j0 D n] vs H}).1
theorem f18_eq (D : Dyn) (n : Nat) : f18 D n = funKp (s18 D n) D n 18 Tryz.f18 (ms h18) := by kernel_rfl
theorem f18_ok {D : Dyn} (hD : DP D) (n : Nat) : FP 18 (f18 D n) := fun_okP X_ok hD (SP.cons (f45_ok hD n) (SP.cons (f46_ok hD n) (SP.cons (f41_ok hD n) (SP.cons (f47_ok hD n) (SP.nil))))) Tryz.func18 (by kernel_rfl) (by kernel_rfl) (f18_eq D n)
attribute [local irreducible] f18

def s48 (D : Dyn) (n : Nat) : Tb := ⟨X, [(45, f45 D n)]⟩
def h48 : Hint := (.s .o (.s .o (.s .o .o)))
def f48 (D : Dyn) (n : Nat) := (⟨_, by conv => rhs; reduce⟩ : {g // g = fun vs H => funS (s48 D n) D n 48 Tryz.f48 h48 [] vs H}).1
theorem f48_eq (D : Dyn) (n : Nat) : f48 D n = funKp (s48 D n) D n 48 Tryz.f48 (ms h48) := by kernel_rfl
theorem f48_ok {D : Dyn} (hD : DP D) (n : Nat) : FP 48 (f48 D n) := fun_okP X_ok hD (SP.cons (f45_ok hD n) (SP.nil)) Tryz.func48 (by kernel_rfl) (by kernel_rfl) (f48_eq D n)
attribute [local irreducible] f48

def s19 (D : Dyn) (n : Nat) : Tb := ⟨X, [(48, f48 D n)]⟩
def h19 : Hint := (.s .o (.b [6,63] .o))
def f19 (D : Dyn) (n : Nat) := (⟨_, by conv => rhs; reduce⟩ : {g // g = fun vs H => funS (s19 D n) D n 19 Tryz.f19 h19 [] vs H}).1
theorem f19_eq (D : Dyn) (n : Nat) : f19 D n = funKp (s19 D n) D n 19 Tryz.f19 (ms h19) := by kernel_rfl
theorem f19_ok {D : Dyn} (hD : DP D) (n : Nat) : FP 19 (f19 D n) := fun_okP X_ok hD (SP.cons (f48_ok hD n) (SP.nil)) Tryz.func19 (by kernel_rfl) (by kernel_rfl) (f19_eq D n)
attribute [local irreducible] f19

def s288 (D : Dyn) (n : Nat) : Tb := ⟨X, []⟩
def h288 : Hint := (.s .o (.s (.b [6,63,7,127] .o) (.s .o .o)))
def f288 (D : Dyn) (n : Nat) := (⟨_, by conv => rhs; reduce⟩ : {g // g = fun vs H => funS (s288 D n) D n 288 Tryz.f288 h288 [] vs H}).1
theorem f288_eq (D : Dyn) (n : Nat) : f288 D n = funKp (s288 D n) D n 288 Tryz.f288 (ms h288) := by kernel_rfl
theorem f288_ok {D : Dyn} (hD : DP D) (n : Nat) : FP 288 (f288 D n) := fun_okP X_ok hD (SP.nil) Tryz.func288 (by kernel_rfl) (by kernel_rfl) (f288_eq D n)
attribute [local irreducible] f288

def s228 (D : Dyn) (n : Nat) : Tb := ⟨X, [(216, f216 D n)]⟩
def h228 : Hint := (.s .o (.s (.s .o (.cl (.s .o .o) .o)) (.s .o (.s .o (.s .o .o)))))
def f228 (D : Dyn) (n : Nat) := (⟨_, by conv => rhs; reduce⟩ : {g // g = fun vs H => funS (s228 D n) D n 228 Tryz.f228 h228 [] vs H}).1
theorem f228_eq (D : Dyn) (n : Nat) : f228 D n = funKp (s228 D n) D n 228 Tryz.f228 (ms h228) := by kernel_rfl
theorem f228_ok {D : Dyn} (hD : DP D) (n : Nat) : FP 228 (f228 D n) := fun_okP X_ok hD (SP.cons (f216_ok hD n) (SP.nil)) Tryz.func228 (by kernel_rfl) (by kernel_rfl) (f228_eq D n)
attribute [local irreducible] f228

def s332 (D : Dyn) (n : Nat) : Tb := ⟨X, []⟩
def h332 : Hint := (.s .o (.s (.s (.b [] .o) (.cl (.s .o (.s .o .o)) .o)) (.s .o (.s .o .o))))
def f332 (D : Dyn) (n : Nat) := (⟨_, by conv => rhs; reduce⟩ : {g // g = fun vs H => funS (s332 D n) D n 332 Tryz.f332 h332 [] vs H}).1
theorem f332_eq (D : Dyn) (n : Nat) : f332 D n = funKp (s332 D n) D n 332 Tryz.f332 (ms h332) := by kernel_rfl
theorem f332_ok {D : Dyn} (hD : DP D) (n : Nat) : FP 332 (f332 D n) := fun_okP X_ok hD (SP.nil) Tryz.func332 (by kernel_rfl) (by kernel_rfl) (f332_eq D n)
attribute [local irreducible] f332

def s289 (D : Dyn) (n : Nat) : Tb := ⟨X, [(216, f216 D n)]⟩
def h289 : Hint := (.s .o (.s .o (.s (.b [2,1,3,7] .o) .o)))
def f289 (D : Dyn) (n : Nat) := (⟨_, by conv => rhs; reduce⟩ : {g // g = fun vs H => funS (s289 D n) D n 289 Tryz.f289 h289 [] vs H}).1
theorem f289_eq (D : Dyn) (n : Nat) : f289 D n = funKp (s289 D n) D n 289 Tryz.f289 (ms h289) := by kernel_rfl
theorem f289_ok {D : Dyn} (hD : DP D) (n : Nat) : FP 289 (f289 D n) := fun_okP X_ok hD (SP.cons (f216_ok hD n) (SP.nil)) Tryz.func289 (by kernel_rfl) (by kernel_rfl) (f289_eq D n)
attribute [local irreducible] f289

def s229 (D : Dyn) (n : Nat) : Tb := ⟨X, [(289, f289 D n)]⟩
def h229 : Hint := (.s .o (.s (.s .o (.cl (.s .o .o) .o)) (.s .o (.s .o .o))))
def f229 (D : Dyn) (n : Nat) := (⟨_, by conv => rhs; reduce⟩ : {g // g = fun vs H => funS (s229 D n) D n 229 Tryz.f229 h229 [] vs H}).1
theorem f229_eq (D : Dyn) (n : Nat) : f229 D n = funKp (s229 D n) D n 229 Tryz.f229 (ms h229) := by kernel_rfl
theorem f229_ok {D : Dyn} (hD : DP D) (n : Nat) : FP 229 (f229 D n) := fun_okP X_ok hD (SP.cons (f289_ok hD n) (SP.nil)) Tryz.func229 (by kernel_rfl) (by kernel_rfl) (f229_eq D n)
attribute [local irreducible] f229

def s156 (D : Dyn) (n : Nat) : Tb := ⟨X, [(228, f228 D n), (229, f229 D n)]⟩
def h156 : Hint := (.s .o (.s (.s .o (.cl (.s .o .o) .o)) (.s .o (.s .o (.s (.s .o (.b [6,3,4] (.l [4,0,3,4,13,14,15] (.s .o (.s (.cr .o .o) (.s (.b0 (.s .o (.s .o (.b0 (.s .o (.c [3,0,3,4,13,14,15] (.s .o (.c [0,0,3,4,13,14,15] .o .o)) (.s .o (.c [2,0,3,4,13,14,15] .o (.s .o (.c [1,0,3,4,13,14,15] .o .o)))))))))) .o)))))) (.s (.s .o (.c [5,3] .o .o)) (.s .o .o)))))))
def f156j0 (D : Dyn) (n : Nat) := (⟨_, by conv => rhs; reduce⟩ : {g // some g = prtF (s156 D n) D n 156 Tryz.f156 h156 [] 0}).1
attribute [local irreducible] f156j0
def f156j1 (D : Dyn) (n : Nat) := (⟨_, by conv => rhs; reduce⟩ : {g // some g = prtF (s156 D n) D n 156 Tryz.f156 h156 [f156j0 D n] 1}).1
attribute [local irreducible] f156j1
def f156j2 (D : Dyn) (n : Nat) := (⟨_, by conv => rhs; reduce⟩ : {g // some g = prtF (s156 D n) D n 156 Tryz.f156 h156 [f156j0 D n, f156j1 D n] 2}).1
attribute [local irreducible] f156j2
def f156j3 (D : Dyn) (n : Nat) := (⟨_, by conv => rhs; reduce⟩ : {g // some g = prtF (s156 D n) D n 156 Tryz.f156 h156 [f156j0 D n, f156j1 D n, f156j2 D n] 3}).1
attribute [local irreducible] f156j3
def f156l4 (D : Dyn) (n : Nat) := (⟨_, by conv => rhs; reduce⟩ : {g // some g = prtF (s156 D n) D n 156 Tryz.f156 h156 [f156j0 D n, f156j1 D n, f156j2 D n, f156j3 D n] 4}).1
attribute [local irreducible] f156l4
def f156j5 (D : Dyn) (n : Nat) := (⟨_, by conv => rhs; reduce⟩ : {g // some g = prtF (s156 D n) D n 156 Tryz.f156 h156 [f156j0 D n, f156j1 D n, f156j2 D n, f156j3 D n, f156l4 D n] 5}).1
attribute [local irreducible] f156j5
def f156b6 (D : Dyn) (n : Nat) := (⟨_, by conv => rhs; reduce⟩ : {g // some g = prtF (s156 D n) D n 156 Tryz.f156 h156 [f156j0 D n, f156j1 D n, f156j2 D n, f156j3 D n, f156l4 D n, f156j5 D n] 6}).1
attribute [local irreducible] f156b6
def f156 (D : Dyn) (n : Nat) := (⟨_, by conv => rhs; reduce⟩ : {g // g = fun vs H => funS (s156 D n) D n 156 Tryz.f156 h156 [f156j0 D n, f156j1 D n, f156j2 D n, f156j3 D n, f156l4 D n, f156j5 D n, f156b6 D n] vs H}).1
theorem f156_eq (D : Dyn) (n : Nat) : f156 D n = funKp (s156 D n) D n 156 Tryz.f156 (ms h156) := by kernel_rfl
theorem f156_ok {D : Dyn} (hD : DP D) (n : Nat) : FP 156 (f156 D n) := fun_okP X_ok hD (SP.cons (f228_ok hD n) (SP.cons (f229_ok hD n) (SP.nil))) Tryz.func156 (by kernel_rfl) (by kernel_rfl) (f156_eq D n)
attribute [local irreducible] f156

def s97 (D : Dyn) (n : Nat) : Tb := ⟨X, [(156, f156 D n)]⟩
def h97 : Hint := (.s .o (.s (.s .o (.cl (.s .o .o) .o)) (.s .o (.s (.s .o (.cl (.s .o .o) .o)) (.s (.s .o (.s .o (.c [2,0,2,4] (.b [8,255] .o) .o))) (.s .o (.s (.s .o (.b [1,0,2,6] (.l [0,0,2,6,39,40,41] (.s .o (.s (.cr .o .o) (.s (.b0 (.s .o (.s (.b [] .o) (.cl (.s .o .o) .o)))) .o)))))) (.s (.b [10,1023] .o) (.s .o .o)))))))))
def f97l0 (D : Dyn) (n : Nat) := (⟨_, by conv => rhs; reduce⟩ : {g // some g = prtF (s97 D n) D n 97 Tryz.f97 h97 [] 0}).1
attribute [local irreducible] f97l0
def f97b1 (D : Dyn) (n : Nat) := (⟨_, by conv => rhs; reduce⟩ : {g // some g = prtF (s97 D n) D n 97 Tryz.f97 h97 [f97l0 D n] 1}).1
attribute [local irreducible] f97b1
def f97j2 (D : Dyn) (n : Nat) := (⟨_, by conv => rhs; reduce⟩ : {g // some g = prtF (s97 D n) D n 97 Tryz.f97 h97 [f97l0 D n, f97b1 D n] 2}).1
attribute [local irreducible] f97j2
def f97 (D : Dyn) (n : Nat) := (⟨_, by conv => rhs; reduce⟩ : {g // g = fun vs H => funS (s97 D n) D n 97 Tryz.f97 h97 [f97l0 D n, f97b1 D n, f97j2 D n] vs H}).1
theorem f97_eq (D : Dyn) (n : Nat) : f97 D n = funKp (s97 D n) D n 97 Tryz.f97 (ms h97) := by kernel_rfl
theorem f97_ok {D : Dyn} (hD : DP D) (n : Nat) : FP 97 (f97 D n) := fun_okP X_ok hD (SP.cons (f156_ok hD n) (SP.nil)) Tryz.func97 (by kernel_rfl) (by kernel_rfl) (f97_eq D n)
attribute [local irreducible] f97

def s562 (D : Dyn) (n : Nat) : Tb := ⟨X, [(126, f126 D n), (128, f128 D n)]⟩
def h562 : Hint := (.s .o (.s (.s .o (.cl (.s .o .o) .o)) (.s (.s .o (.cl (.s .o .o) .o)) (.s .o (.s (.s .o (.cl (.s .o .o) .o)) (.s (.b [13,8191] .o) .o))))))
def f562 (D : Dyn) (n : Nat) := (⟨_, by conv => rhs; reduce⟩ : {g // g = fun vs H => funS (s562 D n) D n 562 Tryz.f562 h562 [] vs H}).1
theorem f562_eq (D : Dyn) (n : Nat) : f562 D n = funKp (s562 D n) D n 562 Tryz.f562 (ms h562) := by kernel_rfl
theorem f562_ok {D : Dyn} (hD : DP D) (n : Nat) : FP 562 (f562 D n) := fun_okP X_ok hD (SP.cons (f126_ok hD n) (SP.cons (f128_ok hD n) (SP.nil))) Tryz.func562 (by kernel_rfl) (by kernel_rfl) (f562_eq D n)
attribute [local irreducible] f562

def s595 (D : Dyn) (n : Nat) : Tb := ⟨X, []⟩
def f595j0 (D : Dyn) (n : Nat) (vs : List AV) (H : AH) : Rs :=
  
  some (.norm [], H)
def f595j1 (D : Dyn) (n : Nat) (vs : List AV) (H : AH) : Rs :=
  
  some (.ret (.tuple []), H)
def rc595 (D : Dyn) (n : Nat) (rv : AV) (vs : List AV) (H : AH) : Option (AV × AH) :=
  noPan (outR (hd vs fun x0 vs => hd vs fun x1 vs => nl vs <|
  bV (ifNil .neq rv) fun x8 => 
  jn (cnd x8 (bA (bxV 63 (.agg [(.int .u8 (.ofNat 0)), (.int .i64 (.ofNat 0)), (.int .i64 (.ofNat 0)), (.int .i64 (.ofNat 0)), (.int .i64 (.ofNat 0)), (.int .i64 (.ofNat 0)), (.int .i64 (.ofNat 0)), (.int .i64 (.ofNat 0))])) H fun x3 H => 
  bV (ldNp 8 x3 H) fun x9 => 
  bR (stNp 8 x0 x9 H) fun x9999 H => 
  bR (stNp 1 x1 (.int .i64 (.ofNat 4)) H) fun x9999_2 H => 
  bV (asrK 393 (.agg [(.int .i64 (.ofNat 0))]) rv) fun x12 => 
  bV (pExtract x12 0) fun x13 => 
  bV (pExtract x12 1) fun x14 => 
  bA (bxV 393 (.agg [(.int .i64 (.ofNat 0))])) H fun x4 H => 
  bR (stNp 1 x4 x13 H) fun x9999_3 H => 
  jn (cnd x14 (bV (fAd 0 x4) fun x16 => 
  bV (ld1p x16 H) fun x17 => 
  bR (stNp 1 x1 x17 H) fun x9999_4 H => 
  some (.norm [], H))
  (some (.norm [], H))) (f595j0 D n))
  (some (.norm [], H))) (f595j1 D n)))
def h595 : Hint := (.s .pc (.c [] (.s .pc (.s .pc (.s .pc (.s .pc (.c [] .pc .o))))) .o))
theorem rc595_eq (D : Dyn) (n : Nat) : rc595 D n = funRp (s595 D n) D n 595 Tryz.f595 h595 := by kernel_rfl
theorem rc595_ok {D : Dyn} (hD : DP D) (n : Nat) : RcP 595 (rc595 D n) := funR_okP X_ok hD (SP.nil) Tryz.func595 (by kernel_rfl) (by kernel_rfl) (by kernel_rfl) (rc595_eq D n)
attribute [local irreducible] f595j0 f595j1 rc595

def s541 (D : Dyn) (n : Nat) : Tb := ⟨X, []⟩
def f541 (D : Dyn) (n : Nat) (vs : List AV) (H : AH) : Option (AV × AH) :=
  noPan (outR (hd vs fun x0 vs => hd vs fun x1 vs => hd vs fun x2 vs => nl vs <|
  bA (bxV 63 (.agg [(.int .u8 (.ofNat 0)), (.int .i64 (.ofNat 0)), (.int .i64 (.ofNat 0)), (.int .i64 (.ofNat 0)), (.int .i64 (.ofNat 0)), (.int .i64 (.ofNat 0)), (.int .i64 (.ofNat 0)), (.int .i64 (.ofNat 0))])) H fun x6 H => 
  bA (bxV 23 (.int .i64 (.ofNat 0))) H fun x7 H => 
  bV (bldSp [(0, 1), (1, 1)] [.nilPtr, (.int .i64 (.ofNat 0))] [(0, x0), (1, x1)]) fun x12 => 
  bC (callV (s541 D n).S D x2 [x12] H) (fun x H => bR (rc595 D n x [x6, x7] H) fun _ H => bV (ldNp 8 x6 H) fun x9006_5 => bV (ld1p x7 H) fun x9007_5 => some (.ret (.tuple [x9006_5, x9007_5]), H)) fun x13 H => 
  bR (stNp 8 x6 x13 H) fun x9999 H => 
  bR (stNp 1 x7 (.int .i64 (.ofNat 0)) H) fun x9999_2 H => 
  bR (rc595 D n .nilIface [x6, x7] H) fun _ H => bV (ldNp 8 x6 H) fun x9006_8 => bV (ld1p x7 H) fun x9007_8 => some (.ret (.tuple [x9006_8, x9007_8]), H)))
theorem f541_eq (D : Dyn) (n : Nat) : f541 D n = dfunKp (s541 D n) D Tryz.f541 595 (rc595 D n) := by kernel_rfl
theorem f541_ok {D : Dyn} (hD : DP D) (n : Nat) : FP 541 (f541 D n) := dfun_okP X_ok hD (SP.nil) Tryz.func541 (rc595_ok hD n) (f541_eq D n)
attribute [local irreducible] f541

def s471 (D : Dyn) (n : Nat) : Tb := ⟨X, [(541, f541 D n)]⟩
def h471 : Hint := (.s .o (.s (.s .o (.cl (.s .o (.s .o .o)) .o)) (.s .o .o)))
def f471 (D : Dyn) (n : Nat) := (⟨_, by conv => rhs; reduce⟩ : {g // g = fun vs H => funS (s471 D n) D n 471 Tryz.f471 h471 [] vs H}).1
theorem f471_eq (D : Dyn) (n : Nat) : f471 D n = funKp (s471 D n) D n 471 Tryz.f471 (ms h471) := by kernel_rfl
theorem f471_ok {D : Dyn} (hD : DP D) (n : Nat) : FP 471 (f471 D n) := fun_okP X_ok hD (SP.cons (f541_ok hD n) (SP.nil)) Tryz.func471 (by kernel_rfl) (by kernel_rfl) (f471_eq D n)
attribute [local irreducible] f471

def s596 (D : Dyn) (n : Nat) : Tb := ⟨X, [(307, f307 D n), (314, f314 D n), (245, f245 D n)]⟩
def h596 : Hint := (.s .o (.s (.s .o (.cl (.s .o .o) .o)) (.s .o (.s (.s .o (.b [1,2,4] (.l [0,0,2,4,14,15] (.s .o (.s (.cr .o .o) (.s (.b0 (.s .o .o)) .o)))))) (.s (.s .o (.cl (.s .o .o) .o)) (.s .o .o))))))
def f596l0 (D : Dyn) (n : Nat) := (⟨_, by conv => rhs; reduce⟩ : {g // some g = prtF (s596 D n) D n 596 Tryz.f596 h596 [] 0}).1
attribute [local irreducible] f596l0
def f596b1 (D : Dyn) (n : Nat) := (⟨_, by conv => rhs; reduce⟩ : {g // some g = prtF (s596 D n) D n 596 Tryz.f596 h596 [f596l0 D n] 1}).1
attribute [local irreducible] f596b1
def f596 (D : Dyn) (n : Nat) := (⟨_, by conv => rhs; reduce⟩ : {g // g = fun vs H => funS (s596 D n) D n 596 Tryz.f596 h596 [f596l0 D n, f596b1 D n] vs H}).1
theorem f596_eq (D : Dyn) (n : Nat) : f596 D n = funKp (s596 D n) D n 596 Tryz.f596 (ms h596) := by kernel_rfl
theorem f596_ok {D : Dyn} (hD : DP D) (n : Nat) : FP 596 (f596 D n) := fun_okP X_ok hD (SP.cons (f307_ok hD n) (SP.cons (f314_ok hD n) (SP.cons (f245_ok hD n) (SP.nil)))) Tryz.func596 (by kernel_rfl) (by kernel_rfl) (f596_eq D n)
attribute [local irreducible] f596

def s542 (D : Dyn) (n : Nat) : Tb := ⟨X, [(248, f248 D n), (188, f188 D n), (596, f596 D n), (191, f191 D n)]⟩
def h542 : Hint := (.s .o (.s (.s .o (.cl (.s .o .o) .o)) (.s (.b [2,2,3,7] .o) (.s (.s .o (.cl (.s .o .o) .o)) (.s .o (.s .pc (.s .o .o)))))))
def f542 (D : Dyn) (n : Nat) := (⟨_, by conv => rhs; reduce⟩ : {g // g = fun vs H => funS (s542 D n) D n 542 Tryz.f542 h542 [] vs H}).1
theorem f542_eq (D : Dyn) (n : Nat) : f542 D n = funKp (s542 D n) D n 542 Tryz.f542 (ms h542) := by kernel_rfl
theorem f542_ok {D : Dyn} (hD : DP D) (n : Nat) : FP 542 (f542 D n) := fun_okP X_ok hD (SP.cons (f248_ok hD n) (SP.cons (f188_ok hD n) (SP.cons (f596_ok hD n) (SP.cons (f191_ok hD n) (SP.nil))))) Tryz.func542 (by kernel_rfl) (by kernel_rfl) (f542_eq D n)
attribute [local irreducible] f542

def s449 (D : Dyn) (n : Nat) : Tb := ⟨X, []⟩
def h449 : Hint := (.s .o (.s .o .o))
def f449 (D : Dyn) (n : Nat) := (⟨_, by conv => rhs; reduce⟩ : {g // g = fun vs H => funS (s449 D n) D n 449 Tryz.f449 h449 [] vs H}).1
theorem f449_eq (D : Dyn) (n : Nat) : f449 D n = funKp (s449 D n) D n 449 Tryz.f449 (ms h449) := by kernel_rfl
theorem f449_ok {D : Dyn} (hD : DP D) (n : Nat) : FP 449 (f449 D n) := fun_okP X_ok hD (SP.nil) Tryz.func449 (by kernel_rfl) (by kernel_rfl) (f449_eq D n)
attribute [local irreducible] f449

def s604 (D : Dyn) (n : Nat) : Tb := ⟨X, [(449, f449 D n)]⟩
def h604 : Hint := (.s .o (.s (.c [3,7] (.l [0,1,2,4,3,5,6] .o) .o) .o))
def f604 (D : Dyn) (n : Nat) := (⟨_, by conv => rhs; reduce⟩ : {g // g = fun vs H => funS (s604 D n) D n 604 Tryz.f604 h604 [] vs H}).1
theorem f604_eq (D : Dyn) (n : Nat) : f604 D n = funKp (s604 D n) D n 604 Tryz.f604 (ms h604) := by kernel_rfl
theorem f604_ok {D : Dyn} (hD : DP D) (n : Nat) : FP 604 (f604 D n) := fun_okP X_ok hD (SP.cons (f449_ok hD n) (SP.nil)) Tryz.func604 (by kernel_rfl) (by kernel_rfl) (f604_eq D n)
attribute [local irreducible] f604

def s603 (D : Dyn) (n : Nat) : Tb := ⟨X, [(542, f542 D n), (604, f604 D n)]⟩
def h603 : Hint := (.s .o (.s .pc (.s (.s .o (.c [0,3,4] .pc .o)) (.s .o .o))))
def f603j0 (D : Dyn) (n : Nat) := (⟨_, by conv => rhs; reduce⟩ : {g // some g = prtF (s603 D n) D n 603 Tryz.f603 h603 [] 0}).1
attribute [local irreducible] f603j0
def f603 (D : Dyn) (n : Nat) := (⟨_, by conv => rhs; reduce⟩ : {g // g = fun vs H => funS (s603 D n) D n 603 Tryz.f603 h603 [f603j0 D n] vs H}).1
theorem f603_eq (D : Dyn) (n : Nat) : f603 D n = funKp (s603 D n) D n 603 Tryz.f603 (ms h603) := by kernel_rfl
theorem f603_ok {D : Dyn} (hD : DP D) (n : Nat) : FP 603 (f603 D n) := fun_okP X_ok hD (SP.cons (f542_ok hD n) (SP.cons (f604_ok hD n) (SP.nil))) Tryz.func603 (by kernel_rfl) (by kernel_rfl) (f603_eq D n)
attribute [local irreducible] f603

def s563 (D : Dyn) (n : Nat) : Tb := ⟨X, [(471, f471 D n)]⟩
def h563 : Hint := (.s .o (.s .o .o))
def f563 (D : Dyn) (n : Nat) := (⟨_, by conv => rhs; reduce⟩ : {g // g = fun vs H => funS (s563 D n) D n 563 Tryz.f563 h563 [] vs H}).1
theorem f563_eq (D : Dyn) (n : Nat) : f563 D n = funKp (s563 D n) D n 563 Tryz.f563 (ms h563) := by kernel_rfl
theorem f563_ok {D : Dyn} (hD : DP D) (n : Nat) : FP 563 (f563 D n) := fun_okP X_ok hD (SP.cons (f471_ok hD n) (SP.nil)) Tryz.func563 (by kernel_rfl) (by kernel_rfl) (f563_eq D n)
attribute [local irreducible] f563

def s556 (D : Dyn) (n : Nat) : Tb := ⟨X, [(148, f148 D n), (562, f562 D n), (563, f563 D n)]⟩
def h556 : Hint := (.s .o (.s .o (.s (.s .o (.cl (.s .o .o) .o)) (.s .o (.s (.s (.b [1,0] .o) (.c [1,2,6,8,9] .o (.s .o (.s (.s .o (.c [0,2,4,6,8,9,10,11] .o .o)) (.s (.s .o (.cl (.s .o .o) .o)) (.s .o (.s .o (.s .o (.cl (.s .o .o) .o))))))))) (.s .o (.s (.s .o (.cl (.s .o .o) .o)) (.s .o .o))))))))
def f556j0 (D : Dyn) (n : Nat) := (⟨_, by conv => rhs; reduce⟩ : {g // some g = prtF (s556 D n) D n 556 Tryz.f556 h556 [] 0}).1
attribute [local irreducible] f556j0
def f556j1 (D : Dyn) (n : Nat) := (⟨_, by conv => rhs; reduce⟩ : {g // some g = prtF (s556 D n) D n 556 Tryz.f556 h556 [f556j0 D n] 1}).1
attribute [local irreducible] f556j1
def f556 (D : Dyn) (n : Nat) := (⟨_, by conv => rhs; reduce⟩ : {g // g = fun vs H => funS (s556 D n) D n 556 Tryz.f556 h556 [f556j0 D n, f556j1 D n] vs H}).1
theorem f556_eq (D : Dyn) (n : Nat) : f556 D n = funKp (s556 D n) D n 556 Tryz.f556 (ms h556) := by kernel_rfl
theorem f556_ok {D : Dyn} (hD : DP D) (n : Nat) : FP 556 (f556 D n) := fun_okP X_ok hD (SP.cons (f148_ok hD n) (SP.cons (f562_ok hD n) (SP.cons (f563_ok hD n) (SP.nil)))) Tryz.func556 (by kernel_rfl) (by kernel_rfl) (f556_eq D n)
attribute [local irreducible] f556

def s557 (D : Dyn) (n : Nat) : Tb := ⟨X, []⟩
def h557 : Hint := (.s .o (.s .o .o))
def f557 (D : Dyn) (n : Nat) := (⟨_, by conv => rhs; reduce⟩ : {g // g = fun vs H => funS (s557 D n) D n 557 Tryz.f557 h557 [] vs H}).1
theorem f557_eq (D : Dyn) (n : Nat) : f557 D n = funKp (s557 D n) D n 557 Tryz.f557 (ms h557) := by kernel_rfl
theorem f557_ok {D : Dyn} (hD : DP D) (n : Nat) : FP 557 (f557 D n) := fun_okP X_ok hD (SP.nil) Tryz.func557 (by kernel_rfl) (by kernel_rfl) (f557_eq D n)
attribute [local irreducible] f557

def s495 (D : Dyn) (n : Nat) : Tb := ⟨X, [(556, f556 D n)]⟩
def h495 : Hint := (.s .o (.s .o .o))
def f495 (D : Dyn) (n : Nat) := (⟨_, by conv => rhs; reduce⟩ : {g // g = fun vs H => funS (s495 D n) D n 495 Tryz.f495 h495 [] vs H}).1
theorem f495_eq (D : Dyn) (n : Nat) : f495 D n = funKp (s495 D n) D n 495 Tryz.f495 (ms h495) := by kernel_rfl
theorem f495_ok {D : Dyn} (hD : DP D) (n : Nat) : FP 495 (f495 D n) := fun_okP X_ok hD (SP.cons (f556_ok hD n) (SP.nil)) Tryz.func495 (by kernel_rfl) (by kernel_rfl) (f495_eq D n)
attribute [local irreducible] f495

def s437 (D : Dyn) (n : Nat) : Tb := ⟨X, []⟩
def h437 : Hint := (.s .o (.c [0] .pc .o))
def f437j0 (D : Dyn) (n : Nat) := (⟨_, by conv => rhs; reduce⟩ : {g // some g = prtF (s437 D n) D n 437 Tryz.f437 h437 [] 0}).1
attribute [local irreducible] f437j0
def f437 (D : Dyn) (n : Nat) := (⟨_, by conv => rhs; reduce⟩ : {g // g = fun vs H => funS (s437 D n) D n 437 Tryz.f437 h437 [f437j0 D n] vs H}).1
theorem f437_eq (D : Dyn) (n : Nat) : f437 D n = funKp (s437 D n) D n 437 Tryz.f437 (ms h437) := by kernel_rfl
theorem f437_ok {D : Dyn} (hD : DP D) (n : Nat) : FP 437 (f437 D n) := fun_okP X_ok hD (SP.nil) Tryz.func437 (by kernel_rfl) (by kernel_rfl) (f437_eq D n)
attribute [local irreducible] f437

def s431 (D : Dyn) (n : Nat) : Tb := ⟨X, [(495, f495 D n), (437, f437 D n)]⟩
def h431 : Hint := (.s .o (.s (.c [5,31,10,767] (.l [0,1,2,3,4,9,5,6,7,8,10,11] .o) .o) (.s .pc (.s .o .o))))
def f431 (D : Dyn) (n : Nat) := (⟨_, by conv => rhs; reduce⟩ : {g // g = fun vs H => funS (s431 D n) D n 431 Tryz.f431 h431 [] vs H}).1
theorem f431_eq (D : Dyn) (n : Nat) : f431 D n = funKp (s431 D n) D n 431 Tryz.f431 (ms h431) := by kernel_rfl
theorem f431_ok {D : Dyn} (hD : DP D) (n : Nat) : FP 431 (f431 D n) := fun_okP X_ok hD (SP.cons (f495_ok hD n) (SP.cons (f437_ok hD n) (SP.nil))) Tryz.func431 (by kernel_rfl) (by kernel_rfl) (f431_eq D n)
attribute [local irreducible] f431

def s430 (D : Dyn) (n : Nat) : Tb := ⟨X, []⟩
def h430 : Hint := (.s .o (.s (.s .o (.c [0,5,6] (.b [8,255,10,1023] .o) .o)) (.s .o .o)))
def f430j0 (D : Dyn) (n : Nat) := (⟨_, by conv => rhs; reduce⟩ : {g // some g = prtF (s430 D n) D n 430 Tryz.f430 h430 [] 0}).1
attribute [local irreducible] f430j0
def f430 (D : Dyn) (n : Nat) := (⟨_, by conv => rhs; reduce⟩ : {g // g = fun vs H => funS (s430 D n) D n 430 Tryz.f430 h430 [f430j0 D n] vs H}).1
theorem f430_eq (D : Dyn) (n : Nat) : f430 D n = funKp (s430 D n) D n 430 Tryz.f430 (ms h430) := by kernel_rfl
theorem f430_ok {D : Dyn} (hD : DP D) (n : Nat) : FP 430 (f430 D n) := fun_okP X_ok hD (SP.nil) Tryz.func430 (by kernel_rfl) (by kernel_rfl) (f430_eq D n)
attribute [local irreducible] f430

def s378 (D : Dyn) (n : Nat) : Tb := ⟨X, [(431, f431 D n), (430, f430 D n)]⟩
def h378 : Hint := (.s .o (.s (.b [13,8064,14,16383,16,65535] .o) .o))
def f378 (D : Dyn) (n : Nat) := (⟨_, by conv => rhs; reduce⟩ : {g // g = fun vs H => funS (s378 D n) D n 378 Tryz.f378 h378 [] vs H}).1
theorem f378_eq (D : Dyn) (n : Nat) : f378 D n = funKp (s378 D n) D n 378 Tryz.f378 (ms h378) := by kernel_rfl
theorem f378_ok {D : Dyn} (hD : DP D) (n : Nat) : FP 378 (f378 D n) := fun_okP X_ok hD (SP.cons (f431_ok hD n) (SP.cons (f430_ok hD n) (SP.nil))) Tryz.func378 (by kernel_rfl) (by kernel_rfl) (f378_eq D n)
attribute [local irreducible] f378

def s496 (D : Dyn) (n : Nat) : Tb := ⟨X, [(148, f148 D n), (495, f495 D n)]⟩
def h496 : Hint := (.s .o (.s (.s (.b [8,127] .o) (.cl (.s .o .o) .o)) (.s .o .o)))
def f496 (D : Dyn) (n : Nat) := (⟨_, by conv => rhs; reduce⟩ : {g // g = fun vs H => funS (s496 D n) D n 496 Tryz.f496 h496 [] vs H}).1
theorem f496_eq (D : Dyn) (n : Nat) : f496 D n = funKp (s496 D n) D n 496 Tryz.f496 (ms h496) := by kernel_rfl
theorem f496_ok {D : Dyn} (hD : DP D) (n : Nat) : FP 496 (f496 D n) := fun_okP X_ok hD (SP.cons (f148_ok hD n) (SP.cons (f495_ok hD n) (SP.nil))) Tryz.func496 (by kernel_rfl) (by kernel_rfl) (f496_eq D n)
attribute [local irreducible] f496

def s432 (D : Dyn) (n : Nat) : Tb := ⟨X, [(496, f496 D n), (437, f437 D n)]⟩
def h432 : Hint := (.s .o (.s (.c [5,31,10,767] (.l [0,1,2,3,4,9,5,6,7,8,10,11] .o) .o) (.s .pc (.s .o .o))))
def f432 (D : Dyn) (n : Nat) := (⟨_, by conv => rhs; reduce⟩ : {g // g = fun vs H => funS (s432 D n) D n 432 Tryz.f432 h432 [] vs H}).1
theorem f432_eq (D : Dyn) (n : Nat) : f432 D n = funKp (s432 D n) D n 432 Tryz.f432 (ms h432) := by kernel_rfl
theorem f432_ok {D : Dyn} (hD : DP D) (n : Nat) : FP 432 (f432 D n) := fun_okP X_ok hD (SP.cons (f496_ok hD n) (SP.cons (f437_ok hD n) (SP.nil))) Tryz.func432 (by kernel_rfl) (by kernel_rfl) (f432_eq D n)
attribute [local irreducible] f432

def s446 (D : Dyn) (n : Nat) : Tb := ⟨X, [(432, f432 D n)]⟩
def h446 : Hint := (.s .o (.s .pc (.s (.s .o (.c [0,6,7] .pc .o)) (.s .o .o))))
def f446j0 (D : Dyn) (n : Nat) := (⟨_, by conv => rhs; reduce⟩ : {g // some g = prtF (s446 D n) D n 446 Tryz.f446 h446 [] 0}).1
attribute [local irreducible] f446j0
def f446 (D : Dyn) (n : Nat) := (⟨_, by conv => rhs; reduce⟩ : {g // g = fun vs H => funS (s446 D n) D n 446 Tryz.f446 h446 [f446j0 D n] vs H}).1
theorem f446_eq (D : Dyn) (n : Nat) : f446 D n = funKp (s446 D n) D n 446 Tryz.f446 (ms h446) := by kernel_rfl
theorem f446_ok {D : Dyn} (hD : DP D) (n : Nat) : FP 446 (f446 D n) := fun_okP X_ok hD (SP.cons (f432_ok hD n) (SP.nil)) Tryz.func446 (by kernel_rfl) (by kernel_rfl) (f446_eq D n)
attribute [local irreducible] f446

def s295 (D : Dyn) (n : Nat) : Tb := ⟨X, []⟩
def f295 (D : Dyn) (n : Nat) (vs : List AV) (H : AH) : Option (AV × AH) :=
  outR (hd vs fun x0 vs => nl vs <|
  bV (cmpO .eql (eqP x0 .nilPtr)) fun x7 => 
  cnd x7 (bV (some .nilPtr) fun x2 => some (.ret x2, H))
  (bV (pNil x0) fun x9 => 
  bV (fAd 0 x9) fun x10 => 
  bV (ld1p x10 H) fun x11 => 
  bV (lnMap x11 H) fun x12 => 
  bA (mkR [6] x12) H fun x13 H => 
  bV (pNil x0) fun x15 => 
  bV (fAd 1 x15) fun x16 => 
  bV (ld1p x16 H) fun x17 => 
  bV (bldSp [(0, 1), (1, 1)] [.nilMap, (.int .i64 (.ofNat 0))] [(0, x13), (1, x17)]) fun x18 => 
  bA (bxV 164 x18) H fun x19 H => 
  tld (mtp295_0 [x0, x19] H) H.next fun H => 
  bV (some x19) fun x2_2 => some (.ret x2_2, H)))
def h295 : Hint := (.s .o (.s (.s .o (.cl (.s .o .o) .o)) (.s .o (.s (.t [0, 3] mtp295_0) (.s .o .o)))))
def ho295 : Hint := (.s .o (.s (.s .o (.cl (.s .o .o) .o)) (.s .o (.s (.t [0, 3] mt295_0) (.s .o .o)))))
theorem f295_eq (D : Dyn) (n : Nat) : f295 D n = funKp (s295 D n) D n 295 Tryz.f295 h295 := by kernel_rfl
theorem f295_tolds : toldsF Tryz.f295 ho295 = [(q295_0.code, [0, 3], mt295_0)] := by kernel_rfl
theorem f295_told : ∀ x ∈ toldsF Tryz.f295 ho295, ToldOk PP Tryz.f295.ntmps 295 x.1 x.2.1 x.2.2 := by
  rw [f295_tolds]; intro x hx
  simp only [List.mem_cons, List.not_mem_nil, or_false] at hx
  subst hx; exact told295_0
theorem f295_hs : HS h295 ho295 := by
  unfold h295 ho295
  repeat (first | exact HS.t mtp295_0_sim | constructor)
theorem f295_ok {D : Dyn} (hD : DP D) (n : Nat) : FP 295 (f295 D n) := fun_okPT X_ok hD (SP.nil) Tryz.func295 (sitesT_ok (by kernel_rfl) f295_told) f295_hs (f295_eq D n)
attribute [local irreducible] f295

def s434 (D : Dyn) (n : Nat) : Tb := ⟨X, [(72, f72 D n), (73, f73 D n), (295, f295 D n)]⟩
def h434 : Hint := (.s .o .o)
def f434 (D : Dyn) (n : Nat) := (⟨_, by conv => rhs; reduce⟩ : {g // g = fun vs H => funS (s434 D n) D n 434 Tryz.f434 h434 [] vs H}).1
theorem f434_eq (D : Dyn) (n : Nat) : f434 D n = funKp (s434 D n) D n 434 Tryz.f434 (ms h434) := by kernel_rfl
theorem f434_ok {D : Dyn} (hD : DP D) (n : Nat) : FP 434 (f434 D n) := fun_okP X_ok hD (SP.cons (f72_ok hD n) (SP.cons (f73_ok hD n) (SP.cons (f295_ok hD n) (SP.nil)))) Tryz.func434 (by kernel_rfl) (by kernel_rfl) (f434_eq D n)
attribute [local irreducible] f434

def s436 (D : Dyn) (n : Nat) : Tb := ⟨X, [(72, f72 D n), (128, f128 D n)]⟩
def h436 : Hint := (.s .o (.s .o .o))
def f436 (D : Dyn) (n : Nat) := (⟨_, by conv => rhs; reduce⟩ : {g // g = fun vs H => funS (s436 D n) D n 436 Tryz.f436 h436 [] vs H}).1
theorem f436_eq (D : Dyn) (n : Nat) : f436 D n = funKp (s436 D n) D n 436 Tryz.f436 (ms h436) := by kernel_rfl
theorem f436_ok {D : Dyn} (hD : DP D) (n : Nat) : FP 436 (f436 D n) := fun_okP X_ok hD (SP.cons (f72_ok hD n) (SP.cons (f128_ok hD n) (SP.nil))) Tryz.func436 (by kernel_rfl) (by kernel_rfl) (f436_eq D n)
attribute [local irreducible] f436

def s474 (D : Dyn) (n : Nat) : Tb := ⟨X, [(127, f127 D n), (541, f541 D n)]⟩
def h474 : Hint := (.s .o (.s .o (.s (.s .o (.cl (.s .o .o) .o)) (.s (.s .o (.cl (.s .o .o) .o)) (.s .o (.s .o (.s (.s .o (.cl (.s .o .o) .o)) (.s .o (.s .o .o)))))))))
def f474 (D : Dyn) (n : Nat) := (⟨_, by conv => rhs; reduce⟩ : {g // g = fun vs H => funS (s474 D n) D n 474 Tryz.f474 h474 [] vs H}).1
theorem f474_eq (D : Dyn) (n : Nat) : f474 D n = funKp (s474 D n) D n 474 Tryz.f474 (ms h474) := by kernel_rfl
theorem f474_ok {D : Dyn} (hD : DP D) (n : Nat) : FP 474 (f474 D n) := fun_okP X_ok hD (SP.cons (f127_ok hD n) (SP.cons (f541_ok hD n) (SP.nil))) Tryz.func474 (by kernel_rfl) (by kernel_rfl) (f474_eq D n)
attribute [local irreducible] f474

def s473 (D : Dyn) (n : Nat) : Tb := ⟨X, [(542, f542 D n)]⟩
def h473 : Hint := (.s .o (.s .pc (.s (.s .o (.c [0,4,5] .pc .o)) (.s .o .o))))
def f473j0 (D : Dyn) (n : Nat) := (⟨_, by conv => rhs; reduce⟩ : {g // some g = prtF (s473 D n) D n 473 Tryz.f473 h473 [] 0}).1
attribute [local irreducible] f473j0
def f473 (D : Dyn) (n : Nat) := (⟨_, by conv => rhs; reduce⟩ : {g // g = fun vs H => funS (s473 D n) D n 473 Tryz.f473 h473 [f473j0 D n] vs H}).1
theorem f473_eq (D : Dyn) (n : Nat) : f473 D n = funKp (s473 D n) D n 473 Tryz.f473 (ms h473) := by kernel_rfl
theorem f473_ok {D : Dyn} (hD : DP D) (n : Nat) : FP 473 (f473 D n) := fun_okP X_ok hD (SP.cons (f542_ok hD n) (SP.nil)) Tryz.func473 (by kernel_rfl) (by kernel_rfl) (f473_eq D n)
attribute [local irreducible] f473

def s512 (D : Dyn) (n : Nat) : Tb := ⟨X, [(473, f473 D n)]⟩
def h512 : Hint := (.s .o (.s .pc (.s (.s .o (.c [0,4,5] .pc .o)) (.s .o .o))))
def f512j0 (D : Dyn) (n : Nat) := (⟨_, by conv => rhs; reduce⟩ : {g // some g = prtF (s512 D n) D n 512 Tryz.f512 h512 [] 0}).1
attribute [local irreducible] f512j0
def f512 (D : Dyn) (n : Nat) := (⟨_, by conv => rhs; reduce⟩ : {g // g = fun vs H => funS (s512 D n) D n 512 Tryz.f512 h512 [f512j0 D n] vs H}).1
theorem f512_eq (D : Dyn) (n : Nat) : f512 D n = funKp (s512 D n) D n 512 Tryz.f512 (ms h512) := by kernel_rfl
theorem f512_ok {D : Dyn} (hD : DP D) (n : Nat) : FP 512 (f512 D n) := fun_okP X_ok hD (SP.cons (f473_ok hD n) (SP.nil)) Tryz.func512 (by kernel_rfl) (by kernel_rfl) (f512_eq D n)
attribute [local irreducible] f512

def s587 (D : Dyn) (n : Nat) : Tb := ⟨X, []⟩
def h587 : Hint := (.s .o (.s .o .o))
def f587 (D : Dyn) (n : Nat) := (⟨_, by conv => rhs; reduce⟩ : {g // g = fun vs H => funS (s587 D n) D n 587 Tryz.f587 h587 [] vs H}).1
theorem f587_eq (D : Dyn) (n : Nat) : f587 D n = funKp (s587 D n) D n 587 Tryz.f587 (ms h587) := by kernel_rfl
theorem f587_ok {D : Dyn} (hD : DP D) (n : Nat) : FP 587 (f587 D n) := fun_okP X_ok hD (SP.nil) Tryz.func587 (by kernel_rfl) (by kernel_rfl) (f587_eq D n)
def m587 (D : Dyn) (n : Nat) (vs : List AV) (H : AH) : Option (AV × AH) := canyK (f587 D n) vs H
theorem m587_ok {D : Dyn} (hD : DP D) (n : Nat) : FP 587 (m587 D n) := canyK_okP (by kernel_rfl) (f587_ok hD n)
attribute [local irreducible] f587 m587

def s531 (D : Dyn) (n : Nat) : Tb := ⟨X, [(587, m587 D n)]⟩
def h531 : Hint := (.s .o (.s (.s .o (.b0 (.s (.s .o (.c [2,0,4] .o (.s .o (.c [1,0,4] .o (.s .o (.c [0,0,4] .o .o)))))) (.cl (.s .o .o) .o)))) (.s .o .o)))
def f531j0 (D : Dyn) (n : Nat) := (⟨_, by conv => rhs; reduce⟩ : {g // some g = prtF (s531 D n) D n 531 Tryz.f531 h531 [] 0}).1
attribute [local irreducible] f531j0
def f531j1 (D : Dyn) (n : Nat) := (⟨_, by conv => rhs; reduce⟩ : {g // some g = prtF (s531 D n) D n 531 Tryz.f531 h531 [f531j0 D n] 1}).1
attribute [local irreducible] f531j1
def f531j2 (D : Dyn) (n : Nat) := (⟨_, by conv => rhs; reduce⟩ : {g // some g = prtF (s531 D n) D n 531 Tryz.f531 h531 [f531j0 D n, f531j1 D n] 2}).1
attribute [local irreducible] f531j2
def f531 (D : Dyn) (n : Nat) := (⟨_, by conv => rhs; reduce⟩ : {g // g = fun vs H => funS (s531 D n) D n 531 Tryz.f531 h531 [f531j0 D n, f531j1 D n, f531j2 D n] vs H}).1
theorem f531_eq (D : Dyn) (n : Nat) : f531 D n = funKp (s531 D n) D n 531 Tryz.f531 (ms h531) := by kernel_rfl
theorem f531_ok {D : Dyn} (hD : DP D) (n : Nat) : FP 531 (f531 D n) := fun_okP X_ok hD (SP.cons (m587_ok hD n) (SP.nil)) Tryz.func531 (by kernel_rfl) (by kernel_rfl) (f531_eq D n)
attribute [local irreducible] f531

def s513 (D : Dyn) (n : Nat) : Tb := ⟨X, [(531, f531 D n)]⟩
def h513 : Hint := (.s .o (.c [0] .pc .o))
def f513j0 (D : Dyn) (n : Nat) := (⟨_, by conv => rhs; reduce⟩ : {g // some g = prtF (s513 D n) D n 513 Tryz.f513 h513 [] 0}).1
attribute [local irreducible] f513j0
def f513 (D : Dyn) (n : Nat) := (⟨_, by conv => rhs; reduce⟩ : {g // g = fun vs H => funS (s513 D n) D n 513 Tryz.f513 h513 [f513j0 D n] vs H}).1
theorem f513_eq (D : Dyn) (n : Nat) : f513 D n = funKp (s513 D n) D n 513 Tryz.f513 (ms h513) := by kernel_rfl
theorem f513_ok {D : Dyn} (hD : DP D) (n : Nat) : FP 513 (f513 D n) := fun_okP X_ok hD (SP.cons (f531_ok hD n) (SP.nil)) Tryz.func513 (by kernel_rfl) (by kernel_rfl) (f513_eq D n)
attribute [local irreducible] f513

def s612 (D : Dyn) (n : Nat) : Tb := ⟨X, []⟩
def h612 : Hint := (.s .o (.s .o .o))
def f612 (D : Dyn) (n : Nat) := (⟨_, by conv => rhs; reduce⟩ : {g // g = fun vs H => funS (s612 D n) D n 612 Tryz.f612 h612 [] vs H}).1
theorem f612_eq (D : Dyn) (n : Nat) : f612 D n = funKp (s612 D n) D n 612 Tryz.f612 (ms h612) := by kernel_rfl
theorem f612_ok {D : Dyn} (hD : DP D) (n : Nat) : FP 612 (f612 D n) := fun_okP X_ok hD (SP.nil) Tryz.func612 (by kernel_rfl) (by kernel_rfl) (f612_eq D n)
attribute [local irreducible] f612
end Go.Eng.Sh
