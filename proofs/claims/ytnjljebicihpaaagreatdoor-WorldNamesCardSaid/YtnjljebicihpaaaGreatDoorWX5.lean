/- Shallow functions, by program (gent4.py). -/
import Derived.Test.YtnjljebicihpaaaGreatDoorWX4
import Derived.Test.YtnjljebicihpaaaGreatDoorProg
import Derived.KernelRfl
noncomputable section
namespace Go.Eng.Sh
open Go.Proofs
set_option maxRecDepth 100000
set_option maxHeartbeats 4000000
set_option linter.all false
attribute [local irreducible] bV bR hd cnd jn jb loopK wnt chk newB bA bInt bStr bBool cmpO eqP eqS eqM eqF eqPL cvI cvSS slStr slArr ixArr ixSl ixStr fAd lnStr lnSl lnMap pk3 s2a bxV lkM upM dlM mkM callV nl outR tld endQ beginK endR endLp jmpK rfC mn2 mx2 aun pExtract pNil undefA isW aveq ldNp ld1p stNp cvBSp cvSBp slSlp ixAg1p ixAgNp fd1p fdNp apPp apZp cpyp bldSp bldAp bldLp mkSlp eqAp clSp bC pnK ifNil asrK noPan mkR clM acap mtp358_0 mtp295_0 mtp297_0 f33 f11 f98 f102 f58 f161l0 f161b1 f161 f167l0 f167b1 f167 f162 f103 f163 f104 f210 f141l0 f141b1 f141 f164 f105 f165l0 f165b1 f165 m165 f106 f59 f60 f34j0 f34l1 f34b2 f34 f166 f107 f266 f267 f237 f168 f109 f169 f108 f61 f110 f62l0 f62b1 f62 f35 f111 f112 f114 f170 f113l0 f113b1 f113 f115 f240 f369 f422 f425j0 f425 f421j0 f421j1 f421j2 f421j3 f421 f424j0 f424j1 f424 f370j0 f370j1 f370 f350 f407 f351 f318 f300j0 f300j1 f300j2 f300 f352 f365 f364l0 f364l1 f364b2 f364l3 f364b4 f364b5 f364 f409l0 f409l1 f409b2 f409b3 f409 f356 f408 f353 f355 f301l0 f301b1 f301l2 f301b3 f301j4 f301 f241 f242 f185 f183 f238l0 f238b1 f238 r238_0 f171 f116 r116_0 f63j0 f63 f119 f65 f66 f64l0 f64b1 f64l2 f64b3 f64 f67 f120 f175 m121 f121 f176 f177 f178 f179 f180j0 f180 f181 f122 f68j0 f68l1 f68b2 f68 f36l0 f36b1 f36 f71 f126 f72 f184 m184 f127 f73 f128 f302j0 f302j1 rc302 f243 f186 f303 f357l0 f357b1 f357 f304 f305j0 f305l1 f305b2 f305 f244l0 f244b1 f244 f191j0 f191 f188 f306 f307 f308 f245l0 f245b1 f245 f190j0 f190 f309 f310 f246l0 f246b1 f246 f359 f358j0 f358l1 f358b2 f358 f411l0 f411b1 f411 f414l0 f414b1 f414 f363j0 f363j1 f363 f362 f360j0 f360j1 f360 f311 f366 m366 f313 f312 f249 f194 f192 f247l0 f247b1 f247 f248 f193 f195 f187j0 f187 f129 f314l0 f314b1 f314 f250l0 f250b1 f250 f197j0 f197 f196j0 f196 f130 f253 f316 f417 f367j0 f367l1 f367b2 f367j3 f367 f426l0 f426b1 f426 f371 f419l0 f419b1 f419 r419_0 f420 f368 f317l0 f317j1 f317b2 f317
def s239 (D : Dyn) (n : Nat) : Tb := ⟨X, []⟩
def h239 : Hint := (.s .o (.s (.s .o (.cl (.s .o .o) .o)) (.s (.s .o (.cl (.s .o .o) .o)) (.s .o .o))))
def f239 (D : Dyn) (n : Nat) := (⟨_, by conv => rhs; reduce⟩ : {g // g = fun vs H => funS (s239 D n) D n 239 Tryz.f239 h239 [] vs H}).1
theorem f239_eq (D : Dyn) (n : Nat) : f239 D n = funKp (s239 D n) D n 239 Tryz.f239 (ms h239) := by kernel_rfl
theorem f239_ok {D : Dyn} (hD : DP D) (n : Nat) : FP 239 (f239 D n) := fun_okP X_ok hD (SP.nil) Tryz.func239 (by kernel_rfl) (by kernel_rfl) (f239_eq D n)
attribute [local irreducible] f239

def s261 (D : Dyn) (n : Nat) : Tb := ⟨X, [(239, f239 D n), (170, f170 D n)]⟩
def h261 : Hint := (.s .o (.s (.s .o (.s .o (.cl (.s .o .o) .o))) (.s (.s .o (.b0 (.s .o (.c [0] .o (.s .o (.cr .o (.s .o .o))))))) (.s .o .o))))
def f261j0 (D : Dyn) (n : Nat) := (⟨_, by conv => rhs; reduce⟩ : {g // some g = prtF (s261 D n) D n 261 Tryz.f261 h261 [] 0}).1
attribute [local irreducible] f261j0
def f261 (D : Dyn) (n : Nat) := (⟨_, by conv => rhs; reduce⟩ : {g // g = fun vs H => funS (s261 D n) D n 261 Tryz.f261 h261 [f261j0 D n] vs H}).1
theorem f261_eq (D : Dyn) (n : Nat) : f261 D n = funKp (s261 D n) D n 261 Tryz.f261 (ms h261) := by kernel_rfl
theorem f261_ok {D : Dyn} (hD : DP D) (n : Nat) : FP 261 (f261 D n) := fun_okP X_ok hD (SP.cons (f239_ok hD n) (SP.cons (f170_ok hD n) (SP.nil))) Tryz.func261 (by kernel_rfl) (by kernel_rfl) (f261_eq D n)
attribute [local irreducible] f261

def s254 (D : Dyn) (n : Nat) : Tb := ⟨X, [(240, f240 D n), (316, f316 D n), (317, f317 D n), (261, f261 D n), (318, f318 D n)]⟩
def h254 : Hint := (.s .o (.s (.s .o (.cl (.s .o .o) .o)) (.s (.s .o (.cl (.s .o .o) .o)) (.s (.s (.c [1,1] (.l [0,2,3,4,5,1,6,7] .o) .o) (.cl (.s .o .o) .o)) (.s .o (.s .o (.s (.s .o (.cl (.s (.s .o (.b [1,6,11] (.l [0,1,6,11,64,65,66] (.s .o (.s (.cr .o .o) (.s (.b0 (.s .o .o)) .o)))))) (.s .o .o)) .o)) (.s (.s .o (.c [4,0,6,10] (.s .o (.b [3,0,6,10] (.l [2,0,6,10,84,85,86] (.s .o (.s (.cr .o .o) (.s (.b0 (.s .o (.b [8,255] .o))) .o)))))) .o)) (.s .o (.s .o (.s .o (.s .o .o))))))))))))
def f254l0 (D : Dyn) (n : Nat) := (⟨_, by conv => rhs; reduce⟩ : {g // some g = prtF (s254 D n) D n 254 Tryz.f254 h254 [] 0}).1
attribute [local irreducible] f254l0
def f254b1 (D : Dyn) (n : Nat) := (⟨_, by conv => rhs; reduce⟩ : {g // some g = prtF (s254 D n) D n 254 Tryz.f254 h254 [f254l0 D n] 1}).1
attribute [local irreducible] f254b1
def f254l2 (D : Dyn) (n : Nat) := (⟨_, by conv => rhs; reduce⟩ : {g // some g = prtF (s254 D n) D n 254 Tryz.f254 h254 [f254l0 D n, f254b1 D n] 2}).1
attribute [local irreducible] f254l2
def f254b3 (D : Dyn) (n : Nat) := (⟨_, by conv => rhs; reduce⟩ : {g // some g = prtF (s254 D n) D n 254 Tryz.f254 h254 [f254l0 D n, f254b1 D n, f254l2 D n] 3}).1
attribute [local irreducible] f254b3
def f254j4 (D : Dyn) (n : Nat) := (⟨_, by conv => rhs; reduce⟩ : {g // some g = prtF (s254 D n) D n 254 Tryz.f254 h254 [f254l0 D n, f254b1 D n, f254l2 D n, f254b3 D n] 4}).1
attribute [local irreducible] f254j4
def f254 (D : Dyn) (n : Nat) := (⟨_, by conv => rhs; reduce⟩ : {g // g = fun vs H => funS (s254 D n) D n 254 Tryz.f254 h254 [f254l0 D n, f254b1 D n, f254l2 D n, f254b3 D n, f254j4 D n] vs H}).1
theorem f254_eq (D : Dyn) (n : Nat) : f254 D n = funKp (s254 D n) D n 254 Tryz.f254 (ms h254) := by kernel_rfl
theorem f254_ok {D : Dyn} (hD : DP D) (n : Nat) : FP 254 (f254 D n) := fun_okP X_ok hD (SP.cons (f240_ok hD n) (SP.cons (f316_ok hD n) (SP.cons (f317_ok hD n) (SP.cons (f261_ok hD n) (SP.cons (f318_ok hD n) (SP.nil)))))) Tryz.func254 (by kernel_rfl) (by kernel_rfl) (f254_eq D n)
attribute [local irreducible] f254

def s255 (D : Dyn) (n : Nat) : Tb := ⟨X, [(62, f62 D n), (61, f61 D n)]⟩
def h255 : Hint := (.s .o (.s (.s .o (.s .o (.cl (.s .o .o) .o))) (.s (.s (.b [14,16383] .o) (.s .o (.cl (.s .o .o) .o))) (.s .o .o))))
def f255 (D : Dyn) (n : Nat) := (⟨_, by conv => rhs; reduce⟩ : {g // g = fun vs H => funS (s255 D n) D n 255 Tryz.f255 h255 [] vs H}).1
theorem f255_eq (D : Dyn) (n : Nat) : f255 D n = funKp (s255 D n) D n 255 Tryz.f255 (ms h255) := by kernel_rfl
theorem f255_ok {D : Dyn} (hD : DP D) (n : Nat) : FP 255 (f255 D n) := fun_okP X_ok hD (SP.cons (f62_ok hD n) (SP.cons (f61_ok hD n) (SP.nil))) Tryz.func255 (by kernel_rfl) (by kernel_rfl) (f255_eq D n)
attribute [local irreducible] f255

def s319 (D : Dyn) (n : Nat) : Tb := ⟨X, [(371, f371 D n), (170, f170 D n)]⟩
def h319 : Hint := (.s .o (.s .o (.b0 (.rf 0 [3,5]))))
def f319 (D : Dyn) (n : Nat) := (⟨_, by conv => rhs; reduce⟩ : {g // g = fun vs H => funS (s319 D n) D n 319 Tryz.f319 h319 [] vs H}).1
theorem f319_eq (D : Dyn) (n : Nat) : f319 D n = funKp (s319 D n) D n 319 Tryz.f319 (ms h319) := by kernel_rfl
theorem f319_ok {D : Dyn} (hD : DP D) (n : Nat) : FP 319 (f319 D n) := fun_okP X_ok hD (SP.cons (f371_ok hD n) (SP.cons (f170_ok hD n) (SP.nil))) Tryz.func319 (by kernel_rfl) (by kernel_rfl) (f319_eq D n)
def r319_0a : Hint := .o
def r319_0b : Hint := (.b0 .o)
def r319_0 (D : Dyn) (n : Nat) := (⟨_, by conv => rhs; reduce⟩ : {g // g = fun A l az H => rndS (s319 D n) D n 319 0 [3, 5] [] r319_0a r319_0b [] A l az H}).1
theorem r319_0_eq (D : Dyn) (n : Nat) : r319_0 D n = rndKp (s319 D n) D n 319 0 [3, 5] [] (ms r319_0a) (ms r319_0b) := by kernel_rfl
theorem r319_0_ok {D : Dyn} (hD : DP D) (n : Nat) : RdP 319 0 (r319_0 D n) := round_okP X_ok hD (SP.cons (f371_ok hD n) (SP.cons (f170_ok hD n) (SP.nil))) (by kernel_rfl) (r319_0_eq D n)
attribute [local irreducible] f319 r319_0

def s257 (D : Dyn) (n : Nat) : Tb := ⟨X, [(319, f319 D n)]⟩
def h257 : Hint := (.s .o (.c [0] (.s .o .o) .o))
def f257j0 (D : Dyn) (n : Nat) := (⟨_, by conv => rhs; reduce⟩ : {g // some g = prtF (s257 D n) D n 257 Tryz.f257 h257 [] 0}).1
attribute [local irreducible] f257j0
def f257 (D : Dyn) (n : Nat) := (⟨_, by conv => rhs; reduce⟩ : {g // g = fun vs H => funS (s257 D n) D n 257 Tryz.f257 h257 [f257j0 D n] vs H}).1
theorem f257_eq (D : Dyn) (n : Nat) : f257 D n = funKp (s257 D n) D n 257 Tryz.f257 (ms h257) := by kernel_rfl
theorem f257_ok {D : Dyn} (hD : DP D) (n : Nat) : FP 257 (f257 D n) := fun_okP X_ok hD (SP.cons (f319_ok hD n) (SP.nil)) Tryz.func257 (by kernel_rfl) (by kernel_rfl) (f257_eq D n)
attribute [local irreducible] f257

def s199 (D : Dyn) (n : Nat) : Tb := ⟨X, [(119, f119 D n), (127, f127 D n), (253, f253 D n), (254, f254 D n), (255, f255 D n), (257, f257 D n), (114, f114 D n), (175, f175 D n)]⟩
def h199 : Hint := (.s .o (.s (.s .o (.cl (.s .o .o) .o)) (.s (.s .o (.cl (.s .o .o) .o)) (.s (.c [4,15,9,511] (.l [0,1,2,3,5,6,7,8,4,9,10,11] .o) .o) (.s (.c [13,8191,19,327679] (.l [0,1,2,3,4,5,6,7,8,9,10,11,12,18,13,14,15,16,17,19,20,21] .o) .o) (.s (.s .o (.cl (.s .o .o) .o)) (.s (.s .o (.s .o (.cl (.s (.b [8,255] .o) (.s .o (.s .o .o))) .o))) (.s .o (.s (.s .o (.b [4,0,6,7] (.l [1,0,5,6,7,78,79] (.s .o (.s (.cr .o .o) (.s (.b0 (.s .o (.s .o (.c [0,0,5,6,7,78,79] .o .o)))) .o)))))) (.s (.s .o (.b [3,0,6,7] (.l [2,0,6,7,101,102,103] (.s .o (.s (.cr .o .o) (.s (.b0 (.s .o (.b [6,63] .o))) .o)))))) (.s .o (.s .o (.s .o .o)))))))))))))
def f199j0 (D : Dyn) (n : Nat) := (⟨_, by conv => rhs; reduce⟩ : {g // some g = prtF (s199 D n) D n 199 Tryz.f199 h199 [] 0}).1
attribute [local irreducible] f199j0
def f199l1 (D : Dyn) (n : Nat) := (⟨_, by conv => rhs; reduce⟩ : {g // some g = prtF (s199 D n) D n 199 Tryz.f199 h199 [f199j0 D n] 1}).1
attribute [local irreducible] f199l1
def f199l2 (D : Dyn) (n : Nat) := (⟨_, by conv => rhs; reduce⟩ : {g // some g = prtF (s199 D n) D n 199 Tryz.f199 h199 [f199j0 D n, f199l1 D n] 2}).1
attribute [local irreducible] f199l2
def f199b3 (D : Dyn) (n : Nat) := (⟨_, by conv => rhs; reduce⟩ : {g // some g = prtF (s199 D n) D n 199 Tryz.f199 h199 [f199j0 D n, f199l1 D n, f199l2 D n] 3}).1
attribute [local irreducible] f199b3
def f199b4 (D : Dyn) (n : Nat) := (⟨_, by conv => rhs; reduce⟩ : {g // some g = prtF (s199 D n) D n 199 Tryz.f199 h199 [f199j0 D n, f199l1 D n, f199l2 D n, f199b3 D n] 4}).1
attribute [local irreducible] f199b4
def f199 (D : Dyn) (n : Nat) := (⟨_, by conv => rhs; reduce⟩ : {g // g = fun vs H => funS (s199 D n) D n 199 Tryz.f199 h199 [f199j0 D n, f199l1 D n, f199l2 D n, f199b3 D n, f199b4 D n] vs H}).1
theorem f199_eq (D : Dyn) (n : Nat) : f199 D n = funKp (s199 D n) D n 199 Tryz.f199 (ms h199) := by kernel_rfl
theorem f199_ok {D : Dyn} (hD : DP D) (n : Nat) : FP 199 (f199 D n) := fun_okP X_ok hD (SP.cons (f119_ok hD n) (SP.cons (f127_ok hD n) (SP.cons (f253_ok hD n) (SP.cons (f254_ok hD n) (SP.cons (f255_ok hD n) (SP.cons (f257_ok hD n) (SP.cons (f114_ok hD n) (SP.cons (f175_ok hD n) (SP.nil))))))))) Tryz.func199 (by kernel_rfl) (by kernel_rfl) (f199_eq D n)
attribute [local irreducible] f199

def s258 (D : Dyn) (n : Nat) : Tb := ⟨X, []⟩
def h258 : Hint := (.s .o (.s .o .o))
def f258 (D : Dyn) (n : Nat) := (⟨_, by conv => rhs; reduce⟩ : {g // g = fun vs H => funS (s258 D n) D n 258 Tryz.f258 h258 [] vs H}).1
theorem f258_eq (D : Dyn) (n : Nat) : f258 D n = funKp (s258 D n) D n 258 Tryz.f258 (ms h258) := by kernel_rfl
theorem f258_ok {D : Dyn} (hD : DP D) (n : Nat) : FP 258 (f258 D n) := fun_okP X_ok hD (SP.nil) Tryz.func258 (by kernel_rfl) (by kernel_rfl) (f258_eq D n)
attribute [local irreducible] f258

def s201 (D : Dyn) (n : Nat) : Tb := ⟨X, [(176, f176 D n), (177, f177 D n), (178, f178 D n), (179, f179 D n), (180, f180 D n), (258, f258 D n)]⟩
def h201 : Hint := (.s .o (.s (.s .o (.cl (.s .o .o) .o)) (.s (.s .o (.cl (.s .o .o) .o)) (.s .o (.s (.s .o (.cl (.s .o .o) .o)) (.s .o (.s .o .o)))))))
def f201 (D : Dyn) (n : Nat) := (⟨_, by conv => rhs; reduce⟩ : {g // g = fun vs H => funS (s201 D n) D n 201 Tryz.f201 h201 [] vs H}).1
theorem f201_eq (D : Dyn) (n : Nat) : f201 D n = funKp (s201 D n) D n 201 Tryz.f201 (ms h201) := by kernel_rfl
theorem f201_ok {D : Dyn} (hD : DP D) (n : Nat) : FP 201 (f201 D n) := fun_okP X_ok hD (SP.cons (f176_ok hD n) (SP.cons (f177_ok hD n) (SP.cons (f178_ok hD n) (SP.cons (f179_ok hD n) (SP.cons (f180_ok hD n) (SP.cons (f258_ok hD n) (SP.nil))))))) Tryz.func201 (by kernel_rfl) (by kernel_rfl) (f201_eq D n)
attribute [local irreducible] f201

def s259 (D : Dyn) (n : Nat) : Tb := ⟨X, []⟩
def h259 : Hint := (.s .o (.s (.s .o (.b [1] (.l [0,1,8,9,10] (.s .o (.s (.cr .o .o) (.s (.b0 (.s .o (.s .o (.s .o (.cl (.s .o .o) .o))))) .o)))))) (.s .o .o)))
def f259l0 (D : Dyn) (n : Nat) := (⟨_, by conv => rhs; reduce⟩ : {g // some g = prtF (s259 D n) D n 259 Tryz.f259 h259 [] 0}).1
attribute [local irreducible] f259l0
def f259b1 (D : Dyn) (n : Nat) := (⟨_, by conv => rhs; reduce⟩ : {g // some g = prtF (s259 D n) D n 259 Tryz.f259 h259 [f259l0 D n] 1}).1
attribute [local irreducible] f259b1
def f259 (D : Dyn) (n : Nat) := (⟨_, by conv => rhs; reduce⟩ : {g // g = fun vs H => funS (s259 D n) D n 259 Tryz.f259 h259 [f259l0 D n, f259b1 D n] vs H}).1
theorem f259_eq (D : Dyn) (n : Nat) : f259 D n = funKp (s259 D n) D n 259 Tryz.f259 (ms h259) := by kernel_rfl
theorem f259_ok {D : Dyn} (hD : DP D) (n : Nat) : FP 259 (f259 D n) := fun_okP X_ok hD (SP.nil) Tryz.func259 (by kernel_rfl) (by kernel_rfl) (f259_eq D n)
attribute [local irreducible] f259

def s260 (D : Dyn) (n : Nat) : Tb := ⟨X, [(261, f261 D n)]⟩
def h260 : Hint := (.s .o (.s (.s .o (.s .o (.cl (.s .o .o) .o))) (.s (.s .o (.s .o (.cl (.s .o .o) .o))) (.s .o .o))))
def f260 (D : Dyn) (n : Nat) := (⟨_, by conv => rhs; reduce⟩ : {g // g = fun vs H => funS (s260 D n) D n 260 Tryz.f260 h260 [] vs H}).1
theorem f260_eq (D : Dyn) (n : Nat) : f260 D n = funKp (s260 D n) D n 260 Tryz.f260 (ms h260) := by kernel_rfl
theorem f260_ok {D : Dyn} (hD : DP D) (n : Nat) : FP 260 (f260 D n) := fun_okP X_ok hD (SP.cons (f261_ok hD n) (SP.nil)) Tryz.func260 (by kernel_rfl) (by kernel_rfl) (f260_eq D n)
attribute [local irreducible] f260

def s202 (D : Dyn) (n : Nat) : Tb := ⟨X, [(119, f119 D n), (253, f253 D n), (259, f259 D n), (257, f257 D n)]⟩
def h202 : Hint := (.s .o (.s (.s .o (.cl (.s .o .o) .o)) (.s (.s (.c [5,30,12,4095] (.l [0,1,2,3,4,6,7,8,9,5,10,11,12,13] .o) .o) (.s .o (.cl (.s .o .o) .o))) (.s (.s .o (.s .o (.cl (.s .o .o) .o))) (.s .o (.s .o .o))))))
def f202 (D : Dyn) (n : Nat) := (⟨_, by conv => rhs; reduce⟩ : {g // g = fun vs H => funS (s202 D n) D n 202 Tryz.f202 h202 [] vs H}).1
theorem f202_eq (D : Dyn) (n : Nat) : f202 D n = funKp (s202 D n) D n 202 Tryz.f202 (ms h202) := by kernel_rfl
theorem f202_ok {D : Dyn} (hD : DP D) (n : Nat) : FP 202 (f202 D n) := fun_okP X_ok hD (SP.cons (f119_ok hD n) (SP.cons (f253_ok hD n) (SP.cons (f259_ok hD n) (SP.cons (f257_ok hD n) (SP.nil))))) Tryz.func202 (by kernel_rfl) (by kernel_rfl) (f202_eq D n)
attribute [local irreducible] f202

def s200 (D : Dyn) (n : Nat) : Tb := ⟨X, []⟩
def h200 : Hint := (.s .o (.s .o .o))
def f200 (D : Dyn) (n : Nat) := (⟨_, by conv => rhs; reduce⟩ : {g // g = fun vs H => funS (s200 D n) D n 200 Tryz.f200 h200 [] vs H}).1
theorem f200_eq (D : Dyn) (n : Nat) : f200 D n = funKp (s200 D n) D n 200 Tryz.f200 (ms h200) := by kernel_rfl
theorem f200_ok {D : Dyn} (hD : DP D) (n : Nat) : FP 200 (f200 D n) := fun_okP X_ok hD (SP.nil) Tryz.func200 (by kernel_rfl) (by kernel_rfl) (f200_eq D n)
attribute [local irreducible] f200
end Go.Eng.Sh
