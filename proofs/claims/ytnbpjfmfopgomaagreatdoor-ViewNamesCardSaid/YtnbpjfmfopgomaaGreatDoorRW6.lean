/- Shallow functions, by program (gent4.py). -/
import Derived.Test.YtnbpjfmfopgomaaGreatDoorRW5
import Derived.Test.YtnbpjfmfopgomaaGreatDoorProg
import Derived.KernelRfl
noncomputable section
namespace Go.Eng.Sh
open Go.Proofs
set_option maxRecDepth 100000
set_option maxHeartbeats 4000000
set_option linter.all false
attribute [local irreducible] bV bR hd cnd jn jb loopK wnt chk newB bA bInt bStr bBool cmpO eqP eqS eqM eqF eqPL cvI cvSS slStr slArr ixArr ixSl ixStr fAd lnStr lnSl lnMap pk3 s2a bxV lkM upM dlM mkM callV nl outR tld endQ beginK endR endLp jmpK rfC mn2 mx2 aun pExtract pNil undefA isW aveq ldNp ld1p stNp cvBSp cvSBp slSlp ixAg1p ixAgNp fd1p fdNp apPp apZp cpyp bldSp bldAp bldLp mkSlp eqAp clSp bC pnK ifNil asrK noPan mkR clM acap mtp260_0 f23 f30 f161 f215l0 f215b1 f215 f144 f162 f101 f282l0 f282b1 f282 f283 f216 f209 f210l0 f210b1 f210 f137 f81 f218 f217 f145 f174j0 f174j1 rc174 f105 f32 f175 f106 f186 f205 f364 f388 f391j0 f391 f387j0 f387j1 f387j2 f387j3 f387 f390j0 f390j1 f390 f365j0 f365j1 f365 f329 f220l0 f220b1 f220 m220 f270 f366 f291l0 f291b1 f291 f343 f345 f330 f223 f344 f289 f331 f278j0 f278j1 f278j2 f278 f332 f267 f266l0 f266l1 f266b2 f266l3 f266b4 f266b5 f266 f319l0 f319l1 f319b2 f319b3 f319 f336 f367 f333 f335 f279l0 f279b1 f279l2 f279b3 f279j4 f279 f206 f280l0 f280b1 f280 f207 f208j0 f208l1 f208b2 f208 f135l0 f135b1 f135 f38 f54j0 f54 f76 f139 f176l0 f176b1 f176 f138 f121 f84l0 f84b1 f84 f107l0 f107b1 f107 f36 f108 f37 f35j0 f35 f6 f86j0 f86j1 f86 f87 f22 f88j0 f88j1 f88 f240 f166 f146 f34j0 f34 f46j0 f46 f182 m182 f114j0 f114j1 f114j2 f114 f47j0 f47 f190 f191j0 f191j1 f191j2 f191 f192 f196l0 f196b1 f196 f195 f257 f183 f317 f268 f180 f300 f318l0 f318b1 f318j2 f318 f316j0 f316 f259 f258 f258l0 f258b1 f258b2 r258_0 f184 f185 f115b0 f115 r115_0 f326l0 f326b1 f326 f271 f193l0 f193b1 f193 f273j0 f273 f200 f125 f66 f48j0 f48 f45 f9 f90 f89 f24 f91j0 f91j1 f91 f211l0 f211b1 f211 f197j0 f197l1 f197b2 f197 f147l0 f147b1 f147 m148 f149 f221l0 f221b1 f221 f150l0 f150b1 f150l2 f150b3 f150 f93j0 f93l1 f93b2 f93 f92 f25 f26 f94j0 f94j1 f94 f95 f27 f96j0 f96j1 f96 f97 f28 f136 f80 f373 f374 f342 f285 f287 f224 f286 f222 f151 f225 f152l0 f152b1 f152 f98 f375 f346 f394 f376l0 f376b1 f376 f377 f347 f290 f226j0 f226l1 f226b2 f226 f227 f228 f230 f292 f229l0 f229b1 f229 f348l0 f348b1 f348 r348_0 f293 f231 r231_0 f153j0 f153 f155 f156 f154l0 f154b1 f154l2 f154b3 f154 f157 f234 f296 m235 f235 f247 f248 f297 f298 f250j0 f250 f251 f236 f158j0 f158l1 f158b2 f158 f99l0 f99b1 f99 f100 f179 m179 f111 f181j0 f181j1 rc181 f112 f42 f52j0 f52 f178 f113l0 f113b1 f113 f261 f260j0 f260l1 f260b2 f260 f321l0 f321b1 f321 f323l0 f323b1 f323 f265j0 f265j1 f265 f264 f262j0 f262j1 f262 f187 f269 m269 f189 f188 f117 f56 f44 f116l0 f116b1 f116 f55 f57 f82j0 f82 f19 f163 f301 f239 f164j0 f164 f102 f29 f49 f51j0 f51 f110l0 f110b1 f110 f41j0 f41 f53j0 f53l1 f53b2 f53l3 f53 f118l0 f118b1 f118 f119j0 f119 f58 f50j0 f50j1 f50j2 f50j3 f50j4 f50 f10 f165 f312 f252l0 f252b1 f252 f253 f171 f302 f350 f395 f378j0 f378l1 f378b2 f378j3 f378 f399l0 f399b1 f399
def s380 (D : Dyn) (n : Nat) : Tb := ⟨X, []⟩
def h380 : Hint := (.s .o (.s .o .o))
def f380 (D : Dyn) (n : Nat) := (⟨_, by conv => rhs; reduce⟩ : {g // g = fun vs H => funS (s380 D n) D n 380 Tryz.f380 h380 [] vs H}).1
theorem f380_eq (D : Dyn) (n : Nat) : f380 D n = funKp (s380 D n) D n 380 Tryz.f380 (ms h380) := by kernel_rfl
theorem f380_ok {D : Dyn} (hD : DP D) (n : Nat) : FP 380 (f380 D n) := fun_okP X_ok hD (SP.nil) Tryz.func380 (by kernel_rfl) (by kernel_rfl) (f380_eq D n)
attribute [local irreducible] f380

def s397 (D : Dyn) (n : Nat) : Tb := ⟨X, [(380, f380 D n), (292, f292 D n)]⟩
def h397 : Hint := (.s .o (.s (.s .o (.cl (.s .o .o) .o)) (.s (.s .o (.b [1,2,3] (.l [0,1,2,3,13,14] (.s .o (.s (.cr .o .o) (.s (.b0 (.s .o (.s .o (.b0 (.rf 0 [1,2,3]))))) .o)))))) (.s .o .o))))
def f397l0 (D : Dyn) (n : Nat) := (⟨_, by conv => rhs; reduce⟩ : {g // some g = prtF (s397 D n) D n 397 Tryz.f397 h397 [] 0}).1
attribute [local irreducible] f397l0
def f397b1 (D : Dyn) (n : Nat) := (⟨_, by conv => rhs; reduce⟩ : {g // some g = prtF (s397 D n) D n 397 Tryz.f397 h397 [f397l0 D n] 1}).1
attribute [local irreducible] f397b1
def f397 (D : Dyn) (n : Nat) := (⟨_, by conv => rhs; reduce⟩ : {g // g = fun vs H => funS (s397 D n) D n 397 Tryz.f397 h397 [f397l0 D n, f397b1 D n] vs H}).1
theorem f397_eq (D : Dyn) (n : Nat) : f397 D n = funKp (s397 D n) D n 397 Tryz.f397 (ms h397) := by kernel_rfl
theorem f397_ok {D : Dyn} (hD : DP D) (n : Nat) : FP 397 (f397 D n) := fun_okP X_ok hD (SP.cons (f380_ok hD n) (SP.cons (f292_ok hD n) (SP.nil))) Tryz.func397 (by kernel_rfl) (by kernel_rfl) (f397_eq D n)
def r397_0a : Hint := .o
def r397_0b : Hint := (.b0 (.s .o (.s .o (.s .o .o))))
def r397_0 (D : Dyn) (n : Nat) := (⟨_, by conv => rhs; reduce⟩ : {g // g = fun A l az H => rndS (s397 D n) D n 397 0 [1, 2, 3] [0] r397_0a r397_0b [] A l az H}).1
theorem r397_0_eq (D : Dyn) (n : Nat) : r397_0 D n = rndKp (s397 D n) D n 397 0 [1, 2, 3] [0] (ms r397_0a) (ms r397_0b) := by kernel_rfl
theorem r397_0_ok {D : Dyn} (hD : DP D) (n : Nat) : RdP 397 0 (r397_0 D n) := round_okP X_ok hD (SP.cons (f380_ok hD n) (SP.cons (f292_ok hD n) (SP.nil))) (by kernel_rfl) (r397_0_eq D n)
attribute [local irreducible] f397 r397_0

def s398 (D : Dyn) (n : Nat) : Tb := ⟨X, [(345, f345 D n), (366, f366 D n)]⟩
def h398 : Hint := (.s .o (.s .o (.s (.s .o (.cl (.s .o .o) .o)) (.s (.s .o (.cl (.s .o .o) .o)) (.s .o .o)))))
def f398 (D : Dyn) (n : Nat) := (⟨_, by conv => rhs; reduce⟩ : {g // g = fun vs H => funS (s398 D n) D n 398 Tryz.f398 h398 [] vs H}).1
theorem f398_eq (D : Dyn) (n : Nat) : f398 D n = funKp (s398 D n) D n 398 Tryz.f398 (ms h398) := by kernel_rfl
theorem f398_ok {D : Dyn} (hD : DP D) (n : Nat) : FP 398 (f398 D n) := fun_okP X_ok hD (SP.cons (f345_ok hD n) (SP.cons (f366_ok hD n) (SP.nil))) Tryz.func398 (by kernel_rfl) (by kernel_rfl) (f398_eq D n)
attribute [local irreducible] f398

def s379 (D : Dyn) (n : Nat) : Tb := ⟨X, [(397, f397 D n), (286, f286 D n), (398, f398 D n)]⟩
def h379 : Hint := (.s .o (.s .o (.s (.s .o (.cl (.s .o .o) .o)) (.s .o (.s (.s (.b [9,511] .o) (.s .o (.cl (.s .o .o) .o))) (.s (.b [9,510,12,4095] .o) (.s .o .o)))))))
def f379 (D : Dyn) (n : Nat) := (⟨_, by conv => rhs; reduce⟩ : {g // g = fun vs H => funS (s379 D n) D n 379 Tryz.f379 h379 [] vs H}).1
theorem f379_eq (D : Dyn) (n : Nat) : f379 D n = funKp (s379 D n) D n 379 Tryz.f379 (ms h379) := by kernel_rfl
theorem f379_ok {D : Dyn} (hD : DP D) (n : Nat) : FP 379 (f379 D n) := fun_okP X_ok hD (SP.cons (f397_ok hD n) (SP.cons (f286_ok hD n) (SP.cons (f398_ok hD n) (SP.nil)))) Tryz.func379 (by kernel_rfl) (by kernel_rfl) (f379_eq D n)
attribute [local irreducible] f379

def s351 (D : Dyn) (n : Nat) : Tb := ⟨X, [(206, f206 D n), (378, f378 D n), (343, f343 D n), (379, f379 D n)]⟩
def h351 : Hint := (.s .o (.s (.s .o (.cl (.s .o .o) .o)) (.s (.s .o (.s .o (.cl (.s .o .o) .o))) (.s (.c [5,31,10,767] (.l [0,1,2,3,4,9,5,6,7,8,10,11] .o) .o) (.s (.s .o (.cl (.s .o .o) .o)) (.s .o (.s (.s .o (.b [2,0,4,6,8] (.l [0,0,4,6,8,49,50,51] (.s .o (.s (.cr .o .o) (.s (.b0 (.s .o (.s .o (.s .o (.cl (.s .o .o) .o))))) .o)))))) (.s .o (.s .o (.s (.s .o (.c [1,0,4,6,11] .o .o)) (.s .o (.s (.s .o (.cl (.s .o .o) .o)) (.s .o (.s (.s .o (.cl (.s .o .o) .o)) (.s .o .o)))))))))))))))
def f351l0 (D : Dyn) (n : Nat) := (⟨_, by conv => rhs; reduce⟩ : {g // some g = prtF (s351 D n) D n 351 Tryz.f351 h351 [] 0}).1
attribute [local irreducible] f351l0
def f351j1 (D : Dyn) (n : Nat) := (⟨_, by conv => rhs; reduce⟩ : {g // some g = prtF (s351 D n) D n 351 Tryz.f351 h351 [f351l0 D n] 1}).1
attribute [local irreducible] f351j1
def f351b2 (D : Dyn) (n : Nat) := (⟨_, by conv => rhs; reduce⟩ : {g // some g = prtF (s351 D n) D n 351 Tryz.f351 h351 [f351l0 D n, f351j1 D n] 2}).1
attribute [local irreducible] f351b2
def f351 (D : Dyn) (n : Nat) := (⟨_, by conv => rhs; reduce⟩ : {g // g = fun vs H => funS (s351 D n) D n 351 Tryz.f351 h351 [f351l0 D n, f351j1 D n, f351b2 D n] vs H}).1
theorem f351_eq (D : Dyn) (n : Nat) : f351 D n = funKp (s351 D n) D n 351 Tryz.f351 (ms h351) := by kernel_rfl
theorem f351_ok {D : Dyn} (hD : DP D) (n : Nat) : FP 351 (f351 D n) := fun_okP X_ok hD (SP.cons (f206_ok hD n) (SP.cons (f378_ok hD n) (SP.cons (f343_ok hD n) (SP.cons (f379_ok hD n) (SP.nil))))) Tryz.func351 (by kernel_rfl) (by kernel_rfl) (f351_eq D n)
attribute [local irreducible] f351

def s303 (D : Dyn) (n : Nat) : Tb := ⟨X, [(186, f186 D n), (350, f350 D n), (351, f351 D n), (331, f331 D n)]⟩
def h303 : Hint := (.s .o (.s (.s .o (.cl (.s .o .o) .o)) (.s (.s .o (.cl (.s .o .o) .o)) (.s (.s (.c [1,1] (.l [0,2,3,4,5,1,6,7] .o) .o) (.cl (.s .o .o) .o)) (.s .o (.s .o (.s (.s .o (.cl (.s (.s .o (.b [1,6,11] (.l [0,1,6,11,64,65,66] (.s .o (.s (.cr .o .o) (.s (.b0 (.s .o .o)) .o)))))) (.s .o .o)) .o)) (.s (.s .o (.c [4,0,6,10] (.s .o (.b [3,0,6,10] (.l [2,0,6,10,84,85,86] (.s .o (.s (.cr .o .o) (.s (.b0 (.s .o (.b [8,255] .o))) .o)))))) .o)) (.s .o (.s .o (.s .o (.s .o .o))))))))))))
def f303l0 (D : Dyn) (n : Nat) := (⟨_, by conv => rhs; reduce⟩ : {g // some g = prtF (s303 D n) D n 303 Tryz.f303 h303 [] 0}).1
attribute [local irreducible] f303l0
def f303b1 (D : Dyn) (n : Nat) := (⟨_, by conv => rhs; reduce⟩ : {g // some g = prtF (s303 D n) D n 303 Tryz.f303 h303 [f303l0 D n] 1}).1
attribute [local irreducible] f303b1
def f303l2 (D : Dyn) (n : Nat) := (⟨_, by conv => rhs; reduce⟩ : {g // some g = prtF (s303 D n) D n 303 Tryz.f303 h303 [f303l0 D n, f303b1 D n] 2}).1
attribute [local irreducible] f303l2
def f303b3 (D : Dyn) (n : Nat) := (⟨_, by conv => rhs; reduce⟩ : {g // some g = prtF (s303 D n) D n 303 Tryz.f303 h303 [f303l0 D n, f303b1 D n, f303l2 D n] 3}).1
attribute [local irreducible] f303b3
def f303j4 (D : Dyn) (n : Nat) := (⟨_, by conv => rhs; reduce⟩ : {g // some g = prtF (s303 D n) D n 303 Tryz.f303 h303 [f303l0 D n, f303b1 D n, f303l2 D n, f303b3 D n] 4}).1
attribute [local irreducible] f303j4
def f303 (D : Dyn) (n : Nat) := (⟨_, by conv => rhs; reduce⟩ : {g // g = fun vs H => funS (s303 D n) D n 303 Tryz.f303 h303 [f303l0 D n, f303b1 D n, f303l2 D n, f303b3 D n, f303j4 D n] vs H}).1
theorem f303_eq (D : Dyn) (n : Nat) : f303 D n = funKp (s303 D n) D n 303 Tryz.f303 (ms h303) := by kernel_rfl
theorem f303_ok {D : Dyn} (hD : DP D) (n : Nat) : FP 303 (f303 D n) := fun_okP X_ok hD (SP.cons (f186_ok hD n) (SP.cons (f350_ok hD n) (SP.cons (f351_ok hD n) (SP.cons (f331_ok hD n) (SP.nil))))) Tryz.func303 (by kernel_rfl) (by kernel_rfl) (f303_eq D n)
attribute [local irreducible] f303

def s304 (D : Dyn) (n : Nat) : Tb := ⟨X, [(152, f152 D n), (151, f151 D n)]⟩
def h304 : Hint := (.s .o (.s (.s .o (.s .o (.cl (.s .o .o) .o))) (.s (.s (.b [14,16383] .o) (.s .o (.cl (.s .o .o) .o))) (.s .o .o))))
def f304 (D : Dyn) (n : Nat) := (⟨_, by conv => rhs; reduce⟩ : {g // g = fun vs H => funS (s304 D n) D n 304 Tryz.f304 h304 [] vs H}).1
theorem f304_eq (D : Dyn) (n : Nat) : f304 D n = funKp (s304 D n) D n 304 Tryz.f304 (ms h304) := by kernel_rfl
theorem f304_ok {D : Dyn} (hD : DP D) (n : Nat) : FP 304 (f304 D n) := fun_okP X_ok hD (SP.cons (f152_ok hD n) (SP.cons (f151_ok hD n) (SP.nil))) Tryz.func304 (by kernel_rfl) (by kernel_rfl) (f304_eq D n)
attribute [local irreducible] f304

def s352 (D : Dyn) (n : Nat) : Tb := ⟨X, [(380, f380 D n), (292, f292 D n)]⟩
def h352 : Hint := (.s .o (.s .o (.b0 (.rf 0 [3,5]))))
def f352 (D : Dyn) (n : Nat) := (⟨_, by conv => rhs; reduce⟩ : {g // g = fun vs H => funS (s352 D n) D n 352 Tryz.f352 h352 [] vs H}).1
theorem f352_eq (D : Dyn) (n : Nat) : f352 D n = funKp (s352 D n) D n 352 Tryz.f352 (ms h352) := by kernel_rfl
theorem f352_ok {D : Dyn} (hD : DP D) (n : Nat) : FP 352 (f352 D n) := fun_okP X_ok hD (SP.cons (f380_ok hD n) (SP.cons (f292_ok hD n) (SP.nil))) Tryz.func352 (by kernel_rfl) (by kernel_rfl) (f352_eq D n)
def r352_0a : Hint := .o
def r352_0b : Hint := (.b0 .o)
def r352_0 (D : Dyn) (n : Nat) := (⟨_, by conv => rhs; reduce⟩ : {g // g = fun A l az H => rndS (s352 D n) D n 352 0 [3, 5] [] r352_0a r352_0b [] A l az H}).1
theorem r352_0_eq (D : Dyn) (n : Nat) : r352_0 D n = rndKp (s352 D n) D n 352 0 [3, 5] [] (ms r352_0a) (ms r352_0b) := by kernel_rfl
theorem r352_0_ok {D : Dyn} (hD : DP D) (n : Nat) : RdP 352 0 (r352_0 D n) := round_okP X_ok hD (SP.cons (f380_ok hD n) (SP.cons (f292_ok hD n) (SP.nil))) (by kernel_rfl) (r352_0_eq D n)
attribute [local irreducible] f352 r352_0

def s306 (D : Dyn) (n : Nat) : Tb := ⟨X, [(352, f352 D n)]⟩
def h306 : Hint := (.s .o (.c [0] (.s .o .o) .o))
def f306j0 (D : Dyn) (n : Nat) := (⟨_, by conv => rhs; reduce⟩ : {g // some g = prtF (s306 D n) D n 306 Tryz.f306 h306 [] 0}).1
attribute [local irreducible] f306j0
def f306 (D : Dyn) (n : Nat) := (⟨_, by conv => rhs; reduce⟩ : {g // g = fun vs H => funS (s306 D n) D n 306 Tryz.f306 h306 [f306j0 D n] vs H}).1
theorem f306_eq (D : Dyn) (n : Nat) : f306 D n = funKp (s306 D n) D n 306 Tryz.f306 (ms h306) := by kernel_rfl
theorem f306_ok {D : Dyn} (hD : DP D) (n : Nat) : FP 306 (f306 D n) := fun_okP X_ok hD (SP.cons (f352_ok hD n) (SP.nil)) Tryz.func306 (by kernel_rfl) (by kernel_rfl) (f306_eq D n)
attribute [local irreducible] f306

def s241 (D : Dyn) (n : Nat) : Tb := ⟨X, [(162, f162 D n), (111, f111 D n), (302, f302 D n), (303, f303 D n), (304, f304 D n), (306, f306 D n), (230, f230 D n), (296, f296 D n)]⟩
def h241 : Hint := (.s .o (.s (.s .o (.cl (.s .o .o) .o)) (.s (.s .o (.cl (.s .o .o) .o)) (.s (.c [4,15,9,511] (.l [0,1,2,3,5,6,7,8,4,9,10,11] .o) .o) (.s (.c [13,8191,19,327679] (.l [0,1,2,3,4,5,6,7,8,9,10,11,12,18,13,14,15,16,17,19,20,21] .o) .o) (.s (.s .o (.cl (.s .o .o) .o)) (.s (.s .o (.s .o (.cl (.s (.b [8,255] .o) (.s .o (.s .o .o))) .o))) (.s .o (.s (.s .o (.b [4,0,6,7] (.l [1,0,5,6,7,78,79] (.s .o (.s (.cr .o .o) (.s (.b0 (.s .o (.s .o (.c [0,0,5,6,7,78,79] .o .o)))) .o)))))) (.s (.s .o (.b [3,0,6,7] (.l [2,0,6,7,101,102,103] (.s .o (.s (.cr .o .o) (.s (.b0 (.s .o (.b [6,63] .o))) .o)))))) (.s .o (.s .o (.s .o .o)))))))))))))
def f241j0 (D : Dyn) (n : Nat) := (⟨_, by conv => rhs; reduce⟩ : {g // some g = prtF (s241 D n) D n 241 Tryz.f241 h241 [] 0}).1
attribute [local irreducible] f241j0
def f241l1 (D : Dyn) (n : Nat) := (⟨_, by conv => rhs; reduce⟩ : {g // some g = prtF (s241 D n) D n 241 Tryz.f241 h241 [f241j0 D n] 1}).1
attribute [local irreducible] f241l1
def f241l2 (D : Dyn) (n : Nat) := (⟨_, by conv => rhs; reduce⟩ : {g // some g = prtF (s241 D n) D n 241 Tryz.f241 h241 [f241j0 D n, f241l1 D n] 2}).1
attribute [local irreducible] f241l2
def f241b3 (D : Dyn) (n : Nat) := (⟨_, by conv => rhs; reduce⟩ : {g // some g = prtF (s241 D n) D n 241 Tryz.f241 h241 [f241j0 D n, f241l1 D n, f241l2 D n] 3}).1
attribute [local irreducible] f241b3
def f241b4 (D : Dyn) (n : Nat) := (⟨_, by conv => rhs; reduce⟩ : {g // some g = prtF (s241 D n) D n 241 Tryz.f241 h241 [f241j0 D n, f241l1 D n, f241l2 D n, f241b3 D n] 4}).1
attribute [local irreducible] f241b4
def f241 (D : Dyn) (n : Nat) := (⟨_, by conv => rhs; reduce⟩ : {g // g = fun vs H => funS (s241 D n) D n 241 Tryz.f241 h241 [f241j0 D n, f241l1 D n, f241l2 D n, f241b3 D n, f241b4 D n] vs H}).1
theorem f241_eq (D : Dyn) (n : Nat) : f241 D n = funKp (s241 D n) D n 241 Tryz.f241 (ms h241) := by kernel_rfl
theorem f241_ok {D : Dyn} (hD : DP D) (n : Nat) : FP 241 (f241 D n) := fun_okP X_ok hD (SP.cons (f162_ok hD n) (SP.cons (f111_ok hD n) (SP.cons (f302_ok hD n) (SP.cons (f303_ok hD n) (SP.cons (f304_ok hD n) (SP.cons (f306_ok hD n) (SP.cons (f230_ok hD n) (SP.cons (f296_ok hD n) (SP.nil))))))))) Tryz.func241 (by kernel_rfl) (by kernel_rfl) (f241_eq D n)
attribute [local irreducible] f241

def s307 (D : Dyn) (n : Nat) : Tb := ⟨X, []⟩
def h307 : Hint := (.s .o (.s (.s .o (.b [1] (.l [0,1,8,9,10] (.s .o (.s (.cr .o .o) (.s (.b0 (.s .o (.s .o (.s .o (.cl (.s .o .o) .o))))) .o)))))) (.s .o .o)))
def f307l0 (D : Dyn) (n : Nat) := (⟨_, by conv => rhs; reduce⟩ : {g // some g = prtF (s307 D n) D n 307 Tryz.f307 h307 [] 0}).1
attribute [local irreducible] f307l0
def f307b1 (D : Dyn) (n : Nat) := (⟨_, by conv => rhs; reduce⟩ : {g // some g = prtF (s307 D n) D n 307 Tryz.f307 h307 [f307l0 D n] 1}).1
attribute [local irreducible] f307b1
def f307 (D : Dyn) (n : Nat) := (⟨_, by conv => rhs; reduce⟩ : {g // g = fun vs H => funS (s307 D n) D n 307 Tryz.f307 h307 [f307l0 D n, f307b1 D n] vs H}).1
theorem f307_eq (D : Dyn) (n : Nat) : f307 D n = funKp (s307 D n) D n 307 Tryz.f307 (ms h307) := by kernel_rfl
theorem f307_ok {D : Dyn} (hD : DP D) (n : Nat) : FP 307 (f307 D n) := fun_okP X_ok hD (SP.nil) Tryz.func307 (by kernel_rfl) (by kernel_rfl) (f307_eq D n)
attribute [local irreducible] f307

def s244 (D : Dyn) (n : Nat) : Tb := ⟨X, [(162, f162 D n), (302, f302 D n), (307, f307 D n), (306, f306 D n)]⟩
def h244 : Hint := (.s .o (.s (.s .o (.cl (.s .o .o) .o)) (.s (.s (.c [5,30,12,4095] (.l [0,1,2,3,4,6,7,8,9,5,10,11,12,13] .o) .o) (.s .o (.cl (.s .o .o) .o))) (.s (.s .o (.s .o (.cl (.s .o .o) .o))) (.s .o (.s .o .o))))))
def f244 (D : Dyn) (n : Nat) := (⟨_, by conv => rhs; reduce⟩ : {g // g = fun vs H => funS (s244 D n) D n 244 Tryz.f244 h244 [] vs H}).1
theorem f244_eq (D : Dyn) (n : Nat) : f244 D n = funKp (s244 D n) D n 244 Tryz.f244 (ms h244) := by kernel_rfl
theorem f244_ok {D : Dyn} (hD : DP D) (n : Nat) : FP 244 (f244 D n) := fun_okP X_ok hD (SP.cons (f162_ok hD n) (SP.cons (f302_ok hD n) (SP.cons (f307_ok hD n) (SP.cons (f306_ok hD n) (SP.nil))))) Tryz.func244 (by kernel_rfl) (by kernel_rfl) (f244_eq D n)
attribute [local irreducible] f244

def s242 (D : Dyn) (n : Nat) : Tb := ⟨X, []⟩
def h242 : Hint := (.s .o (.s .o .o))
def f242 (D : Dyn) (n : Nat) := (⟨_, by conv => rhs; reduce⟩ : {g // g = fun vs H => funS (s242 D n) D n 242 Tryz.f242 h242 [] vs H}).1
theorem f242_eq (D : Dyn) (n : Nat) : f242 D n = funKp (s242 D n) D n 242 Tryz.f242 (ms h242) := by kernel_rfl
theorem f242_ok {D : Dyn} (hD : DP D) (n : Nat) : FP 242 (f242 D n) := fun_okP X_ok hD (SP.nil) Tryz.func242 (by kernel_rfl) (by kernel_rfl) (f242_eq D n)
attribute [local irreducible] f242
end Go.Eng.Sh
