/- Shallow functions, by program (gent4.py). -/
import Derived.Test.YtnbpjfmfopgomaaGreatDoorRW9
import Derived.Test.YtnbpjfmfopgomaaGreatDoorProg
import Derived.KernelRfl
noncomputable section
namespace Go.Eng.Sh
open Go.Proofs
set_option maxRecDepth 100000
set_option maxHeartbeats 4000000
set_option linter.all false
attribute [local irreducible] bV bR hd cnd jn jb loopK wnt chk newB bA bInt bStr bBool cmpO eqP eqS eqM eqF eqPL cvI cvSS slStr slArr ixArr ixSl ixStr fAd lnStr lnSl lnMap pk3 s2a bxV lkM upM dlM mkM callV nl outR tld endQ beginK endR endLp jmpK rfC mn2 mx2 aun pExtract pNil undefA isW aveq ldNp ld1p stNp cvBSp cvSBp slSlp ixAg1p ixAgNp fd1p fdNp apPp apZp cpyp bldSp bldAp bldLp mkSlp eqAp clSp bC pnK ifNil asrK noPan mkR clM acap mtp260_0 f23 f30 f161 f215l0 f215b1 f215 f144 f162 f101 f282l0 f282b1 f282 f283 f216 f209 f210l0 f210b1 f210 f137 f81 f218 f217 f145 f174j0 f174j1 rc174 f105 f32 f175 f106 f186 f205 f364 f388 f391j0 f391 f387j0 f387j1 f387j2 f387j3 f387 f390j0 f390j1 f390 f365j0 f365j1 f365 f329 f220l0 f220b1 f220 m220 f270 f366 f291l0 f291b1 f291 f343 f345 f330 f223 f344 f289 f331 f278j0 f278j1 f278j2 f278 f332 f267 f266l0 f266l1 f266b2 f266l3 f266b4 f266b5 f266 f319l0 f319l1 f319b2 f319b3 f319 f336 f367 f333 f335 f279l0 f279b1 f279l2 f279b3 f279j4 f279 f206 f280l0 f280b1 f280 f207 f208j0 f208l1 f208b2 f208 f135l0 f135b1 f135 f38 f54j0 f54 f76 f139 f176l0 f176b1 f176 f138 f121 f84l0 f84b1 f84 f107l0 f107b1 f107 f36 f108 f37 f35j0 f35 f6 f86j0 f86j1 f86 f87 f22 f88j0 f88j1 f88 f240 f166 f146 f34j0 f34 f46j0 f46 f182 m182 f114j0 f114j1 f114j2 f114 f47j0 f47 f190 f191j0 f191j1 f191j2 f191 f192 f196l0 f196b1 f196 f195 f257 f183 f317 f268 f180 f300 f318l0 f318b1 f318j2 f318 f316j0 f316 f259 f258 f258l0 f258b1 f258b2 r258_0 f184 f185 f115b0 f115 r115_0 f326l0 f326b1 f326 f271 f193l0 f193b1 f193 f273j0 f273 f200 f125 f66 f48j0 f48 f45 f9 f90 f89 f24 f91j0 f91j1 f91 f211l0 f211b1 f211 f197j0 f197l1 f197b2 f197 f147l0 f147b1 f147 m148 f149 f221l0 f221b1 f221 f150l0 f150b1 f150l2 f150b3 f150 f93j0 f93l1 f93b2 f93 f92 f25 f26 f94j0 f94j1 f94 f95 f27 f96j0 f96j1 f96 f97 f28 f136 f80 f373 f374 f342 f285 f287 f224 f286 f222 f151 f225 f152l0 f152b1 f152 f98 f375 f346 f394 f376l0 f376b1 f376 f377 f347 f290 f226j0 f226l1 f226b2 f226 f227 f228 f230 f292 f229l0 f229b1 f229 f348l0 f348b1 f348 r348_0 f293 f231 r231_0 f153j0 f153 f155 f156 f154l0 f154b1 f154l2 f154b3 f154 f157 f234 f296 m235 f235 f247 f248 f297 f298 f250j0 f250 f251 f236 f158j0 f158l1 f158b2 f158 f99l0 f99b1 f99 f100 f179 m179 f111 f181j0 f181j1 rc181 f112 f42 f52j0 f52 f178 f113l0 f113b1 f113 f261 f260j0 f260l1 f260b2 f260 f321l0 f321b1 f321 f323l0 f323b1 f323 f265j0 f265j1 f265 f264 f262j0 f262j1 f262 f187 f269 m269 f189 f188 f117 f56 f44 f116l0 f116b1 f116 f55 f57 f82j0 f82 f19 f163 f301 f239 f164j0 f164 f102 f29 f49 f51j0 f51 f110l0 f110b1 f110 f41j0 f41 f53j0 f53l1 f53b2 f53l3 f53 f118l0 f118b1 f118 f119j0 f119 f58 f50j0 f50j1 f50j2 f50j3 f50j4 f50 f10 f165 f312 f252l0 f252b1 f252 f253 f171 f302 f350 f395 f378j0 f378l1 f378b2 f378j3 f378 f399l0 f399b1 f399 f380 f397l0 f397b1 f397 r397_0 f398 f379 f351l0 f351j1 f351b2 f351 f303l0 f303b1 f303l2 f303b3 f303j4 f303 f304 f352 r352_0 f306j0 f306 f241j0 f241l1 f241l2 f241b3 f241b4 f241 f307l0 f307b1 f307 f244 f242 m167 f167l0 f167j1 f167l2 f167b3 f167b4 f167j5 f167 f167j5q f167q f245 f168l0 f168b1 f168 f310
def s249 (D : Dyn) (n : Nat) : Tb := ⟨X, [(247, f247 D n), (248, f248 D n), (310, f310 D n)]⟩
def h249 : Hint := (.s .o (.s (.s .o (.cl (.s .o .o) .o)) (.s .o .o)))
def f249 (D : Dyn) (n : Nat) := (⟨_, by conv => rhs; reduce⟩ : {g // g = fun vs H => funS (s249 D n) D n 249 Tryz.f249 h249 [] vs H}).1
theorem f249_eq (D : Dyn) (n : Nat) : f249 D n = funKp (s249 D n) D n 249 Tryz.f249 (ms h249) := by kernel_rfl
theorem f249_ok {D : Dyn} (hD : DP D) (n : Nat) : FP 249 (f249 D n) := fun_okP X_ok hD (SP.cons (f247_ok hD n) (SP.cons (f248_ok hD n) (SP.cons (f310_ok hD n) (SP.nil)))) Tryz.func249 (by kernel_rfl) (by kernel_rfl) (f249_eq D n)
attribute [local irreducible] f249

def s169 (D : Dyn) (n : Nat) : Tb := ⟨X, [(247, f247 D n), (248, f248 D n), (249, f249 D n), (250, f250 D n)]⟩
def h169 : Hint := (.s .o (.s (.s .o (.cl (.s .o .o) .o)) (.s (.s .o (.cl (.s .o .o) .o)) (.s (.s .o (.cl (.s .o .o) .o)) (.s (.s .o (.b [1] (.l [0,0,2,31,32,33] (.s .o (.s (.cr .o .o) (.s (.b0 (.s .o .o)) .o)))))) (.s .o .o))))))
def f169l0 (D : Dyn) (n : Nat) := (⟨_, by conv => rhs; reduce⟩ : {g // some g = prtF (s169 D n) D n 169 Tryz.f169 h169 [] 0}).1
attribute [local irreducible] f169l0
def f169b1 (D : Dyn) (n : Nat) := (⟨_, by conv => rhs; reduce⟩ : {g // some g = prtF (s169 D n) D n 169 Tryz.f169 h169 [f169l0 D n] 1}).1
attribute [local irreducible] f169b1
def f169 (D : Dyn) (n : Nat) := (⟨_, by conv => rhs; reduce⟩ : {g // g = fun vs H => funS (s169 D n) D n 169 Tryz.f169 h169 [f169l0 D n, f169b1 D n] vs H}).1
theorem f169_eq (D : Dyn) (n : Nat) : f169 D n = funKp (s169 D n) D n 169 Tryz.f169 (ms h169) := by kernel_rfl
theorem f169_ok {D : Dyn} (hD : DP D) (n : Nat) : FP 169 (f169 D n) := fun_okP X_ok hD (SP.cons (f247_ok hD n) (SP.cons (f248_ok hD n) (SP.cons (f249_ok hD n) (SP.cons (f250_ok hD n) (SP.nil))))) Tryz.func169 (by kernel_rfl) (by kernel_rfl) (f169_eq D n)
attribute [local irreducible] f169

def s170 (D : Dyn) (n : Nat) : Tb := ⟨X, [(162, f162 D n)]⟩
def h170 : Hint := (.s .o (.s (.s .o (.cl (.s .o .o) .o)) (.s .o .o)))
def f170 (D : Dyn) (n : Nat) := (⟨_, by conv => rhs; reduce⟩ : {g // g = fun vs H => funS (s170 D n) D n 170 Tryz.f170 h170 [] vs H}).1
theorem f170_eq (D : Dyn) (n : Nat) : f170 D n = funKp (s170 D n) D n 170 Tryz.f170 (ms h170) := by kernel_rfl
theorem f170_ok {D : Dyn} (hD : DP D) (n : Nat) : FP 170 (f170 D n) := fun_okP X_ok hD (SP.cons (f162_ok hD n) (SP.nil)) Tryz.func170 (by kernel_rfl) (by kernel_rfl) (f170_eq D n)
attribute [local irreducible] f170

def s103 (D : Dyn) (n : Nat) : Tb := ⟨X, [(161, f161 D n), (165, f165 D n), (166, f166 D n), (167, m167 D n), (168, f168 D n), (169, f169 D n), (156, f156 D n), (170, f170 D n), (171, f171 D n)]⟩
def h103 : Hint := (.s .o (.s (.s .o (.cl (.s .o .o) .o)) (.s (.s .o (.cl (.s .o .o) .o)) (.s (.s .o (.cl (.s .o .o) .o)) (.s (.s .o (.cl (.s .o .o) .o)) (.s (.s .o (.s .o (.cl (.s .o .o) .o))) (.s .o (.s (.s (.b [6,63] .o) (.s .o (.cl (.s .o .o) .o))) (.s .o (.s (.c [9,480,14,16352,17,131071] (.l [0,1,2,3,4,5,6,7,8,10,11,12,13,9,14,15,16,17] .o) .o) (.s (.b [7,126,10,1023] .o) (.s (.s .o (.s .o (.cl (.s .o .o) .o))) (.s .o .o)))))))))))))
def f103 (D : Dyn) (n : Nat) := (⟨_, by conv => rhs; reduce⟩ : {g // g = fun vs H => funS (s103 D n) D n 103 Tryz.f103 h103 [] vs H}).1
theorem f103_eq (D : Dyn) (n : Nat) : f103 D n = funKp (s103 D n) D n 103 Tryz.f103 (ms h103) := by kernel_rfl
theorem f103_ok {D : Dyn} (hD : DP D) (n : Nat) : FP 103 (f103 D n) := fun_okP X_ok hD (SP.cons (f161_ok hD n) (SP.cons (f165_ok hD n) (SP.cons (f166_ok hD n) (SP.cons (m167_ok hD n) (SP.cons (f168_ok hD n) (SP.cons (f169_ok hD n) (SP.cons (f156_ok hD n) (SP.cons (f170_ok hD n) (SP.cons (f171_ok hD n) (SP.nil)))))))))) Tryz.func103 (by kernel_rfl) (by kernel_rfl) (f103_eq D n)
attribute [local irreducible] f103

def s254 (D : Dyn) (n : Nat) : Tb := ⟨X, []⟩
def h254 : Hint := (.s .o (.s .o .o))
def f254 (D : Dyn) (n : Nat) := (⟨_, by conv => rhs; reduce⟩ : {g // g = fun vs H => funS (s254 D n) D n 254 Tryz.f254 h254 [] vs H}).1
theorem f254_eq (D : Dyn) (n : Nat) : f254 D n = funKp (s254 D n) D n 254 Tryz.f254 (ms h254) := by kernel_rfl
theorem f254_ok {D : Dyn} (hD : DP D) (n : Nat) : FP 254 (f254 D n) := fun_okP X_ok hD (SP.nil) Tryz.func254 (by kernel_rfl) (by kernel_rfl) (f254_eq D n)
attribute [local irreducible] f254

def s172 (D : Dyn) (n : Nat) : Tb := ⟨X, [(247, f247 D n), (248, f248 D n), (249, f249 D n), (250, f250 D n)]⟩
def h172 : Hint := (.s .o (.s (.s .o (.cl (.s .o .o) .o)) (.s (.s .o (.cl (.s .o .o) .o)) (.s .o (.s (.s .o (.b [2,6] (.l [1,0,1,6,18,19,20] (.s .o (.s (.cr .o .o) (.s (.b0 (.s .o (.s .o (.s .o (.s .o (.c [0,0,1,6,18,19,20] .o .o)))))) .o)))))) (.s .o .o))))))
def f172j0 (D : Dyn) (n : Nat) := (⟨_, by conv => rhs; reduce⟩ : {g // some g = prtF (s172 D n) D n 172 Tryz.f172 h172 [] 0}).1
attribute [local irreducible] f172j0
def f172l1 (D : Dyn) (n : Nat) := (⟨_, by conv => rhs; reduce⟩ : {g // some g = prtF (s172 D n) D n 172 Tryz.f172 h172 [f172j0 D n] 1}).1
attribute [local irreducible] f172l1
def f172b2 (D : Dyn) (n : Nat) := (⟨_, by conv => rhs; reduce⟩ : {g // some g = prtF (s172 D n) D n 172 Tryz.f172 h172 [f172j0 D n, f172l1 D n] 2}).1
attribute [local irreducible] f172b2
def f172 (D : Dyn) (n : Nat) := (⟨_, by conv => rhs; reduce⟩ : {g // g = fun vs H => funS (s172 D n) D n 172 Tryz.f172 h172 [f172j0 D n, f172l1 D n, f172b2 D n] vs H}).1
theorem f172_eq (D : Dyn) (n : Nat) : f172 D n = funKp (s172 D n) D n 172 Tryz.f172 (ms h172) := by kernel_rfl
theorem f172_ok {D : Dyn} (hD : DP D) (n : Nat) : FP 172 (f172 D n) := fun_okP X_ok hD (SP.cons (f247_ok hD n) (SP.cons (f248_ok hD n) (SP.cons (f249_ok hD n) (SP.cons (f250_ok hD n) (SP.nil))))) Tryz.func172 (by kernel_rfl) (by kernel_rfl) (f172_eq D n)
attribute [local irreducible] f172

def s173 (D : Dyn) (n : Nat) : Tb := ⟨X, []⟩
def h173 : Hint := (.s .o (.s .o (.s (.s .o (.cl (.s .o .o) .o)) (.s .o (.s (.b [6,63] .o) (.s .o (.s .o .o)))))))
def f173 (D : Dyn) (n : Nat) := (⟨_, by conv => rhs; reduce⟩ : {g // g = fun vs H => funS (s173 D n) D n 173 Tryz.f173 h173 [] vs H}).1
theorem f173_eq (D : Dyn) (n : Nat) : f173 D n = funKp (s173 D n) D n 173 Tryz.f173 (ms h173) := by kernel_rfl
theorem f173_ok {D : Dyn} (hD : DP D) (n : Nat) : FP 173 (f173 D n) := fun_okP X_ok hD (SP.nil) Tryz.func173 (by kernel_rfl) (by kernel_rfl) (f173_eq D n)
attribute [local irreducible] f173

def s104 (D : Dyn) (n : Nat) : Tb := ⟨X, [(161, f161 D n), (166, f166 D n), (172, f172 D n), (173, f173 D n), (171, f171 D n)]⟩
def h104 : Hint := (.s .o (.s (.s .o (.cl (.s .o .o) .o)) (.s .o (.s (.s .o (.cl (.s .o .o) .o)) (.s (.b [12,4095] .o) (.s (.s .o (.cl (.s .o .o) .o)) (.s .o (.s .o (.s .o .o)))))))))
def f104 (D : Dyn) (n : Nat) := (⟨_, by conv => rhs; reduce⟩ : {g // g = fun vs H => funS (s104 D n) D n 104 Tryz.f104 h104 [] vs H}).1
theorem f104_eq (D : Dyn) (n : Nat) : f104 D n = funKp (s104 D n) D n 104 Tryz.f104 (ms h104) := by kernel_rfl
theorem f104_ok {D : Dyn} (hD : DP D) (n : Nat) : FP 104 (f104 D n) := fun_okP X_ok hD (SP.cons (f161_ok hD n) (SP.cons (f166_ok hD n) (SP.cons (f172_ok hD n) (SP.cons (f173_ok hD n) (SP.cons (f171_ok hD n) (SP.nil)))))) Tryz.func104 (by kernel_rfl) (by kernel_rfl) (f104_eq D n)
attribute [local irreducible] f104

def s31 (D : Dyn) (n : Nat) : Tb := ⟨X, [(29, f29 D n), (100, f100 D n), (101, f101 D n), (10, f10 D n), (103, f103 D n), (23, f23 D n), (24, f24 D n), (25, f25 D n), (30, f30 D n), (26, f26 D n), (104, f104 D n), (22, f22 D n)]⟩
def h31 : Hint := (.s .o (.s .o (.s (.s .o (.cl (.s .o .o) .o)) (.s .o (.s .o (.s (.c [4,0,5,31,12,3327,13,7679] (.l [0,1,2,3,10,11,4,5,6,7,8,9,12,13,14] .o) .o) (.s (.c [5,31,12,3327,13,7679] (.l [0,1,2,3,4,10,11,5,6,7,8,9,12,13,14] .o) .o) (.s (.c [5,31,12,3327,13,7679] (.l [0,1,2,3,4,10,11,5,6,7,8,9,12,13,14] .o) .o) (.s (.b [4,0,5,31] .o) (.s (.b [4,0,5,31] .o) (.s (.c [5,31,10,767] (.l [0,1,2,3,4,9,5,6,7,8,10,11] .o) .o) (.s .o (.s (.c [5,31,10,767] (.l [0,1,2,3,4,9,5,6,7,8,10,11] .o) .o) (.s (.b [18,131071,32,2147483647] .o) .o))))))))))))))
def f31 (D : Dyn) (n : Nat) := (⟨_, by conv => rhs; reduce⟩ : {g // g = fun vs H => funS (s31 D n) D n 31 Tryz.f31 h31 [] vs H}).1
theorem f31_eq (D : Dyn) (n : Nat) : f31 D n = funKp (s31 D n) D n 31 Tryz.f31 (ms h31) := by kernel_rfl
theorem f31_ok {D : Dyn} (hD : DP D) (n : Nat) : FP 31 (f31 D n) := fun_okP X_ok hD (SP.cons (f29_ok hD n) (SP.cons (f100_ok hD n) (SP.cons (f101_ok hD n) (SP.cons (f10_ok hD n) (SP.cons (f103_ok hD n) (SP.cons (f23_ok hD n) (SP.cons (f24_ok hD n) (SP.cons (f25_ok hD n) (SP.cons (f30_ok hD n) (SP.cons (f26_ok hD n) (SP.cons (f104_ok hD n) (SP.cons (f22_ok hD n) (SP.nil))))))))))))) Tryz.func31 (by kernel_rfl) (by kernel_rfl) (f31_eq D n)
attribute [local irreducible] f31

def s4 (D : Dyn) (n : Nat) : Tb := ⟨X, [(23, f23 D n), (22, f22 D n), (24, f24 D n), (25, f25 D n), (26, f26 D n), (27, f27 D n), (28, f28 D n), (29, f29 D n), (30, f30 D n), (31, f31 D n)]⟩
def h4 : Hint := (.s .o (.s .o (.s .o (.s .o (.s .o (.s .o (.s .o (.s .o (.s (.s .o (.cl (.s .o .o) .o)) (.s (.c [4,0,5,31,10,767] (.l [0,1,2,3,9,4,5,6,7,8,10,11] .o) .o) (.s (.c [4,0,5,31,10,767] (.l [0,1,2,3,9,4,5,6,7,8,10,11] .o) .o) (.s (.c [4,0,5,31,12,3327,13,7679] (.l [0,1,2,3,10,11,4,5,6,7,8,9,12,13,14] .o) .o) (.s (.b [4,0,5,31] .o) (.s (.b [4,0,5,31] .o) (.s (.b [4,0,5,31] .o) (.s (.c [4,0,5,31,10,767] (.l [0,1,2,3,9,4,5,6,7,8,10,11] .o) .o) (.s (.c [4,0,5,31,10,767] (.l [0,1,2,3,9,4,5,6,7,8,10,11] .o) .o) (.s (.c [4,0,5,31,10,767] (.l [0,1,2,3,9,4,5,6,7,8,10,11] .o) .o) (.s .o (.s (.c [4,0,5,31,12,3327,13,7679] (.l [0,1,2,3,10,11,4,5,6,7,8,9,12,13,14] .o) .o) (.s .o .o)))))))))))))))))))))
def f4 (D : Dyn) (n : Nat) := (⟨_, by conv => rhs; reduce⟩ : {g // g = fun vs H => funS (s4 D n) D n 4 Tryz.f4 h4 [] vs H}).1
theorem f4_eq (D : Dyn) (n : Nat) : f4 D n = funKp (s4 D n) D n 4 Tryz.f4 (ms h4) := by kernel_rfl
theorem f4_ok {D : Dyn} (hD : DP D) (n : Nat) : FP 4 (f4 D n) := fun_okP X_ok hD (SP.cons (f23_ok hD n) (SP.cons (f22_ok hD n) (SP.cons (f24_ok hD n) (SP.cons (f25_ok hD n) (SP.cons (f26_ok hD n) (SP.cons (f27_ok hD n) (SP.cons (f28_ok hD n) (SP.cons (f29_ok hD n) (SP.cons (f30_ok hD n) (SP.cons (f31_ok hD n) (SP.nil))))))))))) Tryz.func4 (by kernel_rfl) (by kernel_rfl) (f4_eq D n)
attribute [local irreducible] f4
end Go.Eng.Sh
