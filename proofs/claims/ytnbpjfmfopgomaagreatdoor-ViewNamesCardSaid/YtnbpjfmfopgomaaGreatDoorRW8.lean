/- Shallow functions, by program (gent4.py). -/
import Derived.Test.YtnbpjfmfopgomaaGreatDoorRW7
import Derived.Test.YtnbpjfmfopgomaaGreatDoorProg
import Derived.KernelRfl
noncomputable section
namespace Go.Eng.Sh
open Go.Proofs
set_option maxRecDepth 100000
set_option maxHeartbeats 4000000
set_option linter.all false
attribute [local irreducible] bV bR hd cnd jn jb loopK wnt chk newB bA bInt bStr bBool cmpO eqP eqS eqM eqF eqPL cvI cvSS slStr slArr ixArr ixSl ixStr fAd lnStr lnSl lnMap pk3 s2a bxV lkM upM dlM mkM callV nl outR tld endQ beginK endR endLp jmpK rfC mn2 mx2 aun pExtract pNil undefA isW aveq ldNp ld1p stNp cvBSp cvSBp slSlp ixAg1p ixAgNp fd1p fdNp apPp apZp cpyp bldSp bldAp bldLp mkSlp eqAp clSp bC pnK ifNil asrK noPan mkR clM acap mtp260_0 f23 f30 f161 f215l0 f215b1 f215 f144 f162 f101 f282l0 f282b1 f282 f283 f216 f209 f210l0 f210b1 f210 f137 f81 f218 f217 f145 f174j0 f174j1 rc174 f105 f32 f175 f106 f186 f205 f364 f388 f391j0 f391 f387j0 f387j1 f387j2 f387j3 f387 f390j0 f390j1 f390 f365j0 f365j1 f365 f329 f220l0 f220b1 f220 m220 f270 f366 f291l0 f291b1 f291 f343 f345 f330 f223 f344 f289 f331 f278j0 f278j1 f278j2 f278 f332 f267 f266l0 f266l1 f266b2 f266l3 f266b4 f266b5 f266 f319l0 f319l1 f319b2 f319b3 f319 f336 f367 f333 f335 f279l0 f279b1 f279l2 f279b3 f279j4 f279 f206 f280l0 f280b1 f280 f207 f208j0 f208l1 f208b2 f208 f135l0 f135b1 f135 f38 f54j0 f54 f76 f139 f176l0 f176b1 f176 f138 f121 f84l0 f84b1 f84 f107l0 f107b1 f107 f36 f108 f37 f35j0 f35 f6 f86j0 f86j1 f86 f87 f22 f88j0 f88j1 f88 f240 f166 f146 f34j0 f34 f46j0 f46 f182 m182 f114j0 f114j1 f114j2 f114 f47j0 f47 f190 f191j0 f191j1 f191j2 f191 f192 f196l0 f196b1 f196 f195 f257 f183 f317 f268 f180 f300 f318l0 f318b1 f318j2 f318 f316j0 f316 f259 f258 f258l0 f258b1 f258b2 r258_0 f184 f185 f115b0 f115 r115_0 f326l0 f326b1 f326 f271 f193l0 f193b1 f193 f273j0 f273 f200 f125 f66 f48j0 f48 f45 f9 f90 f89 f24 f91j0 f91j1 f91 f211l0 f211b1 f211 f197j0 f197l1 f197b2 f197 f147l0 f147b1 f147 m148 f149 f221l0 f221b1 f221 f150l0 f150b1 f150l2 f150b3 f150 f93j0 f93l1 f93b2 f93 f92 f25 f26 f94j0 f94j1 f94 f95 f27 f96j0 f96j1 f96 f97 f28 f136 f80 f373 f374 f342 f285 f287 f224 f286 f222 f151 f225 f152l0 f152b1 f152 f98 f375 f346 f394 f376l0 f376b1 f376 f377 f347 f290 f226j0 f226l1 f226b2 f226 f227 f228 f230 f292 f229l0 f229b1 f229 f348l0 f348b1 f348 r348_0 f293 f231 r231_0 f153j0 f153 f155 f156 f154l0 f154b1 f154l2 f154b3 f154 f157 f234 f296 m235 f235 f247 f248 f297 f298 f250j0 f250 f251 f236 f158j0 f158l1 f158b2 f158 f99l0 f99b1 f99 f100 f179 m179 f111 f181j0 f181j1 rc181 f112 f42 f52j0 f52 f178 f113l0 f113b1 f113 f261 f260j0 f260l1 f260b2 f260 f321l0 f321b1 f321 f323l0 f323b1 f323 f265j0 f265j1 f265 f264 f262j0 f262j1 f262 f187 f269 m269 f189 f188 f117 f56 f44 f116l0 f116b1 f116 f55 f57 f82j0 f82 f19 f163 f301 f239 f164j0 f164 f102 f29 f49 f51j0 f51 f110l0 f110b1 f110 f41j0 f41 f53j0 f53l1 f53b2 f53l3 f53 f118l0 f118b1 f118 f119j0 f119 f58 f50j0 f50j1 f50j2 f50j3 f50j4 f50 f10 f165 f312 f252l0 f252b1 f252 f253 f171 f302 f350 f395 f378j0 f378l1 f378b2 f378j3 f378 f399l0 f399b1 f399 f380 f397l0 f397b1 f397 r397_0 f398 f379 f351l0 f351j1 f351b2 f351 f303l0 f303b1 f303l2 f303b3 f303j4 f303 f304 f352 r352_0 f306j0 f306 f241j0 f241l1 f241l2 f241b3 f241b4 f241 f307l0 f307b1 f307 f244 f242 m167 f167l0 f167j1 f167l2 f167b3 f167b4 f167j5 f167 f167j5q f167q
def s245 (D : Dyn) (n : Nat) : Tb := ⟨X, [(282, f282 D n)]⟩
def h245 : Hint := (.s .o (.s .o .o))
def f245 (D : Dyn) (n : Nat) := (⟨_, by conv => rhs; reduce⟩ : {g // g = fun vs H => funS (s245 D n) D n 245 Tryz.f245 h245 [] vs H}).1
theorem f245_eq (D : Dyn) (n : Nat) : f245 D n = funKp (s245 D n) D n 245 Tryz.f245 (ms h245) := by kernel_rfl
theorem f245_ok {D : Dyn} (hD : DP D) (n : Nat) : FP 245 (f245 D n) := fun_okP X_ok hD (SP.cons (f282_ok hD n) (SP.nil)) Tryz.func245 (by kernel_rfl) (by kernel_rfl) (f245_eq D n)
attribute [local irreducible] f245

def s168 (D : Dyn) (n : Nat) : Tb := ⟨X, [(245, f245 D n)]⟩
def h168 : Hint := (.s .o (.s .o (.s (.b [1,3] (.l [0,0,3] (.s (.s .o (.cr .o .o)) (.b0 .o)))) (.s .o .o))))
def f168l0 (D : Dyn) (n : Nat) := (⟨_, by conv => rhs; reduce⟩ : {g // some g = prtF (s168 D n) D n 168 Tryz.f168 h168 [] 0}).1
attribute [local irreducible] f168l0
def f168b1 (D : Dyn) (n : Nat) := (⟨_, by conv => rhs; reduce⟩ : {g // some g = prtF (s168 D n) D n 168 Tryz.f168 h168 [f168l0 D n] 1}).1
attribute [local irreducible] f168b1
def f168 (D : Dyn) (n : Nat) := (⟨_, by conv => rhs; reduce⟩ : {g // g = fun vs H => funS (s168 D n) D n 168 Tryz.f168 h168 [f168l0 D n, f168b1 D n] vs H}).1
theorem f168_eq (D : Dyn) (n : Nat) : f168 D n = funKp (s168 D n) D n 168 Tryz.f168 (ms h168) := by kernel_rfl
theorem f168_ok {D : Dyn} (hD : DP D) (n : Nat) : FP 168 (f168 D n) := fun_okP X_ok hD (SP.cons (f245_ok hD n) (SP.nil)) Tryz.func168 (by kernel_rfl) (by kernel_rfl) (f168_eq D n)
attribute [local irreducible] f168
end Go.Eng.Sh
