/- Shallow functions, by program (gent4.py). -/
import Derived.Test.YtnbpjfmfopgomaaGreatDoorRW2
import Derived.Test.YtnbpjfmfopgomaaGreatDoorProg
import Derived.KernelRfl
noncomputable section
namespace Go.Eng.Sh
open Go.Proofs
set_option maxRecDepth 100000
set_option maxHeartbeats 4000000
set_option linter.all false
attribute [local irreducible] bV bR hd cnd jn jb loopK wnt chk newB bA bInt bStr bBool cmpO eqP eqS eqM eqF eqPL cvI cvSS slStr slArr ixArr ixSl ixStr fAd lnStr lnSl lnMap pk3 s2a bxV lkM upM dlM mkM callV nl outR tld endQ beginK endR endLp jmpK rfC mn2 mx2 aun pExtract pNil undefA isW aveq ldNp ld1p stNp cvBSp cvSBp slSlp ixAg1p ixAgNp fd1p fdNp apPp apZp cpyp bldSp bldAp bldLp mkSlp eqAp clSp bC pnK ifNil asrK noPan mkR clM acap mtp260_0 f23 f30 f161 f215l0 f215b1 f215 f144 f162 f101 f282l0 f282b1 f282 f283 f216 f209 f210l0 f210b1 f210 f137 f81 f218 f217 f145 f174j0 f174j1 rc174 f105 f32 f175 f106 f186 f205 f364 f388 f391j0 f391 f387j0 f387j1 f387j2 f387j3 f387 f390j0 f390j1 f390 f365j0 f365j1 f365 f329 f220l0 f220b1 f220 m220 f270 f366 f291l0 f291b1 f291 f343 f345 f330 f223 f344 f289 f331 f278j0 f278j1 f278j2 f278 f332 f267 f266l0 f266l1 f266b2 f266l3 f266b4 f266b5 f266 f319l0 f319l1 f319b2 f319b3 f319 f336 f367 f333 f335 f279l0 f279b1 f279l2 f279b3 f279j4 f279 f206 f280l0 f280b1 f280 f207 f208j0 f208l1 f208b2 f208 f135l0 f135b1 f135 f38 f54j0 f54 f76 f139 f176l0 f176b1 f176 f138 f121 f84l0 f84b1 f84 f107l0 f107b1 f107 f36 f108 f37 f35j0 f35 f6 f86j0 f86j1 f86 f87 f22 f88j0 f88j1 f88 f240 f166 f146 f34j0 f34 f46j0 f46 f182 m182 f114j0 f114j1 f114j2 f114 f47j0 f47 f190 f191j0 f191j1 f191j2 f191 f192 f196l0 f196b1 f196 f195 f257 f183 f317 f268 f180 f300 f318l0 f318b1 f318j2 f318 f316j0 f316 f259 f258 f258l0 f258b1 f258b2 r258_0 f184 f185 f115b0 f115 r115_0 f326l0 f326b1 f326 f271 f193l0 f193b1 f193 f273j0 f273 f200 f125 f66 f48j0 f48 f45 f9 f90 f89 f24 f91j0 f91j1 f91 f211l0 f211b1 f211 f197j0 f197l1 f197b2 f197 f147l0 f147b1 f147 m148 f149 f221l0 f221b1 f221 f150l0 f150b1 f150l2 f150b3 f150 f93j0 f93l1 f93b2 f93 f92 f25 f26 f94j0 f94j1 f94 f95 f27 f96j0 f96j1 f96 f97 f28 f136 f80 f373 f374 f342 f285 f287 f224 f286 f222 f151 f225 f152l0 f152b1 f152 f98 f375 f346 f394
def s376 (D : Dyn) (n : Nat) : Tb := ⟨X, [(394, f394 D n)]⟩
def h376 : Hint := (.s .o (.s .o (.s (.s .o (.cl (.s .o .o) .o)) (.s .o (.s .o (.s (.s .o (.b [1,6] (.l [0,6,19,20] (.s .o (.s (.cr .o .o) (.s (.b0 (.s .o .o)) .o)))))) (.s .o .o)))))))
def f376l0 (D : Dyn) (n : Nat) := (⟨_, by conv => rhs; reduce⟩ : {g // some g = prtF (s376 D n) D n 376 Tryz.f376 h376 [] 0}).1
attribute [local irreducible] f376l0
def f376b1 (D : Dyn) (n : Nat) := (⟨_, by conv => rhs; reduce⟩ : {g // some g = prtF (s376 D n) D n 376 Tryz.f376 h376 [f376l0 D n] 1}).1
attribute [local irreducible] f376b1
def f376 (D : Dyn) (n : Nat) := (⟨_, by conv => rhs; reduce⟩ : {g // g = fun vs H => funS (s376 D n) D n 376 Tryz.f376 h376 [f376l0 D n, f376b1 D n] vs H}).1
theorem f376_eq (D : Dyn) (n : Nat) : f376 D n = funKp (s376 D n) D n 376 Tryz.f376 (ms h376) := by kernel_rfl
theorem f376_ok {D : Dyn} (hD : DP D) (n : Nat) : FP 376 (f376 D n) := fun_okP X_ok hD (SP.cons (f394_ok hD n) (SP.nil)) Tryz.func376 (by kernel_rfl) (by kernel_rfl) (f376_eq D n)
attribute [local irreducible] f376

def s377 (D : Dyn) (n : Nat) : Tb := ⟨X, []⟩
def h377 : Hint := (.s .o (.s .o .o))
def f377 (D : Dyn) (n : Nat) := (⟨_, by conv => rhs; reduce⟩ : {g // g = fun vs H => funS (s377 D n) D n 377 Tryz.f377 h377 [] vs H}).1
theorem f377_eq (D : Dyn) (n : Nat) : f377 D n = funKp (s377 D n) D n 377 Tryz.f377 (ms h377) := by kernel_rfl
theorem f377_ok {D : Dyn} (hD : DP D) (n : Nat) : FP 377 (f377 D n) := fun_okP X_ok hD (SP.nil) Tryz.func377 (by kernel_rfl) (by kernel_rfl) (f377_eq D n)
attribute [local irreducible] f377

def s347 (D : Dyn) (n : Nat) : Tb := ⟨X, [(376, f376 D n), (377, f377 D n)]⟩
def h347 : Hint := (.s .o (.s .o (.s .o (.s (.s .o (.cl (.s .o .o) .o)) (.s .o .o)))))
def f347 (D : Dyn) (n : Nat) := (⟨_, by conv => rhs; reduce⟩ : {g // g = fun vs H => funS (s347 D n) D n 347 Tryz.f347 h347 [] vs H}).1
theorem f347_eq (D : Dyn) (n : Nat) : f347 D n = funKp (s347 D n) D n 347 Tryz.f347 (ms h347) := by kernel_rfl
theorem f347_ok {D : Dyn} (hD : DP D) (n : Nat) : FP 347 (f347 D n) := fun_okP X_ok hD (SP.cons (f376_ok hD n) (SP.cons (f377_ok hD n) (SP.nil))) Tryz.func347 (by kernel_rfl) (by kernel_rfl) (f347_eq D n)
attribute [local irreducible] f347

def s290 (D : Dyn) (n : Nat) : Tb := ⟨X, [(345, f345 D n), (346, f346 D n), (347, f347 D n), (270, f270 D n)]⟩
def h290 : Hint := (.s .o (.s .o (.s (.s .o (.cl (.s .o .o) .o)) (.s .o (.s (.s (.c [3,7,4,15,7,127] (.l [0,1,2,5,6,3,4,7,8] .o) .o) (.cl (.s .o .o) .o)) (.s .o .o))))))
def f290 (D : Dyn) (n : Nat) := (⟨_, by conv => rhs; reduce⟩ : {g // g = fun vs H => funS (s290 D n) D n 290 Tryz.f290 h290 [] vs H}).1
theorem f290_eq (D : Dyn) (n : Nat) : f290 D n = funKp (s290 D n) D n 290 Tryz.f290 (ms h290) := by kernel_rfl
theorem f290_ok {D : Dyn} (hD : DP D) (n : Nat) : FP 290 (f290 D n) := fun_okP X_ok hD (SP.cons (f345_ok hD n) (SP.cons (f346_ok hD n) (SP.cons (f347_ok hD n) (SP.cons (f270_ok hD n) (SP.nil))))) Tryz.func290 (by kernel_rfl) (by kernel_rfl) (f290_eq D n)
attribute [local irreducible] f290

def s226 (D : Dyn) (n : Nat) : Tb := ⟨X, [(289, f289 D n), (290, f290 D n), (287, f287 D n)]⟩
def h226 : Hint := (.s .o (.s (.s .o (.cl (.s .o .o) .o)) (.s .o (.s (.s .o (.b [2,2,4] (.l [1,0,2,4,12] (.s .o (.s (.cr .o .o) (.s (.b0 (.s .o (.s .o (.s (.s .o (.cl (.s .o .o) .o)) (.s .o (.s .o (.c [0,0,2,4,12] .o .o))))))) .o)))))) (.s (.s .o (.cl (.s .o .o) .o)) (.s .o .o))))))
def f226j0 (D : Dyn) (n : Nat) := (⟨_, by conv => rhs; reduce⟩ : {g // some g = prtF (s226 D n) D n 226 Tryz.f226 h226 [] 0}).1
attribute [local irreducible] f226j0
def f226l1 (D : Dyn) (n : Nat) := (⟨_, by conv => rhs; reduce⟩ : {g // some g = prtF (s226 D n) D n 226 Tryz.f226 h226 [f226j0 D n] 1}).1
attribute [local irreducible] f226l1
def f226b2 (D : Dyn) (n : Nat) := (⟨_, by conv => rhs; reduce⟩ : {g // some g = prtF (s226 D n) D n 226 Tryz.f226 h226 [f226j0 D n, f226l1 D n] 2}).1
attribute [local irreducible] f226b2
def f226 (D : Dyn) (n : Nat) := (⟨_, by conv => rhs; reduce⟩ : {g // g = fun vs H => funS (s226 D n) D n 226 Tryz.f226 h226 [f226j0 D n, f226l1 D n, f226b2 D n] vs H}).1
theorem f226_eq (D : Dyn) (n : Nat) : f226 D n = funKp (s226 D n) D n 226 Tryz.f226 (ms h226) := by kernel_rfl
theorem f226_ok {D : Dyn} (hD : DP D) (n : Nat) : FP 226 (f226 D n) := fun_okP X_ok hD (SP.cons (f289_ok hD n) (SP.cons (f290_ok hD n) (SP.cons (f287_ok hD n) (SP.nil)))) Tryz.func226 (by kernel_rfl) (by kernel_rfl) (f226_eq D n)
attribute [local irreducible] f226

def s227 (D : Dyn) (n : Nat) : Tb := ⟨X, [(291, f291 D n), (209, f209 D n)]⟩
def h227 : Hint := (.s .o (.s (.s .o (.cl (.s .o .o) .o)) (.s .o (.s (.c [] (.l [0,3,6,9,1,2,4,5,7,8,10] .o) .o) (.s (.s .o (.cl (.s .o .o) .o)) (.s .o .o))))))
def f227 (D : Dyn) (n : Nat) := (⟨_, by conv => rhs; reduce⟩ : {g // g = fun vs H => funS (s227 D n) D n 227 Tryz.f227 h227 [] vs H}).1
theorem f227_eq (D : Dyn) (n : Nat) : f227 D n = funKp (s227 D n) D n 227 Tryz.f227 (ms h227) := by kernel_rfl
theorem f227_ok {D : Dyn} (hD : DP D) (n : Nat) : FP 227 (f227 D n) := fun_okP X_ok hD (SP.cons (f291_ok hD n) (SP.cons (f209_ok hD n) (SP.nil))) Tryz.func227 (by kernel_rfl) (by kernel_rfl) (f227_eq D n)
attribute [local irreducible] f227

def s228 (D : Dyn) (n : Nat) : Tb := ⟨X, []⟩
def h228 : Hint := (.s .o (.s (.s .o (.cl (.s .o .o) .o)) (.s .o .o)))
def f228 (D : Dyn) (n : Nat) := (⟨_, by conv => rhs; reduce⟩ : {g // g = fun vs H => funS (s228 D n) D n 228 Tryz.f228 h228 [] vs H}).1
theorem f228_eq (D : Dyn) (n : Nat) : f228 D n = funKp (s228 D n) D n 228 Tryz.f228 (ms h228) := by kernel_rfl
theorem f228_ok {D : Dyn} (hD : DP D) (n : Nat) : FP 228 (f228 D n) := fun_okP X_ok hD (SP.nil) Tryz.func228 (by kernel_rfl) (by kernel_rfl) (f228_eq D n)
attribute [local irreducible] f228

def s230 (D : Dyn) (n : Nat) : Tb := ⟨X, []⟩
def h230 : Hint := (.s .o (.s (.s .o (.cl (.s .o .o) .o)) (.s .o .o)))
def f230 (D : Dyn) (n : Nat) := (⟨_, by conv => rhs; reduce⟩ : {g // g = fun vs H => funS (s230 D n) D n 230 Tryz.f230 h230 [] vs H}).1
theorem f230_eq (D : Dyn) (n : Nat) : f230 D n = funKp (s230 D n) D n 230 Tryz.f230 (ms h230) := by kernel_rfl
theorem f230_ok {D : Dyn} (hD : DP D) (n : Nat) : FP 230 (f230 D n) := fun_okP X_ok hD (SP.nil) Tryz.func230 (by kernel_rfl) (by kernel_rfl) (f230_eq D n)
attribute [local irreducible] f230

def s292 (D : Dyn) (n : Nat) : Tb := ⟨X, []⟩
def h292 : Hint := (.s (.b [15,32767] .o) (.s (.b [10,1023] .o) .o))
def f292 (D : Dyn) (n : Nat) := (⟨_, by conv => rhs; reduce⟩ : {g // g = fun vs H => funS (s292 D n) D n 292 Tryz.f292 h292 [] vs H}).1
theorem f292_eq (D : Dyn) (n : Nat) : f292 D n = funKp (s292 D n) D n 292 Tryz.f292 (ms h292) := by kernel_rfl
theorem f292_ok {D : Dyn} (hD : DP D) (n : Nat) : FP 292 (f292 D n) := fun_okP X_ok hD (SP.nil) Tryz.func292 (by kernel_rfl) (by kernel_rfl) (f292_eq D n)
attribute [local irreducible] f292

def s229 (D : Dyn) (n : Nat) : Tb := ⟨X, [(292, f292 D n)]⟩
def h229 : Hint := (.s .o (.s (.s .o (.cl (.s .o .o) .o)) (.s .o (.s .o (.s (.s .o (.b [1,4] (.l [0,4,20] (.s .o (.s (.cr .o .o) (.s (.b0 (.s .o .o)) .o)))))) (.s .o .o))))))
def f229l0 (D : Dyn) (n : Nat) := (⟨_, by conv => rhs; reduce⟩ : {g // some g = prtF (s229 D n) D n 229 Tryz.f229 h229 [] 0}).1
attribute [local irreducible] f229l0
def f229b1 (D : Dyn) (n : Nat) := (⟨_, by conv => rhs; reduce⟩ : {g // some g = prtF (s229 D n) D n 229 Tryz.f229 h229 [f229l0 D n] 1}).1
attribute [local irreducible] f229b1
def f229 (D : Dyn) (n : Nat) := (⟨_, by conv => rhs; reduce⟩ : {g // g = fun vs H => funS (s229 D n) D n 229 Tryz.f229 h229 [f229l0 D n, f229b1 D n] vs H}).1
theorem f229_eq (D : Dyn) (n : Nat) : f229 D n = funKp (s229 D n) D n 229 Tryz.f229 (ms h229) := by kernel_rfl
theorem f229_ok {D : Dyn} (hD : DP D) (n : Nat) : FP 229 (f229 D n) := fun_okP X_ok hD (SP.cons (f292_ok hD n) (SP.nil)) Tryz.func229 (by kernel_rfl) (by kernel_rfl) (f229_eq D n)
attribute [local irreducible] f229

def s348 (D : Dyn) (n : Nat) : Tb := ⟨X, [(300, f300 D n)]⟩
def h348 : Hint := (.s .o (.s (.s .o (.cl .o .o)) (.s .o (.s (.s .o (.cl (.s .o .o) .o)) (.s (.s .o (.cl .o .o)) (.s .o (.b [1] (.l [0,2,3,4,30,31,32] (.s .o (.s (.cr .o .o) (.s (.b0 (.s .o (.s (.s .o (.b0 (.rf 0 [4]))) (.s .o (.cl .o .o))))) .o)))))))))))
def f348l0 (D : Dyn) (n : Nat) := (⟨_, by conv => rhs; reduce⟩ : {g // some g = prtF (s348 D n) D n 348 Tryz.f348 h348 [] 0}).1
attribute [local irreducible] f348l0
def f348b1 (D : Dyn) (n : Nat) := (⟨_, by conv => rhs; reduce⟩ : {g // some g = prtF (s348 D n) D n 348 Tryz.f348 h348 [f348l0 D n] 1}).1
attribute [local irreducible] f348b1
def f348 (D : Dyn) (n : Nat) := (⟨_, by conv => rhs; reduce⟩ : {g // g = fun vs H => funS (s348 D n) D n 348 Tryz.f348 h348 [f348l0 D n, f348b1 D n] vs H}).1
theorem f348_eq (D : Dyn) (n : Nat) : f348 D n = funKp (s348 D n) D n 348 Tryz.f348 (ms h348) := by kernel_rfl
theorem f348_ok {D : Dyn} (hD : DP D) (n : Nat) : FP 348 (f348 D n) := fun_okP X_ok hD (SP.cons (f300_ok hD n) (SP.nil)) Tryz.func348 (by kernel_rfl) (by kernel_rfl) (f348_eq D n)
def r348_0a : Hint := .o
def r348_0b : Hint := (.b0 (.s .o (.cl .o .o)))
def r348_0 (D : Dyn) (n : Nat) := (⟨_, by conv => rhs; reduce⟩ : {g // g = fun A l az H => rndS (s348 D n) D n 348 0 [4] [0] r348_0a r348_0b [] A l az H}).1
theorem r348_0_eq (D : Dyn) (n : Nat) : r348_0 D n = rndKp (s348 D n) D n 348 0 [4] [0] (ms r348_0a) (ms r348_0b) := by kernel_rfl
theorem r348_0_ok {D : Dyn} (hD : DP D) (n : Nat) : RdP 348 0 (r348_0 D n) := round_okP X_ok hD (SP.cons (f300_ok hD n) (SP.nil)) (by kernel_rfl) (r348_0_eq D n)
attribute [local irreducible] f348 r348_0

def s293 (D : Dyn) (n : Nat) : Tb := ⟨X, []⟩
def h293 : Hint := (.s .o (.s .o .o))
def f293 (D : Dyn) (n : Nat) := (⟨_, by conv => rhs; reduce⟩ : {g // g = fun vs H => funS (s293 D n) D n 293 Tryz.f293 h293 [] vs H}).1
theorem f293_eq (D : Dyn) (n : Nat) : f293 D n = funKp (s293 D n) D n 293 Tryz.f293 (ms h293) := by kernel_rfl
theorem f293_ok {D : Dyn} (hD : DP D) (n : Nat) : FP 293 (f293 D n) := fun_okP X_ok hD (SP.nil) Tryz.func293 (by kernel_rfl) (by kernel_rfl) (f293_eq D n)
attribute [local irreducible] f293

def s231 (D : Dyn) (n : Nat) : Tb := ⟨X, [(293, f293 D n)]⟩
def h231 : Hint := (.s .o (.s .o (.s (.s (.b [8,255] .o) (.b0 (.rf 0 [1,2]))) (.s .o .o))))
def f231 (D : Dyn) (n : Nat) := (⟨_, by conv => rhs; reduce⟩ : {g // g = fun vs H => funS (s231 D n) D n 231 Tryz.f231 h231 [] vs H}).1
theorem f231_eq (D : Dyn) (n : Nat) : f231 D n = funKp (s231 D n) D n 231 Tryz.f231 (ms h231) := by kernel_rfl
theorem f231_ok {D : Dyn} (hD : DP D) (n : Nat) : FP 231 (f231 D n) := fun_okP X_ok hD (SP.cons (f293_ok hD n) (SP.nil)) Tryz.func231 (by kernel_rfl) (by kernel_rfl) (f231_eq D n)
def r231_0a : Hint := .o
def r231_0b : Hint := (.b0 (.s (.s .o (.s .o (.cl (.s .o .o) .o))) .o))
def r231_0 (D : Dyn) (n : Nat) := (⟨_, by conv => rhs; reduce⟩ : {g // g = fun A l az H => rndS (s231 D n) D n 231 0 [1, 2] [] r231_0a r231_0b [] A l az H}).1
theorem r231_0_eq (D : Dyn) (n : Nat) : r231_0 D n = rndKp (s231 D n) D n 231 0 [1, 2] [] (ms r231_0a) (ms r231_0b) := by kernel_rfl
theorem r231_0_ok {D : Dyn} (hD : DP D) (n : Nat) : RdP 231 0 (r231_0 D n) := round_okP X_ok hD (SP.cons (f293_ok hD n) (SP.nil)) (by kernel_rfl) (r231_0_eq D n)
attribute [local irreducible] f231 r231_0

def s153 (D : Dyn) (n : Nat) : Tb := ⟨X, [(226, f226 D n), (227, f227 D n), (228, f228 D n), (230, f230 D n), (229, f229 D n), (81, f81 D n), (231, f231 D n)]⟩
def h153 : Hint := (.s .o (.s (.s .o (.cl (.s .o .o) .o)) (.s (.s .o (.cl (.s .o .o) .o)) (.s .o (.s (.s .o (.cl (.s .o .o) .o)) (.s (.s .o (.cl (.s .o .o) .o)) (.s .o (.s (.s .o (.cl (.s .o .o) .o)) (.s (.b [] .o) (.s (.s .o (.c [0,0,8,9] (.s .o (.s .o (.cl (.s .o .o) .o))) .o)) (.s (.s .o (.s .o (.cl (.s .o .o) .o))) (.s (.s (.b [7,126,13,7167] .o) (.s .o (.cl (.s .o .o) .o))) (.s (.s .o (.s .o (.cl (.s .o .o) .o))) (.s .o .o))))))))))))))
def f153j0 (D : Dyn) (n : Nat) := (⟨_, by conv => rhs; reduce⟩ : {g // some g = prtF (s153 D n) D n 153 Tryz.f153 h153 [] 0}).1
attribute [local irreducible] f153j0
def f153 (D : Dyn) (n : Nat) := (⟨_, by conv => rhs; reduce⟩ : {g // g = fun vs H => funS (s153 D n) D n 153 Tryz.f153 h153 [f153j0 D n] vs H}).1
theorem f153_eq (D : Dyn) (n : Nat) : f153 D n = funKp (s153 D n) D n 153 Tryz.f153 (ms h153) := by kernel_rfl
theorem f153_ok {D : Dyn} (hD : DP D) (n : Nat) : FP 153 (f153 D n) := fun_okP X_ok hD (SP.cons (f226_ok hD n) (SP.cons (f227_ok hD n) (SP.cons (f228_ok hD n) (SP.cons (f230_ok hD n) (SP.cons (f229_ok hD n) (SP.cons (f81_ok hD n) (SP.cons (f231_ok hD n) (SP.nil)))))))) Tryz.func153 (by kernel_rfl) (by kernel_rfl) (f153_eq D n)
attribute [local irreducible] f153

def s155 (D : Dyn) (n : Nat) : Tb := ⟨X, [(162, f162 D n)]⟩
def h155 : Hint := (.s .o (.s (.s .o (.cl (.s .o .o) .o)) (.s .o .o)))
def f155 (D : Dyn) (n : Nat) := (⟨_, by conv => rhs; reduce⟩ : {g // g = fun vs H => funS (s155 D n) D n 155 Tryz.f155 h155 [] vs H}).1
theorem f155_eq (D : Dyn) (n : Nat) : f155 D n = funKp (s155 D n) D n 155 Tryz.f155 (ms h155) := by kernel_rfl
theorem f155_ok {D : Dyn} (hD : DP D) (n : Nat) : FP 155 (f155 D n) := fun_okP X_ok hD (SP.cons (f162_ok hD n) (SP.nil)) Tryz.func155 (by kernel_rfl) (by kernel_rfl) (f155_eq D n)
attribute [local irreducible] f155

def s156 (D : Dyn) (n : Nat) : Tb := ⟨X, [(162, f162 D n)]⟩
def h156 : Hint := (.s .o (.s (.s .o (.cl (.s .o .o) .o)) (.s .o .o)))
def f156 (D : Dyn) (n : Nat) := (⟨_, by conv => rhs; reduce⟩ : {g // g = fun vs H => funS (s156 D n) D n 156 Tryz.f156 h156 [] vs H}).1
theorem f156_eq (D : Dyn) (n : Nat) : f156 D n = funKp (s156 D n) D n 156 Tryz.f156 (ms h156) := by kernel_rfl
theorem f156_ok {D : Dyn} (hD : DP D) (n : Nat) : FP 156 (f156 D n) := fun_okP X_ok hD (SP.cons (f162_ok hD n) (SP.nil)) Tryz.func156 (by kernel_rfl) (by kernel_rfl) (f156_eq D n)
attribute [local irreducible] f156

def s154 (D : Dyn) (n : Nat) : Tb := ⟨X, []⟩
def h154 : Hint := (.s .o (.s (.s .o (.cl (.s .o .o) .o)) (.s .o (.s .o (.s .o (.s (.s .o (.cl (.s .o .o) .o)) (.s .o (.s .o (.s (.s .o (.b [3,7,8,10] (.l [2,1,7,8,10,11,36,37] (.s .o (.s (.cr .o .o) (.s (.b0 (.s .o (.s (.s .o (.cl (.s .o .o) .o)) (.s (.s .o (.b [1,1,7,8,10,12,36,37] (.l [0,1,7,8,10,12,36,37,58,59,60] (.s .o (.s (.cr .o .o) (.s (.b0 (.s .o (.s .o (.cl (.s .o .o) .o)))) .o)))))) (.s .o .o))))) .o)))))) (.s (.s .o (.cl (.s .o .o) .o)) (.s .o .o)))))))))))
def f154l0 (D : Dyn) (n : Nat) := (⟨_, by conv => rhs; reduce⟩ : {g // some g = prtF (s154 D n) D n 154 Tryz.f154 h154 [] 0}).1
attribute [local irreducible] f154l0
def f154b1 (D : Dyn) (n : Nat) := (⟨_, by conv => rhs; reduce⟩ : {g // some g = prtF (s154 D n) D n 154 Tryz.f154 h154 [f154l0 D n] 1}).1
attribute [local irreducible] f154b1
def f154l2 (D : Dyn) (n : Nat) := (⟨_, by conv => rhs; reduce⟩ : {g // some g = prtF (s154 D n) D n 154 Tryz.f154 h154 [f154l0 D n, f154b1 D n] 2}).1
attribute [local irreducible] f154l2
def f154b3 (D : Dyn) (n : Nat) := (⟨_, by conv => rhs; reduce⟩ : {g // some g = prtF (s154 D n) D n 154 Tryz.f154 h154 [f154l0 D n, f154b1 D n, f154l2 D n] 3}).1
attribute [local irreducible] f154b3
def f154 (D : Dyn) (n : Nat) := (⟨_, by conv => rhs; reduce⟩ : {g // g = fun vs H => funS (s154 D n) D n 154 Tryz.f154 h154 [f154l0 D n, f154b1 D n, f154l2 D n, f154b3 D n] vs H}).1
theorem f154_eq (D : Dyn) (n : Nat) : f154 D n = funKp (s154 D n) D n 154 Tryz.f154 (ms h154) := by kernel_rfl
theorem f154_ok {D : Dyn} (hD : DP D) (n : Nat) : FP 154 (f154 D n) := fun_okP X_ok hD (SP.nil) Tryz.func154 (by kernel_rfl) (by kernel_rfl) (f154_eq D n)
attribute [local irreducible] f154

def s157 (D : Dyn) (n : Nat) : Tb := ⟨X, []⟩
def h157 : Hint := (.s .o (.s .o .o))
def f157 (D : Dyn) (n : Nat) := (⟨_, by conv => rhs; reduce⟩ : {g // g = fun vs H => funS (s157 D n) D n 157 Tryz.f157 h157 [] vs H}).1
theorem f157_eq (D : Dyn) (n : Nat) : f157 D n = funKp (s157 D n) D n 157 Tryz.f157 (ms h157) := by kernel_rfl
theorem f157_ok {D : Dyn} (hD : DP D) (n : Nat) : FP 157 (f157 D n) := fun_okP X_ok hD (SP.nil) Tryz.func157 (by kernel_rfl) (by kernel_rfl) (f157_eq D n)
attribute [local irreducible] f157

def s234 (D : Dyn) (n : Nat) : Tb := ⟨X, [(162, f162 D n), (230, f230 D n)]⟩
def h234 : Hint := (.s .o (.s (.s .o (.cl (.s .o .o) .o)) (.s .o .o)))
def f234 (D : Dyn) (n : Nat) := (⟨_, by conv => rhs; reduce⟩ : {g // g = fun vs H => funS (s234 D n) D n 234 Tryz.f234 h234 [] vs H}).1
theorem f234_eq (D : Dyn) (n : Nat) : f234 D n = funKp (s234 D n) D n 234 Tryz.f234 (ms h234) := by kernel_rfl
theorem f234_ok {D : Dyn} (hD : DP D) (n : Nat) : FP 234 (f234 D n) := fun_okP X_ok hD (SP.cons (f162_ok hD n) (SP.cons (f230_ok hD n) (SP.nil))) Tryz.func234 (by kernel_rfl) (by kernel_rfl) (f234_eq D n)
attribute [local irreducible] f234

def s296 (D : Dyn) (n : Nat) : Tb := ⟨X, []⟩
def f296 (D : Dyn) (n : Nat) (vs : List AV) (H : AH) : Option (AV × AH) :=
  outR (hd vs fun x0 vs => hd vs fun x1 vs => nl vs <|
  bV (cmpO .neq (eqP x0 .nilPtr)) fun x6 => 
  jn (wnt x6 true (bV (bInt .geq x1 (.int .i64 (.ofNat 0))) fun x9 => 
  some (.norm [x9], H)) (some (.norm [undefA], H))) fun vs H => hd vs fun x9_2 vs => 
  bV (pk3 (some x6) (some x9_2) (some (.bool false))) fun x10 => 
  jn (wnt x10 true (bV (pNil x0) fun x14 => 
  bV (fAd 0 x14) fun x15 => 
  bV (ld1p x15 H) fun x16 => 
  bV (bInt .lss x1 x16) fun x17 => 
  some (.norm [x17], H)) (some (.norm [undefA], H))) fun vs H => hd vs fun x17_2 vs => 
  bV (pk3 (some x10) (some x17_2) (some (.bool false))) fun x18 => 
  jn (wnt x18 true (bV (pNil x0) fun x22 => 
  bV (fAd 2 x22) fun x23 => 
  bV (ixArr 8192 1 x23 x1) fun x24 => 
  bV (ld1p x24 H) fun x25 => 
  bV (bInt .eql x25 (.int .u8 (.ofNat 1))) fun x26 => 
  some (.norm [x26], H)) (some (.norm [undefA], H))) fun vs H => hd vs fun x27 vs => 
  jn (wnt x27 false (bV (pNil x0) fun x30 => 
  bV (fAd 2 x30) fun x31 => 
  bV (ixArr 8192 1 x31 x1) fun x32 => 
  bV (ld1p x32 H) fun x33 => 
  bV (bInt .eql x33 (.int .u8 (.ofNat 2))) fun x34 => 
  some (.norm [x34], H)) (some (.norm [undefA], H))) fun vs H => hd vs fun x34_2 vs => 
  jn (wnt x18 true (bV (pk3 (some x27) (some (.bool true)) (some x34_2)) fun x35 => 
  some (.norm [x35], H)) (some (.norm [undefA], H))) fun vs H => hd vs fun x35_2 vs => 
  bV (pk3 (some x18) (some x35_2) (some (.bool false))) fun x36 => 
  bV (some x36) fun x4 => some (.ret x4, H))
def h296 : Hint := (.s .o (.s .o .o))
theorem f296_eq (D : Dyn) (n : Nat) : f296 D n = funKp (s296 D n) D n 296 Tryz.f296 h296 := by kernel_rfl
theorem f296_ok {D : Dyn} (hD : DP D) (n : Nat) : FP 296 (f296 D n) := fun_okP X_ok hD (SP.nil) Tryz.func296 (by kernel_rfl) (by kernel_rfl) (f296_eq D n)
attribute [local irreducible] f296
end Go.Eng.Sh
