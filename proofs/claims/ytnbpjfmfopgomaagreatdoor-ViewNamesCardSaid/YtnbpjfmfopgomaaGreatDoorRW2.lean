/- Shallow functions, by program (gent4.py). -/
import Derived.Test.YtnbpjfmfopgomaaGreatDoorRW1
import Derived.Test.YtnbpjfmfopgomaaGreatDoorProg
import Derived.KernelRfl
noncomputable section
namespace Go.Eng.Sh
open Go.Proofs
set_option maxRecDepth 100000
set_option maxHeartbeats 4000000
set_option linter.all false
attribute [local irreducible] bV bR hd cnd jn jb loopK wnt chk newB bA bInt bStr bBool cmpO eqP eqS eqM eqF eqPL cvI cvSS slStr slArr ixArr ixSl ixStr fAd lnStr lnSl lnMap pk3 s2a bxV lkM upM dlM mkM callV nl outR tld endQ beginK endR endLp jmpK rfC mn2 mx2 aun pExtract pNil undefA isW aveq ldNp ld1p stNp cvBSp cvSBp slSlp ixAg1p ixAgNp fd1p fdNp apPp apZp cpyp bldSp bldAp bldLp mkSlp eqAp clSp bC pnK ifNil asrK noPan mkR clM acap mtp260_0 f23 f30 f161 f215l0 f215b1 f215 f144 f162 f101 f282l0 f282b1 f282 f283 f216 f209 f210l0 f210b1 f210 f137 f81 f218 f217 f145 f174j0 f174j1 rc174 f105 f32 f175 f106 f186 f205 f364 f388 f391j0 f391 f387j0 f387j1 f387j2 f387j3 f387 f390j0 f390j1 f390 f365j0 f365j1 f365 f329 f220l0 f220b1 f220 m220 f270 f366 f291l0 f291b1 f291 f343 f345 f330 f223 f344 f289 f331 f278j0 f278j1 f278j2 f278 f332 f267 f266l0 f266l1 f266b2 f266l3 f266b4 f266b5 f266 f319l0 f319l1 f319b2 f319b3 f319 f336 f367 f333 f335 f279l0 f279b1 f279l2 f279b3 f279j4 f279 f206 f280l0 f280b1 f280 f207 f208j0 f208l1 f208b2 f208 f135l0 f135b1 f135 f38 f54j0 f54 f76 f139 f176l0 f176b1 f176 f138 f121 f84l0 f84b1 f84 f107l0 f107b1 f107 f36 f108 f37 f35j0 f35 f6 f86j0 f86j1 f86 f87 f22
def s88 (D : Dyn) (n : Nat) : Tb := ⟨X, [(30, f30 D n), (144, f144 D n), (145, f145 D n), (6, f6 D n)]⟩
def h88 : Hint := (.s .o (.s .o (.s (.s .o (.cl (.s .o .o) .o)) (.s .o (.s (.s (.b [1,0] .o) (.c [1,2,6,8,9] .o (.s .o (.s (.s .o (.c [0,2,4,6,8,9,10,11] .o .o)) (.s (.s .o (.cl (.s .o .o) .o)) (.s .o (.s .o (.s .o (.cl (.s .o .o) .o))))))))) (.s .o (.s (.s .o (.cl (.s .o .o) .o)) (.s .o .o))))))))
def f88j0 (D : Dyn) (n : Nat) := (⟨_, by conv => rhs; reduce⟩ : {g // some g = prtF (s88 D n) D n 88 Tryz.f88 h88 [] 0}).1
attribute [local irreducible] f88j0
def f88j1 (D : Dyn) (n : Nat) := (⟨_, by conv => rhs; reduce⟩ : {g // some g = prtF (s88 D n) D n 88 Tryz.f88 h88 [f88j0 D n] 1}).1
attribute [local irreducible] f88j1
def f88 (D : Dyn) (n : Nat) := (⟨_, by conv => rhs; reduce⟩ : {g // g = fun vs H => funS (s88 D n) D n 88 Tryz.f88 h88 [f88j0 D n, f88j1 D n] vs H}).1
theorem f88_eq (D : Dyn) (n : Nat) : f88 D n = funKp (s88 D n) D n 88 Tryz.f88 (ms h88) := by kernel_rfl
theorem f88_ok {D : Dyn} (hD : DP D) (n : Nat) : FP 88 (f88 D n) := fun_okP X_ok hD (SP.cons (f30_ok hD n) (SP.cons (f144_ok hD n) (SP.cons (f145_ok hD n) (SP.cons (f6_ok hD n) (SP.nil))))) Tryz.func88 (by kernel_rfl) (by kernel_rfl) (f88_eq D n)
attribute [local irreducible] f88

def s240 (D : Dyn) (n : Nat) : Tb := ⟨X, []⟩
def h240 : Hint := (.s .o (.s .o .o))
def f240 (D : Dyn) (n : Nat) := (⟨_, by conv => rhs; reduce⟩ : {g // g = fun vs H => funS (s240 D n) D n 240 Tryz.f240 h240 [] vs H}).1
theorem f240_eq (D : Dyn) (n : Nat) : f240 D n = funKp (s240 D n) D n 240 Tryz.f240 (ms h240) := by kernel_rfl
theorem f240_ok {D : Dyn} (hD : DP D) (n : Nat) : FP 240 (f240 D n) := fun_okP X_ok hD (SP.nil) Tryz.func240 (by kernel_rfl) (by kernel_rfl) (f240_eq D n)
attribute [local irreducible] f240

def s166 (D : Dyn) (n : Nat) : Tb := ⟨X, [(216, f216 D n)]⟩
def h166 : Hint := (.s .o (.s .o .o))
def f166 (D : Dyn) (n : Nat) := (⟨_, by conv => rhs; reduce⟩ : {g // g = fun vs H => funS (s166 D n) D n 166 Tryz.f166 h166 [] vs H}).1
theorem f166_eq (D : Dyn) (n : Nat) : f166 D n = funKp (s166 D n) D n 166 Tryz.f166 (ms h166) := by kernel_rfl
theorem f166_ok {D : Dyn} (hD : DP D) (n : Nat) : FP 166 (f166 D n) := fun_okP X_ok hD (SP.cons (f216_ok hD n) (SP.nil)) Tryz.func166 (by kernel_rfl) (by kernel_rfl) (f166_eq D n)
attribute [local irreducible] f166

def s146 (D : Dyn) (n : Nat) : Tb := ⟨X, [(161, f161 D n), (166, f166 D n)]⟩
def h146 : Hint := (.s .o (.s (.s .o (.cl (.s .o .o) .o)) (.s .o (.s (.s .o (.cl (.s .o .o) .o)) (.s .o .o)))))
def f146 (D : Dyn) (n : Nat) := (⟨_, by conv => rhs; reduce⟩ : {g // g = fun vs H => funS (s146 D n) D n 146 Tryz.f146 h146 [] vs H}).1
theorem f146_eq (D : Dyn) (n : Nat) : f146 D n = funKp (s146 D n) D n 146 Tryz.f146 (ms h146) := by kernel_rfl
theorem f146_ok {D : Dyn} (hD : DP D) (n : Nat) : FP 146 (f146 D n) := fun_okP X_ok hD (SP.cons (f161_ok hD n) (SP.cons (f166_ok hD n) (SP.nil))) Tryz.func146 (by kernel_rfl) (by kernel_rfl) (f146_eq D n)
attribute [local irreducible] f146

def s34 (D : Dyn) (n : Nat) : Tb := ⟨X, [(36, f36 D n), (38, f38 D n)]⟩
def h34 : Hint := (.s .o (.s .pc (.s (.s .o (.c [0,4,5] .pc .o)) (.s .o .o))))
def f34j0 (D : Dyn) (n : Nat) := (⟨_, by conv => rhs; reduce⟩ : {g // some g = prtF (s34 D n) D n 34 Tryz.f34 h34 [] 0}).1
attribute [local irreducible] f34j0
def f34 (D : Dyn) (n : Nat) := (⟨_, by conv => rhs; reduce⟩ : {g // g = fun vs H => funS (s34 D n) D n 34 Tryz.f34 h34 [f34j0 D n] vs H}).1
theorem f34_eq (D : Dyn) (n : Nat) : f34 D n = funKp (s34 D n) D n 34 Tryz.f34 (ms h34) := by kernel_rfl
theorem f34_ok {D : Dyn} (hD : DP D) (n : Nat) : FP 34 (f34 D n) := fun_okP X_ok hD (SP.cons (f36_ok hD n) (SP.cons (f38_ok hD n) (SP.nil))) Tryz.func34 (by kernel_rfl) (by kernel_rfl) (f34_eq D n)
attribute [local irreducible] f34

def s46 (D : Dyn) (n : Nat) : Tb := ⟨X, [(34, f34 D n), (38, f38 D n)]⟩
def h46 : Hint := (.s .o (.s .pc (.s (.s .o (.c [0,4,5] .pc .o)) (.s .o .o))))
def f46j0 (D : Dyn) (n : Nat) := (⟨_, by conv => rhs; reduce⟩ : {g // some g = prtF (s46 D n) D n 46 Tryz.f46 h46 [] 0}).1
attribute [local irreducible] f46j0
def f46 (D : Dyn) (n : Nat) := (⟨_, by conv => rhs; reduce⟩ : {g // g = fun vs H => funS (s46 D n) D n 46 Tryz.f46 h46 [f46j0 D n] vs H}).1
theorem f46_eq (D : Dyn) (n : Nat) : f46 D n = funKp (s46 D n) D n 46 Tryz.f46 (ms h46) := by kernel_rfl
theorem f46_ok {D : Dyn} (hD : DP D) (n : Nat) : FP 46 (f46 D n) := fun_okP X_ok hD (SP.cons (f34_ok hD n) (SP.cons (f38_ok hD n) (SP.nil))) Tryz.func46 (by kernel_rfl) (by kernel_rfl) (f46_eq D n)
attribute [local irreducible] f46

def s182 (D : Dyn) (n : Nat) : Tb := ⟨X, []⟩
def h182 : Hint := (.s .o (.s .o .o))
def f182 (D : Dyn) (n : Nat) := (⟨_, by conv => rhs; reduce⟩ : {g // g = fun vs H => funS (s182 D n) D n 182 Tryz.f182 h182 [] vs H}).1
theorem f182_eq (D : Dyn) (n : Nat) : f182 D n = funKp (s182 D n) D n 182 Tryz.f182 (ms h182) := by kernel_rfl
theorem f182_ok {D : Dyn} (hD : DP D) (n : Nat) : FP 182 (f182 D n) := fun_okP X_ok hD (SP.nil) Tryz.func182 (by kernel_rfl) (by kernel_rfl) (f182_eq D n)
def m182 (D : Dyn) (n : Nat) (vs : List AV) (H : AH) : Option (AV × AH) := canyK (f182 D n) vs H
theorem m182_ok {D : Dyn} (hD : DP D) (n : Nat) : FP 182 (m182 D n) := canyK_okP (by kernel_rfl) (f182_ok hD n)
attribute [local irreducible] f182 m182

def s114 (D : Dyn) (n : Nat) : Tb := ⟨X, [(182, m182 D n)]⟩
def h114 : Hint := (.s .o (.s (.s .o (.b0 (.s (.s .o (.c [2,0,4] .o (.s .o (.c [1,0,4] .o (.s .o (.c [0,0,4] .o .o)))))) (.cl (.s .o .o) .o)))) (.s .o .o)))
def f114j0 (D : Dyn) (n : Nat) := (⟨_, by conv => rhs; reduce⟩ : {g // some g = prtF (s114 D n) D n 114 Tryz.f114 h114 [] 0}).1
attribute [local irreducible] f114j0
def f114j1 (D : Dyn) (n : Nat) := (⟨_, by conv => rhs; reduce⟩ : {g // some g = prtF (s114 D n) D n 114 Tryz.f114 h114 [f114j0 D n] 1}).1
attribute [local irreducible] f114j1
def f114j2 (D : Dyn) (n : Nat) := (⟨_, by conv => rhs; reduce⟩ : {g // some g = prtF (s114 D n) D n 114 Tryz.f114 h114 [f114j0 D n, f114j1 D n] 2}).1
attribute [local irreducible] f114j2
def f114 (D : Dyn) (n : Nat) := (⟨_, by conv => rhs; reduce⟩ : {g // g = fun vs H => funS (s114 D n) D n 114 Tryz.f114 h114 [f114j0 D n, f114j1 D n, f114j2 D n] vs H}).1
theorem f114_eq (D : Dyn) (n : Nat) : f114 D n = funKp (s114 D n) D n 114 Tryz.f114 (ms h114) := by kernel_rfl
theorem f114_ok {D : Dyn} (hD : DP D) (n : Nat) : FP 114 (f114 D n) := fun_okP X_ok hD (SP.cons (m182_ok hD n) (SP.nil)) Tryz.func114 (by kernel_rfl) (by kernel_rfl) (f114_eq D n)
attribute [local irreducible] f114

def s47 (D : Dyn) (n : Nat) : Tb := ⟨X, [(114, f114 D n), (38, f38 D n)]⟩
def h47 : Hint := (.s .o (.c [0] .pc .o))
def f47j0 (D : Dyn) (n : Nat) := (⟨_, by conv => rhs; reduce⟩ : {g // some g = prtF (s47 D n) D n 47 Tryz.f47 h47 [] 0}).1
attribute [local irreducible] f47j0
def f47 (D : Dyn) (n : Nat) := (⟨_, by conv => rhs; reduce⟩ : {g // g = fun vs H => funS (s47 D n) D n 47 Tryz.f47 h47 [f47j0 D n] vs H}).1
theorem f47_eq (D : Dyn) (n : Nat) : f47 D n = funKp (s47 D n) D n 47 Tryz.f47 (ms h47) := by kernel_rfl
theorem f47_ok {D : Dyn} (hD : DP D) (n : Nat) : FP 47 (f47 D n) := fun_okP X_ok hD (SP.cons (f114_ok hD n) (SP.cons (f38_ok hD n) (SP.nil))) Tryz.func47 (by kernel_rfl) (by kernel_rfl) (f47_eq D n)
attribute [local irreducible] f47

def s190 (D : Dyn) (n : Nat) : Tb := ⟨X, []⟩
def h190 : Hint := (.s .o (.s .o .o))
def f190 (D : Dyn) (n : Nat) := (⟨_, by conv => rhs; reduce⟩ : {g // g = fun vs H => funS (s190 D n) D n 190 Tryz.f190 h190 [] vs H}).1
theorem f190_eq (D : Dyn) (n : Nat) : f190 D n = funKp (s190 D n) D n 190 Tryz.f190 (ms h190) := by kernel_rfl
theorem f190_ok {D : Dyn} (hD : DP D) (n : Nat) : FP 190 (f190 D n) := fun_okP X_ok hD (SP.nil) Tryz.func190 (by kernel_rfl) (by kernel_rfl) (f190_eq D n)
attribute [local irreducible] f190

def s191 (D : Dyn) (n : Nat) : Tb := ⟨X, [(182, m182 D n)]⟩
def h191 : Hint := (.s .o (.s (.s .o (.b0 (.s (.s .o (.c [2,0,4] .o (.s .o (.c [1,0,4] .o (.s .o (.c [0,0,4] .o .o)))))) (.cl (.s .o .o) .o)))) (.s .o .o)))
def f191j0 (D : Dyn) (n : Nat) := (⟨_, by conv => rhs; reduce⟩ : {g // some g = prtF (s191 D n) D n 191 Tryz.f191 h191 [] 0}).1
attribute [local irreducible] f191j0
def f191j1 (D : Dyn) (n : Nat) := (⟨_, by conv => rhs; reduce⟩ : {g // some g = prtF (s191 D n) D n 191 Tryz.f191 h191 [f191j0 D n] 1}).1
attribute [local irreducible] f191j1
def f191j2 (D : Dyn) (n : Nat) := (⟨_, by conv => rhs; reduce⟩ : {g // some g = prtF (s191 D n) D n 191 Tryz.f191 h191 [f191j0 D n, f191j1 D n] 2}).1
attribute [local irreducible] f191j2
def f191 (D : Dyn) (n : Nat) := (⟨_, by conv => rhs; reduce⟩ : {g // g = fun vs H => funS (s191 D n) D n 191 Tryz.f191 h191 [f191j0 D n, f191j1 D n, f191j2 D n] vs H}).1
theorem f191_eq (D : Dyn) (n : Nat) : f191 D n = funKp (s191 D n) D n 191 Tryz.f191 (ms h191) := by kernel_rfl
theorem f191_ok {D : Dyn} (hD : DP D) (n : Nat) : FP 191 (f191 D n) := fun_okP X_ok hD (SP.cons (m182_ok hD n) (SP.nil)) Tryz.func191 (by kernel_rfl) (by kernel_rfl) (f191_eq D n)
attribute [local irreducible] f191

def s192 (D : Dyn) (n : Nat) : Tb := ⟨X, [(270, f270 D n)]⟩
def h192 : Hint := (.s .o (.s .o .o))
def f192 (D : Dyn) (n : Nat) := (⟨_, by conv => rhs; reduce⟩ : {g // g = fun vs H => funS (s192 D n) D n 192 Tryz.f192 h192 [] vs H}).1
theorem f192_eq (D : Dyn) (n : Nat) : f192 D n = funKp (s192 D n) D n 192 Tryz.f192 (ms h192) := by kernel_rfl
theorem f192_ok {D : Dyn} (hD : DP D) (n : Nat) : FP 192 (f192 D n) := fun_okP X_ok hD (SP.cons (f270_ok hD n) (SP.nil)) Tryz.func192 (by kernel_rfl) (by kernel_rfl) (f192_eq D n)
attribute [local irreducible] f192

def s196 (D : Dyn) (n : Nat) : Tb := ⟨X, []⟩
def h196 : Hint := (.s .o (.s .o (.s (.s .o (.b [1,3] (.l [0,0,3,5] (.s .o (.s (.cr .o .o) (.s (.b0 (.s .o .o)) .o)))))) (.s .o .o))))
def f196l0 (D : Dyn) (n : Nat) := (⟨_, by conv => rhs; reduce⟩ : {g // some g = prtF (s196 D n) D n 196 Tryz.f196 h196 [] 0}).1
attribute [local irreducible] f196l0
def f196b1 (D : Dyn) (n : Nat) := (⟨_, by conv => rhs; reduce⟩ : {g // some g = prtF (s196 D n) D n 196 Tryz.f196 h196 [f196l0 D n] 1}).1
attribute [local irreducible] f196b1
def f196 (D : Dyn) (n : Nat) := (⟨_, by conv => rhs; reduce⟩ : {g // g = fun vs H => funS (s196 D n) D n 196 Tryz.f196 h196 [f196l0 D n, f196b1 D n] vs H}).1
theorem f196_eq (D : Dyn) (n : Nat) : f196 D n = funKp (s196 D n) D n 196 Tryz.f196 (ms h196) := by kernel_rfl
theorem f196_ok {D : Dyn} (hD : DP D) (n : Nat) : FP 196 (f196 D n) := fun_okP X_ok hD (SP.nil) Tryz.func196 (by kernel_rfl) (by kernel_rfl) (f196_eq D n)
attribute [local irreducible] f196

def s195 (D : Dyn) (n : Nat) : Tb := ⟨X, [(196, f196 D n)]⟩
def h195 : Hint := (.s .o (.s .o .o))
def f195 (D : Dyn) (n : Nat) := (⟨_, by conv => rhs; reduce⟩ : {g // g = fun vs H => funS (s195 D n) D n 195 Tryz.f195 h195 [] vs H}).1
theorem f195_eq (D : Dyn) (n : Nat) : f195 D n = funKp (s195 D n) D n 195 Tryz.f195 (ms h195) := by kernel_rfl
theorem f195_ok {D : Dyn} (hD : DP D) (n : Nat) : FP 195 (f195 D n) := fun_okP X_ok hD (SP.cons (f196_ok hD n) (SP.nil)) Tryz.func195 (by kernel_rfl) (by kernel_rfl) (f195_eq D n)
attribute [local irreducible] f195

def s257 (D : Dyn) (n : Nat) : Tb := ⟨X, [(186, f186 D n)]⟩
def h257 : Hint := (.s .o (.s (.s .o (.cl (.s .o .o) .o)) (.s .o .o)))
def f257 (D : Dyn) (n : Nat) := (⟨_, by conv => rhs; reduce⟩ : {g // g = fun vs H => funS (s257 D n) D n 257 Tryz.f257 h257 [] vs H}).1
theorem f257_eq (D : Dyn) (n : Nat) : f257 D n = funKp (s257 D n) D n 257 Tryz.f257 (ms h257) := by kernel_rfl
theorem f257_ok {D : Dyn} (hD : DP D) (n : Nat) : FP 257 (f257 D n) := fun_okP X_ok hD (SP.cons (f186_ok hD n) (SP.nil)) Tryz.func257 (by kernel_rfl) (by kernel_rfl) (f257_eq D n)
attribute [local irreducible] f257

def s183 (D : Dyn) (n : Nat) : Tb := ⟨X, [(257, f257 D n)]⟩
def h183 : Hint := (.s .o (.s .o .o))
def f183 (D : Dyn) (n : Nat) := (⟨_, by conv => rhs; reduce⟩ : {g // g = fun vs H => funS (s183 D n) D n 183 Tryz.f183 h183 [] vs H}).1
theorem f183_eq (D : Dyn) (n : Nat) : f183 D n = funKp (s183 D n) D n 183 Tryz.f183 (ms h183) := by kernel_rfl
theorem f183_ok {D : Dyn} (hD : DP D) (n : Nat) : FP 183 (f183 D n) := fun_okP X_ok hD (SP.cons (f257_ok hD n) (SP.nil)) Tryz.func183 (by kernel_rfl) (by kernel_rfl) (f183_eq D n)
attribute [local irreducible] f183

def s317 (D : Dyn) (n : Nat) : Tb := ⟨X, [(186, f186 D n)]⟩
def h317 : Hint := (.s .o (.s (.s .o (.cl (.s .o .o) .o)) (.s .o .o)))
def f317 (D : Dyn) (n : Nat) := (⟨_, by conv => rhs; reduce⟩ : {g // g = fun vs H => funS (s317 D n) D n 317 Tryz.f317 h317 [] vs H}).1
theorem f317_eq (D : Dyn) (n : Nat) : f317 D n = funKp (s317 D n) D n 317 Tryz.f317 (ms h317) := by kernel_rfl
theorem f317_ok {D : Dyn} (hD : DP D) (n : Nat) : FP 317 (f317 D n) := fun_okP X_ok hD (SP.cons (f186_ok hD n) (SP.nil)) Tryz.func317 (by kernel_rfl) (by kernel_rfl) (f317_eq D n)
attribute [local irreducible] f317

def s268 (D : Dyn) (n : Nat) : Tb := ⟨X, []⟩
def h268 : Hint := (.s .o (.s (.s .o (.cl (.s .o .o) .o)) (.s .o .o)))
def f268 (D : Dyn) (n : Nat) := (⟨_, by conv => rhs; reduce⟩ : {g // g = fun vs H => funS (s268 D n) D n 268 Tryz.f268 h268 [] vs H}).1
theorem f268_eq (D : Dyn) (n : Nat) : f268 D n = funKp (s268 D n) D n 268 Tryz.f268 (ms h268) := by kernel_rfl
theorem f268_ok {D : Dyn} (hD : DP D) (n : Nat) : FP 268 (f268 D n) := fun_okP X_ok hD (SP.nil) Tryz.func268 (by kernel_rfl) (by kernel_rfl) (f268_eq D n)
attribute [local irreducible] f268

def s180 (D : Dyn) (n : Nat) : Tb := ⟨X, []⟩
def h180 : Hint := (.s .o (.s (.s .o (.cl (.s .o .o) .o)) (.s .o .o)))
def f180 (D : Dyn) (n : Nat) := (⟨_, by conv => rhs; reduce⟩ : {g // g = fun vs H => funS (s180 D n) D n 180 Tryz.f180 h180 [] vs H}).1
theorem f180_eq (D : Dyn) (n : Nat) : f180 D n = funKp (s180 D n) D n 180 Tryz.f180 (ms h180) := by kernel_rfl
theorem f180_ok {D : Dyn} (hD : DP D) (n : Nat) : FP 180 (f180 D n) := fun_okP X_ok hD (SP.nil) Tryz.func180 (by kernel_rfl) (by kernel_rfl) (f180_eq D n)
attribute [local irreducible] f180

def s300 (D : Dyn) (n : Nat) : Tb := ⟨X, [(186, f186 D n), (206, f206 D n), (268, f268 D n), (180, f180 D n)]⟩
def h300 : Hint := (.s .o (.s (.s .o (.cl (.s .o .o) .o)) (.s (.s .o (.cl (.s .o .o) .o)) (.s .o (.s (.s .o (.cl (.s .o .o) .o)) (.s (.c [4,12,7,124,10,1020,12,4095] (.l [0,1,2,3,5,6,8,9,4,7,10,11,12,13] .o) .o) .o))))))
def f300 (D : Dyn) (n : Nat) := (⟨_, by conv => rhs; reduce⟩ : {g // g = fun vs H => funS (s300 D n) D n 300 Tryz.f300 h300 [] vs H}).1
theorem f300_eq (D : Dyn) (n : Nat) : f300 D n = funKp (s300 D n) D n 300 Tryz.f300 (ms h300) := by kernel_rfl
theorem f300_ok {D : Dyn} (hD : DP D) (n : Nat) : FP 300 (f300 D n) := fun_okP X_ok hD (SP.cons (f186_ok hD n) (SP.cons (f206_ok hD n) (SP.cons (f268_ok hD n) (SP.cons (f180_ok hD n) (SP.nil))))) Tryz.func300 (by kernel_rfl) (by kernel_rfl) (f300_eq D n)
attribute [local irreducible] f300

def s318 (D : Dyn) (n : Nat) : Tb := ⟨X, [(300, f300 D n), (208, f208 D n)]⟩
def h318 : Hint := (.s .o (.s (.s .o (.cl (.s .o .o) .o)) (.s (.s .o (.s .o (.cl (.s .o (.s .o .o)) .o))) (.s (.b [10,767] .o) (.s (.s .o (.c [2,0,2,3,4,5,7,13] (.b [6,62,10,510,13,8191] .o) .o)) (.s (.s .o (.cl (.s .o .o) .o)) (.s (.s .o (.cl (.s .o .o) .o)) (.s .o (.s (.s .o (.b [1] (.l [0,0,2,3,4,5,13,15,16] (.s (.s .o (.cr .o .o)) (.s (.b0 (.s (.s .o (.cl .o .o)) (.s .o (.cl (.s .o .o) .o)))) .o))))) (.s .o .o))))))))))
def f318l0 (D : Dyn) (n : Nat) := (⟨_, by conv => rhs; reduce⟩ : {g // some g = prtF (s318 D n) D n 318 Tryz.f318 h318 [] 0}).1
attribute [local irreducible] f318l0
def f318b1 (D : Dyn) (n : Nat) := (⟨_, by conv => rhs; reduce⟩ : {g // some g = prtF (s318 D n) D n 318 Tryz.f318 h318 [f318l0 D n] 1}).1
attribute [local irreducible] f318b1
def f318j2 (D : Dyn) (n : Nat) := (⟨_, by conv => rhs; reduce⟩ : {g // some g = prtF (s318 D n) D n 318 Tryz.f318 h318 [f318l0 D n, f318b1 D n] 2}).1
attribute [local irreducible] f318j2
def f318 (D : Dyn) (n : Nat) := (⟨_, by conv => rhs; reduce⟩ : {g // g = fun vs H => funS (s318 D n) D n 318 Tryz.f318 h318 [f318l0 D n, f318b1 D n, f318j2 D n] vs H}).1
theorem f318_eq (D : Dyn) (n : Nat) : f318 D n = funKp (s318 D n) D n 318 Tryz.f318 (ms h318) := by kernel_rfl
theorem f318_ok {D : Dyn} (hD : DP D) (n : Nat) : FP 318 (f318 D n) := fun_okP X_ok hD (SP.cons (f300_ok hD n) (SP.cons (f208_ok hD n) (SP.nil))) Tryz.func318 (by kernel_rfl) (by kernel_rfl) (f318_eq D n)
attribute [local irreducible] f318

def s316 (D : Dyn) (n : Nat) : Tb := ⟨X, [(317, f317 D n), (318, f318 D n)]⟩
def h316 : Hint := (.s .o (.s .o (.c [0] .o .o)))
def f316j0 (D : Dyn) (n : Nat) := (⟨_, by conv => rhs; reduce⟩ : {g // some g = prtF (s316 D n) D n 316 Tryz.f316 h316 [] 0}).1
attribute [local irreducible] f316j0
def f316 (D : Dyn) (n : Nat) := (⟨_, by conv => rhs; reduce⟩ : {g // g = fun vs H => funS (s316 D n) D n 316 Tryz.f316 h316 [f316j0 D n] vs H}).1
theorem f316_eq (D : Dyn) (n : Nat) : f316 D n = funKp (s316 D n) D n 316 Tryz.f316 (ms h316) := by kernel_rfl
theorem f316_ok {D : Dyn} (hD : DP D) (n : Nat) : FP 316 (f316 D n) := fun_okP X_ok hD (SP.cons (f317_ok hD n) (SP.cons (f318_ok hD n) (SP.nil))) Tryz.func316 (by kernel_rfl) (by kernel_rfl) (f316_eq D n)
attribute [local irreducible] f316

def s259 (D : Dyn) (n : Nat) : Tb := ⟨X, []⟩
def h259 : Hint := (.s .o (.s .o .o))
def f259 (D : Dyn) (n : Nat) := (⟨_, by conv => rhs; reduce⟩ : {g // g = fun vs H => funS (s259 D n) D n 259 Tryz.f259 h259 [] vs H}).1
theorem f259_eq (D : Dyn) (n : Nat) : f259 D n = funKp (s259 D n) D n 259 Tryz.f259 (ms h259) := by kernel_rfl
theorem f259_ok {D : Dyn} (hD : DP D) (n : Nat) : FP 259 (f259 D n) := fun_okP X_ok hD (SP.nil) Tryz.func259 (by kernel_rfl) (by kernel_rfl) (f259_eq D n)
attribute [local irreducible] f259

def s258 (D : Dyn) (n : Nat) : Tb := ⟨X, [(259, f259 D n), (208, f208 D n)]⟩
def h258 : Hint := (.s .o (.s .o (.b0 (.rf 0 [2,3,5]))))
def f258 (D : Dyn) (n : Nat) := (⟨_, by conv => rhs; reduce⟩ : {g // g = fun vs H => funS (s258 D n) D n 258 Tryz.f258 h258 [] vs H}).1
theorem f258_eq (D : Dyn) (n : Nat) : f258 D n = funKp (s258 D n) D n 258 Tryz.f258 (ms h258) := by kernel_rfl
theorem f258_ok {D : Dyn} (hD : DP D) (n : Nat) : FP 258 (f258 D n) := fun_okP X_ok hD (SP.cons (f259_ok hD n) (SP.cons (f208_ok hD n) (SP.nil))) Tryz.func258 (by kernel_rfl) (by kernel_rfl) (f258_eq D n)
def r258_0a : Hint := .o
def r258_0b : Hint := (.b [2] (.s (.s .o (.cl .o .o)) (.s .o (.b [1] (.l [0,3,5,7,8] (.s (.s .o (.cr .o .o)) (.s (.b0 (.s (.b [24,16777215] .o) (.cl .o .o))) .o)))))))
def f258l0 (D : Dyn) (n : Nat) := (⟨_, by conv => rhs; reduce⟩ : {g // some g = prtR (s258 D n) D n 258 0 [] r258_0b [] 0}).1
attribute [local irreducible] f258l0
def f258b1 (D : Dyn) (n : Nat) := (⟨_, by conv => rhs; reduce⟩ : {g // some g = prtR (s258 D n) D n 258 0 [] r258_0b [f258l0 D n] 1}).1
attribute [local irreducible] f258b1
def f258b2 (D : Dyn) (n : Nat) := (⟨_, by conv => rhs; reduce⟩ : {g // some g = prtR (s258 D n) D n 258 0 [] r258_0b [f258l0 D n, f258b1 D n] 2}).1
attribute [local irreducible] f258b2
def r258_0 (D : Dyn) (n : Nat) := (⟨_, by conv => rhs; reduce⟩ : {g // g = fun A l az H => rndS (s258 D n) D n 258 0 [2, 3, 5] [] r258_0a r258_0b [f258l0 D n, f258b1 D n, f258b2 D n] A l az H}).1
theorem r258_0_eq (D : Dyn) (n : Nat) : r258_0 D n = rndKp (s258 D n) D n 258 0 [2, 3, 5] [] (ms r258_0a) (ms r258_0b) := by kernel_rfl
theorem r258_0_ok {D : Dyn} (hD : DP D) (n : Nat) : RdP 258 0 (r258_0 D n) := round_okP X_ok hD (SP.cons (f259_ok hD n) (SP.cons (f208_ok hD n) (SP.nil))) (by kernel_rfl) (r258_0_eq D n)
attribute [local irreducible] f258 r258_0

def s184 (D : Dyn) (n : Nat) : Tb := ⟨X, []⟩
def h184 : Hint := (.s .o (.s .o .o))
def f184 (D : Dyn) (n : Nat) := (⟨_, by conv => rhs; reduce⟩ : {g // g = fun vs H => funS (s184 D n) D n 184 Tryz.f184 h184 [] vs H}).1
theorem f184_eq (D : Dyn) (n : Nat) : f184 D n = funKp (s184 D n) D n 184 Tryz.f184 (ms h184) := by kernel_rfl
theorem f184_ok {D : Dyn} (hD : DP D) (n : Nat) : FP 184 (f184 D n) := fun_okP X_ok hD (SP.nil) Tryz.func184 (by kernel_rfl) (by kernel_rfl) (f184_eq D n)
attribute [local irreducible] f184

def s185 (D : Dyn) (n : Nat) : Tb := ⟨X, []⟩
def h185 : Hint := (.s .o (.s .o .o))
def f185 (D : Dyn) (n : Nat) := (⟨_, by conv => rhs; reduce⟩ : {g // g = fun vs H => funS (s185 D n) D n 185 Tryz.f185 h185 [] vs H}).1
theorem f185_eq (D : Dyn) (n : Nat) : f185 D n = funKp (s185 D n) D n 185 Tryz.f185 (ms h185) := by kernel_rfl
theorem f185_ok {D : Dyn} (hD : DP D) (n : Nat) : FP 185 (f185 D n) := fun_okP X_ok hD (SP.nil) Tryz.func185 (by kernel_rfl) (by kernel_rfl) (f185_eq D n)
attribute [local irreducible] f185

def s115 (D : Dyn) (n : Nat) : Tb := ⟨X, [(183, f183 D n), (184, f184 D n)]⟩
def h115 : Hint := (.s .o (.s (.s .o (.cl (.s .o .o) .o)) (.s (.s .o (.cl (.s .o .o) .o)) (.s .o (.s .o (.s .o (.s (.s .o (.b [0,11,12,13] (.rf 0 [7,12,13]))) (.s (.s .o (.cl (.s (.b [] .o) .o) .o)) (.s (.b [] .o) .o)))))))))
def f115b0 (D : Dyn) (n : Nat) := (⟨_, by conv => rhs; reduce⟩ : {g // some g = prtF (s115 D n) D n 115 Tryz.f115 h115 [] 0}).1
attribute [local irreducible] f115b0
def f115 (D : Dyn) (n : Nat) := (⟨_, by conv => rhs; reduce⟩ : {g // g = fun vs H => funS (s115 D n) D n 115 Tryz.f115 h115 [f115b0 D n] vs H}).1
theorem f115_eq (D : Dyn) (n : Nat) : f115 D n = funKp (s115 D n) D n 115 Tryz.f115 (ms h115) := by kernel_rfl
theorem f115_ok {D : Dyn} (hD : DP D) (n : Nat) : FP 115 (f115 D n) := fun_okP X_ok hD (SP.cons (f183_ok hD n) (SP.cons (f184_ok hD n) (SP.nil))) Tryz.func115 (by kernel_rfl) (by kernel_rfl) (f115_eq D n)
def r115_0a : Hint := .o
def r115_0b : Hint := (.b0 (.s (.s .o (.cl (.s .o .o) .o)) .o))
def r115_0 (D : Dyn) (n : Nat) := (⟨_, by conv => rhs; reduce⟩ : {g // g = fun A l az H => rndS (s115 D n) D n 115 0 [7, 12, 13] [0] r115_0a r115_0b [] A l az H}).1
theorem r115_0_eq (D : Dyn) (n : Nat) : r115_0 D n = rndKp (s115 D n) D n 115 0 [7, 12, 13] [0] (ms r115_0a) (ms r115_0b) := by kernel_rfl
theorem r115_0_ok {D : Dyn} (hD : DP D) (n : Nat) : RdP 115 0 (r115_0 D n) := round_okP X_ok hD (SP.cons (f183_ok hD n) (SP.cons (f184_ok hD n) (SP.nil))) (by kernel_rfl) (r115_0_eq D n)
attribute [local irreducible] f115 r115_0

def s326 (D : Dyn) (n : Nat) : Tb := ⟨X, []⟩
def h326 : Hint := (.s .o (.s .o (.s (.s .o (.b [1,3] (.l [0,0,3,5] (.s .o (.s (.cr .o .o) (.s (.b0 (.s .o .o)) .o)))))) (.s .o .o))))
def f326l0 (D : Dyn) (n : Nat) := (⟨_, by conv => rhs; reduce⟩ : {g // some g = prtF (s326 D n) D n 326 Tryz.f326 h326 [] 0}).1
attribute [local irreducible] f326l0
def f326b1 (D : Dyn) (n : Nat) := (⟨_, by conv => rhs; reduce⟩ : {g // some g = prtF (s326 D n) D n 326 Tryz.f326 h326 [f326l0 D n] 1}).1
attribute [local irreducible] f326b1
def f326 (D : Dyn) (n : Nat) := (⟨_, by conv => rhs; reduce⟩ : {g // g = fun vs H => funS (s326 D n) D n 326 Tryz.f326 h326 [f326l0 D n, f326b1 D n] vs H}).1
theorem f326_eq (D : Dyn) (n : Nat) : f326 D n = funKp (s326 D n) D n 326 Tryz.f326 (ms h326) := by kernel_rfl
theorem f326_ok {D : Dyn} (hD : DP D) (n : Nat) : FP 326 (f326 D n) := fun_okP X_ok hD (SP.nil) Tryz.func326 (by kernel_rfl) (by kernel_rfl) (f326_eq D n)
attribute [local irreducible] f326

def s271 (D : Dyn) (n : Nat) : Tb := ⟨X, [(326, f326 D n), (190, f190 D n), (191, f191 D n), (192, f192 D n)]⟩
def h271 : Hint := (.s .o (.s (.s .o (.cl (.s .o .o) .o)) (.s .o (.s .o (.s (.s .o (.cl (.s .o .o) .o)) (.s (.s .o (.cl (.s .o .o) .o)) (.s .o (.s .o (.s (.c [3,7,8,255,14,16383,23,8388607] (.l [0,1,2,3,4,5,6,7,8,9,10,11,12,13,15,16,17,18,19,14,20,21,22,23] .o) .o) (.s .o .o))))))))))
def f271 (D : Dyn) (n : Nat) := (⟨_, by conv => rhs; reduce⟩ : {g // g = fun vs H => funS (s271 D n) D n 271 Tryz.f271 h271 [] vs H}).1
theorem f271_eq (D : Dyn) (n : Nat) : f271 D n = funKp (s271 D n) D n 271 Tryz.f271 (ms h271) := by kernel_rfl
theorem f271_ok {D : Dyn} (hD : DP D) (n : Nat) : FP 271 (f271 D n) := fun_okP X_ok hD (SP.cons (f326_ok hD n) (SP.cons (f190_ok hD n) (SP.cons (f191_ok hD n) (SP.cons (f192_ok hD n) (SP.nil))))) Tryz.func271 (by kernel_rfl) (by kernel_rfl) (f271_eq D n)
attribute [local irreducible] f271

def s193 (D : Dyn) (n : Nat) : Tb := ⟨X, [(195, f195 D n), (115, f115 D n), (271, f271 D n)]⟩
def h193 : Hint := (.s .o (.s .o (.s .o (.s (.s .o (.cl (.s .o .o) .o)) (.s (.s .o (.b [1] (.l [0,3,36,37,38] (.s .o (.s (.cr .o .o) (.s (.b0 (.s .o (.s .o (.s .o (.cl .o .o))))) .o)))))) (.s .o .o))))))
def f193l0 (D : Dyn) (n : Nat) := (⟨_, by conv => rhs; reduce⟩ : {g // some g = prtF (s193 D n) D n 193 Tryz.f193 h193 [] 0}).1
attribute [local irreducible] f193l0
def f193b1 (D : Dyn) (n : Nat) := (⟨_, by conv => rhs; reduce⟩ : {g // some g = prtF (s193 D n) D n 193 Tryz.f193 h193 [f193l0 D n] 1}).1
attribute [local irreducible] f193b1
def f193 (D : Dyn) (n : Nat) := (⟨_, by conv => rhs; reduce⟩ : {g // g = fun vs H => funS (s193 D n) D n 193 Tryz.f193 h193 [f193l0 D n, f193b1 D n] vs H}).1
theorem f193_eq (D : Dyn) (n : Nat) : f193 D n = funKp (s193 D n) D n 193 Tryz.f193 (ms h193) := by kernel_rfl
theorem f193_ok {D : Dyn} (hD : DP D) (n : Nat) : FP 193 (f193 D n) := fun_okP X_ok hD (SP.cons (f195_ok hD n) (SP.cons (f115_ok hD n) (SP.cons (f271_ok hD n) (SP.nil)))) Tryz.func193 (by kernel_rfl) (by kernel_rfl) (f193_eq D n)
attribute [local irreducible] f193

def s273 (D : Dyn) (n : Nat) : Tb := ⟨X, []⟩
def h273 : Hint := (.s .o (.s (.s .o (.c [0,2] .o .o)) (.s .o .o)))
def f273j0 (D : Dyn) (n : Nat) := (⟨_, by conv => rhs; reduce⟩ : {g // some g = prtF (s273 D n) D n 273 Tryz.f273 h273 [] 0}).1
attribute [local irreducible] f273j0
def f273 (D : Dyn) (n : Nat) := (⟨_, by conv => rhs; reduce⟩ : {g // g = fun vs H => funS (s273 D n) D n 273 Tryz.f273 h273 [f273j0 D n] vs H}).1
theorem f273_eq (D : Dyn) (n : Nat) : f273 D n = funKp (s273 D n) D n 273 Tryz.f273 (ms h273) := by kernel_rfl
theorem f273_ok {D : Dyn} (hD : DP D) (n : Nat) : FP 273 (f273 D n) := fun_okP X_ok hD (SP.nil) Tryz.func273 (by kernel_rfl) (by kernel_rfl) (f273_eq D n)
attribute [local irreducible] f273

def s200 (D : Dyn) (n : Nat) : Tb := ⟨X, [(190, f190 D n), (191, f191 D n), (192, f192 D n), (193, f193 D n)]⟩
def h200 : Hint := (.s .o (.s (.s .o (.cl (.s .o .o) .o)) (.s (.s .o (.cl (.s .o .o) .o)) (.s (.s .o (.cl (.s .o .o) .o)) (.s .o (.s .o (.s (.s .o (.cl (.s .o .o) .o)) (.s (.s .o (.cl (.s .o .o) .o)) (.s .o .o)))))))))
def f200 (D : Dyn) (n : Nat) := (⟨_, by conv => rhs; reduce⟩ : {g // g = fun vs H => funS (s200 D n) D n 200 Tryz.f200 h200 [] vs H}).1
theorem f200_eq (D : Dyn) (n : Nat) : f200 D n = funKp (s200 D n) D n 200 Tryz.f200 (ms h200) := by kernel_rfl
theorem f200_ok {D : Dyn} (hD : DP D) (n : Nat) : FP 200 (f200 D n) := fun_okP X_ok hD (SP.cons (f190_ok hD n) (SP.cons (f191_ok hD n) (SP.cons (f192_ok hD n) (SP.cons (f193_ok hD n) (SP.nil))))) Tryz.func200 (by kernel_rfl) (by kernel_rfl) (f200_eq D n)
attribute [local irreducible] f200

def s125 (D : Dyn) (n : Nat) : Tb := ⟨X, [(200, f200 D n)]⟩
def h125 : Hint := (.s .o (.s .o (.s (.b [] .o) .o)))
def f125 (D : Dyn) (n : Nat) := (⟨_, by conv => rhs; reduce⟩ : {g // g = fun vs H => funS (s125 D n) D n 125 Tryz.f125 h125 [] vs H}).1
theorem f125_eq (D : Dyn) (n : Nat) : f125 D n = funKp (s125 D n) D n 125 Tryz.f125 (ms h125) := by kernel_rfl
theorem f125_ok {D : Dyn} (hD : DP D) (n : Nat) : FP 125 (f125 D n) := fun_okP X_ok hD (SP.cons (f200_ok hD n) (SP.nil)) Tryz.func125 (by kernel_rfl) (by kernel_rfl) (f125_eq D n)
attribute [local irreducible] f125

def s66 (D : Dyn) (n : Nat) : Tb := ⟨X, [(125, f125 D n), (54, f54 D n)]⟩
def h66 : Hint := (.s .o (.s .o (.s (.s .o (.cl (.s .o .o) .o)) (.s .pc (.s .o .o)))))
def f66 (D : Dyn) (n : Nat) := (⟨_, by conv => rhs; reduce⟩ : {g // g = fun vs H => funS (s66 D n) D n 66 Tryz.f66 h66 [] vs H}).1
theorem f66_eq (D : Dyn) (n : Nat) : f66 D n = funKp (s66 D n) D n 66 Tryz.f66 (ms h66) := by kernel_rfl
theorem f66_ok {D : Dyn} (hD : DP D) (n : Nat) : FP 66 (f66 D n) := fun_okP X_ok hD (SP.cons (f125_ok hD n) (SP.cons (f54_ok hD n) (SP.nil))) Tryz.func66 (by kernel_rfl) (by kernel_rfl) (f66_eq D n)
attribute [local irreducible] f66

def s48 (D : Dyn) (n : Nat) : Tb := ⟨X, [(66, f66 D n), (38, f38 D n)]⟩
def h48 : Hint := (.s .o (.s .pc (.s (.s .o (.c [0,7] .pc .o)) (.s .o .o))))
def f48j0 (D : Dyn) (n : Nat) := (⟨_, by conv => rhs; reduce⟩ : {g // some g = prtF (s48 D n) D n 48 Tryz.f48 h48 [] 0}).1
attribute [local irreducible] f48j0
def f48 (D : Dyn) (n : Nat) := (⟨_, by conv => rhs; reduce⟩ : {g // g = fun vs H => funS (s48 D n) D n 48 Tryz.f48 h48 [f48j0 D n] vs H}).1
theorem f48_eq (D : Dyn) (n : Nat) : f48 D n = funKp (s48 D n) D n 48 Tryz.f48 (ms h48) := by kernel_rfl
theorem f48_ok {D : Dyn} (hD : DP D) (n : Nat) : FP 48 (f48 D n) := fun_okP X_ok hD (SP.cons (f66_ok hD n) (SP.cons (f38_ok hD n) (SP.nil))) Tryz.func48 (by kernel_rfl) (by kernel_rfl) (f48_eq D n)
attribute [local irreducible] f48

def s45 (D : Dyn) (n : Nat) : Tb := ⟨X, [(46, f46 D n), (47, f47 D n), (48, f48 D n), (34, f34 D n)]⟩
def h45 : Hint := (.s .o (.s .pc (.s .pc (.s (.b [4,14,5,31,6,63] .o) .o))))
def f45 (D : Dyn) (n : Nat) := (⟨_, by conv => rhs; reduce⟩ : {g // g = fun vs H => funS (s45 D n) D n 45 Tryz.f45 h45 [] vs H}).1
theorem f45_eq (D : Dyn) (n : Nat) : f45 D n = funKp (s45 D n) D n 45 Tryz.f45 (ms h45) := by kernel_rfl
theorem f45_ok {D : Dyn} (hD : DP D) (n : Nat) : FP 45 (f45 D n) := fun_okP X_ok hD (SP.cons (f46_ok hD n) (SP.cons (f47_ok hD n) (SP.cons (f48_ok hD n) (SP.cons (f34_ok hD n) (SP.nil))))) Tryz.func45 (by kernel_rfl) (by kernel_rfl) (f45_eq D n)
attribute [local irreducible] f45

def s9 (D : Dyn) (n : Nat) : Tb := ⟨X, [(32, f32 D n)]⟩
def h9 : Hint := (.s .o (.s .o .o))
def f9 (D : Dyn) (n : Nat) := (⟨_, by conv => rhs; reduce⟩ : {g // g = fun vs H => funS (s9 D n) D n 9 Tryz.f9 h9 [] vs H}).1
theorem f9_eq (D : Dyn) (n : Nat) : f9 D n = funKp (s9 D n) D n 9 Tryz.f9 (ms h9) := by kernel_rfl
theorem f9_ok {D : Dyn} (hD : DP D) (n : Nat) : FP 9 (f9 D n) := fun_okP X_ok hD (SP.cons (f32_ok hD n) (SP.nil)) Tryz.func9 (by kernel_rfl) (by kernel_rfl) (f9_eq D n)
attribute [local irreducible] f9

def s90 (D : Dyn) (n : Nat) : Tb := ⟨X, []⟩
def h90 : Hint := (.s .o (.s (.b0 (.s .o (.cl (.s .o .o) (.s .o (.cl (.s .o (.s (.s .o (.cl (.s .o .o) .o)) (.s .o (.s .o (.s .o .o))))) (.s .o (.cl (.s (.c [0,0,3,7,5,31] (.l [1,2,0,3,4,5,6] .o) .o) .o) .o))))))) (.s .o (.s (.c [4,15,8,127] (.l [0,1,2,3,5,7,4,6,8,9] .o) .o) .o))))
def f90 (D : Dyn) (n : Nat) := (⟨_, by conv => rhs; reduce⟩ : {g // g = fun vs H => funS (s90 D n) D n 90 Tryz.f90 h90 [] vs H}).1
theorem f90_eq (D : Dyn) (n : Nat) : f90 D n = funKp (s90 D n) D n 90 Tryz.f90 (ms h90) := by kernel_rfl
theorem f90_ok {D : Dyn} (hD : DP D) (n : Nat) : FP 90 (f90 D n) := fun_okP X_ok hD (SP.nil) Tryz.func90 (by kernel_rfl) (by kernel_rfl) (f90_eq D n)
attribute [local irreducible] f90

def s89 (D : Dyn) (n : Nat) : Tb := ⟨X, [(90, f90 D n)]⟩
def h89 : Hint := (.s .o (.s .o .o))
def f89 (D : Dyn) (n : Nat) := (⟨_, by conv => rhs; reduce⟩ : {g // g = fun vs H => funS (s89 D n) D n 89 Tryz.f89 h89 [] vs H}).1
theorem f89_eq (D : Dyn) (n : Nat) : f89 D n = funKp (s89 D n) D n 89 Tryz.f89 (ms h89) := by kernel_rfl
theorem f89_ok {D : Dyn} (hD : DP D) (n : Nat) : FP 89 (f89 D n) := fun_okP X_ok hD (SP.cons (f90_ok hD n) (SP.nil)) Tryz.func89 (by kernel_rfl) (by kernel_rfl) (f89_eq D n)
attribute [local irreducible] f89

def s24 (D : Dyn) (n : Nat) : Tb := ⟨X, [(88, f88 D n)]⟩
def h24 : Hint := (.s .o (.s .o (.s (.b [5,3,6,47] .o) .o)))
def f24 (D : Dyn) (n : Nat) := (⟨_, by conv => rhs; reduce⟩ : {g // g = fun vs H => funS (s24 D n) D n 24 Tryz.f24 h24 [] vs H}).1
theorem f24_eq (D : Dyn) (n : Nat) : f24 D n = funKp (s24 D n) D n 24 Tryz.f24 (ms h24) := by kernel_rfl
theorem f24_ok {D : Dyn} (hD : DP D) (n : Nat) : FP 24 (f24 D n) := fun_okP X_ok hD (SP.cons (f88_ok hD n) (SP.nil)) Tryz.func24 (by kernel_rfl) (by kernel_rfl) (f24_eq D n)
attribute [local irreducible] f24

def s91 (D : Dyn) (n : Nat) : Tb := ⟨X, [(30, f30 D n), (144, f144 D n), (145, f145 D n), (6, f6 D n)]⟩
def h91 : Hint := (.s .o (.s .o (.s (.s .o (.cl (.s .o .o) .o)) (.s .o (.s (.s (.b [1,0] .o) (.c [1,2,6,8,9] .o (.s .o (.s (.s .o (.c [0,2,4,6,8,9,10,11] .o .o)) (.s (.s .o (.cl (.s .o .o) .o)) (.s .o (.s .o (.s .o (.cl (.s .o .o) .o))))))))) (.s .o (.s (.s .o (.cl (.s .o .o) .o)) (.s .o .o))))))))
def f91j0 (D : Dyn) (n : Nat) := (⟨_, by conv => rhs; reduce⟩ : {g // some g = prtF (s91 D n) D n 91 Tryz.f91 h91 [] 0}).1
attribute [local irreducible] f91j0
def f91j1 (D : Dyn) (n : Nat) := (⟨_, by conv => rhs; reduce⟩ : {g // some g = prtF (s91 D n) D n 91 Tryz.f91 h91 [f91j0 D n] 1}).1
attribute [local irreducible] f91j1
def f91 (D : Dyn) (n : Nat) := (⟨_, by conv => rhs; reduce⟩ : {g // g = fun vs H => funS (s91 D n) D n 91 Tryz.f91 h91 [f91j0 D n, f91j1 D n] vs H}).1
theorem f91_eq (D : Dyn) (n : Nat) : f91 D n = funKp (s91 D n) D n 91 Tryz.f91 (ms h91) := by kernel_rfl
theorem f91_ok {D : Dyn} (hD : DP D) (n : Nat) : FP 91 (f91 D n) := fun_okP X_ok hD (SP.cons (f30_ok hD n) (SP.cons (f144_ok hD n) (SP.cons (f145_ok hD n) (SP.cons (f6_ok hD n) (SP.nil))))) Tryz.func91 (by kernel_rfl) (by kernel_rfl) (f91_eq D n)
attribute [local irreducible] f91

def s211 (D : Dyn) (n : Nat) : Tb := ⟨X, []⟩
def h211 : Hint := (.s .o (.s (.s .o (.b [1] (.l [0,0,3] (.s (.s .o (.cr .o .o)) (.s (.b0 (.s .o (.cl (.s (.b [] .o) .o) .o))) .o))))) (.s .o .o)))
def f211l0 (D : Dyn) (n : Nat) := (⟨_, by conv => rhs; reduce⟩ : {g // some g = prtF (s211 D n) D n 211 Tryz.f211 h211 [] 0}).1
attribute [local irreducible] f211l0
def f211b1 (D : Dyn) (n : Nat) := (⟨_, by conv => rhs; reduce⟩ : {g // some g = prtF (s211 D n) D n 211 Tryz.f211 h211 [f211l0 D n] 1}).1
attribute [local irreducible] f211b1
def f211 (D : Dyn) (n : Nat) := (⟨_, by conv => rhs; reduce⟩ : {g // g = fun vs H => funS (s211 D n) D n 211 Tryz.f211 h211 [f211l0 D n, f211b1 D n] vs H}).1
theorem f211_eq (D : Dyn) (n : Nat) : f211 D n = funKp (s211 D n) D n 211 Tryz.f211 (ms h211) := by kernel_rfl
theorem f211_ok {D : Dyn} (hD : DP D) (n : Nat) : FP 211 (f211 D n) := fun_okP X_ok hD (SP.nil) Tryz.func211 (by kernel_rfl) (by kernel_rfl) (f211_eq D n)
attribute [local irreducible] f211

def s197 (D : Dyn) (n : Nat) : Tb := ⟨X, [(190, f190 D n), (195, f195 D n), (196, f196 D n), (211, f211 D n), (115, f115 D n), (271, f271 D n)]⟩
def h197 : Hint := (.s .o (.s (.s .o (.cl (.s .o .o) .o)) (.s (.s .o (.cl (.s .o .o) .o)) (.s .o (.s .o (.s (.s .o (.cl (.s .o .o) .o)) (.s .o (.s (.s .o (.b [2,13,15] (.l [1,13,15,53,54,55] (.s .o (.s (.cr .o .o) (.s (.b0 (.s .o (.s .o (.s .o (.c [0,13,15,53,54,55] .o .o))))) .o)))))) (.s .o .o)))))))))
def f197j0 (D : Dyn) (n : Nat) := (⟨_, by conv => rhs; reduce⟩ : {g // some g = prtF (s197 D n) D n 197 Tryz.f197 h197 [] 0}).1
attribute [local irreducible] f197j0
def f197l1 (D : Dyn) (n : Nat) := (⟨_, by conv => rhs; reduce⟩ : {g // some g = prtF (s197 D n) D n 197 Tryz.f197 h197 [f197j0 D n] 1}).1
attribute [local irreducible] f197l1
def f197b2 (D : Dyn) (n : Nat) := (⟨_, by conv => rhs; reduce⟩ : {g // some g = prtF (s197 D n) D n 197 Tryz.f197 h197 [f197j0 D n, f197l1 D n] 2}).1
attribute [local irreducible] f197b2
def f197 (D : Dyn) (n : Nat) := (⟨_, by conv => rhs; reduce⟩ : {g // g = fun vs H => funS (s197 D n) D n 197 Tryz.f197 h197 [f197j0 D n, f197l1 D n, f197b2 D n] vs H}).1
theorem f197_eq (D : Dyn) (n : Nat) : f197 D n = funKp (s197 D n) D n 197 Tryz.f197 (ms h197) := by kernel_rfl
theorem f197_ok {D : Dyn} (hD : DP D) (n : Nat) : FP 197 (f197 D n) := fun_okP X_ok hD (SP.cons (f190_ok hD n) (SP.cons (f195_ok hD n) (SP.cons (f196_ok hD n) (SP.cons (f211_ok hD n) (SP.cons (f115_ok hD n) (SP.cons (f271_ok hD n) (SP.nil))))))) Tryz.func197 (by kernel_rfl) (by kernel_rfl) (f197_eq D n)
attribute [local irreducible] f197

def s147 (D : Dyn) (n : Nat) : Tb := ⟨X, []⟩
def h147 : Hint := (.s .o (.s (.s .o (.cl (.s .o (.s .o .o)) .o)) (.s .o (.s (.s .o (.b [1,7] (.l [0,7,27,28,29] (.s .o (.s (.cr .o .o) (.s (.b0 (.s .o .o)) .o)))))) (.s .o .o)))))
def f147l0 (D : Dyn) (n : Nat) := (⟨_, by conv => rhs; reduce⟩ : {g // some g = prtF (s147 D n) D n 147 Tryz.f147 h147 [] 0}).1
attribute [local irreducible] f147l0
def f147b1 (D : Dyn) (n : Nat) := (⟨_, by conv => rhs; reduce⟩ : {g // some g = prtF (s147 D n) D n 147 Tryz.f147 h147 [f147l0 D n] 1}).1
attribute [local irreducible] f147b1
def f147 (D : Dyn) (n : Nat) := (⟨_, by conv => rhs; reduce⟩ : {g // g = fun vs H => funS (s147 D n) D n 147 Tryz.f147 h147 [f147l0 D n, f147b1 D n] vs H}).1
theorem f147_eq (D : Dyn) (n : Nat) : f147 D n = funKp (s147 D n) D n 147 Tryz.f147 (ms h147) := by kernel_rfl
theorem f147_ok {D : Dyn} (hD : DP D) (n : Nat) : FP 147 (f147 D n) := fun_okP X_ok hD (SP.nil) Tryz.func147 (by kernel_rfl) (by kernel_rfl) (f147_eq D n)
attribute [local irreducible] f147

def m148 (D : Dyn) (n : Nat) (vs : List AV) (H : AH) : Option (AV × AH) := itoaK vs H
theorem m148_ok {D : Dyn} (hD : DP D) (n : Nat) : FP 148 (m148 D n) := itoaK_okP (by kernel_rfl)
attribute [local irreducible] m148

def s149 (D : Dyn) (n : Nat) : Tb := ⟨X, []⟩
def h149 : Hint := (.s .o (.s (.s .o (.cl (.s .o .o) .o)) (.s .o .o)))
def f149 (D : Dyn) (n : Nat) := (⟨_, by conv => rhs; reduce⟩ : {g // g = fun vs H => funS (s149 D n) D n 149 Tryz.f149 h149 [] vs H}).1
theorem f149_eq (D : Dyn) (n : Nat) : f149 D n = funKp (s149 D n) D n 149 Tryz.f149 (ms h149) := by kernel_rfl
theorem f149_ok {D : Dyn} (hD : DP D) (n : Nat) : FP 149 (f149 D n) := fun_okP X_ok hD (SP.nil) Tryz.func149 (by kernel_rfl) (by kernel_rfl) (f149_eq D n)
attribute [local irreducible] f149

def s221 (D : Dyn) (n : Nat) : Tb := ⟨X, []⟩
def h221 : Hint := (.s .o (.s (.s .o (.b [1,0] (.l [0,0,1,7,8] (.s .o (.s (.cr .o .o) (.s (.b0 (.s .o .o)) .o)))))) (.s .o .o)))
def f221l0 (D : Dyn) (n : Nat) := (⟨_, by conv => rhs; reduce⟩ : {g // some g = prtF (s221 D n) D n 221 Tryz.f221 h221 [] 0}).1
attribute [local irreducible] f221l0
def f221b1 (D : Dyn) (n : Nat) := (⟨_, by conv => rhs; reduce⟩ : {g // some g = prtF (s221 D n) D n 221 Tryz.f221 h221 [f221l0 D n] 1}).1
attribute [local irreducible] f221b1
def f221 (D : Dyn) (n : Nat) := (⟨_, by conv => rhs; reduce⟩ : {g // g = fun vs H => funS (s221 D n) D n 221 Tryz.f221 h221 [f221l0 D n, f221b1 D n] vs H}).1
theorem f221_eq (D : Dyn) (n : Nat) : f221 D n = funKp (s221 D n) D n 221 Tryz.f221 (ms h221) := by kernel_rfl
theorem f221_ok {D : Dyn} (hD : DP D) (n : Nat) : FP 221 (f221 D n) := fun_okP X_ok hD (SP.nil) Tryz.func221 (by kernel_rfl) (by kernel_rfl) (f221_eq D n)
attribute [local irreducible] f221

def s150 (D : Dyn) (n : Nat) : Tb := ⟨X, [(221, f221 D n), (220, m220 D n)]⟩
def h150 : Hint := (.s .o (.s .o (.s (.s .o (.b [3,3] (.l [2,3,8,9,10] (.s .o (.s (.cr .o .o) (.s (.b0 (.s .o (.s .o (.s (.s .o (.b [1,3,5,6,8,9,10] (.l [0,3,5,6,8,9,10,14] (.s .o (.s (.cr .o .o) (.s (.b0 (.s .o .o)) .o)))))) .o)))) .o)))))) (.s .o .o))))
def f150l0 (D : Dyn) (n : Nat) := (⟨_, by conv => rhs; reduce⟩ : {g // some g = prtF (s150 D n) D n 150 Tryz.f150 h150 [] 0}).1
attribute [local irreducible] f150l0
def f150b1 (D : Dyn) (n : Nat) := (⟨_, by conv => rhs; reduce⟩ : {g // some g = prtF (s150 D n) D n 150 Tryz.f150 h150 [f150l0 D n] 1}).1
attribute [local irreducible] f150b1
def f150l2 (D : Dyn) (n : Nat) := (⟨_, by conv => rhs; reduce⟩ : {g // some g = prtF (s150 D n) D n 150 Tryz.f150 h150 [f150l0 D n, f150b1 D n] 2}).1
attribute [local irreducible] f150l2
def f150b3 (D : Dyn) (n : Nat) := (⟨_, by conv => rhs; reduce⟩ : {g // some g = prtF (s150 D n) D n 150 Tryz.f150 h150 [f150l0 D n, f150b1 D n, f150l2 D n] 3}).1
attribute [local irreducible] f150b3
def f150 (D : Dyn) (n : Nat) := (⟨_, by conv => rhs; reduce⟩ : {g // g = fun vs H => funS (s150 D n) D n 150 Tryz.f150 h150 [f150l0 D n, f150b1 D n, f150l2 D n, f150b3 D n] vs H}).1
theorem f150_eq (D : Dyn) (n : Nat) : f150 D n = funKp (s150 D n) D n 150 Tryz.f150 (ms h150) := by kernel_rfl
theorem f150_ok {D : Dyn} (hD : DP D) (n : Nat) : FP 150 (f150 D n) := fun_okP X_ok hD (SP.cons (f221_ok hD n) (SP.cons (m220_ok hD n) (SP.nil))) Tryz.func150 (by kernel_rfl) (by kernel_rfl) (f150_eq D n)
attribute [local irreducible] f150

def s93 (D : Dyn) (n : Nat) : Tb := ⟨X, [(147, f147 D n), (148, m148 D n), (149, f149 D n), (150, f150 D n)]⟩
def h93 : Hint := (.s .o (.s (.s .o (.cl (.s .o .o) .o)) (.s (.s .o (.cl (.s .o .o) .o)) (.s .o (.s (.s .o (.cl (.s .o .o) .o)) (.s .o (.s .o (.s (.s .o (.b [2,2,6,8,10,11] (.l [1,1,2,6,8,10,11,38,39,40] (.s .o (.s (.cr .o .o) (.s (.b0 (.s .o (.s (.c [3,6,7,127] (.l [0,1,2,4,5,3,6,7,8] .o) .o) (.s .o (.c [0,1,2,6,8,10,11,38,39,40] .o .o))))) .o)))))) (.s .o (.s .o (.s .o .o)))))))))))
def f93j0 (D : Dyn) (n : Nat) := (⟨_, by conv => rhs; reduce⟩ : {g // some g = prtF (s93 D n) D n 93 Tryz.f93 h93 [] 0}).1
attribute [local irreducible] f93j0
def f93l1 (D : Dyn) (n : Nat) := (⟨_, by conv => rhs; reduce⟩ : {g // some g = prtF (s93 D n) D n 93 Tryz.f93 h93 [f93j0 D n] 1}).1
attribute [local irreducible] f93l1
def f93b2 (D : Dyn) (n : Nat) := (⟨_, by conv => rhs; reduce⟩ : {g // some g = prtF (s93 D n) D n 93 Tryz.f93 h93 [f93j0 D n, f93l1 D n] 2}).1
attribute [local irreducible] f93b2
def f93 (D : Dyn) (n : Nat) := (⟨_, by conv => rhs; reduce⟩ : {g // g = fun vs H => funS (s93 D n) D n 93 Tryz.f93 h93 [f93j0 D n, f93l1 D n, f93b2 D n] vs H}).1
theorem f93_eq (D : Dyn) (n : Nat) : f93 D n = funKp (s93 D n) D n 93 Tryz.f93 (ms h93) := by kernel_rfl
theorem f93_ok {D : Dyn} (hD : DP D) (n : Nat) : FP 93 (f93 D n) := fun_okP X_ok hD (SP.cons (f147_ok hD n) (SP.cons (m148_ok hD n) (SP.cons (f149_ok hD n) (SP.cons (f150_ok hD n) (SP.nil))))) Tryz.func93 (by kernel_rfl) (by kernel_rfl) (f93_eq D n)
attribute [local irreducible] f93

def s92 (D : Dyn) (n : Nat) : Tb := ⟨X, [(93, f93 D n)]⟩
def h92 : Hint := (.s .o (.s .o .o))
def f92 (D : Dyn) (n : Nat) := (⟨_, by conv => rhs; reduce⟩ : {g // g = fun vs H => funS (s92 D n) D n 92 Tryz.f92 h92 [] vs H}).1
theorem f92_eq (D : Dyn) (n : Nat) : f92 D n = funKp (s92 D n) D n 92 Tryz.f92 (ms h92) := by kernel_rfl
theorem f92_ok {D : Dyn} (hD : DP D) (n : Nat) : FP 92 (f92 D n) := fun_okP X_ok hD (SP.cons (f93_ok hD n) (SP.nil)) Tryz.func92 (by kernel_rfl) (by kernel_rfl) (f92_eq D n)
attribute [local irreducible] f92

def s25 (D : Dyn) (n : Nat) : Tb := ⟨X, [(91, f91 D n)]⟩
def h25 : Hint := (.s .o (.s .o (.s (.b [] .o) .o)))
def f25 (D : Dyn) (n : Nat) := (⟨_, by conv => rhs; reduce⟩ : {g // g = fun vs H => funS (s25 D n) D n 25 Tryz.f25 h25 [] vs H}).1
theorem f25_eq (D : Dyn) (n : Nat) : f25 D n = funKp (s25 D n) D n 25 Tryz.f25 (ms h25) := by kernel_rfl
theorem f25_ok {D : Dyn} (hD : DP D) (n : Nat) : FP 25 (f25 D n) := fun_okP X_ok hD (SP.cons (f91_ok hD n) (SP.nil)) Tryz.func25 (by kernel_rfl) (by kernel_rfl) (f25_eq D n)
attribute [local irreducible] f25

def s26 (D : Dyn) (n : Nat) : Tb := ⟨X, [(30, f30 D n), (22, f22 D n)]⟩
def h26 : Hint := (.s .o (.s (.s (.b [8,127] .o) (.cl (.s .o .o) .o)) (.s .o .o)))
def f26 (D : Dyn) (n : Nat) := (⟨_, by conv => rhs; reduce⟩ : {g // g = fun vs H => funS (s26 D n) D n 26 Tryz.f26 h26 [] vs H}).1
theorem f26_eq (D : Dyn) (n : Nat) : f26 D n = funKp (s26 D n) D n 26 Tryz.f26 (ms h26) := by kernel_rfl
theorem f26_ok {D : Dyn} (hD : DP D) (n : Nat) : FP 26 (f26 D n) := fun_okP X_ok hD (SP.cons (f30_ok hD n) (SP.cons (f22_ok hD n) (SP.nil))) Tryz.func26 (by kernel_rfl) (by kernel_rfl) (f26_eq D n)
attribute [local irreducible] f26

def s94 (D : Dyn) (n : Nat) : Tb := ⟨X, [(30, f30 D n), (144, f144 D n), (145, f145 D n), (6, f6 D n)]⟩
def h94 : Hint := (.s .o (.s .o (.s (.s .o (.cl (.s .o .o) .o)) (.s .o (.s (.s (.b [1,0] .o) (.c [1,2,6,8,9] .o (.s .o (.s (.s .o (.c [0,2,4,6,8,9,10,11] .o .o)) (.s (.s .o (.cl (.s .o .o) .o)) (.s .o (.s .o (.s .o (.cl (.s .o .o) .o))))))))) (.s .o (.s (.s .o (.cl (.s .o .o) .o)) (.s .o .o))))))))
def f94j0 (D : Dyn) (n : Nat) := (⟨_, by conv => rhs; reduce⟩ : {g // some g = prtF (s94 D n) D n 94 Tryz.f94 h94 [] 0}).1
attribute [local irreducible] f94j0
def f94j1 (D : Dyn) (n : Nat) := (⟨_, by conv => rhs; reduce⟩ : {g // some g = prtF (s94 D n) D n 94 Tryz.f94 h94 [f94j0 D n] 1}).1
attribute [local irreducible] f94j1
def f94 (D : Dyn) (n : Nat) := (⟨_, by conv => rhs; reduce⟩ : {g // g = fun vs H => funS (s94 D n) D n 94 Tryz.f94 h94 [f94j0 D n, f94j1 D n] vs H}).1
theorem f94_eq (D : Dyn) (n : Nat) : f94 D n = funKp (s94 D n) D n 94 Tryz.f94 (ms h94) := by kernel_rfl
theorem f94_ok {D : Dyn} (hD : DP D) (n : Nat) : FP 94 (f94 D n) := fun_okP X_ok hD (SP.cons (f30_ok hD n) (SP.cons (f144_ok hD n) (SP.cons (f145_ok hD n) (SP.cons (f6_ok hD n) (SP.nil))))) Tryz.func94 (by kernel_rfl) (by kernel_rfl) (f94_eq D n)
attribute [local irreducible] f94

def s95 (D : Dyn) (n : Nat) : Tb := ⟨X, []⟩
def h95 : Hint := (.s .o (.s (.s .o (.cl (.s .o .o) .o)) (.s .o (.s .o .o))))
def f95 (D : Dyn) (n : Nat) := (⟨_, by conv => rhs; reduce⟩ : {g // g = fun vs H => funS (s95 D n) D n 95 Tryz.f95 h95 [] vs H}).1
theorem f95_eq (D : Dyn) (n : Nat) : f95 D n = funKp (s95 D n) D n 95 Tryz.f95 (ms h95) := by kernel_rfl
theorem f95_ok {D : Dyn} (hD : DP D) (n : Nat) : FP 95 (f95 D n) := fun_okP X_ok hD (SP.nil) Tryz.func95 (by kernel_rfl) (by kernel_rfl) (f95_eq D n)
attribute [local irreducible] f95

def s27 (D : Dyn) (n : Nat) : Tb := ⟨X, [(94, f94 D n)]⟩
def h27 : Hint := (.s .o (.s .o (.s (.b [] .o) .o)))
def f27 (D : Dyn) (n : Nat) := (⟨_, by conv => rhs; reduce⟩ : {g // g = fun vs H => funS (s27 D n) D n 27 Tryz.f27 h27 [] vs H}).1
theorem f27_eq (D : Dyn) (n : Nat) : f27 D n = funKp (s27 D n) D n 27 Tryz.f27 (ms h27) := by kernel_rfl
theorem f27_ok {D : Dyn} (hD : DP D) (n : Nat) : FP 27 (f27 D n) := fun_okP X_ok hD (SP.cons (f94_ok hD n) (SP.nil)) Tryz.func27 (by kernel_rfl) (by kernel_rfl) (f27_eq D n)
attribute [local irreducible] f27

def s96 (D : Dyn) (n : Nat) : Tb := ⟨X, [(30, f30 D n), (144, f144 D n), (145, f145 D n), (6, f6 D n)]⟩
def h96 : Hint := (.s .o (.s .o (.s (.s .o (.cl (.s .o .o) .o)) (.s .o (.s (.s (.b [1,0] .o) (.c [1,2,8,9] .o (.s .o (.s (.s .o (.c [0,2,4,8,9,10,11] .o .o)) (.s (.s .o (.cl (.s .o .o) .o)) (.s .o (.s .o (.s .o (.cl (.s .o .o) .o))))))))) (.s .o (.s (.s .o (.cl (.s .o .o) .o)) (.s .o .o))))))))
def f96j0 (D : Dyn) (n : Nat) := (⟨_, by conv => rhs; reduce⟩ : {g // some g = prtF (s96 D n) D n 96 Tryz.f96 h96 [] 0}).1
attribute [local irreducible] f96j0
def f96j1 (D : Dyn) (n : Nat) := (⟨_, by conv => rhs; reduce⟩ : {g // some g = prtF (s96 D n) D n 96 Tryz.f96 h96 [f96j0 D n] 1}).1
attribute [local irreducible] f96j1
def f96 (D : Dyn) (n : Nat) := (⟨_, by conv => rhs; reduce⟩ : {g // g = fun vs H => funS (s96 D n) D n 96 Tryz.f96 h96 [f96j0 D n, f96j1 D n] vs H}).1
theorem f96_eq (D : Dyn) (n : Nat) : f96 D n = funKp (s96 D n) D n 96 Tryz.f96 (ms h96) := by kernel_rfl
theorem f96_ok {D : Dyn} (hD : DP D) (n : Nat) : FP 96 (f96 D n) := fun_okP X_ok hD (SP.cons (f30_ok hD n) (SP.cons (f144_ok hD n) (SP.cons (f145_ok hD n) (SP.cons (f6_ok hD n) (SP.nil))))) Tryz.func96 (by kernel_rfl) (by kernel_rfl) (f96_eq D n)
attribute [local irreducible] f96

def s97 (D : Dyn) (n : Nat) : Tb := ⟨X, []⟩
def h97 : Hint := (.s .o (.s (.s .o (.cl (.s .o .o) .o)) (.s .o .o)))
def f97 (D : Dyn) (n : Nat) := (⟨_, by conv => rhs; reduce⟩ : {g // g = fun vs H => funS (s97 D n) D n 97 Tryz.f97 h97 [] vs H}).1
theorem f97_eq (D : Dyn) (n : Nat) : f97 D n = funKp (s97 D n) D n 97 Tryz.f97 (ms h97) := by kernel_rfl
theorem f97_ok {D : Dyn} (hD : DP D) (n : Nat) : FP 97 (f97 D n) := fun_okP X_ok hD (SP.nil) Tryz.func97 (by kernel_rfl) (by kernel_rfl) (f97_eq D n)
attribute [local irreducible] f97

def s28 (D : Dyn) (n : Nat) : Tb := ⟨X, [(96, f96 D n)]⟩
def h28 : Hint := (.s .o (.s .o .o))
def f28 (D : Dyn) (n : Nat) := (⟨_, by conv => rhs; reduce⟩ : {g // g = fun vs H => funS (s28 D n) D n 28 Tryz.f28 h28 [] vs H}).1
theorem f28_eq (D : Dyn) (n : Nat) : f28 D n = funKp (s28 D n) D n 28 Tryz.f28 (ms h28) := by kernel_rfl
theorem f28_ok {D : Dyn} (hD : DP D) (n : Nat) : FP 28 (f28 D n) := fun_okP X_ok hD (SP.cons (f96_ok hD n) (SP.nil)) Tryz.func28 (by kernel_rfl) (by kernel_rfl) (f28_eq D n)
attribute [local irreducible] f28

def s136 (D : Dyn) (n : Nat) : Tb := ⟨X, []⟩
def h136 : Hint := (.s .o (.s .o .o))
def f136 (D : Dyn) (n : Nat) := (⟨_, by conv => rhs; reduce⟩ : {g // g = fun vs H => funS (s136 D n) D n 136 Tryz.f136 h136 [] vs H}).1
theorem f136_eq (D : Dyn) (n : Nat) : f136 D n = funKp (s136 D n) D n 136 Tryz.f136 (ms h136) := by kernel_rfl
theorem f136_ok {D : Dyn} (hD : DP D) (n : Nat) : FP 136 (f136 D n) := fun_okP X_ok hD (SP.nil) Tryz.func136 (by kernel_rfl) (by kernel_rfl) (f136_eq D n)
attribute [local irreducible] f136

def s80 (D : Dyn) (n : Nat) : Tb := ⟨X, [(136, f136 D n)]⟩
def h80 : Hint := (.s .o (.s (.s .o (.cl (.s .o .o) .o)) (.s .o .o)))
def f80 (D : Dyn) (n : Nat) := (⟨_, by conv => rhs; reduce⟩ : {g // g = fun vs H => funS (s80 D n) D n 80 Tryz.f80 h80 [] vs H}).1
theorem f80_eq (D : Dyn) (n : Nat) : f80 D n = funKp (s80 D n) D n 80 Tryz.f80 (ms h80) := by kernel_rfl
theorem f80_ok {D : Dyn} (hD : DP D) (n : Nat) : FP 80 (f80 D n) := fun_okP X_ok hD (SP.cons (f136_ok hD n) (SP.nil)) Tryz.func80 (by kernel_rfl) (by kernel_rfl) (f80_eq D n)
attribute [local irreducible] f80

def s373 (D : Dyn) (n : Nat) : Tb := ⟨X, []⟩
def h373 : Hint := (.s .o (.s .o .o))
def f373 (D : Dyn) (n : Nat) := (⟨_, by conv => rhs; reduce⟩ : {g // g = fun vs H => funS (s373 D n) D n 373 Tryz.f373 h373 [] vs H}).1
theorem f373_eq (D : Dyn) (n : Nat) : f373 D n = funKp (s373 D n) D n 373 Tryz.f373 (ms h373) := by kernel_rfl
theorem f373_ok {D : Dyn} (hD : DP D) (n : Nat) : FP 373 (f373 D n) := fun_okP X_ok hD (SP.nil) Tryz.func373 (by kernel_rfl) (by kernel_rfl) (f373_eq D n)
attribute [local irreducible] f373

def s374 (D : Dyn) (n : Nat) : Tb := ⟨X, []⟩
def h374 : Hint := (.s .o (.s .o .o))
def f374 (D : Dyn) (n : Nat) := (⟨_, by conv => rhs; reduce⟩ : {g // g = fun vs H => funS (s374 D n) D n 374 Tryz.f374 h374 [] vs H}).1
theorem f374_eq (D : Dyn) (n : Nat) : f374 D n = funKp (s374 D n) D n 374 Tryz.f374 (ms h374) := by kernel_rfl
theorem f374_ok {D : Dyn} (hD : DP D) (n : Nat) : FP 374 (f374 D n) := fun_okP X_ok hD (SP.nil) Tryz.func374 (by kernel_rfl) (by kernel_rfl) (f374_eq D n)
attribute [local irreducible] f374

def s342 (D : Dyn) (n : Nat) : Tb := ⟨X, [(373, f373 D n), (374, f374 D n)]⟩
def h342 : Hint := (.s .o (.s .o (.s (.c [] (.l [0,2,1,3,4] .o) .o) (.s .o .o))))
def f342 (D : Dyn) (n : Nat) := (⟨_, by conv => rhs; reduce⟩ : {g // g = fun vs H => funS (s342 D n) D n 342 Tryz.f342 h342 [] vs H}).1
theorem f342_eq (D : Dyn) (n : Nat) : f342 D n = funKp (s342 D n) D n 342 Tryz.f342 (ms h342) := by kernel_rfl
theorem f342_ok {D : Dyn} (hD : DP D) (n : Nat) : FP 342 (f342 D n) := fun_okP X_ok hD (SP.cons (f373_ok hD n) (SP.cons (f374_ok hD n) (SP.nil))) Tryz.func342 (by kernel_rfl) (by kernel_rfl) (f342_eq D n)
attribute [local irreducible] f342

def s285 (D : Dyn) (n : Nat) : Tb := ⟨X, [(270, f270 D n), (342, f342 D n), (343, f343 D n)]⟩
def h285 : Hint := (.s .o (.s (.s .o (.cl (.s .o .o) .o)) (.s (.s .o (.cl (.s .o .o) .o)) (.s .o (.s .o .o)))))
def f285 (D : Dyn) (n : Nat) := (⟨_, by conv => rhs; reduce⟩ : {g // g = fun vs H => funS (s285 D n) D n 285 Tryz.f285 h285 [] vs H}).1
theorem f285_eq (D : Dyn) (n : Nat) : f285 D n = funKp (s285 D n) D n 285 Tryz.f285 (ms h285) := by kernel_rfl
theorem f285_ok {D : Dyn} (hD : DP D) (n : Nat) : FP 285 (f285 D n) := fun_okP X_ok hD (SP.cons (f270_ok hD n) (SP.cons (f342_ok hD n) (SP.cons (f343_ok hD n) (SP.nil)))) Tryz.func285 (by kernel_rfl) (by kernel_rfl) (f285_eq D n)
attribute [local irreducible] f285

def s287 (D : Dyn) (n : Nat) : Tb := ⟨X, []⟩
def h287 : Hint := (.s .o (.s (.s .o (.cl (.s .o .o) .o)) (.s .o .o)))
def f287 (D : Dyn) (n : Nat) := (⟨_, by conv => rhs; reduce⟩ : {g // g = fun vs H => funS (s287 D n) D n 287 Tryz.f287 h287 [] vs H}).1
theorem f287_eq (D : Dyn) (n : Nat) : f287 D n = funKp (s287 D n) D n 287 Tryz.f287 (ms h287) := by kernel_rfl
theorem f287_ok {D : Dyn} (hD : DP D) (n : Nat) : FP 287 (f287 D n) := fun_okP X_ok hD (SP.nil) Tryz.func287 (by kernel_rfl) (by kernel_rfl) (f287_eq D n)
attribute [local irreducible] f287

def s224 (D : Dyn) (n : Nat) : Tb := ⟨X, []⟩
def h224 : Hint := (.s .o (.s (.s .o (.cl (.s .o .o) .o)) (.s .o (.s (.s .o (.cl (.s .o .o) .o)) (.s .o (.s .o .o))))))
def f224 (D : Dyn) (n : Nat) := (⟨_, by conv => rhs; reduce⟩ : {g // g = fun vs H => funS (s224 D n) D n 224 Tryz.f224 h224 [] vs H}).1
theorem f224_eq (D : Dyn) (n : Nat) : f224 D n = funKp (s224 D n) D n 224 Tryz.f224 (ms h224) := by kernel_rfl
theorem f224_ok {D : Dyn} (hD : DP D) (n : Nat) : FP 224 (f224 D n) := fun_okP X_ok hD (SP.nil) Tryz.func224 (by kernel_rfl) (by kernel_rfl) (f224_eq D n)
attribute [local irreducible] f224

def s286 (D : Dyn) (n : Nat) : Tb := ⟨X, [(344, f344 D n), (224, f224 D n)]⟩
def h286 : Hint := (.s .o (.s (.s .o (.s .o (.cl (.s .o .o) .o))) (.s (.b [10,1023] .o) (.s (.b [9,510,12,4095] .o) (.s .o .o)))))
def f286 (D : Dyn) (n : Nat) := (⟨_, by conv => rhs; reduce⟩ : {g // g = fun vs H => funS (s286 D n) D n 286 Tryz.f286 h286 [] vs H}).1
theorem f286_eq (D : Dyn) (n : Nat) : f286 D n = funKp (s286 D n) D n 286 Tryz.f286 (ms h286) := by kernel_rfl
theorem f286_ok {D : Dyn} (hD : DP D) (n : Nat) : FP 286 (f286 D n) := fun_okP X_ok hD (SP.cons (f344_ok hD n) (SP.cons (f224_ok hD n) (SP.nil))) Tryz.func286 (by kernel_rfl) (by kernel_rfl) (f286_eq D n)
attribute [local irreducible] f286

def s222 (D : Dyn) (n : Nat) : Tb := ⟨X, [(285, f285 D n), (287, f287 D n), (286, f286 D n)]⟩
def h222 : Hint := (.s .o (.s (.s .o (.cl (.s .o .o) .o)) (.s .o (.s (.s .o (.cl (.s .o .o) .o)) (.s (.c [3,6,5,31] (.l [0,1,2,4,3,5,6] .o) .o) .o)))))
def f222 (D : Dyn) (n : Nat) := (⟨_, by conv => rhs; reduce⟩ : {g // g = fun vs H => funS (s222 D n) D n 222 Tryz.f222 h222 [] vs H}).1
theorem f222_eq (D : Dyn) (n : Nat) : f222 D n = funKp (s222 D n) D n 222 Tryz.f222 (ms h222) := by kernel_rfl
theorem f222_ok {D : Dyn} (hD : DP D) (n : Nat) : FP 222 (f222 D n) := fun_okP X_ok hD (SP.cons (f285_ok hD n) (SP.cons (f287_ok hD n) (SP.cons (f286_ok hD n) (SP.nil)))) Tryz.func222 (by kernel_rfl) (by kernel_rfl) (f222_eq D n)
attribute [local irreducible] f222

def s151 (D : Dyn) (n : Nat) : Tb := ⟨X, [(137, f137 D n), (222, f222 D n)]⟩
def h151 : Hint := (.s .o (.s .o (.s (.s .o (.cl (.s .o .o) .o)) (.s .o .o))))
def f151 (D : Dyn) (n : Nat) := (⟨_, by conv => rhs; reduce⟩ : {g // g = fun vs H => funS (s151 D n) D n 151 Tryz.f151 h151 [] vs H}).1
theorem f151_eq (D : Dyn) (n : Nat) : f151 D n = funKp (s151 D n) D n 151 Tryz.f151 (ms h151) := by kernel_rfl
theorem f151_ok {D : Dyn} (hD : DP D) (n : Nat) : FP 151 (f151 D n) := fun_okP X_ok hD (SP.cons (f137_ok hD n) (SP.cons (f222_ok hD n) (SP.nil))) Tryz.func151 (by kernel_rfl) (by kernel_rfl) (f151_eq D n)
attribute [local irreducible] f151

def s225 (D : Dyn) (n : Nat) : Tb := ⟨X, []⟩
def h225 : Hint := (.s .o .o)
def f225 (D : Dyn) (n : Nat) := (⟨_, by conv => rhs; reduce⟩ : {g // g = fun vs H => funS (s225 D n) D n 225 Tryz.f225 h225 [] vs H}).1
theorem f225_eq (D : Dyn) (n : Nat) : f225 D n = funKp (s225 D n) D n 225 Tryz.f225 (ms h225) := by kernel_rfl
theorem f225_ok {D : Dyn} (hD : DP D) (n : Nat) : FP 225 (f225 D n) := fun_okP X_ok hD (SP.nil) Tryz.func225 (by kernel_rfl) (by kernel_rfl) (f225_eq D n)
attribute [local irreducible] f225

def s152 (D : Dyn) (n : Nat) : Tb := ⟨X, [(223, f223 D n), (224, f224 D n), (225, f225 D n)]⟩
def h152 : Hint := (.s .o (.s (.s .o (.s .o (.cl (.s .o .o) .o))) (.s (.s .o (.s .o (.cl (.s .o .o) .o))) (.s (.s .o (.b [1,0] (.l [0,0,20,21,22] (.s .o (.s (.cr .o .o) (.s (.b0 (.s .o (.b [8,255] .o))) .o)))))) (.s .o (.s .o .o))))))
def f152l0 (D : Dyn) (n : Nat) := (⟨_, by conv => rhs; reduce⟩ : {g // some g = prtF (s152 D n) D n 152 Tryz.f152 h152 [] 0}).1
attribute [local irreducible] f152l0
def f152b1 (D : Dyn) (n : Nat) := (⟨_, by conv => rhs; reduce⟩ : {g // some g = prtF (s152 D n) D n 152 Tryz.f152 h152 [f152l0 D n] 1}).1
attribute [local irreducible] f152b1
def f152 (D : Dyn) (n : Nat) := (⟨_, by conv => rhs; reduce⟩ : {g // g = fun vs H => funS (s152 D n) D n 152 Tryz.f152 h152 [f152l0 D n, f152b1 D n] vs H}).1
theorem f152_eq (D : Dyn) (n : Nat) : f152 D n = funKp (s152 D n) D n 152 Tryz.f152 (ms h152) := by kernel_rfl
theorem f152_ok {D : Dyn} (hD : DP D) (n : Nat) : FP 152 (f152 D n) := fun_okP X_ok hD (SP.cons (f223_ok hD n) (SP.cons (f224_ok hD n) (SP.cons (f225_ok hD n) (SP.nil)))) Tryz.func152 (by kernel_rfl) (by kernel_rfl) (f152_eq D n)
attribute [local irreducible] f152

def s98 (D : Dyn) (n : Nat) : Tb := ⟨X, [(151, f151 D n), (152, f152 D n)]⟩
def h98 : Hint := (.s .o (.s (.s .o (.cl (.s .o .o) .o)) (.s (.s .o (.s .o (.cl (.s .o .o) .o))) (.s .o .o))))
def f98 (D : Dyn) (n : Nat) := (⟨_, by conv => rhs; reduce⟩ : {g // g = fun vs H => funS (s98 D n) D n 98 Tryz.f98 h98 [] vs H}).1
theorem f98_eq (D : Dyn) (n : Nat) : f98 D n = funKp (s98 D n) D n 98 Tryz.f98 (ms h98) := by kernel_rfl
theorem f98_ok {D : Dyn} (hD : DP D) (n : Nat) : FP 98 (f98 D n) := fun_okP X_ok hD (SP.cons (f151_ok hD n) (SP.cons (f152_ok hD n) (SP.nil))) Tryz.func98 (by kernel_rfl) (by kernel_rfl) (f98_eq D n)
attribute [local irreducible] f98

def s375 (D : Dyn) (n : Nat) : Tb := ⟨X, []⟩
def h375 : Hint := (.s .o (.s (.s .o (.cl (.s .o .o) .o)) (.s .o .o)))
def f375 (D : Dyn) (n : Nat) := (⟨_, by conv => rhs; reduce⟩ : {g // g = fun vs H => funS (s375 D n) D n 375 Tryz.f375 h375 [] vs H}).1
theorem f375_eq (D : Dyn) (n : Nat) : f375 D n = funKp (s375 D n) D n 375 Tryz.f375 (ms h375) := by kernel_rfl
theorem f375_ok {D : Dyn} (hD : DP D) (n : Nat) : FP 375 (f375 D n) := fun_okP X_ok hD (SP.nil) Tryz.func375 (by kernel_rfl) (by kernel_rfl) (f375_eq D n)
attribute [local irreducible] f375

def s346 (D : Dyn) (n : Nat) : Tb := ⟨X, [(375, f375 D n)]⟩
def h346 : Hint := (.s .o (.s .o .o))
def f346 (D : Dyn) (n : Nat) := (⟨_, by conv => rhs; reduce⟩ : {g // g = fun vs H => funS (s346 D n) D n 346 Tryz.f346 h346 [] vs H}).1
theorem f346_eq (D : Dyn) (n : Nat) : f346 D n = funKp (s346 D n) D n 346 Tryz.f346 (ms h346) := by kernel_rfl
theorem f346_ok {D : Dyn} (hD : DP D) (n : Nat) : FP 346 (f346 D n) := fun_okP X_ok hD (SP.cons (f375_ok hD n) (SP.nil)) Tryz.func346 (by kernel_rfl) (by kernel_rfl) (f346_eq D n)
attribute [local irreducible] f346

def s394 (D : Dyn) (n : Nat) : Tb := ⟨X, []⟩
def h394 : Hint := (.s .o (.s (.s .o (.cl (.s .o .o) .o)) (.s (.s .o (.cl (.s .o (.s .o .o)) .o)) (.s .o (.s .o (.s .o .o))))))
def f394 (D : Dyn) (n : Nat) := (⟨_, by conv => rhs; reduce⟩ : {g // g = fun vs H => funS (s394 D n) D n 394 Tryz.f394 h394 [] vs H}).1
theorem f394_eq (D : Dyn) (n : Nat) : f394 D n = funKp (s394 D n) D n 394 Tryz.f394 (ms h394) := by kernel_rfl
theorem f394_ok {D : Dyn} (hD : DP D) (n : Nat) : FP 394 (f394 D n) := fun_okP X_ok hD (SP.nil) Tryz.func394 (by kernel_rfl) (by kernel_rfl) (f394_eq D n)
attribute [local irreducible] f394
end Go.Eng.Sh
