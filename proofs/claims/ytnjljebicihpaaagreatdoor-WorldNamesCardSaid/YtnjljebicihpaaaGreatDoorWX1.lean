/- Shallow functions, by program (gent4.py). -/
import Derived.Test.YtnjljebicihpaaaGreatDoorWX0
import Derived.Test.YtnjljebicihpaaaGreatDoorProg
import Derived.KernelRfl
noncomputable section
namespace Go.Eng.Sh
open Go.Proofs
set_option maxRecDepth 100000
set_option maxHeartbeats 4000000
set_option linter.all false
attribute [local irreducible] bV bR hd cnd jn jb loopK wnt chk newB bA bInt bStr bBool cmpO eqP eqS eqM eqF eqPL cvI cvSS slStr slArr ixArr ixSl ixStr fAd lnStr lnSl lnMap pk3 s2a bxV lkM upM dlM mkM callV nl outR tld endQ beginK endR endLp jmpK rfC mn2 mx2 aun pExtract pNil undefA isW aveq ldNp ld1p stNp cvBSp cvSBp slSlp ixAg1p ixAgNp fd1p fdNp apPp apZp cpyp bldSp bldAp bldLp mkSlp eqAp clSp bC pnK ifNil asrK noPan mkR clM acap mtp358_0 mtp295_0 mtp297_0
def s33 (D : Dyn) (n : Nat) : Tb := ⟨X, []⟩
def h33 : Hint := (.s .o (.s .o .o))
def f33 (D : Dyn) (n : Nat) := (⟨_, by conv => rhs; reduce⟩ : {g // g = fun vs H => funS (s33 D n) D n 33 Tryz.f33 h33 [] vs H}).1
theorem f33_eq (D : Dyn) (n : Nat) : f33 D n = funKp (s33 D n) D n 33 Tryz.f33 (ms h33) := by kernel_rfl
theorem f33_ok {D : Dyn} (hD : DP D) (n : Nat) : FP 33 (f33 D n) := fun_okP X_ok hD (SP.nil) Tryz.func33 (by kernel_rfl) (by kernel_rfl) (f33_eq D n)
attribute [local irreducible] f33

def s11 (D : Dyn) (n : Nat) : Tb := ⟨X, [(33, f33 D n)]⟩
def h11 : Hint := (.s .o (.s (.s .o (.cl (.s .o .o) .o)) (.s .o .o)))
def f11 (D : Dyn) (n : Nat) := (⟨_, by conv => rhs; reduce⟩ : {g // g = fun vs H => funS (s11 D n) D n 11 Tryz.f11 h11 [] vs H}).1
theorem f11_eq (D : Dyn) (n : Nat) : f11 D n = funKp (s11 D n) D n 11 Tryz.f11 (ms h11) := by kernel_rfl
theorem f11_ok {D : Dyn} (hD : DP D) (n : Nat) : FP 11 (f11 D n) := fun_okP X_ok hD (SP.cons (f33_ok hD n) (SP.nil)) Tryz.func11 (by kernel_rfl) (by kernel_rfl) (f11_eq D n)
attribute [local irreducible] f11

def s98 (D : Dyn) (n : Nat) : Tb := ⟨X, []⟩
def h98 : Hint := (.s .o (.s (.s .o (.cl (.s .o .o) .o)) (.s (.s .o (.cl (.s .o .o) .o)) (.s .o .o))))
def f98 (D : Dyn) (n : Nat) := (⟨_, by conv => rhs; reduce⟩ : {g // g = fun vs H => funS (s98 D n) D n 98 Tryz.f98 h98 [] vs H}).1
theorem f98_eq (D : Dyn) (n : Nat) : f98 D n = funKp (s98 D n) D n 98 Tryz.f98 (ms h98) := by kernel_rfl
theorem f98_ok {D : Dyn} (hD : DP D) (n : Nat) : FP 98 (f98 D n) := fun_okP X_ok hD (SP.nil) Tryz.func98 (by kernel_rfl) (by kernel_rfl) (f98_eq D n)
attribute [local irreducible] f98

def s102 (D : Dyn) (n : Nat) : Tb := ⟨X, [(98, f98 D n)]⟩
def h102 : Hint := (.s .o (.s (.s .o (.s .o (.cl (.s .o .o) .o))) (.s (.s .o (.cl (.s .o .o) .o)) (.s .o .o))))
def f102 (D : Dyn) (n : Nat) := (⟨_, by conv => rhs; reduce⟩ : {g // g = fun vs H => funS (s102 D n) D n 102 Tryz.f102 h102 [] vs H}).1
theorem f102_eq (D : Dyn) (n : Nat) : f102 D n = funKp (s102 D n) D n 102 Tryz.f102 (ms h102) := by kernel_rfl
theorem f102_ok {D : Dyn} (hD : DP D) (n : Nat) : FP 102 (f102 D n) := fun_okP X_ok hD (SP.cons (f98_ok hD n) (SP.nil)) Tryz.func102 (by kernel_rfl) (by kernel_rfl) (f102_eq D n)
attribute [local irreducible] f102

def s58 (D : Dyn) (n : Nat) : Tb := ⟨X, [(102, f102 D n)]⟩
def h58 : Hint := (.s .o (.s (.s .o (.s .o (.cl (.s .o .o) .o))) (.s (.s .o (.s .o (.cl (.s .o .o) .o))) (.s .o .o))))
def f58 (D : Dyn) (n : Nat) := (⟨_, by conv => rhs; reduce⟩ : {g // g = fun vs H => funS (s58 D n) D n 58 Tryz.f58 h58 [] vs H}).1
theorem f58_eq (D : Dyn) (n : Nat) : f58 D n = funKp (s58 D n) D n 58 Tryz.f58 (ms h58) := by kernel_rfl
theorem f58_ok {D : Dyn} (hD : DP D) (n : Nat) : FP 58 (f58 D n) := fun_okP X_ok hD (SP.cons (f102_ok hD n) (SP.nil)) Tryz.func58 (by kernel_rfl) (by kernel_rfl) (f58_eq D n)
attribute [local irreducible] f58

def s161 (D : Dyn) (n : Nat) : Tb := ⟨X, []⟩
def h161 : Hint := (.s .o (.s .o (.s (.s .o (.b [1,3] (.l [0,3,6,7,8] (.s .o (.s (.cr .o .o) (.s (.b0 (.s .o .o)) .o)))))) (.s .o .o))))
def f161l0 (D : Dyn) (n : Nat) := (⟨_, by conv => rhs; reduce⟩ : {g // some g = prtF (s161 D n) D n 161 Tryz.f161 h161 [] 0}).1
attribute [local irreducible] f161l0
def f161b1 (D : Dyn) (n : Nat) := (⟨_, by conv => rhs; reduce⟩ : {g // some g = prtF (s161 D n) D n 161 Tryz.f161 h161 [f161l0 D n] 1}).1
attribute [local irreducible] f161b1
def f161 (D : Dyn) (n : Nat) := (⟨_, by conv => rhs; reduce⟩ : {g // g = fun vs H => funS (s161 D n) D n 161 Tryz.f161 h161 [f161l0 D n, f161b1 D n] vs H}).1
theorem f161_eq (D : Dyn) (n : Nat) : f161 D n = funKp (s161 D n) D n 161 Tryz.f161 (ms h161) := by kernel_rfl
theorem f161_ok {D : Dyn} (hD : DP D) (n : Nat) : FP 161 (f161 D n) := fun_okP X_ok hD (SP.nil) Tryz.func161 (by kernel_rfl) (by kernel_rfl) (f161_eq D n)
attribute [local irreducible] f161

def s167 (D : Dyn) (n : Nat) : Tb := ⟨X, []⟩
def h167 : Hint := (.s .o (.b [1] (.l [0,0,1,6,7] (.s .o (.s (.cr .o .o) (.s (.b0 (.s .o .o)) .o))))))
def f167l0 (D : Dyn) (n : Nat) := (⟨_, by conv => rhs; reduce⟩ : {g // some g = prtF (s167 D n) D n 167 Tryz.f167 h167 [] 0}).1
attribute [local irreducible] f167l0
def f167b1 (D : Dyn) (n : Nat) := (⟨_, by conv => rhs; reduce⟩ : {g // some g = prtF (s167 D n) D n 167 Tryz.f167 h167 [f167l0 D n] 1}).1
attribute [local irreducible] f167b1
def f167 (D : Dyn) (n : Nat) := (⟨_, by conv => rhs; reduce⟩ : {g // g = fun vs H => funS (s167 D n) D n 167 Tryz.f167 h167 [f167l0 D n, f167b1 D n] vs H}).1
theorem f167_eq (D : Dyn) (n : Nat) : f167 D n = funKp (s167 D n) D n 167 Tryz.f167 (ms h167) := by kernel_rfl
theorem f167_ok {D : Dyn} (hD : DP D) (n : Nat) : FP 167 (f167 D n) := fun_okP X_ok hD (SP.nil) Tryz.func167 (by kernel_rfl) (by kernel_rfl) (f167_eq D n)
attribute [local irreducible] f167

def s162 (D : Dyn) (n : Nat) : Tb := ⟨X, [(167, f167 D n)]⟩
def h162 : Hint := (.s .o (.s (.s .o (.cl (.s .o .o) .o)) (.s (.s .o (.cl (.s .o .o) .o)) (.s .o (.s .o (.s .o (.s .o (.s .o (.s .o (.s .o .o))))))))))
def f162 (D : Dyn) (n : Nat) := (⟨_, by conv => rhs; reduce⟩ : {g // g = fun vs H => funS (s162 D n) D n 162 Tryz.f162 h162 [] vs H}).1
theorem f162_eq (D : Dyn) (n : Nat) : f162 D n = funKp (s162 D n) D n 162 Tryz.f162 (ms h162) := by kernel_rfl
theorem f162_ok {D : Dyn} (hD : DP D) (n : Nat) : FP 162 (f162 D n) := fun_okP X_ok hD (SP.cons (f167_ok hD n) (SP.nil)) Tryz.func162 (by kernel_rfl) (by kernel_rfl) (f162_eq D n)
attribute [local irreducible] f162

def s103 (D : Dyn) (n : Nat) : Tb := ⟨X, [(161, f161 D n), (162, f162 D n)]⟩
def h103 : Hint := (.s .o (.s .o (.s (.s .o (.cl (.s .o .o) .o)) (.s .o (.s .o (.s .o (.s .o (.s (.s .o (.cl (.s .o .o) .o)) (.s .o .o)))))))))
def f103 (D : Dyn) (n : Nat) := (⟨_, by conv => rhs; reduce⟩ : {g // g = fun vs H => funS (s103 D n) D n 103 Tryz.f103 h103 [] vs H}).1
theorem f103_eq (D : Dyn) (n : Nat) : f103 D n = funKp (s103 D n) D n 103 Tryz.f103 (ms h103) := by kernel_rfl
theorem f103_ok {D : Dyn} (hD : DP D) (n : Nat) : FP 103 (f103 D n) := fun_okP X_ok hD (SP.cons (f161_ok hD n) (SP.cons (f162_ok hD n) (SP.nil))) Tryz.func103 (by kernel_rfl) (by kernel_rfl) (f103_eq D n)
attribute [local irreducible] f103

def s163 (D : Dyn) (n : Nat) : Tb := ⟨X, []⟩
def h163 : Hint := (.s .o (.s (.s .o (.cl (.s .o .o) .o)) (.s .o .o)))
def f163 (D : Dyn) (n : Nat) := (⟨_, by conv => rhs; reduce⟩ : {g // g = fun vs H => funS (s163 D n) D n 163 Tryz.f163 h163 [] vs H}).1
theorem f163_eq (D : Dyn) (n : Nat) : f163 D n = funKp (s163 D n) D n 163 Tryz.f163 (ms h163) := by kernel_rfl
theorem f163_ok {D : Dyn} (hD : DP D) (n : Nat) : FP 163 (f163 D n) := fun_okP X_ok hD (SP.nil) Tryz.func163 (by kernel_rfl) (by kernel_rfl) (f163_eq D n)
attribute [local irreducible] f163

def s104 (D : Dyn) (n : Nat) : Tb := ⟨X, [(163, f163 D n)]⟩
def h104 : Hint := (.s .o (.s .o .o))
def f104 (D : Dyn) (n : Nat) := (⟨_, by conv => rhs; reduce⟩ : {g // g = fun vs H => funS (s104 D n) D n 104 Tryz.f104 h104 [] vs H}).1
theorem f104_eq (D : Dyn) (n : Nat) : f104 D n = funKp (s104 D n) D n 104 Tryz.f104 (ms h104) := by kernel_rfl
theorem f104_ok {D : Dyn} (hD : DP D) (n : Nat) : FP 104 (f104 D n) := fun_okP X_ok hD (SP.cons (f163_ok hD n) (SP.nil)) Tryz.func104 (by kernel_rfl) (by kernel_rfl) (f104_eq D n)
attribute [local irreducible] f104

def s210 (D : Dyn) (n : Nat) : Tb := ⟨X, []⟩
def h210 : Hint := (.s .o (.s (.s .o (.cl (.s .o .o) .o)) (.s (.s .o (.cl (.s .o (.s .o .o)) .o)) (.s .o (.s .o (.s .o .o))))))
def f210 (D : Dyn) (n : Nat) := (⟨_, by conv => rhs; reduce⟩ : {g // g = fun vs H => funS (s210 D n) D n 210 Tryz.f210 h210 [] vs H}).1
theorem f210_eq (D : Dyn) (n : Nat) : f210 D n = funKp (s210 D n) D n 210 Tryz.f210 (ms h210) := by kernel_rfl
theorem f210_ok {D : Dyn} (hD : DP D) (n : Nat) : FP 210 (f210 D n) := fun_okP X_ok hD (SP.nil) Tryz.func210 (by kernel_rfl) (by kernel_rfl) (f210_eq D n)
attribute [local irreducible] f210

def s141 (D : Dyn) (n : Nat) : Tb := ⟨X, [(210, f210 D n)]⟩
def h141 : Hint := (.s .o (.s .o (.s (.s .o (.cl (.s .o .o) .o)) (.s .o (.s .o (.s (.s .o (.b [1,6] (.l [0,6,19,20] (.s .o (.s (.cr .o .o) (.s (.b0 (.s .o .o)) .o)))))) (.s .o .o)))))))
def f141l0 (D : Dyn) (n : Nat) := (⟨_, by conv => rhs; reduce⟩ : {g // some g = prtF (s141 D n) D n 141 Tryz.f141 h141 [] 0}).1
attribute [local irreducible] f141l0
def f141b1 (D : Dyn) (n : Nat) := (⟨_, by conv => rhs; reduce⟩ : {g // some g = prtF (s141 D n) D n 141 Tryz.f141 h141 [f141l0 D n] 1}).1
attribute [local irreducible] f141b1
def f141 (D : Dyn) (n : Nat) := (⟨_, by conv => rhs; reduce⟩ : {g // g = fun vs H => funS (s141 D n) D n 141 Tryz.f141 h141 [f141l0 D n, f141b1 D n] vs H}).1
theorem f141_eq (D : Dyn) (n : Nat) : f141 D n = funKp (s141 D n) D n 141 Tryz.f141 (ms h141) := by kernel_rfl
theorem f141_ok {D : Dyn} (hD : DP D) (n : Nat) : FP 141 (f141 D n) := fun_okP X_ok hD (SP.cons (f210_ok hD n) (SP.nil)) Tryz.func141 (by kernel_rfl) (by kernel_rfl) (f141_eq D n)
attribute [local irreducible] f141

def s164 (D : Dyn) (n : Nat) : Tb := ⟨X, []⟩
def h164 : Hint := (.s .o (.s .o .o))
def f164 (D : Dyn) (n : Nat) := (⟨_, by conv => rhs; reduce⟩ : {g // g = fun vs H => funS (s164 D n) D n 164 Tryz.f164 h164 [] vs H}).1
theorem f164_eq (D : Dyn) (n : Nat) : f164 D n = funKp (s164 D n) D n 164 Tryz.f164 (ms h164) := by kernel_rfl
theorem f164_ok {D : Dyn} (hD : DP D) (n : Nat) : FP 164 (f164 D n) := fun_okP X_ok hD (SP.nil) Tryz.func164 (by kernel_rfl) (by kernel_rfl) (f164_eq D n)
attribute [local irreducible] f164

def s105 (D : Dyn) (n : Nat) : Tb := ⟨X, [(141, f141 D n), (164, f164 D n)]⟩
def h105 : Hint := (.s .o (.s .o (.s .o (.s (.s .o (.cl (.s .o .o) .o)) (.s .o .o)))))
def f105 (D : Dyn) (n : Nat) := (⟨_, by conv => rhs; reduce⟩ : {g // g = fun vs H => funS (s105 D n) D n 105 Tryz.f105 h105 [] vs H}).1
theorem f105_eq (D : Dyn) (n : Nat) : f105 D n = funKp (s105 D n) D n 105 Tryz.f105 (ms h105) := by kernel_rfl
theorem f105_ok {D : Dyn} (hD : DP D) (n : Nat) : FP 105 (f105 D n) := fun_okP X_ok hD (SP.cons (f141_ok hD n) (SP.cons (f164_ok hD n) (SP.nil))) Tryz.func105 (by kernel_rfl) (by kernel_rfl) (f105_eq D n)
attribute [local irreducible] f105

def s165 (D : Dyn) (n : Nat) : Tb := ⟨X, []⟩
def h165 : Hint := (.s .o (.s (.s .o (.b [1,0] (.l [0,0,1,7,8] (.s .o (.s (.cr .o .o) (.s (.b0 (.s .o .o)) .o)))))) (.s .o .o)))
def f165l0 (D : Dyn) (n : Nat) := (⟨_, by conv => rhs; reduce⟩ : {g // some g = prtF (s165 D n) D n 165 Tryz.f165 h165 [] 0}).1
attribute [local irreducible] f165l0
def f165b1 (D : Dyn) (n : Nat) := (⟨_, by conv => rhs; reduce⟩ : {g // some g = prtF (s165 D n) D n 165 Tryz.f165 h165 [f165l0 D n] 1}).1
attribute [local irreducible] f165b1
def f165 (D : Dyn) (n : Nat) := (⟨_, by conv => rhs; reduce⟩ : {g // g = fun vs H => funS (s165 D n) D n 165 Tryz.f165 h165 [f165l0 D n, f165b1 D n] vs H}).1
theorem f165_eq (D : Dyn) (n : Nat) : f165 D n = funKp (s165 D n) D n 165 Tryz.f165 (ms h165) := by kernel_rfl
theorem f165_ok {D : Dyn} (hD : DP D) (n : Nat) : FP 165 (f165 D n) := fun_okP X_ok hD (SP.nil) Tryz.func165 (by kernel_rfl) (by kernel_rfl) (f165_eq D n)
def m165 (D : Dyn) (n : Nat) (vs : List AV) (H : AH) : Option (AV × AH) := sumK (f165 D n) vs H
theorem m165_ok {D : Dyn} (hD : DP D) (n : Nat) : FP 165 (m165 D n) := sumK_okP (F := f165 D) (by kernel_rfl) (fun n => f165_ok hD n) n
attribute [local irreducible] f165 m165

def s106 (D : Dyn) (n : Nat) : Tb := ⟨X, [(165, m165 D n)]⟩
def h106 : Hint := (.s .o (.s .o .o))
def f106 (D : Dyn) (n : Nat) := (⟨_, by conv => rhs; reduce⟩ : {g // g = fun vs H => funS (s106 D n) D n 106 Tryz.f106 h106 [] vs H}).1
theorem f106_eq (D : Dyn) (n : Nat) : f106 D n = funKp (s106 D n) D n 106 Tryz.f106 (ms h106) := by kernel_rfl
theorem f106_ok {D : Dyn} (hD : DP D) (n : Nat) : FP 106 (f106 D n) := fun_okP X_ok hD (SP.cons (m165_ok hD n) (SP.nil)) Tryz.func106 (by kernel_rfl) (by kernel_rfl) (f106_eq D n)
attribute [local irreducible] f106

def s59 (D : Dyn) (n : Nat) : Tb := ⟨X, [(103, f103 D n), (104, f104 D n), (105, f105 D n), (106, f106 D n)]⟩
def h59 : Hint := (.s .o (.s .o (.s (.s .o (.cl (.s .o .o) .o)) (.s .o (.s (.s (.c [3,7,4,15,7,127] (.l [0,1,2,5,6,3,4,7,8] .o) .o) (.cl (.s .o .o) .o)) (.s .o .o))))))
def f59 (D : Dyn) (n : Nat) := (⟨_, by conv => rhs; reduce⟩ : {g // g = fun vs H => funS (s59 D n) D n 59 Tryz.f59 h59 [] vs H}).1
theorem f59_eq (D : Dyn) (n : Nat) : f59 D n = funKp (s59 D n) D n 59 Tryz.f59 (ms h59) := by kernel_rfl
theorem f59_ok {D : Dyn} (hD : DP D) (n : Nat) : FP 59 (f59 D n) := fun_okP X_ok hD (SP.cons (f103_ok hD n) (SP.cons (f104_ok hD n) (SP.cons (f105_ok hD n) (SP.cons (f106_ok hD n) (SP.nil))))) Tryz.func59 (by kernel_rfl) (by kernel_rfl) (f59_eq D n)
attribute [local irreducible] f59

def s60 (D : Dyn) (n : Nat) : Tb := ⟨X, []⟩
def h60 : Hint := (.s .o (.s (.s .o (.cl (.s .o .o) .o)) (.s .o .o)))
def f60 (D : Dyn) (n : Nat) := (⟨_, by conv => rhs; reduce⟩ : {g // g = fun vs H => funS (s60 D n) D n 60 Tryz.f60 h60 [] vs H}).1
theorem f60_eq (D : Dyn) (n : Nat) : f60 D n = funKp (s60 D n) D n 60 Tryz.f60 (ms h60) := by kernel_rfl
theorem f60_ok {D : Dyn} (hD : DP D) (n : Nat) : FP 60 (f60 D n) := fun_okP X_ok hD (SP.nil) Tryz.func60 (by kernel_rfl) (by kernel_rfl) (f60_eq D n)
attribute [local irreducible] f60

def s34 (D : Dyn) (n : Nat) : Tb := ⟨X, [(58, f58 D n), (59, f59 D n), (60, f60 D n)]⟩
def h34 : Hint := (.s .o (.s (.s .o (.cl (.s .o .o) .o)) (.s .o (.s (.s .o (.b [2,2,4] (.l [1,0,2,4,12] (.s .o (.s (.cr .o .o) (.s (.b0 (.s .o (.s .o (.s (.s .o (.cl (.s .o .o) .o)) (.s .o (.s .o (.c [0,0,2,4,12] .o .o))))))) .o)))))) (.s (.s .o (.cl (.s .o .o) .o)) (.s .o .o))))))
def f34j0 (D : Dyn) (n : Nat) := (⟨_, by conv => rhs; reduce⟩ : {g // some g = prtF (s34 D n) D n 34 Tryz.f34 h34 [] 0}).1
attribute [local irreducible] f34j0
def f34l1 (D : Dyn) (n : Nat) := (⟨_, by conv => rhs; reduce⟩ : {g // some g = prtF (s34 D n) D n 34 Tryz.f34 h34 [f34j0 D n] 1}).1
attribute [local irreducible] f34l1
def f34b2 (D : Dyn) (n : Nat) := (⟨_, by conv => rhs; reduce⟩ : {g // some g = prtF (s34 D n) D n 34 Tryz.f34 h34 [f34j0 D n, f34l1 D n] 2}).1
attribute [local irreducible] f34b2
def f34 (D : Dyn) (n : Nat) := (⟨_, by conv => rhs; reduce⟩ : {g // g = fun vs H => funS (s34 D n) D n 34 Tryz.f34 h34 [f34j0 D n, f34l1 D n, f34b2 D n] vs H}).1
theorem f34_eq (D : Dyn) (n : Nat) : f34 D n = funKp (s34 D n) D n 34 Tryz.f34 (ms h34) := by kernel_rfl
theorem f34_ok {D : Dyn} (hD : DP D) (n : Nat) : FP 34 (f34 D n) := fun_okP X_ok hD (SP.cons (f58_ok hD n) (SP.cons (f59_ok hD n) (SP.cons (f60_ok hD n) (SP.nil)))) Tryz.func34 (by kernel_rfl) (by kernel_rfl) (f34_eq D n)
attribute [local irreducible] f34

def s166 (D : Dyn) (n : Nat) : Tb := ⟨X, []⟩
def h166 : Hint := (.s .o (.s (.s .o (.cl (.s .o .o) .o)) (.s .o .o)))
def f166 (D : Dyn) (n : Nat) := (⟨_, by conv => rhs; reduce⟩ : {g // g = fun vs H => funS (s166 D n) D n 166 Tryz.f166 h166 [] vs H}).1
theorem f166_eq (D : Dyn) (n : Nat) : f166 D n = funKp (s166 D n) D n 166 Tryz.f166 (ms h166) := by kernel_rfl
theorem f166_ok {D : Dyn} (hD : DP D) (n : Nat) : FP 166 (f166 D n) := fun_okP X_ok hD (SP.nil) Tryz.func166 (by kernel_rfl) (by kernel_rfl) (f166_eq D n)
attribute [local irreducible] f166

def s107 (D : Dyn) (n : Nat) : Tb := ⟨X, [(166, f166 D n), (167, f167 D n)]⟩
def h107 : Hint := (.s .o (.s (.s .o (.cl (.s .o .o) .o)) (.s .o (.s (.b [4,15] .o) (.s (.b [4,15] .o) (.s (.b [3,7] .o) (.s .o .o)))))))
def f107 (D : Dyn) (n : Nat) := (⟨_, by conv => rhs; reduce⟩ : {g // g = fun vs H => funS (s107 D n) D n 107 Tryz.f107 h107 [] vs H}).1
theorem f107_eq (D : Dyn) (n : Nat) : f107 D n = funKp (s107 D n) D n 107 Tryz.f107 (ms h107) := by kernel_rfl
theorem f107_ok {D : Dyn} (hD : DP D) (n : Nat) : FP 107 (f107 D n) := fun_okP X_ok hD (SP.cons (f166_ok hD n) (SP.cons (f167_ok hD n) (SP.nil))) Tryz.func107 (by kernel_rfl) (by kernel_rfl) (f107_eq D n)
attribute [local irreducible] f107

def s266 (D : Dyn) (n : Nat) : Tb := ⟨X, []⟩
def h266 : Hint := (.s .o (.s .o .o))
def f266 (D : Dyn) (n : Nat) := (⟨_, by conv => rhs; reduce⟩ : {g // g = fun vs H => funS (s266 D n) D n 266 Tryz.f266 h266 [] vs H}).1
theorem f266_eq (D : Dyn) (n : Nat) : f266 D n = funKp (s266 D n) D n 266 Tryz.f266 (ms h266) := by kernel_rfl
theorem f266_ok {D : Dyn} (hD : DP D) (n : Nat) : FP 266 (f266 D n) := fun_okP X_ok hD (SP.nil) Tryz.func266 (by kernel_rfl) (by kernel_rfl) (f266_eq D n)
attribute [local irreducible] f266

def s267 (D : Dyn) (n : Nat) : Tb := ⟨X, []⟩
def h267 : Hint := (.s .o (.s .o .o))
def f267 (D : Dyn) (n : Nat) := (⟨_, by conv => rhs; reduce⟩ : {g // g = fun vs H => funS (s267 D n) D n 267 Tryz.f267 h267 [] vs H}).1
theorem f267_eq (D : Dyn) (n : Nat) : f267 D n = funKp (s267 D n) D n 267 Tryz.f267 (ms h267) := by kernel_rfl
theorem f267_ok {D : Dyn} (hD : DP D) (n : Nat) : FP 267 (f267 D n) := fun_okP X_ok hD (SP.nil) Tryz.func267 (by kernel_rfl) (by kernel_rfl) (f267_eq D n)
attribute [local irreducible] f267

def s237 (D : Dyn) (n : Nat) : Tb := ⟨X, [(266, f266 D n), (267, f267 D n)]⟩
def h237 : Hint := (.s .o (.s .o (.s (.c [] (.l [0,2,1,3,4] .o) .o) (.s .o .o))))
def f237 (D : Dyn) (n : Nat) := (⟨_, by conv => rhs; reduce⟩ : {g // g = fun vs H => funS (s237 D n) D n 237 Tryz.f237 h237 [] vs H}).1
theorem f237_eq (D : Dyn) (n : Nat) : f237 D n = funKp (s237 D n) D n 237 Tryz.f237 (ms h237) := by kernel_rfl
theorem f237_ok {D : Dyn} (hD : DP D) (n : Nat) : FP 237 (f237 D n) := fun_okP X_ok hD (SP.cons (f266_ok hD n) (SP.cons (f267_ok hD n) (SP.nil))) Tryz.func237 (by kernel_rfl) (by kernel_rfl) (f237_eq D n)
attribute [local irreducible] f237

def s168 (D : Dyn) (n : Nat) : Tb := ⟨X, [(106, f106 D n), (237, f237 D n), (162, f162 D n)]⟩
def h168 : Hint := (.s .o (.s (.s .o (.cl (.s .o .o) .o)) (.s (.s .o (.cl (.s .o .o) .o)) (.s .o (.s .o .o)))))
def f168 (D : Dyn) (n : Nat) := (⟨_, by conv => rhs; reduce⟩ : {g // g = fun vs H => funS (s168 D n) D n 168 Tryz.f168 h168 [] vs H}).1
theorem f168_eq (D : Dyn) (n : Nat) : f168 D n = funKp (s168 D n) D n 168 Tryz.f168 (ms h168) := by kernel_rfl
theorem f168_ok {D : Dyn} (hD : DP D) (n : Nat) : FP 168 (f168 D n) := fun_okP X_ok hD (SP.cons (f106_ok hD n) (SP.cons (f237_ok hD n) (SP.cons (f162_ok hD n) (SP.nil)))) Tryz.func168 (by kernel_rfl) (by kernel_rfl) (f168_eq D n)
attribute [local irreducible] f168

def s109 (D : Dyn) (n : Nat) : Tb := ⟨X, []⟩
def h109 : Hint := (.s .o (.s (.s .o (.cl (.s .o .o) .o)) (.s .o (.s (.s .o (.cl (.s .o .o) .o)) (.s .o (.s .o .o))))))
def f109 (D : Dyn) (n : Nat) := (⟨_, by conv => rhs; reduce⟩ : {g // g = fun vs H => funS (s109 D n) D n 109 Tryz.f109 h109 [] vs H}).1
theorem f109_eq (D : Dyn) (n : Nat) : f109 D n = funKp (s109 D n) D n 109 Tryz.f109 (ms h109) := by kernel_rfl
theorem f109_ok {D : Dyn} (hD : DP D) (n : Nat) : FP 109 (f109 D n) := fun_okP X_ok hD (SP.nil) Tryz.func109 (by kernel_rfl) (by kernel_rfl) (f109_eq D n)
attribute [local irreducible] f109

def s169 (D : Dyn) (n : Nat) : Tb := ⟨X, [(102, f102 D n), (109, f109 D n)]⟩
def h169 : Hint := (.s .o (.s (.s .o (.s .o (.cl (.s .o .o) .o))) (.s (.b [10,1023] .o) (.s (.b [9,510,12,4095] .o) (.s .o .o)))))
def f169 (D : Dyn) (n : Nat) := (⟨_, by conv => rhs; reduce⟩ : {g // g = fun vs H => funS (s169 D n) D n 169 Tryz.f169 h169 [] vs H}).1
theorem f169_eq (D : Dyn) (n : Nat) : f169 D n = funKp (s169 D n) D n 169 Tryz.f169 (ms h169) := by kernel_rfl
theorem f169_ok {D : Dyn} (hD : DP D) (n : Nat) : FP 169 (f169 D n) := fun_okP X_ok hD (SP.cons (f102_ok hD n) (SP.cons (f109_ok hD n) (SP.nil))) Tryz.func169 (by kernel_rfl) (by kernel_rfl) (f169_eq D n)
attribute [local irreducible] f169

def s108 (D : Dyn) (n : Nat) : Tb := ⟨X, [(168, f168 D n), (60, f60 D n), (169, f169 D n)]⟩
def h108 : Hint := (.s .o (.s (.s .o (.cl (.s .o .o) .o)) (.s .o (.s (.s .o (.cl (.s .o .o) .o)) (.s (.c [3,6,5,31] (.l [0,1,2,4,3,5,6] .o) .o) .o)))))
def f108 (D : Dyn) (n : Nat) := (⟨_, by conv => rhs; reduce⟩ : {g // g = fun vs H => funS (s108 D n) D n 108 Tryz.f108 h108 [] vs H}).1
theorem f108_eq (D : Dyn) (n : Nat) : f108 D n = funKp (s108 D n) D n 108 Tryz.f108 (ms h108) := by kernel_rfl
theorem f108_ok {D : Dyn} (hD : DP D) (n : Nat) : FP 108 (f108 D n) := fun_okP X_ok hD (SP.cons (f168_ok hD n) (SP.cons (f60_ok hD n) (SP.cons (f169_ok hD n) (SP.nil)))) Tryz.func108 (by kernel_rfl) (by kernel_rfl) (f108_eq D n)
attribute [local irreducible] f108

def s61 (D : Dyn) (n : Nat) : Tb := ⟨X, [(107, f107 D n), (108, f108 D n)]⟩
def h61 : Hint := (.s .o (.s .o (.s (.s .o (.cl (.s .o .o) .o)) (.s .o .o))))
def f61 (D : Dyn) (n : Nat) := (⟨_, by conv => rhs; reduce⟩ : {g // g = fun vs H => funS (s61 D n) D n 61 Tryz.f61 h61 [] vs H}).1
theorem f61_eq (D : Dyn) (n : Nat) : f61 D n = funKp (s61 D n) D n 61 Tryz.f61 (ms h61) := by kernel_rfl
theorem f61_ok {D : Dyn} (hD : DP D) (n : Nat) : FP 61 (f61 D n) := fun_okP X_ok hD (SP.cons (f107_ok hD n) (SP.cons (f108_ok hD n) (SP.nil))) Tryz.func61 (by kernel_rfl) (by kernel_rfl) (f61_eq D n)
attribute [local irreducible] f61

def s110 (D : Dyn) (n : Nat) : Tb := ⟨X, []⟩
def h110 : Hint := (.s .o .o)
def f110 (D : Dyn) (n : Nat) := (⟨_, by conv => rhs; reduce⟩ : {g // g = fun vs H => funS (s110 D n) D n 110 Tryz.f110 h110 [] vs H}).1
theorem f110_eq (D : Dyn) (n : Nat) : f110 D n = funKp (s110 D n) D n 110 Tryz.f110 (ms h110) := by kernel_rfl
theorem f110_ok {D : Dyn} (hD : DP D) (n : Nat) : FP 110 (f110 D n) := fun_okP X_ok hD (SP.nil) Tryz.func110 (by kernel_rfl) (by kernel_rfl) (f110_eq D n)
attribute [local irreducible] f110

def s62 (D : Dyn) (n : Nat) : Tb := ⟨X, [(98, f98 D n), (109, f109 D n), (110, f110 D n)]⟩
def h62 : Hint := (.s .o (.s (.s .o (.s .o (.cl (.s .o .o) .o))) (.s (.s .o (.s .o (.cl (.s .o .o) .o))) (.s (.s .o (.b [1,0] (.l [0,0,20,21,22] (.s .o (.s (.cr .o .o) (.s (.b0 (.s .o (.b [8,255] .o))) .o)))))) (.s .o (.s .o .o))))))
def f62l0 (D : Dyn) (n : Nat) := (⟨_, by conv => rhs; reduce⟩ : {g // some g = prtF (s62 D n) D n 62 Tryz.f62 h62 [] 0}).1
attribute [local irreducible] f62l0
def f62b1 (D : Dyn) (n : Nat) := (⟨_, by conv => rhs; reduce⟩ : {g // some g = prtF (s62 D n) D n 62 Tryz.f62 h62 [f62l0 D n] 1}).1
attribute [local irreducible] f62b1
def f62 (D : Dyn) (n : Nat) := (⟨_, by conv => rhs; reduce⟩ : {g // g = fun vs H => funS (s62 D n) D n 62 Tryz.f62 h62 [f62l0 D n, f62b1 D n] vs H}).1
theorem f62_eq (D : Dyn) (n : Nat) : f62 D n = funKp (s62 D n) D n 62 Tryz.f62 (ms h62) := by kernel_rfl
theorem f62_ok {D : Dyn} (hD : DP D) (n : Nat) : FP 62 (f62 D n) := fun_okP X_ok hD (SP.cons (f98_ok hD n) (SP.cons (f109_ok hD n) (SP.cons (f110_ok hD n) (SP.nil)))) Tryz.func62 (by kernel_rfl) (by kernel_rfl) (f62_eq D n)
attribute [local irreducible] f62

def s35 (D : Dyn) (n : Nat) : Tb := ⟨X, [(61, f61 D n), (62, f62 D n)]⟩
def h35 : Hint := (.s .o (.s (.s .o (.cl (.s .o .o) .o)) (.s (.s .o (.s .o (.cl (.s .o .o) .o))) (.s .o .o))))
def f35 (D : Dyn) (n : Nat) := (⟨_, by conv => rhs; reduce⟩ : {g // g = fun vs H => funS (s35 D n) D n 35 Tryz.f35 h35 [] vs H}).1
theorem f35_eq (D : Dyn) (n : Nat) : f35 D n = funKp (s35 D n) D n 35 Tryz.f35 (ms h35) := by kernel_rfl
theorem f35_ok {D : Dyn} (hD : DP D) (n : Nat) : FP 35 (f35 D n) := fun_okP X_ok hD (SP.cons (f61_ok hD n) (SP.cons (f62_ok hD n) (SP.nil))) Tryz.func35 (by kernel_rfl) (by kernel_rfl) (f35_eq D n)
attribute [local irreducible] f35

def s111 (D : Dyn) (n : Nat) : Tb := ⟨X, [(161, f161 D n), (166, f166 D n)]⟩
def h111 : Hint := (.s .o (.s (.s .o (.cl (.s .o .o) .o)) (.s .o (.s (.c [] (.l [0,3,6,9,1,2,4,5,7,8,10] .o) .o) (.s (.s .o (.cl (.s .o .o) .o)) (.s .o .o))))))
def f111 (D : Dyn) (n : Nat) := (⟨_, by conv => rhs; reduce⟩ : {g // g = fun vs H => funS (s111 D n) D n 111 Tryz.f111 h111 [] vs H}).1
theorem f111_eq (D : Dyn) (n : Nat) : f111 D n = funKp (s111 D n) D n 111 Tryz.f111 (ms h111) := by kernel_rfl
theorem f111_ok {D : Dyn} (hD : DP D) (n : Nat) : FP 111 (f111 D n) := fun_okP X_ok hD (SP.cons (f161_ok hD n) (SP.cons (f166_ok hD n) (SP.nil))) Tryz.func111 (by kernel_rfl) (by kernel_rfl) (f111_eq D n)
attribute [local irreducible] f111

def s112 (D : Dyn) (n : Nat) : Tb := ⟨X, []⟩
def h112 : Hint := (.s .o (.s (.s .o (.cl (.s .o .o) .o)) (.s .o .o)))
def f112 (D : Dyn) (n : Nat) := (⟨_, by conv => rhs; reduce⟩ : {g // g = fun vs H => funS (s112 D n) D n 112 Tryz.f112 h112 [] vs H}).1
theorem f112_eq (D : Dyn) (n : Nat) : f112 D n = funKp (s112 D n) D n 112 Tryz.f112 (ms h112) := by kernel_rfl
theorem f112_ok {D : Dyn} (hD : DP D) (n : Nat) : FP 112 (f112 D n) := fun_okP X_ok hD (SP.nil) Tryz.func112 (by kernel_rfl) (by kernel_rfl) (f112_eq D n)
attribute [local irreducible] f112

def s114 (D : Dyn) (n : Nat) : Tb := ⟨X, []⟩
def h114 : Hint := (.s .o (.s (.s .o (.cl (.s .o .o) .o)) (.s .o .o)))
def f114 (D : Dyn) (n : Nat) := (⟨_, by conv => rhs; reduce⟩ : {g // g = fun vs H => funS (s114 D n) D n 114 Tryz.f114 h114 [] vs H}).1
theorem f114_eq (D : Dyn) (n : Nat) : f114 D n = funKp (s114 D n) D n 114 Tryz.f114 (ms h114) := by kernel_rfl
theorem f114_ok {D : Dyn} (hD : DP D) (n : Nat) : FP 114 (f114 D n) := fun_okP X_ok hD (SP.nil) Tryz.func114 (by kernel_rfl) (by kernel_rfl) (f114_eq D n)
attribute [local irreducible] f114

def s170 (D : Dyn) (n : Nat) : Tb := ⟨X, []⟩
def h170 : Hint := (.s (.b [15,32767] .o) (.s (.b [10,1023] .o) .o))
def f170 (D : Dyn) (n : Nat) := (⟨_, by conv => rhs; reduce⟩ : {g // g = fun vs H => funS (s170 D n) D n 170 Tryz.f170 h170 [] vs H}).1
theorem f170_eq (D : Dyn) (n : Nat) : f170 D n = funKp (s170 D n) D n 170 Tryz.f170 (ms h170) := by kernel_rfl
theorem f170_ok {D : Dyn} (hD : DP D) (n : Nat) : FP 170 (f170 D n) := fun_okP X_ok hD (SP.nil) Tryz.func170 (by kernel_rfl) (by kernel_rfl) (f170_eq D n)
attribute [local irreducible] f170

def s113 (D : Dyn) (n : Nat) : Tb := ⟨X, [(170, f170 D n)]⟩
def h113 : Hint := (.s .o (.s (.s .o (.cl (.s .o .o) .o)) (.s .o (.s .o (.s (.s .o (.b [1,4] (.l [0,4,20] (.s .o (.s (.cr .o .o) (.s (.b0 (.s .o .o)) .o)))))) (.s .o .o))))))
def f113l0 (D : Dyn) (n : Nat) := (⟨_, by conv => rhs; reduce⟩ : {g // some g = prtF (s113 D n) D n 113 Tryz.f113 h113 [] 0}).1
attribute [local irreducible] f113l0
def f113b1 (D : Dyn) (n : Nat) := (⟨_, by conv => rhs; reduce⟩ : {g // some g = prtF (s113 D n) D n 113 Tryz.f113 h113 [f113l0 D n] 1}).1
attribute [local irreducible] f113b1
def f113 (D : Dyn) (n : Nat) := (⟨_, by conv => rhs; reduce⟩ : {g // g = fun vs H => funS (s113 D n) D n 113 Tryz.f113 h113 [f113l0 D n, f113b1 D n] vs H}).1
theorem f113_eq (D : Dyn) (n : Nat) : f113 D n = funKp (s113 D n) D n 113 Tryz.f113 (ms h113) := by kernel_rfl
theorem f113_ok {D : Dyn} (hD : DP D) (n : Nat) : FP 113 (f113 D n) := fun_okP X_ok hD (SP.cons (f170_ok hD n) (SP.nil)) Tryz.func113 (by kernel_rfl) (by kernel_rfl) (f113_eq D n)
attribute [local irreducible] f113

def s115 (D : Dyn) (n : Nat) : Tb := ⟨X, [(107, f107 D n)]⟩
def h115 : Hint := (.s .o (.s (.s .o (.cl (.s .o .o) .o)) (.s (.s .o (.s .o (.cl (.s .o .o) .o))) (.s .o .o))))
def f115 (D : Dyn) (n : Nat) := (⟨_, by conv => rhs; reduce⟩ : {g // g = fun vs H => funS (s115 D n) D n 115 Tryz.f115 h115 [] vs H}).1
theorem f115_eq (D : Dyn) (n : Nat) : f115 D n = funKp (s115 D n) D n 115 Tryz.f115 (ms h115) := by kernel_rfl
theorem f115_ok {D : Dyn} (hD : DP D) (n : Nat) : FP 115 (f115 D n) := fun_okP X_ok hD (SP.cons (f107_ok hD n) (SP.nil)) Tryz.func115 (by kernel_rfl) (by kernel_rfl) (f115_eq D n)
attribute [local irreducible] f115

def s240 (D : Dyn) (n : Nat) : Tb := ⟨X, []⟩
def h240 : Hint := (.s .o (.s .o .o))
def f240 (D : Dyn) (n : Nat) := (⟨_, by conv => rhs; reduce⟩ : {g // g = fun vs H => funS (s240 D n) D n 240 Tryz.f240 h240 [] vs H}).1
theorem f240_eq (D : Dyn) (n : Nat) : f240 D n = funKp (s240 D n) D n 240 Tryz.f240 (ms h240) := by kernel_rfl
theorem f240_ok {D : Dyn} (hD : DP D) (n : Nat) : FP 240 (f240 D n) := fun_okP X_ok hD (SP.nil) Tryz.func240 (by kernel_rfl) (by kernel_rfl) (f240_eq D n)
attribute [local irreducible] f240

def s369 (D : Dyn) (n : Nat) : Tb := ⟨X, []⟩
def h369 : Hint := (.s .o (.s .o .o))
def f369 (D : Dyn) (n : Nat) := (⟨_, by conv => rhs; reduce⟩ : {g // g = fun vs H => funS (s369 D n) D n 369 Tryz.f369 h369 [] vs H}).1
theorem f369_eq (D : Dyn) (n : Nat) : f369 D n = funKp (s369 D n) D n 369 Tryz.f369 (ms h369) := by kernel_rfl
theorem f369_ok {D : Dyn} (hD : DP D) (n : Nat) : FP 369 (f369 D n) := fun_okP X_ok hD (SP.nil) Tryz.func369 (by kernel_rfl) (by kernel_rfl) (f369_eq D n)
attribute [local irreducible] f369

def s422 (D : Dyn) (n : Nat) : Tb := ⟨X, []⟩
def h422 : Hint := (.s .o (.s .o .o))
def f422 (D : Dyn) (n : Nat) := (⟨_, by conv => rhs; reduce⟩ : {g // g = fun vs H => funS (s422 D n) D n 422 Tryz.f422 h422 [] vs H}).1
theorem f422_eq (D : Dyn) (n : Nat) : f422 D n = funKp (s422 D n) D n 422 Tryz.f422 (ms h422) := by kernel_rfl
theorem f422_ok {D : Dyn} (hD : DP D) (n : Nat) : FP 422 (f422 D n) := fun_okP X_ok hD (SP.nil) Tryz.func422 (by kernel_rfl) (by kernel_rfl) (f422_eq D n)
attribute [local irreducible] f422

def s425 (D : Dyn) (n : Nat) : Tb := ⟨X, []⟩
def h425 : Hint := (.s .o (.s .o (.s .o (.s (.s .o (.c [0,2,6] .o .o)) (.s .o .o)))))
def f425j0 (D : Dyn) (n : Nat) := (⟨_, by conv => rhs; reduce⟩ : {g // some g = prtF (s425 D n) D n 425 Tryz.f425 h425 [] 0}).1
attribute [local irreducible] f425j0
def f425 (D : Dyn) (n : Nat) := (⟨_, by conv => rhs; reduce⟩ : {g // g = fun vs H => funS (s425 D n) D n 425 Tryz.f425 h425 [f425j0 D n] vs H}).1
theorem f425_eq (D : Dyn) (n : Nat) : f425 D n = funKp (s425 D n) D n 425 Tryz.f425 (ms h425) := by kernel_rfl
theorem f425_ok {D : Dyn} (hD : DP D) (n : Nat) : FP 425 (f425 D n) := fun_okP X_ok hD (SP.nil) Tryz.func425 (by kernel_rfl) (by kernel_rfl) (f425_eq D n)
attribute [local irreducible] f425

def s421 (D : Dyn) (n : Nat) : Tb := ⟨X, [(422, f422 D n), (425, f425 D n)]⟩
def h421 : Hint := (.s (.c [] (.l [0,1,2,4,5,6,3,7,8,9] .o) .o) (.s (.c [] (.l [0,1,2,4,5,6,3,7,8,9] .o) .o) (.s (.s .o (.b0 (.s .o (.c [3,0,1,2] (.s .o (.c [0,0,1,2] (.s .o .o) .o)) (.s .o (.c [2,0,1,2] (.s (.s .o (.c [1,0,1,2] .o .o)) .o) .o)))))) (.s .o (.s .o .o)))))
def f421j0 (D : Dyn) (n : Nat) := (⟨_, by conv => rhs; reduce⟩ : {g // some g = prtF (s421 D n) D n 421 Tryz.f421 h421 [] 0}).1
attribute [local irreducible] f421j0
def f421j1 (D : Dyn) (n : Nat) := (⟨_, by conv => rhs; reduce⟩ : {g // some g = prtF (s421 D n) D n 421 Tryz.f421 h421 [f421j0 D n] 1}).1
attribute [local irreducible] f421j1
def f421j2 (D : Dyn) (n : Nat) := (⟨_, by conv => rhs; reduce⟩ : {g // some g = prtF (s421 D n) D n 421 Tryz.f421 h421 [f421j0 D n, f421j1 D n] 2}).1
attribute [local irreducible] f421j2
def f421j3 (D : Dyn) (n : Nat) := (⟨_, by conv => rhs; reduce⟩ : {g // some g = prtF (s421 D n) D n 421 Tryz.f421 h421 [f421j0 D n, f421j1 D n, f421j2 D n] 3}).1
attribute [local irreducible] f421j3
def f421 (D : Dyn) (n : Nat) := (⟨_, by conv => rhs; reduce⟩ : {g // g = fun vs H => funS (s421 D n) D n 421 Tryz.f421 h421 [f421j0 D n, f421j1 D n, f421j2 D n, f421j3 D n] vs H}).1
theorem f421_eq (D : Dyn) (n : Nat) : f421 D n = funKp (s421 D n) D n 421 Tryz.f421 (ms h421) := by kernel_rfl
theorem f421_ok {D : Dyn} (hD : DP D) (n : Nat) : FP 421 (f421 D n) := fun_okP X_ok hD (SP.cons (f422_ok hD n) (SP.cons (f425_ok hD n) (SP.nil))) Tryz.func421 (by kernel_rfl) (by kernel_rfl) (f421_eq D n)
attribute [local irreducible] f421

def s424 (D : Dyn) (n : Nat) : Tb := ⟨X, []⟩
def h424 : Hint := (.s (.b [] .o) (.s (.s .o (.c [1,1,4] .o (.b [10,1023] .o))) (.s (.s .o (.c [0,1,4] .o (.b [10,1023] .o))) (.s .o .o))))
def f424j0 (D : Dyn) (n : Nat) := (⟨_, by conv => rhs; reduce⟩ : {g // some g = prtF (s424 D n) D n 424 Tryz.f424 h424 [] 0}).1
attribute [local irreducible] f424j0
def f424j1 (D : Dyn) (n : Nat) := (⟨_, by conv => rhs; reduce⟩ : {g // some g = prtF (s424 D n) D n 424 Tryz.f424 h424 [f424j0 D n] 1}).1
attribute [local irreducible] f424j1
def f424 (D : Dyn) (n : Nat) := (⟨_, by conv => rhs; reduce⟩ : {g // g = fun vs H => funS (s424 D n) D n 424 Tryz.f424 h424 [f424j0 D n, f424j1 D n] vs H}).1
theorem f424_eq (D : Dyn) (n : Nat) : f424 D n = funKp (s424 D n) D n 424 Tryz.f424 (ms h424) := by kernel_rfl
theorem f424_ok {D : Dyn} (hD : DP D) (n : Nat) : FP 424 (f424 D n) := fun_okP X_ok hD (SP.nil) Tryz.func424 (by kernel_rfl) (by kernel_rfl) (f424_eq D n)
attribute [local irreducible] f424

def s370 (D : Dyn) (n : Nat) : Tb := ⟨X, [(421, f421 D n), (422, f422 D n), (424, f424 D n), (425, f425 D n)]⟩
def h370 : Hint := (.s .o (.s (.s .o (.cl (.s .o .o) .o)) (.s (.s .o (.b0 (.s .o (.c [1,0,2,6] (.s (.c [] (.l [0,1,2,4,5,6,3,7,8,9,10] .o) .o) (.s (.b [14,16383] .o) .o)) (.s .o (.c [0,0,2,6] (.s (.c [] (.l [0,1,2,4,5,6,3,7,8,9,10] .o) .o) (.s .o .o)) .o)))))) (.s .o (.s .o .o)))))
def f370j0 (D : Dyn) (n : Nat) := (⟨_, by conv => rhs; reduce⟩ : {g // some g = prtF (s370 D n) D n 370 Tryz.f370 h370 [] 0}).1
attribute [local irreducible] f370j0
def f370j1 (D : Dyn) (n : Nat) := (⟨_, by conv => rhs; reduce⟩ : {g // some g = prtF (s370 D n) D n 370 Tryz.f370 h370 [f370j0 D n] 1}).1
attribute [local irreducible] f370j1
def f370 (D : Dyn) (n : Nat) := (⟨_, by conv => rhs; reduce⟩ : {g // g = fun vs H => funS (s370 D n) D n 370 Tryz.f370 h370 [f370j0 D n, f370j1 D n] vs H}).1
theorem f370_eq (D : Dyn) (n : Nat) : f370 D n = funKp (s370 D n) D n 370 Tryz.f370 (ms h370) := by kernel_rfl
theorem f370_ok {D : Dyn} (hD : DP D) (n : Nat) : FP 370 (f370 D n) := fun_okP X_ok hD (SP.cons (f421_ok hD n) (SP.cons (f422_ok hD n) (SP.cons (f424_ok hD n) (SP.cons (f425_ok hD n) (SP.nil))))) Tryz.func370 (by kernel_rfl) (by kernel_rfl) (f370_eq D n)
attribute [local irreducible] f370

def s350 (D : Dyn) (n : Nat) : Tb := ⟨X, [(369, f369 D n), (370, f370 D n)]⟩
def h350 : Hint := (.s .o (.s (.s .o (.cl (.s .o .o) .o)) (.s .o (.s (.s .o (.cl (.s .o .o) .o)) (.s .o (.s .o .o))))))
def f350 (D : Dyn) (n : Nat) := (⟨_, by conv => rhs; reduce⟩ : {g // g = fun vs H => funS (s350 D n) D n 350 Tryz.f350 h350 [] vs H}).1
theorem f350_eq (D : Dyn) (n : Nat) : f350 D n = funKp (s350 D n) D n 350 Tryz.f350 (ms h350) := by kernel_rfl
theorem f350_ok {D : Dyn} (hD : DP D) (n : Nat) : FP 350 (f350 D n) := fun_okP X_ok hD (SP.cons (f369_ok hD n) (SP.cons (f370_ok hD n) (SP.nil))) Tryz.func350 (by kernel_rfl) (by kernel_rfl) (f350_eq D n)
attribute [local irreducible] f350

def s407 (D : Dyn) (n : Nat) : Tb := ⟨X, [(106, f106 D n)]⟩
def h407 : Hint := (.s .o (.s .o .o))
def f407 (D : Dyn) (n : Nat) := (⟨_, by conv => rhs; reduce⟩ : {g // g = fun vs H => funS (s407 D n) D n 407 Tryz.f407 h407 [] vs H}).1
theorem f407_eq (D : Dyn) (n : Nat) : f407 D n = funKp (s407 D n) D n 407 Tryz.f407 (ms h407) := by kernel_rfl
theorem f407_ok {D : Dyn} (hD : DP D) (n : Nat) : FP 407 (f407 D n) := fun_okP X_ok hD (SP.cons (f106_ok hD n) (SP.nil)) Tryz.func407 (by kernel_rfl) (by kernel_rfl) (f407_eq D n)
attribute [local irreducible] f407

def s351 (D : Dyn) (n : Nat) : Tb := ⟨X, [(407, f407 D n), (103, f103 D n)]⟩
def h351 : Hint := (.s .o (.s (.s (.c [5,31] (.l [0,1,2,3,4,6,7,5,8,9] .o) .o) (.cl (.s .o .o) .o)) (.s .o (.s (.s .o (.cl (.s .o .o) .o)) (.s (.s .o (.cl (.s .o .o) .o)) (.s .o .o))))))
def f351 (D : Dyn) (n : Nat) := (⟨_, by conv => rhs; reduce⟩ : {g // g = fun vs H => funS (s351 D n) D n 351 Tryz.f351 h351 [] vs H}).1
theorem f351_eq (D : Dyn) (n : Nat) : f351 D n = funKp (s351 D n) D n 351 Tryz.f351 (ms h351) := by kernel_rfl
theorem f351_ok {D : Dyn} (hD : DP D) (n : Nat) : FP 351 (f351 D n) := fun_okP X_ok hD (SP.cons (f407_ok hD n) (SP.cons (f103_ok hD n) (SP.nil))) Tryz.func351 (by kernel_rfl) (by kernel_rfl) (f351_eq D n)
attribute [local irreducible] f351

def s318 (D : Dyn) (n : Nat) : Tb := ⟨X, [(369, f369 D n), (370, f370 D n)]⟩
def h318 : Hint := (.s .o (.s (.s .o (.cl (.s .o .o) .o)) (.s .o (.s .o .o))))
def f318 (D : Dyn) (n : Nat) := (⟨_, by conv => rhs; reduce⟩ : {g // g = fun vs H => funS (s318 D n) D n 318 Tryz.f318 h318 [] vs H}).1
theorem f318_eq (D : Dyn) (n : Nat) : f318 D n = funKp (s318 D n) D n 318 Tryz.f318 (ms h318) := by kernel_rfl
theorem f318_ok {D : Dyn} (hD : DP D) (n : Nat) : FP 318 (f318 D n) := fun_okP X_ok hD (SP.cons (f369_ok hD n) (SP.cons (f370_ok hD n) (SP.nil))) Tryz.func318 (by kernel_rfl) (by kernel_rfl) (f318_eq D n)
attribute [local irreducible] f318

def s300 (D : Dyn) (n : Nat) : Tb := ⟨X, [(350, f350 D n), (351, f351 D n), (58, f58 D n), (318, f318 D n)]⟩
def h300 : Hint := (.s .o (.s (.s .o (.c [2,0,3] (.s (.c [6,63,11,1535] (.l [0,1,2,3,4,5,10,6,7,8,9,11,12] .o) .o) (.s .o (.c [0,0,3] (.s .o (.s .o (.cl (.s .o .o) .o))) .o))) .o)) (.s (.c [6,63,11,1535] (.l [0,1,2,3,4,5,10,6,7,8,9,11,12] .o) .o) (.s (.s .o (.cl (.s .o .o) .o)) (.s .o (.s (.s .o (.cl (.s .o .o) .o)) (.s (.s .o (.c [1,14,15] (.b [7,127] .o) .o)) (.s .o .o))))))))
def f300j0 (D : Dyn) (n : Nat) := (⟨_, by conv => rhs; reduce⟩ : {g // some g = prtF (s300 D n) D n 300 Tryz.f300 h300 [] 0}).1
attribute [local irreducible] f300j0
def f300j1 (D : Dyn) (n : Nat) := (⟨_, by conv => rhs; reduce⟩ : {g // some g = prtF (s300 D n) D n 300 Tryz.f300 h300 [f300j0 D n] 1}).1
attribute [local irreducible] f300j1
def f300j2 (D : Dyn) (n : Nat) := (⟨_, by conv => rhs; reduce⟩ : {g // some g = prtF (s300 D n) D n 300 Tryz.f300 h300 [f300j0 D n, f300j1 D n] 2}).1
attribute [local irreducible] f300j2
def f300 (D : Dyn) (n : Nat) := (⟨_, by conv => rhs; reduce⟩ : {g // g = fun vs H => funS (s300 D n) D n 300 Tryz.f300 h300 [f300j0 D n, f300j1 D n, f300j2 D n] vs H}).1
theorem f300_eq (D : Dyn) (n : Nat) : f300 D n = funKp (s300 D n) D n 300 Tryz.f300 (ms h300) := by kernel_rfl
theorem f300_ok {D : Dyn} (hD : DP D) (n : Nat) : FP 300 (f300 D n) := fun_okP X_ok hD (SP.cons (f350_ok hD n) (SP.cons (f351_ok hD n) (SP.cons (f58_ok hD n) (SP.cons (f318_ok hD n) (SP.nil))))) Tryz.func300 (by kernel_rfl) (by kernel_rfl) (f300_eq D n)
attribute [local irreducible] f300

def s352 (D : Dyn) (n : Nat) : Tb := ⟨X, []⟩
def h352 : Hint := (.s .o (.s (.s .o (.cl (.s .o (.s .o .o)) .o)) (.s .o (.s .o (.s .o .o)))))
def f352 (D : Dyn) (n : Nat) := (⟨_, by conv => rhs; reduce⟩ : {g // g = fun vs H => funS (s352 D n) D n 352 Tryz.f352 h352 [] vs H}).1
theorem f352_eq (D : Dyn) (n : Nat) : f352 D n = funKp (s352 D n) D n 352 Tryz.f352 (ms h352) := by kernel_rfl
theorem f352_ok {D : Dyn} (hD : DP D) (n : Nat) : FP 352 (f352 D n) := fun_okP X_ok hD (SP.nil) Tryz.func352 (by kernel_rfl) (by kernel_rfl) (f352_eq D n)
attribute [local irreducible] f352

def s365 (D : Dyn) (n : Nat) : Tb := ⟨X, []⟩
def h365 : Hint := (.s .o (.s .o .o))
def f365 (D : Dyn) (n : Nat) := (⟨_, by conv => rhs; reduce⟩ : {g // g = fun vs H => funS (s365 D n) D n 365 Tryz.f365 h365 [] vs H}).1
theorem f365_eq (D : Dyn) (n : Nat) : f365 D n = funKp (s365 D n) D n 365 Tryz.f365 (ms h365) := by kernel_rfl
theorem f365_ok {D : Dyn} (hD : DP D) (n : Nat) : FP 365 (f365 D n) := fun_okP X_ok hD (SP.nil) Tryz.func365 (by kernel_rfl) (by kernel_rfl) (f365_eq D n)
attribute [local irreducible] f365

def s364 (D : Dyn) (n : Nat) : Tb := ⟨X, [(365, f365 D n)]⟩
def h364 : Hint := (.s .o (.s (.s .o (.b [5,1] (.l [0,1,10,11,12] (.s .o (.s (.cr .o .o) (.s (.b0 (.s .o (.s .o (.cl (.s .o .o) .o)))) .o)))))) (.s (.s .o (.cl (.s (.s .o (.cl (.s .o .o) .o)) (.s (.s .o (.b [2] (.l [1,51,52,53] (.s .o (.s (.cr .o .o) (.s (.b0 (.s .o (.s .o (.cl (.s .o .o) .o)))) .o)))))) (.s .o .o))) .o)) (.s (.s .o (.cl (.s .o .o) .o)) (.s (.s .o (.b [4] (.l [3,82,83,84] (.s .o (.s (.cr .o .o) (.s (.b0 (.s .o (.s .o (.cl (.s .o .o) .o)))) .o)))))) (.s .o .o))))))
def f364l0 (D : Dyn) (n : Nat) := (⟨_, by conv => rhs; reduce⟩ : {g // some g = prtF (s364 D n) D n 364 Tryz.f364 h364 [] 0}).1
attribute [local irreducible] f364l0
def f364l1 (D : Dyn) (n : Nat) := (⟨_, by conv => rhs; reduce⟩ : {g // some g = prtF (s364 D n) D n 364 Tryz.f364 h364 [f364l0 D n] 1}).1
attribute [local irreducible] f364l1
def f364b2 (D : Dyn) (n : Nat) := (⟨_, by conv => rhs; reduce⟩ : {g // some g = prtF (s364 D n) D n 364 Tryz.f364 h364 [f364l0 D n, f364l1 D n] 2}).1
attribute [local irreducible] f364b2
def f364l3 (D : Dyn) (n : Nat) := (⟨_, by conv => rhs; reduce⟩ : {g // some g = prtF (s364 D n) D n 364 Tryz.f364 h364 [f364l0 D n, f364l1 D n, f364b2 D n] 3}).1
attribute [local irreducible] f364l3
def f364b4 (D : Dyn) (n : Nat) := (⟨_, by conv => rhs; reduce⟩ : {g // some g = prtF (s364 D n) D n 364 Tryz.f364 h364 [f364l0 D n, f364l1 D n, f364b2 D n, f364l3 D n] 4}).1
attribute [local irreducible] f364b4
def f364b5 (D : Dyn) (n : Nat) := (⟨_, by conv => rhs; reduce⟩ : {g // some g = prtF (s364 D n) D n 364 Tryz.f364 h364 [f364l0 D n, f364l1 D n, f364b2 D n, f364l3 D n, f364b4 D n] 5}).1
attribute [local irreducible] f364b5
def f364 (D : Dyn) (n : Nat) := (⟨_, by conv => rhs; reduce⟩ : {g // g = fun vs H => funS (s364 D n) D n 364 Tryz.f364 h364 [f364l0 D n, f364l1 D n, f364b2 D n, f364l3 D n, f364b4 D n, f364b5 D n] vs H}).1
theorem f364_eq (D : Dyn) (n : Nat) : f364 D n = funKp (s364 D n) D n 364 Tryz.f364 (ms h364) := by kernel_rfl
theorem f364_ok {D : Dyn} (hD : DP D) (n : Nat) : FP 364 (f364 D n) := fun_okP X_ok hD (SP.cons (f365_ok hD n) (SP.nil)) Tryz.func364 (by kernel_rfl) (by kernel_rfl) (f364_eq D n)
attribute [local irreducible] f364

def s409 (D : Dyn) (n : Nat) : Tb := ⟨X, []⟩
def h409 : Hint := (.s .o (.s .o (.s (.s .o (.b [3,1,3] (.l [0,1,3,14,15,16] (.s .o (.s (.cr .o .o) (.s (.b0 (.s .o .o)) .o)))))) (.s (.s .o (.b [2,3] (.l [1,3,27,28,29] (.s .o (.s (.cr .o .o) (.s (.b0 (.s .o .o)) .o)))))) (.s .o .o)))))
def f409l0 (D : Dyn) (n : Nat) := (⟨_, by conv => rhs; reduce⟩ : {g // some g = prtF (s409 D n) D n 409 Tryz.f409 h409 [] 0}).1
attribute [local irreducible] f409l0
def f409l1 (D : Dyn) (n : Nat) := (⟨_, by conv => rhs; reduce⟩ : {g // some g = prtF (s409 D n) D n 409 Tryz.f409 h409 [f409l0 D n] 1}).1
attribute [local irreducible] f409l1
def f409b2 (D : Dyn) (n : Nat) := (⟨_, by conv => rhs; reduce⟩ : {g // some g = prtF (s409 D n) D n 409 Tryz.f409 h409 [f409l0 D n, f409l1 D n] 2}).1
attribute [local irreducible] f409b2
def f409b3 (D : Dyn) (n : Nat) := (⟨_, by conv => rhs; reduce⟩ : {g // some g = prtF (s409 D n) D n 409 Tryz.f409 h409 [f409l0 D n, f409l1 D n, f409b2 D n] 3}).1
attribute [local irreducible] f409b3
def f409 (D : Dyn) (n : Nat) := (⟨_, by conv => rhs; reduce⟩ : {g // g = fun vs H => funS (s409 D n) D n 409 Tryz.f409 h409 [f409l0 D n, f409l1 D n, f409b2 D n, f409b3 D n] vs H}).1
theorem f409_eq (D : Dyn) (n : Nat) : f409 D n = funKp (s409 D n) D n 409 Tryz.f409 (ms h409) := by kernel_rfl
theorem f409_ok {D : Dyn} (hD : DP D) (n : Nat) : FP 409 (f409 D n) := fun_okP X_ok hD (SP.nil) Tryz.func409 (by kernel_rfl) (by kernel_rfl) (f409_eq D n)
attribute [local irreducible] f409

def s356 (D : Dyn) (n : Nat) : Tb := ⟨X, [(364, f364 D n), (409, f409 D n)]⟩
def h356 : Hint := (.s .o (.s .o .o))
def f356 (D : Dyn) (n : Nat) := (⟨_, by conv => rhs; reduce⟩ : {g // g = fun vs H => funS (s356 D n) D n 356 Tryz.f356 h356 [] vs H}).1
theorem f356_eq (D : Dyn) (n : Nat) : f356 D n = funKp (s356 D n) D n 356 Tryz.f356 (ms h356) := by kernel_rfl
theorem f356_ok {D : Dyn} (hD : DP D) (n : Nat) : FP 356 (f356 D n) := fun_okP X_ok hD (SP.cons (f364_ok hD n) (SP.cons (f409_ok hD n) (SP.nil))) Tryz.func356 (by kernel_rfl) (by kernel_rfl) (f356_eq D n)
attribute [local irreducible] f356

def s408 (D : Dyn) (n : Nat) : Tb := ⟨X, [(352, f352 D n)]⟩
def h408 : Hint := (.s .o (.s .o (.s (.s .o (.cl (.s .o .o) .o)) (.s .o .o))))
def f408 (D : Dyn) (n : Nat) := (⟨_, by conv => rhs; reduce⟩ : {g // g = fun vs H => funS (s408 D n) D n 408 Tryz.f408 h408 [] vs H}).1
theorem f408_eq (D : Dyn) (n : Nat) : f408 D n = funKp (s408 D n) D n 408 Tryz.f408 (ms h408) := by kernel_rfl
theorem f408_ok {D : Dyn} (hD : DP D) (n : Nat) : FP 408 (f408 D n) := fun_okP X_ok hD (SP.cons (f352_ok hD n) (SP.nil)) Tryz.func408 (by kernel_rfl) (by kernel_rfl) (f408_eq D n)
attribute [local irreducible] f408

def s353 (D : Dyn) (n : Nat) : Tb := ⟨X, [(408, f408 D n)]⟩
def h353 : Hint := (.b [7,64,9,510,13,8191] .o)
def f353 (D : Dyn) (n : Nat) := (⟨_, by conv => rhs; reduce⟩ : {g // g = fun vs H => funS (s353 D n) D n 353 Tryz.f353 h353 [] vs H}).1
theorem f353_eq (D : Dyn) (n : Nat) : f353 D n = funKp (s353 D n) D n 353 Tryz.f353 (ms h353) := by kernel_rfl
theorem f353_ok {D : Dyn} (hD : DP D) (n : Nat) : FP 353 (f353 D n) := fun_okP X_ok hD (SP.cons (f408_ok hD n) (SP.nil)) Tryz.func353 (by kernel_rfl) (by kernel_rfl) (f353_eq D n)
attribute [local irreducible] f353

def s355 (D : Dyn) (n : Nat) : Tb := ⟨X, [(408, f408 D n)]⟩
def h355 : Hint := (.b [7,64,9,510,13,8191] .o)
def f355 (D : Dyn) (n : Nat) := (⟨_, by conv => rhs; reduce⟩ : {g // g = fun vs H => funS (s355 D n) D n 355 Tryz.f355 h355 [] vs H}).1
theorem f355_eq (D : Dyn) (n : Nat) : f355 D n = funKp (s355 D n) D n 355 Tryz.f355 (ms h355) := by kernel_rfl
theorem f355_ok {D : Dyn} (hD : DP D) (n : Nat) : FP 355 (f355 D n) := fun_okP X_ok hD (SP.cons (f408_ok hD n) (SP.nil)) Tryz.func355 (by kernel_rfl) (by kernel_rfl) (f355_eq D n)
attribute [local irreducible] f355

def s301 (D : Dyn) (n : Nat) : Tb := ⟨X, [(352, f352 D n), (356, f356 D n)]⟩
def h301 : Hint := (.s .o (.s (.s .o (.cl (.s .o .o) .o)) (.s .o (.s .o (.s (.s .o (.cl (.s .o .o) .o)) (.s .o (.s (.s .o (.c [4,4,6,7,8] .o .o)) (.s (.s (.b [] .o) (.b [3,4,6] (.l [2,4,6,8,47,48] (.s .o (.s (.cr .o .o) (.s (.b0 (.s (.s .o (.b [1,4,6,8,47,48] (.l [0,4,6,8,47,48,50,51,52] (.s .o (.s (.cr .o .o) (.s (.b0 (.s .o .o)) .o)))))) (.s .o (.cl .o .o)))) .o)))))) (.s (.s .o (.cl (.s .o .o) .o)) (.s .o .o))))))))))
def f301l0 (D : Dyn) (n : Nat) := (⟨_, by conv => rhs; reduce⟩ : {g // some g = prtF (s301 D n) D n 301 Tryz.f301 h301 [] 0}).1
attribute [local irreducible] f301l0
def f301b1 (D : Dyn) (n : Nat) := (⟨_, by conv => rhs; reduce⟩ : {g // some g = prtF (s301 D n) D n 301 Tryz.f301 h301 [f301l0 D n] 1}).1
attribute [local irreducible] f301b1
def f301l2 (D : Dyn) (n : Nat) := (⟨_, by conv => rhs; reduce⟩ : {g // some g = prtF (s301 D n) D n 301 Tryz.f301 h301 [f301l0 D n, f301b1 D n] 2}).1
attribute [local irreducible] f301l2
def f301b3 (D : Dyn) (n : Nat) := (⟨_, by conv => rhs; reduce⟩ : {g // some g = prtF (s301 D n) D n 301 Tryz.f301 h301 [f301l0 D n, f301b1 D n, f301l2 D n] 3}).1
attribute [local irreducible] f301b3
def f301j4 (D : Dyn) (n : Nat) := (⟨_, by conv => rhs; reduce⟩ : {g // some g = prtF (s301 D n) D n 301 Tryz.f301 h301 [f301l0 D n, f301b1 D n, f301l2 D n, f301b3 D n] 4}).1
attribute [local irreducible] f301j4
def f301 (D : Dyn) (n : Nat) := (⟨_, by conv => rhs; reduce⟩ : {g // g = fun vs H => funS (s301 D n) D n 301 Tryz.f301 h301 [f301l0 D n, f301b1 D n, f301l2 D n, f301b3 D n, f301j4 D n] vs H}).1
theorem f301_eq (D : Dyn) (n : Nat) : f301 D n = funKp (s301 D n) D n 301 Tryz.f301 (ms h301) := by kernel_rfl
theorem f301_ok {D : Dyn} (hD : DP D) (n : Nat) : FP 301 (f301 D n) := fun_okP X_ok hD (SP.cons (f352_ok hD n) (SP.cons (f356_ok hD n) (SP.nil))) Tryz.func301 (by kernel_rfl) (by kernel_rfl) (f301_eq D n)
attribute [local irreducible] f301

def s241 (D : Dyn) (n : Nat) : Tb := ⟨X, [(300, f300 D n), (301, f301 D n)]⟩
def h241 : Hint := (.s .o (.s (.s .o (.cl (.s (.b [11,1535] .o) (.s (.s .o (.cl (.s .o .o) .o)) (.s .o .o))) .o)) (.s .o (.s (.s .o (.cl (.s .o .o) .o)) (.s (.s .o (.cl (.s .o .o) .o)) (.s .o .o))))))
def f241 (D : Dyn) (n : Nat) := (⟨_, by conv => rhs; reduce⟩ : {g // g = fun vs H => funS (s241 D n) D n 241 Tryz.f241 h241 [] vs H}).1
theorem f241_eq (D : Dyn) (n : Nat) : f241 D n = funKp (s241 D n) D n 241 Tryz.f241 (ms h241) := by kernel_rfl
theorem f241_ok {D : Dyn} (hD : DP D) (n : Nat) : FP 241 (f241 D n) := fun_okP X_ok hD (SP.cons (f300_ok hD n) (SP.cons (f301_ok hD n) (SP.nil))) Tryz.func241 (by kernel_rfl) (by kernel_rfl) (f241_eq D n)
attribute [local irreducible] f241

def s242 (D : Dyn) (n : Nat) : Tb := ⟨X, []⟩
def h242 : Hint := (.s .o (.s (.s .o (.cl (.s .o .o) .o)) (.s .o .o)))
def f242 (D : Dyn) (n : Nat) := (⟨_, by conv => rhs; reduce⟩ : {g // g = fun vs H => funS (s242 D n) D n 242 Tryz.f242 h242 [] vs H}).1
theorem f242_eq (D : Dyn) (n : Nat) : f242 D n = funKp (s242 D n) D n 242 Tryz.f242 (ms h242) := by kernel_rfl
theorem f242_ok {D : Dyn} (hD : DP D) (n : Nat) : FP 242 (f242 D n) := fun_okP X_ok hD (SP.nil) Tryz.func242 (by kernel_rfl) (by kernel_rfl) (f242_eq D n)
attribute [local irreducible] f242

def s185 (D : Dyn) (n : Nat) : Tb := ⟨X, []⟩
def h185 : Hint := (.s .o (.s (.s .o (.cl (.s .o .o) .o)) (.s .o .o)))
def f185 (D : Dyn) (n : Nat) := (⟨_, by conv => rhs; reduce⟩ : {g // g = fun vs H => funS (s185 D n) D n 185 Tryz.f185 h185 [] vs H}).1
theorem f185_eq (D : Dyn) (n : Nat) : f185 D n = funKp (s185 D n) D n 185 Tryz.f185 (ms h185) := by kernel_rfl
theorem f185_ok {D : Dyn} (hD : DP D) (n : Nat) : FP 185 (f185 D n) := fun_okP X_ok hD (SP.nil) Tryz.func185 (by kernel_rfl) (by kernel_rfl) (f185_eq D n)
attribute [local irreducible] f185

def s183 (D : Dyn) (n : Nat) : Tb := ⟨X, [(240, f240 D n), (241, f241 D n), (242, f242 D n), (185, f185 D n)]⟩
def h183 : Hint := (.s .o (.s (.s .o (.cl (.s .o .o) .o)) (.s (.s .o (.cl (.s .o .o) .o)) (.s .o (.s (.s .o (.cl (.s .o .o) .o)) (.s (.c [4,12,7,124,10,1020,12,4095] (.l [0,1,2,3,5,6,8,9,4,7,10,11,12,13] .o) .o) .o))))))
def f183 (D : Dyn) (n : Nat) := (⟨_, by conv => rhs; reduce⟩ : {g // g = fun vs H => funS (s183 D n) D n 183 Tryz.f183 h183 [] vs H}).1
theorem f183_eq (D : Dyn) (n : Nat) : f183 D n = funKp (s183 D n) D n 183 Tryz.f183 (ms h183) := by kernel_rfl
theorem f183_ok {D : Dyn} (hD : DP D) (n : Nat) : FP 183 (f183 D n) := fun_okP X_ok hD (SP.cons (f240_ok hD n) (SP.cons (f241_ok hD n) (SP.cons (f242_ok hD n) (SP.cons (f185_ok hD n) (SP.nil))))) Tryz.func183 (by kernel_rfl) (by kernel_rfl) (f183_eq D n)
attribute [local irreducible] f183

def s238 (D : Dyn) (n : Nat) : Tb := ⟨X, [(183, f183 D n)]⟩
def h238 : Hint := (.s .o (.s (.s .o (.cl .o .o)) (.s .o (.s (.s .o (.cl (.s .o .o) .o)) (.s (.s .o (.cl .o .o)) (.s .o (.b [1] (.l [0,2,3,4,30,31,32] (.s .o (.s (.cr .o .o) (.s (.b0 (.s .o (.s (.s .o (.b0 (.rf 0 [4]))) (.s .o (.cl .o .o))))) .o)))))))))))
def f238l0 (D : Dyn) (n : Nat) := (⟨_, by conv => rhs; reduce⟩ : {g // some g = prtF (s238 D n) D n 238 Tryz.f238 h238 [] 0}).1
attribute [local irreducible] f238l0
def f238b1 (D : Dyn) (n : Nat) := (⟨_, by conv => rhs; reduce⟩ : {g // some g = prtF (s238 D n) D n 238 Tryz.f238 h238 [f238l0 D n] 1}).1
attribute [local irreducible] f238b1
def f238 (D : Dyn) (n : Nat) := (⟨_, by conv => rhs; reduce⟩ : {g // g = fun vs H => funS (s238 D n) D n 238 Tryz.f238 h238 [f238l0 D n, f238b1 D n] vs H}).1
theorem f238_eq (D : Dyn) (n : Nat) : f238 D n = funKp (s238 D n) D n 238 Tryz.f238 (ms h238) := by kernel_rfl
theorem f238_ok {D : Dyn} (hD : DP D) (n : Nat) : FP 238 (f238 D n) := fun_okP X_ok hD (SP.cons (f183_ok hD n) (SP.nil)) Tryz.func238 (by kernel_rfl) (by kernel_rfl) (f238_eq D n)
def r238_0a : Hint := .o
def r238_0b : Hint := (.b0 (.s .o (.cl .o .o)))
def r238_0 (D : Dyn) (n : Nat) := (⟨_, by conv => rhs; reduce⟩ : {g // g = fun A l az H => rndS (s238 D n) D n 238 0 [4] [0] r238_0a r238_0b [] A l az H}).1
theorem r238_0_eq (D : Dyn) (n : Nat) : r238_0 D n = rndKp (s238 D n) D n 238 0 [4] [0] (ms r238_0a) (ms r238_0b) := by kernel_rfl
theorem r238_0_ok {D : Dyn} (hD : DP D) (n : Nat) : RdP 238 0 (r238_0 D n) := round_okP X_ok hD (SP.cons (f183_ok hD n) (SP.nil)) (by kernel_rfl) (r238_0_eq D n)
attribute [local irreducible] f238 r238_0

def s171 (D : Dyn) (n : Nat) : Tb := ⟨X, []⟩
def h171 : Hint := (.s .o (.s .o .o))
def f171 (D : Dyn) (n : Nat) := (⟨_, by conv => rhs; reduce⟩ : {g // g = fun vs H => funS (s171 D n) D n 171 Tryz.f171 h171 [] vs H}).1
theorem f171_eq (D : Dyn) (n : Nat) : f171 D n = funKp (s171 D n) D n 171 Tryz.f171 (ms h171) := by kernel_rfl
theorem f171_ok {D : Dyn} (hD : DP D) (n : Nat) : FP 171 (f171 D n) := fun_okP X_ok hD (SP.nil) Tryz.func171 (by kernel_rfl) (by kernel_rfl) (f171_eq D n)
attribute [local irreducible] f171

def s116 (D : Dyn) (n : Nat) : Tb := ⟨X, [(171, f171 D n)]⟩
def h116 : Hint := (.s .o (.s .o (.s (.s (.b [8,255] .o) (.b0 (.rf 0 [1,2]))) (.s .o .o))))
def f116 (D : Dyn) (n : Nat) := (⟨_, by conv => rhs; reduce⟩ : {g // g = fun vs H => funS (s116 D n) D n 116 Tryz.f116 h116 [] vs H}).1
theorem f116_eq (D : Dyn) (n : Nat) : f116 D n = funKp (s116 D n) D n 116 Tryz.f116 (ms h116) := by kernel_rfl
theorem f116_ok {D : Dyn} (hD : DP D) (n : Nat) : FP 116 (f116 D n) := fun_okP X_ok hD (SP.cons (f171_ok hD n) (SP.nil)) Tryz.func116 (by kernel_rfl) (by kernel_rfl) (f116_eq D n)
def r116_0a : Hint := .o
def r116_0b : Hint := (.b0 (.s (.s .o (.s .o (.cl (.s .o .o) .o))) .o))
def r116_0 (D : Dyn) (n : Nat) := (⟨_, by conv => rhs; reduce⟩ : {g // g = fun A l az H => rndS (s116 D n) D n 116 0 [1, 2] [] r116_0a r116_0b [] A l az H}).1
theorem r116_0_eq (D : Dyn) (n : Nat) : r116_0 D n = rndKp (s116 D n) D n 116 0 [1, 2] [] (ms r116_0a) (ms r116_0b) := by kernel_rfl
theorem r116_0_ok {D : Dyn} (hD : DP D) (n : Nat) : RdP 116 0 (r116_0 D n) := round_okP X_ok hD (SP.cons (f171_ok hD n) (SP.nil)) (by kernel_rfl) (r116_0_eq D n)
attribute [local irreducible] f116 r116_0

def s63 (D : Dyn) (n : Nat) : Tb := ⟨X, [(34, f34 D n), (111, f111 D n), (112, f112 D n), (114, f114 D n), (113, f113 D n), (115, f115 D n), (116, f116 D n)]⟩
def h63 : Hint := (.s .o (.s (.s .o (.cl (.s .o .o) .o)) (.s (.s .o (.cl (.s .o .o) .o)) (.s .o (.s (.s .o (.cl (.s .o .o) .o)) (.s (.s .o (.cl (.s .o .o) .o)) (.s .o (.s (.s .o (.cl (.s .o .o) .o)) (.s (.b [] .o) (.s (.s .o (.c [0,0,8,9] (.s .o (.s .o (.cl (.s .o .o) .o))) .o)) (.s (.s .o (.s .o (.cl (.s .o .o) .o))) (.s (.s (.b [7,126,13,7167] .o) (.s .o (.cl (.s .o .o) .o))) (.s (.s .o (.s .o (.cl (.s .o .o) .o))) (.s .o .o))))))))))))))
def f63j0 (D : Dyn) (n : Nat) := (⟨_, by conv => rhs; reduce⟩ : {g // some g = prtF (s63 D n) D n 63 Tryz.f63 h63 [] 0}).1
attribute [local irreducible] f63j0
def f63 (D : Dyn) (n : Nat) := (⟨_, by conv => rhs; reduce⟩ : {g // g = fun vs H => funS (s63 D n) D n 63 Tryz.f63 h63 [f63j0 D n] vs H}).1
theorem f63_eq (D : Dyn) (n : Nat) : f63 D n = funKp (s63 D n) D n 63 Tryz.f63 (ms h63) := by kernel_rfl
theorem f63_ok {D : Dyn} (hD : DP D) (n : Nat) : FP 63 (f63 D n) := fun_okP X_ok hD (SP.cons (f34_ok hD n) (SP.cons (f111_ok hD n) (SP.cons (f112_ok hD n) (SP.cons (f114_ok hD n) (SP.cons (f113_ok hD n) (SP.cons (f115_ok hD n) (SP.cons (f116_ok hD n) (SP.nil)))))))) Tryz.func63 (by kernel_rfl) (by kernel_rfl) (f63_eq D n)
attribute [local irreducible] f63

def s119 (D : Dyn) (n : Nat) : Tb := ⟨X, []⟩
def f119 (D : Dyn) (n : Nat) (vs : List AV) (H : AH) : Option (AV × AH) :=
  outR (hd vs fun x0 vs => nl vs <|
  bV (cmpO .eql (eqP x0 .nilPtr)) fun x4 => 
  jn (wnt x4 false (bV (pNil x0) fun x7 => 
  bV (fAd 2 x7) fun x8 => 
  bV (ld1p x8 H) fun x9 => 
  bV (cmpO .eql (eqP x9 .nilPtr)) fun x10 => 
  some (.norm [x10], H)) (some (.norm [undefA], H))) fun vs H => hd vs fun x10_2 vs => 
  bV (pk3 (some x4) (some (.bool true)) (some x10_2)) fun x11 => 
  bV (some x11) fun x2 => some (.ret x2, H))
def h119 : Hint := (.s .o (.s .o .o))
theorem f119_eq (D : Dyn) (n : Nat) : f119 D n = funKp (s119 D n) D n 119 Tryz.f119 h119 := by kernel_rfl
theorem f119_ok {D : Dyn} (hD : DP D) (n : Nat) : FP 119 (f119 D n) := fun_okP X_ok hD (SP.nil) Tryz.func119 (by kernel_rfl) (by kernel_rfl) (f119_eq D n)
attribute [local irreducible] f119

def s65 (D : Dyn) (n : Nat) : Tb := ⟨X, [(119, f119 D n)]⟩
def h65 : Hint := (.s .o (.s (.s .o (.cl (.s .o .o) .o)) (.s .o .o)))
def f65 (D : Dyn) (n : Nat) := (⟨_, by conv => rhs; reduce⟩ : {g // g = fun vs H => funS (s65 D n) D n 65 Tryz.f65 h65 [] vs H}).1
theorem f65_eq (D : Dyn) (n : Nat) : f65 D n = funKp (s65 D n) D n 65 Tryz.f65 (ms h65) := by kernel_rfl
theorem f65_ok {D : Dyn} (hD : DP D) (n : Nat) : FP 65 (f65 D n) := fun_okP X_ok hD (SP.cons (f119_ok hD n) (SP.nil)) Tryz.func65 (by kernel_rfl) (by kernel_rfl) (f65_eq D n)
attribute [local irreducible] f65

def s66 (D : Dyn) (n : Nat) : Tb := ⟨X, [(119, f119 D n)]⟩
def h66 : Hint := (.s .o (.s (.s .o (.cl (.s .o .o) .o)) (.s .o .o)))
def f66 (D : Dyn) (n : Nat) := (⟨_, by conv => rhs; reduce⟩ : {g // g = fun vs H => funS (s66 D n) D n 66 Tryz.f66 h66 [] vs H}).1
theorem f66_eq (D : Dyn) (n : Nat) : f66 D n = funKp (s66 D n) D n 66 Tryz.f66 (ms h66) := by kernel_rfl
theorem f66_ok {D : Dyn} (hD : DP D) (n : Nat) : FP 66 (f66 D n) := fun_okP X_ok hD (SP.cons (f119_ok hD n) (SP.nil)) Tryz.func66 (by kernel_rfl) (by kernel_rfl) (f66_eq D n)
attribute [local irreducible] f66

def s64 (D : Dyn) (n : Nat) : Tb := ⟨X, []⟩
def h64 : Hint := (.s .o (.s (.s .o (.cl (.s .o .o) .o)) (.s .o (.s .o (.s .o (.s (.s .o (.cl (.s .o .o) .o)) (.s .o (.s .o (.s (.s .o (.b [3,7,8,10] (.l [2,1,7,8,10,11,36,37] (.s .o (.s (.cr .o .o) (.s (.b0 (.s .o (.s (.s .o (.cl (.s .o .o) .o)) (.s (.s .o (.b [1,1,7,8,10,12,36,37] (.l [0,1,7,8,10,12,36,37,58,59,60] (.s .o (.s (.cr .o .o) (.s (.b0 (.s .o (.s .o (.cl (.s .o .o) .o)))) .o)))))) (.s .o .o))))) .o)))))) (.s (.s .o (.cl (.s .o .o) .o)) (.s .o .o)))))))))))
def f64l0 (D : Dyn) (n : Nat) := (⟨_, by conv => rhs; reduce⟩ : {g // some g = prtF (s64 D n) D n 64 Tryz.f64 h64 [] 0}).1
attribute [local irreducible] f64l0
def f64b1 (D : Dyn) (n : Nat) := (⟨_, by conv => rhs; reduce⟩ : {g // some g = prtF (s64 D n) D n 64 Tryz.f64 h64 [f64l0 D n] 1}).1
attribute [local irreducible] f64b1
def f64l2 (D : Dyn) (n : Nat) := (⟨_, by conv => rhs; reduce⟩ : {g // some g = prtF (s64 D n) D n 64 Tryz.f64 h64 [f64l0 D n, f64b1 D n] 2}).1
attribute [local irreducible] f64l2
def f64b3 (D : Dyn) (n : Nat) := (⟨_, by conv => rhs; reduce⟩ : {g // some g = prtF (s64 D n) D n 64 Tryz.f64 h64 [f64l0 D n, f64b1 D n, f64l2 D n] 3}).1
attribute [local irreducible] f64b3
def f64 (D : Dyn) (n : Nat) := (⟨_, by conv => rhs; reduce⟩ : {g // g = fun vs H => funS (s64 D n) D n 64 Tryz.f64 h64 [f64l0 D n, f64b1 D n, f64l2 D n, f64b3 D n] vs H}).1
theorem f64_eq (D : Dyn) (n : Nat) : f64 D n = funKp (s64 D n) D n 64 Tryz.f64 (ms h64) := by kernel_rfl
theorem f64_ok {D : Dyn} (hD : DP D) (n : Nat) : FP 64 (f64 D n) := fun_okP X_ok hD (SP.nil) Tryz.func64 (by kernel_rfl) (by kernel_rfl) (f64_eq D n)
attribute [local irreducible] f64

def s67 (D : Dyn) (n : Nat) : Tb := ⟨X, []⟩
def h67 : Hint := (.s .o (.s .o .o))
def f67 (D : Dyn) (n : Nat) := (⟨_, by conv => rhs; reduce⟩ : {g // g = fun vs H => funS (s67 D n) D n 67 Tryz.f67 h67 [] vs H}).1
theorem f67_eq (D : Dyn) (n : Nat) : f67 D n = funKp (s67 D n) D n 67 Tryz.f67 (ms h67) := by kernel_rfl
theorem f67_ok {D : Dyn} (hD : DP D) (n : Nat) : FP 67 (f67 D n) := fun_okP X_ok hD (SP.nil) Tryz.func67 (by kernel_rfl) (by kernel_rfl) (f67_eq D n)
attribute [local irreducible] f67

def s120 (D : Dyn) (n : Nat) : Tb := ⟨X, [(119, f119 D n), (114, f114 D n)]⟩
def h120 : Hint := (.s .o (.s (.s .o (.cl (.s .o .o) .o)) (.s .o .o)))
def f120 (D : Dyn) (n : Nat) := (⟨_, by conv => rhs; reduce⟩ : {g // g = fun vs H => funS (s120 D n) D n 120 Tryz.f120 h120 [] vs H}).1
theorem f120_eq (D : Dyn) (n : Nat) : f120 D n = funKp (s120 D n) D n 120 Tryz.f120 (ms h120) := by kernel_rfl
theorem f120_ok {D : Dyn} (hD : DP D) (n : Nat) : FP 120 (f120 D n) := fun_okP X_ok hD (SP.cons (f119_ok hD n) (SP.cons (f114_ok hD n) (SP.nil))) Tryz.func120 (by kernel_rfl) (by kernel_rfl) (f120_eq D n)
attribute [local irreducible] f120
end Go.Eng.Sh
