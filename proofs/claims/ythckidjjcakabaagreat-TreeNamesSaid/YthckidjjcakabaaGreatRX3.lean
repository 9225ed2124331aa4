/- Shallow functions, by program (gent4.py). -/
import Derived.Test.YthckidjjcakabaaGreatRX2
import Derived.Test.YthckidjjcakabaaGreatProg
import Derived.KernelRfl
noncomputable section
namespace Go.Eng.Sh
open Go.Proofs
set_option maxRecDepth 100000
set_option maxHeartbeats 4000000
set_option linter.all false
attribute [local irreducible] bV bR hd cnd jn jb loopK wnt chk newB bA bInt bStr bBool cmpO eqP eqS eqM eqF eqPL cvI cvSS slStr slArr ixArr ixSl ixStr fAd lnStr lnSl lnMap pk3 s2a bxV lkM upM dlM mkM callV nl outR tld endQ beginK endR endLp jmpK rfC mn2 mx2 aun pExtract pNil undefA isW aveq ldNp ld1p stNp cvBSp cvSBp slSlp ixAg1p ixAgNp fd1p fdNp apPp apZp cpyp bldSp bldAp bldLp mkSlp eqAp clSp bC pnK ifNil asrK noPan mkR clM acap mtp66_0 mtp80_0 f23 q23 f5 q5 f24 q24 q6l0 q6b1 f6 q6 f55 q55 q56l0 q56b1 f56 q56 f25 q25 f7 q7 f26 q26 f67 q67 f66j0 f66l1 f66b2 f66 q95l0 q95l1 q95b2 q95b3 f95 q95 f73 q73 q72l0 q72l1 q72b2 q72l3 q72b4 q72b5 f72 q72 q124j0 q124l1 q124b2 q124j3 f124 q124 f32 q32 f33 q33 q120j0 f120 q120 q104l0 q104b1 f104 q104 q106l0 q106b1 f106 q106 q71j0 q71j1 f71 q71 f27 q27 f64 q64 f99 q99 q101j0 q101j1 f101 q101 f117 q117 q102j0 f102 q102 f118 q118 f100 q100 q98j0 q98j1 q98j2 q98j3 f98 q98 q65j0 q65j1 f65 q65 f88 q88 f123l0 f123b1 f123 m123 f114 q114 f87 q87 q113l0 q113b1 f113 q113 f53 q53 f86 q86 f89 q89 f84 q84 f82 q82 f49 q49 f37 q37 q57j0 q57j1 q57j2 f57 q57 f90 q90 f116 q116 f92 q92 f94 q94 f115 q115 f91 q91 f93 q93 q58l0 q58b1 q58l2 q58b3 q58j4 f58 q58 f28 q28 q30j0 q30l1 q30b2 f30 q30 f70 q70 f119 q119 q109j0 q109j1 f109 q109 q75j0 q75l1 q75l2 q75b3 q75b4 f75 q75 q121j0 q121j1 f121 q121 q105j0 q105l1 q105l2 q105b3 q105b4 f105 q105 f103 q103 q69j0 q69j1 q69j2 f69 q69 q68j0 q68j1 f68 q68 f38 q38 q125l0 q125b1 f125 q125 f122 q122 f108 q108 f74 m74 f40 q40 f39 q39 f13 q13 f20 q20 f21 q21 q59l0 q59b1 f59 q59 f29 q29 q8l0 q8b1 f8 q8 f22 q22 q60l0 q60b1 f60 q60 f31 q31 q10j0 q10l1 q10b2 f10 q10 r10_0 f34 q34 f96 q96 q97j0 f97 q97 q61j0 q61l1 q61b2 q61j3 f61 q61 q111l0 q111b1 f111 q111 f77 q77 q47l0 q47b1 f47 q47 r47_0 f112 q112 q85j0 q85l1 q85b2 f85 q85 f83 q83 f50 q50 f54 q54 f62 q62 q35l0 q35j1 q35b2 f35 q35 f63 q63 q36j0 f36 q36
def s12 (D : Dyn) (n : Nat) : Tb := ⟨X, [(26, f26 D n), (34, f34 D n), (35, f35 D n), (36, f36 D n), (37, f37 D n)]⟩
def h12 : Hint := (.s .o (.s (.s .o (.cl (.s .o .o) .o)) (.s (.s .o (.cl (.s .o .o) .o)) (.s (.s (.c [1,1] (.l [0,2,3,4,5,1,6,7] .o) .o) (.cl (.s .o .o) .o)) (.s .o (.s .o (.s (.s .o (.cl (.s (.s .o (.b [1,6,11] (.l [0,1,6,11,64,65,66] (.s .o (.s (.cr .o .o) (.s (.b0 (.s .o .o)) .o)))))) (.s .o .o)) .o)) (.s (.s .o (.c [4,0,6,10] (.s .o (.b [3,0,6,10] (.l [2,0,6,10,84,85,86] (.s .o (.s (.cr .o .o) (.s (.b0 (.s .o (.b [8,255] .o))) .o)))))) .o)) (.s .o (.s .o (.s .o (.s .o .o))))))))))))
def q12l0 (D : Dyn) (n : Nat) := (⟨_, by conv => rhs; reduce⟩ : {g // some g = prtF (s12 D n) D n 12 Tryz.f12 h12 [] 0}).1
attribute [local irreducible] q12l0
def q12b1 (D : Dyn) (n : Nat) := (⟨_, by conv => rhs; reduce⟩ : {g // some g = prtF (s12 D n) D n 12 Tryz.f12 h12 [q12l0 D n] 1}).1
attribute [local irreducible] q12b1
def q12l2 (D : Dyn) (n : Nat) := (⟨_, by conv => rhs; reduce⟩ : {g // some g = prtF (s12 D n) D n 12 Tryz.f12 h12 [q12l0 D n, q12b1 D n] 2}).1
attribute [local irreducible] q12l2
def q12b3 (D : Dyn) (n : Nat) := (⟨_, by conv => rhs; reduce⟩ : {g // some g = prtF (s12 D n) D n 12 Tryz.f12 h12 [q12l0 D n, q12b1 D n, q12l2 D n] 3}).1
attribute [local irreducible] q12b3
def q12j4 (D : Dyn) (n : Nat) := (⟨_, by conv => rhs; reduce⟩ : {g // some g = prtF (s12 D n) D n 12 Tryz.f12 h12 [q12l0 D n, q12b1 D n, q12l2 D n, q12b3 D n] 4}).1
attribute [local irreducible] q12j4
def q12 (D : Dyn) (n : Nat) := (⟨_, by conv => rhs; reduce⟩ : {g // g = fun vs H => funS (s12 D n) D n 12 Tryz.f12 h12 [q12l0 D n, q12b1 D n, q12l2 D n, q12b3 D n, q12j4 D n] vs H}).1
def F12l0 (D : Dyn) (n : Nat) : {g // g = q12l0 D n} := ⟨_, by conv => rhs; delta q12l0; dsimp only; try simp only [FPs]⟩
def F12b1 (D : Dyn) (n : Nat) : {g // g = q12b1 D n} := ⟨_, by conv => rhs; delta q12b1; dsimp only; try simp only [FPs, ← (F12l0 D n).2]⟩
def F12l2 (D : Dyn) (n : Nat) : {g // g = q12l2 D n} := ⟨_, by conv => rhs; delta q12l2; dsimp only; try simp only [FPs, ← (F12l0 D n).2, ← (F12b1 D n).2]⟩
def F12b3 (D : Dyn) (n : Nat) : {g // g = q12b3 D n} := ⟨_, by conv => rhs; delta q12b3; dsimp only; try simp only [FPs, ← (F12l0 D n).2, ← (F12b1 D n).2, ← (F12l2 D n).2]⟩
def F12j4 (D : Dyn) (n : Nat) : {g // g = q12j4 D n} := ⟨_, by conv => rhs; delta q12j4; dsimp only; try simp only [FPs, ← (F12l0 D n).2, ← (F12b1 D n).2, ← (F12l2 D n).2, ← (F12b3 D n).2]⟩
def F12 (D : Dyn) (n : Nat) : {g // g = q12 D n} := ⟨_, by conv => rhs; delta q12; dsimp only; try simp only [FPs, ← (F12l0 D n).2, ← (F12b1 D n).2, ← (F12l2 D n).2, ← (F12b3 D n).2, ← (F12j4 D n).2]⟩
def f12 (D : Dyn) (n : Nat) := (F12 D n).1
theorem f12_eq (D : Dyn) (n : Nat) : f12 D n = funKp (s12 D n) D n 12 Tryz.f12 (ms h12) := (F12 D n).2.trans (by kernel_rfl)
theorem f12_ok {D : Dyn} (hD : DP D) (n : Nat) : FP 12 (f12 D n) := fun_okP X_ok hD (SP.cons (f26_ok hD n) (SP.cons (f34_ok hD n) (SP.cons (f35_ok hD n) (SP.cons (f36_ok hD n) (SP.cons (f37_ok hD n) (SP.nil)))))) Tryz.func12 (by kernel_rfl) (by kernel_rfl) (f12_eq D n)
attribute [local irreducible] f12

def s42 (D : Dyn) (n : Nat) : Tb := ⟨X, [(72, f72 D n), (30, f30 D n), (75, f75 D n)]⟩
def h42 : Hint := (.s .o (.s (.s .o (.cl (.s .o .o) .o)) (.s .o (.s (.s .o (.cl (.s .o .o) .o)) (.s (.c [11,2047,23,8388607,25,33554431] (.l [0,1,2,3,4,5,6,7,8,9,10,12,13,14,15,16,17,18,19,20,21,22,11,23,24,25,26] .o) .o) .o)))))
def q42 (D : Dyn) (n : Nat) := (⟨_, by conv => rhs; reduce⟩ : {g // g = fun vs H => funS (s42 D n) D n 42 Tryz.f42 h42 [] vs H}).1
def F42 (D : Dyn) (n : Nat) : {g // g = q42 D n} := ⟨_, by conv => rhs; delta q42; dsimp only; try simp only [FPs]⟩
def f42 (D : Dyn) (n : Nat) := (F42 D n).1
theorem f42_eq (D : Dyn) (n : Nat) : f42 D n = funKp (s42 D n) D n 42 Tryz.f42 (ms h42) := (F42 D n).2.trans (by kernel_rfl)
theorem f42_ok {D : Dyn} (hD : DP D) (n : Nat) : FP 42 (f42 D n) := fun_okP X_ok hD (SP.cons (f72_ok hD n) (SP.cons (f30_ok hD n) (SP.cons (f75_ok hD n) (SP.nil)))) Tryz.func42 (by kernel_rfl) (by kernel_rfl) (f42_eq D n)
attribute [local irreducible] f42

def s41 (D : Dyn) (n : Nat) : Tb := ⟨X, [(42, f42 D n)]⟩
def h41 : Hint := (.s .o (.s .o .o))
def q41 (D : Dyn) (n : Nat) := (⟨_, by conv => rhs; reduce⟩ : {g // g = fun vs H => funS (s41 D n) D n 41 Tryz.f41 h41 [] vs H}).1
def F41 (D : Dyn) (n : Nat) : {g // g = q41 D n} := ⟨_, by conv => rhs; delta q41; dsimp only; try simp only [FPs]⟩
def f41 (D : Dyn) (n : Nat) := (F41 D n).1
theorem f41_eq (D : Dyn) (n : Nat) : f41 D n = funKp (s41 D n) D n 41 Tryz.f41 (ms h41) := (F41 D n).2.trans (by kernel_rfl)
theorem f41_ok {D : Dyn} (hD : DP D) (n : Nat) : FP 41 (f41 D n) := fun_okP X_ok hD (SP.cons (f42_ok hD n) (SP.nil)) Tryz.func41 (by kernel_rfl) (by kernel_rfl) (f41_eq D n)
attribute [local irreducible] f41

def s14 (D : Dyn) (n : Nat) : Tb := ⟨X, [(26, f26 D n), (38, f38 D n)]⟩
def h14 : Hint := (.s .o (.s (.s .o (.cl (.s .o .o) .o)) (.s (.s .o (.cl (.s .o .o) .o)) (.s .o .o))))
def q14 (D : Dyn) (n : Nat) := (⟨_, by conv => rhs; reduce⟩ : {g // g = fun vs H => funS (s14 D n) D n 14 Tryz.f14 h14 [] vs H}).1
def F14 (D : Dyn) (n : Nat) : {g // g = q14 D n} := ⟨_, by conv => rhs; delta q14; dsimp only; try simp only [FPs]⟩
def f14 (D : Dyn) (n : Nat) := (F14 D n).1
theorem f14_eq (D : Dyn) (n : Nat) : f14 D n = funKp (s14 D n) D n 14 Tryz.f14 (ms h14) := (F14 D n).2.trans (by kernel_rfl)
theorem f14_ok {D : Dyn} (hD : DP D) (n : Nat) : FP 14 (f14 D n) := fun_okP X_ok hD (SP.cons (f26_ok hD n) (SP.cons (f38_ok hD n) (SP.nil))) Tryz.func14 (by kernel_rfl) (by kernel_rfl) (f14_eq D n)
attribute [local irreducible] f14

def s4 (D : Dyn) (n : Nat) : Tb := ⟨X, [(5, f5 D n), (6, f6 D n), (7, f7 D n), (13, f13 D n), (20, f20 D n), (21, f21 D n), (22, f22 D n), (10, f10 D n), (12, f12 D n), (14, f14 D n)]⟩
def h4 : Hint := (.s .o (.s .o (.s .o (.s .o (.s (.s .o (.cl (.s .o .o) .o)) (.s .o (.s .o (.s (.s .o (.cl (.s .o .o) .o)) (.s .o (.s (.c [21,2097151,26,67108863,31,2147483647,36,68719476735] (.l [0,1,2,3,4,5,6,7,8,9,10,11,12,13,14,15,16,17,18,19,20,21,22,23,24,25,26,27,28,29,30,31,32,33,34,35,37,36,38,39,40] .o) .o) .o))))))))))
def q4 (D : Dyn) (n : Nat) := (⟨_, by conv => rhs; reduce⟩ : {g // g = fun vs H => funS (s4 D n) D n 4 Tryz.f4 h4 [] vs H}).1
def F4 (D : Dyn) (n : Nat) : {g // g = q4 D n} := ⟨_, by conv => rhs; delta q4; dsimp only; try simp only [FPs]⟩
def f4 (D : Dyn) (n : Nat) := (F4 D n).1
theorem f4_eq (D : Dyn) (n : Nat) : f4 D n = funKp (s4 D n) D n 4 Tryz.f4 (ms h4) := (F4 D n).2.trans (by kernel_rfl)
theorem f4_ok {D : Dyn} (hD : DP D) (n : Nat) : FP 4 (f4 D n) := fun_okP X_ok hD (SP.cons (f5_ok hD n) (SP.cons (f6_ok hD n) (SP.cons (f7_ok hD n) (SP.cons (f13_ok hD n) (SP.cons (f20_ok hD n) (SP.cons (f21_ok hD n) (SP.cons (f22_ok hD n) (SP.cons (f10_ok hD n) (SP.cons (f12_ok hD n) (SP.cons (f14_ok hD n) (SP.nil))))))))))) Tryz.func4 (by kernel_rfl) (by kernel_rfl) (f4_eq D n)
attribute [local irreducible] f4

def s9 (D : Dyn) (n : Nat) : Tb := ⟨X, []⟩
def h9 : Hint := (.s .o (.s .o .o))
def q9 (D : Dyn) (n : Nat) := (⟨_, by conv => rhs; reduce⟩ : {g // g = fun vs H => funS (s9 D n) D n 9 Tryz.f9 h9 [] vs H}).1
def F9 (D : Dyn) (n : Nat) : {g // g = q9 D n} := ⟨_, by conv => rhs; delta q9; dsimp only; try simp only [FPs]⟩
def f9 (D : Dyn) (n : Nat) := (F9 D n).1
theorem f9_eq (D : Dyn) (n : Nat) : f9 D n = funKp (s9 D n) D n 9 Tryz.f9 (ms h9) := (F9 D n).2.trans (by kernel_rfl)
theorem f9_ok {D : Dyn} (hD : DP D) (n : Nat) : FP 9 (f9 D n) := fun_okP X_ok hD (SP.nil) Tryz.func9 (by kernel_rfl) (by kernel_rfl) (f9_eq D n)
attribute [local irreducible] f9

def s11 (D : Dyn) (n : Nat) : Tb := ⟨X, [(26, f26 D n), (28, f28 D n), (32, f32 D n), (33, f33 D n)]⟩
def h11 : Hint := (.s .o (.s (.s .o (.cl (.s .o .o) .o)) (.s (.s .o (.cl (.s .o .o) .o)) (.s .o (.s (.s .o (.cl (.s .o .o) .o)) (.s (.c [4,12,7,124,10,1020,12,4095] (.l [0,1,2,3,5,6,8,9,4,7,10,11,12,13] .o) .o) .o))))))
def q11 (D : Dyn) (n : Nat) := (⟨_, by conv => rhs; reduce⟩ : {g // g = fun vs H => funS (s11 D n) D n 11 Tryz.f11 h11 [] vs H}).1
def F11 (D : Dyn) (n : Nat) : {g // g = q11 D n} := ⟨_, by conv => rhs; delta q11; dsimp only; try simp only [FPs]⟩
def f11 (D : Dyn) (n : Nat) := (F11 D n).1
theorem f11_eq (D : Dyn) (n : Nat) : f11 D n = funKp (s11 D n) D n 11 Tryz.f11 (ms h11) := (F11 D n).2.trans (by kernel_rfl)
theorem f11_ok {D : Dyn} (hD : DP D) (n : Nat) : FP 11 (f11 D n) := fun_okP X_ok hD (SP.cons (f26_ok hD n) (SP.cons (f28_ok hD n) (SP.cons (f32_ok hD n) (SP.cons (f33_ok hD n) (SP.nil))))) Tryz.func11 (by kernel_rfl) (by kernel_rfl) (f11_eq D n)
attribute [local irreducible] f11

def s43 (D : Dyn) (n : Nat) : Tb := ⟨X, []⟩
def h43 : Hint := (.s .o (.s .o (.s (.s .o (.b [1,5] (.l [0,0,5,6] (.s (.s .o (.cr .o .o)) (.s (.b0 (.s .o .o)) .o))))) (.s .o .o))))
def q43l0 (D : Dyn) (n : Nat) := (⟨_, by conv => rhs; reduce⟩ : {g // some g = prtF (s43 D n) D n 43 Tryz.f43 h43 [] 0}).1
attribute [local irreducible] q43l0
def q43b1 (D : Dyn) (n : Nat) := (⟨_, by conv => rhs; reduce⟩ : {g // some g = prtF (s43 D n) D n 43 Tryz.f43 h43 [q43l0 D n] 1}).1
attribute [local irreducible] q43b1
def q43 (D : Dyn) (n : Nat) := (⟨_, by conv => rhs; reduce⟩ : {g // g = fun vs H => funS (s43 D n) D n 43 Tryz.f43 h43 [q43l0 D n, q43b1 D n] vs H}).1
def F43l0 (D : Dyn) (n : Nat) : {g // g = q43l0 D n} := ⟨_, by conv => rhs; delta q43l0; dsimp only; try simp only [FPs]⟩
def F43b1 (D : Dyn) (n : Nat) : {g // g = q43b1 D n} := ⟨_, by conv => rhs; delta q43b1; dsimp only; try simp only [FPs, ← (F43l0 D n).2]⟩
def F43 (D : Dyn) (n : Nat) : {g // g = q43 D n} := ⟨_, by conv => rhs; delta q43; dsimp only; try simp only [FPs, ← (F43l0 D n).2, ← (F43b1 D n).2]⟩
def f43 (D : Dyn) (n : Nat) := (F43 D n).1
theorem f43_eq (D : Dyn) (n : Nat) : f43 D n = funKp (s43 D n) D n 43 Tryz.f43 (ms h43) := (F43 D n).2.trans (by kernel_rfl)
theorem f43_ok {D : Dyn} (hD : DP D) (n : Nat) : FP 43 (f43 D n) := fun_okP X_ok hD (SP.nil) Tryz.func43 (by kernel_rfl) (by kernel_rfl) (f43_eq D n)
attribute [local irreducible] f43

def s44 (D : Dyn) (n : Nat) : Tb := ⟨X, [(26, f26 D n), (27, f27 D n), (28, f28 D n)]⟩
def h44 : Hint := (.s .o (.s (.s .o (.cl (.s .o .o) .o)) (.s (.s .o (.cl (.s .o .o) .o)) (.s .o (.s (.s .o (.b [1] (.l [0,0,4,21,22] (.s .o (.s (.cr .o .o) (.s (.b0 (.s .o (.s .o (.s (.s .o (.cl (.s .o .o) .o)) (.s (.s .o (.cl (.s .o .o) .o)) .o))))) .o)))))) (.s .o .o))))))
def q44l0 (D : Dyn) (n : Nat) := (⟨_, by conv => rhs; reduce⟩ : {g // some g = prtF (s44 D n) D n 44 Tryz.f44 h44 [] 0}).1
attribute [local irreducible] q44l0
def q44b1 (D : Dyn) (n : Nat) := (⟨_, by conv => rhs; reduce⟩ : {g // some g = prtF (s44 D n) D n 44 Tryz.f44 h44 [q44l0 D n] 1}).1
attribute [local irreducible] q44b1
def q44 (D : Dyn) (n : Nat) := (⟨_, by conv => rhs; reduce⟩ : {g // g = fun vs H => funS (s44 D n) D n 44 Tryz.f44 h44 [q44l0 D n, q44b1 D n] vs H}).1
def F44l0 (D : Dyn) (n : Nat) : {g // g = q44l0 D n} := ⟨_, by conv => rhs; delta q44l0; dsimp only; try simp only [FPs]⟩
def F44b1 (D : Dyn) (n : Nat) : {g // g = q44b1 D n} := ⟨_, by conv => rhs; delta q44b1; dsimp only; try simp only [FPs, ← (F44l0 D n).2]⟩
def F44 (D : Dyn) (n : Nat) : {g // g = q44 D n} := ⟨_, by conv => rhs; delta q44; dsimp only; try simp only [FPs, ← (F44l0 D n).2, ← (F44b1 D n).2]⟩
def f44 (D : Dyn) (n : Nat) := (F44 D n).1
theorem f44_eq (D : Dyn) (n : Nat) : f44 D n = funKp (s44 D n) D n 44 Tryz.f44 (ms h44) := (F44 D n).2.trans (by kernel_rfl)
theorem f44_ok {D : Dyn} (hD : DP D) (n : Nat) : FP 44 (f44 D n) := fun_okP X_ok hD (SP.cons (f26_ok hD n) (SP.cons (f27_ok hD n) (SP.cons (f28_ok hD n) (SP.nil)))) Tryz.func44 (by kernel_rfl) (by kernel_rfl) (f44_eq D n)
attribute [local irreducible] f44

def s76 (D : Dyn) (n : Nat) : Tb := ⟨X, []⟩
def h76 : Hint := (.s .o (.s (.s .o (.cl (.s .o .o) .o)) (.s .o .o)))
def f76 (D : Dyn) (n : Nat) := (⟨_, by conv => rhs; reduce⟩ : {g // g = fun vs H => funS (s76 D n) D n 76 Tryz.f76 h76 [] vs H}).1
theorem f76_eq (D : Dyn) (n : Nat) : f76 D n = funKp (s76 D n) D n 76 Tryz.f76 (ms h76) := by kernel_rfl
theorem f76_ok {D : Dyn} (hD : DP D) (n : Nat) : FP 76 (f76 D n) := fun_okP X_ok hD (SP.nil) Tryz.func76 (by kernel_rfl) (by kernel_rfl) (f76_eq D n)
def m76 (D : Dyn) (n : Nat) (vs : List AV) (H : AH) : Option (AV × AH) := clnK (f76 D n) vs H
theorem m76_ok {D : Dyn} (hD : DP D) (n : Nat) : FP 76 (m76 D n) := clnK_okP ⟨_, Tryz.func76, rfl⟩ (AnyW.maps_Clone Tryz.clone76) (f76_ok hD n)
attribute [local irreducible] f76 m76

def s45 (D : Dyn) (n : Nat) : Tb := ⟨X, [(76, m76 D n), (33, f33 D n)]⟩
def h45 : Hint := (.s .o (.s (.s .o (.cl (.s .o .o) .o)) (.s .o (.s .o (.s .o (.s .o .o))))))
def q45 (D : Dyn) (n : Nat) := (⟨_, by conv => rhs; reduce⟩ : {g // g = fun vs H => funS (s45 D n) D n 45 Tryz.f45 h45 [] vs H}).1
def F45 (D : Dyn) (n : Nat) : {g // g = q45 D n} := ⟨_, by conv => rhs; delta q45; dsimp only; try simp only [FPs]⟩
def f45 (D : Dyn) (n : Nat) := (F45 D n).1
theorem f45_eq (D : Dyn) (n : Nat) : f45 D n = funKp (s45 D n) D n 45 Tryz.f45 (ms h45) := (F45 D n).2.trans (by kernel_rfl)
theorem f45_ok {D : Dyn} (hD : DP D) (n : Nat) : FP 45 (f45 D n) := fun_okP X_ok hD (SP.cons (m76_ok hD n) (SP.cons (f33_ok hD n) (SP.nil))) Tryz.func45 (by kernel_rfl) (by kernel_rfl) (f45_eq D n)
attribute [local irreducible] f45

def s46 (D : Dyn) (n : Nat) : Tb := ⟨X, []⟩
def h46 : Hint := (.s .o (.s (.s .o (.cl (.s .o .o) .o)) (.s .o (.s .o .o))))
def q46 (D : Dyn) (n : Nat) := (⟨_, by conv => rhs; reduce⟩ : {g // g = fun vs H => funS (s46 D n) D n 46 Tryz.f46 h46 [] vs H}).1
def F46 (D : Dyn) (n : Nat) : {g // g = q46 D n} := ⟨_, by conv => rhs; delta q46; dsimp only; try simp only [FPs]⟩
def f46 (D : Dyn) (n : Nat) := (F46 D n).1
theorem f46_eq (D : Dyn) (n : Nat) : f46 D n = funKp (s46 D n) D n 46 Tryz.f46 (ms h46) := (F46 D n).2.trans (by kernel_rfl)
theorem f46_ok {D : Dyn} (hD : DP D) (n : Nat) : FP 46 (f46 D n) := fun_okP X_ok hD (SP.nil) Tryz.func46 (by kernel_rfl) (by kernel_rfl) (f46_eq D n)
attribute [local irreducible] f46

def s15 (D : Dyn) (n : Nat) : Tb := ⟨X, [(5, f5 D n), (6, f6 D n), (7, f7 D n), (43, f43 D n), (9, f9 D n), (13, f13 D n), (44, f44 D n), (12, f12 D n), (34, f34 D n), (21, f21 D n), (45, f45 D n), (46, f46 D n), (47, f47 D n), (22, f22 D n), (14, f14 D n), (20, f20 D n)]⟩
def h15 : Hint := (.s .o (.s .o (.s .o (.s .o (.s (.s .o (.cl (.s .o .o) .o)) (.s (.s .o (.b [5,3,5] (.l [0,3,5,7] (.s (.s .o (.cr .o .o)) (.s (.b0 (.s .o (.cl (.s .o .o) .o))) .o))))) (.s .o (.s .o (.s .o (.s (.s .o (.cl (.s .o .o) .o)) (.s .o (.s (.s .o (.b [4,3,5,13,14] (.l [1,3,5,13,14,15] (.s (.s .o (.cr .o .o)) (.s (.b0 (.s .o (.cl (.s .o .o) .o))) .o))))) (.s .o (.s .o (.s .o (.s .o (.s (.s .o (.cl (.s .o .o) .o)) (.s (.s .o (.b [3,5] (.l [2,5,24] (.s (.s .o (.cr .o .o)) (.s (.b0 (.s .o (.cl (.s .o .o) .o))) .o))))) (.s .o .o)))))))))))))))))))
def q15l0 (D : Dyn) (n : Nat) := (⟨_, by conv => rhs; reduce⟩ : {g // some g = prtF (s15 D n) D n 15 Tryz.f15 h15 [] 0}).1
attribute [local irreducible] q15l0
def q15l1 (D : Dyn) (n : Nat) := (⟨_, by conv => rhs; reduce⟩ : {g // some g = prtF (s15 D n) D n 15 Tryz.f15 h15 [q15l0 D n] 1}).1
attribute [local irreducible] q15l1
def q15l2 (D : Dyn) (n : Nat) := (⟨_, by conv => rhs; reduce⟩ : {g // some g = prtF (s15 D n) D n 15 Tryz.f15 h15 [q15l0 D n, q15l1 D n] 2}).1
attribute [local irreducible] q15l2
def q15b3 (D : Dyn) (n : Nat) := (⟨_, by conv => rhs; reduce⟩ : {g // some g = prtF (s15 D n) D n 15 Tryz.f15 h15 [q15l0 D n, q15l1 D n, q15l2 D n] 3}).1
attribute [local irreducible] q15b3
def q15b4 (D : Dyn) (n : Nat) := (⟨_, by conv => rhs; reduce⟩ : {g // some g = prtF (s15 D n) D n 15 Tryz.f15 h15 [q15l0 D n, q15l1 D n, q15l2 D n, q15b3 D n] 4}).1
attribute [local irreducible] q15b4
def q15b5 (D : Dyn) (n : Nat) := (⟨_, by conv => rhs; reduce⟩ : {g // some g = prtF (s15 D n) D n 15 Tryz.f15 h15 [q15l0 D n, q15l1 D n, q15l2 D n, q15b3 D n, q15b4 D n] 5}).1
attribute [local irreducible] q15b5
def q15 (D : Dyn) (n : Nat) := (⟨_, by conv => rhs; reduce⟩ : {g // g = fun vs H => funS (s15 D n) D n 15 Tryz.f15 h15 [q15l0 D n, q15l1 D n, q15l2 D n, q15b3 D n, q15b4 D n, q15b5 D n] vs H}).1
def F15l0 (D : Dyn) (n : Nat) : {g // g = q15l0 D n} := ⟨_, by conv => rhs; delta q15l0; dsimp only; try simp only [FPs]⟩
def F15l1 (D : Dyn) (n : Nat) : {g // g = q15l1 D n} := ⟨_, by conv => rhs; delta q15l1; dsimp only; try simp only [FPs, ← (F15l0 D n).2]⟩
def F15l2 (D : Dyn) (n : Nat) : {g // g = q15l2 D n} := ⟨_, by conv => rhs; delta q15l2; dsimp only; try simp only [FPs, ← (F15l0 D n).2, ← (F15l1 D n).2]⟩
def F15b3 (D : Dyn) (n : Nat) : {g // g = q15b3 D n} := ⟨_, by conv => rhs; delta q15b3; dsimp only; try simp only [FPs, ← (F15l0 D n).2, ← (F15l1 D n).2, ← (F15l2 D n).2]⟩
def F15b4 (D : Dyn) (n : Nat) : {g // g = q15b4 D n} := ⟨_, by conv => rhs; delta q15b4; dsimp only; try simp only [FPs, ← (F15l0 D n).2, ← (F15l1 D n).2, ← (F15l2 D n).2, ← (F15b3 D n).2]⟩
def F15b5 (D : Dyn) (n : Nat) : {g // g = q15b5 D n} := ⟨_, by conv => rhs; delta q15b5; dsimp only; try simp only [FPs, ← (F15l0 D n).2, ← (F15l1 D n).2, ← (F15l2 D n).2, ← (F15b3 D n).2, ← (F15b4 D n).2]⟩
def F15 (D : Dyn) (n : Nat) : {g // g = q15 D n} := ⟨_, by conv => rhs; delta q15; dsimp only; try simp only [FPs, ← (F15l0 D n).2, ← (F15l1 D n).2, ← (F15l2 D n).2, ← (F15b3 D n).2, ← (F15b4 D n).2, ← (F15b5 D n).2]⟩
def f15 (D : Dyn) (n : Nat) := (F15 D n).1
theorem f15_eq (D : Dyn) (n : Nat) : f15 D n = funKp (s15 D n) D n 15 Tryz.f15 (ms h15) := (F15 D n).2.trans (by kernel_rfl)
theorem f15_ok {D : Dyn} (hD : DP D) (n : Nat) : FP 15 (f15 D n) := fun_okP X_ok hD (SP.cons (f5_ok hD n) (SP.cons (f6_ok hD n) (SP.cons (f7_ok hD n) (SP.cons (f43_ok hD n) (SP.cons (f9_ok hD n) (SP.cons (f13_ok hD n) (SP.cons (f44_ok hD n) (SP.cons (f12_ok hD n) (SP.cons (f34_ok hD n) (SP.cons (f21_ok hD n) (SP.cons (f45_ok hD n) (SP.cons (f46_ok hD n) (SP.cons (f47_ok hD n) (SP.cons (f22_ok hD n) (SP.cons (f14_ok hD n) (SP.cons (f20_ok hD n) (SP.nil))))))))))))))))) Tryz.func15 (by kernel_rfl) (by kernel_rfl) (f15_eq D n)
attribute [local irreducible] f15

def s16 (D : Dyn) (n : Nat) : Tb := ⟨X, [(5, f5 D n), (6, f6 D n), (7, f7 D n), (43, f43 D n), (9, f9 D n), (13, f13 D n), (21, f21 D n), (12, f12 D n), (11, f11 D n)]⟩
def h16 : Hint := (.s .o (.s .o (.s .o (.s .o (.s (.s .o (.cl (.s .o .o) .o)) (.s .o (.s .o (.s (.b [17,8191,25,2097151] .o) .o))))))))
def q16 (D : Dyn) (n : Nat) := (⟨_, by conv => rhs; reduce⟩ : {g // g = fun vs H => funS (s16 D n) D n 16 Tryz.f16 h16 [] vs H}).1
def F16 (D : Dyn) (n : Nat) : {g // g = q16 D n} := ⟨_, by conv => rhs; delta q16; dsimp only; try simp only [FPs]⟩
def f16 (D : Dyn) (n : Nat) := (F16 D n).1
theorem f16_eq (D : Dyn) (n : Nat) : f16 D n = funKp (s16 D n) D n 16 Tryz.f16 (ms h16) := (F16 D n).2.trans (by kernel_rfl)
theorem f16_ok {D : Dyn} (hD : DP D) (n : Nat) : FP 16 (f16 D n) := fun_okP X_ok hD (SP.cons (f5_ok hD n) (SP.cons (f6_ok hD n) (SP.cons (f7_ok hD n) (SP.cons (f43_ok hD n) (SP.cons (f9_ok hD n) (SP.cons (f13_ok hD n) (SP.cons (f21_ok hD n) (SP.cons (f12_ok hD n) (SP.cons (f11_ok hD n) (SP.nil)))))))))) Tryz.func16 (by kernel_rfl) (by kernel_rfl) (f16_eq D n)
attribute [local irreducible] f16

def s78 (D : Dyn) (n : Nat) : Tb := ⟨X, []⟩
def h78 : Hint := (.s .o (.s (.s .o (.cl (.s .o .o) .o)) (.s .o .o)))
def f78 (D : Dyn) (n : Nat) := (⟨_, by conv => rhs; reduce⟩ : {g // g = fun vs H => funS (s78 D n) D n 78 Tryz.f78 h78 [] vs H}).1
theorem f78_eq (D : Dyn) (n : Nat) : f78 D n = funKp (s78 D n) D n 78 Tryz.f78 (ms h78) := by kernel_rfl
theorem f78_ok {D : Dyn} (hD : DP D) (n : Nat) : FP 78 (f78 D n) := fun_okP X_ok hD (SP.nil) Tryz.func78 (by kernel_rfl) (by kernel_rfl) (f78_eq D n)
def m78 (D : Dyn) (n : Nat) (vs : List AV) (H : AH) : Option (AV × AH) := clnK (f78 D n) vs H
theorem m78_ok {D : Dyn} (hD : DP D) (n : Nat) : FP 78 (m78 D n) := clnK_okP ⟨_, Tryz.func78, rfl⟩ (AnyW.maps_Clone Tryz.clone78) (f78_ok hD n)
attribute [local irreducible] f78 m78

def s79 (D : Dyn) (n : Nat) : Tb := ⟨X, []⟩
def h79 : Hint := (.s .o (.s (.s .o (.cl (.s .o .o) .o)) (.s .o .o)))
def q79 (D : Dyn) (n : Nat) := (⟨_, by conv => rhs; reduce⟩ : {g // g = fun vs H => funS (s79 D n) D n 79 Tryz.f79 h79 [] vs H}).1
def F79 (D : Dyn) (n : Nat) : {g // g = q79 D n} := ⟨_, by conv => rhs; delta q79; dsimp only; try simp only [FPs]⟩
def f79 (D : Dyn) (n : Nat) := (F79 D n).1
theorem f79_eq (D : Dyn) (n : Nat) : f79 D n = funKp (s79 D n) D n 79 Tryz.f79 (ms h79) := (F79 D n).2.trans (by kernel_rfl)
theorem f79_ok {D : Dyn} (hD : DP D) (n : Nat) : FP 79 (f79 D n) := fun_okP X_ok hD (SP.nil) Tryz.func79 (by kernel_rfl) (by kernel_rfl) (f79_eq D n)
attribute [local irreducible] f79

def s80 (D : Dyn) (n : Nat) : Tb := ⟨X, []⟩
def f80 (D : Dyn) (n : Nat) (vs : List AV) (H : AH) : Option (AV × AH) :=
  outR (hd vs fun x0 vs => hd vs fun x1 vs => nl vs <|
  tld (mtp80_0 [x0, x1] H) H.next fun H => 
  some (.ret (.tuple []), H))
def h80 : Hint := (.t [0, 1] mtp80_0)
def ho80 : Hint := (.t [0, 1] mt80_0)
theorem f80_eq (D : Dyn) (n : Nat) : f80 D n = funKp (s80 D n) D n 80 Tryz.f80 h80 := by kernel_rfl
theorem f80_tolds : toldsF Tryz.f80 ho80 = [(q80_0.code, [0, 1], mt80_0)] := by kernel_rfl
theorem f80_told : ∀ x ∈ toldsF Tryz.f80 ho80, ToldOk PP Tryz.f80.ntmps 80 x.1 x.2.1 x.2.2 := by
  rw [f80_tolds]; intro x hx
  simp only [List.mem_cons, List.not_mem_nil, or_false] at hx
  subst hx; exact told80_0
theorem f80_hs : HS h80 ho80 := by
  unfold h80 ho80
  repeat (first | exact HS.t mtp80_0_sim | constructor)
theorem f80_ok {D : Dyn} (hD : DP D) (n : Nat) : FP 80 (f80 D n) := fun_okPT X_ok hD (SP.nil) Tryz.func80 (sitesT_ok (by kernel_rfl) f80_told) f80_hs (f80_eq D n)
attribute [local irreducible] f80

def s81 (D : Dyn) (n : Nat) : Tb := ⟨X, []⟩
def h81 : Hint := (.s .o (.s (.s .o (.cl (.s .o .o) .o)) (.s .o .o)))
def q81 (D : Dyn) (n : Nat) := (⟨_, by conv => rhs; reduce⟩ : {g // g = fun vs H => funS (s81 D n) D n 81 Tryz.f81 h81 [] vs H}).1
def F81 (D : Dyn) (n : Nat) : {g // g = q81 D n} := ⟨_, by conv => rhs; delta q81; dsimp only; try simp only [FPs]⟩
def f81 (D : Dyn) (n : Nat) := (F81 D n).1
theorem f81_eq (D : Dyn) (n : Nat) : f81 D n = funKp (s81 D n) D n 81 Tryz.f81 (ms h81) := (F81 D n).2.trans (by kernel_rfl)
theorem f81_ok {D : Dyn} (hD : DP D) (n : Nat) : FP 81 (f81 D n) := fun_okP X_ok hD (SP.nil) Tryz.func81 (by kernel_rfl) (by kernel_rfl) (f81_eq D n)
attribute [local irreducible] f81

def s48 (D : Dyn) (n : Nat) : Tb := ⟨X, [(78, m78 D n), (23, f23 D n), (79, f79 D n), (80, f80 D n), (81, f81 D n)]⟩
def h48 : Hint := (.s .o (.s (.s .o (.cl (.s .o .o) .o)) (.s (.b [8,240,9,511] .o) (.s .o (.s (.b [8,255] .o) (.s (.b [10,960,13,8189,16,65535] .o) (.s .o (.s .o .o))))))))
def q48 (D : Dyn) (n : Nat) := (⟨_, by conv => rhs; reduce⟩ : {g // g = fun vs H => funS (s48 D n) D n 48 Tryz.f48 h48 [] vs H}).1
def F48 (D : Dyn) (n : Nat) : {g // g = q48 D n} := ⟨_, by conv => rhs; delta q48; dsimp only; try simp only [FPs]⟩
def f48 (D : Dyn) (n : Nat) := (F48 D n).1
theorem f48_eq (D : Dyn) (n : Nat) : f48 D n = funKp (s48 D n) D n 48 Tryz.f48 (ms h48) := (F48 D n).2.trans (by kernel_rfl)
theorem f48_ok {D : Dyn} (hD : DP D) (n : Nat) : FP 48 (f48 D n) := fun_okP X_ok hD (SP.cons (m78_ok hD n) (SP.cons (f23_ok hD n) (SP.cons (f79_ok hD n) (SP.cons (f80_ok hD n) (SP.cons (f81_ok hD n) (SP.nil)))))) Tryz.func48 (by kernel_rfl) (by kernel_rfl) (f48_eq D n)
attribute [local irreducible] f48

def s17 (D : Dyn) (n : Nat) : Tb := ⟨X, [(5, f5 D n), (6, f6 D n), (7, f7 D n), (43, f43 D n), (9, f9 D n), (13, f13 D n), (12, f12 D n), (11, f11 D n), (48, f48 D n), (49, f49 D n), (50, f50 D n), (21, f21 D n), (14, f14 D n)]⟩
def h17 : Hint := (.s .o (.s .o (.s .o (.s .o (.s (.s .o (.cl (.s .o .o) .o)) (.s (.s .o (.b [5,1,3,5] (.l [0,1,3,5,7] (.s (.s .o (.cr .o .o)) (.s (.b0 (.s .o (.cl (.s .o .o) .o))) .o))))) (.s .o (.s .o (.s (.s .o (.cl (.s .o .o) .o)) (.s (.s .o (.b [4] (.l [3,1,8,11,13] (.s (.s .o (.cr .o .o)) (.s (.b0 (.s .o (.s .o (.s .o (.s .o (.s (.s (.b [15,32767] .o) (.cl (.s .o .o) .o)) (.s .o (.b [2,1,8,11,13] (.l [1,1,8,11,13,17,19] (.s (.s .o (.cr .o .o)) (.s (.b0 (.s .o (.s .o (.s (.s .o (.cl .o .o)) (.s .o (.cl (.s .o .o) .o)))))) .o))))))))))) .o))))) (.s .o .o)))))))))))
def q17l0 (D : Dyn) (n : Nat) := (⟨_, by conv => rhs; reduce⟩ : {g // some g = prtF (s17 D n) D n 17 Tryz.f17 h17 [] 0}).1
attribute [local irreducible] q17l0
def q17l1 (D : Dyn) (n : Nat) := (⟨_, by conv => rhs; reduce⟩ : {g // some g = prtF (s17 D n) D n 17 Tryz.f17 h17 [q17l0 D n] 1}).1
attribute [local irreducible] q17l1
def q17b2 (D : Dyn) (n : Nat) := (⟨_, by conv => rhs; reduce⟩ : {g // some g = prtF (s17 D n) D n 17 Tryz.f17 h17 [q17l0 D n, q17l1 D n] 2}).1
attribute [local irreducible] q17b2
def q17l3 (D : Dyn) (n : Nat) := (⟨_, by conv => rhs; reduce⟩ : {g // some g = prtF (s17 D n) D n 17 Tryz.f17 h17 [q17l0 D n, q17l1 D n, q17b2 D n] 3}).1
attribute [local irreducible] q17l3
def q17b4 (D : Dyn) (n : Nat) := (⟨_, by conv => rhs; reduce⟩ : {g // some g = prtF (s17 D n) D n 17 Tryz.f17 h17 [q17l0 D n, q17l1 D n, q17b2 D n, q17l3 D n] 4}).1
attribute [local irreducible] q17b4
def q17b5 (D : Dyn) (n : Nat) := (⟨_, by conv => rhs; reduce⟩ : {g // some g = prtF (s17 D n) D n 17 Tryz.f17 h17 [q17l0 D n, q17l1 D n, q17b2 D n, q17l3 D n, q17b4 D n] 5}).1
attribute [local irreducible] q17b5
def q17 (D : Dyn) (n : Nat) := (⟨_, by conv => rhs; reduce⟩ : {g // g = fun vs H => funS (s17 D n) D n 17 Tryz.f17 h17 [q17l0 D n, q17l1 D n, q17b2 D n, q17l3 D n, q17b4 D n, q17b5 D n] vs H}).1
def F17l0 (D : Dyn) (n : Nat) : {g // g = q17l0 D n} := ⟨_, by conv => rhs; delta q17l0; dsimp only; try simp only [FPs]⟩
def F17l1 (D : Dyn) (n : Nat) : {g // g = q17l1 D n} := ⟨_, by conv => rhs; delta q17l1; dsimp only; try simp only [FPs, ← (F17l0 D n).2]⟩
def F17b2 (D : Dyn) (n : Nat) : {g // g = q17b2 D n} := ⟨_, by conv => rhs; delta q17b2; dsimp only; try simp only [FPs, ← (F17l0 D n).2, ← (F17l1 D n).2]⟩
def F17l3 (D : Dyn) (n : Nat) : {g // g = q17l3 D n} := ⟨_, by conv => rhs; delta q17l3; dsimp only; try simp only [FPs, ← (F17l0 D n).2, ← (F17l1 D n).2, ← (F17b2 D n).2]⟩
def F17b4 (D : Dyn) (n : Nat) : {g // g = q17b4 D n} := ⟨_, by conv => rhs; delta q17b4; dsimp only; try simp only [FPs, ← (F17l0 D n).2, ← (F17l1 D n).2, ← (F17b2 D n).2, ← (F17l3 D n).2]⟩
def F17b5 (D : Dyn) (n : Nat) : {g // g = q17b5 D n} := ⟨_, by conv => rhs; delta q17b5; dsimp only; try simp only [FPs, ← (F17l0 D n).2, ← (F17l1 D n).2, ← (F17b2 D n).2, ← (F17l3 D n).2, ← (F17b4 D n).2]⟩
def F17 (D : Dyn) (n : Nat) : {g // g = q17 D n} := ⟨_, by conv => rhs; delta q17; dsimp only; try simp only [FPs, ← (F17l0 D n).2, ← (F17l1 D n).2, ← (F17b2 D n).2, ← (F17l3 D n).2, ← (F17b4 D n).2, ← (F17b5 D n).2]⟩
def f17 (D : Dyn) (n : Nat) := (F17 D n).1
theorem f17_eq (D : Dyn) (n : Nat) : f17 D n = funKp (s17 D n) D n 17 Tryz.f17 (ms h17) := (F17 D n).2.trans (by kernel_rfl)
theorem f17_ok {D : Dyn} (hD : DP D) (n : Nat) : FP 17 (f17 D n) := fun_okP X_ok hD (SP.cons (f5_ok hD n) (SP.cons (f6_ok hD n) (SP.cons (f7_ok hD n) (SP.cons (f43_ok hD n) (SP.cons (f9_ok hD n) (SP.cons (f13_ok hD n) (SP.cons (f12_ok hD n) (SP.cons (f11_ok hD n) (SP.cons (f48_ok hD n) (SP.cons (f49_ok hD n) (SP.cons (f50_ok hD n) (SP.cons (f21_ok hD n) (SP.cons (f14_ok hD n) (SP.nil)))))))))))))) Tryz.func17 (by kernel_rfl) (by kernel_rfl) (f17_eq D n)
attribute [local irreducible] f17

def s51 (D : Dyn) (n : Nat) : Tb := ⟨X, []⟩
def h51 : Hint := (.s .o (.s (.s .o (.cl (.s .o .o) .o)) (.s .o .o)))
def q51 (D : Dyn) (n : Nat) := (⟨_, by conv => rhs; reduce⟩ : {g // g = fun vs H => funS (s51 D n) D n 51 Tryz.f51 h51 [] vs H}).1
def F51 (D : Dyn) (n : Nat) : {g // g = q51 D n} := ⟨_, by conv => rhs; delta q51; dsimp only; try simp only [FPs]⟩
def f51 (D : Dyn) (n : Nat) := (F51 D n).1
theorem f51_eq (D : Dyn) (n : Nat) : f51 D n = funKp (s51 D n) D n 51 Tryz.f51 (ms h51) := (F51 D n).2.trans (by kernel_rfl)
theorem f51_ok {D : Dyn} (hD : DP D) (n : Nat) : FP 51 (f51 D n) := fun_okP X_ok hD (SP.nil) Tryz.func51 (by kernel_rfl) (by kernel_rfl) (f51_eq D n)
attribute [local irreducible] f51

def s52 (D : Dyn) (n : Nat) : Tb := ⟨X, [(84, f84 D n), (85, f85 D n)]⟩
def h52 : Hint := (.s .o (.s (.s .o (.s .o (.cl (.s .o .o) .o))) (.s .o (.s .o .o))))
def q52 (D : Dyn) (n : Nat) := (⟨_, by conv => rhs; reduce⟩ : {g // g = fun vs H => funS (s52 D n) D n 52 Tryz.f52 h52 [] vs H}).1
def F52 (D : Dyn) (n : Nat) : {g // g = q52 D n} := ⟨_, by conv => rhs; delta q52; dsimp only; try simp only [FPs]⟩
def f52 (D : Dyn) (n : Nat) := (F52 D n).1
theorem f52_eq (D : Dyn) (n : Nat) : f52 D n = funKp (s52 D n) D n 52 Tryz.f52 (ms h52) := (F52 D n).2.trans (by kernel_rfl)
theorem f52_ok {D : Dyn} (hD : DP D) (n : Nat) : FP 52 (f52 D n) := fun_okP X_ok hD (SP.cons (f84_ok hD n) (SP.cons (f85_ok hD n) (SP.nil))) Tryz.func52 (by kernel_rfl) (by kernel_rfl) (f52_eq D n)
attribute [local irreducible] f52

def s18 (D : Dyn) (n : Nat) : Tb := ⟨X, [(5, f5 D n), (6, f6 D n), (51, f51 D n), (7, f7 D n), (13, f13 D n), (12, f12 D n), (22, f22 D n), (49, f49 D n), (50, f50 D n), (8, f8 D n), (10, f10 D n), (11, f11 D n), (44, f44 D n), (14, f14 D n), (20, f20 D n), (52, f52 D n), (34, f34 D n), (53, f53 D n), (54, f54 D n), (21, f21 D n)]⟩
def h18 : Hint := (.s .o (.s .o (.s .o (.s .o (.s .o (.s (.s .o (.cl (.s .o .o) .o)) (.s .o (.s .o (.s (.s .o (.cl (.s .o .o) .o)) (.s .o (.s .o (.s (.s .o (.cl (.s .o .o) .o)) (.s .o (.s .o (.s .o (.s (.s .o (.cl (.s .o .o) .o)) (.s .o (.s .o (.s (.s .o (.cl (.s .o .o) .o)) (.s .o (.s .o (.s .o (.s .o (.s (.s (.c [16,65535,21,2097151,26,67108863,32,4294967295] (.l [0,1,2,3,4,5,6,7,8,9,10,11,12,13,14,15,16,17,18,19,20,21,22,23,24,25,27,26,28,29,30,31,32,33,34] .o) .o) (.cl (.s .o .o) .o)) (.s .o (.s .o (.s .o (.s (.s .o (.cl (.s .o .o) .o)) (.s .o (.s .o (.s .o (.s .o (.s .o (.s (.s .o (.cl (.s .o .o) .o)) (.s .o (.s .o .o))))))))))))))))))))))))))))))))))))
def q18 (D : Dyn) (n : Nat) := (⟨_, by conv => rhs; reduce⟩ : {g // g = fun vs H => funS (s18 D n) D n 18 Tryz.f18 h18 [] vs H}).1
def F18 (D : Dyn) (n : Nat) : {g // g = q18 D n} := ⟨_, by conv => rhs; delta q18; dsimp only; try simp only [FPs]⟩
def f18 (D : Dyn) (n : Nat) := (F18 D n).1
theorem f18_eq (D : Dyn) (n : Nat) : f18 D n = funKp (s18 D n) D n 18 Tryz.f18 (ms h18) := (F18 D n).2.trans (by kernel_rfl)
theorem f18_ok {D : Dyn} (hD : DP D) (n : Nat) : FP 18 (f18 D n) := fun_okP X_ok hD (SP.cons (f5_ok hD n) (SP.cons (f6_ok hD n) (SP.cons (f51_ok hD n) (SP.cons (f7_ok hD n) (SP.cons (f13_ok hD n) (SP.cons (f12_ok hD n) (SP.cons (f22_ok hD n) (SP.cons (f49_ok hD n) (SP.cons (f50_ok hD n) (SP.cons (f8_ok hD n) (SP.cons (f10_ok hD n) (SP.cons (f11_ok hD n) (SP.cons (f44_ok hD n) (SP.cons (f14_ok hD n) (SP.cons (f20_ok hD n) (SP.cons (f52_ok hD n) (SP.cons (f34_ok hD n) (SP.cons (f53_ok hD n) (SP.cons (f54_ok hD n) (SP.cons (f21_ok hD n) (SP.nil))))))))))))))))))))) Tryz.func18 (by kernel_rfl) (by kernel_rfl) (f18_eq D n)
attribute [local irreducible] f18

def s19 (D : Dyn) (n : Nat) : Tb := ⟨X, [(8, f8 D n), (10, f10 D n), (11, f11 D n), (44, f44 D n), (12, f12 D n), (13, f13 D n), (14, f14 D n), (21, f21 D n), (20, f20 D n), (45, f45 D n)]⟩
def h19 : Hint := (.s .o (.s .o (.s .o (.s .o (.s .o (.s .o (.s .o (.s .o .o))))))))
def q19 (D : Dyn) (n : Nat) := (⟨_, by conv => rhs; reduce⟩ : {g // g = fun vs H => funS (s19 D n) D n 19 Tryz.f19 h19 [] vs H}).1
def F19 (D : Dyn) (n : Nat) : {g // g = q19 D n} := ⟨_, by conv => rhs; delta q19; dsimp only; try simp only [FPs]⟩
def f19 (D : Dyn) (n : Nat) := (F19 D n).1
theorem f19_eq (D : Dyn) (n : Nat) : f19 D n = funKp (s19 D n) D n 19 Tryz.f19 (ms h19) := (F19 D n).2.trans (by kernel_rfl)
theorem f19_ok {D : Dyn} (hD : DP D) (n : Nat) : FP 19 (f19 D n) := fun_okP X_ok hD (SP.cons (f8_ok hD n) (SP.cons (f10_ok hD n) (SP.cons (f11_ok hD n) (SP.cons (f44_ok hD n) (SP.cons (f12_ok hD n) (SP.cons (f13_ok hD n) (SP.cons (f14_ok hD n) (SP.cons (f21_ok hD n) (SP.cons (f20_ok hD n) (SP.cons (f45_ok hD n) (SP.nil))))))))))) Tryz.func19 (by kernel_rfl) (by kernel_rfl) (f19_eq D n)
attribute [local irreducible] f19

def s3 (D : Dyn) (n : Nat) : Tb := ⟨X, [(4, f4 D n), (5, f5 D n), (6, f6 D n), (7, f7 D n), (8, f8 D n), (9, f9 D n), (10, f10 D n), (11, f11 D n), (12, f12 D n), (13, f13 D n), (14, f14 D n), (15, f15 D n), (16, f16 D n), (17, f17 D n), (18, f18 D n), (19, f19 D n)]⟩
def h3 : Hint := (.s .o (.s (.s .o (.cl (.s .o .o) .o)) (.s .o (.s .o (.s .o (.s .o (.s .o (.s .o (.s .o (.s (.s .o (.cl (.s .o .o) .o)) (.s .o (.s .o (.s .o (.s .o (.s .o (.s .o (.s .o (.s .o (.s .o (.s .o (.s (.s .o (.cl (.s .o .o) .o)) (.s .o .o))))))))))))))))))))))
def q3 (D : Dyn) (n : Nat) := (⟨_, by conv => rhs; reduce⟩ : {g // g = fun vs H => funS (s3 D n) D n 3 Tryz.f3 h3 [] vs H}).1
def F3 (D : Dyn) (n : Nat) : {g // g = q3 D n} := ⟨_, by conv => rhs; delta q3; dsimp only; try simp only [FPs]⟩
def f3 (D : Dyn) (n : Nat) := (F3 D n).1
theorem f3_eq (D : Dyn) (n : Nat) : f3 D n = funKp (s3 D n) D n 3 Tryz.f3 (ms h3) := (F3 D n).2.trans (by kernel_rfl)
theorem f3_ok {D : Dyn} (hD : DP D) (n : Nat) : FP 3 (f3 D n) := fun_okP X_ok hD (SP.cons (f4_ok hD n) (SP.cons (f5_ok hD n) (SP.cons (f6_ok hD n) (SP.cons (f7_ok hD n) (SP.cons (f8_ok hD n) (SP.cons (f9_ok hD n) (SP.cons (f10_ok hD n) (SP.cons (f11_ok hD n) (SP.cons (f12_ok hD n) (SP.cons (f13_ok hD n) (SP.cons (f14_ok hD n) (SP.cons (f15_ok hD n) (SP.cons (f16_ok hD n) (SP.cons (f17_ok hD n) (SP.cons (f18_ok hD n) (SP.cons (f19_ok hD n) (SP.nil))))))))))))))))) Tryz.func3 (by kernel_rfl) (by kernel_rfl) (f3_eq D n)
attribute [local irreducible] f3
end Go.Eng.Sh
