/- Shallow functions, by program (gent4.py). -/
import Derived.Test.YthckidjjcakabaaGreatRX1
import Derived.Test.YthckidjjcakabaaGreatProg
import Derived.KernelRfl
noncomputable section
namespace Go.Eng.Sh
open Go.Proofs
set_option maxRecDepth 100000
set_option maxHeartbeats 4000000
set_option linter.all false
attribute [local irreducible] bV bR hd cnd jn jb loopK wnt chk newB bA bInt bStr bBool cmpO eqP eqS eqM eqF eqPL cvI cvSS slStr slArr ixArr ixSl ixStr fAd lnStr lnSl lnMap pk3 s2a bxV lkM upM dlM mkM callV nl outR tld endQ beginK endR endLp jmpK rfC mn2 mx2 aun pExtract pNil undefA isW aveq ldNp ld1p stNp cvBSp cvSBp slSlp ixAg1p ixAgNp fd1p fdNp apPp apZp cpyp bldSp bldAp bldLp mkSlp eqAp clSp bC pnK ifNil asrK noPan mkR clM acap mtp66_0 mtp80_0 f23 q23 f5 q5 f24 q24 q6l0 q6b1 f6 q6 f55 q55 q56l0 q56b1 f56 q56 f25 q25 f7 q7 f26 q26 f67 q67 f66j0 f66l1 f66b2 f66 q95l0 q95l1 q95b2 q95b3 f95 q95 f73 q73 q72l0 q72l1 q72b2 q72l3 q72b4 q72b5 f72 q72 q124j0 q124l1 q124b2 q124j3 f124 q124 f32 q32 f33 q33 q120j0 f120 q120 q104l0 q104b1 f104 q104 q106l0 q106b1 f106 q106 q71j0 q71j1 f71 q71 f27 q27 f64 q64 f99 q99 q101j0 q101j1 f101 q101 f117 q117 q102j0 f102 q102 f118 q118 f100 q100 q98j0 q98j1 q98j2 q98j3 f98 q98 q65j0 q65j1 f65 q65 f88 q88 f123l0 f123b1 f123 m123 f114 q114 f87 q87 q113l0 q113b1 f113 q113 f53 q53 f86 q86 f89 q89 f84 q84 f82 q82 f49 q49 f37 q37 q57j0 q57j1 q57j2 f57 q57 f90 q90 f116 q116 f92 q92 f94 q94 f115 q115 f91 q91 f93 q93
def s58 (D : Dyn) (n : Nat) : Tb := ⟨X, [(90, f90 D n), (92, f92 D n), (94, f94 D n)]⟩
def h58 : Hint := (.s .o (.s (.s .o (.cl (.s .o .o) .o)) (.s .o (.s .o (.s (.s .o (.cl (.s .o .o) .o)) (.s .o (.s (.s .o (.c [4,4,6,7,8] .o .o)) (.s (.s (.b [] .o) (.b [3,4,6] (.l [2,4,6,8,47,48] (.s .o (.s (.cr .o .o) (.s (.b0 (.s (.s .o (.b [1,4,6,8,47,48] (.l [0,4,6,8,47,48,50,51,52] (.s .o (.s (.cr .o .o) (.s (.b0 (.s .o .o)) .o)))))) (.s .o (.cl .o .o)))) .o)))))) (.s (.s .o (.cl (.s .o .o) .o)) (.s .o .o))))))))))
def q58l0 (D : Dyn) (n : Nat) := (⟨_, by conv => rhs; reduce⟩ : {g // some g = prtF (s58 D n) D n 58 Tryz.f58 h58 [] 0}).1
attribute [local irreducible] q58l0
def q58b1 (D : Dyn) (n : Nat) := (⟨_, by conv => rhs; reduce⟩ : {g // some g = prtF (s58 D n) D n 58 Tryz.f58 h58 [q58l0 D n] 1}).1
attribute [local irreducible] q58b1
def q58l2 (D : Dyn) (n : Nat) := (⟨_, by conv => rhs; reduce⟩ : {g // some g = prtF (s58 D n) D n 58 Tryz.f58 h58 [q58l0 D n, q58b1 D n] 2}).1
attribute [local irreducible] q58l2
def q58b3 (D : Dyn) (n : Nat) := (⟨_, by conv => rhs; reduce⟩ : {g // some g = prtF (s58 D n) D n 58 Tryz.f58 h58 [q58l0 D n, q58b1 D n, q58l2 D n] 3}).1
attribute [local irreducible] q58b3
def q58j4 (D : Dyn) (n : Nat) := (⟨_, by conv => rhs; reduce⟩ : {g // some g = prtF (s58 D n) D n 58 Tryz.f58 h58 [q58l0 D n, q58b1 D n, q58l2 D n, q58b3 D n] 4}).1
attribute [local irreducible] q58j4
def q58 (D : Dyn) (n : Nat) := (⟨_, by conv => rhs; reduce⟩ : {g // g = fun vs H => funS (s58 D n) D n 58 Tryz.f58 h58 [q58l0 D n, q58b1 D n, q58l2 D n, q58b3 D n, q58j4 D n] vs H}).1
def F58l0 (D : Dyn) (n : Nat) : {g // g = q58l0 D n} := ⟨_, by conv => rhs; delta q58l0; dsimp only; try simp only [FPs]⟩
def F58b1 (D : Dyn) (n : Nat) : {g // g = q58b1 D n} := ⟨_, by conv => rhs; delta q58b1; dsimp only; try simp only [FPs, ← (F58l0 D n).2]⟩
def F58l2 (D : Dyn) (n : Nat) : {g // g = q58l2 D n} := ⟨_, by conv => rhs; delta q58l2; dsimp only; try simp only [FPs, ← (F58l0 D n).2, ← (F58b1 D n).2]⟩
def F58b3 (D : Dyn) (n : Nat) : {g // g = q58b3 D n} := ⟨_, by conv => rhs; delta q58b3; dsimp only; try simp only [FPs, ← (F58l0 D n).2, ← (F58b1 D n).2, ← (F58l2 D n).2]⟩
def F58j4 (D : Dyn) (n : Nat) : {g // g = q58j4 D n} := ⟨_, by conv => rhs; delta q58j4; dsimp only; try simp only [FPs, ← (F58l0 D n).2, ← (F58b1 D n).2, ← (F58l2 D n).2, ← (F58b3 D n).2]⟩
def F58 (D : Dyn) (n : Nat) : {g // g = q58 D n} := ⟨_, by conv => rhs; delta q58; dsimp only; try simp only [FPs, ← (F58l0 D n).2, ← (F58b1 D n).2, ← (F58l2 D n).2, ← (F58b3 D n).2, ← (F58j4 D n).2]⟩
def f58 (D : Dyn) (n : Nat) := (F58 D n).1
theorem f58_eq (D : Dyn) (n : Nat) : f58 D n = funKp (s58 D n) D n 58 Tryz.f58 (ms h58) := (F58 D n).2.trans (by kernel_rfl)
theorem f58_ok {D : Dyn} (hD : DP D) (n : Nat) : FP 58 (f58 D n) := fun_okP X_ok hD (SP.cons (f90_ok hD n) (SP.cons (f92_ok hD n) (SP.cons (f94_ok hD n) (SP.nil)))) Tryz.func58 (by kernel_rfl) (by kernel_rfl) (f58_eq D n)
attribute [local irreducible] f58

def s28 (D : Dyn) (n : Nat) : Tb := ⟨X, [(57, f57 D n), (58, f58 D n)]⟩
def h28 : Hint := (.s .o (.s (.s .o (.cl (.s (.b [11,1535] .o) (.s (.s .o (.cl (.s .o .o) .o)) (.s .o .o))) .o)) (.s .o (.s (.s .o (.cl (.s .o .o) .o)) (.s (.s .o (.cl (.s .o .o) .o)) (.s .o .o))))))
def q28 (D : Dyn) (n : Nat) := (⟨_, by conv => rhs; reduce⟩ : {g // g = fun vs H => funS (s28 D n) D n 28 Tryz.f28 h28 [] vs H}).1
def F28 (D : Dyn) (n : Nat) : {g // g = q28 D n} := ⟨_, by conv => rhs; delta q28; dsimp only; try simp only [FPs]⟩
def f28 (D : Dyn) (n : Nat) := (F28 D n).1
theorem f28_eq (D : Dyn) (n : Nat) : f28 D n = funKp (s28 D n) D n 28 Tryz.f28 (ms h28) := (F28 D n).2.trans (by kernel_rfl)
theorem f28_ok {D : Dyn} (hD : DP D) (n : Nat) : FP 28 (f28 D n) := fun_okP X_ok hD (SP.cons (f57_ok hD n) (SP.cons (f58_ok hD n) (SP.nil))) Tryz.func28 (by kernel_rfl) (by kernel_rfl) (f28_eq D n)
attribute [local irreducible] f28

def s30 (D : Dyn) (n : Nat) : Tb := ⟨X, []⟩
def h30 : Hint := (.s .o (.s .o (.s (.s .o (.b [2,5] (.l [1,1,2,5,9,10,11] (.s .o (.s (.cr .o .o) (.s (.b0 (.s .o (.s .o (.c [0,1,2,5,9,10,11] .o .o)))) .o)))))) (.s .o .o))))
def q30j0 (D : Dyn) (n : Nat) := (⟨_, by conv => rhs; reduce⟩ : {g // some g = prtF (s30 D n) D n 30 Tryz.f30 h30 [] 0}).1
attribute [local irreducible] q30j0
def q30l1 (D : Dyn) (n : Nat) := (⟨_, by conv => rhs; reduce⟩ : {g // some g = prtF (s30 D n) D n 30 Tryz.f30 h30 [q30j0 D n] 1}).1
attribute [local irreducible] q30l1
def q30b2 (D : Dyn) (n : Nat) := (⟨_, by conv => rhs; reduce⟩ : {g // some g = prtF (s30 D n) D n 30 Tryz.f30 h30 [q30j0 D n, q30l1 D n] 2}).1
attribute [local irreducible] q30b2
def q30 (D : Dyn) (n : Nat) := (⟨_, by conv => rhs; reduce⟩ : {g // g = fun vs H => funS (s30 D n) D n 30 Tryz.f30 h30 [q30j0 D n, q30l1 D n, q30b2 D n] vs H}).1
def F30j0 (D : Dyn) (n : Nat) : {g // g = q30j0 D n} := ⟨_, by conv => rhs; delta q30j0; dsimp only; try simp only [FPs]⟩
def F30l1 (D : Dyn) (n : Nat) : {g // g = q30l1 D n} := ⟨_, by conv => rhs; delta q30l1; dsimp only; try simp only [FPs, ← (F30j0 D n).2]⟩
def F30b2 (D : Dyn) (n : Nat) : {g // g = q30b2 D n} := ⟨_, by conv => rhs; delta q30b2; dsimp only; try simp only [FPs, ← (F30j0 D n).2, ← (F30l1 D n).2]⟩
def F30 (D : Dyn) (n : Nat) : {g // g = q30 D n} := ⟨_, by conv => rhs; delta q30; dsimp only; try simp only [FPs, ← (F30j0 D n).2, ← (F30l1 D n).2, ← (F30b2 D n).2]⟩
def f30 (D : Dyn) (n : Nat) := (F30 D n).1
theorem f30_eq (D : Dyn) (n : Nat) : f30 D n = funKp (s30 D n) D n 30 Tryz.f30 (ms h30) := (F30 D n).2.trans (by kernel_rfl)
theorem f30_ok {D : Dyn} (hD : DP D) (n : Nat) : FP 30 (f30 D n) := fun_okP X_ok hD (SP.nil) Tryz.func30 (by kernel_rfl) (by kernel_rfl) (f30_eq D n)
attribute [local irreducible] f30

def s70 (D : Dyn) (n : Nat) : Tb := ⟨X, []⟩
def h70 : Hint := (.s .o (.b [7,126,10,1023] .o))
def q70 (D : Dyn) (n : Nat) := (⟨_, by conv => rhs; reduce⟩ : {g // g = fun vs H => funS (s70 D n) D n 70 Tryz.f70 h70 [] vs H}).1
def F70 (D : Dyn) (n : Nat) : {g // g = q70 D n} := ⟨_, by conv => rhs; delta q70; dsimp only; try simp only [FPs]⟩
def f70 (D : Dyn) (n : Nat) := (F70 D n).1
theorem f70_eq (D : Dyn) (n : Nat) : f70 D n = funKp (s70 D n) D n 70 Tryz.f70 (ms h70) := (F70 D n).2.trans (by kernel_rfl)
theorem f70_ok {D : Dyn} (hD : DP D) (n : Nat) : FP 70 (f70 D n) := fun_okP X_ok hD (SP.nil) Tryz.func70 (by kernel_rfl) (by kernel_rfl) (f70_eq D n)
attribute [local irreducible] f70

def s119 (D : Dyn) (n : Nat) : Tb := ⟨X, [(73, f73 D n)]⟩
def h119 : Hint := (.s .o (.s (.s .o (.cl (.s .o .o) .o)) (.s (.s .o (.s .o (.cl (.s .o .o) .o))) (.s (.s .o (.cl (.s .o .o) .o)) (.s .o .o)))))
def q119 (D : Dyn) (n : Nat) := (⟨_, by conv => rhs; reduce⟩ : {g // g = fun vs H => funS (s119 D n) D n 119 Tryz.f119 h119 [] vs H}).1
def F119 (D : Dyn) (n : Nat) : {g // g = q119 D n} := ⟨_, by conv => rhs; delta q119; dsimp only; try simp only [FPs]⟩
def f119 (D : Dyn) (n : Nat) := (F119 D n).1
theorem f119_eq (D : Dyn) (n : Nat) : f119 D n = funKp (s119 D n) D n 119 Tryz.f119 (ms h119) := (F119 D n).2.trans (by kernel_rfl)
theorem f119_ok {D : Dyn} (hD : DP D) (n : Nat) : FP 119 (f119 D n) := fun_okP X_ok hD (SP.cons (f73_ok hD n) (SP.nil)) Tryz.func119 (by kernel_rfl) (by kernel_rfl) (f119_eq D n)
attribute [local irreducible] f119

def s109 (D : Dyn) (n : Nat) : Tb := ⟨X, []⟩
def h109 : Hint := (.s .o (.s (.s .o (.c [1,0,1] .o .o)) (.s (.s .o (.s .o (.c [0,0] .o .o))) (.s .o .o))))
def q109j0 (D : Dyn) (n : Nat) := (⟨_, by conv => rhs; reduce⟩ : {g // some g = prtF (s109 D n) D n 109 Tryz.f109 h109 [] 0}).1
attribute [local irreducible] q109j0
def q109j1 (D : Dyn) (n : Nat) := (⟨_, by conv => rhs; reduce⟩ : {g // some g = prtF (s109 D n) D n 109 Tryz.f109 h109 [q109j0 D n] 1}).1
attribute [local irreducible] q109j1
def q109 (D : Dyn) (n : Nat) := (⟨_, by conv => rhs; reduce⟩ : {g // g = fun vs H => funS (s109 D n) D n 109 Tryz.f109 h109 [q109j0 D n, q109j1 D n] vs H}).1
def F109j0 (D : Dyn) (n : Nat) : {g // g = q109j0 D n} := ⟨_, by conv => rhs; delta q109j0; dsimp only; try simp only [FPs]⟩
def F109j1 (D : Dyn) (n : Nat) : {g // g = q109j1 D n} := ⟨_, by conv => rhs; delta q109j1; dsimp only; try simp only [FPs, ← (F109j0 D n).2]⟩
def F109 (D : Dyn) (n : Nat) : {g // g = q109 D n} := ⟨_, by conv => rhs; delta q109; dsimp only; try simp only [FPs, ← (F109j0 D n).2, ← (F109j1 D n).2]⟩
def f109 (D : Dyn) (n : Nat) := (F109 D n).1
theorem f109_eq (D : Dyn) (n : Nat) : f109 D n = funKp (s109 D n) D n 109 Tryz.f109 (ms h109) := (F109 D n).2.trans (by kernel_rfl)
theorem f109_ok {D : Dyn} (hD : DP D) (n : Nat) : FP 109 (f109 D n) := fun_okP X_ok hD (SP.nil) Tryz.func109 (by kernel_rfl) (by kernel_rfl) (f109_eq D n)
attribute [local irreducible] f109

def s75 (D : Dyn) (n : Nat) : Tb := ⟨X, [(109, f109 D n)]⟩
def h75 : Hint := (.s .o (.s .o (.s (.s .o (.b [4,0,3] (.l [1,0,3,9,10,11] (.s .o (.s (.cr .o .o) (.s (.b0 (.s .o (.s .o (.s .o (.c [0,0,3,9,10,11] .o .o))))) .o)))))) (.s .o (.s (.s .o (.b [3,6] (.l [2,6,25,26,27] (.s .o (.s (.cr .o .o) (.s (.b0 (.s .o .o)) .o)))))) (.s .o .o))))))
def q75j0 (D : Dyn) (n : Nat) := (⟨_, by conv => rhs; reduce⟩ : {g // some g = prtF (s75 D n) D n 75 Tryz.f75 h75 [] 0}).1
attribute [local irreducible] q75j0
def q75l1 (D : Dyn) (n : Nat) := (⟨_, by conv => rhs; reduce⟩ : {g // some g = prtF (s75 D n) D n 75 Tryz.f75 h75 [q75j0 D n] 1}).1
attribute [local irreducible] q75l1
def q75l2 (D : Dyn) (n : Nat) := (⟨_, by conv => rhs; reduce⟩ : {g // some g = prtF (s75 D n) D n 75 Tryz.f75 h75 [q75j0 D n, q75l1 D n] 2}).1
attribute [local irreducible] q75l2
def q75b3 (D : Dyn) (n : Nat) := (⟨_, by conv => rhs; reduce⟩ : {g // some g = prtF (s75 D n) D n 75 Tryz.f75 h75 [q75j0 D n, q75l1 D n, q75l2 D n] 3}).1
attribute [local irreducible] q75b3
def q75b4 (D : Dyn) (n : Nat) := (⟨_, by conv => rhs; reduce⟩ : {g // some g = prtF (s75 D n) D n 75 Tryz.f75 h75 [q75j0 D n, q75l1 D n, q75l2 D n, q75b3 D n] 4}).1
attribute [local irreducible] q75b4
def q75 (D : Dyn) (n : Nat) := (⟨_, by conv => rhs; reduce⟩ : {g // g = fun vs H => funS (s75 D n) D n 75 Tryz.f75 h75 [q75j0 D n, q75l1 D n, q75l2 D n, q75b3 D n, q75b4 D n] vs H}).1
def F75j0 (D : Dyn) (n : Nat) : {g // g = q75j0 D n} := ⟨_, by conv => rhs; delta q75j0; dsimp only; try simp only [FPs]⟩
def F75l1 (D : Dyn) (n : Nat) : {g // g = q75l1 D n} := ⟨_, by conv => rhs; delta q75l1; dsimp only; try simp only [FPs, ← (F75j0 D n).2]⟩
def F75l2 (D : Dyn) (n : Nat) : {g // g = q75l2 D n} := ⟨_, by conv => rhs; delta q75l2; dsimp only; try simp only [FPs, ← (F75j0 D n).2, ← (F75l1 D n).2]⟩
def F75b3 (D : Dyn) (n : Nat) : {g // g = q75b3 D n} := ⟨_, by conv => rhs; delta q75b3; dsimp only; try simp only [FPs, ← (F75j0 D n).2, ← (F75l1 D n).2, ← (F75l2 D n).2]⟩
def F75b4 (D : Dyn) (n : Nat) : {g // g = q75b4 D n} := ⟨_, by conv => rhs; delta q75b4; dsimp only; try simp only [FPs, ← (F75j0 D n).2, ← (F75l1 D n).2, ← (F75l2 D n).2, ← (F75b3 D n).2]⟩
def F75 (D : Dyn) (n : Nat) : {g // g = q75 D n} := ⟨_, by conv => rhs; delta q75; dsimp only; try simp only [FPs, ← (F75j0 D n).2, ← (F75l1 D n).2, ← (F75l2 D n).2, ← (F75b3 D n).2, ← (F75b4 D n).2]⟩
def f75 (D : Dyn) (n : Nat) := (F75 D n).1
theorem f75_eq (D : Dyn) (n : Nat) : f75 D n = funKp (s75 D n) D n 75 Tryz.f75 (ms h75) := (F75 D n).2.trans (by kernel_rfl)
theorem f75_ok {D : Dyn} (hD : DP D) (n : Nat) : FP 75 (f75 D n) := fun_okP X_ok hD (SP.cons (f109_ok hD n) (SP.nil)) Tryz.func75 (by kernel_rfl) (by kernel_rfl) (f75_eq D n)
attribute [local irreducible] f75

def s121 (D : Dyn) (n : Nat) : Tb := ⟨X, []⟩
def h121 : Hint := (.s .o (.s (.s .o (.c [1,0,1] .o .o)) (.s (.s .o (.s .o (.c [0,0] .o .o))) (.s .o .o))))
def q121j0 (D : Dyn) (n : Nat) := (⟨_, by conv => rhs; reduce⟩ : {g // some g = prtF (s121 D n) D n 121 Tryz.f121 h121 [] 0}).1
attribute [local irreducible] q121j0
def q121j1 (D : Dyn) (n : Nat) := (⟨_, by conv => rhs; reduce⟩ : {g // some g = prtF (s121 D n) D n 121 Tryz.f121 h121 [q121j0 D n] 1}).1
attribute [local irreducible] q121j1
def q121 (D : Dyn) (n : Nat) := (⟨_, by conv => rhs; reduce⟩ : {g // g = fun vs H => funS (s121 D n) D n 121 Tryz.f121 h121 [q121j0 D n, q121j1 D n] vs H}).1
def F121j0 (D : Dyn) (n : Nat) : {g // g = q121j0 D n} := ⟨_, by conv => rhs; delta q121j0; dsimp only; try simp only [FPs]⟩
def F121j1 (D : Dyn) (n : Nat) : {g // g = q121j1 D n} := ⟨_, by conv => rhs; delta q121j1; dsimp only; try simp only [FPs, ← (F121j0 D n).2]⟩
def F121 (D : Dyn) (n : Nat) : {g // g = q121 D n} := ⟨_, by conv => rhs; delta q121; dsimp only; try simp only [FPs, ← (F121j0 D n).2, ← (F121j1 D n).2]⟩
def f121 (D : Dyn) (n : Nat) := (F121 D n).1
theorem f121_eq (D : Dyn) (n : Nat) : f121 D n = funKp (s121 D n) D n 121 Tryz.f121 (ms h121) := (F121 D n).2.trans (by kernel_rfl)
theorem f121_ok {D : Dyn} (hD : DP D) (n : Nat) : FP 121 (f121 D n) := fun_okP X_ok hD (SP.nil) Tryz.func121 (by kernel_rfl) (by kernel_rfl) (f121_eq D n)
attribute [local irreducible] f121

def s105 (D : Dyn) (n : Nat) : Tb := ⟨X, [(121, f121 D n)]⟩
def h105 : Hint := (.s .o (.s .o (.s (.s .o (.b [4,0,3] (.l [1,0,3,9,10,11] (.s .o (.s (.cr .o .o) (.s (.b0 (.s .o (.s .o (.s .o (.c [0,0,3,9,10,11] .o .o))))) .o)))))) (.s .o (.s (.s .o (.b [3,6] (.l [2,6,25,26,27] (.s .o (.s (.cr .o .o) (.s (.b0 (.s .o .o)) .o)))))) (.s .o .o))))))
def q105j0 (D : Dyn) (n : Nat) := (⟨_, by conv => rhs; reduce⟩ : {g // some g = prtF (s105 D n) D n 105 Tryz.f105 h105 [] 0}).1
attribute [local irreducible] q105j0
def q105l1 (D : Dyn) (n : Nat) := (⟨_, by conv => rhs; reduce⟩ : {g // some g = prtF (s105 D n) D n 105 Tryz.f105 h105 [q105j0 D n] 1}).1
attribute [local irreducible] q105l1
def q105l2 (D : Dyn) (n : Nat) := (⟨_, by conv => rhs; reduce⟩ : {g // some g = prtF (s105 D n) D n 105 Tryz.f105 h105 [q105j0 D n, q105l1 D n] 2}).1
attribute [local irreducible] q105l2
def q105b3 (D : Dyn) (n : Nat) := (⟨_, by conv => rhs; reduce⟩ : {g // some g = prtF (s105 D n) D n 105 Tryz.f105 h105 [q105j0 D n, q105l1 D n, q105l2 D n] 3}).1
attribute [local irreducible] q105b3
def q105b4 (D : Dyn) (n : Nat) := (⟨_, by conv => rhs; reduce⟩ : {g // some g = prtF (s105 D n) D n 105 Tryz.f105 h105 [q105j0 D n, q105l1 D n, q105l2 D n, q105b3 D n] 4}).1
attribute [local irreducible] q105b4
def q105 (D : Dyn) (n : Nat) := (⟨_, by conv => rhs; reduce⟩ : {g // g = fun vs H => funS (s105 D n) D n 105 Tryz.f105 h105 [q105j0 D n, q105l1 D n, q105l2 D n, q105b3 D n, q105b4 D n] vs H}).1
def F105j0 (D : Dyn) (n : Nat) : {g // g = q105j0 D n} := ⟨_, by conv => rhs; delta q105j0; dsimp only; try simp only [FPs]⟩
def F105l1 (D : Dyn) (n : Nat) : {g // g = q105l1 D n} := ⟨_, by conv => rhs; delta q105l1; dsimp only; try simp only [FPs, ← (F105j0 D n).2]⟩
def F105l2 (D : Dyn) (n : Nat) : {g // g = q105l2 D n} := ⟨_, by conv => rhs; delta q105l2; dsimp only; try simp only [FPs, ← (F105j0 D n).2, ← (F105l1 D n).2]⟩
def F105b3 (D : Dyn) (n : Nat) : {g // g = q105b3 D n} := ⟨_, by conv => rhs; delta q105b3; dsimp only; try simp only [FPs, ← (F105j0 D n).2, ← (F105l1 D n).2, ← (F105l2 D n).2]⟩
def F105b4 (D : Dyn) (n : Nat) : {g // g = q105b4 D n} := ⟨_, by conv => rhs; delta q105b4; dsimp only; try simp only [FPs, ← (F105j0 D n).2, ← (F105l1 D n).2, ← (F105l2 D n).2, ← (F105b3 D n).2]⟩
def F105 (D : Dyn) (n : Nat) : {g // g = q105 D n} := ⟨_, by conv => rhs; delta q105; dsimp only; try simp only [FPs, ← (F105j0 D n).2, ← (F105l1 D n).2, ← (F105l2 D n).2, ← (F105b3 D n).2, ← (F105b4 D n).2]⟩
def f105 (D : Dyn) (n : Nat) := (F105 D n).1
theorem f105_eq (D : Dyn) (n : Nat) : f105 D n = funKp (s105 D n) D n 105 Tryz.f105 (ms h105) := (F105 D n).2.trans (by kernel_rfl)
theorem f105_ok {D : Dyn} (hD : DP D) (n : Nat) : FP 105 (f105 D n) := fun_okP X_ok hD (SP.cons (f121_ok hD n) (SP.nil)) Tryz.func105 (by kernel_rfl) (by kernel_rfl) (f105_eq D n)
attribute [local irreducible] f105

def s103 (D : Dyn) (n : Nat) : Tb := ⟨X, [(72, f72 D n), (119, f119 D n), (75, f75 D n), (105, f105 D n)]⟩
def h103 : Hint := (.s .o (.s (.s .o (.cl (.s .o .o) .o)) (.s (.s .o (.cl (.s (.c [5,31,11,2047,13,8191] (.l [0,1,2,3,4,6,7,8,9,10,5,11,12,13,14] .o) .o) .o) .o)) (.s (.c [7,127,13,8191,15,32767] (.l [0,1,2,3,4,5,6,8,9,10,11,12,7,13,14,15,16] .o) .o) .o))))
def q103 (D : Dyn) (n : Nat) := (⟨_, by conv => rhs; reduce⟩ : {g // g = fun vs H => funS (s103 D n) D n 103 Tryz.f103 h103 [] vs H}).1
def F103 (D : Dyn) (n : Nat) : {g // g = q103 D n} := ⟨_, by conv => rhs; delta q103; dsimp only; try simp only [FPs]⟩
def f103 (D : Dyn) (n : Nat) := (F103 D n).1
theorem f103_eq (D : Dyn) (n : Nat) : f103 D n = funKp (s103 D n) D n 103 Tryz.f103 (ms h103) := (F103 D n).2.trans (by kernel_rfl)
theorem f103_ok {D : Dyn} (hD : DP D) (n : Nat) : FP 103 (f103 D n) := fun_okP X_ok hD (SP.cons (f72_ok hD n) (SP.cons (f119_ok hD n) (SP.cons (f75_ok hD n) (SP.cons (f105_ok hD n) (SP.nil))))) Tryz.func103 (by kernel_rfl) (by kernel_rfl) (f103_eq D n)
attribute [local irreducible] f103

def s69 (D : Dyn) (n : Nat) : Tb := ⟨X, [(95, f95 D n), (28, f28 D n), (70, f70 D n), (103, f103 D n), (104, f104 D n), (75, f75 D n), (106, f106 D n), (105, f105 D n)]⟩
def h69 : Hint := (.s .o (.s .o (.s (.s .o (.c [2,0,5,7,8,10,11] (.s .o (.s (.s .o (.c [1,0,2,5,7,8,12] .o .o)) (.s (.c [9,511,14,12287] (.l [0,1,2,3,4,5,6,7,8,13,9,10,11,12,14,15] .o) .o) (.s (.s .o (.cl (.s .o .o) .o)) (.s .o (.s .o (.s (.s .o (.c [0,0,5,7,8,10,11,14] (.b [7,127,11,1023] .o) (.b [7,127,11,1023] .o))) (.s .o (.cl (.s .o .o) .o))))))))) .o)) (.s .o (.s (.s .o (.cl (.s .o .o) .o)) (.s (.c [12,4095,20,794623,26,67108863,28,268435455] (.l [0,1,2,3,4,5,6,7,8,9,10,11,13,14,15,16,17,18,19,21,22,23,24,12,20,25,26,27,28,29] .o) .o) .o))))))
def q69j0 (D : Dyn) (n : Nat) := (⟨_, by conv => rhs; reduce⟩ : {g // some g = prtF (s69 D n) D n 69 Tryz.f69 h69 [] 0}).1
attribute [local irreducible] q69j0
def q69j1 (D : Dyn) (n : Nat) := (⟨_, by conv => rhs; reduce⟩ : {g // some g = prtF (s69 D n) D n 69 Tryz.f69 h69 [q69j0 D n] 1}).1
attribute [local irreducible] q69j1
def q69j2 (D : Dyn) (n : Nat) := (⟨_, by conv => rhs; reduce⟩ : {g // some g = prtF (s69 D n) D n 69 Tryz.f69 h69 [q69j0 D n, q69j1 D n] 2}).1
attribute [local irreducible] q69j2
def q69 (D : Dyn) (n : Nat) := (⟨_, by conv => rhs; reduce⟩ : {g // g = fun vs H => funS (s69 D n) D n 69 Tryz.f69 h69 [q69j0 D n, q69j1 D n, q69j2 D n] vs H}).1
def F69j0 (D : Dyn) (n : Nat) : {g // g = q69j0 D n} := ⟨_, by conv => rhs; delta q69j0; dsimp only; try simp only [FPs]⟩
def F69j1 (D : Dyn) (n : Nat) : {g // g = q69j1 D n} := ⟨_, by conv => rhs; delta q69j1; dsimp only; try simp only [FPs, ← (F69j0 D n).2]⟩
def F69j2 (D : Dyn) (n : Nat) : {g // g = q69j2 D n} := ⟨_, by conv => rhs; delta q69j2; dsimp only; try simp only [FPs, ← (F69j0 D n).2, ← (F69j1 D n).2]⟩
def F69 (D : Dyn) (n : Nat) : {g // g = q69 D n} := ⟨_, by conv => rhs; delta q69; dsimp only; try simp only [FPs, ← (F69j0 D n).2, ← (F69j1 D n).2, ← (F69j2 D n).2]⟩
def f69 (D : Dyn) (n : Nat) := (F69 D n).1
theorem f69_eq (D : Dyn) (n : Nat) : f69 D n = funKp (s69 D n) D n 69 Tryz.f69 (ms h69) := (F69 D n).2.trans (by kernel_rfl)
theorem f69_ok {D : Dyn} (hD : DP D) (n : Nat) : FP 69 (f69 D n) := fun_okP X_ok hD (SP.cons (f95_ok hD n) (SP.cons (f28_ok hD n) (SP.cons (f70_ok hD n) (SP.cons (f103_ok hD n) (SP.cons (f104_ok hD n) (SP.cons (f75_ok hD n) (SP.cons (f106_ok hD n) (SP.cons (f105_ok hD n) (SP.nil))))))))) Tryz.func69 (by kernel_rfl) (by kernel_rfl) (f69_eq D n)
attribute [local irreducible] f69

def s68 (D : Dyn) (n : Nat) : Tb := ⟨X, [(27, f27 D n), (28, f28 D n), (30, f30 D n), (69, f69 D n), (70, f70 D n)]⟩
def h68 : Hint := (.s .o (.s (.s .o (.s (.b [2,2] .o) (.cl (.s .o .o) .o))) (.s .o (.s (.s .o (.cl (.s .o .o) .o)) (.s (.s .o (.c [1,6,7,8,10,11] .o (.s .o (.s .o (.s (.b [6,63,10,511] .o) (.s .o (.c [0,6,7,8,10,11] .o .o))))))) (.s (.s .o (.cl (.s .o .o) .o)) (.s .o (.s .o .o))))))))
def q68j0 (D : Dyn) (n : Nat) := (⟨_, by conv => rhs; reduce⟩ : {g // some g = prtF (s68 D n) D n 68 Tryz.f68 h68 [] 0}).1
attribute [local irreducible] q68j0
def q68j1 (D : Dyn) (n : Nat) := (⟨_, by conv => rhs; reduce⟩ : {g // some g = prtF (s68 D n) D n 68 Tryz.f68 h68 [q68j0 D n] 1}).1
attribute [local irreducible] q68j1
def q68 (D : Dyn) (n : Nat) := (⟨_, by conv => rhs; reduce⟩ : {g // g = fun vs H => funS (s68 D n) D n 68 Tryz.f68 h68 [q68j0 D n, q68j1 D n] vs H}).1
def F68j0 (D : Dyn) (n : Nat) : {g // g = q68j0 D n} := ⟨_, by conv => rhs; delta q68j0; dsimp only; try simp only [FPs]⟩
def F68j1 (D : Dyn) (n : Nat) : {g // g = q68j1 D n} := ⟨_, by conv => rhs; delta q68j1; dsimp only; try simp only [FPs, ← (F68j0 D n).2]⟩
def F68 (D : Dyn) (n : Nat) : {g // g = q68 D n} := ⟨_, by conv => rhs; delta q68; dsimp only; try simp only [FPs, ← (F68j0 D n).2, ← (F68j1 D n).2]⟩
def f68 (D : Dyn) (n : Nat) := (F68 D n).1
theorem f68_eq (D : Dyn) (n : Nat) : f68 D n = funKp (s68 D n) D n 68 Tryz.f68 (ms h68) := (F68 D n).2.trans (by kernel_rfl)
theorem f68_ok {D : Dyn} (hD : DP D) (n : Nat) : FP 68 (f68 D n) := fun_okP X_ok hD (SP.cons (f27_ok hD n) (SP.cons (f28_ok hD n) (SP.cons (f30_ok hD n) (SP.cons (f69_ok hD n) (SP.cons (f70_ok hD n) (SP.nil)))))) Tryz.func68 (by kernel_rfl) (by kernel_rfl) (f68_eq D n)
attribute [local irreducible] f68

def s38 (D : Dyn) (n : Nat) : Tb := ⟨X, [(67, f67 D n), (66, f66 D n), (71, f71 D n)]⟩
def h38 : Hint := (.s .o (.s (.b [9,511] .o) (.s (.s .o (.cl (.s .o (.s (.s .o (.cl (.s .o .o) .o)) (.s (.b [3,6,4,15] .o) (.s .o .o)))) .o)) (.s .o (.s .o (.s .o (.s (.c [5,31,10,767] (.l [0,1,2,3,4,9,5,6,7,8,10,11] .o) .o) (.s (.s .o (.cl (.s .o .o) .o)) (.s .o .o)))))))))
def q38 (D : Dyn) (n : Nat) := (⟨_, by conv => rhs; reduce⟩ : {g // g = fun vs H => funS (s38 D n) D n 38 Tryz.f38 h38 [] vs H}).1
def F38 (D : Dyn) (n : Nat) : {g // g = q38 D n} := ⟨_, by conv => rhs; delta q38; dsimp only; try simp only [FPs]⟩
def f38 (D : Dyn) (n : Nat) := (F38 D n).1
theorem f38_eq (D : Dyn) (n : Nat) : f38 D n = funKp (s38 D n) D n 38 Tryz.f38 (ms h38) := (F38 D n).2.trans (by kernel_rfl)
theorem f38_ok {D : Dyn} (hD : DP D) (n : Nat) : FP 38 (f38 D n) := fun_okP X_ok hD (SP.cons (f67_ok hD n) (SP.cons (f66_ok hD n) (SP.cons (f71_ok hD n) (SP.nil)))) Tryz.func38 (by kernel_rfl) (by kernel_rfl) (f38_eq D n)
attribute [local irreducible] f38

def s125 (D : Dyn) (n : Nat) : Tb := ⟨X, []⟩
def h125 : Hint := (.s .o (.b [1] (.l [0,0,2,3] (.s (.s .o (.cr .o .o)) (.s (.b0 (.b [13,8179,15,32767] .o)) .o)))))
def q125l0 (D : Dyn) (n : Nat) := (⟨_, by conv => rhs; reduce⟩ : {g // some g = prtF (s125 D n) D n 125 Tryz.f125 h125 [] 0}).1
attribute [local irreducible] q125l0
def q125b1 (D : Dyn) (n : Nat) := (⟨_, by conv => rhs; reduce⟩ : {g // some g = prtF (s125 D n) D n 125 Tryz.f125 h125 [q125l0 D n] 1}).1
attribute [local irreducible] q125b1
def q125 (D : Dyn) (n : Nat) := (⟨_, by conv => rhs; reduce⟩ : {g // g = fun vs H => funS (s125 D n) D n 125 Tryz.f125 h125 [q125l0 D n, q125b1 D n] vs H}).1
def F125l0 (D : Dyn) (n : Nat) : {g // g = q125l0 D n} := ⟨_, by conv => rhs; delta q125l0; dsimp only; try simp only [FPs]⟩
def F125b1 (D : Dyn) (n : Nat) : {g // g = q125b1 D n} := ⟨_, by conv => rhs; delta q125b1; dsimp only; try simp only [FPs, ← (F125l0 D n).2]⟩
def F125 (D : Dyn) (n : Nat) : {g // g = q125 D n} := ⟨_, by conv => rhs; delta q125; dsimp only; try simp only [FPs, ← (F125l0 D n).2, ← (F125b1 D n).2]⟩
def f125 (D : Dyn) (n : Nat) := (F125 D n).1
theorem f125_eq (D : Dyn) (n : Nat) : f125 D n = funKp (s125 D n) D n 125 Tryz.f125 (ms h125) := (F125 D n).2.trans (by kernel_rfl)
theorem f125_ok {D : Dyn} (hD : DP D) (n : Nat) : FP 125 (f125 D n) := fun_okP X_ok hD (SP.nil) Tryz.func125 (by kernel_rfl) (by kernel_rfl) (f125_eq D n)
attribute [local irreducible] f125

def s122 (D : Dyn) (n : Nat) : Tb := ⟨X, [(125, f125 D n)]⟩
def h122 : Hint := (.s .o (.s .o .o))
def q122 (D : Dyn) (n : Nat) := (⟨_, by conv => rhs; reduce⟩ : {g // g = fun vs H => funS (s122 D n) D n 122 Tryz.f122 h122 [] vs H}).1
def F122 (D : Dyn) (n : Nat) : {g // g = q122 D n} := ⟨_, by conv => rhs; delta q122; dsimp only; try simp only [FPs]⟩
def f122 (D : Dyn) (n : Nat) := (F122 D n).1
theorem f122_eq (D : Dyn) (n : Nat) : f122 D n = funKp (s122 D n) D n 122 Tryz.f122 (ms h122) := (F122 D n).2.trans (by kernel_rfl)
theorem f122_ok {D : Dyn} (hD : DP D) (n : Nat) : FP 122 (f122 D n) := fun_okP X_ok hD (SP.cons (f125_ok hD n) (SP.nil)) Tryz.func122 (by kernel_rfl) (by kernel_rfl) (f122_eq D n)
attribute [local irreducible] f122

def s108 (D : Dyn) (n : Nat) : Tb := ⟨X, [(122, f122 D n)]⟩
def h108 : Hint := .o
def q108 (D : Dyn) (n : Nat) := (⟨_, by conv => rhs; reduce⟩ : {g // g = fun vs H => funS (s108 D n) D n 108 Tryz.f108 h108 [] vs H}).1
def F108 (D : Dyn) (n : Nat) : {g // g = q108 D n} := ⟨_, by conv => rhs; delta q108; dsimp only; try simp only [FPs]⟩
def f108 (D : Dyn) (n : Nat) := (F108 D n).1
theorem f108_eq (D : Dyn) (n : Nat) : f108 D n = funKp (s108 D n) D n 108 Tryz.f108 (ms h108) := (F108 D n).2.trans (by kernel_rfl)
theorem f108_ok {D : Dyn} (hD : DP D) (n : Nat) : FP 108 (f108 D n) := fun_okP X_ok hD (SP.cons (f122_ok hD n) (SP.nil)) Tryz.func108 (by kernel_rfl) (by kernel_rfl) (f108_eq D n)
attribute [local irreducible] f108

def s74 (D : Dyn) (n : Nat) : Tb := ⟨X, [(108, f108 D n)]⟩
def h74 : Hint := (.s .o (.s .o (.s .o (.s (.s .o (.cl (.s .o .o) .o)) (.s .o (.s (.s .o (.cl (.s .o .o) .o)) (.s (.s .o (.cl (.s .o (.s .o (.s (.b [8,255] .o) (.s .o .o)))) .o)) (.s .o (.s (.s .o (.cl (.s (.b [8,255] .o) (.s .o (.s .o .o))) .o)) (.s .o (.s .o (.s .o .o))))))))))))
def f74 (D : Dyn) (n : Nat) := (⟨_, by conv => rhs; reduce⟩ : {g // g = fun vs H => funS (s74 D n) D n 74 Tryz.f74 h74 [] vs H}).1
theorem f74_eq (D : Dyn) (n : Nat) : f74 D n = funKp (s74 D n) D n 74 Tryz.f74 (ms h74) := by kernel_rfl
theorem f74_ok {D : Dyn} (hD : DP D) (n : Nat) : FP 74 (f74 D n) := fun_okP X_ok hD (SP.cons (f108_ok hD n) (SP.nil)) Tryz.func74 (by kernel_rfl) (by kernel_rfl) (f74_eq D n)
def m74 (D : Dyn) (n : Nat) (vs : List AV) (H : AH) : Option (AV × AH) := insKp (f74 D n) vs H
theorem m74_ok {D : Dyn} (hD : DP D) (n : Nat) : FP 74 (m74 D n) := insKp_ok (by kernel_rfl) (f74_ok hD n)
attribute [local irreducible] f74 m74

def s40 (D : Dyn) (n : Nat) : Tb := ⟨X, [(72, f72 D n), (73, f73 D n), (32, f32 D n), (30, f30 D n), (74, m74 D n)]⟩
def h40 : Hint := (.s .o (.s (.s .o (.cl (.s .o .o) .o)) (.s (.c [2,3,5,31,8,255] (.l [0,1,3,4,7,2,5,6,8] .o) .o) (.s .o (.s (.s .o (.cl (.s .o (.s .o .o)) .o)) (.s .o (.s .o (.s .o .o))))))))
def q40 (D : Dyn) (n : Nat) := (⟨_, by conv => rhs; reduce⟩ : {g // g = fun vs H => funS (s40 D n) D n 40 Tryz.f40 h40 [] vs H}).1
def F40 (D : Dyn) (n : Nat) : {g // g = q40 D n} := ⟨_, by conv => rhs; delta q40; dsimp only; try simp only [FPs]⟩
def f40 (D : Dyn) (n : Nat) := (F40 D n).1
theorem f40_eq (D : Dyn) (n : Nat) : f40 D n = funKp (s40 D n) D n 40 Tryz.f40 (ms h40) := (F40 D n).2.trans (by kernel_rfl)
theorem f40_ok {D : Dyn} (hD : DP D) (n : Nat) : FP 40 (f40 D n) := fun_okP X_ok hD (SP.cons (f72_ok hD n) (SP.cons (f73_ok hD n) (SP.cons (f32_ok hD n) (SP.cons (f30_ok hD n) (SP.cons (m74_ok hD n) (SP.nil)))))) Tryz.func40 (by kernel_rfl) (by kernel_rfl) (f40_eq D n)
attribute [local irreducible] f40

def s39 (D : Dyn) (n : Nat) : Tb := ⟨X, [(40, f40 D n)]⟩
def h39 : Hint := (.s .o (.s .o .o))
def q39 (D : Dyn) (n : Nat) := (⟨_, by conv => rhs; reduce⟩ : {g // g = fun vs H => funS (s39 D n) D n 39 Tryz.f39 h39 [] vs H}).1
def F39 (D : Dyn) (n : Nat) : {g // g = q39 D n} := ⟨_, by conv => rhs; delta q39; dsimp only; try simp only [FPs]⟩
def f39 (D : Dyn) (n : Nat) := (F39 D n).1
theorem f39_eq (D : Dyn) (n : Nat) : f39 D n = funKp (s39 D n) D n 39 Tryz.f39 (ms h39) := (F39 D n).2.trans (by kernel_rfl)
theorem f39_ok {D : Dyn} (hD : DP D) (n : Nat) : FP 39 (f39 D n) := fun_okP X_ok hD (SP.cons (f40_ok hD n) (SP.nil)) Tryz.func39 (by kernel_rfl) (by kernel_rfl) (f39_eq D n)
attribute [local irreducible] f39

def s13 (D : Dyn) (n : Nat) : Tb := ⟨X, [(26, f26 D n), (38, f38 D n)]⟩
def h13 : Hint := (.s .o (.s (.s .o (.cl (.s .o .o) .o)) (.s (.s .o (.cl (.s .o .o) .o)) (.s .o .o))))
def q13 (D : Dyn) (n : Nat) := (⟨_, by conv => rhs; reduce⟩ : {g // g = fun vs H => funS (s13 D n) D n 13 Tryz.f13 h13 [] vs H}).1
def F13 (D : Dyn) (n : Nat) : {g // g = q13 D n} := ⟨_, by conv => rhs; delta q13; dsimp only; try simp only [FPs]⟩
def f13 (D : Dyn) (n : Nat) := (F13 D n).1
theorem f13_eq (D : Dyn) (n : Nat) : f13 D n = funKp (s13 D n) D n 13 Tryz.f13 (ms h13) := (F13 D n).2.trans (by kernel_rfl)
theorem f13_ok {D : Dyn} (hD : DP D) (n : Nat) : FP 13 (f13 D n) := fun_okP X_ok hD (SP.cons (f26_ok hD n) (SP.cons (f38_ok hD n) (SP.nil))) Tryz.func13 (by kernel_rfl) (by kernel_rfl) (f13_eq D n)
attribute [local irreducible] f13

def s20 (D : Dyn) (n : Nat) : Tb := ⟨X, [(26, f26 D n)]⟩
def h20 : Hint := (.s .o (.s (.s .o (.cl (.s .o .o) .o)) (.s .o .o)))
def q20 (D : Dyn) (n : Nat) := (⟨_, by conv => rhs; reduce⟩ : {g // g = fun vs H => funS (s20 D n) D n 20 Tryz.f20 h20 [] vs H}).1
def F20 (D : Dyn) (n : Nat) : {g // g = q20 D n} := ⟨_, by conv => rhs; delta q20; dsimp only; try simp only [FPs]⟩
def f20 (D : Dyn) (n : Nat) := (F20 D n).1
theorem f20_eq (D : Dyn) (n : Nat) : f20 D n = funKp (s20 D n) D n 20 Tryz.f20 (ms h20) := (F20 D n).2.trans (by kernel_rfl)
theorem f20_ok {D : Dyn} (hD : DP D) (n : Nat) : FP 20 (f20 D n) := fun_okP X_ok hD (SP.cons (f26_ok hD n) (SP.nil)) Tryz.func20 (by kernel_rfl) (by kernel_rfl) (f20_eq D n)
attribute [local irreducible] f20

def s21 (D : Dyn) (n : Nat) : Tb := ⟨X, [(26, f26 D n)]⟩
def h21 : Hint := (.s .o (.s (.s .o (.cl (.s .o .o) .o)) (.s .o .o)))
def q21 (D : Dyn) (n : Nat) := (⟨_, by conv => rhs; reduce⟩ : {g // g = fun vs H => funS (s21 D n) D n 21 Tryz.f21 h21 [] vs H}).1
def F21 (D : Dyn) (n : Nat) : {g // g = q21 D n} := ⟨_, by conv => rhs; delta q21; dsimp only; try simp only [FPs]⟩
def f21 (D : Dyn) (n : Nat) := (F21 D n).1
theorem f21_eq (D : Dyn) (n : Nat) : f21 D n = funKp (s21 D n) D n 21 Tryz.f21 (ms h21) := (F21 D n).2.trans (by kernel_rfl)
theorem f21_ok {D : Dyn} (hD : DP D) (n : Nat) : FP 21 (f21 D n) := fun_okP X_ok hD (SP.cons (f26_ok hD n) (SP.nil)) Tryz.func21 (by kernel_rfl) (by kernel_rfl) (f21_eq D n)
attribute [local irreducible] f21

def s59 (D : Dyn) (n : Nat) : Tb := ⟨X, []⟩
def h59 : Hint := (.s .o (.s (.s .o (.b [1] (.l [0,0,1,7,8] (.s .o (.s (.cr .o .o) (.s (.b0 (.s .o (.s .o (.cl (.s .o .o) .o)))) .o)))))) (.s .o .o)))
def q59l0 (D : Dyn) (n : Nat) := (⟨_, by conv => rhs; reduce⟩ : {g // some g = prtF (s59 D n) D n 59 Tryz.f59 h59 [] 0}).1
attribute [local irreducible] q59l0
def q59b1 (D : Dyn) (n : Nat) := (⟨_, by conv => rhs; reduce⟩ : {g // some g = prtF (s59 D n) D n 59 Tryz.f59 h59 [q59l0 D n] 1}).1
attribute [local irreducible] q59b1
def q59 (D : Dyn) (n : Nat) := (⟨_, by conv => rhs; reduce⟩ : {g // g = fun vs H => funS (s59 D n) D n 59 Tryz.f59 h59 [q59l0 D n, q59b1 D n] vs H}).1
def F59l0 (D : Dyn) (n : Nat) : {g // g = q59l0 D n} := ⟨_, by conv => rhs; delta q59l0; dsimp only; try simp only [FPs]⟩
def F59b1 (D : Dyn) (n : Nat) : {g // g = q59b1 D n} := ⟨_, by conv => rhs; delta q59b1; dsimp only; try simp only [FPs, ← (F59l0 D n).2]⟩
def F59 (D : Dyn) (n : Nat) : {g // g = q59 D n} := ⟨_, by conv => rhs; delta q59; dsimp only; try simp only [FPs, ← (F59l0 D n).2, ← (F59b1 D n).2]⟩
def f59 (D : Dyn) (n : Nat) := (F59 D n).1
theorem f59_eq (D : Dyn) (n : Nat) : f59 D n = funKp (s59 D n) D n 59 Tryz.f59 (ms h59) := (F59 D n).2.trans (by kernel_rfl)
theorem f59_ok {D : Dyn} (hD : DP D) (n : Nat) : FP 59 (f59 D n) := fun_okP X_ok hD (SP.nil) Tryz.func59 (by kernel_rfl) (by kernel_rfl) (f59_eq D n)
attribute [local irreducible] f59

def s29 (D : Dyn) (n : Nat) : Tb := ⟨X, [(59, f59 D n)]⟩
def h29 : Hint := (.s .o (.s (.s .o (.cl (.s .o .o) .o)) (.s .o (.s (.s .o (.cl (.s .o .o) .o)) (.s .o .o)))))
def q29 (D : Dyn) (n : Nat) := (⟨_, by conv => rhs; reduce⟩ : {g // g = fun vs H => funS (s29 D n) D n 29 Tryz.f29 h29 [] vs H}).1
def F29 (D : Dyn) (n : Nat) : {g // g = q29 D n} := ⟨_, by conv => rhs; delta q29; dsimp only; try simp only [FPs]⟩
def f29 (D : Dyn) (n : Nat) := (F29 D n).1
theorem f29_eq (D : Dyn) (n : Nat) : f29 D n = funKp (s29 D n) D n 29 Tryz.f29 (ms h29) := (F29 D n).2.trans (by kernel_rfl)
theorem f29_ok {D : Dyn} (hD : DP D) (n : Nat) : FP 29 (f29 D n) := fun_okP X_ok hD (SP.cons (f59_ok hD n) (SP.nil)) Tryz.func29 (by kernel_rfl) (by kernel_rfl) (f29_eq D n)
attribute [local irreducible] f29

def s8 (D : Dyn) (n : Nat) : Tb := ⟨X, [(26, f26 D n), (27, f27 D n), (28, f28 D n), (29, f29 D n), (30, f30 D n)]⟩
def h8 : Hint := (.s .o (.s (.s .o (.cl (.s .o .o) .o)) (.s (.s .o (.cl (.s .o .o) .o)) (.s (.s .o (.cl (.s .o .o) .o)) (.s .o (.s (.s .o (.b [1] (.l [0,0,1,6,32,33] (.s .o (.s (.cr .o .o) (.s (.b0 (.s .o (.s (.s .o (.cl (.s .o .o) .o)) (.s (.s .o (.cl (.s .o (.s (.s .o (.cl (.s .o .o) .o)) (.s .o .o))) .o)) (.b [4,12,7,127] .o))))) .o)))))) (.s .o .o)))))))
def q8l0 (D : Dyn) (n : Nat) := (⟨_, by conv => rhs; reduce⟩ : {g // some g = prtF (s8 D n) D n 8 Tryz.f8 h8 [] 0}).1
attribute [local irreducible] q8l0
def q8b1 (D : Dyn) (n : Nat) := (⟨_, by conv => rhs; reduce⟩ : {g // some g = prtF (s8 D n) D n 8 Tryz.f8 h8 [q8l0 D n] 1}).1
attribute [local irreducible] q8b1
def q8 (D : Dyn) (n : Nat) := (⟨_, by conv => rhs; reduce⟩ : {g // g = fun vs H => funS (s8 D n) D n 8 Tryz.f8 h8 [q8l0 D n, q8b1 D n] vs H}).1
def F8l0 (D : Dyn) (n : Nat) : {g // g = q8l0 D n} := ⟨_, by conv => rhs; delta q8l0; dsimp only; try simp only [FPs]⟩
def F8b1 (D : Dyn) (n : Nat) : {g // g = q8b1 D n} := ⟨_, by conv => rhs; delta q8b1; dsimp only; try simp only [FPs, ← (F8l0 D n).2]⟩
def F8 (D : Dyn) (n : Nat) : {g // g = q8 D n} := ⟨_, by conv => rhs; delta q8; dsimp only; try simp only [FPs, ← (F8l0 D n).2, ← (F8b1 D n).2]⟩
def f8 (D : Dyn) (n : Nat) := (F8 D n).1
theorem f8_eq (D : Dyn) (n : Nat) : f8 D n = funKp (s8 D n) D n 8 Tryz.f8 (ms h8) := (F8 D n).2.trans (by kernel_rfl)
theorem f8_ok {D : Dyn} (hD : DP D) (n : Nat) : FP 8 (f8 D n) := fun_okP X_ok hD (SP.cons (f26_ok hD n) (SP.cons (f27_ok hD n) (SP.cons (f28_ok hD n) (SP.cons (f29_ok hD n) (SP.cons (f30_ok hD n) (SP.nil)))))) Tryz.func8 (by kernel_rfl) (by kernel_rfl) (f8_eq D n)
attribute [local irreducible] f8

def s22 (D : Dyn) (n : Nat) : Tb := ⟨X, [(8, f8 D n)]⟩
def h22 : Hint := (.s .o (.s .o (.s .o .o)))
def q22 (D : Dyn) (n : Nat) := (⟨_, by conv => rhs; reduce⟩ : {g // g = fun vs H => funS (s22 D n) D n 22 Tryz.f22 h22 [] vs H}).1
def F22 (D : Dyn) (n : Nat) : {g // g = q22 D n} := ⟨_, by conv => rhs; delta q22; dsimp only; try simp only [FPs]⟩
def f22 (D : Dyn) (n : Nat) := (F22 D n).1
theorem f22_eq (D : Dyn) (n : Nat) : f22 D n = funKp (s22 D n) D n 22 Tryz.f22 (ms h22) := (F22 D n).2.trans (by kernel_rfl)
theorem f22_ok {D : Dyn} (hD : DP D) (n : Nat) : FP 22 (f22 D n) := fun_okP X_ok hD (SP.cons (f8_ok hD n) (SP.nil)) Tryz.func22 (by kernel_rfl) (by kernel_rfl) (f22_eq D n)
attribute [local irreducible] f22

def s60 (D : Dyn) (n : Nat) : Tb := ⟨X, []⟩
def h60 : Hint := (.s .o (.b [1] (.l [0,0,1,3] (.s (.s .o (.cr .o .o)) (.s (.b0 (.s .o (.cl .o .o))) .o)))))
def q60l0 (D : Dyn) (n : Nat) := (⟨_, by conv => rhs; reduce⟩ : {g // some g = prtF (s60 D n) D n 60 Tryz.f60 h60 [] 0}).1
attribute [local irreducible] q60l0
def q60b1 (D : Dyn) (n : Nat) := (⟨_, by conv => rhs; reduce⟩ : {g // some g = prtF (s60 D n) D n 60 Tryz.f60 h60 [q60l0 D n] 1}).1
attribute [local irreducible] q60b1
def q60 (D : Dyn) (n : Nat) := (⟨_, by conv => rhs; reduce⟩ : {g // g = fun vs H => funS (s60 D n) D n 60 Tryz.f60 h60 [q60l0 D n, q60b1 D n] vs H}).1
def F60l0 (D : Dyn) (n : Nat) : {g // g = q60l0 D n} := ⟨_, by conv => rhs; delta q60l0; dsimp only; try simp only [FPs]⟩
def F60b1 (D : Dyn) (n : Nat) : {g // g = q60b1 D n} := ⟨_, by conv => rhs; delta q60b1; dsimp only; try simp only [FPs, ← (F60l0 D n).2]⟩
def F60 (D : Dyn) (n : Nat) : {g // g = q60 D n} := ⟨_, by conv => rhs; delta q60; dsimp only; try simp only [FPs, ← (F60l0 D n).2, ← (F60b1 D n).2]⟩
def f60 (D : Dyn) (n : Nat) := (F60 D n).1
theorem f60_eq (D : Dyn) (n : Nat) : f60 D n = funKp (s60 D n) D n 60 Tryz.f60 (ms h60) := (F60 D n).2.trans (by kernel_rfl)
theorem f60_ok {D : Dyn} (hD : DP D) (n : Nat) : FP 60 (f60 D n) := fun_okP X_ok hD (SP.nil) Tryz.func60 (by kernel_rfl) (by kernel_rfl) (f60_eq D n)
attribute [local irreducible] f60

def s31 (D : Dyn) (n : Nat) : Tb := ⟨X, []⟩
def h31 : Hint := (.s .o (.s .o .o))
def q31 (D : Dyn) (n : Nat) := (⟨_, by conv => rhs; reduce⟩ : {g // g = fun vs H => funS (s31 D n) D n 31 Tryz.f31 h31 [] vs H}).1
def F31 (D : Dyn) (n : Nat) : {g // g = q31 D n} := ⟨_, by conv => rhs; delta q31; dsimp only; try simp only [FPs]⟩
def f31 (D : Dyn) (n : Nat) := (F31 D n).1
theorem f31_eq (D : Dyn) (n : Nat) : f31 D n = funKp (s31 D n) D n 31 Tryz.f31 (ms h31) := (F31 D n).2.trans (by kernel_rfl)
theorem f31_ok {D : Dyn} (hD : DP D) (n : Nat) : FP 31 (f31 D n) := fun_okP X_ok hD (SP.nil) Tryz.func31 (by kernel_rfl) (by kernel_rfl) (f31_eq D n)
attribute [local irreducible] f31

def s10 (D : Dyn) (n : Nat) : Tb := ⟨X, [(26, f26 D n), (27, f27 D n), (28, f28 D n), (30, f30 D n), (31, f31 D n)]⟩
def h10 : Hint := (.s .o (.s (.s .o (.cl (.s .o .o) .o)) (.s (.s .o (.cl (.s .o .o) .o)) (.s .o (.s (.s .o (.b [2,4,6] (.l [1,0,1,4,6,28,29] (.s .o (.s (.cr .o .o) (.s (.b0 (.s (.s .o (.cl (.s .o .o) .o)) (.s .o (.s (.s .o (.cl (.s .o .o) .o)) (.s .o (.s .o (.s (.s .o (.cl (.s (.b [11,2047] .o) .o) .o)) (.s .o (.c [0,0,1,4,6,28,29] (.s .o (.b0 (.rf 0 [6]))) .o))))))))) .o)))))) (.s (.s .o (.cl (.s .o .o) .o)) (.s .o .o)))))))
def q10j0 (D : Dyn) (n : Nat) := (⟨_, by conv => rhs; reduce⟩ : {g // some g = prtF (s10 D n) D n 10 Tryz.f10 h10 [] 0}).1
attribute [local irreducible] q10j0
def q10l1 (D : Dyn) (n : Nat) := (⟨_, by conv => rhs; reduce⟩ : {g // some g = prtF (s10 D n) D n 10 Tryz.f10 h10 [q10j0 D n] 1}).1
attribute [local irreducible] q10l1
def q10b2 (D : Dyn) (n : Nat) := (⟨_, by conv => rhs; reduce⟩ : {g // some g = prtF (s10 D n) D n 10 Tryz.f10 h10 [q10j0 D n, q10l1 D n] 2}).1
attribute [local irreducible] q10b2
def q10 (D : Dyn) (n : Nat) := (⟨_, by conv => rhs; reduce⟩ : {g // g = fun vs H => funS (s10 D n) D n 10 Tryz.f10 h10 [q10j0 D n, q10l1 D n, q10b2 D n] vs H}).1
def F10j0 (D : Dyn) (n : Nat) : {g // g = q10j0 D n} := ⟨_, by conv => rhs; delta q10j0; dsimp only; try simp only [FPs]⟩
def F10l1 (D : Dyn) (n : Nat) : {g // g = q10l1 D n} := ⟨_, by conv => rhs; delta q10l1; dsimp only; try simp only [FPs, ← (F10j0 D n).2]⟩
def F10b2 (D : Dyn) (n : Nat) : {g // g = q10b2 D n} := ⟨_, by conv => rhs; delta q10b2; dsimp only; try simp only [FPs, ← (F10j0 D n).2, ← (F10l1 D n).2]⟩
def F10 (D : Dyn) (n : Nat) : {g // g = q10 D n} := ⟨_, by conv => rhs; delta q10; dsimp only; try simp only [FPs, ← (F10j0 D n).2, ← (F10l1 D n).2, ← (F10b2 D n).2]⟩
def f10 (D : Dyn) (n : Nat) := (F10 D n).1
theorem f10_eq (D : Dyn) (n : Nat) : f10 D n = funKp (s10 D n) D n 10 Tryz.f10 (ms h10) := (F10 D n).2.trans (by kernel_rfl)
theorem f10_ok {D : Dyn} (hD : DP D) (n : Nat) : FP 10 (f10 D n) := fun_okP X_ok hD (SP.cons (f26_ok hD n) (SP.cons (f27_ok hD n) (SP.cons (f28_ok hD n) (SP.cons (f30_ok hD n) (SP.cons (f31_ok hD n) (SP.nil)))))) Tryz.func10 (by kernel_rfl) (by kernel_rfl) (f10_eq D n)
def r10_0a : Hint := .o
def r10_0b : Hint := (.b0 .o)
def r10_0 (D : Dyn) (n : Nat) := (⟨_, by conv => rhs; reduce⟩ : {g // g = fun A l az H => rndS (s10 D n) D n 10 0 [6] [0] r10_0a r10_0b [] A l az H}).1
theorem r10_0_eq (D : Dyn) (n : Nat) : r10_0 D n = rndKp (s10 D n) D n 10 0 [6] [0] (ms r10_0a) (ms r10_0b) := by kernel_rfl
theorem r10_0_ok {D : Dyn} (hD : DP D) (n : Nat) : RdP 10 0 (r10_0 D n) := round_okP X_ok hD (SP.cons (f26_ok hD n) (SP.cons (f27_ok hD n) (SP.cons (f28_ok hD n) (SP.cons (f30_ok hD n) (SP.cons (f31_ok hD n) (SP.nil)))))) (by kernel_rfl) (r10_0_eq D n)
attribute [local irreducible] f10 r10_0

def s34 (D : Dyn) (n : Nat) : Tb := ⟨X, []⟩
def h34 : Hint := (.s .o (.s (.s .o (.cl (.s .o .o) .o)) (.s .o .o)))
def q34 (D : Dyn) (n : Nat) := (⟨_, by conv => rhs; reduce⟩ : {g // g = fun vs H => funS (s34 D n) D n 34 Tryz.f34 h34 [] vs H}).1
def F34 (D : Dyn) (n : Nat) : {g // g = q34 D n} := ⟨_, by conv => rhs; delta q34; dsimp only; try simp only [FPs]⟩
def f34 (D : Dyn) (n : Nat) := (F34 D n).1
theorem f34_eq (D : Dyn) (n : Nat) : f34 D n = funKp (s34 D n) D n 34 Tryz.f34 (ms h34) := (F34 D n).2.trans (by kernel_rfl)
theorem f34_ok {D : Dyn} (hD : DP D) (n : Nat) : FP 34 (f34 D n) := fun_okP X_ok hD (SP.nil) Tryz.func34 (by kernel_rfl) (by kernel_rfl) (f34_eq D n)
attribute [local irreducible] f34

def s96 (D : Dyn) (n : Nat) : Tb := ⟨X, []⟩
def h96 : Hint := (.s .o .o)
def q96 (D : Dyn) (n : Nat) := (⟨_, by conv => rhs; reduce⟩ : {g // g = fun vs H => funS (s96 D n) D n 96 Tryz.f96 h96 [] vs H}).1
def F96 (D : Dyn) (n : Nat) : {g // g = q96 D n} := ⟨_, by conv => rhs; delta q96; dsimp only; try simp only [FPs]⟩
def f96 (D : Dyn) (n : Nat) := (F96 D n).1
theorem f96_eq (D : Dyn) (n : Nat) : f96 D n = funKp (s96 D n) D n 96 Tryz.f96 (ms h96) := (F96 D n).2.trans (by kernel_rfl)
theorem f96_ok {D : Dyn} (hD : DP D) (n : Nat) : FP 96 (f96 D n) := fun_okP X_ok hD (SP.nil) Tryz.func96 (by kernel_rfl) (by kernel_rfl) (f96_eq D n)
attribute [local irreducible] f96

def s97 (D : Dyn) (n : Nat) : Tb := ⟨X, [(25, f25 D n)]⟩
def h97 : Hint := (.s .o (.s .o (.s (.s .o (.c [0,2,4] .o .o)) .o)))
def q97j0 (D : Dyn) (n : Nat) := (⟨_, by conv => rhs; reduce⟩ : {g // some g = prtF (s97 D n) D n 97 Tryz.f97 h97 [] 0}).1
attribute [local irreducible] q97j0
def q97 (D : Dyn) (n : Nat) := (⟨_, by conv => rhs; reduce⟩ : {g // g = fun vs H => funS (s97 D n) D n 97 Tryz.f97 h97 [q97j0 D n] vs H}).1
def F97j0 (D : Dyn) (n : Nat) : {g // g = q97j0 D n} := ⟨_, by conv => rhs; delta q97j0; dsimp only; try simp only [FPs]⟩
def F97 (D : Dyn) (n : Nat) : {g // g = q97 D n} := ⟨_, by conv => rhs; delta q97; dsimp only; try simp only [FPs, ← (F97j0 D n).2]⟩
def f97 (D : Dyn) (n : Nat) := (F97 D n).1
theorem f97_eq (D : Dyn) (n : Nat) : f97 D n = funKp (s97 D n) D n 97 Tryz.f97 (ms h97) := (F97 D n).2.trans (by kernel_rfl)
theorem f97_ok {D : Dyn} (hD : DP D) (n : Nat) : FP 97 (f97 D n) := fun_okP X_ok hD (SP.cons (f25_ok hD n) (SP.nil)) Tryz.func97 (by kernel_rfl) (by kernel_rfl) (f97_eq D n)
attribute [local irreducible] f97

def s61 (D : Dyn) (n : Nat) : Tb := ⟨X, [(72, f72 D n), (95, f95 D n)]⟩
def h61 : Hint := (.s .o (.s (.s .o (.cl (.s .o .o) .o)) (.s (.s .o (.cl (.s .o .o) .o)) (.s .o (.s .o (.s .o (.s .o (.s (.s .o (.c [3,1,4,5,6,7] .o .o)) (.s (.s .o (.b [2,4,5] (.l [1,1,4,5,6,7,38,39,40] (.s .o (.s (.cr .o .o) (.s (.b0 (.s .o (.s .o (.s .o (.c [0,1,4,5,6,7,38,39,40] .o .o))))) .o)))))) (.s (.s .o (.cl (.s (.b [] .o) .o) .o)) (.s .o .o)))))))))))
def q61j0 (D : Dyn) (n : Nat) := (⟨_, by conv => rhs; reduce⟩ : {g // some g = prtF (s61 D n) D n 61 Tryz.f61 h61 [] 0}).1
attribute [local irreducible] q61j0
def q61l1 (D : Dyn) (n : Nat) := (⟨_, by conv => rhs; reduce⟩ : {g // some g = prtF (s61 D n) D n 61 Tryz.f61 h61 [q61j0 D n] 1}).1
attribute [local irreducible] q61l1
def q61b2 (D : Dyn) (n : Nat) := (⟨_, by conv => rhs; reduce⟩ : {g // some g = prtF (s61 D n) D n 61 Tryz.f61 h61 [q61j0 D n, q61l1 D n] 2}).1
attribute [local irreducible] q61b2
def q61j3 (D : Dyn) (n : Nat) := (⟨_, by conv => rhs; reduce⟩ : {g // some g = prtF (s61 D n) D n 61 Tryz.f61 h61 [q61j0 D n, q61l1 D n, q61b2 D n] 3}).1
attribute [local irreducible] q61j3
def q61 (D : Dyn) (n : Nat) := (⟨_, by conv => rhs; reduce⟩ : {g // g = fun vs H => funS (s61 D n) D n 61 Tryz.f61 h61 [q61j0 D n, q61l1 D n, q61b2 D n, q61j3 D n] vs H}).1
def F61j0 (D : Dyn) (n : Nat) : {g // g = q61j0 D n} := ⟨_, by conv => rhs; delta q61j0; dsimp only; try simp only [FPs]⟩
def F61l1 (D : Dyn) (n : Nat) : {g // g = q61l1 D n} := ⟨_, by conv => rhs; delta q61l1; dsimp only; try simp only [FPs, ← (F61j0 D n).2]⟩
def F61b2 (D : Dyn) (n : Nat) : {g // g = q61b2 D n} := ⟨_, by conv => rhs; delta q61b2; dsimp only; try simp only [FPs, ← (F61j0 D n).2, ← (F61l1 D n).2]⟩
def F61j3 (D : Dyn) (n : Nat) : {g // g = q61j3 D n} := ⟨_, by conv => rhs; delta q61j3; dsimp only; try simp only [FPs, ← (F61j0 D n).2, ← (F61l1 D n).2, ← (F61b2 D n).2]⟩
def F61 (D : Dyn) (n : Nat) : {g // g = q61 D n} := ⟨_, by conv => rhs; delta q61; dsimp only; try simp only [FPs, ← (F61j0 D n).2, ← (F61l1 D n).2, ← (F61b2 D n).2, ← (F61j3 D n).2]⟩
def f61 (D : Dyn) (n : Nat) := (F61 D n).1
theorem f61_eq (D : Dyn) (n : Nat) : f61 D n = funKp (s61 D n) D n 61 Tryz.f61 (ms h61) := (F61 D n).2.trans (by kernel_rfl)
theorem f61_ok {D : Dyn} (hD : DP D) (n : Nat) : FP 61 (f61 D n) := fun_okP X_ok hD (SP.cons (f72_ok hD n) (SP.cons (f95_ok hD n) (SP.nil))) Tryz.func61 (by kernel_rfl) (by kernel_rfl) (f61_eq D n)
attribute [local irreducible] f61

def s111 (D : Dyn) (n : Nat) : Tb := ⟨X, []⟩
def h111 : Hint := (.s (.s (.b [] .o) (.cl .o .o)) (.s .o (.b [1] (.l [0,0,1,2,5] (.s (.s .o (.cr .o .o)) (.s (.b0 (.s (.b [11,2047] .o) (.cl .o .o))) .o))))))
def q111l0 (D : Dyn) (n : Nat) := (⟨_, by conv => rhs; reduce⟩ : {g // some g = prtF (s111 D n) D n 111 Tryz.f111 h111 [] 0}).1
attribute [local irreducible] q111l0
def q111b1 (D : Dyn) (n : Nat) := (⟨_, by conv => rhs; reduce⟩ : {g // some g = prtF (s111 D n) D n 111 Tryz.f111 h111 [q111l0 D n] 1}).1
attribute [local irreducible] q111b1
def q111 (D : Dyn) (n : Nat) := (⟨_, by conv => rhs; reduce⟩ : {g // g = fun vs H => funS (s111 D n) D n 111 Tryz.f111 h111 [q111l0 D n, q111b1 D n] vs H}).1
def F111l0 (D : Dyn) (n : Nat) : {g // g = q111l0 D n} := ⟨_, by conv => rhs; delta q111l0; dsimp only; try simp only [FPs]⟩
def F111b1 (D : Dyn) (n : Nat) : {g // g = q111b1 D n} := ⟨_, by conv => rhs; delta q111b1; dsimp only; try simp only [FPs, ← (F111l0 D n).2]⟩
def F111 (D : Dyn) (n : Nat) : {g // g = q111 D n} := ⟨_, by conv => rhs; delta q111; dsimp only; try simp only [FPs, ← (F111l0 D n).2, ← (F111b1 D n).2]⟩
def f111 (D : Dyn) (n : Nat) := (F111 D n).1
theorem f111_eq (D : Dyn) (n : Nat) : f111 D n = funKp (s111 D n) D n 111 Tryz.f111 (ms h111) := (F111 D n).2.trans (by kernel_rfl)
theorem f111_ok {D : Dyn} (hD : DP D) (n : Nat) : FP 111 (f111 D n) := fun_okP X_ok hD (SP.nil) Tryz.func111 (by kernel_rfl) (by kernel_rfl) (f111_eq D n)
attribute [local irreducible] f111

def s77 (D : Dyn) (n : Nat) : Tb := ⟨X, []⟩
def h77 : Hint := (.s .o (.s .o .o))
def q77 (D : Dyn) (n : Nat) := (⟨_, by conv => rhs; reduce⟩ : {g // g = fun vs H => funS (s77 D n) D n 77 Tryz.f77 h77 [] vs H}).1
def F77 (D : Dyn) (n : Nat) : {g // g = q77 D n} := ⟨_, by conv => rhs; delta q77; dsimp only; try simp only [FPs]⟩
def f77 (D : Dyn) (n : Nat) := (F77 D n).1
theorem f77_eq (D : Dyn) (n : Nat) : f77 D n = funKp (s77 D n) D n 77 Tryz.f77 (ms h77) := (F77 D n).2.trans (by kernel_rfl)
theorem f77_ok {D : Dyn} (hD : DP D) (n : Nat) : FP 77 (f77 D n) := fun_okP X_ok hD (SP.nil) Tryz.func77 (by kernel_rfl) (by kernel_rfl) (f77_eq D n)
attribute [local irreducible] f77

def s47 (D : Dyn) (n : Nat) : Tb := ⟨X, [(77, f77 D n), (24, f24 D n)]⟩
def h47 : Hint := (.s .o (.s (.s .o (.cl (.s .o .o) .o)) (.s (.s .o (.b [1,2,3] (.l [0,1,2,3,13,14] (.s .o (.s (.cr .o .o) (.s (.b0 (.s .o (.s .o (.b0 (.rf 0 [1,2,3]))))) .o)))))) (.s .o .o))))
def q47l0 (D : Dyn) (n : Nat) := (⟨_, by conv => rhs; reduce⟩ : {g // some g = prtF (s47 D n) D n 47 Tryz.f47 h47 [] 0}).1
attribute [local irreducible] q47l0
def q47b1 (D : Dyn) (n : Nat) := (⟨_, by conv => rhs; reduce⟩ : {g // some g = prtF (s47 D n) D n 47 Tryz.f47 h47 [q47l0 D n] 1}).1
attribute [local irreducible] q47b1
def q47 (D : Dyn) (n : Nat) := (⟨_, by conv => rhs; reduce⟩ : {g // g = fun vs H => funS (s47 D n) D n 47 Tryz.f47 h47 [q47l0 D n, q47b1 D n] vs H}).1
def F47l0 (D : Dyn) (n : Nat) : {g // g = q47l0 D n} := ⟨_, by conv => rhs; delta q47l0; dsimp only; try simp only [FPs]⟩
def F47b1 (D : Dyn) (n : Nat) : {g // g = q47b1 D n} := ⟨_, by conv => rhs; delta q47b1; dsimp only; try simp only [FPs, ← (F47l0 D n).2]⟩
def F47 (D : Dyn) (n : Nat) : {g // g = q47 D n} := ⟨_, by conv => rhs; delta q47; dsimp only; try simp only [FPs, ← (F47l0 D n).2, ← (F47b1 D n).2]⟩
def f47 (D : Dyn) (n : Nat) := (F47 D n).1
theorem f47_eq (D : Dyn) (n : Nat) : f47 D n = funKp (s47 D n) D n 47 Tryz.f47 (ms h47) := (F47 D n).2.trans (by kernel_rfl)
theorem f47_ok {D : Dyn} (hD : DP D) (n : Nat) : FP 47 (f47 D n) := fun_okP X_ok hD (SP.cons (f77_ok hD n) (SP.cons (f24_ok hD n) (SP.nil))) Tryz.func47 (by kernel_rfl) (by kernel_rfl) (f47_eq D n)
def r47_0a : Hint := .o
def r47_0b : Hint := (.b0 (.s .o (.s .o (.s .o .o))))
def r47_0 (D : Dyn) (n : Nat) := (⟨_, by conv => rhs; reduce⟩ : {g // g = fun A l az H => rndS (s47 D n) D n 47 0 [1, 2, 3] [0] r47_0a r47_0b [] A l az H}).1
theorem r47_0_eq (D : Dyn) (n : Nat) : r47_0 D n = rndKp (s47 D n) D n 47 0 [1, 2, 3] [0] (ms r47_0a) (ms r47_0b) := by kernel_rfl
theorem r47_0_ok {D : Dyn} (hD : DP D) (n : Nat) : RdP 47 0 (r47_0 D n) := round_okP X_ok hD (SP.cons (f77_ok hD n) (SP.cons (f24_ok hD n) (SP.nil))) (by kernel_rfl) (r47_0_eq D n)
attribute [local irreducible] f47 r47_0

def s112 (D : Dyn) (n : Nat) : Tb := ⟨X, []⟩
def h112 : Hint := (.s .o .o)
def q112 (D : Dyn) (n : Nat) := (⟨_, by conv => rhs; reduce⟩ : {g // g = fun vs H => funS (s112 D n) D n 112 Tryz.f112 h112 [] vs H}).1
def F112 (D : Dyn) (n : Nat) : {g // g = q112 D n} := ⟨_, by conv => rhs; delta q112; dsimp only; try simp only [FPs]⟩
def f112 (D : Dyn) (n : Nat) := (F112 D n).1
theorem f112_eq (D : Dyn) (n : Nat) : f112 D n = funKp (s112 D n) D n 112 Tryz.f112 (ms h112) := (F112 D n).2.trans (by kernel_rfl)
theorem f112_ok {D : Dyn} (hD : DP D) (n : Nat) : FP 112 (f112 D n) := fun_okP X_ok hD (SP.nil) Tryz.func112 (by kernel_rfl) (by kernel_rfl) (f112_eq D n)
attribute [local irreducible] f112

def s85 (D : Dyn) (n : Nat) : Tb := ⟨X, [(112, f112 D n)]⟩
def h85 : Hint := (.s (.s .o (.b [2,0] (.l [1,0,1,9,10,11] (.s .o (.s (.cr .o .o) (.s (.b0 (.s .o (.s .o (.c [0,0,1,9,10,11] (.b [8,255] .o) .o)))) .o)))))) (.s .o (.s .o .o)))
def q85j0 (D : Dyn) (n : Nat) := (⟨_, by conv => rhs; reduce⟩ : {g // some g = prtF (s85 D n) D n 85 Tryz.f85 h85 [] 0}).1
attribute [local irreducible] q85j0
def q85l1 (D : Dyn) (n : Nat) := (⟨_, by conv => rhs; reduce⟩ : {g // some g = prtF (s85 D n) D n 85 Tryz.f85 h85 [q85j0 D n] 1}).1
attribute [local irreducible] q85l1
def q85b2 (D : Dyn) (n : Nat) := (⟨_, by conv => rhs; reduce⟩ : {g // some g = prtF (s85 D n) D n 85 Tryz.f85 h85 [q85j0 D n, q85l1 D n] 2}).1
attribute [local irreducible] q85b2
def q85 (D : Dyn) (n : Nat) := (⟨_, by conv => rhs; reduce⟩ : {g // g = fun vs H => funS (s85 D n) D n 85 Tryz.f85 h85 [q85j0 D n, q85l1 D n, q85b2 D n] vs H}).1
def F85j0 (D : Dyn) (n : Nat) : {g // g = q85j0 D n} := ⟨_, by conv => rhs; delta q85j0; dsimp only; try simp only [FPs]⟩
def F85l1 (D : Dyn) (n : Nat) : {g // g = q85l1 D n} := ⟨_, by conv => rhs; delta q85l1; dsimp only; try simp only [FPs, ← (F85j0 D n).2]⟩
def F85b2 (D : Dyn) (n : Nat) : {g // g = q85b2 D n} := ⟨_, by conv => rhs; delta q85b2; dsimp only; try simp only [FPs, ← (F85j0 D n).2, ← (F85l1 D n).2]⟩
def F85 (D : Dyn) (n : Nat) : {g // g = q85 D n} := ⟨_, by conv => rhs; delta q85; dsimp only; try simp only [FPs, ← (F85j0 D n).2, ← (F85l1 D n).2, ← (F85b2 D n).2]⟩
def f85 (D : Dyn) (n : Nat) := (F85 D n).1
theorem f85_eq (D : Dyn) (n : Nat) : f85 D n = funKp (s85 D n) D n 85 Tryz.f85 (ms h85) := (F85 D n).2.trans (by kernel_rfl)
theorem f85_ok {D : Dyn} (hD : DP D) (n : Nat) : FP 85 (f85 D n) := fun_okP X_ok hD (SP.cons (f112_ok hD n) (SP.nil)) Tryz.func85 (by kernel_rfl) (by kernel_rfl) (f85_eq D n)
attribute [local irreducible] f85

def s83 (D : Dyn) (n : Nat) : Tb := ⟨X, [(85, f85 D n)]⟩
def h83 : Hint := (.s .o (.s (.s .o (.cl (.s .o .o) .o)) (.s .o (.s (.s .o (.cl (.s .o .o) .o)) (.s .o (.s .o .o))))))
def q83 (D : Dyn) (n : Nat) := (⟨_, by conv => rhs; reduce⟩ : {g // g = fun vs H => funS (s83 D n) D n 83 Tryz.f83 h83 [] vs H}).1
def F83 (D : Dyn) (n : Nat) : {g // g = q83 D n} := ⟨_, by conv => rhs; delta q83; dsimp only; try simp only [FPs]⟩
def f83 (D : Dyn) (n : Nat) := (F83 D n).1
theorem f83_eq (D : Dyn) (n : Nat) : f83 D n = funKp (s83 D n) D n 83 Tryz.f83 (ms h83) := (F83 D n).2.trans (by kernel_rfl)
theorem f83_ok {D : Dyn} (hD : DP D) (n : Nat) : FP 83 (f83 D n) := fun_okP X_ok hD (SP.cons (f85_ok hD n) (SP.nil)) Tryz.func83 (by kernel_rfl) (by kernel_rfl) (f83_eq D n)
attribute [local irreducible] f83

def s50 (D : Dyn) (n : Nat) : Tb := ⟨X, [(82, f82 D n), (83, f83 D n)]⟩
def h50 : Hint := (.s .o (.s (.s .o (.s .o (.cl (.s .o .o) .o))) (.s (.b [10,1023] .o) (.s (.b [9,510,12,4095] .o) (.s .o .o)))))
def q50 (D : Dyn) (n : Nat) := (⟨_, by conv => rhs; reduce⟩ : {g // g = fun vs H => funS (s50 D n) D n 50 Tryz.f50 h50 [] vs H}).1
def F50 (D : Dyn) (n : Nat) : {g // g = q50 D n} := ⟨_, by conv => rhs; delta q50; dsimp only; try simp only [FPs]⟩
def f50 (D : Dyn) (n : Nat) := (F50 D n).1
theorem f50_eq (D : Dyn) (n : Nat) : f50 D n = funKp (s50 D n) D n 50 Tryz.f50 (ms h50) := (F50 D n).2.trans (by kernel_rfl)
theorem f50_ok {D : Dyn} (hD : DP D) (n : Nat) : FP 50 (f50 D n) := fun_okP X_ok hD (SP.cons (f82_ok hD n) (SP.cons (f83_ok hD n) (SP.nil))) Tryz.func50 (by kernel_rfl) (by kernel_rfl) (f50_eq D n)
attribute [local irreducible] f50

def s54 (D : Dyn) (n : Nat) : Tb := ⟨X, [(86, f86 D n), (87, f87 D n)]⟩
def h54 : Hint := (.s .o (.s .o (.s (.s .o (.cl (.s .o .o) .o)) (.s (.s .o (.cl (.s .o .o) .o)) (.s .o .o)))))
def q54 (D : Dyn) (n : Nat) := (⟨_, by conv => rhs; reduce⟩ : {g // g = fun vs H => funS (s54 D n) D n 54 Tryz.f54 h54 [] vs H}).1
def F54 (D : Dyn) (n : Nat) : {g // g = q54 D n} := ⟨_, by conv => rhs; delta q54; dsimp only; try simp only [FPs]⟩
def f54 (D : Dyn) (n : Nat) := (F54 D n).1
theorem f54_eq (D : Dyn) (n : Nat) : f54 D n = funKp (s54 D n) D n 54 Tryz.f54 (ms h54) := (F54 D n).2.trans (by kernel_rfl)
theorem f54_ok {D : Dyn} (hD : DP D) (n : Nat) : FP 54 (f54 D n) := fun_okP X_ok hD (SP.cons (f86_ok hD n) (SP.cons (f87_ok hD n) (SP.nil))) Tryz.func54 (by kernel_rfl) (by kernel_rfl) (f54_eq D n)
attribute [local irreducible] f54

def s62 (D : Dyn) (n : Nat) : Tb := ⟨X, [(47, f47 D n), (50, f50 D n), (54, f54 D n)]⟩
def h62 : Hint := (.s .o (.s .o (.s (.s .o (.cl (.s .o .o) .o)) (.s .o (.s (.s (.b [9,511] .o) (.s .o (.cl (.s .o .o) .o))) (.s (.b [9,510,12,4095] .o) (.s .o .o)))))))
def q62 (D : Dyn) (n : Nat) := (⟨_, by conv => rhs; reduce⟩ : {g // g = fun vs H => funS (s62 D n) D n 62 Tryz.f62 h62 [] vs H}).1
def F62 (D : Dyn) (n : Nat) : {g // g = q62 D n} := ⟨_, by conv => rhs; delta q62; dsimp only; try simp only [FPs]⟩
def f62 (D : Dyn) (n : Nat) := (F62 D n).1
theorem f62_eq (D : Dyn) (n : Nat) : f62 D n = funKp (s62 D n) D n 62 Tryz.f62 (ms h62) := (F62 D n).2.trans (by kernel_rfl)
theorem f62_ok {D : Dyn} (hD : DP D) (n : Nat) : FP 62 (f62 D n) := fun_okP X_ok hD (SP.cons (f47_ok hD n) (SP.cons (f50_ok hD n) (SP.cons (f54_ok hD n) (SP.nil)))) Tryz.func62 (by kernel_rfl) (by kernel_rfl) (f62_eq D n)
attribute [local irreducible] f62

def s35 (D : Dyn) (n : Nat) : Tb := ⟨X, [(28, f28 D n), (61, f61 D n), (53, f53 D n), (62, f62 D n)]⟩
def h35 : Hint := (.s .o (.s (.s .o (.cl (.s .o .o) .o)) (.s (.s .o (.s .o (.cl (.s .o .o) .o))) (.s (.c [5,31,10,767] (.l [0,1,2,3,4,9,5,6,7,8,10,11] .o) .o) (.s (.s .o (.cl (.s .o .o) .o)) (.s .o (.s (.s .o (.b [2,0,4,6,8] (.l [0,0,4,6,8,49,50,51] (.s .o (.s (.cr .o .o) (.s (.b0 (.s .o (.s .o (.s .o (.cl (.s .o .o) .o))))) .o)))))) (.s .o (.s .o (.s (.s .o (.c [1,0,4,6,11] .o .o)) (.s .o (.s (.s .o (.cl (.s .o .o) .o)) (.s .o (.s (.s .o (.cl (.s .o .o) .o)) (.s .o .o)))))))))))))))
def q35l0 (D : Dyn) (n : Nat) := (⟨_, by conv => rhs; reduce⟩ : {g // some g = prtF (s35 D n) D n 35 Tryz.f35 h35 [] 0}).1
attribute [local irreducible] q35l0
def q35j1 (D : Dyn) (n : Nat) := (⟨_, by conv => rhs; reduce⟩ : {g // some g = prtF (s35 D n) D n 35 Tryz.f35 h35 [q35l0 D n] 1}).1
attribute [local irreducible] q35j1
def q35b2 (D : Dyn) (n : Nat) := (⟨_, by conv => rhs; reduce⟩ : {g // some g = prtF (s35 D n) D n 35 Tryz.f35 h35 [q35l0 D n, q35j1 D n] 2}).1
attribute [local irreducible] q35b2
def q35 (D : Dyn) (n : Nat) := (⟨_, by conv => rhs; reduce⟩ : {g // g = fun vs H => funS (s35 D n) D n 35 Tryz.f35 h35 [q35l0 D n, q35j1 D n, q35b2 D n] vs H}).1
def F35l0 (D : Dyn) (n : Nat) : {g // g = q35l0 D n} := ⟨_, by conv => rhs; delta q35l0; dsimp only; try simp only [FPs]⟩
def F35j1 (D : Dyn) (n : Nat) : {g // g = q35j1 D n} := ⟨_, by conv => rhs; delta q35j1; dsimp only; try simp only [FPs, ← (F35l0 D n).2]⟩
def F35b2 (D : Dyn) (n : Nat) : {g // g = q35b2 D n} := ⟨_, by conv => rhs; delta q35b2; dsimp only; try simp only [FPs, ← (F35l0 D n).2, ← (F35j1 D n).2]⟩
def F35 (D : Dyn) (n : Nat) : {g // g = q35 D n} := ⟨_, by conv => rhs; delta q35; dsimp only; try simp only [FPs, ← (F35l0 D n).2, ← (F35j1 D n).2, ← (F35b2 D n).2]⟩
def f35 (D : Dyn) (n : Nat) := (F35 D n).1
theorem f35_eq (D : Dyn) (n : Nat) : f35 D n = funKp (s35 D n) D n 35 Tryz.f35 (ms h35) := (F35 D n).2.trans (by kernel_rfl)
theorem f35_ok {D : Dyn} (hD : DP D) (n : Nat) : FP 35 (f35 D n) := fun_okP X_ok hD (SP.cons (f28_ok hD n) (SP.cons (f61_ok hD n) (SP.cons (f53_ok hD n) (SP.cons (f62_ok hD n) (SP.nil))))) Tryz.func35 (by kernel_rfl) (by kernel_rfl) (f35_eq D n)
attribute [local irreducible] f35

def s63 (D : Dyn) (n : Nat) : Tb := ⟨X, []⟩
def h63 : Hint := (.s .o (.s (.s .o (.cl (.s .o .o) .o)) (.s (.s .o (.cl (.s .o .o) .o)) (.s .o .o))))
def q63 (D : Dyn) (n : Nat) := (⟨_, by conv => rhs; reduce⟩ : {g // g = fun vs H => funS (s63 D n) D n 63 Tryz.f63 h63 [] vs H}).1
def F63 (D : Dyn) (n : Nat) : {g // g = q63 D n} := ⟨_, by conv => rhs; delta q63; dsimp only; try simp only [FPs]⟩
def f63 (D : Dyn) (n : Nat) := (F63 D n).1
theorem f63_eq (D : Dyn) (n : Nat) : f63 D n = funKp (s63 D n) D n 63 Tryz.f63 (ms h63) := (F63 D n).2.trans (by kernel_rfl)
theorem f63_ok {D : Dyn} (hD : DP D) (n : Nat) : FP 63 (f63 D n) := fun_okP X_ok hD (SP.nil) Tryz.func63 (by kernel_rfl) (by kernel_rfl) (f63_eq D n)
attribute [local irreducible] f63

def s36 (D : Dyn) (n : Nat) : Tb := ⟨X, [(63, f63 D n), (24, f24 D n)]⟩
def h36 : Hint := (.s .o (.s (.s .o (.s .o (.cl (.s .o .o) .o))) (.s (.s .o (.b0 (.s .o (.c [0] .o (.s .o (.cr .o (.s .o .o))))))) (.s .o .o))))
def q36j0 (D : Dyn) (n : Nat) := (⟨_, by conv => rhs; reduce⟩ : {g // some g = prtF (s36 D n) D n 36 Tryz.f36 h36 [] 0}).1
attribute [local irreducible] q36j0
def q36 (D : Dyn) (n : Nat) := (⟨_, by conv => rhs; reduce⟩ : {g // g = fun vs H => funS (s36 D n) D n 36 Tryz.f36 h36 [q36j0 D n] vs H}).1
def F36j0 (D : Dyn) (n : Nat) : {g // g = q36j0 D n} := ⟨_, by conv => rhs; delta q36j0; dsimp only; try simp only [FPs]⟩
def F36 (D : Dyn) (n : Nat) : {g // g = q36 D n} := ⟨_, by conv => rhs; delta q36; dsimp only; try simp only [FPs, ← (F36j0 D n).2]⟩
def f36 (D : Dyn) (n : Nat) := (F36 D n).1
theorem f36_eq (D : Dyn) (n : Nat) : f36 D n = funKp (s36 D n) D n 36 Tryz.f36 (ms h36) := (F36 D n).2.trans (by kernel_rfl)
theorem f36_ok {D : Dyn} (hD : DP D) (n : Nat) : FP 36 (f36 D n) := fun_okP X_ok hD (SP.cons (f63_ok hD n) (SP.cons (f24_ok hD n) (SP.nil))) Tryz.func36 (by kernel_rfl) (by kernel_rfl) (f36_eq D n)
attribute [local irreducible] f36
end Go.Eng.Sh
