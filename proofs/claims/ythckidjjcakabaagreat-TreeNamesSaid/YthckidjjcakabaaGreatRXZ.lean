/- The law, over what is told, by program (gent4.py). -/
import Derived.Test.YthckidjjcakabaaGreatRXT
import Derived.Test.YthckidjjcakabaaGreatRXC4
import Derived.Test.YthckidjjcakabaaGreatRXC15
import Derived.Test.YthckidjjcakabaaGreatRXC16
import Derived.Test.YthckidjjcakabaaGreatRXC17
import Derived.Test.YthckidjjcakabaaGreatRXC18
import Derived.Test.YthckidjjcakabaaGreatRXC19
import Derived.Test.YthckidjjcakabaaGreatProg
import Derived.KernelRfl
noncomputable section
namespace Go.Eng.Sh
open Go.Proofs
set_option maxRecDepth 1000000
set_option maxHeartbeats 4000000
set_option linter.all false
def z4 (D : Dyn) (n : Nat) (vs : List AV) (H : AH) : Option (AV × AH) := cloK (f4 D n) vs H
theorem z4_ok {D : Dyn} (hD : DP D) (n : Nat) : FP 4 (z4 D n) := cloK_ok ⟨_, Tryz.func4, rfl⟩ c4 (f4_ok hD n)
def z15 (D : Dyn) (n : Nat) (vs : List AV) (H : AH) : Option (AV × AH) := cloK (f15 D n) vs H
theorem z15_ok {D : Dyn} (hD : DP D) (n : Nat) : FP 15 (z15 D n) := cloK_ok ⟨_, Tryz.func15, rfl⟩ c15 (f15_ok hD n)
def z16 (D : Dyn) (n : Nat) (vs : List AV) (H : AH) : Option (AV × AH) := cloK (f16 D n) vs H
theorem z16_ok {D : Dyn} (hD : DP D) (n : Nat) : FP 16 (z16 D n) := cloK_ok ⟨_, Tryz.func16, rfl⟩ c16 (f16_ok hD n)
def z17 (D : Dyn) (n : Nat) (vs : List AV) (H : AH) : Option (AV × AH) := cloK (f17 D n) vs H
theorem z17_ok {D : Dyn} (hD : DP D) (n : Nat) : FP 17 (z17 D n) := cloK_ok ⟨_, Tryz.func17, rfl⟩ c17 (f17_ok hD n)
def z18 (D : Dyn) (n : Nat) (vs : List AV) (H : AH) : Option (AV × AH) := cloK (f18 D n) vs H
theorem z18_ok {D : Dyn} (hD : DP D) (n : Nat) : FP 18 (z18 D n) := cloK_ok ⟨_, Tryz.func18, rfl⟩ c18 (f18_ok hD n)
def z19 (D : Dyn) (n : Nat) (vs : List AV) (H : AH) : Option (AV × AH) := cloK (f19 D n) vs H
theorem z19_ok {D : Dyn} (hD : DP D) (n : Nat) : FP 19 (z19 D n) := cloK_ok ⟨_, Tryz.func19, rfl⟩ c19 (f19_ok hD n)
attribute [local irreducible] bV bR hd cnd jn jb loopK wnt chk newB bA bInt bStr bBool cmpO eqP eqS eqM eqF eqPL cvI cvSS slStr slArr ixArr ixSl ixStr fAd lnStr lnSl lnMap pk3 s2a bxV lkM upM dlM mkM callV nl outR tld endQ beginK endR endLp jmpK rfC mn2 mx2 aun pExtract pNil undefA isW aveq ldNp ld1p stNp cvBSp cvSBp slSlp ixAg1p ixAgNp fd1p fdNp apPp apZp cpyp bldSp bldAp bldLp mkSlp eqAp clSp bC pnK ifNil asrK noPan mkR clM acap mtp66_0 mtp80_0 f23 q23 f5 q5 f24 q24 q6l0 q6b1 f6 q6 f55 q55 q56l0 q56b1 f56 q56 f25 q25 f7 q7 f26 q26 f67 q67 f66j0 f66l1 f66b2 f66 q95l0 q95l1 q95b2 q95b3 f95 q95 f73 q73 q72l0 q72l1 q72b2 q72l3 q72b4 q72b5 f72 q72 q124j0 q124l1 q124b2 q124j3 f124 q124 f32 q32 f33 q33 q120j0 f120 q120 q104l0 q104b1 f104 q104 q106l0 q106b1 f106 q106 q71j0 q71j1 f71 q71 f27 q27 f64 q64 f99 q99 q101j0 q101j1 f101 q101 f117 q117 q102j0 f102 q102 f118 q118 f100 q100 q98j0 q98j1 q98j2 q98j3 f98 q98 q65j0 q65j1 f65 q65 f88 q88 f123l0 f123b1 f123 m123 f114 q114 f87 q87 q113l0 q113b1 f113 q113 f53 q53 f86 q86 f89 q89 f84 q84 f82 q82 f49 q49 f37 q37 q57j0 q57j1 q57j2 f57 q57 f90 q90 f116 q116 f92 q92 f94 q94 f115 q115 f91 q91 f93 q93 q58l0 q58b1 q58l2 q58b3 q58j4 f58 q58 f28 q28 q30j0 q30l1 q30b2 f30 q30 f70 q70 f119 q119 q109j0 q109j1 f109 q109 q75j0 q75l1 q75l2 q75b3 q75b4 f75 q75 q121j0 q121j1 f121 q121 q105j0 q105l1 q105l2 q105b3 q105b4 f105 q105 f103 q103 q69j0 q69j1 q69j2 f69 q69 q68j0 q68j1 f68 q68 f38 q38 q125l0 q125b1 f125 q125 f122 q122 f108 q108 f74 m74 f40 q40 f39 q39 f13 q13 f20 q20 f21 q21 q59l0 q59b1 f59 q59 f29 q29 q8l0 q8b1 f8 q8 f22 q22 q60l0 q60b1 f60 q60 f31 q31 q10j0 q10l1 q10b2 f10 q10 r10_0 f34 q34 f96 q96 q97j0 f97 q97 q61j0 q61l1 q61b2 q61j3 f61 q61 q111l0 q111b1 f111 q111 f77 q77 q47l0 q47b1 f47 q47 r47_0 f112 q112 q85j0 q85l1 q85b2 f85 q85 f83 q83 f50 q50 f54 q54 f62 q62 q35l0 q35j1 q35b2 f35 q35 f63 q63 q36j0 f36 q36 q12l0 q12b1 q12l2 q12b3 q12j4 f12 q12 f42 q42 f41 q41 f14 q14 f4 q4 f9 q9 f11 q11 q43l0 q43b1 f43 q43 q44l0 q44b1 f44 q44 f76 m76 f45 q45 f46 q46 q15l0 q15l1 q15l2 q15b3 q15b4 q15b5 f15 q15 f16 q16 f78 m78 f79 q79 f80 f81 q81 f48 q48 q17l0 q17l1 q17b2 q17l3 q17b4 q17b5 f17 q17 f51 q51 f52 q52 f18 q18 f19 q19 f3 q3 z4 z15 z16 z17 z18 z19
def s3z (D : Dyn) (n : Nat) : Tb := ⟨X, [(4, z4 D n), (5, f5 D n), (6, f6 D n), (7, f7 D n), (8, f8 D n), (9, f9 D n), (10, f10 D n), (11, f11 D n), (12, f12 D n), (13, f13 D n), (14, f14 D n), (15, z15 D n), (16, z16 D n), (17, z17 D n), (18, z18 D n), (19, z19 D n)]⟩
def h3z : Hint := (.s .o (.s (.s .o (.cl (.s .o .o) .o)) (.s .o (.s .o (.s .o (.s .o (.s .o (.s .o (.s .o (.s (.s .o (.cl (.s .o .o) .o)) (.s .o (.s .o (.s .o (.s .o (.s .o (.s .o (.s .o (.s .o (.s .o (.s .o (.s (.s .o (.cl (.s .o .o) .o)) (.s .o .o))))))))))))))))))))))
def q3z (D : Dyn) (n : Nat) := (⟨_, by conv => rhs; reduce⟩ : {g // g = fun vs H => funS (s3z D n) D n 3 Tryz.f3 h3z [] vs H}).1
def F3z (D : Dyn) (n : Nat) : {g // g = q3z D n} := ⟨_, by conv => rhs; delta q3z; dsimp only; try simp only [FPs]⟩
def f3z (D : Dyn) (n : Nat) := (F3z D n).1
theorem f3z_eq (D : Dyn) (n : Nat) : f3z D n = funKp (s3z D n) D n 3 Tryz.f3 (ms h3z) := (F3z D n).2.trans (by kernel_rfl)
theorem f3z_ok {D : Dyn} (hD : DP D) (n : Nat) : FP 3 (f3z D n) := fun_okP X_ok hD (SP.cons (z4_ok hD n) (SP.cons (f5_ok hD n) (SP.cons (f6_ok hD n) (SP.cons (f7_ok hD n) (SP.cons (f8_ok hD n) (SP.cons (f9_ok hD n) (SP.cons (f10_ok hD n) (SP.cons (f11_ok hD n) (SP.cons (f12_ok hD n) (SP.cons (f13_ok hD n) (SP.cons (f14_ok hD n) (SP.cons (z15_ok hD n) (SP.cons (z16_ok hD n) (SP.cons (z17_ok hD n) (SP.cons (z18_ok hD n) (SP.cons (z19_ok hD n) (SP.nil))))))))))))))))) Tryz.func3 (by kernel_rfl) (by kernel_rfl) (f3z_eq D n)
attribute [local irreducible] f3z
end Go.Eng.Sh
